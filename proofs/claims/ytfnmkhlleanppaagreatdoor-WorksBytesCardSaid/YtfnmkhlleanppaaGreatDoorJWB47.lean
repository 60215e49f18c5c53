import Derived.Test.YtfnmkhlleanppaaGreatDoorJWB46
namespace Wx
open Go Go.RowKit Go.Proofs
set_option linter.unusedVariables false
variable {a b:Value}
theorem DO:∀w v,aJ (.tuple #[a,b]) w v->∃vs u,v=.tuple vs/\vs[0]?=some u/\aJ a w u:=λ_ _ h=>⟨_,a,h,rfl,rfl⟩
theorem DR:∀w v,aJ (.tuple #[a,b]) w v->∃vs u,v=.tuple vs/\vs[1]?=some u/\aJ b w u:=λ_ _ h=>⟨_,b,h,rfl,rfl⟩
def qG (_:Nat):ByteArray->Bool:=iI
abbrev Et:Pred:=cP (ax 1 false 0 λk=>sW Tryz.prog (nN Tryz.prog (qG k))) (aJ .nilFunc)
theorem Gv:∀w v,dB (aJ (.agg #[.slice none 0 0,.nilFunc])) (pB false) w v->dB Et (pB false) w v:=by
 rintro w v ⟨u0,u1,rfl,rfl,e1⟩
 exact⟨_,u1,rfl,⟨[.slice none 0 0,.nilFunc],rfl,by simp,⟨none,0,rfl,Nat.le_refl _,Nat.zero_le _,λh=>absurd h (Nat.lt_irrefl _)⟩,by simp,rfl,rfl⟩,e1⟩
theorem sy:Fits 1 false (aJ .nilFunc):=aX oM rfl rfl
theorem CY {p2:Pred}:∀w v,dB (cP (ax 1 false 1 λk=>[aC].getD k az) p2) (pB true) w v->dB (cP (ax 1 false 1 λk=>sW Tryz.prog (nN Tryz.prog (qG k))) p2) (pB true) w v:=by
 rintro w v ⟨u0,u1,rfl,⟨cs,e,h1,h2,h3⟩,e1⟩
 exact⟨u0,u1,rfl,⟨cs,e,h1,zN _ _ h2,h3⟩,e1⟩
end Wx

namespace Wx
set_option maxRecDepth 100000
set_option maxHeartbeats 1000000
open Go Go.RowKit Go.Proofs
set_option linter.unusedVariables false
attribute [local irreducible] OpOk
variable {l:HL} {H:List Bk} {s:ByteArray} {e:Int} {C:HL->Prop} {Hl:HL->List Bk}
theorem kq (hc:s.size<=200/\2<=(aD s).length) (hq:dy ((aD s).getD 0 ⟨#[]⟩) jq=none) (eZ:L2 Tryz.prog 23 H (aJ (.pointer (some ⟨l.hb,0,none⟩))) (pT s) C (λ_=>.returned (.int .i64 e)) Hl):L2 Tryz.prog 55 (H) (aJ (.pointer (some ⟨l.hb,0,none⟩))) (pT s) (C) (λ_=>.returned (.tuple #[.string ⟨#[111,107]⟩,.int .i64 e])) (Hl):=by
 intro M B w0 v0 v1 hM jg hH jI hv0 dH
 have hG:aK (λk o=>M k o\/B k) jG w0:=jI
 have tI:lg (H):=hH.2.1
 have hsz:s.size<=1000000:=by omega
 have hlen:0<(aD s).length:=by rw[cG]; omega
 refine qC (N:=45) Tryz.func55 rfl rfl rfl hM jg hH hv0 dH λa hI=>?_
 refine cQ hI 2 [] [] [Uc 0 4 _,Uc 1 5 _] (.k .z) (.kk .z) ⟨mv,mv,trivial⟩ (.k .z) (.ae .z) λa w hI=>?_
 refine ai ?_
 refine cQ hI 2 [] [] [Uc 0 9 _,Uc 1 10 _] (.k .z) (.ae .z) ⟨mv,rW false,trivial⟩ (.k .z) (.ae (.dk .z)) λa w hI=>?_
 refine mB hI (rfl) ?_
 refine av ?_
 refine af ?_
 refine cQ hI 3 [] [] [Uc 0 11 _,Uc 1 12 _,Uc 2 6 _] (.k .z) (.ae (.k .z)) ⟨mv,zE hG (iL (s:=s)) (hφ:=hsz),mv,trivial⟩ (.k .z) (.ae (.cx .z)) λa w hI=>?_
 refine ai ?_
 refine yb hI [0,0,2,6,15,31,63,63,0,383,1023] [⟨7,7,some 8,none,.ptr,151,2,true,pv _,[(9,pv _)]⟩] [] [Uc 0 14 _,Uc 1 15 _,Uc 2 16 _,Uc 3 17 _,Uc 4 18 _,Uc 5 13 _,Uc 6 19 _,Uc 7 20 _,Uc 10 8 _] (.k .z) (.ae (.k .z)) ⟨BR jy (hφ:=trivial),mv,aZ 0 hs hs rfl (pt rfl) hlen (by kernel_rfl) (by kernel_rfl),aE hs (pt rfl) (by kernel_rfl) (aW _),Gt 9 151 (.agg #[.slice none 0 0,.nilFunc]) hq (hp:=Post.down (pt rfl) Gv),mv,ext,ext,C8 [.slice none 0 0,.nilFunc] jP,iO rfl rfl hs rfl rfl (cH (by kernel_rfl)) (iD aH sy) (by kernel_rfl),mv,trivial⟩ (.k (.s .o .z)) (.ae (.fg (.bR (.dk .z)))) λa w hI=>?_
 have hI:=ic hI 1 rfl (by kernel_rfl)
 dsimp only[List.eraseIdx]at hI
 refine yb hI [0,1,3,7,15,31,63,127,255,127,639,2047,4095] [] [] [Uc 0 21 _,Uc 1 22 _,Uc 2 23 _,Uc 3 24 _,Uc 4 25 _,Uc 5 26 _,Uc 6 27 _,Uc 7 28 _,Uc 8 29 _,Uc 9 30 _,Uc 10 31 _,Uc 11 32 _,Uc 12 33 _] (.k .z) (.ae (.aR .z)) ⟨mv,mv,gd λh=>gr h,gd λh=>sN (h:=hg) (hp:=pg h rfl),gd λh=>nJ h,pk,mv,gd λh=>gr h,gd λh=>A9 1 (h:=hg) (hp:=pg h rfl),gd λh=>fP 0 1 false (h:=hg) (hp:=pg h rfl),gd λh=>aE hg (pg h rfl) (by kernel_rfl) aH,gd λh=>sC h (nj (g:=lp s) (φ:=qG)) (hφ:=⟨by have:=fC hsz; omega,by omega,λk _=>iX hsz⟩),pk,trivial⟩ (.k .z) (.ae (.cj (.d8 (.cx .z)))) λa w hI=>?_
 refine mB hI ((rfl:((false&&decide ((s.size:Int)<=200))&&eR ((aD s).length-1) 0 (lp s) qG)=false)) ?_
 refine av ?_
 refine af ?_
 refine lM hI 5 2 [] [] [Uc 0 42 _,Uc 1 43 _] (.k .z) (.ae (.aR .z)) ⟨mv,mv,trivial⟩ (.k .z) (.bR (.cx (.k .z))) (⟨_,zF hG eZ,⟨_,nI λl1 pJ=>bh [] [] [Uc 0 4 _] (.k .z) (.aR .z) (mv) (.k .z) (.jK .z),⟨_,nI λl1 pJ=>bh [] [] [Uc 0 5 _] (.k .z) (.kk .z) (mv) (.k .z) (.tC .z),rfl⟩⟩⟩) λa w hI=>?_
 obtain⟨l1,pJ,hI⟩:=hI
 refine ay ?_
 exact yw (n0:=0) l1 pJ hI rfl rfl cU cU rfl
theorem sK {q:Nat} {x:fZ} {cs:List ByteArray} (hl:fG l [x] cs) (hc:s.size<=200/\2<=(aD s).length) (hq:dy ((aD s).getD 0 ⟨#[]⟩) jq=some (cP (ax 1 false 1 λk=>[aC].getD k az) (aJ (.func (.func 125) #[] #[])))) (Ei:eR ((aD s).length-1) 1 (lp s) qG=true/\gV (λk=>[x].getD k fl) 1 (lp s 0)=0/\(0<=x.2.1/\x.2.1<100)):L2 Tryz.prog 55 (aV q l [x] cs) (aJ (.pointer (some ⟨l.hb,0,none⟩))) (pT s) (λl':HL=>l'=l) (λ_=>.returned (.tuple #[.string (Cy x.2.1),.int .i64 0])) (λl'=>aV q l' [x] cs):=by
 intro M B w0 v0 v1 hM jg hH jI hv0 dH
 have hG:aK (λk o=>M k o\/B k) jG w0:=jI
 have tI:lg (aV q l [x] cs):=hH.2.1
 have hsz:s.size<=1000000:=by omega
 have hlen:0<(aD s).length:=by rw[cG]; omega
 have D2:((true&&decide ((s.size:Int)<=200))&&eR ((aD s).length-1) 1 (lp s) qG)=true:=by rw[Ei.1,decide_eq_true (by omega)]; rfl
 refine qC (N:=45) Tryz.func55 rfl rfl rfl hM jg hH hv0 dH λa hI=>?_
 refine cQ hI 2 [] [] [Uc 0 4 _,Uc 1 5 _] (.k .z) (.kk .z) ⟨mv,mv,trivial⟩ (.k .z) (.ae .z) λa w hI=>?_
 refine ai ?_
 refine cQ hI 2 [] [] [Uc 0 9 _,Uc 1 10 _] (.k .z) (.ae .z) ⟨mv,rW false,trivial⟩ (.k .z) (.ae (.dk .z)) λa w hI=>?_
 refine mB hI (rfl) ?_
 refine av ?_
 refine af ?_
 refine cQ hI 3 [] [] [Uc 0 11 _,Uc 1 12 _,Uc 2 6 _] (.k .z) (.ae (.k .z)) ⟨mv,zE hG (iL (s:=s)) (hφ:=hsz),mv,trivial⟩ (.k .z) (.ae (.cx .z)) λa w hI=>?_
 refine ai ?_
 refine yb hI [0,0,2,6,15,31,63,63,0,383,1023] [⟨7,7,some 8,none,.ptr,151,2,true,pv _,[(9,pv _)]⟩] [] [Uc 0 14 _,Uc 1 15 _,Uc 2 16 _,Uc 3 17 _,Uc 4 18 _,Uc 5 13 _,Uc 6 19 _,Uc 7 20 _,Uc 10 8 _] (.k .z) (.ae (.k .z)) ⟨BR jy (hφ:=trivial),mv,aZ 0 hs hs rfl (pt rfl) hlen (by kernel_rfl) (by kernel_rfl),aE hs (pt rfl) (by kernel_rfl) (aW _),Ep 9 151 (.agg #[.slice none 0 0,.nilFunc]) hq (hp:=Post.down (pt rfl) CY),mv,ext,ext,C8 [.slice none 0 0,.nilFunc] jP,iO rfl rfl hs rfl rfl (cH (by kernel_rfl)) (iD aH (aY _)) (by kernel_rfl),mv,trivial⟩ (.k (.s .o .z)) (.ae (.fg (.bR (.dk .z)))) λa w hI=>?_
 have hI:=ic hI 1 rfl (by kernel_rfl)
 dsimp only[List.eraseIdx]at hI
 refine yb hI [0,1,3,7,15,31,63,127,255,127,639,2047,4095] [] [] [Uc 0 21 _,Uc 1 22 _,Uc 2 23 _,Uc 3 24 _,Uc 4 25 _,Uc 5 26 _,Uc 6 27 _,Uc 7 28 _,Uc 8 29 _,Uc 9 30 _,Uc 10 31 _,Uc 11 32 _,Uc 12 33 _] (.k .z) (.ae (.aR .z)) ⟨mv,mv,gd λh=>gr h,gd λh=>sN (h:=hg) (hp:=pg h rfl),gd λh=>nJ h,pk,mv,gd λh=>gr h,gd λh=>A9 1 (h:=hg) (hp:=pg h rfl),gd λh=>fP 0 1 false (h:=hg) (hp:=pg h rfl),gd λh=>aE hg (pg h rfl) (by kernel_rfl) aH,gd λh=>sC h (nj (g:=lp s) (φ:=qG)) (hφ:=⟨by have:=fC hsz; omega,by omega,λk _=>iX hsz⟩),pk,trivial⟩ (.k .z) (.ae (.cj (.d8 (.cx .z)))) λa w hI=>?_
 refine EH hI (D2) ?_
 refine yb hI [0,1,0,0,8,31,63,63,255,511] [] [] [Uc 0 34 _,Uc 1 35 _,Uc 2 36 _,Uc 3 37 _,Uc 4 38 _,Uc 5 39 _,Uc 6 40 _,Uc 7 41 _,Uc 8 4 _,Uc 9 5 _] (.k .z) (.aR (.t 8 (.t 9 (.kk .z)))) ⟨fP 1 1 false,aE hs (pt rfl) (by kernel_rfl) (aY _),mv,mv,A9 1,DC 45 (Av (l:=l) (x:=x) (n:=(aD s).length-1) (g:=lp s) ⟨Ei.2.1,Ei.2.2,by omega⟩) (λB w u h hu=>gM hl (by show 1<=1; omega) h hu) (nx (bj _) (bj _)),ext,ext,mv,mv,trivial⟩ (.k .z) (.mQ (.d8 (.cx (.k .z)))) λa w hI=>?_
 refine ay ?_
 refine aB ?_
 exact yw (n0:=0) l rfl hI rfl rfl cU cU rfl
theorem iK {t:ByteArray} (he:0<=e/\e<=9) (eZ:L2 Tryz.prog 55 H (aJ (.pointer (some ⟨l.hb,0,none⟩))) (pT s) C (λ_=>.returned (.tuple #[.string t,.int .i64 e])) Hl):L2 Tryz.prog 24 (H) (aJ (.pointer (some ⟨l.hb,0,none⟩))) (pT s) (C) (λ_=>.returned (.string (mq t e))) (Hl):=by
 intro M B w0 v0 v1 hM jg hH jI hv0 dH
 have hG:aK (λk o=>M k o\/B k) jG w0:=jI
 have tI:lg (H):=hH.2.1
 refine qC (N:=11) Tryz.func24 rfl rfl rfl hM jg hH hv0 dH λa hI=>?_
 refine cQ hI 1 [] [] [Uc 0 4 _] (.k .z) (.kk .z) ⟨mv,trivial⟩ (.k .z) (.aR .z) λa w hI=>?_
 refine lM hI 7 2 [] [] [Uc 0 5 _,Uc 1 6 _] (.k .z) (.aR .z) ⟨mv,mv,trivial⟩ (.k .z) (.cx (.k .z)) (⟨_,zF hG eZ,⟨_,nI λl1 pJ=>bh [] [] [Uc 0 8 _] (.k .z) (.aR .z) (cY hs DO (pt rfl)) (.k .z) (.jK .z),⟨_,nI λl1 pJ=>bh [] [] [Uc 0 9 _] (.k .z) (.kk .z) (cY hs DR (pt rfl)) (.k .z) (.tC .z),⟨_,nI λl1 pJ=>bh [] [] [Uc 0 10 _] (.k .z) (.kk .z) (mN (Az (s:=t) (e:=e)) (hφ:=he)) (.k .z) (.fJ .z),⟨_,nI λl1 pJ=>bh [] [] [Uc 0 4 _] (.k .z) (.k .z) (mv) (.k .z) (.dk .z),rfl⟩⟩⟩⟩⟩) λa w hI=>?_
 obtain⟨l1,pJ,hI⟩:=hI
 refine ay ?_
 exact B6 (n0:=0) l1 pJ hI rfl rfl cU rfl
end Wx
