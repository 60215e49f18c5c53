import Derived.Test.YtfnmkhlleanppaaGreatDoorJWF46
namespace Wx
open Go Go.RowKit Go.Proofs
set_option linter.unusedVariables false
variable {a b:Value}
theorem DK:∀w v,aL (.tuple #[a,b]) w v->∃vs u,v=.tuple vs/\vs[0]?=some u/\aL a w u:=λ_ _ h=>⟨_,a,h,rfl,rfl⟩
theorem DL:∀w v,aL (.tuple #[a,b]) w v->∃vs u,v=.tuple vs/\vs[1]?=some u/\aL b w u:=λ_ _ h=>⟨_,b,h,rfl,rfl⟩
def qA (_:Nat):ByteArray->Bool:=iH
abbrev Eo:Pred:=cO (az 1 false 0 λk=>sI Tryz.prog (nD Tryz.prog (qA k))) (aL .nilFunc)
theorem Gl:∀w v,cS (aL (.agg #[.slice none 0 0,.nilFunc])) (pB false) w v->cS Eo (pB false) w v:=by
 rintro w v ⟨u0,u1,rfl,rfl,e1⟩
 exact⟨_,u1,rfl,⟨[.slice none 0 0,.nilFunc],rfl,by simp,⟨none,0,rfl,Nat.le_refl _,Nat.zero_le _,λh=>absurd h (Nat.lt_irrefl _)⟩,by simp,rfl,rfl⟩,e1⟩
theorem rZ:Fits 1 false (aL .nilFunc):=aZ oC rfl rfl
theorem CS {p2:Pred}:∀w v,cS (cO (az 1 false 1 λk=>[aD].getD k ay) p2) (pB true) w v->cS (cO (az 1 false 1 λk=>sI Tryz.prog (nD Tryz.prog (qA k))) p2) (pB true) w v:=by
 rintro w v ⟨u0,u1,rfl,⟨cs,e,h1,h2,h3⟩,e1⟩
 exact⟨u0,u1,rfl,⟨cs,e,h1,zK _ _ h2,h3⟩,e1⟩
end Wx

namespace Wx
set_option maxRecDepth 100000
set_option maxHeartbeats 1000000
open Go Go.RowKit Go.Proofs
set_option linter.unusedVariables false
attribute [local irreducible] OpOk
variable {l:HL} {H:List Bk} {s:ByteArray} {e:Int} {C:HL->Prop} {Hl:HL->List Bk}
theorem kf (hc:s.size<=200/\2<=(ak s).length) (hq:di ((ak s).getD 0 ⟨#[]⟩) jk=none) (eR:L2 Tryz.prog 23 H (aL (.pointer (some ⟨l.hb,0,none⟩))) (pT s) C (λ_=>.returned (.int .i64 e)) Hl):L2 Tryz.prog 55 (H) (aL (.pointer (some ⟨l.hb,0,none⟩))) (pT s) (C) (λ_=>.returned (.tuple #[.string ⟨#[111,107]⟩,.int .i64 e])) (Hl):=by
 intro M B w0 v0 v1 hM jc hH jB hv0 dc
 have hG:aN (λk o=>M k o\/B k) jz w0:=jB
 have tq:kW (H):=hH.2.1
 have hsz:s.size<=1000000:=by omega
 have hlen:0<(ak s).length:=by rw[cx]; omega
 refine qw (N:=45) Tryz.func55 rfl rfl rfl hM jc hH hv0 dc λa hI=>?_
 refine cD hI 2 [] [] [Uc 0 4 _,Uc 1 5 _] (.k .z) (.kk .z) ⟨mv,mv,trivial⟩ (.k .z) (.ae .z) λa w hI=>?_
 refine ah ?_
 refine cD hI 2 [] [] [Uc 0 9 _,Uc 1 10 _] (.k .z) (.ae .z) ⟨mv,rN false,trivial⟩ (.k .z) (.ae (.dk .z)) λa w hI=>?_
 refine nx hI (rfl) ?_
 refine av ?_
 refine af ?_
 refine cD hI 3 [] [] [Uc 0 11 _,Uc 1 12 _,Uc 2 6 _] (.k .z) (.ae (.k .z)) ⟨mv,zC hG (iK (s:=s)) (hφ:=hsz),mv,trivial⟩ (.k .z) (.ae (.bV .z)) λa w hI=>?_
 refine ah ?_
 refine vV hI [0,0,2,6,15,31,63,63,0,383,1023] [⟨7,7,some 8,none,.ptr,151,2,true,pv _,[(9,pv _)]⟩] [] [Uc 0 14 _,Uc 1 15 _,Uc 2 16 _,Uc 3 17 _,Uc 4 18 _,Uc 5 13 _,Uc 6 19 _,Uc 7 20 _,Uc 10 8 _] (.k .z) (.ae (.k .z)) ⟨BN js (hφ:=trivial),mv,bh 0 hs hs rfl (pt rfl) hlen (by kernel_rfl) (by kernel_rfl),aH hs (pt rfl) (by kernel_rfl) (aT _),Gj 9 151 (.agg #[.slice none 0 0,.nilFunc]) hq (hp:=Post.down (pt rfl) Gl),mv,ext,ext,C3 [.slice none 0 0,.nilFunc] jL,iN rfl rfl hs rfl rfl (cP (by kernel_rfl)) (iC aJ rZ) (by kernel_rfl),mv,trivial⟩ (.k (.s .o .z)) (.ae (.eF (.bN (.dk .z)))) λa w hI=>?_
 have hI:=gZ hI 1 rfl (by kernel_rfl)
 dsimp only[List.eraseIdx]at hI
 refine vV hI [0,1,3,7,15,31,63,127,255,127,639,2047,4095] [] [] [Uc 0 21 _,Uc 1 22 _,Uc 2 23 _,Uc 3 24 _,Uc 4 25 _,Uc 5 26 _,Uc 6 27 _,Uc 7 28 _,Uc 8 29 _,Uc 9 30 _,Uc 10 31 _,Uc 11 32 _,Uc 12 33 _] (.k .z) (.ae (.aP .z)) ⟨mv,mv,gd λh=>er h,gd λh=>oz (h:=hg) (hp:=pg h rfl),gd λh=>lM h,pk,mv,gd λh=>er h,gd λh=>A7 1 (h:=hg) (hp:=pg h rfl),gd λh=>fP 0 1 false (h:=hg) (hp:=pg h rfl),gd λh=>aH hg (pg h rfl) (by kernel_rfl) aJ,gd λh=>pU h (mU (g:=kY s) (φ:=qA)) (hφ:=⟨by have:=fq hsz; omega,by omega,λk _=>iW hsz⟩),pk,trivial⟩ (.k .z) (.ae (.cg (.d8 (.bV .z)))) λa w hI=>?_
 refine nx hI ((rfl:((false&&decide ((s.size:Int)<=200))&&eH ((ak s).length-1) 0 (kY s) qA)=false)) ?_
 refine av ?_
 refine af ?_
 refine jn hI 5 2 [] [] [Uc 0 42 _,Uc 1 43 _] (.k .z) (.ae (.aP .z)) ⟨mv,mv,trivial⟩ (.k .z) (.bN (.bV (.k .z))) (⟨_,zD hG eR,⟨_,nA λl1 po=>bj [] [] [Uc 0 4 _] (.k .z) (.aP .z) (mv) (.k .z) (.gT .z),⟨_,nA λl1 po=>bj [] [] [Uc 0 5 _] (.k .z) (.kk .z) (mv) (.k .z) (.td .z),rfl⟩⟩⟩) λa w hI=>?_
 obtain⟨l1,po,hI⟩:=hI
 refine aA ?_
 exact yl (n0:=0) l1 po hI rfl rfl cC cC rfl
theorem sw {q:Nat} {x:fW} {cs:List ByteArray} (hl:fC l [x] cs) (hc:s.size<=200/\2<=(ak s).length) (hq:di ((ak s).getD 0 ⟨#[]⟩) jk=some (cO (az 1 false 1 λk=>[aD].getD k ay) (aL (.func (.func 125) #[] #[])))) (Ee:eH ((ak s).length-1) 1 (kY s) qA=true/\gR (λk=>[x].getD k fg) 1 (kY s 0)=0/\(0<=x.2.1/\x.2.1<100)):L2 Tryz.prog 55 (aY q l [x] cs) (aL (.pointer (some ⟨l.hb,0,none⟩))) (pT s) (λl':HL=>l'=l) (λ_=>.returned (.tuple #[.string (Cs x.2.1),.int .i64 0])) (λl'=>aY q l' [x] cs):=by
 intro M B w0 v0 v1 hM jc hH jB hv0 dc
 have hG:aN (λk o=>M k o\/B k) jz w0:=jB
 have tq:kW (aY q l [x] cs):=hH.2.1
 have hsz:s.size<=1000000:=by omega
 have hlen:0<(ak s).length:=by rw[cx]; omega
 have DW:((true&&decide ((s.size:Int)<=200))&&eH ((ak s).length-1) 1 (kY s) qA)=true:=by rw[Ee.1,decide_eq_true (by omega)]; rfl
 refine qw (N:=45) Tryz.func55 rfl rfl rfl hM jc hH hv0 dc λa hI=>?_
 refine cD hI 2 [] [] [Uc 0 4 _,Uc 1 5 _] (.k .z) (.kk .z) ⟨mv,mv,trivial⟩ (.k .z) (.ae .z) λa w hI=>?_
 refine ah ?_
 refine cD hI 2 [] [] [Uc 0 9 _,Uc 1 10 _] (.k .z) (.ae .z) ⟨mv,rN false,trivial⟩ (.k .z) (.ae (.dk .z)) λa w hI=>?_
 refine nx hI (rfl) ?_
 refine av ?_
 refine af ?_
 refine cD hI 3 [] [] [Uc 0 11 _,Uc 1 12 _,Uc 2 6 _] (.k .z) (.ae (.k .z)) ⟨mv,zC hG (iK (s:=s)) (hφ:=hsz),mv,trivial⟩ (.k .z) (.ae (.bV .z)) λa w hI=>?_
 refine ah ?_
 refine vV hI [0,0,2,6,15,31,63,63,0,383,1023] [⟨7,7,some 8,none,.ptr,151,2,true,pv _,[(9,pv _)]⟩] [] [Uc 0 14 _,Uc 1 15 _,Uc 2 16 _,Uc 3 17 _,Uc 4 18 _,Uc 5 13 _,Uc 6 19 _,Uc 7 20 _,Uc 10 8 _] (.k .z) (.ae (.k .z)) ⟨BN js (hφ:=trivial),mv,bh 0 hs hs rfl (pt rfl) hlen (by kernel_rfl) (by kernel_rfl),aH hs (pt rfl) (by kernel_rfl) (aT _),Em 9 151 (.agg #[.slice none 0 0,.nilFunc]) hq (hp:=Post.down (pt rfl) CS),mv,ext,ext,C3 [.slice none 0 0,.nilFunc] jL,iN rfl rfl hs rfl rfl (cP (by kernel_rfl)) (iC aJ (bf _)) (by kernel_rfl),mv,trivial⟩ (.k (.s .o .z)) (.ae (.eF (.bN (.dk .z)))) λa w hI=>?_
 have hI:=gZ hI 1 rfl (by kernel_rfl)
 dsimp only[List.eraseIdx]at hI
 refine vV hI [0,1,3,7,15,31,63,127,255,127,639,2047,4095] [] [] [Uc 0 21 _,Uc 1 22 _,Uc 2 23 _,Uc 3 24 _,Uc 4 25 _,Uc 5 26 _,Uc 6 27 _,Uc 7 28 _,Uc 8 29 _,Uc 9 30 _,Uc 10 31 _,Uc 11 32 _,Uc 12 33 _] (.k .z) (.ae (.aP .z)) ⟨mv,mv,gd λh=>er h,gd λh=>oz (h:=hg) (hp:=pg h rfl),gd λh=>lM h,pk,mv,gd λh=>er h,gd λh=>A7 1 (h:=hg) (hp:=pg h rfl),gd λh=>fP 0 1 false (h:=hg) (hp:=pg h rfl),gd λh=>aH hg (pg h rfl) (by kernel_rfl) aJ,gd λh=>pU h (mU (g:=kY s) (φ:=qA)) (hφ:=⟨by have:=fq hsz; omega,by omega,λk _=>iW hsz⟩),pk,trivial⟩ (.k .z) (.ae (.cg (.d8 (.bV .z)))) λa w hI=>?_
 refine EI hI (DW) ?_
 refine vV hI [0,1,0,0,8,31,63,63,255,511] [] [] [Uc 0 34 _,Uc 1 35 _,Uc 2 36 _,Uc 3 37 _,Uc 4 38 _,Uc 5 39 _,Uc 6 40 _,Uc 7 41 _,Uc 8 4 _,Uc 9 5 _] (.k .z) (.aP (.t 8 (.t 9 (.kk .z)))) ⟨fP 1 1 false,aH hs (pt rfl) (by kernel_rfl) (bf _),mv,mv,A7 1,DA 45 (Ar (l:=l) (x:=x) (n:=(ak s).length-1) (g:=kY s) ⟨Ee.2.1,Ee.2.2,by omega⟩) (λB w u h hu=>gJ hl (by show 1<=1; omega) h hu) (mZ (br _) (br _)),ext,ext,mv,mv,trivial⟩ (.k .z) (.mJ (.d8 (.bV (.k .z)))) λa w hI=>?_
 refine aA ?_
 refine aE ?_
 exact yl (n0:=0) l rfl hI rfl rfl cC cC rfl
theorem iJ {t:ByteArray} (he:0<=e/\e<=9) (eR:L2 Tryz.prog 55 H (aL (.pointer (some ⟨l.hb,0,none⟩))) (pT s) C (λ_=>.returned (.tuple #[.string t,.int .i64 e])) Hl):L2 Tryz.prog 24 (H) (aL (.pointer (some ⟨l.hb,0,none⟩))) (pT s) (C) (λ_=>.returned (.string (me t e))) (Hl):=by
 intro M B w0 v0 v1 hM jc hH jB hv0 dc
 have hG:aN (λk o=>M k o\/B k) jz w0:=jB
 have tq:kW (H):=hH.2.1
 refine qw (N:=11) Tryz.func24 rfl rfl rfl hM jc hH hv0 dc λa hI=>?_
 refine cD hI 1 [] [] [Uc 0 4 _] (.k .z) (.kk .z) ⟨mv,trivial⟩ (.k .z) (.aP .z) λa w hI=>?_
 refine jn hI 7 2 [] [] [Uc 0 5 _,Uc 1 6 _] (.k .z) (.aP .z) ⟨mv,mv,trivial⟩ (.k .z) (.bV (.k .z)) (⟨_,zD hG eR,⟨_,nA λl1 po=>bj [] [] [Uc 0 8 _] (.k .z) (.aP .z) (cU hs DK (pt rfl)) (.k .z) (.gT .z),⟨_,nA λl1 po=>bj [] [] [Uc 0 9 _] (.k .z) (.kk .z) (cU hs DL (pt rfl)) (.k .z) (.td .z),⟨_,nA λl1 po=>bj [] [] [Uc 0 10 _] (.k .z) (.kk .z) (mH (Av (s:=t) (e:=e)) (hφ:=he)) (.k .z) (.fh .z),⟨_,nA λl1 po=>bj [] [] [Uc 0 4 _] (.k .z) (.k .z) (mv) (.k .z) (.dk .z),rfl⟩⟩⟩⟩⟩) λa w hI=>?_
 obtain⟨l1,po,hI⟩:=hI
 refine aA ?_
 exact B3 (n0:=0) l1 po hI rfl rfl cC rfl
end Wx
