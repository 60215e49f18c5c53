import Derived.Test.YtfnmkhlleanppaaGreatDoorJWN46
namespace Wx
open Go Go.RowKit Go.Proofs
set_option linter.unusedVariables false
variable {a b:Value}
theorem BD:∀w v,aE (.tuple #[a,b]) w v->∃vs u,v=.tuple vs/\vs[0]?=some u/\aE a w u:=λ_ _ h=>⟨_,a,h,rfl,rfl⟩
theorem BF:∀w v,aE (.tuple #[a,b]) w v->∃vs u,v=.tuple vs/\vs[1]?=some u/\aE b w u:=λ_ _ h=>⟨_,b,h,rfl,rfl⟩
def oI (_:Nat):ByteArray->Bool:=gH
abbrev Co:Pred:=cw (aK 1 false 0 λk=>qy Tryz.prog (lV Tryz.prog (oI k))) (aE .nilFunc)
theorem Ec:∀w v,cG (aE (.agg #[.slice none 0 0,.nilFunc])) (pB false) w v->cG Co (pB false) w v:=by
 rintro w v ⟨u0,u1,rfl,rfl,e1⟩
 exact⟨_,u1,rfl,⟨[.slice none 0 0,.nilFunc],rfl,by simp,⟨none,0,rfl,Nat.le_refl _,Nat.zero_le _,λh=>absurd h (Nat.lt_irrefl _)⟩,by simp,rfl,rfl⟩,e1⟩
theorem qb:Fits 1 false (aE .nilFunc):=bG mP rfl rfl
theorem AI {p2:Pred}:∀w v,cG (cw (aK 1 false 1 λk=>[az].getD k aG) p2) (pB true) w v->cG (cw (aK 1 false 1 λk=>qy Tryz.prog (lV Tryz.prog (oI k))) p2) (pB true) w v:=by
 rintro w v ⟨u0,u1,rfl,⟨cs,e,h1,h2,h3⟩,e1⟩
 exact⟨u0,u1,rfl,⟨cs,e,h1,xg _ _ h2,h3⟩,e1⟩
end Wx

namespace Wx
set_option maxRecDepth 100000
set_option maxHeartbeats 1000000
open Go Go.RowKit Go.Proofs
set_option linter.unusedVariables false
attribute [local irreducible] OpOk
variable {l:HL} {H:List Bk} {s:ByteArray} {e:Int} {C:HL->Prop} {Hl:HL->List Bk}
theorem jg (hc:s.size<=200/\2<=(aA s).length) (hq:cM ((aA s).getD 0 ⟨#[]⟩) iz=none) (dS:L2 Tryz.prog 23 H (aE (.pointer (some ⟨l.hb,0,none⟩))) (pT s) C (λ_=>.returned (.int .i64 e)) Hl):L2 Tryz.prog 55 (H) (aE (.pointer (some ⟨l.hb,0,none⟩))) (pT s) (C) (λ_=>.returned (.tuple #[.string ⟨#[111,107]⟩,.int .i64 e])) (Hl):=by
 intro M B w0 v0 v1 hM ik hH iJ hv0 ck
 have hG:aL (λk o=>M k o\/B k) iM w0:=iJ
 have qU:jF (H):=hH.2.1
 have hsz:s.size<=1000000:=by omega
 have hlen:0<(aA s).length:=by rw[cE]; omega
 refine oD (N:=45) Tryz.func55 rfl rfl rfl hM ik hH hv0 ck λa hI=>?_
 refine da hI 2 [] [] [Uc 0 4 _,Uc 1 5 _] (.k .z) (.kk .z) ⟨mv,mv,trivial⟩ (.k .z) (.af .z) λa w hI=>?_
 refine aq ?_
 refine da hI 2 [] [] [Uc 0 9 _,Uc 1 10 _] (.k .z) (.af .z) ⟨mv,eL false,trivial⟩ (.k .z) (.af (.dk .z)) λa w hI=>?_
 refine lO hI (rfl) ?_
 refine aN ?_
 refine au ?_
 refine da hI 3 [] [] [Uc 0 11 _,Uc 1 12 _,Uc 2 6 _] (.k .z) (.af (.k .z)) ⟨mv,wU hG (gK (s:=s)) (hφ:=hsz),mv,trivial⟩ (.k .z) (.af (.ct .z)) λa w hI=>?_
 refine aq ?_
 refine vq hI [0,0,2,6,15,31,63,63,0,383,1023] [⟨7,7,some 8,none,.ptr,151,2,true,pv _,[(9,pv _)]⟩] [] [Uc 0 14 _,Uc 1 15 _,Uc 2 16 _,Uc 3 17 _,Uc 4 18 _,Uc 5 13 _,Uc 6 19 _,Uc 7 20 _,Uc 10 8 _] (.k .z) (.af (.k .z)) ⟨zm iD (hφ:=trivial),mv,aV 0 hs hs rfl (pt rfl) hlen (by kernel_rfl) (by kernel_rfl),aI hs (pt rfl) (by kernel_rfl) (bh _),Ea 9 151 (.agg #[.slice none 0 0,.nilFunc]) hq (hp:=Post.down (pt rfl) Ec),mv,ext,ext,AX [.slice none 0 0,.nilFunc] iQ,gN rfl rfl hs rfl rfl (cn (by kernel_rfl)) (gD aC qb) (by kernel_rfl),mv,trivial⟩ (.k (.s .o .z)) (.af (.jO (.bY (.dk .z)))) λa w hI=>?_
 have hI:=gb hI 1 rfl (by kernel_rfl)
 dsimp only[List.eraseIdx]at hI
 refine vq hI [0,1,3,7,15,31,63,127,255,127,639,2047,4095] [] [] [Uc 0 21 _,Uc 1 22 _,Uc 2 23 _,Uc 3 24 _,Uc 4 25 _,Uc 5 26 _,Uc 6 27 _,Uc 7 28 _,Uc 8 29 _,Uc 9 30 _,Uc 10 31 _,Uc 11 32 _,Uc 12 33 _] (.k .z) (.af (.aU .z)) ⟨mv,mv,gd λh=>fu h,gd λh=>xT (h:=hg) (hp:=pg h rfl),gd λh=>lS h,pk,mv,gd λh=>fu h,gd λh=>yF 1 (h:=hg) (hp:=pg h rfl),gd λh=>fP 0 1 false (h:=hg) (hp:=pg h rfl),gd λh=>aI hg (pg h rfl) (by kernel_rfl) aC,gd λh=>nR h (lp (g:=jG s) (φ:=oI)) (hφ:=⟨by have:=eu hsz; omega,by omega,λk _=>gZ hsz⟩),pk,trivial⟩ (.k .z) (.af (.bJ (.d8 (.ct .z)))) λa w hI=>?_
 refine lO hI ((rfl:((false&&decide ((s.size:Int)<=200))&&dN ((aA s).length-1) 0 (jG s) oI)=false)) ?_
 refine aN ?_
 refine au ?_
 refine lM hI 5 2 [] [] [Uc 0 42 _,Uc 1 43 _] (.k .z) (.af (.aU .z)) ⟨mv,mv,trivial⟩ (.k .z) (.bY (.ct (.k .z))) (⟨_,wV hG dS,⟨_,lR λl1 nG=>aY [] [] [Uc 0 4 _] (.k .z) (.aU .z) (mv) (.k .z) (.fK .z),⟨_,lR λl1 nG=>aY [] [] [Uc 0 5 _] (.k .z) (.kk .z) (mv) (.k .z) (.ru .z),rfl⟩⟩⟩) λa w hI=>?_
 obtain⟨l1,nG,hI⟩:=hI
 refine ay ?_
 exact vD (n0:=0) l1 nG hI rfl rfl cP cP rfl
theorem qj {q:Nat} {x:eN} {cs:List ByteArray} (hl:eA l [x] cs) (hc:s.size<=200/\2<=(aA s).length) (hq:cM ((aA s).getD 0 ⟨#[]⟩) iz=some (cw (aK 1 false 1 λk=>[az].getD k aG) (aE (.func (.func 125) #[] #[])))) (B8:dN ((aA s).length-1) 1 (jG s) oI=true/\fT (λk=>[x].getD k ee) 1 (jG s 0)=0/\(0<=x.2.1/\x.2.1<100)):L2 Tryz.prog 55 (aR q l [x] cs) (aE (.pointer (some ⟨l.hb,0,none⟩))) (pT s) (λl':HL=>l'=l) (λ_=>.returned (.tuple #[.string (Ac x.2.1),.int .i64 0])) (λl'=>aR q l' [x] cs):=by
 intro M B w0 v0 v1 hM ik hH iJ hv0 ck
 have hG:aL (λk o=>M k o\/B k) iM w0:=iJ
 have qU:jF (aR q l [x] cs):=hH.2.1
 have hsz:s.size<=1000000:=by omega
 have hlen:0<(aA s).length:=by rw[cE]; omega
 have BN:((true&&decide ((s.size:Int)<=200))&&dN ((aA s).length-1) 1 (jG s) oI)=true:=by rw[B8.1,decide_eq_true (by omega)]; rfl
 refine oD (N:=45) Tryz.func55 rfl rfl rfl hM ik hH hv0 ck λa hI=>?_
 refine da hI 2 [] [] [Uc 0 4 _,Uc 1 5 _] (.k .z) (.kk .z) ⟨mv,mv,trivial⟩ (.k .z) (.af .z) λa w hI=>?_
 refine aq ?_
 refine da hI 2 [] [] [Uc 0 9 _,Uc 1 10 _] (.k .z) (.af .z) ⟨mv,eL false,trivial⟩ (.k .z) (.af (.dk .z)) λa w hI=>?_
 refine lO hI (rfl) ?_
 refine aN ?_
 refine au ?_
 refine da hI 3 [] [] [Uc 0 11 _,Uc 1 12 _,Uc 2 6 _] (.k .z) (.af (.k .z)) ⟨mv,wU hG (gK (s:=s)) (hφ:=hsz),mv,trivial⟩ (.k .z) (.af (.ct .z)) λa w hI=>?_
 refine aq ?_
 refine vq hI [0,0,2,6,15,31,63,63,0,383,1023] [⟨7,7,some 8,none,.ptr,151,2,true,pv _,[(9,pv _)]⟩] [] [Uc 0 14 _,Uc 1 15 _,Uc 2 16 _,Uc 3 17 _,Uc 4 18 _,Uc 5 13 _,Uc 6 19 _,Uc 7 20 _,Uc 10 8 _] (.k .z) (.af (.k .z)) ⟨zm iD (hφ:=trivial),mv,aV 0 hs hs rfl (pt rfl) hlen (by kernel_rfl) (by kernel_rfl),aI hs (pt rfl) (by kernel_rfl) (bh _),Cj 9 151 (.agg #[.slice none 0 0,.nilFunc]) hq (hp:=Post.down (pt rfl) AI),mv,ext,ext,AX [.slice none 0 0,.nilFunc] iQ,gN rfl rfl hs rfl rfl (cn (by kernel_rfl)) (gD aC (aS _)) (by kernel_rfl),mv,trivial⟩ (.k (.s .o .z)) (.af (.jO (.bY (.dk .z)))) λa w hI=>?_
 have hI:=gb hI 1 rfl (by kernel_rfl)
 dsimp only[List.eraseIdx]at hI
 refine vq hI [0,1,3,7,15,31,63,127,255,127,639,2047,4095] [] [] [Uc 0 21 _,Uc 1 22 _,Uc 2 23 _,Uc 3 24 _,Uc 4 25 _,Uc 5 26 _,Uc 6 27 _,Uc 7 28 _,Uc 8 29 _,Uc 9 30 _,Uc 10 31 _,Uc 11 32 _,Uc 12 33 _] (.k .z) (.af (.aU .z)) ⟨mv,mv,gd λh=>fu h,gd λh=>xT (h:=hg) (hp:=pg h rfl),gd λh=>lS h,pk,mv,gd λh=>fu h,gd λh=>yF 1 (h:=hg) (hp:=pg h rfl),gd λh=>fP 0 1 false (h:=hg) (hp:=pg h rfl),gd λh=>aI hg (pg h rfl) (by kernel_rfl) aC,gd λh=>nR h (lp (g:=jG s) (φ:=oI)) (hφ:=⟨by have:=eu hsz; omega,by omega,λk _=>gZ hsz⟩),pk,trivial⟩ (.k .z) (.af (.bJ (.d8 (.ct .z)))) λa w hI=>?_
 refine pK hI (BN) ?_
 refine vq hI [0,1,0,0,8,31,63,63,255,511] [] [] [Uc 0 34 _,Uc 1 35 _,Uc 2 36 _,Uc 3 37 _,Uc 4 38 _,Uc 5 39 _,Uc 6 40 _,Uc 7 41 _,Uc 8 4 _,Uc 9 5 _] (.k .z) (.aU (.t 8 (.t 9 (.kk .z)))) ⟨fP 1 1 false,aI hs (pt rfl) (by kernel_rfl) (aS _),mv,mv,yF 1,Bu 45 (xQ (l:=l) (x:=x) (n:=(aA s).length-1) (g:=jG s) ⟨B8.2.1,B8.2.2,by omega⟩) (λB w u h hu=>fA hl (by show 1<=1; omega) h hu) (lD (aX _) (aX _)),ext,ext,mv,mv,trivial⟩ (.k .z) (.nP (.d8 (.ct (.k .z)))) λa w hI=>?_
 refine ay ?_
 refine aJ ?_
 exact vD (n0:=0) l rfl hI rfl rfl cP cP rfl
theorem gJ {t:ByteArray} (he:0<=e/\e<=9) (dS:L2 Tryz.prog 55 H (aE (.pointer (some ⟨l.hb,0,none⟩))) (pT s) C (λ_=>.returned (.tuple #[.string t,.int .i64 e])) Hl):L2 Tryz.prog 24 (H) (aE (.pointer (some ⟨l.hb,0,none⟩))) (pT s) (C) (λ_=>.returned (.string (kA t e))) (Hl):=by
 intro M B w0 v0 v1 hM ik hH iJ hv0 ck
 have hG:aL (λk o=>M k o\/B k) iM w0:=iJ
 have qU:jF (H):=hH.2.1
 refine oD (N:=11) Tryz.func24 rfl rfl rfl hM ik hH hv0 ck λa hI=>?_
 refine da hI 1 [] [] [Uc 0 4 _] (.k .z) (.kk .z) ⟨mv,trivial⟩ (.k .z) (.aU .z) λa w hI=>?_
 refine lM hI 7 2 [] [] [Uc 0 5 _,Uc 1 6 _] (.k .z) (.aU .z) ⟨mv,mv,trivial⟩ (.k .z) (.ct (.k .z)) (⟨_,wV hG dS,⟨_,lR λl1 nG=>aY [] [] [Uc 0 8 _] (.k .z) (.aU .z) (cD hs BD (pt rfl)) (.k .z) (.fK .z),⟨_,lR λl1 nG=>aY [] [] [Uc 0 9 _] (.k .z) (.kk .z) (cD hs BF (pt rfl)) (.k .z) (.ru .z),⟨_,lR λl1 nG=>aY [] [] [Uc 0 10 _] (.k .z) (.kk .z) (iB (sy (s:=t) (e:=e)) (hφ:=he)) (.k .z) (.gj .z),⟨_,lR λl1 nG=>aY [] [] [Uc 0 4 _] (.k .z) (.k .z) (mv) (.k .z) (.dk .z),rfl⟩⟩⟩⟩⟩) λa w hI=>?_
 obtain⟨l1,nG,hI⟩:=hI
 refine ay ?_
 exact zD (n0:=0) l1 nG hI rfl rfl cP rfl
end Wx
