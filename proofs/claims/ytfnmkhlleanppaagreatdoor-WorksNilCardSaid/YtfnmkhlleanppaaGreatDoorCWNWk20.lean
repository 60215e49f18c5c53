import Derived.Test.YtfnmkhlleanppaaGreatDoorJWN36
namespace Wx
set_option maxRecDepth 100000
set_option maxHeartbeats 1000000
open Go Go.RowKit Go.Proofs
set_option linter.unusedVariables false
attribute [local irreducible] OpOk
abbrev AR:List Fd:=([.s,.i,.i,.n,.n,.r,.s,.n]:List Zl).map Zl.fd
section
variable {P:Program} {ops:Array Oper} {ms:List Nat} {c:bD} {V:List Vr} {A:List Al} {G:List aD} {i d:Nat} {ty:TypeId} {pos:String} {aj:Array Edge}
theorem BH {j:Nat} {b cb:Bool} {op:Op} (q:Pred) (hne:cb≠b) (DT:dQ i G=some (gQ (cb=b) q):=by exact rfl) (hq:dQ j G=some (pB cb):=by exact rfl) (hA:¬cb=b->iV A i:=by intro hn; first|exact .none rfl|exact Bj rfl hn (by kernel_rfl))
  (hj:(G.all λe=>e.tag != some j||((ms.getD i 0).testBit j&&dH ms i e.till))=true:=by kernel_rfl) (hb:(V.all λx=>(x.born != some i&&x.dead != some i)&&x.st.all λq=>q.1 != i)=true:=by kernel_rfl):OpOk P ops ms c V A G i ⟨some d,op,ty,pos,aj,some (j,b)⟩:=
 gd (λh=>absurd h hne) hq hA (λhn=>Cr hn DT) hj hb
end
abbrev fY:Pred:=aE (.pointer none)
abbrev yn:Pred:=aE (.slice none 0 0)
abbrev pE:Pred:=pT ⟨#[]⟩
theorem yc {sz:Nat} {ag:Bool} {f:Nat->Pred}:∀w v,yn w v->aK sz ag 0 f w v:=λ_ _ h=>⟨none,0,h,Nat.le_refl _,Nat.zero_le _,λh=>absurd h (Nat.lt_irrefl _)⟩
variable {s:ByteArray}
theorem tO:K2 Tryz.prog 46 (fY) (pT s) (fY):=by
 intro M w0 v0 v1 hM hv0 ck
 refine dM (N:=23) Tryz.func46 rfl rfl rfl hM hv0 ck λa hI=>?_
 refine da hI 2 [⟨3,3,some 0,none,.ptr,9,1,false,pv _,[]⟩] [] [Uc 1 4 _] .z (.kk .z) ⟨bo,mv,trivial⟩ (.k .z) (.lg .z) λa w hI=>?_
 refine aq ?_
 refine da hI 2 [] [] [Uc 0 6 _,Uc 1 7 _] (.k .z) (.kk .z) ⟨mv,eL true,trivial⟩ (.k .z) (.bz .z) λa w hI=>?_
 refine pK hI (rfl) ?_
 refine da hI 1 [] [] [Uc 0 4 _] (.k .z) (.k (.t 0 (.k .z))) ⟨mv,trivial⟩ (.k .z) (.fK .z) λa w hI=>?_
 refine ay ?_
 refine aJ ?_
 exact bP hI rfl cP
theorem tM:K2 Tryz.prog 18 (fY) (pT s) (cG (pS AR) (pI 5)):=by
 intro M w0 v0 v1 hM hv0 ck
 refine dM (N:=15) Tryz.func18 rfl rfl rfl hM hv0 ck λa hI=>?_
 refine da hI 2 [⟨4,4,some 0,none,.ptr,52,10,true,pv _,[]⟩] [] [Uc 1 5 _] .z (.kk .z) ⟨Cl [.s,.i,.i,.n,.n,.r,.s,.n],mv,trivial⟩ (.k .z) (.aU .z) λa w hI=>?_
 refine da hI 4 [] [] [Uc 0 7 _,Uc 1 8 _,Uc 2 9 _,Uc 3 6 _] (.k .z) (.aU .z) ⟨mv,mv,iB (λ_:True=>tO (s:=s)),mv,trivial⟩ (.k .z) (.nN (.gj .z)) λa w hI=>?_
 refine aq ?_
 refine da hI 2 [] [] [Uc 0 10 _,Uc 1 11 _] (.k .z) (.kk .z) ⟨mv,eL true,trivial⟩ (.k .z) (.bz .z) λa w hI=>?_
 refine pK hI (rfl) ?_
 refine da hI 3 [] [] [Uc 0 12 _,Uc 2 5 _] (.u none [(1,pv _)] .z) (.t 2 (.kk .z)) ⟨bd [.o .s,.o .i,.o .i,.o .n,.o .n,.o .r,.o .s,.o .n] [],AK,mv,trivial⟩ (.s .o .z) (.nO (.k .z)) λa w hI=>?_
 refine ay ?_
 refine aJ ?_
 exact mj hI rfl Cy cP
theorem qN:K2 Tryz.prog 19 (fY) (pT s) (cG yn (pI 5)):=by
 intro M w0 v0 v1 hM hv0 ck
 refine dM (N:=17) Tryz.func19 rfl rfl rfl hM hv0 ck λa hI=>?_
 refine ai hI 2 [Uc 0 4 _,Uc 1 5 _] (.kk .z) ⟨mv,mv,trivial⟩ (.af .z) λa w hI=>?_
 refine da hI 9 [⟨6,6,some 6,none,.ptr,52,10,true,pv _,[(7,pv _)]⟩] [] [Uc 0 9 _,Uc 1 10 _,Uc 2 11 _,Uc 3 8 _,Uc 4 12 _,Uc 5 13 _,Uc 8 7 _] .z (.af .z) ⟨mv,mv,iB (λ_:True=>tM (s:=s)),mv,ext,ext,Cl [.s,.i,.i,.n,.n,.r,.s,.n],AK,mv,trivial⟩ (.s .o .z) (.wX (.bY (.gj .z))) λa w hI=>?_
 refine da hI 5 [] [⟨some 0,14,6,4,True⟩] [Uc 1 15 _,Uc 2 16 _,Uc 3 4 _,Uc 4 5 _] (.k .z) (.t 3 (.t 4 (.k .z))) ⟨fa,sM (n:=1) (agg:=false) rfl rfl rfl rfl (by kernel_rfl) rfl (cn (by kernel_rfl)) (sD rfl) trivial (pt rfl) rfl,mv,mv,mv,trivial⟩ (.d .z) (.bY (.ru .z)) λa w hI=>?_
 refine ay ?_
 exact mj hI rfl cP cP
theorem oM:K2 Tryz.prog 20 (fY) (pT s) (cG yn (pI 5)):=by
 intro M w0 v0 v1 hM hv0 ck
 refine dM (N:=43) Tryz.func20 rfl rfl rfl hM hv0 ck λa hI=>?_
 refine ai hI 2 [Uc 0 4 _,Uc 1 5 _] (.kk .z) ⟨mv,mv,trivial⟩ (.af .z) λa w hI=>?_
 refine aq ?_
 refine ai hI 8 [Uc 0 9 _,Uc 1 10 _,Uc 2 11 _,Uc 3 12 _,Uc 4 13 _,Uc 5 14 _,Uc 6 15 _,Uc 7 16 _] (.af .z) ⟨mv,eL true,mv,gd λh=>fu h,gd λh=>fu h,BH fY (cb:=true) (by decide),gd λh=>eL true (h:=hg) (hp:=pg h rfl),AF,trivial⟩ (.af (.bY (.ct .z))) λa w hI=>?_
 refine pK hI (rfl) ?_
 refine ai hI 2 [Uc 0 4 _,Uc 1 5 _] (.kk (.t 0 (.t 1 (.k .z)))) ⟨mv,mv,trivial⟩ (.bJ (.ru .z)) λa w hI=>?_
 refine ay ?_
 refine aJ ?_
 exact mj hI rfl cP cP
theorem tL:K2 Tryz.prog 21 (fY) (pT s) (cG pE (pI 5)):=by
 intro M w0 v0 v1 hM hv0 ck
 refine dM (N:=60) Tryz.func21 rfl rfl rfl hM hv0 ck λa hI=>?_
 refine ai hI 2 [Uc 0 4 _,Uc 1 5 _] (.kk .z) ⟨mv,mv,trivial⟩ (.af .z) λa w hI=>?_
 refine ai hI 4 [Uc 0 10 _,Uc 1 11 _,Uc 2 12 _,Uc 3 6 _] (.af .z) ⟨mv,mv,iB (λ_:True=>tO (s:=s)),mv,trivial⟩ (.qi (.ct .z)) λa w hI=>?_
 refine aq ?_
 refine ai hI 2 [Uc 0 13 _,Uc 1 14 _] (.af .z) ⟨mv,eL true,trivial⟩ (.af (.dk .z)) λa w hI=>?_
 refine pK hI (rfl) ?_
 refine ai hI 2 [Uc 0 4 _,Uc 1 5 _] (.k (.t 0 (.t 1 (.kk .z)))) ⟨mv,mv,trivial⟩ (.fK (.ru .z)) λa w hI=>?_
 refine ay ?_
 refine aJ ?_
 exact mj hI rfl cP cP
theorem AU:K2 Tryz.prog 22 (fY) (pT s) (kq pE (pI 0) (pI 1)):=by
 intro M w0 v0 v1 hM hv0 ck
 refine dM (N:=67) Tryz.func22 rfl rfl rfl hM hv0 ck λa hI=>?_
 refine ai hI 3 [Uc 0 4 _,Uc 1 5 _,Uc 2 6 _] (.kk .z) ⟨mv,mv,mv,trivial⟩ (.af (.k .z)) λa w hI=>?_
 refine aq ?_
 refine bp ?_
 refine ai hI 3 [Uc 0 14 _,Uc 1 15 _,Uc 2 13 _] (.af (.k .z)) ⟨mv,eL true,mv,trivial⟩ (.af (.fK .z)) λa w hI=>?_
 refine pK hI (rfl) ?_
 refine ai hI 3 [Uc 0 4 _,Uc 1 5 _,Uc 2 6 _] (.kk (.t 0 (.t 1 (.t 2 (.k .z))))) ⟨mv,mv,mv,trivial⟩ (.bJ (.wX (.k .z))) λa w hI=>?_
 refine ay ?_
 refine bW ?_
 refine aJ ?_
 exact zC hI rfl cP cP cP
theorem tN:K2 Tryz.prog 55 (fY) (pT s) (cG pE (pI 1)):=by
 intro M w0 v0 v1 hM hv0 ck
 refine dM (N:=45) Tryz.func55 rfl rfl rfl hM hv0 ck λa hI=>?_
 refine ai hI 2 [Uc 0 4 _,Uc 1 5 _] (.kk .z) ⟨mv,mv,trivial⟩ (.af .z) λa w hI=>?_
 refine aq ?_
 refine ai hI 2 [Uc 0 9 _,Uc 1 10 _] (.af .z) ⟨mv,eL true,trivial⟩ (.af (.dk .z)) λa w hI=>?_
 refine pK hI (rfl) ?_
 refine ai hI 2 [Uc 0 4 _,Uc 1 5 _] (.kk (.t 0 (.t 1 (.k .z)))) ⟨mv,mv,trivial⟩ (.bJ (.ru .z)) λa w hI=>?_
 refine ay ?_
 refine aJ ?_
 exact mj hI rfl cP cP
theorem tJ:K2 Tryz.prog 24 (fY) (pT s) (pT ⟨#[101,114,114,111,114,32,49]⟩):=by
 intro M w0 v0 v1 hM hv0 ck
 refine dM (N:=11) Tryz.func24 rfl rfl rfl hM hv0 ck λa hI=>?_
 refine ai hI 1 [Uc 0 4 _] (.kk .z) ⟨mv,trivial⟩ (.aU .z) λa w hI=>?_
 refine ai hI 7 [Uc 0 5 _,Uc 1 6 _,Uc 2 7 _,Uc 3 8 _,Uc 4 9 _,Uc 5 10 _,Uc 6 4 _] (.kk (.t 6 .z)) ⟨mv,mv,iB (λ_:True=>tN (s:=s)),ext,ext,iB (sy (s:=⟨#[]⟩) (e:=1)) (hφ:=by decide),mv,trivial⟩ (.d8 (.dk .z)) λa w hI=>?_
 refine ay ?_
 exact bP hI rfl cP
theorem tK (_:True):K1 Tryz.prog 25 (fY) (pE):=by
 intro M w0 v0 hM hv0
 refine fL (N:=9) Tryz.func25 rfl rfl rfl hM hv0 λa hI=>?_
 refine ai hI 1 [Uc 0 2 _] (.k .z) ⟨mv,trivial⟩ (.kk .z) λa w hI=>?_
 refine aq ?_
 refine ai hI 2 [Uc 0 3 _,Uc 1 4 _] (.kk .z) ⟨mv,eL true,trivial⟩ (.bz .z) λa w hI=>?_
 refine pK hI (rfl) ?_
 refine ai hI 1 [Uc 0 2 _] (.k (.t 0 (.k .z))) ⟨mv,trivial⟩ (.fK .z) λa w hI=>?_
 refine ay ?_
 refine aJ ?_
 exact bP hI rfl cP
theorem vx (_:True):K1 Tryz.prog 26 (fY) (aK 2 true 0 λ_=>aG):=by
 intro M w0 v0 hM hv0
 refine fL (N:=10) Tryz.func26 rfl rfl rfl hM hv0 λa hI=>?_
 refine ai hI 1 [Uc 0 2 _] (.k .z) ⟨mv,trivial⟩ (.kk .z) λa w hI=>?_
 refine aq ?_
 refine ai hI 2 [Uc 0 3 _,Uc 1 4 _] (.kk .z) ⟨mv,eL true,trivial⟩ (.bz .z) λa w hI=>?_
 refine pK hI (rfl) ?_
 refine ai hI 1 [Uc 0 2 _] (.k (.t 0 (.k .z))) ⟨mv,trivial⟩ (.fK .z) λa w hI=>?_
 refine ay ?_
 refine aJ ?_
 exact bP hI rfl (cP (hq:=yc))
theorem qM (_:True):K1 Tryz.prog 27 (fY) (aK 3 true 0 λ_=>aG):=by
 intro M w0 v0 hM hv0
 refine fL (N:=10) Tryz.func27 rfl rfl rfl hM hv0 λa hI=>?_
 refine ai hI 1 [Uc 0 2 _] (.k .z) ⟨mv,trivial⟩ (.kk .z) λa w hI=>?_
 refine aq ?_
 refine ai hI 2 [Uc 0 3 _,Uc 1 4 _] (.kk .z) ⟨mv,eL true,trivial⟩ (.bz .z) λa w hI=>?_
 refine pK hI (rfl) ?_
 refine ai hI 1 [Uc 0 2 _] (.k (.t 0 (.k .z))) ⟨mv,trivial⟩ (.fK .z) λa w hI=>?_
 refine ay ?_
 refine aJ ?_
 exact bP hI rfl (cP (hq:=yc))
theorem vy (_:True):K1 Tryz.prog 28 (fY) (aK 10 true 0 λ_=>aG):=by
 intro M w0 v0 hM hv0
 refine fL (N:=24) Tryz.func28 rfl rfl rfl hM hv0 λa hI=>?_
 refine ai hI 1 [Uc 0 2 _] (.k .z) ⟨mv,trivial⟩ (.kk .z) λa w hI=>?_
 refine aq ?_
 refine ai hI 2 [Uc 0 6 _,Uc 1 7 _] (.kk .z) ⟨mv,eL true,trivial⟩ (.bz .z) λa w hI=>?_
 refine pK hI (rfl) ?_
 refine ai hI 1 [Uc 0 2 _] (.k (.t 0 (.k .z))) ⟨mv,trivial⟩ (.fK .z) λa w hI=>?_
 refine ay ?_
 refine aJ ?_
 exact bP hI rfl (cP (hq:=yc))
theorem CC:K2 Tryz.prog 23 (fY) (pT s) (pI 1):=by
 intro M w0 v0 v1 hM hv0 ck
 refine dM (N:=49) Tryz.func23 rfl rfl rfl hM hv0 ck λa hI=>?_
 refine da hI 1 [⟨4,4,some 0,none,.ptr,25,1,false,pv _,[]⟩] [] [] .z (.kk .z) ⟨xY .i,trivial⟩ (.k .z) (.kk .z) λa w hI=>?_
 refine aq ?_
 refine bp ?_
 refine da hI 3 [] [] [Uc 0 9 _,Uc 1 10 _,Uc 2 8 _] (.k .z) (.kk .z) ⟨mv,eL true,mv,trivial⟩ (.k .z) (.bJ (.k .z)) λa w hI=>?_
 refine pK hI (rfl) ?_
 refine da hI 1 [] [] [] (.u none [(0,pv _)] .z) (.aU .z) ⟨AK,trivial⟩ (.s .o .z) (.D9 .z) λa w hI=>?_
 refine ay ?_
 refine bW ?_
 refine aJ ?_
 exact bP hI rfl Cy
theorem AQ (DC:J0 Tryz.prog 7 (pB true)):J1 Tryz.prog 6 (pT s) (pB true):=by
 intro M w0 v0 hM hG hv0
 have hG:=fU hG
 refine fL (N:=110) Tryz.func6 rfl rfl rfl hM hv0 λa hI=>?_
 refine ai hI 1 [Uc 0 2 _] (.k .z) ⟨mv,trivial⟩ (.kk .z) λa w hI=>?_
 refine ai hI 1 [Uc 0 3 _] (.kk .z) ⟨mv,trivial⟩ (.aU .z) λa w hI=>?_
 refine da hI 9 [⟨4,4,some 6,none,.ptr,52,10,true,pv _,[(7,pv _)]⟩] [] [Uc 0 16 _,Uc 1 17 _,Uc 2 18 _,Uc 3 15 _,Uc 4 19 _,Uc 5 20 _,Uc 8 5 _] .z (.aU .z) ⟨mv,mv,iB (λ_:True=>tM (s:=s)),mv,ext,ext,Cl [.s,.i,.i,.n,.n,.r,.s,.n],AK,mv,trivial⟩ (.d .z) (.bT (.bY (.dk .z))) λa w hI=>?_
 refine ai hI 8 [Uc 0 22 _,Uc 1 23 _,Uc 2 24 _,Uc 3 21 _,Uc 4 25 _,Uc 5 26 _,Uc 6 6 _,Uc 7 7 _] (.af .z) ⟨mv,mv,iB (λ_:True=>qN (s:=s)),mv,ext,ext,mv,mv,trivial⟩ (.af (.bY (.ct .z))) λa w hI=>?_
 refine ai hI 8 [Uc 0 28 _,Uc 1 29 _,Uc 2 30 _,Uc 3 27 _,Uc 4 31 _,Uc 5 32 _,Uc 6 8 _,Uc 7 9 _] (.af (.k .z)) ⟨mv,mv,iB (λ_:True=>oM (s:=s)),mv,ext,ext,mv,mv,trivial⟩ (.af (.jO (.bY (.k .z)))) λa w hI=>?_
 refine ai hI 8 [Uc 0 34 _,Uc 1 35 _,Uc 2 36 _,Uc 3 33 _,Uc 4 37 _,Uc 5 38 _,Uc 6 10 _,Uc 7 11 _] (.af (.kk .z)) ⟨mv,mv,iB (λ_:True=>tL (s:=s)),mv,ext,ext,mv,mv,trivial⟩ (.af (.bJ (.bY (.kk .z)))) λa w hI=>?_
 refine ai hI 10 [Uc 0 40 _,Uc 1 41 _,Uc 2 42 _,Uc 3 39 _,Uc 4 43 _,Uc 5 44 _,Uc 6 45 _,Uc 7 12 _,Uc 8 13 _,Uc 9 14 _] (.k8 .z) ⟨mv,mv,iB (λ_:True=>AU (s:=s)),mv,ext,ext,ext,mv,mv,mv,trivial⟩ (.k8 (.bY (.ct (.kk .z)))) λa w hI=>?_
 refine ai hI 65 [Uc 0 46 _,Uc 1 47 _,Uc 2 48 _,Uc 3 49 _,Uc 4 50 _,Uc 5 51 _,Uc 6 52 _,Uc 7 53 _,Uc 8 54 _,Uc 9 55 _,Uc 10 56 _,Uc 11 57 _,Uc 12 58 _,Uc 13 59 _,Uc 14 60 _,Uc 15 61 _,Uc 16 62 _,Uc 17 63 _,Uc 18 64 _,Uc 19 65 _,Uc 20 66 _,Uc 21 67 _,Uc 22 68 _,Uc 23 69 _,Uc 24 70 _,Uc 25 71 _,Uc 26 72 _,Uc 27 73 _,Uc 28 74 _,Uc 29 75 _,Uc 30 76 _,Uc 31 77 _,Uc 32 78 _,Uc 33 79 _,Uc 34 80 _,Uc 35 81 _,Uc 36 82 _,Uc 37 83 _,Uc 38 84 _,Uc 39 85 _,Uc 40 86 _,Uc 41 87 _,Uc 42 88 _,Uc 43 89 _,Uc 44 90 _,Uc 45 91 _,Uc 46 92 _,Uc 47 93 _,Uc 48 94 _,Uc 49 95 _,Uc 50 96 _,Uc 51 97 _,Uc 52 98 _,Uc 53 99 _,Uc 54 100 _,Uc 55 101 _,Uc 56 102 _,Uc 57 103 _,Uc 58 104 _,Uc 59 105 _,Uc 60 106 _,Uc 61 107 _,Uc 62 108 _,Uc 63 109 _,Uc 64 2 _] (.k (.t 64 (.k8 (.k .z)))) ⟨mv,mv,iB (λ_:True=>CC (s:=s)),bn,mv,gd λh=>fu h,gd λh=>lS h,pk,mv,gd λh=>fu h,gd λh=>lS h,pk,mv,gd λh=>fu h,gd λh=>lS h,pk,mv,gd λh=>fu h,gd λh=>nw rfl (h1:=hg) (hp:=pg h rfl),pk,mv,gd λh=>fu h,gd λh=>lS h,pk,mv,gd λh=>fu h,gd λh=>nw rfl (h1:=hg) (hp:=pg h rfl),pk,mv,gd λh=>fu h,gd λh=>lS h,pk,mv,gd λh=>fu h,gd λh=>lS h,pk,mv,gd λh=>fu h,gd λh=>fu h,gd λh=>nR h (λ_:True=>tJ (s:=s)),gd λh=>nw rfl (h1:=hg) (hp:=pg h rfl),pk,mv,gd λh=>fu h,gd λh=>rL h (λ_:True=>tK trivial),gd λh=>nw rfl (h1:=hg) (hp:=pg h rfl),pk,mv,gd λh=>fu h,gd λh=>rL h (λ_:True=>vx trivial),gd λh=>BJ h,gd λh=>fu h,gd λh=>rL h (λ_:True=>qM trivial),gd λh=>BJ h,gd λh=>lS h,gd λh=>fu h,gd λh=>rL h (λ_:True=>vy trivial),gd λh=>BJ h,gd λh=>lS h,gd λh=>lS h,pk,mv,gd λh=>Dg hG (λ_:True=>DC) (hp:=pg h rfl),pk,mv,trivial⟩ (.d8 (.d8 (.d8 (.d8 (.d8 (.d8 (.d8 (.d8 (.d8 (.ct .z)))))))))) λa w hI=>?_
 refine ay ?_
 exact bP hI rfl (cP (hq:=λ_ _ h=>h))
end Wx
