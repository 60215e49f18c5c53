import Derived.Test.YtikkgpljpglnbaaGreatCRMRep19
namespace Wx
set_option maxRecDepth 100000
set_option maxHeartbeats 1000000
open Go Go.RowKit Go.Proofs
set_option linter.unusedVariables false
attribute [local irreducible] OpOk
theorem Du {K L:List Pt} {k l:Int} (_:True):K2 Tryz.prog 3 (eR K k) (eR L l) (pB true):=by
 intro M w0 v0 v1 hM hv0 jw
 refine rZ (N:=52) Tryz.func3 rfl rfl rfl hM hv0 jw λa hI=>?_
 refine aZ hI 3 [Uc 0 2 _,Uc 1 3 _,Uc 2 4 _] (.kk .z) ⟨vh 2 true (hf:=bG _ _),vh 2 true (hf:=bG _ _),mv,trivial⟩ (.oF (.k .z)) λa w hI=>?_
 refine au ?_
 refine aZ hI 10 [Uc 0 9 _,Uc 1 10 _,Uc 2 11 _,Uc 3 12 _,Uc 4 13 _,Uc 5 14 _,Uc 6 15 _,Uc 7 16 _,Uc 8 17 _,Uc 9 18 _] (.cE .z) ⟨fP 0 1 false,ld,uN Ak,nt,mv,gd λh=>Nt h 0 1 false,gd λh=>pz h,gd λh=>OD h Ak,gd λh=>Q9 h,pk,trivial⟩ (.dx (.d8 (.k .z))) λa w hI=>?_
 refine uR hI (λt1=>?_) (λt1=>?_)
 ·
  refine aZ hI 2 [Uc 0 19 _,Uc 1 4 _] (.kk (.t 1 (.k .z))) ⟨QY wk,mv,trivial⟩ (.dm (.dk .z)) λa w hI=>?_
  refine aH ?_
  refine aC ?_
  exact cT hI rfl fR
 ·
  have hlen:K.length<=20/\L.length<=20:=by
   simp only[Bool.or_eq_false_iff,Bool.not_eq_false',decide_eq_true_eq]at t1
   omega
  have hml:=DI K L k l
  refine ax ?_
  refine af ?_
  refine bk hI 9 [⟨5,5,some 6,none,.ptr,24,2,true,pv _,[(7,pv _)]⟩] [] [Uc 0 21 _,Uc 1 22 _,Uc 2 23 _,Uc 3 20 _,Uc 4 24 _,Uc 5 25 _,Uc 8 6 _] .z (.aj .z) ⟨ld,ld,ES Dr (hφ:=⟨by omega,by omega⟩),mv,ext,ext,tn [.n,.i],kE rfl rfl hs rfl rfl (bF (by kernel_rfl)) (bG _ _) (by kernel_rfl),mv,trivial⟩ (.s .o .z) (.dx (.cH (.lO .z))) λa w hI=>?_
  have hI:=zk hI 0 rfl (by kernel_rfl)
  dsimp only[List.eraseIdx]at hI
  refine bk hI 9 [⟨7,7,some 6,none,.ptr,30,2,true,pv _,[(7,pv _)]⟩] [] [Uc 0 27 _,Uc 1 28 _,Uc 2 29 _,Uc 3 26 _,Uc 4 30 _,Uc 5 31 _,Uc 8 8 _] .z (.aj (.k .z)) ⟨ld,ld,ES Ej (hφ:=⟨by omega,by omega⟩),mv,ext,ext,tn [.n,.i],kE rfl rfl hs rfl rfl (bF (by kernel_rfl)) (bG _ _) (by kernel_rfl),mv,trivial⟩ (.s .o .z) (.oK (.fF (.dL .z))) λa w hI=>?_
  have hI:=zk hI 0 rfl (by kernel_rfl)
  dsimp only[List.eraseIdx]at hI
  refine aZ hI 21 [Uc 0 32 _,Uc 1 33 _,Uc 2 34 _,Uc 3 35 _,Uc 4 36 _,Uc 5 37 _,Uc 6 38 _,Uc 7 39 _,Uc 8 40 _,Uc 9 41 _,Uc 10 42 _,Uc 11 43 _,Uc 12 44 _,Uc 13 45 _,Uc 14 46 _,Uc 15 47 _,Uc 16 48 _,Uc 17 49 _,Uc 18 50 _,Uc 19 51 _,Uc 20 4 _] (.kk (.t 20 (.kk .z))) ⟨mv,mv,bn,mv,gd λh=>fP 1 1 false (h:=hg) (hp:=pg h rfl),gd λh=>cm hg (pg h rfl) (by kernel_rfl) (fits_int _),gd λh=>fP 1 1 false (h:=hg) (hp:=pg h rfl),gd λh=>cm hg (pg h rfl) (by kernel_rfl) (fits_int _),gd λh=>oa h,pk,mv,gd λh=>fP 0 1 false (h:=hg) (hp:=pg h rfl),gd λh=>cm hg (pg h rfl) (by kernel_rfl) ee,gd λh=>fP 0 1 false (h:=hg) (hp:=pg h rfl),gd λh=>cm hg (pg h rfl) (by kernel_rfl) ee,gd λh=>ye h (Aj (K:=sA K L k l) (L:=sA K L k l)) (hφ:=by omega),pk,mv,gd λh=>OC h wk,pk,mv,trivial⟩ (.d8 (.d8 (.d8 (.dk .z)))) λa w hI=>?_
  refine aH ?_
  exact cT hI rfl (fR (hq:=kS (by simp)))
end Wx
