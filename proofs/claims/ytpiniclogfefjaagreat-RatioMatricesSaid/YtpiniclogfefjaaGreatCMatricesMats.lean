import Derived.Test.YtpiniclogfefjaaGreatCMatricesCheck2
import Derived.Test.YtpiniclogfefjaaGreatCMatricesMLaw
namespace Wx
open Go Go.RowKit Go.Proofs
set_option linter.unusedVariables false

structure Sm (A:List (List Rat)):Prop where
  rows:(A.length≤4∨8<A.length)∧A.length≤10
  cols:∀i,i<A.length→((A.getD i []).length≤4∨8<(A.getD i []).length)∧(A.getD i []).length≤10
  bd:BdX 25 A
theorem Sm.l {A:List (List Rat)} (h:Sm A):A.length≤1000000:=by have:=h.rows; omega
theorem Sm.four {A:List (List Rat)} (h:Sm A) (hR:Right A):A.length<5∧(A.getD 0 []).length<5:=by
  have h1:=hR.rows
  have h2:=hR.cols
  have h3:=h.rows
  have h4:=h.cols 0 h1.1
  omega
theorem side_ok {n:Nat} (h:sideB n=false):(n≤4∨8<n)∧n≤10:=by
  unfold sideB at h
  rw[Bool.or_eq_false_iff,Bool.and_eq_false_iff,decide_eq_false_iff_not,decide_eq_false_iff_not,decide_eq_false_iff_not]at h
  omega
theorem sm_of {LL:List (List FD)} (h:Q6 LL=true):Sm (Qq LL):=by
  unfold Q6 at h
  rw[Bool.and_eq_true,Bool.not_eq_true',List.all_eq_true]at h
  obtain⟨h1,h2⟩:=h
  have row:∀i,i<LL.length→sideB (LL.getD i []).length=false∧Zf (LL.getD i [])=true:=fun i hi=>by
    have hm:LL.getD i []∈LL:=by
      rw[List.getD_eq_getElem?_getD,List.getElem?_eq_getElem hi]
      exact List.getElem_mem hi
    have h3:=h2 _ hm
    unfold Qcm at h3
    rw[Bool.not_eq_true',Bool.or_eq_false_iff,Bool.not_eq_false']at h3
    exact h3
  refine⟨by rw[J7]; exact side_ok h1,fun i hi=>?_,fun i k=>?_⟩
  · rw[J7]at hi
    rw[Qcb hi,Qct]
    exact side_ok (row i hi).1
  · rcases Nat.lt_or_ge i LL.length with hi|hi
    · rw[Qcb hi]
      exact light_bds (row i hi).2 k
    · rw[show(Qq LL).getD i []=[]from Ve (by rw[J7]; exact hi)]
      exact bd_zero.mono (by omega)
theorem okm_of {LL:List (List FD)} (s:Sm (Qq LL)) (h:LL.length≤9223372036854775807∧∀i,i<LL.length→(LL.getD i []).length≤9223372036854775807∧∀k,k<(LL.getD i []).length→FdOk ((LL.getD i []).getD k Qx)):LL.length≤1000000∧∀i,i<LL.length→(LL.getD i []).length≤1000000∧∀k,k<(LL.getD i []).length→FdOk ((LL.getD i []).getD k Qx):=by
  have h1:=s.rows
  rw[J7]at h1
  refine⟨by omega,fun i hi=>⟨?_,(h.2 i hi).2⟩⟩
  have h2:=s.cols i (by rw[J7]; exact hi)
  rw[Qcb hi,Qct]at h2
  omega
theorem U3:∀n,n<5→Vy 25 n≤100000000∧dJ 25 n≤100000000∧K8 (25+25) n≤50000000∧(n+1)*(25+25+1)≤2000000:=by decide
theorem mats_bits3:∀n,n<5→∀k,k<n→(1+k*(n*(25+(25+25)+1)))+(25+K8 (25+25) n)+(1+k*(n*(25+(25+25)+1)))+(25+K8 (25+25) n)+1≤100000000:=by decide
theorem nil_row {sz:Nat} {ag:Bool} {f:Nat→Qm}:∀w v,Qp (.slice none 0 0) w v→Qd sz ag 0 f w v:=fun _ _ h=>⟨none,0,h,Nat.le_refl _,Nat.zero_le _,fun h=>absurd h (Nat.lt_irrefl _)⟩
theorem tup_to {p p' q:Qm} (h:∀w v,p w v→p' w v):∀w v,Xj p q w v→Xj p' q w v:=fun w _ ⟨x,y,e,h1,h2⟩=>⟨x,y,e,h w x h1,h2⟩
open Classical in
noncomputable def Vs (A:List (List Rat)):Rat:=if SqOk A then Yj A.length (ent A)else 0
open Classical in
noncomputable def We (A:List (List Rat)) (x:List Rat):Int:=if SqOk A∧x.length=A.length then 0 else 4
open Classical in
noncomputable def Wc (A:List (List Rat)) (x:List Rat):Rat:=if SqOk A∧x.length=A.length then qSum A x A.length A.length else 0
theorem k_prod {A B:List (List Rat)} (hA:Sm A) (hB:Sm B):∀(M:Nat→Nat→Prop) (w:World) (v0 v1:Value),Mid M w→Box M (fun w=>(Qd 1 false A.length (fun i=>Qf (A.getD i []))) w v0) w→Box M (fun w=>(Qd 1 false B.length (fun i=>Qf (B.getD i []))) w v1) w→Calls Tryz.prog 14 #[v0,v1] w (RetB M (Xj (Qd 1 false (Zj A B).length (fun i=>Qf ((Zj A B).getD i []))) (pI (Wg A B))) w):=by
  by_cases h:(Right A∧Right B)∧B.length=(A.getD 0 []).length
  · rw[show Zj A B=Kl A (Xr B)from if_pos h,show Wg A B=0 from if_pos h,Qei]
    exact c_Product_ok h.1.1 h.1.2 h.2 hA.bd hB.bd (by omega) (Nat.le_trans (U3 _ (hB.four h.1.2).1).2.2.1 (by omega))
  · rw[show Zj A B=[]from if_neg h,show Wg A B=4 from if_neg h]
    have key:∀(M:Nat→Nat→Prop) (w:World) (v0 v1:Value),Mid M w→Box M (fun w=>(Qd 1 false A.length (fun i=>Qf (A.getD i []))) w v0) w→Box M (fun w=>(Qd 1 false B.length (fun i=>Qf (B.getD i []))) w v1) w→Calls Tryz.prog 14 #[v0,v1] w (RetB M (Xj (Qp (.slice none 0 0)) (pI 4)) w):=by
      by_cases hRA:Right A
      · by_cases hRB:Right B
        · exact c_Product_no3 hA.l hB.l hRA hRB (fun e=>h ⟨⟨hRA,hRB⟩,e⟩)
        · exact c_Product_no2 hA.l hB.l hRA hRB
      · exact c_Product_no1 hA.l hB.l hRA
    exact fun M w v0 v1 hM h0 h1=>(key M w v0 v1 hM h0 h1).mono fun _ _ k=>Qc7 k (tup_to nil_row)
theorem k_turn {A:List (List Rat)} (hA:Sm A):∀(M:Nat→Nat→Prop) (w:World) (v0:Value),Mid M w→Box M (fun w=>(Qd 1 false A.length (fun i=>Qf (A.getD i []))) w v0) w→Calls Tryz.prog 16 #[v0] w (RetB M (Xj (Qd 1 false (Zi A).length (fun i=>Qf ((Zi A).getD i []))) (pI (chk A))) w):=by
  by_cases h:Right A
  · rw[show Zi A=Xr A from if_pos h,Ul h,Wr]
    exact Qf9 h hA.bd
  · rw[show Zi A=[]from if_neg h,Qbg h]
    have key:∀(M:Nat→Nat→Prop) (w:World) (v0:Value),Mid M w→Box M (fun w=>(Qd 1 false A.length (fun i=>Qf (A.getD i []))) w v0) w→Calls Tryz.prog 16 #[v0] w (RetB M (Xj (Qp (.slice none 0 0)) (pI 4)) w):=by
      exact Qf7 hA.l h
    exact fun M w v0 hM h0=>(key M w v0 hM h0).mono fun _ _ k=>Qc7 k (tup_to nil_row)
theorem k_det {A:List (List Rat)} (hA:Sm A):∀(M:Nat→Nat→Prop) (w:World) (v0:Value),Mid M w→Box M (fun w=>(Qd 1 false A.length (fun i=>Qf (A.getD i []))) w v0) w→Calls Tryz.prog 19 #[v0] w (RetB M (Xj (Qo (Vs A)) (pI (Kp A))) w):=by
  by_cases h:SqOk A
  · rw[show Vs A=Yj A.length (ent A)from if_pos h,Qa6 h.1 h.2]
    have k:=c_Det h.1 h.rect hA.bd (by omega) (U3 _ (hA.four h.1).1).1 (U3 _ (hA.four h.1).1).2.1
    rw[(detG_det rfl h.rect).1]at k
    exact k
  · rw[show Vs A=0 from if_neg h,Qa2 h]
    exact c_Det_no hA.l h
theorem k_quad {A:List (List Rat)} {x:List Rat} (hA:Sm A) (hx:∀k,BdR 25 (x.getD k 0)):∀(M:Nat→Nat→Prop) (w:World) (v0 v1:Value),Mid M w→Box M (fun w=>(Qd 1 false A.length (fun i=>Qf (A.getD i []))) w v0) w→Box M (fun w=>(Qf x) w v1) w→Calls Tryz.prog 21 #[v0,v1] w (RetB M (Xj (Qo (Wc A x)) (pI (We A x))) w):=by
  by_cases h:SqOk A∧x.length=A.length
  · rw[show Wc A x=qSum A x A.length A.length from if_pos h,show We A x=0 from if_pos h]
    have h4:=(hA.four h.1.1).1
    exact c_Quadratic_ok h.1 h.2 hA.bd hx ⟨by have:=(U3 _ h4).2.2.1; omega,by have:=(U3 _ h4).2.2.1; omega,mats_bits3 _ h4⟩
  · rw[show Wc A x=0 from if_neg h,show We A x=4 from if_neg h]
    by_cases hR:SqOk A
    · exact Qf8 hR (fun e=>h ⟨hR,e⟩)
    · exact Qga hA.l hR
theorem kn_prod {A B:List (List Rat)} (hA:Sm A) (hB:Sm B):∀(M:Nat→Nat→Prop) (w:World) (v0 v1:Value),Mid M w→Box M (fun w=>(Qd 1 false A.length (fun i=>Qi (A.getD i []))) w v0) w→Box M (fun w=>(Qd 1 false B.length (fun i=>Qi (B.getD i []))) w v1) w→Calls Tryz.prog 15 #[v0,v1] w (RetB M (Xj (Qd 1 false (Zj A B).length (fun i=>Qi ((Zj A B).getD i []))) (pI (Wg A B))) w):=by
  by_cases h:(Right A∧Right B)∧B.length=(A.getD 0 []).length
  · rw[show Zj A B=Kl A (Xr B)from if_pos h,show Wg A B=0 from if_pos h,Qei]
    exact cn_Times_ok h.1.1 h.1.2 h.2 hA.bd hB.bd (U3 _ (hB.four h.1.2).1).2.2.2
  · rw[show Zj A B=[]from if_neg h,show Wg A B=4 from if_neg h]
    have key:∀(M:Nat→Nat→Prop) (w:World) (v0 v1:Value),Mid M w→Box M (fun w=>(Qd 1 false A.length (fun i=>Qi (A.getD i []))) w v0) w→Box M (fun w=>(Qd 1 false B.length (fun i=>Qi (B.getD i []))) w v1) w→Calls Tryz.prog 15 #[v0,v1] w (RetB M (Xj (Qp (.slice none 0 0)) (pI 4)) w):=by
      by_cases hRA:Right A
      · by_cases hRB:Right B
        · exact cn_Times_no3 hA.l hB.l hRA hRB (fun e=>h ⟨⟨hRA,hRB⟩,e⟩)
        · exact cn_Times_no2 hA.l hB.l hRA hRB
      · exact cn_Times_no1 hA.l hB.l hRA
    exact fun M w v0 v1 hM h0 h1=>(key M w v0 v1 hM h0 h1).mono fun _ _ k=>Qc7 k (tup_to nil_row)
theorem kn_turn {A:List (List Rat)} (hA:Sm A):∀(M:Nat→Nat→Prop) (w:World) (v0:Value),Mid M w→Box M (fun w=>(Qd 1 false A.length (fun i=>Qi (A.getD i []))) w v0) w→Calls Tryz.prog 17 #[v0] w (RetB M (Xj (Qd 1 false (Zi A).length (fun i=>Qi ((Zi A).getD i []))) (pI (chk A))) w):=by
  by_cases h:Right A
  · rw[show Zi A=Xr A from if_pos h,Ul h,Wr]
    exact Qf2 h
  · rw[show Zi A=[]from if_neg h,Qbg h]
    have key:∀(M:Nat→Nat→Prop) (w:World) (v0:Value),Mid M w→Box M (fun w=>(Qd 1 false A.length (fun i=>Qi (A.getD i []))) w v0) w→Calls Tryz.prog 17 #[v0] w (RetB M (Xj (Qp (.slice none 0 0)) (pI 4)) w):=by
      exact Qf4 hA.l h
    exact fun M w v0 hM h0=>(key M w v0 hM h0).mono fun _ _ k=>Qc7 k (tup_to nil_row)
theorem kn_det {A:List (List Rat)} (hA:Sm A):∀(M:Nat→Nat→Prop) (w:World) (v0:Value),Mid M w→Box M (fun w=>(Qd 1 false A.length (fun i=>Qi (A.getD i []))) w v0) w→Calls Tryz.prog 20 #[v0] w (RetB M (Xj (Qw (Vs A)) (pI (Kp A))) w):=by
  by_cases h:SqOk A
  · rw[show Vs A=Yj A.length (ent A)from if_pos h,Qa6 h.1 h.2]
    exact cn_Det_ok h (hA.four h.1).1 hA.bd (by omega)
  · rw[show Vs A=0 from if_neg h,Qa2 h]
    exact cn_Det_no hA.l h
theorem kn_quad {A:List (List Rat)} {x:List Rat} (hA:Sm A) (hx:∀k,BdR 25 (x.getD k 0)):∀(M:Nat→Nat→Prop) (w:World) (v0 v1:Value),Mid M w→Box M (fun w=>(Qd 1 false A.length (fun i=>Qi (A.getD i []))) w v0) w→Box M (fun w=>(Qi x) w v1) w→Calls Tryz.prog 22 #[v0,v1] w (RetB M (Xj (Qw (Wc A x)) (pI (We A x))) w):=by
  by_cases h:SqOk A∧x.length=A.length
  · rw[show Wc A x=qSum A x A.length A.length from if_pos h,show We A x=0 from if_pos h]
    have h4:=(hA.four h.1.1).1
    exact Qf5 h.1 h4 h.2 hA.bd hx ⟨by omega,by omega⟩
  · rw[show Wc A x=0 from if_neg h,show We A x=4 from if_neg h]
    by_cases hR:SqOk A
    · exact Qf0 hR (fun e=>h ⟨hR,e⟩)
    · exact Qf3 hA.l hR
theorem Sm.cols10 {A:List (List Rat)} (h:Sm A) (i:Nat):(A.getD i []).length≤10:=by
  rcases Nat.lt_or_ge i A.length with hi|hi
  · exact(h.cols i hi).2
  · rw[show A.getD i []=[]from Ve hi]; exact Nat.zero_le _
theorem bdx_nil {j:Nat} (h:1≤j):BdX j []:=fun i k=>by
  rw[show([]:List (List Rat)).getD i []=[] by simp]
  exact bd_zero.mono h
theorem prod_bd {A B:List (List Rat)} (hA:Sm A) (hB:Sm B):BdX 2000 (Zj A B):=by
  unfold Zj
  split
  · exact fun i k=>(mulT_bd_t hA.bd (turnM_bd hB.bd (by omega)) (n:=10) (fun i _=>hA.cols10 i) i k).mono (by omega)
  · exact bdx_nil (by omega)
theorem prod_len {A B:List (List Rat)} (hA:Sm A) (hB:Sm B):(Zj A B).length≤1000000∧∀i,i<(Zj A B).length→((Zj A B).getD i []).length≤1000000:=by
  unfold Zj
  split
  · rw[Qei]
    refine⟨hA.l,fun i hi=>?_⟩
    rw[Qce hi,Qbq,Wr]
    have:=hB.cols10 0
    omega
  · exact⟨by simp,fun i hi=>by simp at hi⟩
theorem turn_bd {A:List (List Rat)} (hA:Sm A):BdX 25 (Zi A):=by
  unfold Zi
  split
  · exact turnM_bd hA.bd (by omega)
  · exact bdx_nil (by omega)
theorem turn_len {A:List (List Rat)} (hA:Sm A):(Zi A).length≤1000000∧∀i,i<(Zi A).length→((Zi A).getD i []).length≤1000000:=by
  unfold Zi
  split
  · rw[Wr]
    refine⟨by have:=hA.cols10 0; omega,fun i hi=>?_⟩
    rw[U8 hi,W6]
    exact hA.l
  · exact⟨by simp,fun i hi=>by simp at hi⟩
theorem det_bd {A:List (List Rat)} (hA:Sm A):BdR 20000 (Vs A):=by
  unfold Vs
  split
  · rename_i h
    have h4:=(hA.four h.1).1
    rw[← minors_det h4]
    exact(bd_minor h4 hA.bd (by have:=Nat.two_pow_pos A.length; omega)).mono (by omega)
  · exact bd_zero.mono (by omega)
theorem quad_bd {A:List (List Rat)} {x:List Rat} (hA:Sm A) (hx:∀k,BdR 25 (x.getD k 0)):BdR 20000 (Wc A x):=by
  unfold Wc
  split
  · rename_i h
    have h4:=(hA.four h.1.1).1
    refine(bd_qSum hA.bd hx A.length).mono ?_
    have:=Nat.mul_le_mul (show A.length≤4 by omega) (Nat.mul_le_mul_right (25+(25+25)+1) (show A.length≤4 by omega))
    omega
  · exact bd_zero.mono (by omega)
end Wx
