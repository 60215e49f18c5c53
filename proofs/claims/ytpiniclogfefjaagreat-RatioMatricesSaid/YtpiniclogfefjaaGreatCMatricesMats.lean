import Derived.Test.YtpiniclogfefjaaGreatCMatricesCheck2
import Derived.Test.YtpiniclogfefjaaGreatCMatricesMLaw
namespace Wx
open Go Go.RowKit Go.Proofs
set_option linter.unusedVariables false

structure Sm (A:List (List Rat)):Prop where
 rows:(A.length≤4∨8<A.length)∧A.length≤10
 cols:∀i,i<A.length→((A.getD i []).length≤4∨8<(A.getD i []).length)∧(A.getD i []).length≤10
 bd:BdX 25 A
theorem Sm.l {A:List (List Rat)} (h:Sm A):A.length≤1000000:=by have:=h.rows; omega
theorem Sm.four {A:List (List Rat)} (h:Sm A) (hR:Right A):A.length<5∧(A.getD 0 []).length<5:=by
 have h1:=hR.rows
 have h2:=hR.cols
 have h3:=h.rows
 have h4:=h.cols 0 h1.1
 omega
theorem side_ok {n:Nat} (h:sideB n=false):(n≤4∨8<n)∧n≤10:=by
 unfold sideB at h
 rw[Bool.or_eq_false_iff,Bool.and_eq_false_iff,decide_eq_false_iff_not,decide_eq_false_iff_not,decide_eq_false_iff_not]at h
 omega
theorem sm_of {LL:List (List FD)} (h:Q9 LL=true):Sm (Qt LL):=by
 unfold Q9 at h
 rw[Bool.and_eq_true,Bool.not_eq_true',List.all_eq_true]at h
 obtain⟨h1,h2⟩:=h
 have row:∀i,i<LL.length→sideB (LL.getD i []).length=false∧Zi (LL.getD i [])=true:=fun i hi=>by
  have hm:LL.getD i []∈LL:=by
   rw[List.getD_eq_getElem?_getD,List.getElem?_eq_getElem hi]
   exact List.getElem_mem hi
  have h3:=h2 _ hm
  unfold Qc8 at h3
  rw[Bool.not_eq_true',Bool.or_eq_false_iff,Bool.not_eq_false']at h3
  exact h3
 refine⟨by rw[Kb]; exact side_ok h1,fun i hi=>?_,fun i k=>?_⟩
 ·rw[Kb]at hi
  rw[Qcu hi,Qcs]
  exact side_ok (row i hi).1
 ·rcases Nat.lt_or_ge i LL.length with hi|hi
  ·rw[Qcu hi]
   exact light_bds (row i hi).2 k
  ·rw[show(Qt LL).getD i []=[]from Vg (by rw[Kb]; exact hi)]
   exact bd_zero.mono (by omega)
theorem okm_of {LL:List (List FD)} (s:Sm (Qt LL)) (h:LL.length≤9223372036854775807∧∀i,i<LL.length→(LL.getD i []).length≤9223372036854775807∧∀k,k<(LL.getD i []).length→FdOk ((LL.getD i []).getD k Q0)):LL.length≤1000000∧∀i,i<LL.length→(LL.getD i []).length≤1000000∧∀k,k<(LL.getD i []).length→FdOk ((LL.getD i []).getD k Q0):=by
 have h1:=s.rows
 rw[Kb]at h1
 refine⟨by omega,fun i hi=>⟨?_,(h.2 i hi).2⟩⟩
 have h2:=s.cols i (by rw[Kb]; exact hi)
 rw[Qcu hi,Qcs]at h2
 omega
theorem U7:∀n,n<5→V0 25 n≤100000000∧dJ 25 n≤100000000∧K6 (25+25) n≤50000000∧(n+1)*(25+25+1)≤2000000:=by decide
theorem mats_bits3:∀n,n<5→∀k,k<n→(1+k*(n*(25+(25+25)+1)))+(25+K6 (25+25) n)+(1+k*(n*(25+(25+25)+1)))+(25+K6 (25+25) n)+1≤100000000:=by decide
theorem nil_row {sz:Nat} {ag:Bool} {f:Nat→Qm}:∀w v,Qs (.slice none 0 0) w v→Qj sz ag 0 f w v:=fun _ _ h=>⟨none,0,h,Nat.le_refl _,Nat.zero_le _,fun h=>absurd h (Nat.lt_irrefl _)⟩
theorem tup_to {p p' q:Qm} (h:∀w v,p w v→p' w v):∀w v,Xn p q w v→Xn p' q w v:=fun w _ ⟨x,y,e,h1,h2⟩=>⟨x,y,e,h w x h1,h2⟩
open Classical in
noncomputable def Vw (A:List (List Rat)):Rat:=if SqOk A then Ym A.length (ent A)else 0
open Classical in
noncomputable def Wi (A:List (List Rat)) (x:List Rat):Int:=if SqOk A∧x.length=A.length then 0 else 4
open Classical in
noncomputable def Wj (A:List (List Rat)) (x:List Rat):Rat:=if SqOk A∧x.length=A.length then qSum A x A.length A.length else 0
theorem k_prod {A B:List (List Rat)} (hA:Sm A) (hB:Sm B):∀(M:Nat→Nat→Prop) (w:World) (v0 v1:Value),Mid M w→Box M (fun w=>(Qr Qd A) w v0) w→Box M (fun w=>(Qr Qd B) w v1) w→Calls Tryz.prog 14 #[v0,v1] w (RetB M (Xn (Qj 1 false (Zl A B).length (fun i=>Qd ((Zl A B).getD i []))) (pI (Wh A B))) w):=by
 by_cases h:(Right A∧Right B)∧B.length=(A.getD 0 []).length
 ·rw[show Zl A B=Ko A (Xu B)from if_pos h,show Wh A B=0 from if_pos h,Qem]
  exact c_Product_ok h.1.1 h.1.2 h.2 hA.bd hB.bd (by omega) (Nat.le_trans (U7 _ (hB.four h.1.2).1).2.2.1 (by omega))
 ·rw[show Zl A B=[]from if_neg h,show Wh A B=4 from if_neg h]
  have key:∀(M:Nat→Nat→Prop) (w:World) (v0 v1:Value),Mid M w→Box M (fun w=>(Qr Qd A) w v0) w→Box M (fun w=>(Qr Qd B) w v1) w→Calls Tryz.prog 14 #[v0,v1] w (RetB M (Xn (Qs (.slice none 0 0)) (pI 4)) w):=by
   by_cases hRA:Right A
   ·by_cases hRB:Right B
    ·exact c_Product_no3 hA.l hB.l hRA hRB (fun e=>h ⟨⟨hRA,hRB⟩,e⟩)
    ·exact c_Product_no2 hA.l hB.l hRA hRB
   ·exact c_Product_no1 hA.l hB.l hRA
  exact fun M w v0 v1 hM h0 h1=>(key M w v0 v1 hM h0 h1).mono fun _ _ k=>Qdn k (tup_to nil_row)
theorem k_turn {A:List (List Rat)} (hA:Sm A):∀(M:Nat→Nat→Prop) (w:World) (v0:Value),Mid M w→Box M (fun w=>(Qr Qd A) w v0) w→Calls Tryz.prog 16 #[v0] w (RetB M (Xn (Qj 1 false (Zn A).length (fun i=>Qd ((Zn A).getD i []))) (pI (chk A))) w):=by
 by_cases h:Right A
 ·rw[show Zn A=Xu A from if_pos h,Up h,Wv]
  exact Qgd h hA.bd
 ·rw[show Zn A=[]from if_neg h,Qbh h]
  have key:∀(M:Nat→Nat→Prop) (w:World) (v0:Value),Mid M w→Box M (fun w=>(Qr Qd A) w v0) w→Calls Tryz.prog 16 #[v0] w (RetB M (Xn (Qs (.slice none 0 0)) (pI 4)) w):=by
   exact Qgc hA.l h
  exact fun M w v0 hM h0=>(key M w v0 hM h0).mono fun _ _ k=>Qdn k (tup_to nil_row)
theorem k_det {A:List (List Rat)} (hA:Sm A):∀(M:Nat→Nat→Prop) (w:World) (v0:Value),Mid M w→Box M (fun w=>(Qr Qd A) w v0) w→Calls Tryz.prog 19 #[v0] w (RetB M (Xn (Qq (Vw A)) (pI (Kv A))) w):=by
 by_cases h:SqOk A
 ·rw[show Vw A=Ym A.length (ent A)from if_pos h,Qa5 h.1 h.2]
  have k:=c_Det h.1 h.rect hA.bd (by omega) (U7 _ (hA.four h.1).1).1 (U7 _ (hA.four h.1).1).2.1
  rw[(detG_det rfl h.rect).1]at k
  exact k
 ·rw[show Vw A=0 from if_neg h,Qa4 h]
  exact c_Det_no hA.l h
theorem k_quad {A:List (List Rat)} {x:List Rat} (hA:Sm A) (hx:∀k,BdR 25 (x.getD k 0)):∀(M:Nat→Nat→Prop) (w:World) (v0 v1:Value),Mid M w→Box M (fun w=>(Qr Qd A) w v0) w→Box M (fun w=>(Qd x) w v1) w→Calls Tryz.prog 21 #[v0,v1] w (RetB M (Xn (Qq (Wj A x)) (pI (Wi A x))) w):=by
 by_cases h:SqOk A∧x.length=A.length
 ·rw[show Wj A x=qSum A x A.length A.length from if_pos h,show Wi A x=0 from if_pos h]
  have h4:=(hA.four h.1.1).1
  exact c_Quadratic_ok h.1 h.2 hA.bd hx ⟨by have:=(U7 _ h4).2.2.1; omega,by have:=(U7 _ h4).2.2.1; omega,mats_bits3 _ h4⟩
 ·rw[show Wj A x=0 from if_neg h,show Wi A x=4 from if_neg h]
  by_cases hR:SqOk A
  ·exact Qgb hR (fun e=>h ⟨hR,e⟩)
  ·exact Qga hA.l hR
theorem kn_prod {A B:List (List Rat)} (hA:Sm A) (hB:Sm B):∀(M:Nat→Nat→Prop) (w:World) (v0 v1:Value),Mid M w→Box M (fun w=>(Qr Qg A) w v0) w→Box M (fun w=>(Qr Qg B) w v1) w→Calls Tryz.prog 15 #[v0,v1] w (RetB M (Xn (Qj 1 false (Zl A B).length (fun i=>Qg ((Zl A B).getD i []))) (pI (Wh A B))) w):=by
 by_cases h:(Right A∧Right B)∧B.length=(A.getD 0 []).length
 ·rw[show Zl A B=Ko A (Xu B)from if_pos h,show Wh A B=0 from if_pos h,Qem]
  exact cn_Times_ok h.1.1 h.1.2 h.2 hA.bd hB.bd (U7 _ (hB.four h.1.2).1).2.2.2
 ·rw[show Zl A B=[]from if_neg h,show Wh A B=4 from if_neg h]
  have key:∀(M:Nat→Nat→Prop) (w:World) (v0 v1:Value),Mid M w→Box M (fun w=>(Qr Qg A) w v0) w→Box M (fun w=>(Qr Qg B) w v1) w→Calls Tryz.prog 15 #[v0,v1] w (RetB M (Xn (Qs (.slice none 0 0)) (pI 4)) w):=by
   by_cases hRA:Right A
   ·by_cases hRB:Right B
    ·exact cn_Times_no3 hA.l hB.l hRA hRB (fun e=>h ⟨⟨hRA,hRB⟩,e⟩)
    ·exact cn_Times_no2 hA.l hB.l hRA hRB
   ·exact cn_Times_no1 hA.l hB.l hRA
  exact fun M w v0 v1 hM h0 h1=>(key M w v0 v1 hM h0 h1).mono fun _ _ k=>Qdn k (tup_to nil_row)
theorem kn_turn {A:List (List Rat)} (hA:Sm A):∀(M:Nat→Nat→Prop) (w:World) (v0:Value),Mid M w→Box M (fun w=>(Qr Qg A) w v0) w→Calls Tryz.prog 17 #[v0] w (RetB M (Xn (Qj 1 false (Zn A).length (fun i=>Qg ((Zn A).getD i []))) (pI (chk A))) w):=by
 by_cases h:Right A
 ·rw[show Zn A=Xu A from if_pos h,Up h,Wv]
  exact Qf8 h
 ·rw[show Zn A=[]from if_neg h,Qbh h]
  have key:∀(M:Nat→Nat→Prop) (w:World) (v0:Value),Mid M w→Box M (fun w=>(Qr Qg A) w v0) w→Calls Tryz.prog 17 #[v0] w (RetB M (Xn (Qs (.slice none 0 0)) (pI 4)) w):=by
   exact Qf7 hA.l h
  exact fun M w v0 hM h0=>(key M w v0 hM h0).mono fun _ _ k=>Qdn k (tup_to nil_row)
theorem kn_det {A:List (List Rat)} (hA:Sm A):∀(M:Nat→Nat→Prop) (w:World) (v0:Value),Mid M w→Box M (fun w=>(Qr Qg A) w v0) w→Calls Tryz.prog 20 #[v0] w (RetB M (Xn (Qz (Vw A)) (pI (Kv A))) w):=by
 by_cases h:SqOk A
 ·rw[show Vw A=Ym A.length (ent A)from if_pos h,Qa5 h.1 h.2]
  exact cn_Det_ok h (hA.four h.1).1 hA.bd (by omega)
 ·rw[show Vw A=0 from if_neg h,Qa4 h]
  exact cn_Det_no hA.l h
theorem kn_quad {A:List (List Rat)} {x:List Rat} (hA:Sm A) (hx:∀k,BdR 25 (x.getD k 0)):∀(M:Nat→Nat→Prop) (w:World) (v0 v1:Value),Mid M w→Box M (fun w=>(Qr Qg A) w v0) w→Box M (fun w=>(Qg x) w v1) w→Calls Tryz.prog 22 #[v0,v1] w (RetB M (Xn (Qz (Wj A x)) (pI (Wi A x))) w):=by
 by_cases h:SqOk A∧x.length=A.length
 ·rw[show Wj A x=qSum A x A.length A.length from if_pos h,show Wi A x=0 from if_pos h]
  have h4:=(hA.four h.1.1).1
  exact Qge h.1 h4 h.2 hA.bd hx ⟨by omega,by omega⟩
 ·rw[show Wj A x=0 from if_neg h,show Wi A x=4 from if_neg h]
  by_cases hR:SqOk A
  ·exact Qf6 hR (fun e=>h ⟨hR,e⟩)
  ·exact Qf5 hA.l hR
theorem Sm.cols10 {A:List (List Rat)} (h:Sm A) (i:Nat):(A.getD i []).length≤10:=by
 rcases Nat.lt_or_ge i A.length with hi|hi
 ·exact(h.cols i hi).2
 ·rw[show A.getD i []=[]from Vg hi]; exact Nat.zero_le _
theorem bdx_nil {j:Nat} (h:1≤j):BdX j []:=fun i k=>by
 rw[show([]:List (List Rat)).getD i []=[] by simp]
 exact bd_zero.mono h
theorem prod_bd {A B:List (List Rat)} (hA:Sm A) (hB:Sm B):BdX 2000 (Zl A B):=by
 unfold Zl
 split
 ·exact fun i k=>(mulT_bd_t hA.bd (turnM_bd hB.bd (by omega)) (n:=10) (fun i _=>hA.cols10 i) i k).mono (by omega)
 ·exact bdx_nil (by omega)
theorem prod_len {A B:List (List Rat)} (hA:Sm A) (hB:Sm B):(Zl A B).length≤1000000∧∀i,i<(Zl A B).length→((Zl A B).getD i []).length≤1000000:=by
 unfold Zl
 split
 ·rw[Qem]
  refine⟨hA.l,fun i hi=>?_⟩
  rw[Qcv hi,Qb1,Wv]
  have:=hB.cols10 0
  omega
 ·exact⟨by simp,fun i hi=>by simp at hi⟩
theorem turn_bd {A:List (List Rat)} (hA:Sm A):BdX 25 (Zn A):=by
 unfold Zn
 split
 ·exact turnM_bd hA.bd (by omega)
 ·exact bdx_nil (by omega)
theorem turn_len {A:List (List Rat)} (hA:Sm A):(Zn A).length≤1000000∧∀i,i<(Zn A).length→((Zn A).getD i []).length≤1000000:=by
 unfold Zn
 split
 ·rw[Wv]
  refine⟨by have:=hA.cols10 0; omega,fun i hi=>?_⟩
  rw[Qah hi,Va]
  exact hA.l
 ·exact⟨by simp,fun i hi=>by simp at hi⟩
theorem det_bd {A:List (List Rat)} (hA:Sm A):BdR 20000 (Vw A):=by
 unfold Vw
 split
 ·rename_i h
  have h4:=(hA.four h.1).1
  rw[← minors_det h4]
  exact(bd_minor h4 hA.bd (by have:=Nat.two_pow_pos A.length; omega)).mono (by omega)
 ·exact bd_zero.mono (by omega)
theorem quad_bd {A:List (List Rat)} {x:List Rat} (hA:Sm A) (hx:∀k,BdR 25 (x.getD k 0)):BdR 20000 (Wj A x):=by
 unfold Wj
 split
 ·rename_i h
  have h4:=(hA.four h.1.1).1
  refine(bd_qSum hA.bd hx A.length).mono ?_
  have:=Nat.mul_le_mul (show A.length≤4 by omega) (Nat.mul_le_mul_right (25+(25+25)+1) (show A.length≤4 by omega))
  omega
 ·exact bd_zero.mono (by omega)
end Wx
