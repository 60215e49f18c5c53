import Derived.Test.YtpiniclogfefjaaGreatCSolvesNLeast
import Derived.Test.YtpiniclogfefjaaGreatCSolvesCheck2
import Derived.Test.YtpiniclogfefjaaGreatCSolvesMLaw
namespace Wx
open Go Go.RowKit Go.Proofs
set_option linter.unusedVariables false

structure Sm (A:List (List Rat)):Prop where
 rows:(A.length≤4∨8<A.length)∧A.length≤10
 cols:∀i,i<A.length→((A.getD i []).length≤4∨8<(A.getD i []).length)∧(A.getD i []).length≤10
 bd:BdX 25 A
theorem Sm.l {A:List (List Rat)} (h:Sm A):A.length≤1000000:=by have:=h.rows; omega
theorem Sm.four {A:List (List Rat)} (h:Sm A) (hR:Right A):A.length<5∧(A.getD 0 []).length<5:=by
 have h1:=hR.rows
 have h2:=hR.cols
 have h3:=h.rows
 have h4:=h.cols 0 h1.1
 omega
theorem side_ok {n:Nat} (h:sideB n=false):(n≤4∨8<n)∧n≤10:=by
 unfold sideB at h
 rw[Bool.or_eq_false_iff,Bool.and_eq_false_iff,decide_eq_false_iff_not,decide_eq_false_iff_not,decide_eq_false_iff_not]at h
 omega
theorem sm_of {LL:List (List FD)} (h:Wo LL=true):Sm (Ja LL):=by
 unfold Wo at h
 rw[Bool.and_eq_true,Bool.not_eq_true',List.all_eq_true]at h
 obtain⟨h1,h2⟩:=h
 have row:∀i,i<LL.length→sideB (LL.getD i []).length=false∧W6 (LL.getD i [])=true:=fun i hi=>by
  have hm:LL.getD i []∈LL:=by
   rw[List.getD_eq_getElem?_getD,List.getElem?_eq_getElem hi]
   exact List.getElem_mem hi
  have h3:=h2 _ hm
  unfold Qe8 at h3
  rw[Bool.not_eq_true',Bool.or_eq_false_iff,Bool.not_eq_false']at h3
  exact h3
 refine⟨by rw[W8]; exact side_ok h1,fun i hi=>?_,fun i k=>?_⟩
 ·rw[W8]at hi
  rw[Qew hi,Qet]
  exact side_ok (row i hi).1
 ·rcases Nat.lt_or_ge i LL.length with hi|hi
  ·rw[Qew hi]
   exact light_bds (row i hi).2 k
  ·rw[show(Ja LL).getD i []=[]from Zv (by rw[W8]; exact hi)]
   exact bd_zero.mono (by omega)
theorem okm_of {LL:List (List FD)} (s:Sm (Ja LL)) (h:LL.length≤9223372036854775807∧∀i,i<LL.length→(LL.getD i []).length≤9223372036854775807∧∀k,k<(LL.getD i []).length→FdOk ((LL.getD i []).getD k Yr)):LL.length≤1000000∧∀i,i<LL.length→(LL.getD i []).length≤1000000∧∀k,k<(LL.getD i []).length→FdOk ((LL.getD i []).getD k Yr):=by
 have h1:=s.rows
 rw[W8]at h1
 refine⟨by omega,fun i hi=>⟨?_,(h.2 i hi).2⟩⟩
 have h2:=s.cols i (by rw[W8]; exact hi)
 rw[Qew hi,Qet]at h2
 omega
theorem Qby:∀n,n<5→Kx 25 n≤100000000∧dJ 25 n≤100000000∧Z8 (25+25) n≤50000000∧(n+1)*(25+25+1)≤2000000:=by decide
theorem mats_bits2:∀n,n<5→∀m,m<5→Kx (Z8 (25+25) n) m≤100000000:=by decide
theorem Vj {sz:Nat} {ag:Bool} {f:Nat→Qg}:∀w v,Qi (.slice none 0 0) w v→Qc sz ag 0 f w v:=fun _ _ h=>⟨none,0,h,Nat.le_refl _,Nat.zero_le _,fun h=>absurd h (Nat.lt_irrefl _)⟩
theorem U3 {p p' q:Qg} (h:∀w v,p w v→p' w v):∀w v,Xr p q w v→Xr p' q w v:=fun w _ ⟨x,y,e,h1,h2⟩=>⟨x,y,e,h w x h1,h2⟩
open Classical in
noncomputable def slvE (A:List (List Rat)) (b:List Rat):Int:=if SqOk A∧b.length=A.length then(if Xk A.length (ent A)=0 then 6 else 0)else 4
open Classical in
noncomputable def slvV (A:List (List Rat)) (b:List Rat):List Rat:=if(SqOk A∧b.length=A.length)∧Xk A.length (ent A)≠0 then Jj A b else[]
open Classical in
noncomputable def invE (A:List (List Rat)):Int:=if SqOk A then(if Xk A.length (ent A)=0 then 6 else 0)else 4
open Classical in
noncomputable def Uj (A:List (List Rat)):List (List Rat):=if SqOk A∧Xk A.length (ent A)≠0 then Wk A (Um A.length)else[]
open Classical in
noncomputable def leE (A:List (List Rat)) (b:List Rat):Int:=if Right A∧b.length=A.length then(if Xk (A.getD 0 []).length (ent (Jy A))=0 then 6 else 0)else 4
open Classical in
noncomputable def leV (A:List (List Rat)) (b:List Rat):List Rat:=if(Right A∧b.length=A.length)∧Xk (A.getD 0 []).length (ent (Jy A))≠0 then Jj (Jy A) (Kl A b)else[]
theorem sing_iff {A:List (List Rat)} (hR:SqOk A) {B:List (List Rat)} {m:Nat} (hB:∀i,i<A.length→(B.getD i []).length=m):Qa6 (Y8 A B) A.length↔Xk A.length (ent A)=0:=by
 rw[sing_det rfl hR.rect hB,(Qbl rfl hR.rect).1]
theorem Qhw {A:List (List Rat)} {b:List Rat} (hR:SqOk A) (hb:b.length=A.length):Sing A b↔Xk A.length (ent A)=0:=sing_iff (m:=1) hR fun i hi=>Wv (by omega)
theorem singL_iff {A:List (List Rat)} {b:List Rat} (hA:Right A) (hb:b.length=A.length):Sing (Jy A) (Kl A b)↔Xk (A.getD 0 []).length (ent (Jy A))=0:=by
 have h:=Qhw (A:=Jy A) (b:=Kl A b) (lsM_sq hA) (by rw[Qf3,K5])
 rw[K5]at h
 exact h
theorem k_sol {A:List (List Rat)} {b:List Rat} (hA:Sm A) (hb:∀k,BdR 25 (b.getD k 0)):∀(M:Nat→Nat→Prop) (w:World) (v0 v1:Value),Mid M w→Box M (fun w=>(Qc 1 false A.length (fun i=>Qe (A.getD i []))) w v0) w→Box M (fun w=>(Qe b) w v1) w→Calls Tryz.prog 24 #[v0,v1] w (RetB M (Xr (Qe (slvV A b)) (pI (slvE A b))) w):=by
 by_cases h:SqOk A∧b.length=A.length
 ·have h4:=(hA.four h.1.1).1
  by_cases hd:Xk A.length (ent A)=0
  ·rw[show slvV A b=[]from if_neg (fun e=>e.2 hd),show slvE A b=6 from(if_pos h).trans (if_pos hd)]
   have key:∀(M:Nat→Nat→Prop) (w:World) (v0 v1:Value),Mid M w→Box M (fun w=>(Qc 1 false A.length (fun i=>Qe (A.getD i []))) w v0) w→Box M (fun w=>(Qe b) w v1) w→Calls Tryz.prog 24 #[v0,v1] w (RetB M (Xr (Qi (.slice none 0 0)) (pI 6)) w):=by
    exact c_Solve_no h.1.1 h.1.rect h.2 hA.bd hb (by omega) (Qby _ h4).1 ((Qhw h.1 h.2).2 hd)
   exact fun M w v0 v1 hM h0 h1=>(key M w v0 v1 hM h0 h1).mono fun _ _ k=>Z6 k (U3 Vj)
  ·rw[show slvV A b=Jj A b from if_pos ⟨h,hd⟩,show slvE A b=0 from(if_pos h).trans (if_neg hd)]
   exact c_Solve_ok h.1.1 h.1.rect h.2 hA.bd hb (by omega) (Qby _ h4).1 (fun e=>hd ((Qhw h.1 h.2).1 e))
 ·rw[show slvV A b=[]from if_neg (fun e=>h e.1),show slvE A b=4 from if_neg h]
  have key:∀(M:Nat→Nat→Prop) (w:World) (v0 v1:Value),Mid M w→Box M (fun w=>(Qc 1 false A.length (fun i=>Qe (A.getD i []))) w v0) w→Box M (fun w=>(Qe b) w v1) w→Calls Tryz.prog 24 #[v0,v1] w (RetB M (Xr (Qi (.slice none 0 0)) (pI 4)) w):=by
   by_cases hR:SqOk A
   ·exact c_Solve_no2 hR (fun e=>h ⟨hR,e⟩)
   ·exact c_Solve_no1 hA.l hR
  exact fun M w v0 v1 hM h0 h1=>(key M w v0 v1 hM h0 h1).mono fun _ _ k=>Z6 k (U3 Vj)
theorem k_inv {A:List (List Rat)} (hA:Sm A):∀(M:Nat→Nat→Prop) (w:World) (v0:Value),Mid M w→Box M (fun w=>(Qc 1 false A.length (fun i=>Qe (A.getD i []))) w v0) w→Calls Tryz.prog 26 #[v0] w (RetB M (Xr (Qc 1 false (Uj A).length (fun i=>Qe ((Uj A).getD i []))) (pI (invE A))) w):=by
 by_cases h:SqOk A
 ·have h4:=(hA.four h.1).1
  by_cases hd:Xk A.length (ent A)=0
  ·rw[show Uj A=[]from if_neg (fun e=>e.2 hd),show invE A=6 from(if_pos h).trans (if_pos hd)]
   have key:∀(M:Nat→Nat→Prop) (w:World) (v0:Value),Mid M w→Box M (fun w=>(Qc 1 false A.length (fun i=>Qe (A.getD i []))) w v0) w→Calls Tryz.prog 26 #[v0] w (RetB M (Xr (Qi (.slice none 0 0)) (pI 6)) w):=by
    exact c_Inverse_no h.1 h.rect hA.bd (by omega) (Qby _ h4).1 ((sing_iff (m:=A.length) h fun i hi=>Qam hi).2 hd)
   exact fun M w v0 hM h0=>(key M w v0 hM h0).mono fun _ _ k=>Z6 k (U3 Vj)
  ·rw[show Uj A=Wk A (Um A.length)from if_pos ⟨h,hd⟩,show invE A=0 from(if_pos h).trans (if_neg hd),Jx]
   exact c_Inverse_ok h.1 h.rect hA.bd (by omega) (Qby _ h4).1 (fun e=>hd ((sing_iff (m:=A.length) h fun i hi=>Qam hi).1 e))
 ·rw[show Uj A=[]from if_neg (fun e=>h e.1),show invE A=4 from if_neg h]
  have key:∀(M:Nat→Nat→Prop) (w:World) (v0:Value),Mid M w→Box M (fun w=>(Qc 1 false A.length (fun i=>Qe (A.getD i []))) w v0) w→Calls Tryz.prog 26 #[v0] w (RetB M (Xr (Qi (.slice none 0 0)) (pI 4)) w):=by
   exact c_Inverse_no1 hA.l h
  exact fun M w v0 hM h0=>(key M w v0 hM h0).mono fun _ _ k=>Z6 k (U3 Vj)
theorem k_least {A:List (List Rat)} {b:List Rat} (hA:Sm A) (hb:∀k,BdR 25 (b.getD k 0)):∀(M:Nat→Nat→Prop) (w:World) (v0 v1:Value),Mid M w→Box M (fun w=>(Qc 1 false A.length (fun i=>Qe (A.getD i []))) w v0) w→Box M (fun w=>(Qe b) w v1) w→Calls Tryz.prog 28 #[v0,v1] w (RetB M (Xr (Qe (leV A b)) (pI (leE A b))) w):=by
 by_cases h:Right A∧b.length=A.length
 ·have h4:=hA.four h.1
  by_cases hd:Xk (A.getD 0 []).length (ent (Jy A))=0
  ·rw[show leV A b=[]from if_neg (fun e=>e.2 hd),show leE A b=6 from(if_pos h).trans (if_pos hd)]
   have key:∀(M:Nat→Nat→Prop) (w:World) (v0 v1:Value),Mid M w→Box M (fun w=>(Qc 1 false A.length (fun i=>Qe (A.getD i []))) w v0) w→Box M (fun w=>(Qe b) w v1) w→Calls Tryz.prog 28 #[v0,v1] w (RetB M (Xr (Qi (.slice none 0 0)) (pI 6)) w):=by
    exact c_Least_no h.1 h.2 hA.bd hb (by omega) (mats_bits2 _ h4.1 _ h4.2) ((singL_iff h.1 h.2).2 hd)
   exact fun M w v0 v1 hM h0 h1=>(key M w v0 v1 hM h0 h1).mono fun _ _ k=>Z6 k (U3 Vj)
  ·rw[show leV A b=Jj (Jy A) (Kl A b)from if_pos ⟨h,hd⟩,show leE A b=0 from(if_pos h).trans (if_neg hd)]
   exact c_Least_ok h.1 h.2 hA.bd hb (by omega) (mats_bits2 _ h4.1 _ h4.2) (fun e=>hd ((singL_iff h.1 h.2).1 e))
 ·rw[show leV A b=[]from if_neg (fun e=>h e.1),show leE A b=4 from if_neg h]
  have key:∀(M:Nat→Nat→Prop) (w:World) (v0 v1:Value),Mid M w→Box M (fun w=>(Qc 1 false A.length (fun i=>Qe (A.getD i []))) w v0) w→Box M (fun w=>(Qe b) w v1) w→Calls Tryz.prog 28 #[v0,v1] w (RetB M (Xr (Qi (.slice none 0 0)) (pI 4)) w):=by
   by_cases hR:Right A
   ·exact c_Least_no2 hR (fun e=>h ⟨hR,e⟩)
   ·exact c_Least_no1 hA.l hR
  exact fun M w v0 v1 hM h0 h1=>(key M w v0 v1 hM h0 h1).mono fun _ _ k=>Z6 k (U3 Vj)
theorem kn_sol {A:List (List Rat)} {b:List Rat} (hA:Sm A) (hb:∀k,BdR 25 (b.getD k 0)):∀(M:Nat→Nat→Prop) (w:World) (v0 v1:Value),Mid M w→Box M (fun w=>(Qc 1 false A.length (fun i=>Qk (A.getD i []))) w v0) w→Box M (fun w=>(Qk b) w v1) w→Calls Tryz.prog 25 #[v0,v1] w (RetB M (Xr (Qk (slvV A b)) (pI (slvE A b))) w):=by
 by_cases h:SqOk A∧b.length=A.length
 ·have h4:=(hA.four h.1.1).1
  by_cases hd:Xk A.length (ent A)=0
  ·rw[show slvV A b=[]from if_neg (fun e=>e.2 hd),show slvE A b=6 from(if_pos h).trans (if_pos hd)]
   have key:∀(M:Nat→Nat→Prop) (w:World) (v0 v1:Value),Mid M w→Box M (fun w=>(Qc 1 false A.length (fun i=>Qk (A.getD i []))) w v0) w→Box M (fun w=>(Qk b) w v1) w→Calls Tryz.prog 25 #[v0,v1] w (RetB M (Xr (Qi (.slice none 0 0)) (pI 6)) w):=by
    exact Qdp h.1 h4 h.2 hA.bd hb ⟨by omega,by omega⟩ hd
   exact fun M w v0 v1 hM h0 h1=>(key M w v0 v1 hM h0 h1).mono fun _ _ k=>Z6 k (U3 Vj)
  ·rw[show slvV A b=Jj A b from if_pos ⟨h,hd⟩,show slvE A b=0 from(if_pos h).trans (if_neg hd)]
   exact Qft h.1 h4 h.2 hA.bd hb ⟨by omega,by omega⟩ hd
 ·rw[show slvV A b=[]from if_neg (fun e=>h e.1),show slvE A b=4 from if_neg h]
  have key:∀(M:Nat→Nat→Prop) (w:World) (v0 v1:Value),Mid M w→Box M (fun w=>(Qc 1 false A.length (fun i=>Qk (A.getD i []))) w v0) w→Box M (fun w=>(Qk b) w v1) w→Calls Tryz.prog 25 #[v0,v1] w (RetB M (Xr (Qi (.slice none 0 0)) (pI 4)) w):=by
   by_cases hR:SqOk A
   ·exact cn_Solve_no2 hR (fun e=>h ⟨hR,e⟩)
   ·exact cn_Solve_no1 hA.l hR
  exact fun M w v0 v1 hM h0 h1=>(key M w v0 v1 hM h0 h1).mono fun _ _ k=>Z6 k (U3 Vj)
theorem kn_inv {A:List (List Rat)} (hA:Sm A):∀(M:Nat→Nat→Prop) (w:World) (v0:Value),Mid M w→Box M (fun w=>(Qc 1 false A.length (fun i=>Qk (A.getD i []))) w v0) w→Calls Tryz.prog 27 #[v0] w (RetB M (Xr (Qc 1 false (Uj A).length (fun i=>Qk ((Uj A).getD i []))) (pI (invE A))) w):=by
 by_cases h:SqOk A
 ·have h4:=(hA.four h.1).1
  by_cases hd:Xk A.length (ent A)=0
  ·rw[show Uj A=[]from if_neg (fun e=>e.2 hd),show invE A=6 from(if_pos h).trans (if_pos hd)]
   have key:∀(M:Nat→Nat→Prop) (w:World) (v0:Value),Mid M w→Box M (fun w=>(Qc 1 false A.length (fun i=>Qk (A.getD i []))) w v0) w→Calls Tryz.prog 27 #[v0] w (RetB M (Xr (Qi (.slice none 0 0)) (pI 6)) w):=by
    exact Qir h h4 hA.bd ⟨by omega,by omega⟩ hd
   exact fun M w v0 hM h0=>(key M w v0 hM h0).mono fun _ _ k=>Z6 k (U3 Vj)
  ·rw[show Uj A=Wk A (Um A.length)from if_pos ⟨h,hd⟩,show invE A=0 from(if_pos h).trans (if_neg hd),Jx]
   exact cn_Inverse_ok h h4 hA.bd ⟨by omega,by omega⟩ hd
 ·rw[show Uj A=[]from if_neg (fun e=>h e.1),show invE A=4 from if_neg h]
  have key:∀(M:Nat→Nat→Prop) (w:World) (v0:Value),Mid M w→Box M (fun w=>(Qc 1 false A.length (fun i=>Qk (A.getD i []))) w v0) w→Calls Tryz.prog 27 #[v0] w (RetB M (Xr (Qi (.slice none 0 0)) (pI 4)) w):=by
   exact cn_Inverse_no hA.l h
  exact fun M w v0 hM h0=>(key M w v0 hM h0).mono fun _ _ k=>Z6 k (U3 Vj)
theorem kn_least {A:List (List Rat)} {b:List Rat} (hA:Sm A) (hb:∀k,BdR 25 (b.getD k 0)):∀(M:Nat→Nat→Prop) (w:World) (v0 v1:Value),Mid M w→Box M (fun w=>(Qc 1 false A.length (fun i=>Qk (A.getD i []))) w v0) w→Box M (fun w=>(Qk b) w v1) w→Calls Tryz.prog 29 #[v0,v1] w (RetB M (Xr (Qk (leV A b)) (pI (leE A b))) w):=by
 by_cases h:Right A∧b.length=A.length
 ·have h4:=hA.four h.1
  by_cases hd:Xk (A.getD 0 []).length (ent (Jy A))=0
  ·rw[show leV A b=[]from if_neg (fun e=>e.2 hd),show leE A b=6 from(if_pos h).trans (if_pos hd)]
   have key:∀(M:Nat→Nat→Prop) (w:World) (v0 v1:Value),Mid M w→Box M (fun w=>(Qc 1 false A.length (fun i=>Qk (A.getD i []))) w v0) w→Box M (fun w=>(Qk b) w v1) w→Calls Tryz.prog 29 #[v0,v1] w (RetB M (Xr (Qi (.slice none 0 0)) (pI 6)) w):=by
    exact cn_Least_sing h.1 h4 h.2 hA.bd hb ⟨by omega,by omega⟩ hd
   exact fun M w v0 v1 hM h0 h1=>(key M w v0 v1 hM h0 h1).mono fun _ _ k=>Z6 k (U3 Vj)
  ·rw[show leV A b=Jj (Jy A) (Kl A b)from if_pos ⟨h,hd⟩,show leE A b=0 from(if_pos h).trans (if_neg hd)]
   exact cn_Least_ok h.1 h4 h.2 hA.bd hb ⟨by omega,by omega⟩ hd
 ·rw[show leV A b=[]from if_neg (fun e=>h e.1),show leE A b=4 from if_neg h]
  have key:∀(M:Nat→Nat→Prop) (w:World) (v0 v1:Value),Mid M w→Box M (fun w=>(Qc 1 false A.length (fun i=>Qk (A.getD i []))) w v0) w→Box M (fun w=>(Qk b) w v1) w→Calls Tryz.prog 29 #[v0,v1] w (RetB M (Xr (Qi (.slice none 0 0)) (pI 4)) w):=by
   by_cases hR:Right A
   ·exact cn_Least_no2 hR (fun e=>h ⟨hR,e⟩)
   ·exact cn_Least_no1 hA.l hR
  exact fun M w v0 v1 hM h0 h1=>(key M w v0 v1 hM h0 h1).mono fun _ _ k=>Z6 k (U3 Vj)
theorem Sm.cols10 {A:List (List Rat)} (h:Sm A) (i:Nat):(A.getD i []).length≤10:=by
 rcases Nat.lt_or_ge i A.length with hi|hi
 ·exact(h.cols i hi).2
 ·rw[show A.getD i []=[]from Zv hi]; exact Nat.zero_le _
theorem bdx_nil {j:Nat} (h:1≤j):BdX j []:=fun i k=>by
 rw[show([]:List (List Rat)).getD i []=[] by simp]
 exact bd_zero.mono h
theorem slv_bd {A:List (List Rat)} {b:List Rat} (hA:Sm A) (hb:∀k,BdR 25 (b.getD k 0)):∀k,BdR 100000000 ((slvV A b).getD k 0):=by
 unfold slvV
 split
 ·rename_i h
  exact fun k=>(bd_col (solX_bd hA.bd (Qbs hb (by omega)) (by omega)) (Qea (by omega) _) 0 k).mono (Qby _ (hA.four h.1.1.1).1).1
 ·exact fun k=>bd_zero.mono (by omega)
theorem slvV_len {A:List (List Rat)} {b:List Rat} (hA:Sm A):(slvV A b).length≤1000000:=by
 unfold slvV
 split
 ·rw[Qgw]; exact hA.l
 ·simp
theorem inv_bd {A:List (List Rat)} (hA:Sm A):BdX 100000000 (Uj A):=by
 unfold Uj
 split
 ·rename_i h
  exact fun i k=>(solX_bd hA.bd (oneM_bd (by omega)) (by omega) i k).mono (Qby _ (hA.four h.1.1).1).1
 ·exact bdx_nil (by omega)
theorem inv_len {A:List (List Rat)} (hA:Sm A):(Uj A).length≤1000000∧∀i,i<(Uj A).length→((Uj A).getD i []).length≤1000000:=by
 unfold Uj
 split
 ·rename_i h
  rw[Jx]
  refine⟨hA.l,fun i hi=>?_⟩
  rw[Qhx h.1.rect (fun i hi=>Qam hi) i (by rw[Jx]; exact hi)]
  exact hA.l
 ·exact⟨by simp,fun i hi=>by simp at hi⟩
theorem le_bits:∀n,n<5→Kx (1+4*(25+25+1)) n≤100000000:=by decide
theorem le_bd {A:List (List Rat)} {b:List Rat} (hA:Sm A) (hb:∀k,BdR 25 (b.getD k 0)):∀k,BdR 100000000 ((leV A b).getD k 0):=by
 unfold leV
 split
 ·rename_i h
  have h4:=hA.four h.1.1
  refine fun k=>(bd_col (solX_bd (lsM_bd hA.bd (by omega) (by omega)) (Qbs (lsB_bd hA.bd hb (by omega) (by omega)) (by omega)) (by omega)) (Qea (by omega) _) 0 k).mono ?_
  rw[K5]
  exact le_bits _ h4.2
 ·exact fun k=>bd_zero.mono (by omega)
theorem le_len {A:List (List Rat)} {b:List Rat} (hA:Sm A):(leV A b).length≤1000000:=by
 unfold leV
 split
 ·rw[Qgw,K5]
  have:=hA.cols10 0
  omega
 ·simp
end Wx

namespace Wx
attribute [local irreducible] Q0
set_option maxRecDepth 100000
open Go Go.RowKit Go.Proofs
set_option linter.unusedVariables false

theorem solves_bad {La:List (List FD)} {Lx:List FD} (hLa:La.length≤9223372036854775807∧∀i,i<La.length→(La.getD i []).length≤9223372036854775807∧∀k,k<(La.getD i []).length→FdOk ((La.getD i []).getD k Yr)) (hLx:Lx.length≤9223372036854775807∧∀k,k<Lx.length→FdOk (Lx.getD k Yr)) (hbad:((!(Wo La)||!(W6 Lx))||decide ((Lx.length:Int)>10))=true):∀(M:Nat→Nat→Prop) (w:World) (v0 v1:Value),Mid M w→Box M (fun w=>(Qc 1 false La.length (fun i=>Qc 2 true (La.getD i []).length (fun k=>Y6 ((La.getD i []).getD k Yr).1 ((La.getD i []).getD k Yr).2.1))) w v0) w→Box M (fun w=>(Qc 2 true Lx.length (fun i=>Y6 (Lx.getD i Yr).1 (Lx.getD i Yr).2.1)) w v1) w→Calls Tryz.prog 5 #[v0,v1] w (RetB M (pB true) w):=by
 intro M w0 v0 v1 hM hv0 hv1
 refine Q8 (N:=110) Tryz.func5 rfl rfl rfl hM (show EntsA M w0 [v0,v1] [⟨none,none,0,Qc 1 false La.length (fun i=>Qc 2 true (La.getD i []).length (fun k=>Y6 ((La.getD i []).getD k Yr).1 ((La.getD i []).getD k Yr).2.1))⟩,⟨none,none,1,Qc 2 true Lx.length (fun i=>Y6 (Lx.getD i Yr).1 (Lx.getD i Yr).2.1)⟩]from⟨⟨rfl,_,rfl,hv0⟩,⟨rfl,_,rfl,hv1⟩,trivial⟩) fun a hI=>?_
 refine Qj hI 1 [Uc 0 4 _] (.kk .z) ⟨mv,trivial⟩ (.kkk .z) fun a w hI=>?_
 refine wp_seq ?_
 refine Qj hI 13 [Uc 0 21 _,Uc 1 22 _,Uc 2 23 _,Uc 3 24 _,Uc 4 25 _,Uc 5 26 _,Uc 6 27 _,Uc 7 28 _,Uc 8 29 _,Uc 9 30 _,Uc 10 31 (Z2 (((!(Wo La))||(!(W6 Lx)))=false) (pI (Lx.length:Int))),Uc 11 32 _,Uc 12 33 (pB true)] (.kkk .z) ⟨mv,Z0 (c_small hLa.1 (fun i hi=>(hLa.2 i hi).1)),nt,mv,gd fun h=>gmv h,gd fun h=>gcg1 h (c_light hLx.1),gd fun h=>gnt h,pk,mv,gd fun h=>gmv h,Jg 11 rfl rfl (fun hc=>Qm (.sel (.tmp 12 rfl rfl) hc) (Va).under (.sel hc 13 rfl)) (by kernel_rfl) (fun _=>.none (by kernel_rfl)) (fun hc=>.sel_no hc 13 rfl),gd fun h=>gbl h,Zt (q:=pB (((!(Wo La))||(!(W6 Lx)))||(decide ((Lx.length:Int)>(10:Int))))) (.tmp 11 rfl rfl) (fun h=>.imp (.const _) fun _ _ e=>by rw[h]; exact e) (fun h=>.imp (.sel (.tmp 14 rfl rfl) (h)) fun _ _ e=>by rw[h]; exact e) (.at_ 15 _ _ rfl (Yt (hbad))),trivial⟩ (.kkkd (.d8 (.dddk .z))) fun a w hI=>?_
 refine Y9 hI 3 rfl ?_
 refine Qj hI 2 [Uc 0 34 (pB true),Uc 1 4 _] (.kk (.t 1 (.k .z))) ⟨op_call0 (fun _ _=>by kernel_rfl) (Y2 _) (.here 4 rfl) (c_awake),mv,trivial⟩ (.kkdd (.dk .z)) fun a w hI=>?_
 refine wp_ret ?_
 refine Xf ?_
 exact Zu hI rfl (.tmp 2 rfl)
set_option maxHeartbeats 1000000 in
theorem solves_ok {La:List (List FD)} {Lx:List FD} (hLa:La.length≤9223372036854775807∧∀i,i<La.length→(La.getD i []).length≤9223372036854775807∧∀k,k<(La.getD i []).length→FdOk ((La.getD i []).getD k Yr)) (hLx:Lx.length≤9223372036854775807∧∀k,k<Lx.length→FdOk (Lx.getD k Yr)) (hgood:((!(Wo La)||!(W6 Lx))||decide ((Lx.length:Int)>10))=false) (sA:Sm (Ja La)) (bX:∀k,BdR 25 ((Z9 Lx).getD k 0)) (hl10:Lx.length≤10):∀(M:Nat→Nat→Prop) (w:World) (v0 v1:Value),Mid M w→Box M (fun w=>(Qc 1 false La.length (fun i=>Qc 2 true (La.getD i []).length (fun k=>Y6 ((La.getD i []).getD k Yr).1 ((La.getD i []).getD k Yr).2.1))) w v0) w→Box M (fun w=>(Qc 2 true Lx.length (fun i=>Y6 (Lx.getD i Yr).1 (Lx.getD i Yr).2.1)) w v1) w→Calls Tryz.prog 5 #[v0,v1] w (RetB M (pB true) w):=by
 intro M w0 v0 v1 hM hv0 hv1
 refine Q8 (N:=110) Tryz.func5 rfl rfl rfl hM (show EntsA M w0 [v0,v1] [⟨none,none,0,Qc 1 false La.length (fun i=>Qc 2 true (La.getD i []).length (fun k=>Y6 ((La.getD i []).getD k Yr).1 ((La.getD i []).getD k Yr).2.1))⟩,⟨none,none,1,Qc 2 true Lx.length (fun i=>Y6 (Lx.getD i Yr).1 (Lx.getD i Yr).2.1)⟩]from⟨⟨rfl,_,rfl,hv0⟩,⟨rfl,_,rfl,hv1⟩,trivial⟩) fun a hI=>?_
 refine Qj hI 1 [Uc 0 4 _] (.kk .z) ⟨mv,trivial⟩ (.kkk .z) fun a w hI=>?_
 refine wp_seq ?_
 refine Qj hI 13 [Uc 0 21 _,Uc 1 22 _,Uc 2 23 _,Uc 3 24 _,Uc 4 25 _,Uc 5 26 _,Uc 6 27 _,Uc 7 28 _,Uc 8 29 _,Uc 9 30 _,Uc 10 31 (Z2 (((!(Wo La))||(!(W6 Lx)))=false) (pI (Lx.length:Int))),Uc 11 32 _,Uc 12 33 (pB false)] (.kkk .z) ⟨mv,Z0 (c_small hLa.1 (fun i hi=>(hLa.2 i hi).1)),nt,mv,gd fun h=>gmv h,gd fun h=>gcg1 h (c_light hLx.1),gd fun h=>gnt h,pk,mv,gd fun h=>gmv h,Jg 11 rfl rfl (fun hc=>Qm (.sel (.tmp 12 rfl rfl) hc) (Va).under (.sel hc 13 rfl)) (by kernel_rfl) (fun _=>.none (by kernel_rfl)) (fun hc=>.sel_no hc 13 rfl),gd fun h=>gbl h,Zt (q:=pB (((!(Wo La))||(!(W6 Lx)))||(decide ((Lx.length:Int)>(10:Int))))) (.tmp 11 rfl rfl) (fun h=>.imp (.const _) fun _ _ e=>by rw[h]; exact e) (fun h=>.imp (.sel (.tmp 14 rfl rfl) (h)) fun _ _ e=>by rw[h]; exact e) (.at_ 15 _ _ rfl (Yt (hgood))),trivial⟩ (.kkkd (.d8 (.dddk .z))) fun a w hI=>?_
 refine Xv hI 3 rfl ?_
 refine wp_skip ?_
 refine Qb ?_
 refine Qj hI 7 [Uc 0 36 _,Uc 1 37 _,Uc 2 35 _,Uc 3 38 _,Uc 4 39 _,Uc 5 5 _,Uc 6 6 _] (.kkkk .z) ⟨mv,Z0 (c_matrix (okm_of sA hLa)),mv,ext,ext,mv,mv,trivial⟩ (.dkkd (.dddd (.dkk .z))) fun a w hI=>?_
 refine Qj hI 7 [Uc 0 41 _,Uc 1 42 _,Uc 2 40 _,Uc 3 43 _,Uc 4 44 _,Uc 5 7 _,Uc 6 8 _] (.kkkk .z) ⟨mv,Z0 (c_list ⟨by omega,hLx.2⟩),mv,ext,ext,mv,mv,trivial⟩ (.dkkk (.dddd (.dkk .z))) fun a w hI=>?_
 refine Qj hI 8 [Uc 0 46 _,Uc 1 47 _,Uc 2 48 (Xr (Qe (slvV (Ja La) (Z9 Lx))) (pI (slvE (Ja La) (Z9 Lx)))),Uc 3 45 _,Uc 4 49 _,Uc 5 50 _,Uc 6 9 _,Uc 7 10 _] (.kkkk (.k .z)) ⟨mv,mv,Ui ((by have k:=k_sol sA bX; simp only[W8]at k; exact k)),mv,ext,ext,mv,mv,trivial⟩ (.kkkk (.kddd (.dddk (.k .z)))) fun a w hI=>?_
 refine Qj hI 8 [Uc 0 52 _,Uc 1 53 _,Uc 2 54 (Xr (Qk (slvV (Ja La) (Z9 Lx))) (pI (slvE (Ja La) (Z9 Lx)))),Uc 3 51 _,Uc 4 55 _,Uc 5 56 _,Uc 6 11 _,Uc 7 12 _] (.kkkk (.kkk .z)) ⟨mv,mv,Ui ((by have k:=kn_sol sA bX; simp only[W8]at k; exact k)),mv,ext,ext,mv,mv,trivial⟩ (.kkkk (.kkkd (.dddd (.dkk .z)))) fun a w hI=>?_
 refine Qj hI 7 [Uc 0 58 _,Uc 1 59 (Xr (Qc 1 false (Uj (Ja La)).length (fun i=>Qe ((Uj (Ja La)).getD i []))) (pI (invE (Ja La)))),Uc 2 57 _,Uc 3 60 _,Uc 4 61 _,Uc 5 13 _,Uc 6 14 _] (.k8 (.k .z)) ⟨mv,Z0 ((by have k:=k_inv sA; simp only[W8]at k; exact k)),mv,ext,ext,mv,mv,trivial⟩ (.k8 (.kddd (.ddkk .z))) fun a w hI=>?_
 refine Qj hI 7 [Uc 0 63 _,Uc 1 64 (Xr (Qc 1 false (Uj (Ja La)).length (fun i=>Qk ((Uj (Ja La)).getD i []))) (pI (invE (Ja La)))),Uc 2 62 _,Uc 3 65 _,Uc 4 66 _,Uc 5 15 _,Uc 6 16 _] (.k8 (.kkk .z)) ⟨mv,Z0 ((by have k:=kn_inv sA; simp only[W8]at k; exact k)),mv,ext,ext,mv,mv,trivial⟩ (.k8 (.kkkd (.dddd (.kk .z)))) fun a w hI=>?_
 refine Qj hI 8 [Uc 0 68 _,Uc 1 69 _,Uc 2 70 (Xr (Qe (leV (Ja La) (Z9 Lx))) (pI (leE (Ja La) (Z9 Lx)))),Uc 3 67 _,Uc 4 71 _,Uc 5 72 _,Uc 6 17 _,Uc 7 18 _] (.k8 (.kkkk (.k .z))) ⟨mv,mv,Ui ((by have k:=k_least sA bX; simp only[W8]at k; exact k)),mv,ext,ext,mv,mv,trivial⟩ (.kdkd (.k8 (.kddd (.dddk (.k .z))))) fun a w hI=>?_
 refine Qj hI 8 [Uc 0 74 _,Uc 1 75 _,Uc 2 76 (Xr (Qk (leV (Ja La) (Z9 Lx))) (pI (leE (Ja La) (Z9 Lx)))),Uc 3 73 _,Uc 4 77 _,Uc 5 78 _,Uc 6 19 _,Uc 7 20 _] (.k8 (.kkkk (.k .z))) ⟨mv,mv,Ui ((by have k:=kn_least sA bX; simp only[W8]at k; exact k)),mv,ext,ext,mv,mv,trivial⟩ (.kddk (.k8 (.kddd (.dddk (.k .z))))) fun a w hI=>?_
 refine Qj hI 32 [Uc 0 79 _,Uc 1 80 _,Uc 2 81 (pB true),Uc 3 82 _,Uc 4 83 _,Uc 5 84 _,Uc 6 85 _,Uc 7 86 (pB true),Uc 8 87 _,Uc 9 88 _,Uc 10 89 _,Uc 11 90 (pB true),Uc 12 91 (pB true),Uc 13 92 _,Uc 14 93 _,Uc 15 94 _,Uc 16 95 _,Uc 17 96 (pB true),Uc 18 97 _,Uc 19 98 _,Uc 20 99 _,Uc 21 100 (pB true),Uc 22 101 (pB true),Uc 23 102 _,Uc 24 103 _,Uc 25 104 _,Uc 26 105 _,Uc 27 106 (pB true),Uc 28 107 _,Uc 29 108 (pB true),Uc 30 109 (pB true),Uc 31 4 _] (.t 31 (.k8 (.kkkk .z))) ⟨mv,mv,Q6 (v:=.bool (((slvE (Ja La) (Z9 Lx))==(slvE (Ja La) (Z9 Lx))))) (.tmp 13 rfl rfl) (.tmp 14 rfl rfl) (fun _=>rfl) (.at_ 15 _ _ rfl (Yt (beq_self_eq_true _))),mv,ye mv,ye mv,ye (Ui (c_Are (slvV_len sA) (slv_bd sA bX) (by omega))),Zt (b:=true) (.tmp 16 rfl rfl) (fun _=>(.tmp 19 rfl rfl)) (fun h=>by cases h) (.here 20 rfl),mv,ye mv,ye mv,ye (Q6 (v:=.bool (((invE (Ja La))==(invE (Ja La))))) (.tmp 22 rfl rfl) (.tmp 23 rfl rfl) (fun _=>rfl) (.at_ 24 _ _ rfl (Yt (beq_self_eq_true _)))),Zt (b:=true) (.tmp 21 rfl rfl) (fun _=>(.tmp 24 rfl rfl)) (fun h=>by cases h) (.here 25 rfl),mv,ye mv,ye mv,ye (Ui (c_IsMatrix (inv_len sA) (inv_bd sA) (by omega))),Zt (b:=true) (.tmp 26 rfl rfl) (fun _=>(.tmp 29 rfl rfl)) (fun h=>by cases h) (.here 30 rfl),mv,ye mv,ye mv,ye (Q6 (v:=.bool (((leE (Ja La) (Z9 Lx))==(leE (Ja La) (Z9 Lx))))) (.tmp 32 rfl rfl) (.tmp 33 rfl rfl) (fun _=>rfl) (.at_ 34 _ _ rfl (Yt (beq_self_eq_true _)))),Zt (b:=true) (.tmp 31 rfl rfl) (fun _=>(.tmp 34 rfl rfl)) (fun h=>by cases h) (.here 35 rfl),mv,ye mv,ye mv,ye (Ui (c_Are (le_len sA) (le_bd sA bX) (by omega))),Zt (b:=true) (.tmp 36 rfl rfl) (fun _=>(.tmp 39 rfl rfl)) (fun h=>by cases h) (.here 40 rfl),mv,ye (op_call0 (fun _ _=>by kernel_rfl) (Y2 _) (.here 42 rfl) (c_awake)),Zt (b:=true) (.tmp 41 rfl rfl) (fun _=>(.tmp 42 rfl rfl)) (fun h=>by cases h) (.here 43 rfl),mv,trivial⟩ (.d8 (.d8 (.d8 (.d8 (.d8 (.dddd (.k .z))))))) fun a w hI=>?_
 refine wp_ret ?_
 exact Zu hI rfl (.tmp 0 rfl)
theorem solves_law (W:World) {La:List (List FD)} {Lx:List FD} (hLa:La.length≤9223372036854775807∧∀i,i<La.length→(La.getD i []).length≤9223372036854775807∧∀k,k<(La.getD i []).length→FdOk ((La.getD i []).getD k Yr)) (hLx:Lx.length≤9223372036854775807∧∀k,k<Lx.length→FdOk (Lx.getD k Yr)) {v0 v1:Value} (e0:∀w',Ext (fun _ _=>False) W w'→(Qc 1 false La.length (fun i=>Qc 2 true (La.getD i []).length (fun k=>Y6 ((La.getD i []).getD k Yr).1 ((La.getD i []).getD k Yr).2.1))) w' v0) (e1:∀w',Ext (fun _ _=>False) W w'→(Qc 2 true Lx.length (fun i=>Y6 (Lx.getD i Yr).1 (Lx.getD i Yr).2.1)) w' v1):
  Calls Tryz.prog 5 #[v0,v1] W fun e w'=>e=.returned (.bool true)∧Below W.heap.size W w':=by
 cases hb:((!(Wo La)||!(W6 Lx))||decide ((Lx.length:Int)>10))with
 |true=>exact law_true (solves_bad hLa hLx hb _ W _ _ (Qaj W) e0 e1)
 |false=>
  have hb':=hb
  simp only[Bool.or_eq_false_iff,Bool.not_eq_false']at hb'
  exact law_true (solves_ok hLa hLx hb (sm_of hb'.1.1) (light_bds hb'.1.2) (by have:=of_decide_eq_false hb'.2; omega) _ W _ _ (Qaj W) e0 e1)
end Wx
