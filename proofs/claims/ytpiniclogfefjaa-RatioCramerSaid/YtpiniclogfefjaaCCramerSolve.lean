import Derived.Handy
import Derived.KernelRfl
import Derived.Test.YtpiniclogfefjaaProg
import Derived.Test.YtpiniclogfefjaaJCramer0
import Derived.Test.YtpiniclogfefjaaCCramerMem
import Derived.Test.YtpiniclogfefjaaJCramer6
import Derived.Test.YtpiniclogfefjaaCCramerRat1
import Derived.Test.YtpiniclogfefjaaJCramer14
import Derived.Test.YtpiniclogfefjaaJCramer16
import Derived.Test.YtpiniclogfefjaaJCramer18
import Derived.Test.YtpiniclogfefjaaCCramerInv
import Derived.Test.YtpiniclogfefjaaCCramerSem
import Derived.Test.YtpiniclogfefjaaCCramerSemOps
import Derived.Test.YtpiniclogfefjaaCCramerSemMem
import Derived.Test.YtpiniclogfefjaaJCramer23
import Derived.Test.YtpiniclogfefjaaCCramerSemTab
import Derived.Test.YtpiniclogfefjaaJCramer29
import Derived.Test.YtpiniclogfefjaaCCramerSemRow
import Derived.Test.YtpiniclogfefjaaJCramer25
import Derived.Test.YtpiniclogfefjaaCCramerSemAppend
import Derived.Test.YtpiniclogfefjaaCCramerSemObj
import Derived.Test.YtpiniclogfefjaaJCramer28
import Derived.Test.YtpiniclogfefjaaCCramerSemCopy
import Derived.Test.YtpiniclogfefjaaCCramerSemApp
import Derived.Test.YtpiniclogfefjaaJCramer32
import Derived.Test.YtpiniclogfefjaaCCramerPlainSolve
import Derived.Test.YtpiniclogfefjaaJCramer34
import Derived.Test.YtpiniclogfefjaaCCramerMatrix
import Derived.Test.YtpiniclogfefjaaJCramer36
import Derived.Test.YtpiniclogfefjaaCCramerTurned
import Derived.Test.YtpiniclogfefjaaCCramerSolved
import Derived.Test.YtpiniclogfefjaaCCramerInner
import Derived.Test.YtpiniclogfefjaaCCramerProd
namespace Wx
set_option maxRecDepth 100000
open Go Go.RowKit Go.Proofs
set_option linter.unusedVariables false

theorem c_solved_ok {A B : List (List Rat)} {m j : Nat} (h0 : 0 < A.length) (hn : A.length ≤ 100000) (hm : 0 < m ∧ m ≤ 100000) (hA : Rect A.length A) (hBl : B.length = A.length) (hBr : ∀ i, i < A.length → (B.getD i []).length = m) (hAb : BdX j A) (hBb : BdX j B) (h1 : 1 ≤ j) (hj : gjJ j A.length ≤ 100000000) (hs : ¬ gjSing (augX A B) A.length) : ∀ (M : Nat → Nat → Prop) (w : World) (v0 v1 : Value), Mid M w → Box M (fun w => (pRow 1 false A.length (fun i => pRats (A.getD i []))) w v0) w → Box M (fun w => (pRow 1 false A.length (fun i => pRats (B.getD i []))) w v1) w → Calls Try.prog 49 #[v0, v1] w (RetB M (pTup2 (pRow 1 false A.length (fun i => pRats ((solX A B).getD i []))) (pB true)) w) := fun M w v0 v1 hM h2 h3 =>
  (c_solved h0 hn hm hA hBl hBr hAb hBb h1 hj M w v0 v1 hM h2 h3).mono fun _ _ h => retB_mono h fun _ _ h => h.1 hs
theorem c_solved_no {A B : List (List Rat)} {m j : Nat} (h0 : 0 < A.length) (hn : A.length ≤ 100000) (hm : 0 < m ∧ m ≤ 100000) (hA : Rect A.length A) (hBl : B.length = A.length) (hBr : ∀ i, i < A.length → (B.getD i []).length = m) (hAb : BdX j A) (hBb : BdX j B) (h1 : 1 ≤ j) (hj : gjJ j A.length ≤ 100000000) (hs : gjSing (augX A B) A.length) : ∀ (M : Nat → Nat → Prop) (w : World) (v0 v1 : Value), Mid M w → Box M (fun w => (pRow 1 false A.length (fun i => pRats (A.getD i []))) w v0) w → Box M (fun w => (pRow 1 false A.length (fun i => pRats (B.getD i []))) w v1) w → Calls Try.prog 49 #[v0, v1] w (RetB M (pTup2 (pEq (.slice none 0 0)) (pB false)) w) := fun M w v0 v1 hM h2 h3 =>
  (c_solved h0 hn hm hA hBl hBr hAb hBb h1 hj M w v0 v1 hM h2 h3).mono fun _ _ h => retB_mono h fun _ _ h => h.2 hs
theorem c_solve_ok {A : List (List Rat)} {b : List Rat} {j : Nat} (h0 : 0 < A.length) (hn : A.length ≤ 100000) (hA : Rect A.length A) (hbl : b.length = A.length) (hAb : BdX j A) (hb : ∀ k, BdR j (b.getD k 0)) (h1 : 1 ≤ j) (hj : gjJ j A.length ≤ 100000000) (hs : ¬ Sing A b) : ∀ (M : Nat → Nat → Prop) (w : World) (v0 v1 : Value), Mid M w → Box M (fun w => (pRow 1 false A.length (fun i => pRats (A.getD i []))) w v0) w → Box M (fun w => (pRats b) w v1) w → Calls Try.prog 34 #[v0, v1] w (RetB M (pTup2 (pRats (sol1 A b)) (pI 0)) w) := by
  intro M w0 v0 v1 hM hv0 hv1
  have hr : Rect 1 (solX A (colM b)) := solX_rect hA (fun i hi => colM_rect (by omega))
  refine calls_startR (N := 21) Try.func34 rfl rfl rfl hM (show EntsA M w0 [v0, v1] [⟨none, none, 0, pRow 1 false A.length (fun i => pRats (A.getD i []))⟩, ⟨none, none, 1, pRats b⟩] from ⟨⟨rfl, _, rfl, hv0⟩, ⟨rfl, _, rfl, hv1⟩, trivial⟩) fun a hI => ?_
  refine seq_T hI [] [] [⟨some 0, none, 4, pEq ((Value.slice none 0 0))⟩, ⟨some 1, none, 5, pI 0⟩] .z (.kk .z) rfl [0, 1] (by kernel_rfl) ?_ .z (.kkkk .z) fun a w hI => ?_
  · exact ⟨op_assign (.const _) (.here 2 rfl), op_assign (.const _) (.here 3 rfl), trivial⟩
  refine seq_T hI [] [] [⟨some 0, none, 9, pRow 1 false A.length (fun i => pRats (A.getD i []))⟩, ⟨some 1, none, 10, pRats b⟩, ⟨some 2, none, 11, pRow 1 false A.length (fun i => pRats ((colM b).getD i []))⟩, ⟨some 3, none, 12, pTup2 (pRow 1 false A.length (fun i => pRats ((solX A (colM b)).getD i []))) (pB true)⟩, ⟨some 4, none, 8, pTup2 (pRow 1 false A.length (fun i => pRats ((solX A (colM b)).getD i []))) (pB true)⟩, ⟨some 5, none, 13, pRow 1 false A.length (fun i => pRats ((solX A (colM b)).getD i []))⟩, ⟨some 6, none, 14, pB true⟩, ⟨some 7, none, 6, pRow 1 false A.length (fun i => pRats ((solX A (colM b)).getD i []))⟩, ⟨some 8, none, 7, pB true⟩] .z (.kkkk .z) rfl [0, 1, 3, 7, 15, 31, 63, 127, 255] (by kernel_rfl) ?_ .z (.ddkk (.dddd (.dddk (.k .z)))) fun a w hI => ?_
  · exact ⟨op_move (.tmp 0 rfl rfl) (.here 4 rfl), op_move (.tmp 1 rfl rfl) (.here 5 rfl), op_callB1 (fun _ _ => by kernel_rfl) (.tmp 5 rfl rfl) (.here 6 rfl) ((by have h := c_column (b := b) (by omega) hb; rw [hbl] at h; exact h)), op_callB2 (fun _ _ => by kernel_rfl) (.tmp 4 rfl rfl) (.tmp 6 rfl rfl) (.here 7 rfl) (c_solved_ok h0 hn (m := 1) (j := j) (by omega) hA (by rw [colM_len]; exact hbl) (fun i hi => colM_rect (by omega)) hAb (colM_bd hb h1) h1 hj hs), op_move (.tmp 7 rfl rfl) (.here 8 rfl), op_extract (.tmp 8 rfl rfl) ex2_0 (.here 9 rfl), op_extract (.tmp 8 rfl rfl) ex2_1 (.here 10 rfl), op_assign (.tmp 9 rfl rfl) (.here 11 rfl), op_assign (.tmp 10 rfl rfl) (.here 12 rfl), trivial⟩
  refine wp_seq ?_
  refine seq_T hI [] [] [⟨some 0, none, 15, pB true⟩, ⟨some 1, none, 16, pB false⟩] .z (.kkkk .z) rfl [0, 1] (by kernel_rfl) ?_ .z (.kkkd (.dk .z)) fun a w hI => ?_
  · exact ⟨op_move (.tmp 3 rfl rfl) (.here 4 rfl), op_not (.tmp 4 rfl rfl) (.here 5 rfl), trivial⟩
  refine cond_no hI 3 rfl ?_
  refine wp_skip ?_
  refine then_of ?_
  refine seq_T hI [] [] [⟨some 0, none, 17, pRow 1 false A.length (fun i => pRats ((solX A (colM b)).getD i []))⟩, ⟨some 1, none, 18, pRow 1 false 1 (fun i => pRats ((turnM (solX A (colM b))).getD i []))⟩, ⟨some 2, none, 19, pPtr 1 false (pRats ((turnM (solX A (colM b))).getD 0 []))⟩, ⟨some 3, none, 20, pRats ((turnM (solX A (colM b))).getD 0 [])⟩, ⟨some 4, none, 4, pRats ((turnM (solX A (colM b))).getD 0 [])⟩, ⟨some 5, none, 5, pI 0⟩] .z (.t 4 (.t 5 (.kk .z))) rfl [0, 1, 3, 7, 15, 31] (by kernel_rfl) ?_ .z (.d8 (.kk .z)) fun a w hI => ?_
  · exact ⟨op_move (.tmp 2 rfl rfl) (.here 4 rfl), op_callB1 (fun _ _ => by kernel_rfl) (.tmp 4 rfl rfl) (.here 5 rfl) ((by have h := c_turned (A := solX A (colM b)) (j := gjJ j A.length) (by rw [solX_len]; exact h0) (by rw [solX_len]; omega) (by rw [hr 0 (by rw [solX_len]; exact h0)]; omega) (fun i hi => by rw [hr i hi, hr 0 (by rw [solX_len]; exact h0)]) (solX_bd hAb (colM_bd hb h1) h1); rw [solX_len, hr 0 (by rw [solX_len]; exact h0)] at h; exact h)), op_indexRow (.tmp 5 rfl rfl) (.const _) sl_Rows (by omega) (by omega) (by kernel_rfl) (.here 6 rfl), op_loadP (.tmp 6 rfl rfl) ty_Ratios ((fits_rats _)) (.here 7 rfl), op_assign (.tmp 7 rfl rfl) (.here 8 rfl), op_assign (.const _) (.here 9 rfl), trivial⟩
  refine wp_ret ?_
  exact fin2 hI rfl (.imp (.tmp 0 rfl) (fun w v h => by have e := turnM_get (A := solX A (colM b)) (k := 0) (by rw [hr 0 (by rw [solX_len]; exact h0)]; omega); rw [e] at h; exact h)) (.tmp 1 rfl)
theorem c_solve_no {A : List (List Rat)} {b : List Rat} {j : Nat} (h0 : 0 < A.length) (hn : A.length ≤ 100000) (hA : Rect A.length A) (hbl : b.length = A.length) (hAb : BdX j A) (hb : ∀ k, BdR j (b.getD k 0)) (h1 : 1 ≤ j) (hj : gjJ j A.length ≤ 100000000) (hs : Sing A b) : ∀ (M : Nat → Nat → Prop) (w : World) (v0 v1 : Value), Mid M w → Box M (fun w => (pRow 1 false A.length (fun i => pRats (A.getD i []))) w v0) w → Box M (fun w => (pRats b) w v1) w → Calls Try.prog 34 #[v0, v1] w (RetB M (pTup2 (pEq (.slice none 0 0)) (pI 6)) w) := by
  intro M w0 v0 v1 hM hv0 hv1
  refine calls_startR (N := 21) Try.func34 rfl rfl rfl hM (show EntsA M w0 [v0, v1] [⟨none, none, 0, pRow 1 false A.length (fun i => pRats (A.getD i []))⟩, ⟨none, none, 1, pRats b⟩] from ⟨⟨rfl, _, rfl, hv0⟩, ⟨rfl, _, rfl, hv1⟩, trivial⟩) fun a hI => ?_
  refine seq_T hI [] [] [⟨some 0, none, 4, pEq ((Value.slice none 0 0))⟩, ⟨some 1, none, 5, pI 0⟩] .z (.kk .z) rfl [0, 1] (by kernel_rfl) ?_ .z (.kkkk .z) fun a w hI => ?_
  · exact ⟨op_assign (.const _) (.here 2 rfl), op_assign (.const _) (.here 3 rfl), trivial⟩
  refine seq_T hI [] [] [⟨some 0, none, 9, pRow 1 false A.length (fun i => pRats (A.getD i []))⟩, ⟨some 1, none, 10, pRats b⟩, ⟨some 2, none, 11, pRow 1 false A.length (fun i => pRats ((colM b).getD i []))⟩, ⟨some 3, none, 12, pTup2 (pEq (.slice none 0 0)) (pB false)⟩, ⟨some 4, none, 8, pTup2 (pEq (.slice none 0 0)) (pB false)⟩, ⟨some 5, none, 13, pEq (.slice none 0 0)⟩, ⟨some 6, none, 14, pB false⟩, ⟨some 7, none, 6, pEq (.slice none 0 0)⟩, ⟨some 8, none, 7, pB false⟩] .z (.kkkk .z) rfl [0, 1, 3, 7, 15, 31, 63, 127, 255] (by kernel_rfl) ?_ .z (.ddkk (.dddd (.dddk (.k .z)))) fun a w hI => ?_
  · exact ⟨op_move (.tmp 0 rfl rfl) (.here 4 rfl), op_move (.tmp 1 rfl rfl) (.here 5 rfl), op_callB1 (fun _ _ => by kernel_rfl) (.tmp 5 rfl rfl) (.here 6 rfl) ((by have h := c_column (b := b) (by omega) hb; rw [hbl] at h; exact h)), op_callB2 (fun _ _ => by kernel_rfl) (.tmp 4 rfl rfl) (.tmp 6 rfl rfl) (.here 7 rfl) (c_solved_no h0 hn (m := 1) (j := j) (by omega) hA (by rw [colM_len]; exact hbl) (fun i hi => colM_rect (by omega)) hAb (colM_bd hb h1) h1 hj hs), op_move (.tmp 7 rfl rfl) (.here 8 rfl), op_extract (.tmp 8 rfl rfl) ex2_0 (.here 9 rfl), op_extract (.tmp 8 rfl rfl) ex2_1 (.here 10 rfl), op_assign (.tmp 9 rfl rfl) (.here 11 rfl), op_assign (.tmp 10 rfl rfl) (.here 12 rfl), trivial⟩
  refine wp_seq ?_
  refine seq_T hI [] [] [⟨some 0, none, 15, pB false⟩, ⟨some 1, none, 16, pB true⟩] .z (.kkkk .z) rfl [0, 1] (by kernel_rfl) ?_ .z (.kkkd (.dk .z)) fun a w hI => ?_
  · exact ⟨op_move (.tmp 3 rfl rfl) (.here 4 rfl), op_not (.tmp 4 rfl rfl) (.here 5 rfl), trivial⟩
  refine cond_yes hI 3 rfl ?_
  refine seq_T hI [] [] [⟨some 0, none, 4, pEq ((Value.slice none 0 0))⟩, ⟨some 1, none, 5, pI 6⟩] .z (.t 0 (.t 1 (.kk .z))) rfl [0, 1] (by kernel_rfl) ?_ .z (.ddkd (.kk .z)) fun a w hI => ?_
  · exact ⟨op_assign (.const _) (.here 4 rfl), op_assign (.const _) (.here 5 rfl), trivial⟩
  refine wp_ret ?_
  refine then_ret ?_
  exact fin2 hI rfl (.tmp 1 rfl) (.tmp 2 rfl)
theorem c_Solve_ok {A : List (List Rat)} {b : List Rat} {j : Nat} (hR : Right A) (hA : Rect A.length A) (hbl : b.length = A.length) (hAb : BdX j A) (hb : ∀ k, BdR j (b.getD k 0)) (h1 : 1 ≤ j) (hj : gjJ j A.length ≤ 100000000) (hs : ¬ Sing A b) : ∀ (M : Nat → Nat → Prop) (w : World) (v0 v1 : Value), Mid M w → Box M (fun w => (pRow 1 false A.length (fun i => pRats (A.getD i []))) w v0) w → Box M (fun w => (pRats b) w v1) w → Calls Try.prog 19 #[v0, v1] w (RetB M (pTup2 (pRats (sol1 A b)) (pI 0)) w) := by
  intro M w0 v0 v1 hM hv0 hv1
  have h0 := hR.rows.1
  have hn := hR.rows.2
  refine calls_startR (N := 22) Try.func19 rfl rfl rfl hM (show EntsA M w0 [v0, v1] [⟨none, none, 0, pRow 1 false A.length (fun i => pRats (A.getD i []))⟩, ⟨none, none, 1, pRats b⟩] from ⟨⟨rfl, _, rfl, hv0⟩, ⟨rfl, _, rfl, hv1⟩, trivial⟩) fun a hI => ?_
  refine seq_T hI [] [] [⟨some 0, none, 4, pEq ((Value.slice none 0 0))⟩, ⟨some 1, none, 5, pI 0⟩] .z (.kk .z) rfl [0, 1] (by kernel_rfl) ?_ .z (.kkkk .z) fun a w hI => ?_
  · exact ⟨op_assign (.const _) (.here 2 rfl), op_assign (.const _) (.here 3 rfl), trivial⟩
  refine wp_seq ?_
  refine seq_T hI [] [] [⟨some 0, none, 7, pRow 1 false A.length (fun i => pRats (A.getD i []))⟩, ⟨some 1, none, 8, pI 0⟩, ⟨some 2, none, 6, pI 0⟩] .z (.kkkk .z) rfl [0, 1, 3] (by kernel_rfl) ?_ .z (.kkkk (.ddk .z)) fun a w hI => ?_
  · exact ⟨op_move (.tmp 0 rfl rfl) (.here 4 rfl), op_callB1 (fun _ _ => by kernel_rfl) (.tmp 4 rfl rfl) (.here 5 rfl) (c_square_ok hR (hA 0 h0)), op_assign (.tmp 5 rfl rfl) (.here 6 rfl), trivial⟩
  refine seq_T hI [] [] [⟨some 0, none, 9, pI 0⟩, ⟨some 1, none, 10, pB false⟩] .z (.kkkk (.k .z)) rfl [0, 1] (by kernel_rfl) ?_ .z (.kkkk (.kdk .z)) fun a w hI => ?_
  · exact ⟨op_move (.tmp 4 rfl rfl) (.here 5 rfl), op_bin (v := .bool (false)) (.tmp 5 rfl rfl) (.const _) (fun _ => rfl) (.here 6 rfl), trivial⟩
  refine cond_no hI 5 rfl ?_
  refine wp_skip ?_
  refine then_of ?_
  refine wp_seq ?_
  refine seq_T hI [] [] [⟨some 0, none, 12, pRats b⟩, ⟨some 1, none, 13, pI (b.length : Int)⟩, ⟨some 2, none, 14, pRow 1 false A.length (fun i => pRats (A.getD i []))⟩, ⟨some 3, none, 15, pI (A.length : Int)⟩, ⟨some 4, none, 16, pB false⟩] .z (.kkkk (.kk .z)) rfl [0, 1, 3, 7, 15] (by kernel_rfl) ?_ .z (.kkkk (.dddd (.ddk .z))) fun a w hI => ?_
  · exact ⟨op_move (.tmp 1 rfl rfl) (.here 6 rfl), op_len (.tmp 6 rfl rfl) (sl_Ratios).under (.here 7 rfl), op_move (.tmp 0 rfl rfl) (.here 8 rfl), op_len (.tmp 8 rfl rfl) (sl_Rows).under (.here 9 rfl), op_bin (v := .bool (((b.length : Int) != (A.length : Int)))) (.tmp 7 rfl rfl) (.tmp 9 rfl rfl) (fun _ => rfl) (.at_ 10 _ _ rfl (pB_eq ((by rw [hbl]; exact bne_self_eq_false _)))), trivial⟩
  refine cond_no hI 4 rfl ?_
  refine wp_skip ?_
  refine then_of ?_
  refine seq_T hI [] [] [⟨some 0, none, 17, pRow 1 false A.length (fun i => pRats (A.getD i []))⟩, ⟨some 1, none, 18, pRats b⟩, ⟨some 2, none, 19, pTup2 (pRats (sol1 A b)) (pI 0)⟩, ⟨some 3, none, 20, pRats (sol1 A b)⟩, ⟨some 4, none, 21, pI 0⟩, ⟨some 5, none, 4, pRats (sol1 A b)⟩, ⟨some 6, none, 5, pI 0⟩] .z (.kk (.t 5 (.t 6 (.k .z)))) rfl [0, 1, 3, 7, 15, 31, 63] (by kernel_rfl) ?_ .z (.d8 (.ddkk .z)) fun a w hI => ?_
  · exact ⟨op_move (.tmp 0 rfl rfl) (.here 5 rfl), op_move (.tmp 1 rfl rfl) (.here 6 rfl), op_callB2 (fun _ _ => by kernel_rfl) (.tmp 5 rfl rfl) (.tmp 6 rfl rfl) (.here 7 rfl) (c_solve_ok h0 (by omega) hA hbl hAb hb h1 hj hs), op_extract (.tmp 7 rfl rfl) ex2_0 (.here 8 rfl), op_extract (.tmp 7 rfl rfl) ex2_1 (.here 9 rfl), op_assign (.tmp 8 rfl rfl) (.here 10 rfl), op_assign (.tmp 9 rfl rfl) (.here 11 rfl), trivial⟩
  refine wp_ret ?_
  exact fin2 hI rfl (.tmp 0 rfl) (.tmp 1 rfl)
theorem c_Solve_no {A : List (List Rat)} {b : List Rat} {j : Nat} (hR : Right A) (hA : Rect A.length A) (hbl : b.length = A.length) (hAb : BdX j A) (hb : ∀ k, BdR j (b.getD k 0)) (h1 : 1 ≤ j) (hj : gjJ j A.length ≤ 100000000) (hs : Sing A b) : ∀ (M : Nat → Nat → Prop) (w : World) (v0 v1 : Value), Mid M w → Box M (fun w => (pRow 1 false A.length (fun i => pRats (A.getD i []))) w v0) w → Box M (fun w => (pRats b) w v1) w → Calls Try.prog 19 #[v0, v1] w (RetB M (pTup2 (pEq (.slice none 0 0)) (pI 6)) w) := by
  intro M w0 v0 v1 hM hv0 hv1
  have h0 := hR.rows.1
  have hn := hR.rows.2
  refine calls_startR (N := 22) Try.func19 rfl rfl rfl hM (show EntsA M w0 [v0, v1] [⟨none, none, 0, pRow 1 false A.length (fun i => pRats (A.getD i []))⟩, ⟨none, none, 1, pRats b⟩] from ⟨⟨rfl, _, rfl, hv0⟩, ⟨rfl, _, rfl, hv1⟩, trivial⟩) fun a hI => ?_
  refine seq_T hI [] [] [⟨some 0, none, 4, pEq ((Value.slice none 0 0))⟩, ⟨some 1, none, 5, pI 0⟩] .z (.kk .z) rfl [0, 1] (by kernel_rfl) ?_ .z (.kkkk .z) fun a w hI => ?_
  · exact ⟨op_assign (.const _) (.here 2 rfl), op_assign (.const _) (.here 3 rfl), trivial⟩
  refine wp_seq ?_
  refine seq_T hI [] [] [⟨some 0, none, 7, pRow 1 false A.length (fun i => pRats (A.getD i []))⟩, ⟨some 1, none, 8, pI 0⟩, ⟨some 2, none, 6, pI 0⟩] .z (.kkkk .z) rfl [0, 1, 3] (by kernel_rfl) ?_ .z (.kkkk (.ddk .z)) fun a w hI => ?_
  · exact ⟨op_move (.tmp 0 rfl rfl) (.here 4 rfl), op_callB1 (fun _ _ => by kernel_rfl) (.tmp 4 rfl rfl) (.here 5 rfl) (c_square_ok hR (hA 0 h0)), op_assign (.tmp 5 rfl rfl) (.here 6 rfl), trivial⟩
  refine seq_T hI [] [] [⟨some 0, none, 9, pI 0⟩, ⟨some 1, none, 10, pB false⟩] .z (.kkkk (.k .z)) rfl [0, 1] (by kernel_rfl) ?_ .z (.kkkk (.kdk .z)) fun a w hI => ?_
  · exact ⟨op_move (.tmp 4 rfl rfl) (.here 5 rfl), op_bin (v := .bool (false)) (.tmp 5 rfl rfl) (.const _) (fun _ => rfl) (.here 6 rfl), trivial⟩
  refine cond_no hI 5 rfl ?_
  refine wp_skip ?_
  refine then_of ?_
  refine wp_seq ?_
  refine seq_T hI [] [] [⟨some 0, none, 12, pRats b⟩, ⟨some 1, none, 13, pI (b.length : Int)⟩, ⟨some 2, none, 14, pRow 1 false A.length (fun i => pRats (A.getD i []))⟩, ⟨some 3, none, 15, pI (A.length : Int)⟩, ⟨some 4, none, 16, pB false⟩] .z (.kkkk (.kk .z)) rfl [0, 1, 3, 7, 15] (by kernel_rfl) ?_ .z (.kkkk (.dddd (.ddk .z))) fun a w hI => ?_
  · exact ⟨op_move (.tmp 1 rfl rfl) (.here 6 rfl), op_len (.tmp 6 rfl rfl) (sl_Ratios).under (.here 7 rfl), op_move (.tmp 0 rfl rfl) (.here 8 rfl), op_len (.tmp 8 rfl rfl) (sl_Rows).under (.here 9 rfl), op_bin (v := .bool (((b.length : Int) != (A.length : Int)))) (.tmp 7 rfl rfl) (.tmp 9 rfl rfl) (fun _ => rfl) (.at_ 10 _ _ rfl (pB_eq ((by rw [hbl]; exact bne_self_eq_false _)))), trivial⟩
  refine cond_no hI 4 rfl ?_
  refine wp_skip ?_
  refine then_of ?_
  refine seq_T hI [] [] [⟨some 0, none, 17, pRow 1 false A.length (fun i => pRats (A.getD i []))⟩, ⟨some 1, none, 18, pRats b⟩, ⟨some 2, none, 19, pTup2 (pEq (.slice none 0 0)) (pI 6)⟩, ⟨some 3, none, 20, pEq (.slice none 0 0)⟩, ⟨some 4, none, 21, pI 6⟩, ⟨some 5, none, 4, pEq (.slice none 0 0)⟩, ⟨some 6, none, 5, pI 6⟩] .z (.kk (.t 5 (.t 6 (.k .z)))) rfl [0, 1, 3, 7, 15, 31, 63] (by kernel_rfl) ?_ .z (.d8 (.ddkk .z)) fun a w hI => ?_
  · exact ⟨op_move (.tmp 0 rfl rfl) (.here 5 rfl), op_move (.tmp 1 rfl rfl) (.here 6 rfl), op_callB2 (fun _ _ => by kernel_rfl) (.tmp 5 rfl rfl) (.tmp 6 rfl rfl) (.here 7 rfl) (c_solve_no h0 (by omega) hA hbl hAb hb h1 hj hs), op_extract (.tmp 7 rfl rfl) ex2_0 (.here 8 rfl), op_extract (.tmp 7 rfl rfl) ex2_1 (.here 9 rfl), op_assign (.tmp 8 rfl rfl) (.here 10 rfl), op_assign (.tmp 9 rfl rfl) (.here 11 rfl), trivial⟩
  refine wp_ret ?_
  exact fin2 hI rfl (.tmp 0 rfl) (.tmp 1 rfl)
end Wx
