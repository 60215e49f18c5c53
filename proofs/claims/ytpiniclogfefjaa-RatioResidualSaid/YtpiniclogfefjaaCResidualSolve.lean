import Derived.Handy
import Derived.KernelRfl
import Derived.Test.YtpiniclogfefjaaProg
import Derived.Test.YtpiniclogfefjaaJResidual0
import Derived.Test.YtpiniclogfefjaaCResidualMem
import Derived.Test.YtpiniclogfefjaaJResidual6
import Derived.Test.YtpiniclogfefjaaCResidualRat1
import Derived.Test.YtpiniclogfefjaaJResidual14
import Derived.Test.YtpiniclogfefjaaJResidual16
import Derived.Test.YtpiniclogfefjaaJResidual19
import Derived.Test.YtpiniclogfefjaaCResidualInv
import Derived.Test.YtpiniclogfefjaaCResidualSem
import Derived.Test.YtpiniclogfefjaaCResidualSemOps
import Derived.Test.YtpiniclogfefjaaCResidualSemMem
import Derived.Test.YtpiniclogfefjaaJResidual24
import Derived.Test.YtpiniclogfefjaaCResidualSemTab
import Derived.Test.YtpiniclogfefjaaJResidual30
import Derived.Test.YtpiniclogfefjaaCResidualSemRow
import Derived.Test.YtpiniclogfefjaaJResidual26
import Derived.Test.YtpiniclogfefjaaCResidualSemAppend
import Derived.Test.YtpiniclogfefjaaCResidualSemObj
import Derived.Test.YtpiniclogfefjaaJResidual29
import Derived.Test.YtpiniclogfefjaaCResidualSemCopy
import Derived.Test.YtpiniclogfefjaaCResidualSemApp
import Derived.Test.YtpiniclogfefjaaJResidual34
import Derived.Test.YtpiniclogfefjaaJResidual35
import Derived.Test.YtpiniclogfefjaaCResidualMatrix
import Derived.Test.YtpiniclogfefjaaJResidual37
import Derived.Test.YtpiniclogfefjaaCResidualTurned
import Derived.Test.YtpiniclogfefjaaCResidualSolved
import Derived.Test.YtpiniclogfefjaaCResidualInner
import Derived.Test.YtpiniclogfefjaaCResidualProd
namespace Wx
set_option maxRecDepth 100000
open Go Go.RowKit Go.Proofs
set_option linter.unusedVariables false

theorem c_solved_ok {A B : List (List Rat)} {m j : Nat} (h0 : 0 < A.length) (hn : A.length ≤ 100000) (hm : 0 < m ∧ m ≤ 100000) (hA : Rect A.length A) (hBl : B.length = A.length) (hBr : ∀ i, i < A.length → (B.getD i []).length = m) (hAb : BdX j A) (hBb : BdX j B) (h1 : 1 ≤ j) (hj : gjJ j A.length ≤ 100000000) (hs : ¬ gjSing (augX A B) A.length) : ∀ (M : Nat → Nat → Prop) (w : World) (v0 v1 : Value), Mid M w → Box M (fun w => (pRow 1 false A.length (fun i => pRats (A.getD i []))) w v0) w → Box M (fun w => (pRow 1 false A.length (fun i => pRats (B.getD i []))) w v1) w → Calls Try.prog 49 #[v0, v1] w (RetB M (pTup2 (pRow 1 false A.length (fun i => pRats ((solX A B).getD i []))) (pB true)) w) := fun M w v0 v1 hM h2 h3 =>
  (c_solved h0 hn hm hA hBl hBr hAb hBb h1 hj M w v0 v1 hM h2 h3).mono fun _ _ h => retB_mono h fun _ _ h => h.1 hs
theorem c_solved_no {A B : List (List Rat)} {m j : Nat} (h0 : 0 < A.length) (hn : A.length ≤ 100000) (hm : 0 < m ∧ m ≤ 100000) (hA : Rect A.length A) (hBl : B.length = A.length) (hBr : ∀ i, i < A.length → (B.getD i []).length = m) (hAb : BdX j A) (hBb : BdX j B) (h1 : 1 ≤ j) (hj : gjJ j A.length ≤ 100000000) (hs : gjSing (augX A B) A.length) : ∀ (M : Nat → Nat → Prop) (w : World) (v0 v1 : Value), Mid M w → Box M (fun w => (pRow 1 false A.length (fun i => pRats (A.getD i []))) w v0) w → Box M (fun w => (pRow 1 false A.length (fun i => pRats (B.getD i []))) w v1) w → Calls Try.prog 49 #[v0, v1] w (RetB M (pTup2 (pEq (.slice none 0 0)) (pB false)) w) := fun M w v0 v1 hM h2 h3 =>
  (c_solved h0 hn hm hA hBl hBr hAb hBb h1 hj M w v0 v1 hM h2 h3).mono fun _ _ h => retB_mono h fun _ _ h => h.2 hs
theorem c_solve_ok {A : List (List Rat)} {b : List Rat} {j : Nat} (h0 : 0 < A.length) (hn : A.length ≤ 100000) (hA : Rect A.length A) (hbl : b.length = A.length) (hAb : BdX j A) (hb : ∀ k, BdR j (b.getD k 0)) (h1 : 1 ≤ j) (hj : gjJ j A.length ≤ 100000000) (hs : ¬ Sing A b) : ∀ (M : Nat → Nat → Prop) (w : World) (v0 v1 : Value), Mid M w → Box M (fun w => (pRow 1 false A.length (fun i => pRats (A.getD i []))) w v0) w → Box M (fun w => (pRats b) w v1) w → Calls Try.prog 34 #[v0, v1] w (RetB M (pTup2 (pRats (sol1 A b)) (pI 0)) w) := by
  intro M w0 v0 v1 hM hv0 hv1
  have hr : Rect 1 (solX A (colM b)) := solX_rect hA (fun i hi => colM_rect (by omega))
  refine calls_startR (N := 21) Try.func34 rfl rfl rfl hM (show EntsA M w0 [v0, v1] [⟨none, none, 0, pRow 1 false A.length (fun i => pRats (A.getD i []))⟩, ⟨none, none, 1, pRats b⟩] from ⟨⟨rfl, _, rfl, hv0⟩, ⟨rfl, _, rfl, hv1⟩, trivial⟩) fun a hI => ?_
  refine seq_T hI [] [] [⟨some 0, none, 4, pEq ((Value.slice none 0 0))⟩, ⟨some 1, none, 5, pI 0⟩] .z (.kk .z) rfl [0, 1] (by kernel_rfl) ?_ .z (.kkkk .z) fun a w hI => ?_
  · exact ⟨op_assign (.const _) (.here 2 rfl), op_assign (.const _) (.here 3 rfl), trivial⟩
  refine seq_T hI [] [] [⟨some 0, none, 9, pRow 1 false A.length (fun i => pRats (A.getD i []))⟩, ⟨some 1, none, 10, pRats b⟩, ⟨some 2, none, 11, pRow 1 false A.length (fun i => pRats ((colM b).getD i []))⟩, ⟨some 3, none, 12, pTup2 (pRow 1 false A.length (fun i => pRats ((solX A (colM b)).getD i []))) (pB true)⟩, ⟨some 4, none, 8, pTup2 (pRow 1 false A.length (fun i => pRats ((solX A (colM b)).getD i []))) (pB true)⟩, ⟨some 5, none, 13, pRow 1 false A.length (fun i => pRats ((solX A (colM b)).getD i []))⟩, ⟨some 6, none, 14, pB true⟩, ⟨some 7, none, 6, pRow 1 false A.length (fun i => pRats ((solX A (colM b)).getD i []))⟩, ⟨some 8, none, 7, pB true⟩] .z (.kkkk .z) rfl [0, 1, 3, 7, 15, 31, 63, 127, 255] (by kernel_rfl) ?_ .z (.ddkk (.dddd (.dddk (.k .z)))) fun a w hI => ?_
  · exact ⟨op_move (.tmp 0 rfl rfl) (.here 4 rfl), op_move (.tmp 1 rfl rfl) (.here 5 rfl), op_callB1 (fun _ _ => by kernel_rfl) (.tmp 5 rfl rfl) (.here 6 rfl) ((by have h := c_column (b := b) (by omega) hb; rw [hbl] at h; exact h)), op_callB2 (fun _ _ => by kernel_rfl) (.tmp 4 rfl rfl) (.tmp 6 rfl rfl) (.here 7 rfl) (c_solved_ok h0 hn (m := 1) (j := j) (by omega) hA (by rw [colM_len]; exact hbl) (fun i hi => colM_rect (by omega)) hAb (colM_bd hb h1) h1 hj hs), op_move (.tmp 7 rfl rfl) (.here 8 rfl), op_extract (.tmp 8 rfl rfl) ex2_0 (.here 9 rfl), op_extract (.tmp 8 rfl rfl) ex2_1 (.here 10 rfl), op_assign (.tmp 9 rfl rfl) (.here 11 rfl), op_assign (.tmp 10 rfl rfl) (.here 12 rfl), trivial⟩
  refine wp_seq ?_
  refine seq_T hI [] [] [⟨some 0, none, 15, pB true⟩, ⟨some 1, none, 16, pB false⟩] .z (.kkkk .z) rfl [0, 1] (by kernel_rfl) ?_ .z (.kkkd (.dk .z)) fun a w hI => ?_
  · exact ⟨op_move (.tmp 3 rfl rfl) (.here 4 rfl), op_not (.tmp 4 rfl rfl) (.here 5 rfl), trivial⟩
  refine cond_no hI 3 rfl ?_
  refine wp_skip ?_
  refine then_of ?_
  refine seq_T hI [] [] [⟨some 0, none, 17, pRow 1 false A.length (fun i => pRats ((solX A (colM b)).getD i []))⟩, ⟨some 1, none, 18, pRow 1 false 1 (fun i => pRats ((turnM (solX A (colM b))).getD i []))⟩, ⟨some 2, none, 19, pPtr 1 false (pRats ((turnM (solX A (colM b))).getD 0 []))⟩, ⟨some 3, none, 20, pRats ((turnM (solX A (colM b))).getD 0 [])⟩, ⟨some 4, none, 4, pRats ((turnM (solX A (colM b))).getD 0 [])⟩, ⟨some 5, none, 5, pI 0⟩] .z (.t 4 (.t 5 (.kk .z))) rfl [0, 1, 3, 7, 15, 31] (by kernel_rfl) ?_ .z (.d8 (.kk .z)) fun a w hI => ?_
  · exact ⟨op_move (.tmp 2 rfl rfl) (.here 4 rfl), op_callB1 (fun _ _ => by kernel_rfl) (.tmp 4 rfl rfl) (.here 5 rfl) ((by have h := c_turned (A := solX A (colM b)) (j := gjJ j A.length) (by rw [solX_len]; exact h0) (by rw [solX_len]; omega) (by rw [hr 0 (by rw [solX_len]; exact h0)]; omega) (fun i hi => by rw [hr i hi, hr 0 (by rw [solX_len]; exact h0)]) (solX_bd hAb (colM_bd hb h1) h1); rw [solX_len, hr 0 (by rw [solX_len]; exact h0)] at h; exact h)), op_indexRow (.tmp 5 rfl rfl) (.const _) sl_Rows (by omega) (by omega) (by kernel_rfl) (.here 6 rfl), op_loadP (.tmp 6 rfl rfl) ty_Ratios ((fits_rats _)) (.here 7 rfl), op_assign (.tmp 7 rfl rfl) (.here 8 rfl), op_assign (.const _) (.here 9 rfl), trivial⟩
  refine wp_ret ?_
  exact fin2 hI rfl (.imp (.tmp 0 rfl) (fun w v h => by have e := turnM_get (A := solX A (colM b)) (k := 0) (by rw [hr 0 (by rw [solX_len]; exact h0)]; omega); rw [e] at h; exact h)) (.tmp 1 rfl)
theorem c_solve_no {A : List (List Rat)} {b : List Rat} {j : Nat} (h0 : 0 < A.length) (hn : A.length ≤ 100000) (hA : Rect A.length A) (hbl : b.length = A.length) (hAb : BdX j A) (hb : ∀ k, BdR j (b.getD k 0)) (h1 : 1 ≤ j) (hj : gjJ j A.length ≤ 100000000) (hs : Sing A b) : ∀ (M : Nat → Nat → Prop) (w : World) (v0 v1 : Value), Mid M w → Box M (fun w => (pRow 1 false A.length (fun i => pRats (A.getD i []))) w v0) w → Box M (fun w => (pRats b) w v1) w → Calls Try.prog 34 #[v0, v1] w (RetB M (pTup2 (pEq (.slice none 0 0)) (pI 6)) w) := by
  intro M w0 v0 v1 hM hv0 hv1
  refine calls_startR (N := 21) Try.func34 rfl rfl rfl hM (show EntsA M w0 [v0, v1] [⟨none, none, 0, pRow 1 false A.length (fun i => pRats (A.getD i []))⟩, ⟨none, none, 1, pRats b⟩] from ⟨⟨rfl, _, rfl, hv0⟩, ⟨rfl, _, rfl, hv1⟩, trivial⟩) fun a hI => ?_
  refine seq_T hI [] [] [⟨some 0, none, 4, pEq ((Value.slice none 0 0))⟩, ⟨some 1, none, 5, pI 0⟩] .z (.kk .z) rfl [0, 1] (by kernel_rfl) ?_ .z (.kkkk .z) fun a w hI => ?_
  · exact ⟨op_assign (.const _) (.here 2 rfl), op_assign (.const _) (.here 3 rfl), trivial⟩
  refine seq_T hI [] [] [⟨some 0, none, 9, pRow 1 false A.length (fun i => pRats (A.getD i []))⟩, ⟨some 1, none, 10, pRats b⟩, ⟨some 2, none, 11, pRow 1 false A.length (fun i => pRats ((colM b).getD i []))⟩, ⟨some 3, none, 12, pTup2 (pEq (.slice none 0 0)) (pB false)⟩, ⟨some 4, none, 8, pTup2 (pEq (.slice none 0 0)) (pB false)⟩, ⟨some 5, none, 13, pEq (.slice none 0 0)⟩, ⟨some 6, none, 14, pB false⟩, ⟨some 7, none, 6, pEq (.slice none 0 0)⟩, ⟨some 8, none, 7, pB false⟩] .z (.kkkk .z) rfl [0, 1, 3, 7, 15, 31, 63, 127, 255] (by kernel_rfl) ?_ .z (.ddkk (.dddd (.dddk (.k .z)))) fun a w hI => ?_
  · exact ⟨op_move (.tmp 0 rfl rfl) (.here 4 rfl), op_move (.tmp 1 rfl rfl) (.here 5 rfl), op_callB1 (fun _ _ => by kernel_rfl) (.tmp 5 rfl rfl) (.here 6 rfl) ((by have h := c_column (b := b) (by omega) hb; rw [hbl] at h; exact h)), op_callB2 (fun _ _ => by kernel_rfl) (.tmp 4 rfl rfl) (.tmp 6 rfl rfl) (.here 7 rfl) (c_solved_no h0 hn (m := 1) (j := j) (by omega) hA (by rw [colM_len]; exact hbl) (fun i hi => colM_rect (by omega)) hAb (colM_bd hb h1) h1 hj hs), op_move (.tmp 7 rfl rfl) (.here 8 rfl), op_extract (.tmp 8 rfl rfl) ex2_0 (.here 9 rfl), op_extract (.tmp 8 rfl rfl) ex2_1 (.here 10 rfl), op_assign (.tmp 9 rfl rfl) (.here 11 rfl), op_assign (.tmp 10 rfl rfl) (.here 12 rfl), trivial⟩
  refine wp_seq ?_
  refine seq_T hI [] [] [⟨some 0, none, 15, pB false⟩, ⟨some 1, none, 16, pB true⟩] .z (.kkkk .z) rfl [0, 1] (by kernel_rfl) ?_ .z (.kkkd (.dk .z)) fun a w hI => ?_
  · exact ⟨op_move (.tmp 3 rfl rfl) (.here 4 rfl), op_not (.tmp 4 rfl rfl) (.here 5 rfl), trivial⟩
  refine cond_yes hI 3 rfl ?_
  refine seq_T hI [] [] [⟨some 0, none, 4, pEq ((Value.slice none 0 0))⟩, ⟨some 1, none, 5, pI 6⟩] .z (.t 0 (.t 1 (.kk .z))) rfl [0, 1] (by kernel_rfl) ?_ .z (.ddkd (.kk .z)) fun a w hI => ?_
  · exact ⟨op_assign (.const _) (.here 4 rfl), op_assign (.const _) (.here 5 rfl), trivial⟩
  refine wp_ret ?_
  refine then_ret ?_
  exact fin2 hI rfl (.tmp 1 rfl) (.tmp 2 rfl)
theorem c_Least_ok {A : List (List Rat)} {b : List Rat} {j : Nat} (hR : Right A) (hbl : b.length = A.length) (hAb : BdX j A) (hb : ∀ k, BdR j (b.getD k 0)) (h1 : 1 ≤ j) (hj : gjJ (dotJ (j + j) A.length) (A.getD 0 []).length ≤ 100000000) (hs : ¬ Sing (lsM A) (lsB A b)) : ∀ (M : Nat → Nat → Prop) (w : World) (v0 v1 : Value), Mid M w → Box M (fun w => (pRow 1 false A.length (fun i => pRats (A.getD i []))) w v0) w → Box M (fun w => (pRats b) w v1) w → Calls Try.prog 8 #[v0, v1] w (RetB M (pTup2 (pRats (sol1 (lsM A) (lsB A b))) (pI 0)) w) := by
  intro M w0 v0 v1 hM hv0 hv1
  have h0 := hR.rows.1
  have hn := hR.rows.2
  have c0 := hR.cols.1
  have cn := hR.cols.2
  have hT : (turnM A).length = (A.getD 0 []).length := turnM_len A
  have hTr : Rect A.length (turnM A) := turnM_rect
  have hTb := turnM_bd hAb h1
  have hT0 : ((turnM A).getD 0 []).length = A.length := hTr 0 (by omega)
  have hC0 : ((colM b).getD 0 []).length = 1 := colM_rect (by omega)
  have hCb := colM_bd hb h1
  have hdj : dotJ (j + j) A.length ≤ 100000000 := Nat.le_trans (gjJ_mono (j := dotJ (j + j) A.length) (Nat.zero_le _)) hj
  have hMl : (lsM A).length = (A.getD 0 []).length := by unfold lsM; rw [mulT_len, hT]
  have hPl : (mulT (turnM A) (turnM (colM b))).length = (A.getD 0 []).length := by rw [mulT_len, hT]
  have hPr : Rect 1 (mulT (turnM A) (turnM (colM b))) := by have h := mulT_rect (A := turnM A) (C := turnM (colM b)); rw [turnM_len, hC0] at h; exact h
  have hBl : (lsB A b).length = (lsM A).length := by unfold lsB; rw [colAt_len, hPl, hMl]
  have hMr : Rect (lsM A).length (lsM A) := by have h := mulT_rect (A := turnM A) (C := turnM A); rw [hMl]; rw [hT] at h; exact h
  have hMb : BdX (dotJ (j + j) A.length) (lsM A) := mulT_bd hTb hTb fun i hi => Nat.le_of_eq (hTr i hi)
  have hPb : BdX (dotJ (j + j) A.length) (mulT (turnM A) (turnM (colM b))) := mulT_bd hTb (turnM_bd hCb h1) fun i hi => Nat.le_of_eq (hTr i hi)
  have hBb : ∀ k, BdR (dotJ (j + j) A.length) ((lsB A b).getD k 0) := bd_col hPb (dotJ_pos _ _) 0
  have hj2 : gjJ (dotJ (j + j) A.length) (lsM A).length ≤ 100000000 := by rw [hMl]; exact hj
  refine calls_startR (N := 33) Try.func8 rfl rfl rfl hM (show EntsA M w0 [v0, v1] [⟨none, none, 0, pRow 1 false A.length (fun i => pRats (A.getD i []))⟩, ⟨none, none, 1, pRats b⟩] from ⟨⟨rfl, _, rfl, hv0⟩, ⟨rfl, _, rfl, hv1⟩, trivial⟩) fun a hI => ?_
  refine seq_T hI [] [] [⟨some 0, none, 4, pEq ((Value.slice none 0 0))⟩, ⟨some 1, none, 5, pI 0⟩] .z (.kk .z) rfl [0, 1] (by kernel_rfl) ?_ .z (.kkkk .z) fun a w hI => ?_
  · exact ⟨op_assign (.const _) (.here 2 rfl), op_assign (.const _) (.here 3 rfl), trivial⟩
  refine wp_seq ?_
  refine seq_T hI [] [] [⟨some 0, none, 8, pRow 1 false A.length (fun i => pRats (A.getD i []))⟩, ⟨some 1, none, 9, pI 0⟩, ⟨some 2, none, 6, pI 0⟩] .z (.kkkk .z) rfl [0, 1, 3] (by kernel_rfl) ?_ .z (.kkkk (.ddk .z)) fun a w hI => ?_
  · exact ⟨op_move (.tmp 0 rfl rfl) (.here 4 rfl), op_callB1 (fun _ _ => by kernel_rfl) (.tmp 4 rfl rfl) (.here 5 rfl) (c_check_ok hR), op_assign (.tmp 5 rfl rfl) (.here 6 rfl), trivial⟩
  refine seq_T hI [] [] [⟨some 0, none, 10, pI 0⟩, ⟨some 1, none, 11, pB false⟩] .z (.kkkk (.k .z)) rfl [0, 1] (by kernel_rfl) ?_ .z (.kkkk (.kdk .z)) fun a w hI => ?_
  · exact ⟨op_move (.tmp 4 rfl rfl) (.here 5 rfl), op_bin (v := .bool (false)) (.tmp 5 rfl rfl) (.const _) (fun _ => rfl) (.here 6 rfl), trivial⟩
  refine cond_no hI 5 rfl ?_
  refine wp_skip ?_
  refine then_of ?_
  refine wp_seq ?_
  refine seq_T hI [] [] [⟨some 0, none, 13, pRats b⟩, ⟨some 1, none, 14, pI (b.length : Int)⟩, ⟨some 2, none, 15, pRow 1 false A.length (fun i => pRats (A.getD i []))⟩, ⟨some 3, none, 16, pI (A.length : Int)⟩, ⟨some 4, none, 17, pB false⟩] .z (.kkkk (.kk .z)) rfl [0, 1, 3, 7, 15] (by kernel_rfl) ?_ .z (.kkkk (.dddd (.ddk .z))) fun a w hI => ?_
  · exact ⟨op_move (.tmp 1 rfl rfl) (.here 6 rfl), op_len (.tmp 6 rfl rfl) (sl_Ratios).under (.here 7 rfl), op_move (.tmp 0 rfl rfl) (.here 8 rfl), op_len (.tmp 8 rfl rfl) (sl_Rows).under (.here 9 rfl), op_bin (v := .bool (((b.length : Int) != (A.length : Int)))) (.tmp 7 rfl rfl) (.tmp 9 rfl rfl) (fun _ => rfl) (.at_ 10 _ _ rfl (pB_eq ((by rw [hbl]; exact bne_self_eq_false _)))), trivial⟩
  refine cond_no hI 4 rfl ?_
  refine wp_skip ?_
  refine then_of ?_
  refine seq_T hI [] [] [⟨some 0, none, 18, pRow 1 false A.length (fun i => pRats (A.getD i []))⟩, ⟨some 1, none, 19, pRow 1 false (A.getD 0 []).length (fun i => pRats ((turnM A).getD i []))⟩, ⟨some 2, none, 7, pRow 1 false (A.getD 0 []).length (fun i => pRats ((turnM A).getD i []))⟩] .z (.kkkk (.k .z)) rfl [0, 1, 3] (by kernel_rfl) ?_ .z (.kkkk (.dddk .z)) fun a w hI => ?_
  · exact ⟨op_move (.tmp 0 rfl rfl) (.here 5 rfl), op_callB1 (fun _ _ => by kernel_rfl) (.tmp 5 rfl rfl) (.here 6 rfl) (c_turned (j := j) h0 (by omega) (by omega) hR.rect hAb), op_assign (.tmp 6 rfl rfl) (.here 7 rfl), trivial⟩
  refine seq_T hI [] [] [⟨some 0, none, 20, pRow 1 false (A.getD 0 []).length (fun i => pRats ((turnM A).getD i []))⟩, ⟨some 1, none, 21, pRow 1 false A.length (fun i => pRats (A.getD i []))⟩, ⟨some 2, none, 22, pRow 1 false (A.getD 0 []).length (fun i => pRats ((lsM A).getD i []))⟩, ⟨some 3, none, 23, pRow 1 false (A.getD 0 []).length (fun i => pRats ((turnM A).getD i []))⟩, ⟨some 4, none, 24, pRats b⟩, ⟨some 5, none, 25, pRow 1 false b.length (fun i => pRats ((colM b).getD i []))⟩, ⟨some 6, none, 26, pRow 1 false (A.getD 0 []).length (fun i => pRats ((mulT (turnM A) (turnM (colM b))).getD i []))⟩, ⟨some 7, none, 27, pRow 1 false 1 (fun i => pRats ((turnM (mulT (turnM A) (turnM (colM b)))).getD i []))⟩, ⟨some 8, none, 28, pPtr 1 false (pRats ((turnM (mulT (turnM A) (turnM (colM b)))).getD 0 []))⟩, ⟨some 9, none, 29, pRats ((turnM (mulT (turnM A) (turnM (colM b)))).getD 0 [])⟩, ⟨some 10, none, 30, pTup2 (pRats (sol1 (lsM A) (lsB A b))) (pI 0)⟩, ⟨some 11, none, 31, pRats (sol1 (lsM A) (lsB A b))⟩, ⟨some 12, none, 32, pI 0⟩, ⟨some 13, none, 4, pRats (sol1 (lsM A) (lsB A b))⟩, ⟨some 14, none, 5, pI 0⟩] .z (.kk (.t 13 (.t 14 (.k .z)))) rfl [0, 1, 3, 7, 15, 31, 63, 127, 255, 511, 1023, 2047, 4095, 8191, 16383] (by kernel_rfl) ?_ .z (.d8 (.d8 (.ddkk .z))) fun a w hI => ?_
  · exact ⟨op_move (.tmp 4 rfl rfl) (.here 5 rfl), op_move (.tmp 0 rfl rfl) (.here 6 rfl), op_callB2 (fun _ _ => by kernel_rfl) (.tmp 5 rfl rfl) (.tmp 6 rfl rfl) (.here 7 rfl) ((by have h := c_product (A := turnM A) (B := A) (j1 := j) (j2 := j) (by omega) (by omega) hTr hR.rect (by omega) hTb hAb h1 hdj; rw [hT] at h; exact h)), op_move (.tmp 4 rfl rfl) (.here 8 rfl), op_move (.tmp 1 rfl rfl) (.here 9 rfl), op_callB1 (fun _ _ => by kernel_rfl) (.tmp 9 rfl rfl) (.here 10 rfl) (c_column (by omega) hb), op_callB2 (fun _ _ => by kernel_rfl) (.tmp 8 rfl rfl) (.tmp 10 rfl rfl) (.here 11 rfl) ((by have h := c_product (A := turnM A) (B := colM b) (j1 := j) (j2 := j) (by omega) (by rw [colM_len]; omega) (fun i hi => by rw [hTr i hi, colM_len, hbl]) (fun i hi => by rw [hC0]; rw [colM_len] at hi; exact colM_rect hi) (by omega) hTb hCb h1 (by rw [colM_len, hbl]; exact hdj); rw [hT, colM_len] at h; exact h)), op_callB1 (fun _ _ => by kernel_rfl) (.tmp 11 rfl rfl) (.here 12 rfl) ((by have h := c_turned (A := mulT (turnM A) (turnM (colM b))) (j := dotJ (j + j) A.length) (by omega) (by omega) (by rw [hPr 0 (by omega)]; omega) (fun i hi => by rw [hPr i hi, hPr 0 (by omega)]) hPb; rw [hPl, hPr 0 (by omega)] at h; exact h)), op_indexRow (.tmp 12 rfl rfl) (.const _) sl_Rows (by omega) (by omega) (by kernel_rfl) (.here 13 rfl), op_loadP (.tmp 13 rfl rfl) ty_Ratios ((fits_rats _)) (.here 14 rfl), op_callB2 (fun _ _ => by kernel_rfl) (.tmp 7 rfl rfl) (.tmp 14 rfl rfl) (.here 15 rfl) ((by have h := c_solve_ok (A := lsM A) (b := lsB A b) (by omega) (by omega) hMr hBl hMb hBb (dotJ_pos _ _) hj2 hs; rw [hMl] at h; exact fun M w v0 v1 hM k0 k1 => h M w v0 v1 hM k0 (by have e := turnM_get (A := mulT (turnM A) (turnM (colM b))) (k := 0) (by rw [hPr 0 (by omega)]; omega); rw [e] at k1; exact k1))), op_extract (.tmp 15 rfl rfl) ex2_0 (.here 16 rfl), op_extract (.tmp 15 rfl rfl) ex2_1 (.here 17 rfl), op_assign (.tmp 16 rfl rfl) (.here 18 rfl), op_assign (.tmp 17 rfl rfl) (.here 19 rfl), trivial⟩
  refine wp_ret ?_
  exact fin2 hI rfl (.tmp 0 rfl) (.tmp 1 rfl)
theorem c_Least_no {A : List (List Rat)} {b : List Rat} {j : Nat} (hR : Right A) (hbl : b.length = A.length) (hAb : BdX j A) (hb : ∀ k, BdR j (b.getD k 0)) (h1 : 1 ≤ j) (hj : gjJ (dotJ (j + j) A.length) (A.getD 0 []).length ≤ 100000000) (hs : Sing (lsM A) (lsB A b)) : ∀ (M : Nat → Nat → Prop) (w : World) (v0 v1 : Value), Mid M w → Box M (fun w => (pRow 1 false A.length (fun i => pRats (A.getD i []))) w v0) w → Box M (fun w => (pRats b) w v1) w → Calls Try.prog 8 #[v0, v1] w (RetB M (pTup2 (pEq (.slice none 0 0)) (pI 6)) w) := by
  intro M w0 v0 v1 hM hv0 hv1
  have h0 := hR.rows.1
  have hn := hR.rows.2
  have c0 := hR.cols.1
  have cn := hR.cols.2
  have hT : (turnM A).length = (A.getD 0 []).length := turnM_len A
  have hTr : Rect A.length (turnM A) := turnM_rect
  have hTb := turnM_bd hAb h1
  have hT0 : ((turnM A).getD 0 []).length = A.length := hTr 0 (by omega)
  have hC0 : ((colM b).getD 0 []).length = 1 := colM_rect (by omega)
  have hCb := colM_bd hb h1
  have hdj : dotJ (j + j) A.length ≤ 100000000 := Nat.le_trans (gjJ_mono (j := dotJ (j + j) A.length) (Nat.zero_le _)) hj
  have hMl : (lsM A).length = (A.getD 0 []).length := by unfold lsM; rw [mulT_len, hT]
  have hPl : (mulT (turnM A) (turnM (colM b))).length = (A.getD 0 []).length := by rw [mulT_len, hT]
  have hPr : Rect 1 (mulT (turnM A) (turnM (colM b))) := by have h := mulT_rect (A := turnM A) (C := turnM (colM b)); rw [turnM_len, hC0] at h; exact h
  have hBl : (lsB A b).length = (lsM A).length := by unfold lsB; rw [colAt_len, hPl, hMl]
  have hMr : Rect (lsM A).length (lsM A) := by have h := mulT_rect (A := turnM A) (C := turnM A); rw [hMl]; rw [hT] at h; exact h
  have hMb : BdX (dotJ (j + j) A.length) (lsM A) := mulT_bd hTb hTb fun i hi => Nat.le_of_eq (hTr i hi)
  have hPb : BdX (dotJ (j + j) A.length) (mulT (turnM A) (turnM (colM b))) := mulT_bd hTb (turnM_bd hCb h1) fun i hi => Nat.le_of_eq (hTr i hi)
  have hBb : ∀ k, BdR (dotJ (j + j) A.length) ((lsB A b).getD k 0) := bd_col hPb (dotJ_pos _ _) 0
  have hj2 : gjJ (dotJ (j + j) A.length) (lsM A).length ≤ 100000000 := by rw [hMl]; exact hj
  refine calls_startR (N := 33) Try.func8 rfl rfl rfl hM (show EntsA M w0 [v0, v1] [⟨none, none, 0, pRow 1 false A.length (fun i => pRats (A.getD i []))⟩, ⟨none, none, 1, pRats b⟩] from ⟨⟨rfl, _, rfl, hv0⟩, ⟨rfl, _, rfl, hv1⟩, trivial⟩) fun a hI => ?_
  refine seq_T hI [] [] [⟨some 0, none, 4, pEq ((Value.slice none 0 0))⟩, ⟨some 1, none, 5, pI 0⟩] .z (.kk .z) rfl [0, 1] (by kernel_rfl) ?_ .z (.kkkk .z) fun a w hI => ?_
  · exact ⟨op_assign (.const _) (.here 2 rfl), op_assign (.const _) (.here 3 rfl), trivial⟩
  refine wp_seq ?_
  refine seq_T hI [] [] [⟨some 0, none, 8, pRow 1 false A.length (fun i => pRats (A.getD i []))⟩, ⟨some 1, none, 9, pI 0⟩, ⟨some 2, none, 6, pI 0⟩] .z (.kkkk .z) rfl [0, 1, 3] (by kernel_rfl) ?_ .z (.kkkk (.ddk .z)) fun a w hI => ?_
  · exact ⟨op_move (.tmp 0 rfl rfl) (.here 4 rfl), op_callB1 (fun _ _ => by kernel_rfl) (.tmp 4 rfl rfl) (.here 5 rfl) (c_check_ok hR), op_assign (.tmp 5 rfl rfl) (.here 6 rfl), trivial⟩
  refine seq_T hI [] [] [⟨some 0, none, 10, pI 0⟩, ⟨some 1, none, 11, pB false⟩] .z (.kkkk (.k .z)) rfl [0, 1] (by kernel_rfl) ?_ .z (.kkkk (.kdk .z)) fun a w hI => ?_
  · exact ⟨op_move (.tmp 4 rfl rfl) (.here 5 rfl), op_bin (v := .bool (false)) (.tmp 5 rfl rfl) (.const _) (fun _ => rfl) (.here 6 rfl), trivial⟩
  refine cond_no hI 5 rfl ?_
  refine wp_skip ?_
  refine then_of ?_
  refine wp_seq ?_
  refine seq_T hI [] [] [⟨some 0, none, 13, pRats b⟩, ⟨some 1, none, 14, pI (b.length : Int)⟩, ⟨some 2, none, 15, pRow 1 false A.length (fun i => pRats (A.getD i []))⟩, ⟨some 3, none, 16, pI (A.length : Int)⟩, ⟨some 4, none, 17, pB false⟩] .z (.kkkk (.kk .z)) rfl [0, 1, 3, 7, 15] (by kernel_rfl) ?_ .z (.kkkk (.dddd (.ddk .z))) fun a w hI => ?_
  · exact ⟨op_move (.tmp 1 rfl rfl) (.here 6 rfl), op_len (.tmp 6 rfl rfl) (sl_Ratios).under (.here 7 rfl), op_move (.tmp 0 rfl rfl) (.here 8 rfl), op_len (.tmp 8 rfl rfl) (sl_Rows).under (.here 9 rfl), op_bin (v := .bool (((b.length : Int) != (A.length : Int)))) (.tmp 7 rfl rfl) (.tmp 9 rfl rfl) (fun _ => rfl) (.at_ 10 _ _ rfl (pB_eq ((by rw [hbl]; exact bne_self_eq_false _)))), trivial⟩
  refine cond_no hI 4 rfl ?_
  refine wp_skip ?_
  refine then_of ?_
  refine seq_T hI [] [] [⟨some 0, none, 18, pRow 1 false A.length (fun i => pRats (A.getD i []))⟩, ⟨some 1, none, 19, pRow 1 false (A.getD 0 []).length (fun i => pRats ((turnM A).getD i []))⟩, ⟨some 2, none, 7, pRow 1 false (A.getD 0 []).length (fun i => pRats ((turnM A).getD i []))⟩] .z (.kkkk (.k .z)) rfl [0, 1, 3] (by kernel_rfl) ?_ .z (.kkkk (.dddk .z)) fun a w hI => ?_
  · exact ⟨op_move (.tmp 0 rfl rfl) (.here 5 rfl), op_callB1 (fun _ _ => by kernel_rfl) (.tmp 5 rfl rfl) (.here 6 rfl) (c_turned (j := j) h0 (by omega) (by omega) hR.rect hAb), op_assign (.tmp 6 rfl rfl) (.here 7 rfl), trivial⟩
  refine seq_T hI [] [] [⟨some 0, none, 20, pRow 1 false (A.getD 0 []).length (fun i => pRats ((turnM A).getD i []))⟩, ⟨some 1, none, 21, pRow 1 false A.length (fun i => pRats (A.getD i []))⟩, ⟨some 2, none, 22, pRow 1 false (A.getD 0 []).length (fun i => pRats ((lsM A).getD i []))⟩, ⟨some 3, none, 23, pRow 1 false (A.getD 0 []).length (fun i => pRats ((turnM A).getD i []))⟩, ⟨some 4, none, 24, pRats b⟩, ⟨some 5, none, 25, pRow 1 false b.length (fun i => pRats ((colM b).getD i []))⟩, ⟨some 6, none, 26, pRow 1 false (A.getD 0 []).length (fun i => pRats ((mulT (turnM A) (turnM (colM b))).getD i []))⟩, ⟨some 7, none, 27, pRow 1 false 1 (fun i => pRats ((turnM (mulT (turnM A) (turnM (colM b)))).getD i []))⟩, ⟨some 8, none, 28, pPtr 1 false (pRats ((turnM (mulT (turnM A) (turnM (colM b)))).getD 0 []))⟩, ⟨some 9, none, 29, pRats ((turnM (mulT (turnM A) (turnM (colM b)))).getD 0 [])⟩, ⟨some 10, none, 30, pTup2 (pEq (.slice none 0 0)) (pI 6)⟩, ⟨some 11, none, 31, pEq (.slice none 0 0)⟩, ⟨some 12, none, 32, pI 6⟩, ⟨some 13, none, 4, pEq (.slice none 0 0)⟩, ⟨some 14, none, 5, pI 6⟩] .z (.kk (.t 13 (.t 14 (.k .z)))) rfl [0, 1, 3, 7, 15, 31, 63, 127, 255, 511, 1023, 2047, 4095, 8191, 16383] (by kernel_rfl) ?_ .z (.d8 (.d8 (.ddkk .z))) fun a w hI => ?_
  · exact ⟨op_move (.tmp 4 rfl rfl) (.here 5 rfl), op_move (.tmp 0 rfl rfl) (.here 6 rfl), op_callB2 (fun _ _ => by kernel_rfl) (.tmp 5 rfl rfl) (.tmp 6 rfl rfl) (.here 7 rfl) ((by have h := c_product (A := turnM A) (B := A) (j1 := j) (j2 := j) (by omega) (by omega) hTr hR.rect (by omega) hTb hAb h1 hdj; rw [hT] at h; exact h)), op_move (.tmp 4 rfl rfl) (.here 8 rfl), op_move (.tmp 1 rfl rfl) (.here 9 rfl), op_callB1 (fun _ _ => by kernel_rfl) (.tmp 9 rfl rfl) (.here 10 rfl) (c_column (by omega) hb), op_callB2 (fun _ _ => by kernel_rfl) (.tmp 8 rfl rfl) (.tmp 10 rfl rfl) (.here 11 rfl) ((by have h := c_product (A := turnM A) (B := colM b) (j1 := j) (j2 := j) (by omega) (by rw [colM_len]; omega) (fun i hi => by rw [hTr i hi, colM_len, hbl]) (fun i hi => by rw [hC0]; rw [colM_len] at hi; exact colM_rect hi) (by omega) hTb hCb h1 (by rw [colM_len, hbl]; exact hdj); rw [hT, colM_len] at h; exact h)), op_callB1 (fun _ _ => by kernel_rfl) (.tmp 11 rfl rfl) (.here 12 rfl) ((by have h := c_turned (A := mulT (turnM A) (turnM (colM b))) (j := dotJ (j + j) A.length) (by omega) (by omega) (by rw [hPr 0 (by omega)]; omega) (fun i hi => by rw [hPr i hi, hPr 0 (by omega)]) hPb; rw [hPl, hPr 0 (by omega)] at h; exact h)), op_indexRow (.tmp 12 rfl rfl) (.const _) sl_Rows (by omega) (by omega) (by kernel_rfl) (.here 13 rfl), op_loadP (.tmp 13 rfl rfl) ty_Ratios ((fits_rats _)) (.here 14 rfl), op_callB2 (fun _ _ => by kernel_rfl) (.tmp 7 rfl rfl) (.tmp 14 rfl rfl) (.here 15 rfl) ((by have h := c_solve_no (A := lsM A) (b := lsB A b) (by omega) (by omega) hMr hBl hMb hBb (dotJ_pos _ _) hj2 hs; rw [hMl] at h; exact fun M w v0 v1 hM k0 k1 => h M w v0 v1 hM k0 (by have e := turnM_get (A := mulT (turnM A) (turnM (colM b))) (k := 0) (by rw [hPr 0 (by omega)]; omega); rw [e] at k1; exact k1))), op_extract (.tmp 15 rfl rfl) ex2_0 (.here 16 rfl), op_extract (.tmp 15 rfl rfl) ex2_1 (.here 17 rfl), op_assign (.tmp 16 rfl rfl) (.here 18 rfl), op_assign (.tmp 17 rfl rfl) (.here 19 rfl), trivial⟩
  refine wp_ret ?_
  exact fin2 hI rfl (.tmp 0 rfl) (.tmp 1 rfl)
end Wx
