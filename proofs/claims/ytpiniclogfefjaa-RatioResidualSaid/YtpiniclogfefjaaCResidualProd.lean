import Derived.Handy
import Derived.KernelRfl
import Derived.Test.YtpiniclogfefjaaProg
import Derived.Test.YtpiniclogfefjaaJResidual0
import Derived.Test.YtpiniclogfefjaaCResidualMem
import Derived.Test.YtpiniclogfefjaaJResidual6
import Derived.Test.YtpiniclogfefjaaCResidualRat1
import Derived.Test.YtpiniclogfefjaaJResidual14
import Derived.Test.YtpiniclogfefjaaJResidual16
import Derived.Test.YtpiniclogfefjaaJResidual19
import Derived.Test.YtpiniclogfefjaaCResidualInv
import Derived.Test.YtpiniclogfefjaaCResidualSem
import Derived.Test.YtpiniclogfefjaaCResidualSemOps
import Derived.Test.YtpiniclogfefjaaCResidualSemMem
import Derived.Test.YtpiniclogfefjaaJResidual24
import Derived.Test.YtpiniclogfefjaaCResidualSemTab
import Derived.Test.YtpiniclogfefjaaJResidual30
import Derived.Test.YtpiniclogfefjaaCResidualSemRow
import Derived.Test.YtpiniclogfefjaaJResidual26
import Derived.Test.YtpiniclogfefjaaCResidualSemAppend
import Derived.Test.YtpiniclogfefjaaCResidualSemObj
import Derived.Test.YtpiniclogfefjaaJResidual29
import Derived.Test.YtpiniclogfefjaaCResidualSemCopy
import Derived.Test.YtpiniclogfefjaaCResidualSemApp
import Derived.Test.YtpiniclogfefjaaJResidual34
import Derived.Test.YtpiniclogfefjaaJResidual35
import Derived.Test.YtpiniclogfefjaaCResidualMatrix
import Derived.Test.YtpiniclogfefjaaJResidual37
import Derived.Test.YtpiniclogfefjaaCResidualTurned
import Derived.Test.YtpiniclogfefjaaCResidualInner
namespace Wx
set_option maxRecDepth 100000
open Go Go.RowKit Go.Proofs
set_option linter.unusedVariables false

theorem c_column {b : List Rat} {j : Nat} (hm : b.length ≤ 1000000) (hb : ∀ k, BdR j (b.getD k 0)) : ∀ (M : Nat → Nat → Prop) (w : World) (v0 : Value), Mid M w → Box M (fun w => (pRats b) w v0) w → Calls Try.prog 36 #[v0] w (RetB M (pRow 1 false b.length fun i => pRats ((colM b).getD i [])) w) := by
  intro M w0 v0 hM hv0
  refine calls_startR (N := 19) Try.func36 rfl rfl rfl hM (show EntsA M w0 [v0] [⟨none, none, 0, pRats b⟩] from ⟨⟨rfl, _, rfl, hv0⟩, trivial⟩) fun a hI => ?_
  refine seq_T hI [] [] [⟨some 0, none, 2, pEq ((Value.slice none 0 0))⟩] .z (.k .z) rfl [0] (by kernel_rfl) ?_ .z (.kk .z) fun a w hI => ?_
  · exact ⟨op_assign (.const _) (.here 1 rfl), trivial⟩
  refine seq_T hI [⟨3, 3, some 0, none, (.grow 0 1), 28, 0, false, pv pAny, []⟩] [] [⟨some 0, none, 3, pRow 1 false 0 (fun i => pRats [b.getD i 0])⟩] .z (.kk .z) rfl [0] (by kernel_rfl) ?_ (.k .z) (.kkk .z) fun a w hI => ?_
  · exact ⟨op_nilG 0 rfl rfl rfl (by kernel_rfl) (.here 2 rfl), trivial⟩
  refine wp_seq ?_
  refine seq_T hI [] [] [⟨some 0, none, 6, pRats b⟩, ⟨some 1, none, 7, pI (b.length : Int)⟩, ⟨some 2, none, 8, pI 0⟩] (.k .z) (.kkk .z) rfl [0, 1, 3] (by kernel_rfl) ?_ (.k .z) (.dkkk (.kk .z)) fun a w hI => ?_
  · exact ⟨op_move (.tmp 0 rfl rfl) (.here 3 rfl), op_len (.tmp 3 rfl rfl) (sl_Ratios).under (.here 4 rfl), op_move (.const _) (.here 5 rfl), trivial⟩
  refine wp_block ?_
  refine wp_loop_ix (fun (k : Nat) a w => (k ≤ b.length) ∧ Inv ⟨19, w0, M, fun _ => False⟩ [⟨3, 3, none, none, (.grow k 1), 28, 0, false, pv pAny, []⟩] [] [⟨none, none, 2, pEq ((Value.slice none 0 0))⟩, ⟨none, none, 3, pRow 1 false k (fun i => pRats [b.getD i 0])⟩, ⟨none, none, 6, pRats b⟩, ⟨none, none, 7, pI (b.length : Int)⟩, ⟨none, none, 8, pI (k : Int)⟩] none_ a w) (fun (k : Nat) => b.length - k) (0) ⟨Nat.zero_le _, (hI.conv ⟨⟨0, _, _, rfl, ⟨rfl, rfl, rfl⟩, rfl, fun _ => fun _ _ h => h⟩, trivial⟩ ⟨⟨rfl, rfl, 0, _, rfl, fun _ _ h => h⟩, ⟨rfl, rfl, 1, _, rfl, fun _ _ h => h⟩, ⟨rfl, rfl, 2, _, rfl, fun _ _ h => h⟩, ⟨rfl, rfl, 3, _, rfl, fun _ _ h => h⟩, ⟨rfl, rfl, 4, _, rfl, (pI_eq (by omega))⟩, trivial⟩)⟩ ?_
  intro k a w hIk
  obtain ⟨hp, hI⟩ := hIk
  refine seq_T hI [] [] [⟨some 0, none, 9, pB (decide ((k : Int) < (b.length : Int)))⟩] (.k .z) (.kkkk (.k .z)) rfl [0] (by kernel_rfl) ?_ (.k .z) (.kkkk (.kk .z)) fun a w hI => ?_
  · exact ⟨op_bin (v := .bool (decide ((k : Int) < (b.length : Int)))) (.tmp 4 rfl rfl) (.tmp 3 rfl rfl) (fun _ => rfl) (.here 5 rfl), trivial⟩
  refine wp_seq ?_
  refine cond_if hI 5 rfl (fun ht => ?_) (fun ht => ?_)
  · have t1 := of_decide_eq_true ht
    refine wp_skip ?_
    refine then_of ?_
    refine wp_seq ?_
    refine wp_block ?_
    refine seq_T hI [⟨5, 5, some 2, none, .ptr, 32, 3, true, pv (pRat 0), [(3, pv (pRat (b.getD k 0)))]⟩] [] [⟨some 0, none, 10, pPtr 3 true (pRat (b.getD k 0))⟩, ⟨some 1, none, 11, pRat (b.getD k 0)⟩] (.k .z) (.kkkk (.kk .z)) rfl [0, 1, 3, 7] (by kernel_rfl) ?_ (.k (.s .o .z)) (.kkkk (.kddd .z)) fun a w hI => ?_
    · exact ⟨op_indexRow (.tmp 2 rfl rfl) (.tmp 4 rfl rfl) sl_Ratios (by omega) (by omega) (by kernel_rfl) (.at_ 6 _ _ rfl (by rw [Int.toNat_natCast]; exact fun _ _ h => h)), op_loadP (.tmp 6 rfl rfl) ty_Ratio (fits_rat _) (.here 7 rfl), op_alloc 1 rfl rfl (by kernel_rfl) (by kernel_rfl) rfl rfl rfl zv_Ratio rfl rfl (by simp [NoU]) rfl (fun w => isRat_zero w), op_store 1 rfl rfl rfl rfl 0 rfl (by kernel_rfl) (by kernel_rfl) ty_Ratio (.tmp 7 rfl rfl) (fits_rat _), trivial⟩
    refine sem_ST hI [⟨12, 12, some 0, some 4, (.grow k 1), 28, 0, false, pv pAny, []⟩, ⟨16, 16, some 4, none, (.grow (k + 1) 1), 28, 0, false, pv pAny, []⟩] [] [⟨some 0, none, 12, pRow 1 false k (fun i => pRats [b.getD i 0])⟩, ⟨some 1, none, 13, pRat (b.getD k 0)⟩, ⟨some 2, none, 14, pRats ([b.getD k 0])⟩, ⟨some 3, none, 15, pRow 1 false 1 (fun _ => pRats ([b.getD k 0]))⟩, ⟨some 4, none, 16, pRow 1 false (k + 1) (fun i => pRats [b.getD i 0])⟩] (.u (some 0) [] (.k .z)) (.kkkk (.k .z)) rfl [0, 1, 3, 7, 15, 31] 5 (by kernel_rfl) ?_ (.d (.k (.d (.k .z)))) (.kdkk (.kddd (.dk .z))) (fun a w hI => hI) (⟨_, fun a w hI => sing hI [⟨3, 3, some 0, none, (.grow (k + 1) 1), 28, 0, false, pv pAny, []⟩] [⟨some 0, none, 3, pRow 1 false (k + 1) (fun i => pRats [b.getD i 0])⟩] (.k (.u (some 0) [] .z)) (.kkkk (.k .z)) (by kernel_rfl) (op_assignG 1 rfl rfl (by kernel_rfl) rfl rfl 2 rfl rfl rfl rfl (by kernel_rfl) (.tmp 4 rfl rfl) (.here 5 rfl)) (.k (.d (.k .z))) (.kkkk (.dk .z)),
        rfl⟩) ?_
    · exact ⟨op_moveG 0 rfl rfl (by kernel_rfl) rfl rfl 2 rfl rfl rfl rfl (by kernel_rfl) (.tmp 1 rfl rfl) (.here 5 rfl), op_load 1 rfl rfl rfl rfl (by kernel_rfl) ty_Ratio rfl (.here 6 rfl), op_buildSlice (fs := List.replicate 1 ⟨true, 3, pRat 0⟩) (ps := [(0, pRat (b.getD k 0))]) (gs := [b.getD k 0].map fun q => ⟨true, 3, pRat q⟩) sl_Ratios zv_Ratio rfl rfl rfl (fun w => isRat_zero w) rfl (show HasParts _ _ _ _ _ _ from ⟨⟨rfl, (.tmp 6 rfl rfl), _, rfl, fits_rat _⟩, trivial⟩) rfl (fun i => pRat ([b.getD k 0].getD i 0)) (rats_fd _) (.here 7 rfl), op_buildSlice1 (agg := false) sl_Rows zv_Ratios rfl rfl (by decide) (.tmp 7 rfl rfl) (fits_rats _) (.here 8 rfl), op_append 2 rfl rfl (by kernel_rfl) rfl rfl 3 rfl rfl rfl rfl rfl (by kernel_rfl) (by kernel_rfl) (.tmp 5 rfl rfl) (.tmp 8 rfl rfl) app_Rows (fun _ => rfl) (fun i _ => fits_rats _) (fun i _ => fits_rats _) (by omega) (.at_ 9 _ _ rfl (row_snoc1 (f' := fun i => pRats [b.getD i 0]) (f := fun i => pRats [b.getD i 0]) (fun _ _ _ _ h => h) (fun _ _ h => h))), trivial⟩
    · intro a w hI
      refine block_of ?_
      refine then_of ?_
      refine sem_T hI [] [] [⟨some 0, none, 17, pI ((k : Int) + (1 : Int))⟩, ⟨some 1, none, 8, pI ((k : Int) + (1 : Int))⟩] (.k (.k .z)) (.kkk (.t 1 (.k .z))) rfl [0, 1] (by kernel_rfl) ?_ (.k (.k .z)) (.kkkd (.kdk .z)) fun a w hI => ?_
      · exact ⟨op_bin (v := .int .i64 (IntKind.i64.wrap ((k : Int) + (1 : Int)))) (.tmp 3 rfl rfl) (.const _) (fun _ => rfl) (.at_ 5 _ _ rfl (pI_wrap (by omega))), op_move (.tmp 5 rfl rfl) (.here 6 rfl), trivial⟩
      refine then_of ?_
      exact ⟨k + 1, ⟨(show k + 1 ≤ b.length by omega), (hI.conv ⟨⟨1, _, _, rfl, ⟨rfl, rfl, rfl⟩, rfl, fun _ => fun _ _ h => h⟩, trivial⟩ ⟨⟨rfl, rfl, 0, _, rfl, fun _ _ h => h⟩, ⟨rfl, rfl, 3, _, rfl, fun _ _ h => h⟩, ⟨rfl, rfl, 1, _, rfl, fun _ _ h => h⟩, ⟨rfl, rfl, 2, _, rfl, fun _ _ h => h⟩, ⟨rfl, rfl, 4, _, rfl, (pI_eq (by omega))⟩, trivial⟩)⟩, (show b.length - (k + 1) < b.length - k by omega)⟩
  · have t2 := of_decide_eq_false ht
    refine wp_exit ?_
    refine then_exit ?_
    refine then_exit ?_
    refine block_exit ?_
    refine then_of ?_
    refine seq_T hI [⟨18, 18, some 0, some 1, (.grow k 1), 28, 0, false, pv pAny, []⟩, ⟨2, 2, some 1, none, (.grow k 1), 28, 0, false, pv pAny, []⟩] [] [⟨some 0, none, 18, pRow 1 false k (fun i => pRats [b.getD i 0])⟩, ⟨some 1, none, 2, pRow 1 false k (fun i => pRats [b.getD i 0])⟩] (.u (some 0) [] .z) (.t 1 (.kkkk (.k .z))) rfl [0, 1] (by kernel_rfl) ?_ (.d (.d (.k .z))) (.dddd (.dddk .z)) fun a w hI => ?_
    · exact ⟨op_moveG 0 rfl rfl (by kernel_rfl) rfl rfl 1 rfl rfl rfl rfl (by kernel_rfl) (.tmp 1 rfl rfl) (.here 6 rfl), op_assignG 1 rfl rfl (by kernel_rfl) rfl rfl 2 rfl rfl rfl rfl (by kernel_rfl) (.tmp 6 rfl rfl) (.here 7 rfl), trivial⟩
    refine wp_ret ?_
    exact fin1 hI rfl (.imp (.tmp 0 rfl) (row_congr (by omega) fun i hi w v h => by rw [colM_get (by omega)]; exact h))
theorem colAt_bd {B : List (List Rat)} {j : Nat} (hb : BdX j B) (h1 : 1 ≤ j) (k : Nat) : ∀ q, BdR j ((colAt B k).getD q 0) := fun q => by
  rcases Nat.lt_or_ge q B.length with h | h
  · rw [colAt_get h]
    exact hb q k
  · rw [getD_out (by rw [colAt_len]; exact h)]
    exact bd_zero.mono h1
theorem c_product {A B : List (List Rat)} {j1 j2 : Nat} (hA0 : A.length ≤ 1000000) (hB0 : 0 < B.length ∧ B.length ≤ 1000000) (hAr : ∀ i, i < A.length → (A.getD i []).length = B.length) (hBr : ∀ i, i < B.length → (B.getD i []).length = (B.getD 0 []).length) (hBc : (B.getD 0 []).length ≤ 1000000) (hAb : BdX j1 A) (hBb : BdX j2 B) (h2 : 1 ≤ j2) (hj : dotJ (j1 + j2) B.length ≤ 100000000) : ∀ (M : Nat → Nat → Prop) (w : World) (v0 v1 : Value), Mid M w → Box M (fun w => (pRow 1 false A.length (fun i => pRats (A.getD i []))) w v0) w → Box M (fun w => (pRow 1 false B.length (fun i => pRats (B.getD i []))) w v1) w → Calls Try.prog 35 #[v0, v1] w (RetB M (pRow 1 false A.length fun i => pRats ((mulT A (turnM B)).getD i [])) w) := by
  intro M w0 v0 v1 hM hv0 hv1
  refine calls_startR (N := 39) Try.func35 rfl rfl rfl hM (show EntsA M w0 [v0, v1] [⟨none, none, 0, pRow 1 false A.length (fun i => pRats (A.getD i []))⟩, ⟨none, none, 1, pRow 1 false B.length (fun i => pRats (B.getD i []))⟩] from ⟨⟨rfl, _, rfl, hv0⟩, ⟨rfl, _, rfl, hv1⟩, trivial⟩) fun a hI => ?_
  refine seq_T hI [] [] [⟨some 0, none, 4, pEq ((Value.slice none 0 0))⟩] .z (.kk .z) rfl [0] (by kernel_rfl) ?_ .z (.kkk .z) fun a w hI => ?_
  · exact ⟨op_assign (.const _) (.here 2 rfl), trivial⟩
  refine seq_T hI [] [] [⟨some 0, none, 12, pRow 1 false B.length (fun i => pRats (B.getD i []))⟩, ⟨some 1, none, 13, pRow 1 false (B.getD 0 []).length (fun i => pRats ((turnM B).getD i []))⟩, ⟨some 2, none, 5, pRow 1 false (B.getD 0 []).length (fun i => pRats ((turnM B).getD i []))⟩] .z (.kkk .z) rfl [0, 1, 3] (by kernel_rfl) ?_ .z (.kdkd (.dk .z)) fun a w hI => ?_
  · exact ⟨op_move (.tmp 1 rfl rfl) (.here 3 rfl), op_callB1 (fun _ _ => by kernel_rfl) (.tmp 3 rfl rfl) (.here 4 rfl) (c_turned (j := j2) (by omega) (by omega) (by omega) hBr hBb), op_assign (.tmp 4 rfl rfl) (.here 5 rfl), trivial⟩
  refine seq_T hI [⟨6, 6, some 0, none, (.grow 0 1), 28, 0, false, pv pAny, []⟩] [] [⟨some 0, none, 6, pRow 1 false 0 (fun i => pRats ((mulT A (turnM B)).getD i []))⟩] .z (.kkk .z) rfl [0] (by kernel_rfl) ?_ (.k .z) (.kkkk .z) fun a w hI => ?_
  · exact ⟨op_nilG 0 rfl rfl rfl (by kernel_rfl) (.here 3 rfl), trivial⟩
  refine wp_seq ?_
  refine seq_T hI [] [] [⟨some 0, none, 14, pRow 1 false A.length (fun i => pRats (A.getD i []))⟩, ⟨some 1, none, 15, pI (A.length : Int)⟩, ⟨some 2, none, 16, pI 0⟩] (.k .z) (.kkkk .z) rfl [0, 1, 3] (by kernel_rfl) ?_ (.k .z) (.dkkk (.kkk .z)) fun a w hI => ?_
  · exact ⟨op_move (.tmp 0 rfl rfl) (.here 4 rfl), op_len (.tmp 4 rfl rfl) (sl_Rows).under (.here 5 rfl), op_move (.const _) (.here 6 rfl), trivial⟩
  refine wp_block ?_
  refine wp_loop_ix (fun (k : Nat) a w => (k ≤ A.length) ∧ Inv ⟨39, w0, M, fun _ => False⟩ [⟨6, 6, none, none, (.grow k 1), 28, 0, false, pv pAny, []⟩] [] [⟨none, none, 4, pEq ((Value.slice none 0 0))⟩, ⟨none, none, 5, pRow 1 false (B.getD 0 []).length (fun i => pRats ((turnM B).getD i []))⟩, ⟨none, none, 6, pRow 1 false k (fun i => pRats ((mulT A (turnM B)).getD i []))⟩, ⟨none, none, 14, pRow 1 false A.length (fun i => pRats (A.getD i []))⟩, ⟨none, none, 15, pI (A.length : Int)⟩, ⟨none, none, 16, pI (k : Int)⟩] none_ a w) (fun (k : Nat) => A.length - k) (0) ⟨Nat.zero_le _, (hI.conv ⟨⟨0, _, _, rfl, ⟨rfl, rfl, rfl⟩, rfl, fun _ => fun _ _ h => h⟩, trivial⟩ ⟨⟨rfl, rfl, 0, _, rfl, fun _ _ h => h⟩, ⟨rfl, rfl, 1, _, rfl, fun _ _ h => h⟩, ⟨rfl, rfl, 2, _, rfl, fun _ _ h => h⟩, ⟨rfl, rfl, 3, _, rfl, fun _ _ h => h⟩, ⟨rfl, rfl, 4, _, rfl, fun _ _ h => h⟩, ⟨rfl, rfl, 5, _, rfl, (pI_eq (by omega))⟩, trivial⟩)⟩ ?_
  intro k a w hIk
  obtain ⟨hp, hI⟩ := hIk
  refine seq_T hI [] [] [⟨some 0, none, 17, pB (decide ((k : Int) < (A.length : Int)))⟩] (.k .z) (.kkkk (.kk .z)) rfl [0] (by kernel_rfl) ?_ (.k .z) (.kkkk (.kkk .z)) fun a w hI => ?_
  · exact ⟨op_bin (v := .bool (decide ((k : Int) < (A.length : Int)))) (.tmp 5 rfl rfl) (.tmp 4 rfl rfl) (fun _ => rfl) (.here 6 rfl), trivial⟩
  refine wp_seq ?_
  refine cond_if hI 6 rfl (fun ht => ?_) (fun ht => ?_)
  · have t1 := of_decide_eq_true ht
    refine wp_skip ?_
    refine then_of ?_
    refine wp_seq ?_
    refine wp_block ?_
    refine seq_T hI [] [] [⟨some 0, none, 18, pPtr 1 false (pRats (A.getD k []))⟩, ⟨some 1, none, 19, pRats (A.getD k [])⟩, ⟨some 2, none, 8, pRats (A.getD k [])⟩] (.k .z) (.kkkk (.kkk .z)) rfl [0, 1, 3] (by kernel_rfl) ?_ (.k .z) (.kkkk (.kkdd (.dk .z))) fun a w hI => ?_
    · exact ⟨op_indexRow (.tmp 3 rfl rfl) (.tmp 5 rfl rfl) sl_Rows (by omega) (by omega) (by kernel_rfl) (.at_ 7 _ _ rfl (by rw [Int.toNat_natCast]; exact fun _ _ h => h)), op_loadP (.tmp 7 rfl rfl) ty_Ratios ((fits_rats _)) (.here 8 rfl), op_assign (.tmp 8 rfl rfl) (.here 9 rfl), trivial⟩
    refine seq_T hI [⟨9, 9, some 0, none, (.grow 0 3), 32, 0, false, pv pAny, []⟩] [] [⟨some 0, none, 9, pRow 3 true 0 (fun i => pRat ((mulRow (A.getD k []) (turnM B)).getD i 0))⟩] (.k .z) (.kkkk (.kkk .z)) rfl [0] (by kernel_rfl) ?_ (.k (.k .z)) (.k8 .z) fun a w hI => ?_
    · exact ⟨op_nilG 1 rfl rfl rfl (by kernel_rfl) (.here 7 rfl), trivial⟩
    refine wp_seq ?_
    refine seq_T hI [] [] [⟨some 0, none, 20, pRow 1 false (B.getD 0 []).length (fun i => pRats ((turnM B).getD i []))⟩, ⟨some 1, none, 21, pI ((B.getD 0 []).length : Int)⟩, ⟨some 2, none, 22, pI 0⟩] (.k (.k .z)) (.k8 .z) rfl [0, 1, 3] (by kernel_rfl) ?_ (.k (.k .z)) (.k8 (.kkk .z)) fun a w hI => ?_
    · exact ⟨op_move (.tmp 1 rfl rfl) (.here 8 rfl), op_len (.tmp 8 rfl rfl) (sl_Rows).under (.here 9 rfl), op_move (.const _) (.here 10 rfl), trivial⟩
    refine wp_block ?_
    refine wp_loop_ix (fun (k2 : Nat) a w => (k2 ≤ (B.getD 0 []).length) ∧ Inv ⟨39, w0, M, fun _ => False⟩ [⟨6, 6, none, none, (.grow k 1), 28, 0, false, pv pAny, []⟩, ⟨9, 9, none, none, (.grow k2 3), 32, 0, false, pv pAny, []⟩] [] [⟨none, none, 4, pEq ((Value.slice none 0 0))⟩, ⟨none, none, 5, pRow 1 false (B.getD 0 []).length (fun i => pRats ((turnM B).getD i []))⟩, ⟨none, none, 6, pRow 1 false k (fun i => pRats ((mulT A (turnM B)).getD i []))⟩, ⟨none, none, 14, pRow 1 false A.length (fun i => pRats (A.getD i []))⟩, ⟨none, none, 15, pI (A.length : Int)⟩, ⟨none, none, 16, pI (k : Int)⟩, ⟨none, none, 8, pRats (A.getD k [])⟩, ⟨none, none, 9, pRow 3 true k2 (fun i => pRat ((mulRow (A.getD k []) (turnM B)).getD i 0))⟩, ⟨none, none, 20, pRow 1 false (B.getD 0 []).length (fun i => pRats ((turnM B).getD i []))⟩, ⟨none, none, 21, pI ((B.getD 0 []).length : Int)⟩, ⟨none, none, 22, pI (k2 : Int)⟩] none_ a w) (fun (k2 : Nat) => (B.getD 0 []).length - k2) (0) ⟨Nat.zero_le _, (hI.conv ⟨⟨0, _, _, rfl, ⟨rfl, rfl, rfl⟩, rfl, fun _ => fun _ _ h => h⟩, ⟨1, _, _, rfl, ⟨rfl, rfl, rfl⟩, rfl, fun _ => fun _ _ h => h⟩, trivial⟩ ⟨⟨rfl, rfl, 0, _, rfl, fun _ _ h => h⟩, ⟨rfl, rfl, 1, _, rfl, fun _ _ h => h⟩, ⟨rfl, rfl, 2, _, rfl, fun _ _ h => h⟩, ⟨rfl, rfl, 3, _, rfl, fun _ _ h => h⟩, ⟨rfl, rfl, 4, _, rfl, fun _ _ h => h⟩, ⟨rfl, rfl, 5, _, rfl, fun _ _ h => h⟩, ⟨rfl, rfl, 6, _, rfl, fun _ _ h => h⟩, ⟨rfl, rfl, 7, _, rfl, fun _ _ h => h⟩, ⟨rfl, rfl, 8, _, rfl, fun _ _ h => h⟩, ⟨rfl, rfl, 9, _, rfl, fun _ _ h => h⟩, ⟨rfl, rfl, 10, _, rfl, (pI_eq (by omega))⟩, trivial⟩)⟩ ?_
    intro k2 a w hIk
    obtain ⟨hp2, hI⟩ := hIk
    refine seq_T hI [] [] [⟨some 0, none, 23, pB (decide ((k2 : Int) < ((B.getD 0 []).length : Int)))⟩] (.k (.k .z)) (.k8 (.kkk .z)) rfl [0] (by kernel_rfl) ?_ (.k (.k .z)) (.k8 (.kkkk .z)) fun a w hI => ?_
    · exact ⟨op_bin (v := .bool (decide ((k2 : Int) < ((B.getD 0 []).length : Int)))) (.tmp 10 rfl rfl) (.tmp 9 rfl rfl) (fun _ => rfl) (.here 11 rfl), trivial⟩
    refine wp_seq ?_
    refine cond_if hI 11 rfl (fun ht => ?_) (fun ht => ?_)
    · have t2 := of_decide_eq_true ht
      refine wp_skip ?_
      refine then_of ?_
      refine wp_seq ?_
      refine wp_block ?_
      refine seq_T hI [] [] [⟨some 0, none, 24, pPtr 1 false (pRats ((turnM B).getD k2 []))⟩, ⟨some 1, none, 25, pRats ((turnM B).getD k2 [])⟩, ⟨some 2, none, 11, pRats ((turnM B).getD k2 [])⟩] (.k (.k .z)) (.k8 (.kkkk .z)) rfl [0, 1, 3] (by kernel_rfl) ?_ (.k (.k .z)) (.k8 (.kkkd (.ddk .z))) fun a w hI => ?_
      · exact ⟨op_indexRow (.tmp 8 rfl rfl) (.tmp 10 rfl rfl) sl_Rows (by omega) (by omega) (by kernel_rfl) (.at_ 12 _ _ rfl (by rw [Int.toNat_natCast]; exact fun _ _ h => h)), op_loadP (.tmp 12 rfl rfl) ty_Ratios ((fits_rats _)) (.here 13 rfl), op_assign (.tmp 13 rfl rfl) (.here 14 rfl), trivial⟩
      have hTk := turnM_get (A := B) (show k2 < (B.getD 0 []).length by omega)
      have hTl : ((turnM B).getD k2 []).length = B.length := by rw [hTk, colAt_len]
      have q2 : ∀ q, BdR j2 (((turnM B).getD k2 []).getD q 0) := fun q => by rw [hTk]; exact colAt_bd hBb h2 k2 q
      have hAl := hAr k (by omega)
      refine sem_ST hI [⟨26, 26, some 0, some 5, (.grow k2 3), 32, 0, false, pv pAny, []⟩, ⟨31, 31, some 5, none, (.grow (k2 + 1) 3), 32, 0, false, pv pAny, []⟩] [] [⟨some 0, none, 26, pRow 3 true k2 (fun i => pRat ((mulRow (A.getD k []) (turnM B)).getD i 0))⟩, ⟨some 1, none, 27, pRats (A.getD k [])⟩, ⟨some 2, none, 28, pRats ((turnM B).getD k2 [])⟩, ⟨some 3, none, 29, pRat (dotN (A.getD k []) ((turnM B).getD k2 []) (A.getD k []).length)⟩, ⟨some 4, none, 30, pRats ([dotN (A.getD k []) ((turnM B).getD k2 []) (A.getD k []).length])⟩, ⟨some 5, none, 31, pRow 3 true (k2 + 1) (fun i => pRat ((mulRow (A.getD k []) (turnM B)).getD i 0))⟩] (.k (.u (some 0) [] .z)) (.k8 (.kkkk .z)) rfl [0, 1, 3, 7, 15, 31, 63] 6 (by kernel_rfl) ?_ (.k (.d (.d (.k .z)))) (.kkkk (.kkkd (.kkkd (.dddd (.dk .z))))) (fun a w hI => hI) (⟨_, fun a w hI => sing hI [⟨9, 9, some 0, none, (.grow (k2 + 1) 3), 32, 0, false, pv pAny, []⟩] [⟨some 0, none, 9, pRow 3 true (k2 + 1) (fun i => pRat ((mulRow (A.getD k []) (turnM B)).getD i 0))⟩] (.k (.u (some 0) [] .z)) (.k8 (.kkk .z)) (by kernel_rfl) (op_assignG 1 rfl rfl (by kernel_rfl) rfl rfl 2 rfl rfl rfl rfl (by kernel_rfl) (.tmp 10 rfl rfl) (.here 11 rfl)) (.k (.d (.k .z))) (.k8 (.kkdk .z)),
          rfl⟩) ?_
      · exact ⟨op_moveG 1 rfl rfl (by kernel_rfl) rfl rfl 2 rfl rfl rfl rfl (by kernel_rfl) (.tmp 7 rfl rfl) (.here 12 rfl), op_move (.tmp 6 rfl rfl) (.here 13 rfl), op_move (.tmp 11 rfl rfl) (.here 14 rfl), op_callB2 (fun _ _ => by kernel_rfl) (.tmp 13 rfl rfl) (.tmp 14 rfl rfl) (.here 15 rfl) (c_inner (j1 := j1) (j2 := j2) (by omega) (by omega) (by omega) (by omega) (hAb _) q2 (by rw [hAl]; exact hj)), op_buildSlice (fs := List.replicate 1 ⟨true, 3, pRat 0⟩) (ps := [(0, pRat (dotN (A.getD k []) ((turnM B).getD k2 []) (A.getD k []).length))]) (gs := [dotN (A.getD k []) ((turnM B).getD k2 []) (A.getD k []).length].map fun q => ⟨true, 3, pRat q⟩) sl_Ratios zv_Ratio rfl rfl rfl (fun w => isRat_zero w) rfl (show HasParts _ _ _ _ _ _ from ⟨⟨rfl, (.tmp 15 rfl rfl), _, rfl, fits_rat _⟩, trivial⟩) rfl (fun i => pRat ([dotN (A.getD k []) ((turnM B).getD k2 []) (A.getD k []).length].getD i 0)) (rats_fd _) (.here 16 rfl), op_append 2 rfl rfl (by kernel_rfl) rfl rfl 3 rfl rfl rfl rfl rfl (by kernel_rfl) (by kernel_rfl) (.tmp 12 rfl rfl) (.tmp 16 rfl rfl) app_Ratios (fun h => by cases h) (fun i _ => fits_rat _) (fun i _ => fits_rat _) (by omega) (.at_ 17 _ _ rfl (row_snoc (g := fun j => pRat ([dotN (A.getD k []) ((turnM B).getD k2 []) (A.getD k []).length].getD j 0)) (f := fun i => pRat ((mulRow (A.getD k []) (turnM B)).getD i 0)) (f' := fun i => pRat ((mulRow (A.getD k []) (turnM B)).getD i 0)) (fun _ _ _ _ h => h) (fun _ _ h => by rw [mulRow_get (by rw [turnM_len]; omega)]; exact h))), trivial⟩
      · intro a w hI
        refine block_of ?_
        refine then_of ?_
        refine sem_T hI [] [] [⟨some 0, none, 32, pI ((k2 : Int) + (1 : Int))⟩, ⟨some 1, none, 22, pI ((k2 : Int) + (1 : Int))⟩] (.k (.k .z)) (.k8 (.k (.t 1 (.k .z)))) rfl [0, 1] (by kernel_rfl) ?_ (.k (.k .z)) (.k8 (.kdkd (.k .z))) fun a w hI => ?_
        · exact ⟨op_bin (v := .int .i64 (IntKind.i64.wrap ((k2 : Int) + (1 : Int)))) (.tmp 9 rfl rfl) (.const _) (fun _ => rfl) (.at_ 11 _ _ rfl (pI_wrap (by omega))), op_move (.tmp 11 rfl rfl) (.here 12 rfl), trivial⟩
        refine then_of ?_
        exact ⟨k2 + 1, ⟨(show k2 + 1 ≤ (B.getD 0 []).length by omega), (hI.conv ⟨⟨0, _, _, rfl, ⟨rfl, rfl, rfl⟩, rfl, fun _ => fun _ _ h => h⟩, ⟨1, _, _, rfl, ⟨rfl, rfl, rfl⟩, rfl, fun _ => fun _ _ h => h⟩, trivial⟩ ⟨⟨rfl, rfl, 0, _, rfl, fun _ _ h => h⟩, ⟨rfl, rfl, 1, _, rfl, fun _ _ h => h⟩, ⟨rfl, rfl, 2, _, rfl, fun _ _ h => h⟩, ⟨rfl, rfl, 3, _, rfl, fun _ _ h => h⟩, ⟨rfl, rfl, 4, _, rfl, fun _ _ h => h⟩, ⟨rfl, rfl, 5, _, rfl, fun _ _ h => h⟩, ⟨rfl, rfl, 6, _, rfl, fun _ _ h => h⟩, ⟨rfl, rfl, 9, _, rfl, fun _ _ h => h⟩, ⟨rfl, rfl, 7, _, rfl, fun _ _ h => h⟩, ⟨rfl, rfl, 8, _, rfl, fun _ _ h => h⟩, ⟨rfl, rfl, 10, _, rfl, (pI_eq (by omega))⟩, trivial⟩)⟩, (show (B.getD 0 []).length - (k2 + 1) < (B.getD 0 []).length - k2 by omega)⟩
    · have t3 := of_decide_eq_false ht
      refine wp_exit ?_
      refine then_exit ?_
      refine then_exit ?_
      refine block_exit ?_
      refine then_of ?_
      refine sem_ST hI [⟨33, 33, some 0, some 3, (.grow k 1), 28, 0, false, pv pAny, []⟩, ⟨34, 34, some 1, none, (.grow k2 3), 32, 0, false, pv pAny, []⟩, ⟨36, 36, some 3, none, (.grow (k + 1) 1), 28, 0, false, pv pAny, []⟩] [] [⟨some 0, none, 33, pRow 1 false k (fun i => pRats ((mulT A (turnM B)).getD i []))⟩, ⟨some 1, none, 34, pRow 3 true k2 (fun i => pRat ((mulRow (A.getD k []) (turnM B)).getD i 0))⟩, ⟨some 2, none, 35, pRow 1 false 1 (fun _ => pRow 3 true k2 (fun i => pRat ((mulRow (A.getD k []) (turnM B)).getD i 0)))⟩, ⟨some 3, none, 36, pRow 1 false (k + 1) (fun i => pRats ((mulT A (turnM B)).getD i []))⟩] (.u (some 0) [] (.u (some 1) [] .z)) (.k8 (.kkkk .z)) rfl [0, 1, 3, 7, 15] 4 (by kernel_rfl) ?_ (.d (.d (.d (.k (.k .z))))) (.kkdk (.kkdd (.dddd (.dddk .z)))) (fun a w hI => hI) (⟨_, fun a w hI => sing hI [⟨6, 6, some 0, none, (.grow (k + 1) 1), 28, 0, false, pv pAny, []⟩] [⟨some 0, none, 6, pRow 1 false (k + 1) (fun i => pRats ((mulT A (turnM B)).getD i []))⟩] (.k (.u (some 0) [] .z)) (.kkkk (.kk .z)) (by kernel_rfl) (op_assignG 1 rfl rfl (by kernel_rfl) rfl rfl 2 rfl rfl rfl rfl (by kernel_rfl) (.tmp 5 rfl rfl) (.here 6 rfl)) (.k (.d (.k .z))) (.kkkk (.kdk .z)),
          rfl⟩) ?_
      · exact ⟨op_moveG 0 rfl rfl (by kernel_rfl) rfl rfl 2 rfl rfl rfl rfl (by kernel_rfl) (.tmp 2 rfl rfl) (.here 12 rfl), op_moveG 1 rfl rfl (by kernel_rfl) rfl rfl 3 rfl rfl rfl rfl (by kernel_rfl) (.tmp 7 rfl rfl) (.here 13 rfl), op_buildSlice1 (agg := false) sl_Rows zv_Ratios rfl rfl (by decide) (.tmp 13 rfl rfl) fits_row (.here 14 rfl), op_append 2 rfl rfl (by kernel_rfl) rfl rfl 4 rfl rfl rfl rfl rfl (by kernel_rfl) (by kernel_rfl) (.tmp 12 rfl rfl) (.tmp 14 rfl rfl) app_Rows (fun _ => rfl) (fun i _ => fits_rats _) (fun i _ => fits_row) (by omega) (.at_ 15 _ _ rfl (row_snoc1 (f' := fun i => pRats ((mulT A (turnM B)).getD i [])) (f := fun i => pRats ((mulT A (turnM B)).getD i [])) (fun _ _ _ _ h => h) (fun w v h => by rw [mulT_get (by omega)]; exact row_congr (f' := fun i => pRat ((mulRow (A.getD k []) (turnM B)).getD i 0)) (by rw [mulRow_len, turnM_len]; omega) (fun _ _ _ _ h => h) w v h))), trivial⟩
      · intro a w hI
        refine block_of ?_
        refine then_of ?_
        refine sem_T hI [] [] [⟨some 0, none, 37, pI ((k : Int) + (1 : Int))⟩, ⟨some 1, none, 16, pI ((k : Int) + (1 : Int))⟩] (.k (.k .z)) (.kkkk (.t 1 (.k .z))) rfl [0, 1] (by kernel_rfl) ?_ (.k (.k .z)) (.kkkk (.dkdk .z)) fun a w hI => ?_
        · exact ⟨op_bin (v := .int .i64 (IntKind.i64.wrap ((k : Int) + (1 : Int)))) (.tmp 4 rfl rfl) (.const _) (fun _ => rfl) (.at_ 6 _ _ rfl (pI_wrap (by omega))), op_move (.tmp 6 rfl rfl) (.here 7 rfl), trivial⟩
        refine then_of ?_
        exact ⟨k + 1, ⟨(show k + 1 ≤ A.length by omega), (hI.conv ⟨⟨1, _, _, rfl, ⟨rfl, rfl, rfl⟩, rfl, fun _ => fun _ _ h => h⟩, trivial⟩ ⟨⟨rfl, rfl, 0, _, rfl, fun _ _ h => h⟩, ⟨rfl, rfl, 1, _, rfl, fun _ _ h => h⟩, ⟨rfl, rfl, 4, _, rfl, fun _ _ h => h⟩, ⟨rfl, rfl, 2, _, rfl, fun _ _ h => h⟩, ⟨rfl, rfl, 3, _, rfl, fun _ _ h => h⟩, ⟨rfl, rfl, 5, _, rfl, (pI_eq (by omega))⟩, trivial⟩)⟩, (show A.length - (k + 1) < A.length - k by omega)⟩
  · have t4 := of_decide_eq_false ht
    refine wp_exit ?_
    refine then_exit ?_
    refine then_exit ?_
    refine block_exit ?_
    refine then_of ?_
    refine seq_T hI [⟨38, 38, some 0, some 1, (.grow k 1), 28, 0, false, pv pAny, []⟩, ⟨4, 4, some 1, none, (.grow k 1), 28, 0, false, pv pAny, []⟩] [] [⟨some 0, none, 38, pRow 1 false k (fun i => pRats ((mulT A (turnM B)).getD i []))⟩, ⟨some 1, none, 4, pRow 1 false k (fun i => pRats ((mulT A (turnM B)).getD i []))⟩] (.u (some 0) [] .z) (.t 1 (.kkkk (.kk .z))) rfl [0, 1] (by kernel_rfl) ?_ (.d (.d (.k .z))) (.d8 (.k .z)) fun a w hI => ?_
    · exact ⟨op_moveG 0 rfl rfl (by kernel_rfl) rfl rfl 1 rfl rfl rfl rfl (by kernel_rfl) (.tmp 2 rfl rfl) (.here 7 rfl), op_assignG 1 rfl rfl (by kernel_rfl) rfl rfl 2 rfl rfl rfl rfl (by kernel_rfl) (.tmp 7 rfl rfl) (.here 8 rfl), trivial⟩
    refine wp_ret ?_
    exact fin1 hI rfl (.imp (.tmp 0 rfl) (row_congr (by omega) fun i hi w v h => h))
end Wx
