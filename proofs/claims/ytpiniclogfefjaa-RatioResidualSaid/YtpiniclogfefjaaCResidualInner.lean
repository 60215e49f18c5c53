import Derived.Handy
import Derived.KernelRfl
import Derived.Test.YtpiniclogfefjaaProg
import Derived.Test.YtpiniclogfefjaaJResidual0
import Derived.Test.YtpiniclogfefjaaCResidualMem
import Derived.Test.YtpiniclogfefjaaJResidual6
import Derived.Test.YtpiniclogfefjaaCResidualRat1
import Derived.Test.YtpiniclogfefjaaJResidual14
import Derived.Test.YtpiniclogfefjaaJResidual16
import Derived.Test.YtpiniclogfefjaaJResidual19
import Derived.Test.YtpiniclogfefjaaCResidualInv
import Derived.Test.YtpiniclogfefjaaCResidualSem
import Derived.Test.YtpiniclogfefjaaCResidualSemOps
import Derived.Test.YtpiniclogfefjaaCResidualSemMem
import Derived.Test.YtpiniclogfefjaaJResidual24
import Derived.Test.YtpiniclogfefjaaCResidualSemTab
import Derived.Test.YtpiniclogfefjaaJResidual30
import Derived.Test.YtpiniclogfefjaaCResidualSemRow
import Derived.Test.YtpiniclogfefjaaJResidual26
import Derived.Test.YtpiniclogfefjaaCResidualSemAppend
import Derived.Test.YtpiniclogfefjaaCResidualSemObj
import Derived.Test.YtpiniclogfefjaaJResidual29
import Derived.Test.YtpiniclogfefjaaCResidualSemCopy
import Derived.Test.YtpiniclogfefjaaJResidual34
import Derived.Test.YtpiniclogfefjaaJResidual35
namespace Wx
set_option maxRecDepth 100000
open Go Go.RowKit Go.Proofs
set_option linter.unusedVariables false

theorem c_inner {L1 L2 : List Rat} {j1 j2 : Nat} (h0 : 0 < L1.length) (hl : L1.length ≤ L2.length) (hm : L1.length ≤ 1000000) (hm2 : L2.length ≤ 1000000) (q1 : ∀ k, BdR j1 (L1.getD k 0)) (q2 : ∀ k, BdR j2 (L2.getD k 0)) (hj : dotJ (j1 + j2) L1.length ≤ 100000000) : ∀ (M : Nat → Nat → Prop) (w : World) (v0 v1 : Value), Mid M w → Box M (fun w => (pRats L1) w v0) w → Box M (fun w => (pRats L2) w v1) w → Calls Try.prog 52 #[v0, v1] w (RetB M (pRat (dotN L1 L2 L1.length)) w) := by
  intro M w0 v0 v1 hM hv0 hv1
  have B1 : j1 + j2 ≤ 100000000 := by have := dotJ_mono (j1 + j2) (show 1 ≤ L1.length by omega); have : dotJ (j1 + j2) 1 = 1 + (j1 + j2) + 1 + (j1 + j2) + 1 := rfl; omega
  refine calls_start (N := 36) Try.func52 rfl rfl rfl hM (show EntsA M w0 [v0, v1] [⟨none, none, 0, pRats L1⟩, ⟨none, none, 1, pRats L2⟩] from ⟨⟨rfl, _, rfl, hv0⟩, ⟨rfl, _, rfl, hv1⟩, trivial⟩) fun a hI => ?_
  refine seq_T hI [⟨4, 4, some 0, none, .ptr, 32, 3, true, pv (pRat 0), []⟩] [] [] .z (.kk .z) rfl [0] (by kernel_rfl) ?_ (.k .z) (.kk .z) fun a w hI => ?_
  · exact ⟨op_alloc 0 rfl rfl (by kernel_rfl) (by kernel_rfl) rfl rfl rfl zv_Ratio rfl rfl (by simp [NoU]) rfl (fun w => isRat_zero w), trivial⟩
  refine seq_T hI [⟨5, 5, some 0, none, .ptr, 32, 3, true, pv (pRat 0), []⟩] [] [] (.k .z) (.kk .z) rfl [0] (by kernel_rfl) ?_ (.k (.k .z)) (.kk .z) fun a w hI => ?_
  · exact ⟨op_alloc 1 rfl rfl (by kernel_rfl) (by kernel_rfl) rfl rfl rfl zv_Ratio rfl rfl (by simp [NoU]) rfl (fun w => isRat_zero w), trivial⟩
  refine wp_seq ?_
  refine seq_T hI [] [] [⟨some 0, none, 8, pRats L1⟩, ⟨some 1, none, 9, pI (L1.length : Int)⟩, ⟨some 2, none, 10, pI 0⟩] (.k (.k .z)) (.kk .z) rfl [0, 1, 3] (by kernel_rfl) ?_ (.k (.k .z)) (.dkkk (.k .z)) fun a w hI => ?_
  · exact ⟨op_move (.tmp 0 rfl rfl) (.here 2 rfl), op_len (.tmp 2 rfl rfl) (sl_Ratios).under (.here 3 rfl), op_move (.const _) (.here 4 rfl), trivial⟩
  refine wp_block ?_
  refine wp_loop_ix (fun (k : Nat) a w => (k ≤ L1.length) ∧ Inv ⟨36, w0, M, fun _ => False⟩ [⟨4, 4, none, none, .ptr, 32, 3, true, pv (pRat 0), []⟩, ⟨5, 5, none, none, .ptr, 32, 3, true, pv (pRat (dotN L1 L2 k)), []⟩] [] [⟨none, none, 1, pRats L2⟩, ⟨none, none, 8, pRats L1⟩, ⟨none, none, 9, pI (L1.length : Int)⟩, ⟨none, none, 10, pI (k : Int)⟩] none_ a w) (fun (k : Nat) => L1.length - k) (0) ⟨Nat.zero_le _, (hI.conv ⟨⟨0, _, _, rfl, ⟨rfl, rfl, rfl⟩, rfl, fun _ => fun _ _ h => h⟩, ⟨1, _, _, rfl, ⟨rfl, rfl, rfl⟩, rfl, fun _ => (fun _ _ h => h)⟩, trivial⟩ ⟨⟨rfl, rfl, 0, _, rfl, fun _ _ h => h⟩, ⟨rfl, rfl, 1, _, rfl, fun _ _ h => h⟩, ⟨rfl, rfl, 2, _, rfl, fun _ _ h => h⟩, ⟨rfl, rfl, 3, _, rfl, (pI_eq (by omega))⟩, trivial⟩)⟩ ?_
  intro k a w hIk
  obtain ⟨hp, hI⟩ := hIk
  refine seq_T hI [] [] [⟨some 0, none, 11, pB (decide ((k : Int) < (L1.length : Int)))⟩] (.k (.k .z)) (.kkkk .z) rfl [0] (by kernel_rfl) ?_ (.k (.k .z)) (.kkkk (.k .z)) fun a w hI => ?_
  · exact ⟨op_bin (v := .bool (decide ((k : Int) < (L1.length : Int)))) (.tmp 3 rfl rfl) (.tmp 2 rfl rfl) (fun _ => rfl) (.here 4 rfl), trivial⟩
  refine wp_seq ?_
  refine cond_if hI 4 rfl (fun ht => ?_) (fun ht => ?_)
  · have t1 := of_decide_eq_true ht
    refine wp_skip ?_
    refine then_of ?_
    refine wp_seq ?_
    refine wp_block ?_
    refine seq_T hI [⟨7, 7, some 3, none, .ptr, 32, 3, true, pv (pRat 0), [(5, pv (pRat (L1.getD k 0)))]⟩] [] [⟨some 0, none, 12, pI (k : Int)⟩, ⟨some 1, none, 13, pPtr 3 true (pRat (L1.getD k 0))⟩, ⟨some 2, none, 14, pRat (L1.getD k 0)⟩, ⟨some 4, none, 6, pI (k : Int)⟩] (.k (.k .z)) (.kkkk (.k .z)) rfl [0, 1, 3, 7, 15, 31] (by kernel_rfl) ?_ (.k (.k (.s .o .z))) (.k8 (.k .z)) fun a w hI => ?_
    · exact ⟨op_move (.tmp 3 rfl rfl) (.here 5 rfl), op_indexRow (.tmp 1 rfl rfl) (.tmp 3 rfl rfl) sl_Ratios (by omega) (by omega) (by kernel_rfl) (.at_ 6 _ _ rfl (by rw [Int.toNat_natCast]; exact fun _ _ h => h)), op_loadP (.tmp 6 rfl rfl) ty_Ratio (fits_rat _) (.here 7 rfl), op_alloc 2 rfl rfl (by kernel_rfl) (by kernel_rfl) rfl rfl rfl zv_Ratio rfl rfl (by simp [NoU]) rfl (fun w => isRat_zero w), op_assign (.tmp 5 rfl rfl) (.here 8 rfl), op_store 2 rfl rfl rfl rfl 0 rfl (by kernel_rfl) (by kernel_rfl) ty_Ratio (.tmp 7 rfl rfl) (fits_rat _), trivial⟩
    refine seq_T hI [] [] [⟨some 0, none, 15, pRat (L1.getD k 0)⟩, ⟨some 1, none, 16, pB (decide (L1.getD k 0 = 0))⟩, ⟨some 2, none, 17, pB (!(decide (L1.getD k 0 = 0)))⟩, ⟨some 3, none, 18, pB (!(decide (L1.getD k 0 = 0)))⟩, ⟨some 4, none, 19, pSel ((!(decide (L1.getD k 0 = 0))) = true) (pRats L2)⟩, ⟨some 5, none, 20, pSel ((!(decide (L1.getD k 0 = 0))) = true) (pI (k : Int))⟩, ⟨some 6, none, 21, pSel ((!(decide (L1.getD k 0 = 0))) = true) (pPtr 3 true (pRat (L2.getD k 0)))⟩, ⟨some 7, none, 22, pSel ((!(decide (L1.getD k 0 = 0))) = true) (pRat (L2.getD k 0))⟩, ⟨some 8, none, 23, pSel ((!(decide (L1.getD k 0 = 0))) = true) (pB (decide (L2.getD k 0 = 0)))⟩, ⟨some 9, none, 24, pSel ((!(decide (L1.getD k 0 = 0))) = true) (pB (!(decide (L2.getD k 0 = 0))))⟩, ⟨some 10, none, 25, pB ((!(decide (L1.getD k 0 = 0))) && (!(decide (L2.getD k 0 = 0))))⟩] (.k (.k (.k .z))) (.k8 (.k .z)) rfl [0, 1, 3, 7, 15, 31, 63, 127, 255, 511, 1023] (by kernel_rfl) ?_ (.k (.k (.k .z))) (.k8 (.k8 (.kkkk .z))) fun a w hI => ?_
    · exact ⟨op_load 2 rfl rfl rfl rfl (by kernel_rfl) ty_Ratio rfl (.here 9 rfl), op_call1 (fun _ _ => by kernel_rfl) (numlike_eq _) (.tmp 9 rfl rfl) (.here 10 rfl) (c_zero (L1.getD k 0)), op_not (.tmp 10 rfl rfl) (.here 11 rfl), op_move (.tmp 11 rfl rfl) (.here 12 rfl), op_if 12 rfl rfl (fun hc => op_move (.tmp 0 rfl rfl) (.sel hc 13 rfl)) (by kernel_rfl) (fun _ => .none (by kernel_rfl)) (fun hc => .sel_no hc 13 rfl), op_if 12 rfl rfl (fun hc => op_move (.tmp 8 rfl rfl) (.sel hc 14 rfl)) (by kernel_rfl) (fun _ => .none (by kernel_rfl)) (fun hc => .sel_no hc 14 rfl), op_if 12 rfl rfl (fun hc => op_indexRow (.sel (.tmp 13 rfl rfl) hc) (.sel (.tmp 14 rfl rfl) hc) sl_Ratios (by omega) (by omega) (by kernel_rfl) (.sel hc 15 rfl)) (by kernel_rfl) (fun _ => .none (by kernel_rfl)) (fun hc => .sel_no hc 15 rfl), op_if 12 rfl rfl (fun hc => op_loadP (.sel (.tmp 15 rfl rfl) hc) ty_Ratio (fits_rat _) (.sel hc 16 rfl)) (by kernel_rfl) (fun _ => .none (by kernel_rfl)) (fun hc => .sel_no hc 16 rfl), op_if 12 rfl rfl (fun hc => op_call1 (fun _ _ => by kernel_rfl) (numlike_eq _) (.sel (.tmp 16 rfl rfl) hc) (.sel hc 17 rfl) (c_zero (L2.getD k 0))) (by kernel_rfl) (fun _ => .none (by kernel_rfl)) (fun hc => .sel_no hc 17 rfl), op_if 12 rfl rfl (fun hc => op_not (.sel (.tmp 17 rfl rfl) hc) (.sel hc 18 rfl)) (by kernel_rfl) (fun _ => .none (by kernel_rfl)) (fun hc => .sel_no hc 18 rfl), op_pick (.tmp 12 rfl rfl) (fun h => .imp (.sel (.tmp 18 rfl rfl) (h)) fun _ _ e => by rw [h]; exact e) (fun h => .imp (.const _) fun _ _ e => by rw [h]; exact e) (.here 19 rfl), trivial⟩
    refine cond_if hI 19 rfl (fun ht => ?_) (fun ht => ?_)
    · have t2 := ht
      refine sem_D hI [] [] [⟨some 0, none, 26, pRat (dotN L1 L2 k)⟩, ⟨some 1, none, 27, pRat (L1.getD k 0)⟩, ⟨some 2, none, 28, pRats L2⟩, ⟨some 3, none, 29, pI (k : Int)⟩, ⟨some 4, none, 30, pPtr 3 true (pRat (L2.getD k 0))⟩, ⟨some 5, none, 31, pRat (L2.getD k 0)⟩, ⟨some 6, none, 32, pRat ((L1.getD k 0) * (L2.getD k 0))⟩, ⟨some 7, none, 33, pRat ((dotN L1 L2 k) + ((L1.getD k 0) * (L2.getD k 0)))⟩] (.k (.u none [(8, pv (pRat ((dotN L1 L2 k) + ((L1.getD k 0) * (L2.getD k 0)))))] (.k .z))) (.k8 (.k8 (.kkkk .z))) rfl [0, 0, 0, 0, 12, 28, 62, 127, 255] (by kernel_rfl) ?_ (.k (.s .o (.k .z))) (.k8 (.k8 (.k8 (.kkkk .z)))) fun a w hI => ?_
      · exact ⟨op_load 1 rfl rfl rfl rfl (by kernel_rfl) ty_Ratio rfl (.here 20 rfl), op_load 2 rfl rfl rfl rfl (by kernel_rfl) ty_Ratio rfl (.here 21 rfl), op_move (.tmp 0 rfl rfl) (.here 22 rfl), op_move (.tmp 8 rfl rfl) (.here 23 rfl), op_indexRow (.tmp 22 rfl rfl) (.tmp 23 rfl rfl) sl_Ratios (by omega) (by omega) (by kernel_rfl) (.at_ 24 _ _ rfl (by rw [Int.toNat_natCast]; exact fun _ _ h => h)), op_loadP (.tmp 24 rfl rfl) ty_Ratio (fits_rat _) (.here 25 rfl), op_call2 (fun _ _ => by kernel_rfl) (numlike_rat _) (.tmp 21 rfl rfl) (.tmp 25 rfl rfl) (.here 26 rfl) (c_mul (q1 k) (q2 k) (by omega)), op_call2 (fun _ _ => by kernel_rfl) (numlike_rat _) (.tmp 20 rfl rfl) (.tmp 26 rfl rfl) (.here 27 rfl) (c_add (j := dotJ (j1 + j2) k) (k := j1 + j2) (bd_dot q1 q2 k) ((((q1 k)).mul (q2 k))) (by have := dotJ_mono (j1 + j2) (show k + 1 ≤ L1.length by omega); have : dotJ (j1 + j2) (k + 1) = dotJ (j1 + j2) k + (j1 + j2) + dotJ (j1 + j2) k + (j1 + j2) + 1 := rfl; omega)), op_store 1 rfl rfl rfl rfl 0 rfl (by kernel_rfl) (by kernel_rfl) ty_Ratio (.tmp 27 rfl rfl) (fits_rat _), trivial⟩
      refine block_of ?_
      refine then_of ?_
      refine sem_T hI [] [] [⟨some 0, none, 34, pI ((k : Int) + (1 : Int))⟩, ⟨some 1, none, 10, pI ((k : Int) + (1 : Int))⟩] (.k (.k (.k .z))) (.kkk (.t 1 (.k8 (.k8 (.k8 .z))))) rfl [0, 1] (by kernel_rfl) ?_ (.k (.k (.k .z))) (.kkkd (.k8 (.k8 (.k8 (.kk .z))))) fun a w hI => ?_
      · exact ⟨op_bin (v := .int .i64 (IntKind.i64.wrap ((k : Int) + (1 : Int)))) (.tmp 3 rfl rfl) (.const _) (fun _ => rfl) (.at_ 28 _ _ rfl (pI_wrap (by omega))), op_move (.tmp 28 rfl rfl) (.here 29 rfl), trivial⟩
      refine then_of ?_
      exact ⟨k + 1, ⟨(show k + 1 ≤ L1.length by omega), (hI.conv ⟨⟨0, _, _, rfl, ⟨rfl, rfl, rfl⟩, rfl, fun _ => fun _ _ h => h⟩, ⟨1, _, _, rfl, ⟨rfl, rfl, rfl⟩, rfl, fun _ => (fun _ _ h => h)⟩, trivial⟩ ⟨⟨rfl, rfl, 0, _, rfl, fun _ _ h => h⟩, ⟨rfl, rfl, 1, _, rfl, fun _ _ h => h⟩, ⟨rfl, rfl, 2, _, rfl, fun _ _ h => h⟩, ⟨rfl, rfl, 28, _, rfl, (pI_eq (by omega))⟩, trivial⟩)⟩, (show L1.length - (k + 1) < L1.length - k by omega)⟩
    · have t3 := ht
      refine wp_skip ?_
      refine block_of ?_
      refine then_of ?_
      refine sem_T hI [] [] [⟨some 0, none, 34, pI ((k : Int) + (1 : Int))⟩, ⟨some 1, none, 10, pI ((k : Int) + (1 : Int))⟩] (.k (.k (.k .z))) (.kkk (.t 1 (.k8 (.k8 .z)))) rfl [0, 1] (by kernel_rfl) ?_ (.k (.k (.k .z))) (.kkkd (.k8 (.k8 (.kk .z)))) fun a w hI => ?_
      · exact ⟨op_bin (v := .int .i64 (IntKind.i64.wrap ((k : Int) + (1 : Int)))) (.tmp 3 rfl rfl) (.const _) (fun _ => rfl) (.at_ 20 _ _ rfl (pI_wrap (by omega))), op_move (.tmp 20 rfl rfl) (.here 21 rfl), trivial⟩
      refine then_of ?_
      exact ⟨k + 1, ⟨(show k + 1 ≤ L1.length by omega), (hI.conv ⟨⟨0, _, _, rfl, ⟨rfl, rfl, rfl⟩, rfl, fun _ => fun _ _ h => h⟩, ⟨1, _, _, rfl, ⟨rfl, rfl, rfl⟩, rfl, fun _ => (fun w v h => by rw [dot_skip t3]; exact h)⟩, trivial⟩ ⟨⟨rfl, rfl, 0, _, rfl, fun _ _ h => h⟩, ⟨rfl, rfl, 1, _, rfl, fun _ _ h => h⟩, ⟨rfl, rfl, 2, _, rfl, fun _ _ h => h⟩, ⟨rfl, rfl, 20, _, rfl, (pI_eq (by omega))⟩, trivial⟩)⟩, (show L1.length - (k + 1) < L1.length - k by omega)⟩
  · have t4 := of_decide_eq_false ht
    refine wp_exit ?_
    refine then_exit ?_
    refine then_exit ?_
    refine block_exit ?_
    refine then_of ?_
    refine seq_T hI [] [] [⟨some 0, none, 35, pRat (dotN L1 L2 k)⟩] (.u none [(1, pv (pRat (dotN L1 L2 k)))] (.k .z)) (.kkkk (.k .z)) rfl [0, 1] (by kernel_rfl) ?_ (.s .o (.k .z)) (.dddd (.dd .z)) fun a w hI => ?_
    · exact ⟨op_load 1 rfl rfl rfl rfl (by kernel_rfl) ty_Ratio rfl (.here 5 rfl), op_store 0 rfl rfl rfl rfl 0 rfl (by kernel_rfl) (by kernel_rfl) ty_Ratio (.tmp 5 rfl rfl) (fits_rat _), trivial⟩
    refine wp_ret ?_
    exact fin1 hI rfl (.imp (.cell 0 rfl rfl rfl rfl ty_Ratio rfl) (fun w v h => by rw [show L1.length = k by omega]; exact h))
end Wx
