import Derived.Handy
import Derived.KernelRfl
import Derived.Test.YtpbpkfcplkdjhaaGreatProg
import Derived.Test.YtpbpkfcplkdjhaaGreatJRanges0
import Derived.Test.YtpbpkfcplkdjhaaGreatJRanges1
import Derived.Test.YtpbpkfcplkdjhaaGreatCRat1
import Derived.Test.YtpbpkfcplkdjhaaGreatJRanges10
import Derived.Test.YtpbpkfcplkdjhaaGreatCRat3
import Derived.Test.YtpbpkfcplkdjhaaGreatCLess
import Derived.Test.YtpbpkfcplkdjhaaGreatJRanges29
import Derived.Test.YtpbpkfcplkdjhaaGreatJRanges14
import Derived.Test.YtpbpkfcplkdjhaaGreatInv
import Derived.Test.YtpbpkfcplkdjhaaGreatJRanges15
import Derived.Test.YtpbpkfcplkdjhaaGreatCSem
import Derived.Test.YtpbpkfcplkdjhaaGreatCSemOps
import Derived.Test.YtpbpkfcplkdjhaaGreatCSemMem
import Derived.Test.YtpbpkfcplkdjhaaGreatCSemCode
import Derived.Test.YtpbpkfcplkdjhaaGreatJRanges27
import Derived.Test.YtpbpkfcplkdjhaaGreatCSemRow
import Derived.Test.YtpbpkfcplkdjhaaGreatJRanges41
namespace Wx
open Go Go.RowKit Go.Proofs
set_option linter.unusedVariables false

set_option maxRecDepth 100000 in
theorem cr_min {l : List Rat} {j : Nat} (h0 : 0 < l.length) (hn : l.length ≤ 1000000000) (hb : ∀ x ∈ l, BdR j x) (hj : j + j ≤ 100000000) : ∀ (M : Nat → Nat → Prop) (w : World) (v0 v1 : Value), Mid M w → Box M (fun w => (pRats l) w v0) w → Box M (fun w => (pEq (.func (.func 63) #[] #[])) w v1) w → Calls Tryz.prog 130 #[v0, v1] w (RetB M (pRat (minTo l l.length)) w) := by
  intro M w0 v0 v1 hM hv0 hv1
  refine calls_start (N := 33) Tryz.func130 rfl rfl rfl hM (show EntsA M w0 [v0, v1] [⟨none, none, 0, pRats l⟩, ⟨none, none, 1, pEq (.func (.func 63) #[] #[])⟩] from ⟨⟨rfl, _, rfl, hv0⟩, ⟨rfl, _, rfl, hv1⟩, trivial⟩) fun a hI => ?_
  refine seq_text (V1 := [⟨4, 4, some 0, none, .ptr, 28, 3, true, pRat 0, []⟩]) (A1 := []) (G1 := [⟨none, none, 0, pRats l⟩, ⟨none, none, 1, pEq (.func (.func 63) #[] #[])⟩]) (V2 := [⟨4, 4, none, none, .ptr, 28, 3, true, pRat 0, []⟩]) (G2 := [⟨none, none, 0, pRats l⟩, ⟨none, none, 1, pEq (.func (.func 63) #[] #[])⟩]) hI rfl rfl rfl [0] (by kernel_rfl) (by kernel_rfl) ?_ [0] [0, 1] rfl rfl fun a w hI => ?_
  · exact ⟨op_alloc 0 rfl rfl (by kernel_rfl) (by kernel_rfl) rfl rfl rfl zv_Ratio rfl rfl (by simp [NoU]) (fun w => isRat_zero w),
      trivial⟩
  refine wp_seq ?_
  refine seq_text (V1 := [⟨4, 4, none, none, .ptr, 28, 3, true, pRat 0, []⟩]) (A1 := []) (G1 := [⟨none, none, 0, pRats l⟩, ⟨none, none, 1, pEq (.func (.func 63) #[] #[])⟩, ⟨some 0, none, 7, pRats l⟩, ⟨some 1, none, 8, pI (l.length : Int)⟩, ⟨some 2, none, 9, pB false⟩]) (V2 := [⟨4, 4, none, none, .ptr, 28, 3, true, pRat 0, []⟩]) (G2 := [⟨none, none, 0, pRats l⟩, ⟨none, none, 1, pEq (.func (.func 63) #[] #[])⟩, ⟨none, none, 9, pB false⟩]) hI rfl rfl rfl [0, 1, 3] (by kernel_rfl) (by kernel_rfl) ?_ [0] [0, 1, 4] rfl rfl fun a w hI => ?_
  · exact ⟨op_move (.tmp 0 rfl rfl) (.here 2 rfl),
      op_len (.tmp 2 rfl rfl) (sl_Ratios).under (.here 3 rfl),
      op_bin (v := .bool (decide ((l.length : Int) < (1 : Int)))) (.tmp 3 rfl rfl) (.const _) (fun _ => rfl) (.at_ 4 _ _ rfl (pB_eq (decide_eq_false (by omega)))),
      trivial⟩
  refine cond_no hI 2 rfl ?_
  refine wp_skip ?_
  refine then_of ?_
  refine seq_text (V1 := [⟨4, 4, none, none, .ptr, 28, 3, true, pRat 0, []⟩, ⟨5, 5, some 3, none, .ptr, 28, 3, true, pRat 0, [(4, pRat (l.getD 0 0))]⟩]) (A1 := []) (G1 := [⟨none, none, 0, pRats l⟩, ⟨none, none, 1, pEq (.func (.func 63) #[] #[])⟩, ⟨none, none, 9, pB false⟩, ⟨some 0, none, 11, pRats l⟩, ⟨some 1, none, 12, pPtr 3 true (pRat (l.getD 0 0))⟩, ⟨some 2, none, 13, pRat (l.getD 0 0)⟩]) (V2 := [⟨4, 4, none, none, .ptr, 28, 3, true, pRat 0, []⟩, ⟨5, 5, none, none, .ptr, 28, 3, true, pRat (l.getD 0 0), []⟩]) (G2 := [⟨none, none, 0, pRats l⟩, ⟨none, none, 1, pEq (.func (.func 63) #[] #[])⟩]) hI rfl rfl rfl [0, 1, 3, 7, 15] (by kernel_rfl) (by kernel_rfl) ?_ [0, 1] [0, 1] rfl rfl fun a w hI => ?_
  · exact ⟨op_move (.tmp 0 rfl rfl) (.here 3 rfl),
      op_indexRow (.tmp 3 rfl rfl) (.const _) sl_Ratios (by omega) (by omega) (by kernel_rfl) (.here 4 rfl),
      op_loadP (.tmp 4 rfl rfl) ty_Ratio (fits_rat _) (.here 5 rfl),
      op_alloc 1 rfl rfl (by kernel_rfl) (by kernel_rfl) rfl rfl rfl zv_Ratio rfl rfl (by simp [NoU]) (fun w => isRat_zero w),
      op_store 1 rfl rfl rfl rfl 0 rfl (by kernel_rfl) (by kernel_rfl) ty_Ratio (.tmp 5 rfl rfl) (fits_rat _),
      trivial⟩
  refine wp_seq ?_
  refine seq_text (V1 := [⟨4, 4, none, none, .ptr, 28, 3, true, pRat 0, []⟩, ⟨5, 5, none, none, .ptr, 28, 3, true, pRat (l.getD 0 0), []⟩]) (A1 := []) (G1 := [⟨none, none, 0, pRats l⟩, ⟨none, none, 1, pEq (.func (.func 63) #[] #[])⟩, ⟨some 0, none, 6, pI 1⟩]) (V2 := [⟨4, 4, none, none, .ptr, 28, 3, true, pRat 0, []⟩, ⟨5, 5, none, none, .ptr, 28, 3, true, pRat (l.getD 0 0), []⟩]) (G2 := [⟨none, none, 0, pRats l⟩, ⟨none, none, 1, pEq (.func (.func 63) #[] #[])⟩, ⟨none, none, 6, pI 1⟩]) hI rfl rfl rfl [0] (by kernel_rfl) (by kernel_rfl) ?_ [0, 1] [0, 1, 2] rfl rfl fun a w hI => ?_
  · exact ⟨op_assign (.const _) (.here 2 rfl),
      trivial⟩
  refine wp_block ?_
  refine wp_loop_ix (fun (k : Nat) a w => (1 ≤ k ∧ k ≤ l.length) ∧ Inv ⟨33, w0, M⟩ [⟨4, 4, none, none, .ptr, 28, 3, true, pRat 0, []⟩, ⟨5, 5, none, none, .ptr, 28, 3, true, pRat (minTo l k), []⟩] [] [⟨none, none, 0, pRats l⟩, ⟨none, none, 1, pEq (.func (.func 63) #[] #[])⟩, ⟨none, none, 6, pI (k : Int)⟩] none_ a w) (fun (k : Nat) => l.length - k) (1) ⟨⟨Nat.le_refl _, h0⟩, (hI.conv ⟨⟨0, _, _, rfl, ⟨rfl, rfl, rfl⟩, rfl, fun _ _ h => h⟩, ⟨1, _, _, rfl, ⟨rfl, rfl, rfl⟩, rfl, (pRat_eq (minTo_one l).symm)⟩, trivial⟩ ⟨⟨rfl, rfl, 0, _, rfl, fun _ _ h => h⟩, ⟨rfl, rfl, 1, _, rfl, fun _ _ h => h⟩, ⟨rfl, rfl, 2, _, rfl, (pI_eq (by omega))⟩, trivial⟩)⟩ ?_
  intro k a w hIk
  obtain ⟨hp, hI⟩ := hIk
  refine wp_seq ?_
  refine seq_text (V1 := [⟨4, 4, none, none, .ptr, 28, 3, true, pRat 0, []⟩, ⟨5, 5, none, none, .ptr, 28, 3, true, pRat (minTo l k), []⟩]) (A1 := []) (G1 := [⟨none, none, 0, pRats l⟩, ⟨none, none, 1, pEq (.func (.func 63) #[] #[])⟩, ⟨none, none, 6, pI (k : Int)⟩, ⟨some 0, none, 14, pI (k : Int)⟩, ⟨some 1, none, 15, pRats l⟩, ⟨some 2, none, 16, pI (l.length : Int)⟩, ⟨some 3, none, 17, pB (decide ((k : Int) < (l.length : Int)))⟩]) (V2 := [⟨4, 4, none, none, .ptr, 28, 3, true, pRat 0, []⟩, ⟨5, 5, none, none, .ptr, 28, 3, true, pRat (minTo l k), []⟩]) (G2 := [⟨none, none, 0, pRats l⟩, ⟨none, none, 1, pEq (.func (.func 63) #[] #[])⟩, ⟨none, none, 6, pI (k : Int)⟩, ⟨none, none, 14, pI (k : Int)⟩, ⟨none, none, 15, pRats l⟩, ⟨none, none, 16, pI (l.length : Int)⟩, ⟨none, none, 17, pB (decide ((k : Int) < (l.length : Int)))⟩]) hI rfl rfl rfl [0, 1, 3, 7] (by kernel_rfl) (by kernel_rfl) ?_ [0, 1] [0, 1, 2, 3, 4, 5, 6] rfl rfl fun a w hI => ?_
  · exact ⟨op_move (.tmp 2 rfl rfl) (.here 3 rfl),
      op_move (.tmp 0 rfl rfl) (.here 4 rfl),
      op_len (.tmp 4 rfl rfl) (sl_Ratios).under (.here 5 rfl),
      op_bin (v := .bool (decide ((k : Int) < (l.length : Int)))) (.tmp 3 rfl rfl) (.tmp 5 rfl rfl) (fun _ => rfl) (.here 6 rfl),
      trivial⟩
  refine cond_if hI 6 rfl (fun ht => ?_) (fun ht => ?_)
  · have t1 := of_decide_eq_true ht
    refine wp_skip ?_
    refine then_of ?_
    refine wp_seq ?_
    refine wp_block ?_
    refine seq_drawn (V1 := [⟨4, 4, none, none, .ptr, 28, 3, true, pRat 0, []⟩, ⟨5, 5, none, none, .ptr, 28, 3, true, pRat (minTo l k), []⟩]) (A1 := []) (G1 := [⟨none, none, 0, pRats l⟩, ⟨none, none, 1, pEq (.func (.func 63) #[] #[])⟩, ⟨none, none, 6, pI (k : Int)⟩, ⟨none, none, 14, pI (k : Int)⟩, ⟨none, none, 15, pRats l⟩, ⟨none, none, 16, pI (l.length : Int)⟩, ⟨none, none, 17, pB (decide ((k : Int) < (l.length : Int)))⟩, ⟨some 0, none, 20, pEq (.func (.func 63) #[] #[])⟩, ⟨some 1, none, 21, pRats l⟩, ⟨some 2, none, 22, pI (k : Int)⟩, ⟨some 3, none, 23, pPtr 3 true (pRat (l.getD k 0))⟩, ⟨some 4, none, 24, pRat (l.getD k 0)⟩, ⟨some 5, none, 25, pRat (minTo l k)⟩, ⟨some 6, none, 26, pI (cmpT (l.getD k 0) (minTo l k))⟩, ⟨some 7, none, 27, pB (decide ((cmpT (l.getD k 0) (minTo l k)) < (0 : Int)))⟩]) (V2 := [⟨4, 4, none, none, .ptr, 28, 3, true, pRat 0, []⟩, ⟨5, 5, none, none, .ptr, 28, 3, true, pRat (minTo l k), []⟩]) (G2 := [⟨none, none, 0, pRats l⟩, ⟨none, none, 1, pEq (.func (.func 63) #[] #[])⟩, ⟨none, none, 6, pI (k : Int)⟩, ⟨none, none, 14, pI (k : Int)⟩, ⟨none, none, 15, pRats l⟩, ⟨none, none, 16, pI (l.length : Int)⟩, ⟨none, none, 17, pB (decide ((k : Int) < (l.length : Int)))⟩, ⟨none, none, 20, pEq (.func (.func 63) #[] #[])⟩, ⟨none, none, 21, pRats l⟩, ⟨none, none, 22, pI (k : Int)⟩, ⟨none, none, 23, pPtr 3 true (pRat (l.getD k 0))⟩, ⟨none, none, 24, pRat (l.getD k 0)⟩, ⟨none, none, 25, pRat (minTo l k)⟩, ⟨none, none, 26, pI (cmpT (l.getD k 0) (minTo l k))⟩, ⟨none, none, 27, pB (decide ((cmpT (l.getD k 0) (minTo l k)) < (0 : Int)))⟩]) hI rfl rfl rfl [0, 0, 0, 6, 14, 0, 63, 127] (by kernel_rfl) (by kernel_rfl) (by kernel_rfl) (by kernel_rfl) ?_ [0, 1] [0, 1, 2, 3, 4, 5, 6, 7, 8, 9, 10, 11, 12, 13, 14] rfl rfl fun a w hI => ?_
    · exact ⟨op_move (.tmp 1 rfl rfl) (.here 7 rfl),
        op_move (.tmp 0 rfl rfl) (.here 8 rfl),
        op_move (.tmp 2 rfl rfl) (.here 9 rfl),
        op_indexRow (.tmp 8 rfl rfl) (.tmp 9 rfl rfl) sl_Ratios (by omega) (by omega) (by kernel_rfl) (.at_ 10 _ _ rfl (by rw [Int.toNat_natCast]; exact fun _ _ h => h)),
        op_loadP (.tmp 10 rfl rfl) ty_Ratio (fits_rat _) (.here 11 rfl),
        op_load 1 rfl rfl rfl rfl (by kernel_rfl) ty_Ratio rfl (.here 12 rfl),
        op_callv2 (fun _ _ => by kernel_rfl) (.tmp 7 rfl rfl) (.tmp 11 rfl rfl) (.tmp 12 rfl rfl) (.here 13 rfl) (box2 (numlike_eq _) (c_cmp (bd_get hb (by omega)) (bd_minTo hb h0 _ (by omega)) (by omega))),
        op_bin (v := .bool (decide ((cmpT (l.getD k 0) (minTo l k)) < (0 : Int)))) (.tmp 13 rfl rfl) (.const _) (fun _ => rfl) (.here 14 rfl),
        trivial⟩
    refine cond_if hI 14 rfl (fun ht => ?_) (fun ht => ?_)
    · have t2 := of_decide_eq_true ht
      refine sem_text (V1 := [⟨4, 4, none, none, .ptr, 28, 3, true, pRat 0, []⟩, ⟨5, 5, none, none, .ptr, 28, 3, true, pRat (minTo l k), [(4, pRat (l.getD k 0))]⟩]) (A1 := []) (G1 := [⟨none, none, 0, pRats l⟩, ⟨none, none, 1, pEq (.func (.func 63) #[] #[])⟩, ⟨none, none, 6, pI (k : Int)⟩, ⟨none, none, 14, pI (k : Int)⟩, ⟨none, none, 15, pRats l⟩, ⟨none, none, 16, pI (l.length : Int)⟩, ⟨none, none, 17, pB (decide ((k : Int) < (l.length : Int)))⟩, ⟨none, none, 20, pEq (.func (.func 63) #[] #[])⟩, ⟨none, none, 21, pRats l⟩, ⟨none, none, 22, pI (k : Int)⟩, ⟨none, none, 23, pPtr 3 true (pRat (l.getD k 0))⟩, ⟨none, none, 24, pRat (l.getD k 0)⟩, ⟨none, none, 25, pRat (minTo l k)⟩, ⟨none, none, 26, pI (cmpT (l.getD k 0) (minTo l k))⟩, ⟨none, none, 27, pB (decide ((cmpT (l.getD k 0) (minTo l k)) < (0 : Int)))⟩, ⟨some 0, none, 28, pRats l⟩, ⟨some 1, none, 29, pI (k : Int)⟩, ⟨some 2, none, 30, pPtr 3 true (pRat (l.getD k 0))⟩, ⟨some 3, none, 31, pRat (l.getD k 0)⟩]) (V2 := [⟨4, 4, none, none, .ptr, 28, 3, true, pRat 0, []⟩, ⟨5, 5, none, none, .ptr, 28, 3, true, pRat (l.getD k 0), []⟩]) (G2 := [⟨none, none, 0, pRats l⟩, ⟨none, none, 1, pEq (.func (.func 63) #[] #[])⟩, ⟨none, none, 6, pI (k : Int)⟩, ⟨none, none, 14, pI (k : Int)⟩, ⟨none, none, 15, pRats l⟩, ⟨none, none, 16, pI (l.length : Int)⟩, ⟨none, none, 17, pB (decide ((k : Int) < (l.length : Int)))⟩, ⟨none, none, 20, pEq (.func (.func 63) #[] #[])⟩, ⟨none, none, 21, pRats l⟩, ⟨none, none, 22, pI (k : Int)⟩, ⟨none, none, 23, pPtr 3 true (pRat (l.getD k 0))⟩, ⟨none, none, 24, pRat (l.getD k 0)⟩, ⟨none, none, 25, pRat (minTo l k)⟩, ⟨none, none, 26, pI (cmpT (l.getD k 0) (minTo l k))⟩, ⟨none, none, 27, pB (decide ((cmpT (l.getD k 0) (minTo l k)) < (0 : Int)))⟩, ⟨none, none, 28, pRats l⟩, ⟨none, none, 29, pI (k : Int)⟩, ⟨none, none, 30, pPtr 3 true (pRat (l.getD k 0))⟩, ⟨none, none, 31, pRat (l.getD k 0)⟩]) hI rfl rfl rfl [0, 1, 3, 7, 15] (by kernel_rfl) (by kernel_rfl) ?_ [0, 1] [0, 1, 2, 3, 4, 5, 6, 7, 8, 9, 10, 11, 12, 13, 14, 15, 16, 17, 18] rfl rfl fun a w hI => ?_
      · exact ⟨op_move (.tmp 0 rfl rfl) (.here 15 rfl),
          op_move (.tmp 2 rfl rfl) (.here 16 rfl),
          op_indexRow (.tmp 15 rfl rfl) (.tmp 16 rfl rfl) sl_Ratios (by omega) (by omega) (by kernel_rfl) (.at_ 17 _ _ rfl (by rw [Int.toNat_natCast]; exact fun _ _ h => h)),
          op_loadP (.tmp 17 rfl rfl) ty_Ratio (fits_rat _) (.here 18 rfl),
          op_store 1 rfl rfl rfl rfl 0 rfl (by kernel_rfl) (by kernel_rfl) ty_Ratio (.tmp 18 rfl rfl) (fits_rat _),
          trivial⟩
      refine block_of ?_
      refine then_of ?_
      refine sem_text (V1 := [⟨4, 4, none, none, .ptr, 28, 3, true, pRat 0, []⟩, ⟨5, 5, none, none, .ptr, 28, 3, true, pRat (l.getD k 0), []⟩]) (A1 := []) (G1 := [⟨none, none, 0, pRats l⟩, ⟨none, none, 1, pEq (.func (.func 63) #[] #[])⟩, ⟨none, some 2, 6, pI (k : Int)⟩, ⟨none, none, 14, pI (k : Int)⟩, ⟨none, none, 15, pRats l⟩, ⟨none, none, 16, pI (l.length : Int)⟩, ⟨none, none, 17, pB (decide ((k : Int) < (l.length : Int)))⟩, ⟨none, none, 20, pEq (.func (.func 63) #[] #[])⟩, ⟨none, none, 21, pRats l⟩, ⟨none, none, 22, pI (k : Int)⟩, ⟨none, none, 23, pPtr 3 true (pRat (l.getD k 0))⟩, ⟨none, none, 24, pRat (l.getD k 0)⟩, ⟨none, none, 25, pRat (minTo l k)⟩, ⟨none, none, 26, pI (cmpT (l.getD k 0) (minTo l k))⟩, ⟨none, none, 27, pB (decide ((cmpT (l.getD k 0) (minTo l k)) < (0 : Int)))⟩, ⟨none, none, 28, pRats l⟩, ⟨none, none, 29, pI (k : Int)⟩, ⟨none, none, 30, pPtr 3 true (pRat (l.getD k 0))⟩, ⟨none, none, 31, pRat (l.getD k 0)⟩, ⟨some 0, none, 18, pI (k : Int)⟩, ⟨some 1, none, 19, pI ((k : Int) + (1 : Int))⟩, ⟨some 2, none, 6, pI ((k : Int) + (1 : Int))⟩]) (V2 := [⟨4, 4, none, none, .ptr, 28, 3, true, pRat 0, []⟩, ⟨5, 5, none, none, .ptr, 28, 3, true, pRat (l.getD k 0), []⟩]) (G2 := [⟨none, none, 0, pRats l⟩, ⟨none, none, 1, pEq (.func (.func 63) #[] #[])⟩, ⟨none, none, 14, pI (k : Int)⟩, ⟨none, none, 15, pRats l⟩, ⟨none, none, 16, pI (l.length : Int)⟩, ⟨none, none, 17, pB (decide ((k : Int) < (l.length : Int)))⟩, ⟨none, none, 20, pEq (.func (.func 63) #[] #[])⟩, ⟨none, none, 21, pRats l⟩, ⟨none, none, 22, pI (k : Int)⟩, ⟨none, none, 23, pPtr 3 true (pRat (l.getD k 0))⟩, ⟨none, none, 24, pRat (l.getD k 0)⟩, ⟨none, none, 25, pRat (minTo l k)⟩, ⟨none, none, 26, pI (cmpT (l.getD k 0) (minTo l k))⟩, ⟨none, none, 27, pB (decide ((cmpT (l.getD k 0) (minTo l k)) < (0 : Int)))⟩, ⟨none, none, 28, pRats l⟩, ⟨none, none, 29, pI (k : Int)⟩, ⟨none, none, 30, pPtr 3 true (pRat (l.getD k 0))⟩, ⟨none, none, 31, pRat (l.getD k 0)⟩, ⟨none, none, 18, pI (k : Int)⟩, ⟨none, none, 19, pI ((k : Int) + (1 : Int))⟩, ⟨none, none, 6, pI ((k : Int) + (1 : Int))⟩]) hI rfl rfl rfl [0, 1, 3] (by kernel_rfl) (by kernel_rfl) ?_ [0, 1] [0, 1, 2, 3, 4, 5, 6, 7, 8, 9, 10, 11, 12, 13, 14, 15, 16, 17, 18, 19, 20] rfl rfl fun a w hI => ?_
      · exact ⟨op_move (.tmp 2 rfl rfl) (.here 19 rfl),
          op_bin (v := .int .i64 (IntKind.i64.wrap ((k : Int) + (1 : Int)))) (.tmp 19 rfl rfl) (.const _) (fun _ => rfl) (.at_ 20 _ _ rfl (pI_wrap (by omega))),
          op_assign (.tmp 20 rfl rfl) (.here 21 rfl),
          trivial⟩
      refine then_of ?_
      exact ⟨k + 1, ⟨⟨by omega, by omega⟩, (hI.conv ⟨⟨0, _, _, rfl, ⟨rfl, rfl, rfl⟩, rfl, fun _ _ h => h⟩, ⟨1, _, _, rfl, ⟨rfl, rfl, rfl⟩, rfl, (pRat_eq (by show _ = if _ then _ else _; rw [if_pos t2]))⟩, trivial⟩ ⟨⟨rfl, rfl, 0, _, rfl, fun _ _ h => h⟩, ⟨rfl, rfl, 1, _, rfl, fun _ _ h => h⟩, ⟨rfl, rfl, 20, _, rfl, (pI_eq (by omega))⟩, trivial⟩)⟩, (show l.length - (k + 1) < l.length - k by omega)⟩
    · have t3 := of_decide_eq_false ht
      refine wp_skip ?_
      refine block_of ?_
      refine then_of ?_
      refine sem_text (V1 := [⟨4, 4, none, none, .ptr, 28, 3, true, pRat 0, []⟩, ⟨5, 5, none, none, .ptr, 28, 3, true, pRat (minTo l k), []⟩]) (A1 := []) (G1 := [⟨none, none, 0, pRats l⟩, ⟨none, none, 1, pEq (.func (.func 63) #[] #[])⟩, ⟨none, some 2, 6, pI (k : Int)⟩, ⟨none, none, 14, pI (k : Int)⟩, ⟨none, none, 15, pRats l⟩, ⟨none, none, 16, pI (l.length : Int)⟩, ⟨none, none, 17, pB (decide ((k : Int) < (l.length : Int)))⟩, ⟨none, none, 20, pEq (.func (.func 63) #[] #[])⟩, ⟨none, none, 21, pRats l⟩, ⟨none, none, 22, pI (k : Int)⟩, ⟨none, none, 23, pPtr 3 true (pRat (l.getD k 0))⟩, ⟨none, none, 24, pRat (l.getD k 0)⟩, ⟨none, none, 25, pRat (minTo l k)⟩, ⟨none, none, 26, pI (cmpT (l.getD k 0) (minTo l k))⟩, ⟨none, none, 27, pB (decide ((cmpT (l.getD k 0) (minTo l k)) < (0 : Int)))⟩, ⟨some 0, none, 18, pI (k : Int)⟩, ⟨some 1, none, 19, pI ((k : Int) + (1 : Int))⟩, ⟨some 2, none, 6, pI ((k : Int) + (1 : Int))⟩]) (V2 := [⟨4, 4, none, none, .ptr, 28, 3, true, pRat 0, []⟩, ⟨5, 5, none, none, .ptr, 28, 3, true, pRat (minTo l k), []⟩]) (G2 := [⟨none, none, 0, pRats l⟩, ⟨none, none, 1, pEq (.func (.func 63) #[] #[])⟩, ⟨none, none, 14, pI (k : Int)⟩, ⟨none, none, 15, pRats l⟩, ⟨none, none, 16, pI (l.length : Int)⟩, ⟨none, none, 17, pB (decide ((k : Int) < (l.length : Int)))⟩, ⟨none, none, 20, pEq (.func (.func 63) #[] #[])⟩, ⟨none, none, 21, pRats l⟩, ⟨none, none, 22, pI (k : Int)⟩, ⟨none, none, 23, pPtr 3 true (pRat (l.getD k 0))⟩, ⟨none, none, 24, pRat (l.getD k 0)⟩, ⟨none, none, 25, pRat (minTo l k)⟩, ⟨none, none, 26, pI (cmpT (l.getD k 0) (minTo l k))⟩, ⟨none, none, 27, pB (decide ((cmpT (l.getD k 0) (minTo l k)) < (0 : Int)))⟩, ⟨none, none, 18, pI (k : Int)⟩, ⟨none, none, 19, pI ((k : Int) + (1 : Int))⟩, ⟨none, none, 6, pI ((k : Int) + (1 : Int))⟩]) hI rfl rfl rfl [0, 1, 3] (by kernel_rfl) (by kernel_rfl) ?_ [0, 1] [0, 1, 2, 3, 4, 5, 6, 7, 8, 9, 10, 11, 12, 13, 14, 15, 16] rfl rfl fun a w hI => ?_
      · exact ⟨op_move (.tmp 2 rfl rfl) (.here 15 rfl),
          op_bin (v := .int .i64 (IntKind.i64.wrap ((k : Int) + (1 : Int)))) (.tmp 15 rfl rfl) (.const _) (fun _ => rfl) (.at_ 16 _ _ rfl (pI_wrap (by omega))),
          op_assign (.tmp 16 rfl rfl) (.here 17 rfl),
          trivial⟩
      refine then_of ?_
      exact ⟨k + 1, ⟨⟨by omega, by omega⟩, (hI.conv ⟨⟨0, _, _, rfl, ⟨rfl, rfl, rfl⟩, rfl, fun _ _ h => h⟩, ⟨1, _, _, rfl, ⟨rfl, rfl, rfl⟩, rfl, (pRat_eq (by show _ = if _ then _ else _; rw [if_neg t3]))⟩, trivial⟩ ⟨⟨rfl, rfl, 0, _, rfl, fun _ _ h => h⟩, ⟨rfl, rfl, 1, _, rfl, fun _ _ h => h⟩, ⟨rfl, rfl, 16, _, rfl, (pI_eq (by omega))⟩, trivial⟩)⟩, (show l.length - (k + 1) < l.length - k by omega)⟩
  · have t4 := of_decide_eq_false ht
    refine wp_exit ?_
    refine then_exit ?_
    refine then_exit ?_
    refine block_exit ?_
    refine then_of ?_
    refine seq_text (V1 := [⟨4, 4, none, none, .ptr, 28, 3, true, pRat 0, [(1, pRat (minTo l k))]⟩, ⟨5, 5, none, none, .ptr, 28, 3, true, pRat (minTo l k), []⟩]) (A1 := []) (G1 := [⟨none, none, 0, pRats l⟩, ⟨none, none, 1, pEq (.func (.func 63) #[] #[])⟩, ⟨none, none, 6, pI (k : Int)⟩, ⟨none, none, 14, pI (k : Int)⟩, ⟨none, none, 15, pRats l⟩, ⟨none, none, 16, pI (l.length : Int)⟩, ⟨none, none, 17, pB (decide ((k : Int) < (l.length : Int)))⟩, ⟨some 0, none, 32, pRat (minTo l k)⟩]) (V2 := [⟨4, 4, none, none, .ptr, 28, 3, true, pRat (minTo l k), []⟩, ⟨5, 5, none, none, .ptr, 28, 3, true, pRat (minTo l k), []⟩]) (G2 := []) hI rfl rfl rfl [0, 1] (by kernel_rfl) (by kernel_rfl) ?_ [0, 1] [] rfl rfl fun a w hI => ?_
    · exact ⟨op_load 1 rfl rfl rfl rfl (by kernel_rfl) ty_Ratio rfl (.here 7 rfl),
        op_store 0 rfl rfl rfl rfl 0 rfl (by kernel_rfl) (by kernel_rfl) ty_Ratio (.tmp 7 rfl rfl) (fits_rat _),
        trivial⟩
    refine wp_ret ?_
    exact fin1 hI rfl (.imp (.cell 0 rfl rfl rfl rfl ty_Ratio rfl) (pRat_eq (by rw [show k = l.length by omega])))
set_option maxRecDepth 100000 in
theorem cr_max {l : List Rat} {j : Nat} (h0 : 0 < l.length) (hn : l.length ≤ 1000000000) (hb : ∀ x ∈ l, BdR j x) (hj : j + j ≤ 100000000) : ∀ (M : Nat → Nat → Prop) (w : World) (v0 v1 : Value), Mid M w → Box M (fun w => (pRats l) w v0) w → Box M (fun w => (pEq (.func (.func 63) #[] #[])) w v1) w → Calls Tryz.prog 131 #[v0, v1] w (RetB M (pRat (maxTo l l.length)) w) := by
  intro M w0 v0 v1 hM hv0 hv1
  refine calls_start (N := 33) Tryz.func131 rfl rfl rfl hM (show EntsA M w0 [v0, v1] [⟨none, none, 0, pRats l⟩, ⟨none, none, 1, pEq (.func (.func 63) #[] #[])⟩] from ⟨⟨rfl, _, rfl, hv0⟩, ⟨rfl, _, rfl, hv1⟩, trivial⟩) fun a hI => ?_
  refine seq_text (V1 := [⟨4, 4, some 0, none, .ptr, 28, 3, true, pRat 0, []⟩]) (A1 := []) (G1 := [⟨none, none, 0, pRats l⟩, ⟨none, none, 1, pEq (.func (.func 63) #[] #[])⟩]) (V2 := [⟨4, 4, none, none, .ptr, 28, 3, true, pRat 0, []⟩]) (G2 := [⟨none, none, 0, pRats l⟩, ⟨none, none, 1, pEq (.func (.func 63) #[] #[])⟩]) hI rfl rfl rfl [0] (by kernel_rfl) (by kernel_rfl) ?_ [0] [0, 1] rfl rfl fun a w hI => ?_
  · exact ⟨op_alloc 0 rfl rfl (by kernel_rfl) (by kernel_rfl) rfl rfl rfl zv_Ratio rfl rfl (by simp [NoU]) (fun w => isRat_zero w),
      trivial⟩
  refine wp_seq ?_
  refine seq_text (V1 := [⟨4, 4, none, none, .ptr, 28, 3, true, pRat 0, []⟩]) (A1 := []) (G1 := [⟨none, none, 0, pRats l⟩, ⟨none, none, 1, pEq (.func (.func 63) #[] #[])⟩, ⟨some 0, none, 7, pRats l⟩, ⟨some 1, none, 8, pI (l.length : Int)⟩, ⟨some 2, none, 9, pB false⟩]) (V2 := [⟨4, 4, none, none, .ptr, 28, 3, true, pRat 0, []⟩]) (G2 := [⟨none, none, 0, pRats l⟩, ⟨none, none, 1, pEq (.func (.func 63) #[] #[])⟩, ⟨none, none, 9, pB false⟩]) hI rfl rfl rfl [0, 1, 3] (by kernel_rfl) (by kernel_rfl) ?_ [0] [0, 1, 4] rfl rfl fun a w hI => ?_
  · exact ⟨op_move (.tmp 0 rfl rfl) (.here 2 rfl),
      op_len (.tmp 2 rfl rfl) (sl_Ratios).under (.here 3 rfl),
      op_bin (v := .bool (decide ((l.length : Int) < (1 : Int)))) (.tmp 3 rfl rfl) (.const _) (fun _ => rfl) (.at_ 4 _ _ rfl (pB_eq (decide_eq_false (by omega)))),
      trivial⟩
  refine cond_no hI 2 rfl ?_
  refine wp_skip ?_
  refine then_of ?_
  refine seq_text (V1 := [⟨4, 4, none, none, .ptr, 28, 3, true, pRat 0, []⟩, ⟨5, 5, some 3, none, .ptr, 28, 3, true, pRat 0, [(4, pRat (l.getD 0 0))]⟩]) (A1 := []) (G1 := [⟨none, none, 0, pRats l⟩, ⟨none, none, 1, pEq (.func (.func 63) #[] #[])⟩, ⟨none, none, 9, pB false⟩, ⟨some 0, none, 11, pRats l⟩, ⟨some 1, none, 12, pPtr 3 true (pRat (l.getD 0 0))⟩, ⟨some 2, none, 13, pRat (l.getD 0 0)⟩]) (V2 := [⟨4, 4, none, none, .ptr, 28, 3, true, pRat 0, []⟩, ⟨5, 5, none, none, .ptr, 28, 3, true, pRat (l.getD 0 0), []⟩]) (G2 := [⟨none, none, 0, pRats l⟩, ⟨none, none, 1, pEq (.func (.func 63) #[] #[])⟩]) hI rfl rfl rfl [0, 1, 3, 7, 15] (by kernel_rfl) (by kernel_rfl) ?_ [0, 1] [0, 1] rfl rfl fun a w hI => ?_
  · exact ⟨op_move (.tmp 0 rfl rfl) (.here 3 rfl),
      op_indexRow (.tmp 3 rfl rfl) (.const _) sl_Ratios (by omega) (by omega) (by kernel_rfl) (.here 4 rfl),
      op_loadP (.tmp 4 rfl rfl) ty_Ratio (fits_rat _) (.here 5 rfl),
      op_alloc 1 rfl rfl (by kernel_rfl) (by kernel_rfl) rfl rfl rfl zv_Ratio rfl rfl (by simp [NoU]) (fun w => isRat_zero w),
      op_store 1 rfl rfl rfl rfl 0 rfl (by kernel_rfl) (by kernel_rfl) ty_Ratio (.tmp 5 rfl rfl) (fits_rat _),
      trivial⟩
  refine wp_seq ?_
  refine seq_text (V1 := [⟨4, 4, none, none, .ptr, 28, 3, true, pRat 0, []⟩, ⟨5, 5, none, none, .ptr, 28, 3, true, pRat (l.getD 0 0), []⟩]) (A1 := []) (G1 := [⟨none, none, 0, pRats l⟩, ⟨none, none, 1, pEq (.func (.func 63) #[] #[])⟩, ⟨some 0, none, 6, pI 1⟩]) (V2 := [⟨4, 4, none, none, .ptr, 28, 3, true, pRat 0, []⟩, ⟨5, 5, none, none, .ptr, 28, 3, true, pRat (l.getD 0 0), []⟩]) (G2 := [⟨none, none, 0, pRats l⟩, ⟨none, none, 1, pEq (.func (.func 63) #[] #[])⟩, ⟨none, none, 6, pI 1⟩]) hI rfl rfl rfl [0] (by kernel_rfl) (by kernel_rfl) ?_ [0, 1] [0, 1, 2] rfl rfl fun a w hI => ?_
  · exact ⟨op_assign (.const _) (.here 2 rfl),
      trivial⟩
  refine wp_block ?_
  refine wp_loop_ix (fun (k : Nat) a w => (1 ≤ k ∧ k ≤ l.length) ∧ Inv ⟨33, w0, M⟩ [⟨4, 4, none, none, .ptr, 28, 3, true, pRat 0, []⟩, ⟨5, 5, none, none, .ptr, 28, 3, true, pRat (maxTo l k), []⟩] [] [⟨none, none, 0, pRats l⟩, ⟨none, none, 1, pEq (.func (.func 63) #[] #[])⟩, ⟨none, none, 6, pI (k : Int)⟩] none_ a w) (fun (k : Nat) => l.length - k) (1) ⟨⟨Nat.le_refl _, h0⟩, (hI.conv ⟨⟨0, _, _, rfl, ⟨rfl, rfl, rfl⟩, rfl, fun _ _ h => h⟩, ⟨1, _, _, rfl, ⟨rfl, rfl, rfl⟩, rfl, (pRat_eq (maxTo_one l).symm)⟩, trivial⟩ ⟨⟨rfl, rfl, 0, _, rfl, fun _ _ h => h⟩, ⟨rfl, rfl, 1, _, rfl, fun _ _ h => h⟩, ⟨rfl, rfl, 2, _, rfl, (pI_eq (by omega))⟩, trivial⟩)⟩ ?_
  intro k a w hIk
  obtain ⟨hp, hI⟩ := hIk
  refine wp_seq ?_
  refine seq_text (V1 := [⟨4, 4, none, none, .ptr, 28, 3, true, pRat 0, []⟩, ⟨5, 5, none, none, .ptr, 28, 3, true, pRat (maxTo l k), []⟩]) (A1 := []) (G1 := [⟨none, none, 0, pRats l⟩, ⟨none, none, 1, pEq (.func (.func 63) #[] #[])⟩, ⟨none, none, 6, pI (k : Int)⟩, ⟨some 0, none, 14, pI (k : Int)⟩, ⟨some 1, none, 15, pRats l⟩, ⟨some 2, none, 16, pI (l.length : Int)⟩, ⟨some 3, none, 17, pB (decide ((k : Int) < (l.length : Int)))⟩]) (V2 := [⟨4, 4, none, none, .ptr, 28, 3, true, pRat 0, []⟩, ⟨5, 5, none, none, .ptr, 28, 3, true, pRat (maxTo l k), []⟩]) (G2 := [⟨none, none, 0, pRats l⟩, ⟨none, none, 1, pEq (.func (.func 63) #[] #[])⟩, ⟨none, none, 6, pI (k : Int)⟩, ⟨none, none, 14, pI (k : Int)⟩, ⟨none, none, 15, pRats l⟩, ⟨none, none, 16, pI (l.length : Int)⟩, ⟨none, none, 17, pB (decide ((k : Int) < (l.length : Int)))⟩]) hI rfl rfl rfl [0, 1, 3, 7] (by kernel_rfl) (by kernel_rfl) ?_ [0, 1] [0, 1, 2, 3, 4, 5, 6] rfl rfl fun a w hI => ?_
  · exact ⟨op_move (.tmp 2 rfl rfl) (.here 3 rfl),
      op_move (.tmp 0 rfl rfl) (.here 4 rfl),
      op_len (.tmp 4 rfl rfl) (sl_Ratios).under (.here 5 rfl),
      op_bin (v := .bool (decide ((k : Int) < (l.length : Int)))) (.tmp 3 rfl rfl) (.tmp 5 rfl rfl) (fun _ => rfl) (.here 6 rfl),
      trivial⟩
  refine cond_if hI 6 rfl (fun ht => ?_) (fun ht => ?_)
  · have t1 := of_decide_eq_true ht
    refine wp_skip ?_
    refine then_of ?_
    refine wp_seq ?_
    refine wp_block ?_
    refine seq_drawn (V1 := [⟨4, 4, none, none, .ptr, 28, 3, true, pRat 0, []⟩, ⟨5, 5, none, none, .ptr, 28, 3, true, pRat (maxTo l k), []⟩]) (A1 := []) (G1 := [⟨none, none, 0, pRats l⟩, ⟨none, none, 1, pEq (.func (.func 63) #[] #[])⟩, ⟨none, none, 6, pI (k : Int)⟩, ⟨none, none, 14, pI (k : Int)⟩, ⟨none, none, 15, pRats l⟩, ⟨none, none, 16, pI (l.length : Int)⟩, ⟨none, none, 17, pB (decide ((k : Int) < (l.length : Int)))⟩, ⟨some 0, none, 20, pEq (.func (.func 63) #[] #[])⟩, ⟨some 1, none, 21, pRats l⟩, ⟨some 2, none, 22, pI (k : Int)⟩, ⟨some 3, none, 23, pPtr 3 true (pRat (l.getD k 0))⟩, ⟨some 4, none, 24, pRat (l.getD k 0)⟩, ⟨some 5, none, 25, pRat (maxTo l k)⟩, ⟨some 6, none, 26, pI (cmpT (l.getD k 0) (maxTo l k))⟩, ⟨some 7, none, 27, pB (decide ((cmpT (l.getD k 0) (maxTo l k)) > (0 : Int)))⟩]) (V2 := [⟨4, 4, none, none, .ptr, 28, 3, true, pRat 0, []⟩, ⟨5, 5, none, none, .ptr, 28, 3, true, pRat (maxTo l k), []⟩]) (G2 := [⟨none, none, 0, pRats l⟩, ⟨none, none, 1, pEq (.func (.func 63) #[] #[])⟩, ⟨none, none, 6, pI (k : Int)⟩, ⟨none, none, 14, pI (k : Int)⟩, ⟨none, none, 15, pRats l⟩, ⟨none, none, 16, pI (l.length : Int)⟩, ⟨none, none, 17, pB (decide ((k : Int) < (l.length : Int)))⟩, ⟨none, none, 20, pEq (.func (.func 63) #[] #[])⟩, ⟨none, none, 21, pRats l⟩, ⟨none, none, 22, pI (k : Int)⟩, ⟨none, none, 23, pPtr 3 true (pRat (l.getD k 0))⟩, ⟨none, none, 24, pRat (l.getD k 0)⟩, ⟨none, none, 25, pRat (maxTo l k)⟩, ⟨none, none, 26, pI (cmpT (l.getD k 0) (maxTo l k))⟩, ⟨none, none, 27, pB (decide ((cmpT (l.getD k 0) (maxTo l k)) > (0 : Int)))⟩]) hI rfl rfl rfl [0, 0, 0, 6, 14, 0, 63, 127] (by kernel_rfl) (by kernel_rfl) (by kernel_rfl) (by kernel_rfl) ?_ [0, 1] [0, 1, 2, 3, 4, 5, 6, 7, 8, 9, 10, 11, 12, 13, 14] rfl rfl fun a w hI => ?_
    · exact ⟨op_move (.tmp 1 rfl rfl) (.here 7 rfl),
        op_move (.tmp 0 rfl rfl) (.here 8 rfl),
        op_move (.tmp 2 rfl rfl) (.here 9 rfl),
        op_indexRow (.tmp 8 rfl rfl) (.tmp 9 rfl rfl) sl_Ratios (by omega) (by omega) (by kernel_rfl) (.at_ 10 _ _ rfl (by rw [Int.toNat_natCast]; exact fun _ _ h => h)),
        op_loadP (.tmp 10 rfl rfl) ty_Ratio (fits_rat _) (.here 11 rfl),
        op_load 1 rfl rfl rfl rfl (by kernel_rfl) ty_Ratio rfl (.here 12 rfl),
        op_callv2 (fun _ _ => by kernel_rfl) (.tmp 7 rfl rfl) (.tmp 11 rfl rfl) (.tmp 12 rfl rfl) (.here 13 rfl) (box2 (numlike_eq _) (c_cmp (bd_get hb (by omega)) (bd_maxTo hb h0 _ (by omega)) (by omega))),
        op_bin (v := .bool (decide ((cmpT (l.getD k 0) (maxTo l k)) > (0 : Int)))) (.tmp 13 rfl rfl) (.const _) (fun _ => rfl) (.here 14 rfl),
        trivial⟩
    refine cond_if hI 14 rfl (fun ht => ?_) (fun ht => ?_)
    · have t2 := of_decide_eq_true ht
      refine sem_text (V1 := [⟨4, 4, none, none, .ptr, 28, 3, true, pRat 0, []⟩, ⟨5, 5, none, none, .ptr, 28, 3, true, pRat (maxTo l k), [(4, pRat (l.getD k 0))]⟩]) (A1 := []) (G1 := [⟨none, none, 0, pRats l⟩, ⟨none, none, 1, pEq (.func (.func 63) #[] #[])⟩, ⟨none, none, 6, pI (k : Int)⟩, ⟨none, none, 14, pI (k : Int)⟩, ⟨none, none, 15, pRats l⟩, ⟨none, none, 16, pI (l.length : Int)⟩, ⟨none, none, 17, pB (decide ((k : Int) < (l.length : Int)))⟩, ⟨none, none, 20, pEq (.func (.func 63) #[] #[])⟩, ⟨none, none, 21, pRats l⟩, ⟨none, none, 22, pI (k : Int)⟩, ⟨none, none, 23, pPtr 3 true (pRat (l.getD k 0))⟩, ⟨none, none, 24, pRat (l.getD k 0)⟩, ⟨none, none, 25, pRat (maxTo l k)⟩, ⟨none, none, 26, pI (cmpT (l.getD k 0) (maxTo l k))⟩, ⟨none, none, 27, pB (decide ((cmpT (l.getD k 0) (maxTo l k)) > (0 : Int)))⟩, ⟨some 0, none, 28, pRats l⟩, ⟨some 1, none, 29, pI (k : Int)⟩, ⟨some 2, none, 30, pPtr 3 true (pRat (l.getD k 0))⟩, ⟨some 3, none, 31, pRat (l.getD k 0)⟩]) (V2 := [⟨4, 4, none, none, .ptr, 28, 3, true, pRat 0, []⟩, ⟨5, 5, none, none, .ptr, 28, 3, true, pRat (l.getD k 0), []⟩]) (G2 := [⟨none, none, 0, pRats l⟩, ⟨none, none, 1, pEq (.func (.func 63) #[] #[])⟩, ⟨none, none, 6, pI (k : Int)⟩, ⟨none, none, 14, pI (k : Int)⟩, ⟨none, none, 15, pRats l⟩, ⟨none, none, 16, pI (l.length : Int)⟩, ⟨none, none, 17, pB (decide ((k : Int) < (l.length : Int)))⟩, ⟨none, none, 20, pEq (.func (.func 63) #[] #[])⟩, ⟨none, none, 21, pRats l⟩, ⟨none, none, 22, pI (k : Int)⟩, ⟨none, none, 23, pPtr 3 true (pRat (l.getD k 0))⟩, ⟨none, none, 24, pRat (l.getD k 0)⟩, ⟨none, none, 25, pRat (maxTo l k)⟩, ⟨none, none, 26, pI (cmpT (l.getD k 0) (maxTo l k))⟩, ⟨none, none, 27, pB (decide ((cmpT (l.getD k 0) (maxTo l k)) > (0 : Int)))⟩, ⟨none, none, 28, pRats l⟩, ⟨none, none, 29, pI (k : Int)⟩, ⟨none, none, 30, pPtr 3 true (pRat (l.getD k 0))⟩, ⟨none, none, 31, pRat (l.getD k 0)⟩]) hI rfl rfl rfl [0, 1, 3, 7, 15] (by kernel_rfl) (by kernel_rfl) ?_ [0, 1] [0, 1, 2, 3, 4, 5, 6, 7, 8, 9, 10, 11, 12, 13, 14, 15, 16, 17, 18] rfl rfl fun a w hI => ?_
      · exact ⟨op_move (.tmp 0 rfl rfl) (.here 15 rfl),
          op_move (.tmp 2 rfl rfl) (.here 16 rfl),
          op_indexRow (.tmp 15 rfl rfl) (.tmp 16 rfl rfl) sl_Ratios (by omega) (by omega) (by kernel_rfl) (.at_ 17 _ _ rfl (by rw [Int.toNat_natCast]; exact fun _ _ h => h)),
          op_loadP (.tmp 17 rfl rfl) ty_Ratio (fits_rat _) (.here 18 rfl),
          op_store 1 rfl rfl rfl rfl 0 rfl (by kernel_rfl) (by kernel_rfl) ty_Ratio (.tmp 18 rfl rfl) (fits_rat _),
          trivial⟩
      refine block_of ?_
      refine then_of ?_
      refine sem_text (V1 := [⟨4, 4, none, none, .ptr, 28, 3, true, pRat 0, []⟩, ⟨5, 5, none, none, .ptr, 28, 3, true, pRat (l.getD k 0), []⟩]) (A1 := []) (G1 := [⟨none, none, 0, pRats l⟩, ⟨none, none, 1, pEq (.func (.func 63) #[] #[])⟩, ⟨none, some 2, 6, pI (k : Int)⟩, ⟨none, none, 14, pI (k : Int)⟩, ⟨none, none, 15, pRats l⟩, ⟨none, none, 16, pI (l.length : Int)⟩, ⟨none, none, 17, pB (decide ((k : Int) < (l.length : Int)))⟩, ⟨none, none, 20, pEq (.func (.func 63) #[] #[])⟩, ⟨none, none, 21, pRats l⟩, ⟨none, none, 22, pI (k : Int)⟩, ⟨none, none, 23, pPtr 3 true (pRat (l.getD k 0))⟩, ⟨none, none, 24, pRat (l.getD k 0)⟩, ⟨none, none, 25, pRat (maxTo l k)⟩, ⟨none, none, 26, pI (cmpT (l.getD k 0) (maxTo l k))⟩, ⟨none, none, 27, pB (decide ((cmpT (l.getD k 0) (maxTo l k)) > (0 : Int)))⟩, ⟨none, none, 28, pRats l⟩, ⟨none, none, 29, pI (k : Int)⟩, ⟨none, none, 30, pPtr 3 true (pRat (l.getD k 0))⟩, ⟨none, none, 31, pRat (l.getD k 0)⟩, ⟨some 0, none, 18, pI (k : Int)⟩, ⟨some 1, none, 19, pI ((k : Int) + (1 : Int))⟩, ⟨some 2, none, 6, pI ((k : Int) + (1 : Int))⟩]) (V2 := [⟨4, 4, none, none, .ptr, 28, 3, true, pRat 0, []⟩, ⟨5, 5, none, none, .ptr, 28, 3, true, pRat (l.getD k 0), []⟩]) (G2 := [⟨none, none, 0, pRats l⟩, ⟨none, none, 1, pEq (.func (.func 63) #[] #[])⟩, ⟨none, none, 14, pI (k : Int)⟩, ⟨none, none, 15, pRats l⟩, ⟨none, none, 16, pI (l.length : Int)⟩, ⟨none, none, 17, pB (decide ((k : Int) < (l.length : Int)))⟩, ⟨none, none, 20, pEq (.func (.func 63) #[] #[])⟩, ⟨none, none, 21, pRats l⟩, ⟨none, none, 22, pI (k : Int)⟩, ⟨none, none, 23, pPtr 3 true (pRat (l.getD k 0))⟩, ⟨none, none, 24, pRat (l.getD k 0)⟩, ⟨none, none, 25, pRat (maxTo l k)⟩, ⟨none, none, 26, pI (cmpT (l.getD k 0) (maxTo l k))⟩, ⟨none, none, 27, pB (decide ((cmpT (l.getD k 0) (maxTo l k)) > (0 : Int)))⟩, ⟨none, none, 28, pRats l⟩, ⟨none, none, 29, pI (k : Int)⟩, ⟨none, none, 30, pPtr 3 true (pRat (l.getD k 0))⟩, ⟨none, none, 31, pRat (l.getD k 0)⟩, ⟨none, none, 18, pI (k : Int)⟩, ⟨none, none, 19, pI ((k : Int) + (1 : Int))⟩, ⟨none, none, 6, pI ((k : Int) + (1 : Int))⟩]) hI rfl rfl rfl [0, 1, 3] (by kernel_rfl) (by kernel_rfl) ?_ [0, 1] [0, 1, 2, 3, 4, 5, 6, 7, 8, 9, 10, 11, 12, 13, 14, 15, 16, 17, 18, 19, 20] rfl rfl fun a w hI => ?_
      · exact ⟨op_move (.tmp 2 rfl rfl) (.here 19 rfl),
          op_bin (v := .int .i64 (IntKind.i64.wrap ((k : Int) + (1 : Int)))) (.tmp 19 rfl rfl) (.const _) (fun _ => rfl) (.at_ 20 _ _ rfl (pI_wrap (by omega))),
          op_assign (.tmp 20 rfl rfl) (.here 21 rfl),
          trivial⟩
      refine then_of ?_
      exact ⟨k + 1, ⟨⟨by omega, by omega⟩, (hI.conv ⟨⟨0, _, _, rfl, ⟨rfl, rfl, rfl⟩, rfl, fun _ _ h => h⟩, ⟨1, _, _, rfl, ⟨rfl, rfl, rfl⟩, rfl, (pRat_eq (by show _ = if _ then _ else _; rw [if_pos t2]))⟩, trivial⟩ ⟨⟨rfl, rfl, 0, _, rfl, fun _ _ h => h⟩, ⟨rfl, rfl, 1, _, rfl, fun _ _ h => h⟩, ⟨rfl, rfl, 20, _, rfl, (pI_eq (by omega))⟩, trivial⟩)⟩, (show l.length - (k + 1) < l.length - k by omega)⟩
    · have t3 := of_decide_eq_false ht
      refine wp_skip ?_
      refine block_of ?_
      refine then_of ?_
      refine sem_text (V1 := [⟨4, 4, none, none, .ptr, 28, 3, true, pRat 0, []⟩, ⟨5, 5, none, none, .ptr, 28, 3, true, pRat (maxTo l k), []⟩]) (A1 := []) (G1 := [⟨none, none, 0, pRats l⟩, ⟨none, none, 1, pEq (.func (.func 63) #[] #[])⟩, ⟨none, some 2, 6, pI (k : Int)⟩, ⟨none, none, 14, pI (k : Int)⟩, ⟨none, none, 15, pRats l⟩, ⟨none, none, 16, pI (l.length : Int)⟩, ⟨none, none, 17, pB (decide ((k : Int) < (l.length : Int)))⟩, ⟨none, none, 20, pEq (.func (.func 63) #[] #[])⟩, ⟨none, none, 21, pRats l⟩, ⟨none, none, 22, pI (k : Int)⟩, ⟨none, none, 23, pPtr 3 true (pRat (l.getD k 0))⟩, ⟨none, none, 24, pRat (l.getD k 0)⟩, ⟨none, none, 25, pRat (maxTo l k)⟩, ⟨none, none, 26, pI (cmpT (l.getD k 0) (maxTo l k))⟩, ⟨none, none, 27, pB (decide ((cmpT (l.getD k 0) (maxTo l k)) > (0 : Int)))⟩, ⟨some 0, none, 18, pI (k : Int)⟩, ⟨some 1, none, 19, pI ((k : Int) + (1 : Int))⟩, ⟨some 2, none, 6, pI ((k : Int) + (1 : Int))⟩]) (V2 := [⟨4, 4, none, none, .ptr, 28, 3, true, pRat 0, []⟩, ⟨5, 5, none, none, .ptr, 28, 3, true, pRat (maxTo l k), []⟩]) (G2 := [⟨none, none, 0, pRats l⟩, ⟨none, none, 1, pEq (.func (.func 63) #[] #[])⟩, ⟨none, none, 14, pI (k : Int)⟩, ⟨none, none, 15, pRats l⟩, ⟨none, none, 16, pI (l.length : Int)⟩, ⟨none, none, 17, pB (decide ((k : Int) < (l.length : Int)))⟩, ⟨none, none, 20, pEq (.func (.func 63) #[] #[])⟩, ⟨none, none, 21, pRats l⟩, ⟨none, none, 22, pI (k : Int)⟩, ⟨none, none, 23, pPtr 3 true (pRat (l.getD k 0))⟩, ⟨none, none, 24, pRat (l.getD k 0)⟩, ⟨none, none, 25, pRat (maxTo l k)⟩, ⟨none, none, 26, pI (cmpT (l.getD k 0) (maxTo l k))⟩, ⟨none, none, 27, pB (decide ((cmpT (l.getD k 0) (maxTo l k)) > (0 : Int)))⟩, ⟨none, none, 18, pI (k : Int)⟩, ⟨none, none, 19, pI ((k : Int) + (1 : Int))⟩, ⟨none, none, 6, pI ((k : Int) + (1 : Int))⟩]) hI rfl rfl rfl [0, 1, 3] (by kernel_rfl) (by kernel_rfl) ?_ [0, 1] [0, 1, 2, 3, 4, 5, 6, 7, 8, 9, 10, 11, 12, 13, 14, 15, 16] rfl rfl fun a w hI => ?_
      · exact ⟨op_move (.tmp 2 rfl rfl) (.here 15 rfl),
          op_bin (v := .int .i64 (IntKind.i64.wrap ((k : Int) + (1 : Int)))) (.tmp 15 rfl rfl) (.const _) (fun _ => rfl) (.at_ 16 _ _ rfl (pI_wrap (by omega))),
          op_assign (.tmp 16 rfl rfl) (.here 17 rfl),
          trivial⟩
      refine then_of ?_
      exact ⟨k + 1, ⟨⟨by omega, by omega⟩, (hI.conv ⟨⟨0, _, _, rfl, ⟨rfl, rfl, rfl⟩, rfl, fun _ _ h => h⟩, ⟨1, _, _, rfl, ⟨rfl, rfl, rfl⟩, rfl, (pRat_eq (by show _ = if _ then _ else _; rw [if_neg t3]))⟩, trivial⟩ ⟨⟨rfl, rfl, 0, _, rfl, fun _ _ h => h⟩, ⟨rfl, rfl, 1, _, rfl, fun _ _ h => h⟩, ⟨rfl, rfl, 16, _, rfl, (pI_eq (by omega))⟩, trivial⟩)⟩, (show l.length - (k + 1) < l.length - k by omega)⟩
  · have t4 := of_decide_eq_false ht
    refine wp_exit ?_
    refine then_exit ?_
    refine then_exit ?_
    refine block_exit ?_
    refine then_of ?_
    refine seq_text (V1 := [⟨4, 4, none, none, .ptr, 28, 3, true, pRat 0, [(1, pRat (maxTo l k))]⟩, ⟨5, 5, none, none, .ptr, 28, 3, true, pRat (maxTo l k), []⟩]) (A1 := []) (G1 := [⟨none, none, 0, pRats l⟩, ⟨none, none, 1, pEq (.func (.func 63) #[] #[])⟩, ⟨none, none, 6, pI (k : Int)⟩, ⟨none, none, 14, pI (k : Int)⟩, ⟨none, none, 15, pRats l⟩, ⟨none, none, 16, pI (l.length : Int)⟩, ⟨none, none, 17, pB (decide ((k : Int) < (l.length : Int)))⟩, ⟨some 0, none, 32, pRat (maxTo l k)⟩]) (V2 := [⟨4, 4, none, none, .ptr, 28, 3, true, pRat (maxTo l k), []⟩, ⟨5, 5, none, none, .ptr, 28, 3, true, pRat (maxTo l k), []⟩]) (G2 := []) hI rfl rfl rfl [0, 1] (by kernel_rfl) (by kernel_rfl) ?_ [0, 1] [] rfl rfl fun a w hI => ?_
    · exact ⟨op_load 1 rfl rfl rfl rfl (by kernel_rfl) ty_Ratio rfl (.here 7 rfl),
        op_store 0 rfl rfl rfl rfl 0 rfl (by kernel_rfl) (by kernel_rfl) ty_Ratio (.tmp 7 rfl rfl) (fits_rat _),
        trivial⟩
    refine wp_ret ?_
    exact fin1 hI rfl (.imp (.cell 0 rfl rfl rfl rfl ty_Ratio rfl) (pRat_eq (by rw [show k = l.length by omega])))
set_option maxRecDepth 100000 in
theorem cr_around {l : List Rat} {j : Nat} (h0 : 0 < l.length) (hn : l.length ≤ 1000000000) (hb : ∀ x ∈ l, BdR j x) (hj : j + j ≤ 100000000) : ∀ (M : Nat → Nat → Prop) (w : World) (v0 : Value), Mid M w → Box M (fun w => (pRats l) w v0) w → Calls Tryz.prog 80 #[v0] w (RetB M (pPair (minTo l l.length) (maxTo l l.length)) w) := by
  intro M w0 v0 hM hv0
  refine calls_start (N := 8) Tryz.func80 rfl rfl rfl hM (show EntsA M w0 [v0] [⟨none, none, 0, pRats l⟩] from ⟨⟨rfl, _, rfl, hv0⟩, trivial⟩) fun a hI => ?_
  refine seq_text (V1 := [⟨2, 2, some 0, none, .ptr, 30, 6, true, pPair 0 0, []⟩]) (A1 := []) (G1 := [⟨none, none, 0, pRats l⟩]) (V2 := [⟨2, 2, none, none, .ptr, 30, 6, true, pPair 0 0, []⟩]) (G2 := [⟨none, none, 0, pRats l⟩]) hI rfl rfl rfl [0] (by kernel_rfl) (by kernel_rfl) ?_ [0] [0] rfl rfl fun a w hI => ?_
  · exact ⟨op_alloc 0 rfl rfl (by kernel_rfl) (by kernel_rfl) rfl rfl rfl zv_Range rfl rfl (by simp [NoU]) (fun w => pS_of (cells_pair0 w)),
      trivial⟩
  refine seq_text (V1 := [⟨2, 2, none, none, .ptr, 30, 6, true, pPair 0 0, [(5, pPair (minTo l l.length) (maxTo l l.length))]⟩]) (A1 := []) (G1 := [⟨none, none, 0, pRats l⟩, ⟨some 0, none, 3, pRats l⟩, ⟨some 1, none, 4, pRat (minTo l l.length)⟩, ⟨some 2, none, 5, pRats l⟩, ⟨some 3, none, 6, pRat (maxTo l l.length)⟩, ⟨some 4, none, 7, pPair (minTo l l.length) (maxTo l l.length)⟩]) (V2 := [⟨2, 2, none, none, .ptr, 30, 6, true, pPair (minTo l l.length) (maxTo l l.length), []⟩]) (G2 := []) hI rfl rfl rfl [0, 1, 3, 7, 15, 31] (by kernel_rfl) (by kernel_rfl) ?_ [0] [] rfl rfl fun a w hI => ?_
  · exact ⟨op_move (.tmp 0 rfl rfl) (.here 1 rfl),
      op_callB2 (fun _ _ => by kernel_rfl) (.tmp 1 rfl rfl) (.func _) (.here 2 rfl) (cr_min (j := j) h0 hn hb hj),
      op_move (.tmp 0 rfl rfl) (.here 3 rfl),
      op_callB2 (fun _ _ => by kernel_rfl) (.tmp 3 rfl rfl) (.func _) (.here 4 rfl) (cr_max (j := j) h0 hn hb hj),
      op_build (fs := [⟨true, 3, pRat 0⟩, ⟨true, 3, pRat 0⟩]) (ps := [(0, pRat (minTo l l.length)), (1, pRat (maxTo l l.length))]) bt_Range (places_ok (by kernel_rfl)) (cells_pair0) (show HasParts _ _ _ _ _ _ from ⟨⟨rfl, (.tmp 2 rfl rfl), _, rfl, fits_rat _⟩, ⟨rfl, (.tmp 4 rfl rfl), _, rfl, fits_rat _⟩, trivial⟩) rfl (.here 5 rfl),
      op_store 0 rfl rfl rfl rfl 0 rfl (by kernel_rfl) (by kernel_rfl) ty_Range (.tmp 5 rfl rfl) (fits_pair _ _),
      trivial⟩
  refine wp_ret ?_
  exact fin1 hI rfl (.cell 0 rfl rfl rfl rfl ty_Range rfl)
set_option maxRecDepth 100000 in
theorem cr_only (a1 : Rat) : ∀ (M : Nat → Nat → Prop) (w : World) (v0 : Value), Mid M w → Box M (fun w => (pRat a1) w v0) w → Calls Tryz.prog 72 #[v0] w (RetB M (pPair a1 a1) w) := by
  intro M w0 v0 hM hv0
  refine calls_start (N := 6) Tryz.func72 rfl rfl rfl hM (show EntsA M w0 [v0] [⟨none, none, 0, pRat a1⟩] from ⟨⟨rfl, _, rfl, hv0⟩, trivial⟩) fun a hI => ?_
  refine seq_text (V1 := [⟨1, 1, some 0, none, .ptr, 28, 3, true, pRat a1, []⟩, ⟨2, 2, some 1, none, .ptr, 30, 6, true, pPair 0 0, []⟩]) (A1 := []) (G1 := [⟨none, none, 0, pRat a1⟩]) (V2 := [⟨1, 1, none, none, .ptr, 28, 3, true, pRat a1, []⟩, ⟨2, 2, none, none, .ptr, 30, 6, true, pPair 0 0, []⟩]) (G2 := []) hI rfl rfl rfl [0, 1] (by kernel_rfl) (by kernel_rfl) ?_ [0, 1] [] rfl rfl fun a w hI => ?_
  · exact ⟨op_box 0 rfl rfl (by kernel_rfl) (by kernel_rfl) rfl rfl rfl (.tmp 0 rfl rfl) (fits_rat _) rfl,
      op_alloc 1 rfl rfl (by kernel_rfl) (by kernel_rfl) rfl rfl rfl zv_Range rfl rfl (by simp [NoU]) (fun w => pS_of (cells_pair0 w)),
      trivial⟩
  refine seq_text (V1 := [⟨1, 1, none, none, .ptr, 28, 3, true, pRat a1, []⟩, ⟨2, 2, none, none, .ptr, 30, 6, true, pPair 0 0, [(3, pPair a1 a1)]⟩]) (A1 := []) (G1 := [⟨some 0, none, 3, pRat a1⟩, ⟨some 1, none, 4, pRat a1⟩, ⟨some 2, none, 5, pPair a1 a1⟩]) (V2 := [⟨1, 1, none, none, .ptr, 28, 3, true, pRat a1, []⟩, ⟨2, 2, none, none, .ptr, 30, 6, true, pPair a1 a1, []⟩]) (G2 := []) hI rfl rfl rfl [0, 1, 3, 7] (by kernel_rfl) (by kernel_rfl) ?_ [0, 1] [] rfl rfl fun a w hI => ?_
  · exact ⟨op_load 0 rfl rfl rfl rfl (by kernel_rfl) ty_Ratio rfl (.here 0 rfl),
      op_load 0 rfl rfl rfl rfl (by kernel_rfl) ty_Ratio rfl (.here 1 rfl),
      op_build (fs := [⟨true, 3, pRat 0⟩, ⟨true, 3, pRat 0⟩]) (ps := [(0, pRat a1), (1, pRat a1)]) bt_Range (places_ok (by kernel_rfl)) (cells_pair0) (show HasParts _ _ _ _ _ _ from ⟨⟨rfl, (.tmp 0 rfl rfl), _, rfl, fits_rat _⟩, ⟨rfl, (.tmp 1 rfl rfl), _, rfl, fits_rat _⟩, trivial⟩) rfl (.here 2 rfl),
      op_store 1 rfl rfl rfl rfl 0 rfl (by kernel_rfl) (by kernel_rfl) ty_Range (.tmp 2 rfl rfl) (fits_pair _ _),
      trivial⟩
  refine wp_ret ?_
  exact fin1 hI rfl (.cell 1 rfl rfl rfl rfl ty_Range rfl)
set_option maxRecDepth 100000 in
theorem cr_lo (a1 a2 : Rat) : ∀ (M : Nat → Nat → Prop) (w : World) (v0 : Value), Mid M w → Box M (fun w => (pPair a1 a2) w v0) w → Calls Tryz.prog 70 #[v0] w (RetB M (pRat a1) w) := by
  intro M w0 v0 hM hv0
  refine calls_start (N := 5) Tryz.func70 rfl rfl rfl hM (show EntsA M w0 [v0] [⟨none, none, 0, pPair a1 a2⟩] from ⟨⟨rfl, _, rfl, hv0⟩, trivial⟩) fun a hI => ?_
  refine seq_text (V1 := [⟨1, 1, some 0, none, .ptr, 30, 6, true, pPair a1 a2, []⟩, ⟨2, 2, some 1, none, .ptr, 28, 3, true, pRat 0, []⟩]) (A1 := []) (G1 := [⟨none, none, 0, pPair a1 a2⟩]) (V2 := [⟨1, 1, none, none, .ptr, 30, 6, true, pPair a1 a2, []⟩, ⟨2, 2, none, none, .ptr, 28, 3, true, pRat 0, []⟩]) (G2 := []) hI rfl rfl rfl [0, 1] (by kernel_rfl) (by kernel_rfl) ?_ [0, 1] [] rfl rfl fun a w hI => ?_
  · exact ⟨op_box 0 rfl rfl (by kernel_rfl) (by kernel_rfl) rfl rfl rfl (.tmp 0 rfl rfl) (fits_pair _ _) rfl,
      op_alloc 1 rfl rfl (by kernel_rfl) (by kernel_rfl) rfl rfl rfl zv_Ratio rfl rfl (by simp [NoU]) (fun w => isRat_zero w),
      trivial⟩
  refine seq_text (V1 := [⟨1, 1, none, none, .ptr, 30, 6, true, pPair a1 a2, []⟩, ⟨2, 2, none, none, .ptr, 28, 3, true, pRat 0, [(2, pRat a1)]⟩]) (A1 := [⟨some 0, 3, 1, 0, True⟩]) (G1 := [⟨some 1, none, 4, pRat a1⟩]) (V2 := [⟨1, 1, none, none, .ptr, 30, 6, true, pPair a1 a2, []⟩, ⟨2, 2, none, none, .ptr, 28, 3, true, pRat a1, []⟩]) (G2 := []) hI rfl rfl rfl [0, 1, 3] (by kernel_rfl) (by kernel_rfl) ?_ [0, 1] [] rfl rfl fun a w hI => ?_
  · exact ⟨op_field 0 rfl rfl rfl 0 rfl rfl rfl rfl (.inl ⟨rfl, rfl⟩) rfl (by kernel_rfl) (fun b w => fa_Range_0 b 0 w),
      op_loadAl 0 rfl 0 rfl rfl rfl rfl rfl trivial rfl rfl (by kernel_rfl) ty_Ratio rfl rfl (fd_get (fs := [⟨true, 3, pRat a1⟩, ⟨true, 3, pRat a2⟩]) 0 (f := ⟨true, 3, pRat a1⟩) rfl (off := 0) rfl) (.here 0 rfl),
      op_store 1 rfl rfl rfl rfl 0 rfl (by kernel_rfl) (by kernel_rfl) ty_Ratio (.tmp 0 rfl rfl) (fits_rat _),
      trivial⟩
  refine wp_ret ?_
  exact fin1 hI rfl (.cell 1 rfl rfl rfl rfl ty_Ratio rfl)
set_option maxRecDepth 100000 in
theorem cr_hi (a1 a2 : Rat) : ∀ (M : Nat → Nat → Prop) (w : World) (v0 : Value), Mid M w → Box M (fun w => (pPair a1 a2) w v0) w → Calls Tryz.prog 71 #[v0] w (RetB M (pRat a2) w) := by
  intro M w0 v0 hM hv0
  refine calls_start (N := 5) Tryz.func71 rfl rfl rfl hM (show EntsA M w0 [v0] [⟨none, none, 0, pPair a1 a2⟩] from ⟨⟨rfl, _, rfl, hv0⟩, trivial⟩) fun a hI => ?_
  refine seq_text (V1 := [⟨1, 1, some 0, none, .ptr, 30, 6, true, pPair a1 a2, []⟩, ⟨2, 2, some 1, none, .ptr, 28, 3, true, pRat 0, []⟩]) (A1 := []) (G1 := [⟨none, none, 0, pPair a1 a2⟩]) (V2 := [⟨1, 1, none, none, .ptr, 30, 6, true, pPair a1 a2, []⟩, ⟨2, 2, none, none, .ptr, 28, 3, true, pRat 0, []⟩]) (G2 := []) hI rfl rfl rfl [0, 1] (by kernel_rfl) (by kernel_rfl) ?_ [0, 1] [] rfl rfl fun a w hI => ?_
  · exact ⟨op_box 0 rfl rfl (by kernel_rfl) (by kernel_rfl) rfl rfl rfl (.tmp 0 rfl rfl) (fits_pair _ _) rfl,
      op_alloc 1 rfl rfl (by kernel_rfl) (by kernel_rfl) rfl rfl rfl zv_Ratio rfl rfl (by simp [NoU]) (fun w => isRat_zero w),
      trivial⟩
  refine seq_text (V1 := [⟨1, 1, none, none, .ptr, 30, 6, true, pPair a1 a2, []⟩, ⟨2, 2, none, none, .ptr, 28, 3, true, pRat 0, [(2, pRat a2)]⟩]) (A1 := [⟨some 0, 3, 1, 3, True⟩]) (G1 := [⟨some 1, none, 4, pRat a2⟩]) (V2 := [⟨1, 1, none, none, .ptr, 30, 6, true, pPair a1 a2, []⟩, ⟨2, 2, none, none, .ptr, 28, 3, true, pRat a2, []⟩]) (G2 := []) hI rfl rfl rfl [0, 1, 3] (by kernel_rfl) (by kernel_rfl) ?_ [0, 1] [] rfl rfl fun a w hI => ?_
  · exact ⟨op_field 0 rfl rfl rfl 0 rfl rfl rfl rfl (.inl ⟨rfl, rfl⟩) rfl (by kernel_rfl) (fun b w => fa_Range_1 b 0 w),
      op_loadAl 0 rfl 0 rfl rfl rfl rfl rfl trivial rfl rfl (by kernel_rfl) ty_Ratio rfl rfl (fd_get (fs := [⟨true, 3, pRat a1⟩, ⟨true, 3, pRat a2⟩]) 1 (f := ⟨true, 3, pRat a2⟩) rfl (off := 3) rfl) (.here 0 rfl),
      op_store 1 rfl rfl rfl rfl 0 rfl (by kernel_rfl) (by kernel_rfl) ty_Ratio (.tmp 0 rfl rfl) (fits_rat _),
      trivial⟩
  refine wp_ret ?_
  exact fin1 hI rfl (.cell 1 rfl rfl rfl rfl ty_Ratio rfl)
set_option maxRecDepth 100000 in
theorem cr_width {a1 a2 : Rat} {j : Nat} (ha : BdR j a1 ∧ BdR j a2) (hj : j + j + j + j + 1 ≤ 100000000)  : ∀ (M : Nat → Nat → Prop) (w : World) (v0 : Value), Mid M w → Box M (fun w => (pPair a1 a2) w v0) w → Calls Tryz.prog 14 #[v0] w (RetB M (pRat (a2 - a1)) w) := by
  intro M w0 v0 hM hv0
  refine calls_start (N := 8) Tryz.func14 rfl rfl rfl hM (show EntsA M w0 [v0] [⟨none, none, 0, pPair a1 a2⟩] from ⟨⟨rfl, _, rfl, hv0⟩, trivial⟩) fun a hI => ?_
  refine seq_text (V1 := [⟨1, 1, some 0, none, .ptr, 30, 6, true, pPair a1 a2, []⟩, ⟨2, 2, some 1, none, .ptr, 28, 3, true, pRat 0, []⟩]) (A1 := []) (G1 := [⟨none, none, 0, pPair a1 a2⟩]) (V2 := [⟨1, 1, none, none, .ptr, 30, 6, true, pPair a1 a2, []⟩, ⟨2, 2, none, none, .ptr, 28, 3, true, pRat 0, []⟩]) (G2 := []) hI rfl rfl rfl [0, 1] (by kernel_rfl) (by kernel_rfl) ?_ [0, 1] [] rfl rfl fun a w hI => ?_
  · exact ⟨op_box 0 rfl rfl (by kernel_rfl) (by kernel_rfl) rfl rfl rfl (.tmp 0 rfl rfl) (fits_pair _ _) rfl,
      op_alloc 1 rfl rfl (by kernel_rfl) (by kernel_rfl) rfl rfl rfl zv_Ratio rfl rfl (by simp [NoU]) (fun w => isRat_zero w),
      trivial⟩
  refine seq_text (V1 := [⟨1, 1, none, none, .ptr, 30, 6, true, pPair a1 a2, []⟩, ⟨2, 2, none, none, .ptr, 28, 3, true, pRat 0, [(5, pRat (a2 - a1))]⟩]) (A1 := [⟨some 0, 3, 1, 3, True⟩, ⟨some 2, 5, 1, 0, True⟩]) (G1 := [⟨some 1, none, 4, pRat a2⟩, ⟨some 3, none, 6, pRat a1⟩, ⟨some 4, none, 7, pRat (a2 - a1)⟩]) (V2 := [⟨1, 1, none, none, .ptr, 30, 6, true, pPair a1 a2, []⟩, ⟨2, 2, none, none, .ptr, 28, 3, true, pRat (a2 - a1), []⟩]) (G2 := []) hI rfl rfl rfl [0, 1, 3, 7, 15, 31] (by kernel_rfl) (by kernel_rfl) ?_ [0, 1] [] rfl rfl fun a w hI => ?_
  · exact ⟨op_field 0 rfl rfl rfl 0 rfl rfl rfl rfl (.inl ⟨rfl, rfl⟩) rfl (by kernel_rfl) (fun b w => fa_Range_1 b 0 w),
      op_loadAl 0 rfl 0 rfl rfl rfl rfl rfl trivial rfl rfl (by kernel_rfl) ty_Ratio rfl rfl (fd_get (fs := [⟨true, 3, pRat a1⟩, ⟨true, 3, pRat a2⟩]) 1 (f := ⟨true, 3, pRat a2⟩) rfl (off := 3) rfl) (.here 0 rfl),
      op_field 0 rfl rfl rfl 1 rfl rfl rfl rfl (.inl ⟨rfl, rfl⟩) rfl (by kernel_rfl) (fun b w => fa_Range_0 b 0 w),
      op_loadAl 0 rfl 1 rfl rfl rfl rfl rfl trivial rfl rfl (by kernel_rfl) ty_Ratio rfl rfl (fd_get (fs := [⟨true, 3, pRat a1⟩, ⟨true, 3, pRat a2⟩]) 0 (f := ⟨true, 3, pRat a1⟩) rfl (off := 0) rfl) (.here 1 rfl),
      op_call2 (fun _ _ => by kernel_rfl) (numlike_rat _) (.tmp 0 rfl rfl) (.tmp 1 rfl rfl) (.here 2 rfl) (c_sub ha.2 ha.1 (by omega)),
      op_store 1 rfl rfl rfl rfl 0 rfl (by kernel_rfl) (by kernel_rfl) ty_Ratio (.tmp 2 rfl rfl) (fits_rat _),
      trivial⟩
  refine wp_ret ?_
  exact fin1 hI rfl (.cell 1 rfl rfl rfl rfl ty_Ratio rfl)
set_option maxRecDepth 100000 in
theorem cr_add {a1 a2 b1 b2 : Rat} {j k : Nat} (ha : BdR j a1 ∧ BdR j a2) (hb : BdR k b1 ∧ BdR k b2) (hj : j + k + j + k + 1 ≤ 100000000)  : ∀ (M : Nat → Nat → Prop) (w : World) (v0 v1 : Value), Mid M w → Box M (fun w => (pPair a1 a2) w v0) w → Box M (fun w => (pPair b1 b2) w v1) w → Calls Tryz.prog 18 #[v0, v1] w (RetB M (pPair (a1 + b1) (a2 + b2)) w) := by
  intro M w0 v0 v1 hM hv0 hv1
  refine calls_start (N := 16) Tryz.func18 rfl rfl rfl hM (show EntsA M w0 [v0, v1] [⟨none, none, 0, pPair a1 a2⟩, ⟨none, none, 1, pPair b1 b2⟩] from ⟨⟨rfl, _, rfl, hv0⟩, ⟨rfl, _, rfl, hv1⟩, trivial⟩) fun a hI => ?_
  refine seq_text (V1 := [⟨2, 2, some 0, none, .ptr, 30, 6, true, pPair a1 a2, []⟩, ⟨3, 3, some 1, none, .ptr, 30, 6, true, pPair b1 b2, []⟩, ⟨4, 4, some 2, none, .ptr, 30, 6, true, pPair 0 0, []⟩]) (A1 := []) (G1 := [⟨none, none, 0, pPair a1 a2⟩, ⟨none, none, 1, pPair b1 b2⟩]) (V2 := [⟨2, 2, none, none, .ptr, 30, 6, true, pPair a1 a2, []⟩, ⟨3, 3, none, none, .ptr, 30, 6, true, pPair b1 b2, []⟩, ⟨4, 4, none, none, .ptr, 30, 6, true, pPair 0 0, []⟩]) (G2 := []) hI rfl rfl rfl [0, 1, 3] (by kernel_rfl) (by kernel_rfl) ?_ [0, 1, 2] [] rfl rfl fun a w hI => ?_
  · exact ⟨op_box 0 rfl rfl (by kernel_rfl) (by kernel_rfl) rfl rfl rfl (.tmp 0 rfl rfl) (fits_pair _ _) rfl,
      op_box 1 rfl rfl (by kernel_rfl) (by kernel_rfl) rfl rfl rfl (.tmp 1 rfl rfl) (fits_pair _ _) rfl,
      op_alloc 2 rfl rfl (by kernel_rfl) (by kernel_rfl) rfl rfl rfl zv_Range rfl rfl (by simp [NoU]) (fun w => pS_of (cells_pair0 w)),
      trivial⟩
  refine seq_drawn (V1 := [⟨2, 2, none, none, .ptr, 30, 6, true, pPair a1 a2, []⟩, ⟨3, 3, none, none, .ptr, 30, 6, true, pPair b1 b2, []⟩, ⟨4, 4, none, none, .ptr, 30, 6, true, pPair 0 0, [(11, pPair (a1 + b1) (a2 + b2))]⟩]) (A1 := [⟨some 0, 5, 2, 0, True⟩, ⟨some 2, 7, 3, 0, True⟩, ⟨some 5, 10, 2, 3, True⟩, ⟨some 7, 12, 3, 3, True⟩]) (G1 := [⟨some 1, none, 6, pRat a1⟩, ⟨some 3, none, 8, pRat b1⟩, ⟨some 4, none, 9, pRat (a1 + b1)⟩, ⟨some 6, none, 11, pRat a2⟩, ⟨some 8, none, 13, pRat b2⟩, ⟨some 9, none, 14, pRat (a2 + b2)⟩, ⟨some 10, none, 15, pPair (a1 + b1) (a2 + b2)⟩]) (V2 := [⟨2, 2, none, none, .ptr, 30, 6, true, pPair a1 a2, []⟩, ⟨3, 3, none, none, .ptr, 30, 6, true, pPair b1 b2, []⟩, ⟨4, 4, none, none, .ptr, 30, 6, true, pPair (a1 + b1) (a2 + b2), []⟩]) (G2 := []) hI rfl rfl rfl [0, 1, 0, 4, 15, 0, 32, 0, 128, 511, 1023, 2047] (by kernel_rfl) (by kernel_rfl) (by kernel_rfl) (by kernel_rfl) ?_ [0, 1, 2] [] rfl rfl fun a w hI => ?_
  · exact ⟨op_field 0 rfl rfl rfl 0 rfl rfl rfl rfl (.inl ⟨rfl, rfl⟩) rfl (by kernel_rfl) (fun b w => fa_Range_0 b 0 w),
      op_loadAl 0 rfl 0 rfl rfl rfl rfl rfl trivial rfl rfl (by kernel_rfl) ty_Ratio rfl rfl (fd_get (fs := [⟨true, 3, pRat a1⟩, ⟨true, 3, pRat a2⟩]) 0 (f := ⟨true, 3, pRat a1⟩) rfl (off := 0) rfl) (.here 0 rfl),
      op_field 1 rfl rfl rfl 1 rfl rfl rfl rfl (.inl ⟨rfl, rfl⟩) rfl (by kernel_rfl) (fun b w => fa_Range_0 b 0 w),
      op_loadAl 1 rfl 1 rfl rfl rfl rfl rfl trivial rfl rfl (by kernel_rfl) ty_Ratio rfl rfl (fd_get (fs := [⟨true, 3, pRat b1⟩, ⟨true, 3, pRat b2⟩]) 0 (f := ⟨true, 3, pRat b1⟩) rfl (off := 0) rfl) (.here 1 rfl),
      op_call2 (fun _ _ => by kernel_rfl) (numlike_rat _) (.tmp 0 rfl rfl) (.tmp 1 rfl rfl) (.here 2 rfl) (c_add ha.1 hb.1 (by omega)),
      op_field 0 rfl rfl rfl 2 rfl rfl rfl rfl (.inl ⟨rfl, rfl⟩) rfl (by kernel_rfl) (fun b w => fa_Range_1 b 0 w),
      op_loadAl 0 rfl 2 rfl rfl rfl rfl rfl trivial rfl rfl (by kernel_rfl) ty_Ratio rfl rfl (fd_get (fs := [⟨true, 3, pRat a1⟩, ⟨true, 3, pRat a2⟩]) 1 (f := ⟨true, 3, pRat a2⟩) rfl (off := 3) rfl) (.here 3 rfl),
      op_field 1 rfl rfl rfl 3 rfl rfl rfl rfl (.inl ⟨rfl, rfl⟩) rfl (by kernel_rfl) (fun b w => fa_Range_1 b 0 w),
      op_loadAl 1 rfl 3 rfl rfl rfl rfl rfl trivial rfl rfl (by kernel_rfl) ty_Ratio rfl rfl (fd_get (fs := [⟨true, 3, pRat b1⟩, ⟨true, 3, pRat b2⟩]) 1 (f := ⟨true, 3, pRat b2⟩) rfl (off := 3) rfl) (.here 4 rfl),
      op_call2 (fun _ _ => by kernel_rfl) (numlike_rat _) (.tmp 3 rfl rfl) (.tmp 4 rfl rfl) (.here 5 rfl) (c_add ha.2 hb.2 (by omega)),
      op_build (fs := [⟨true, 3, pRat 0⟩, ⟨true, 3, pRat 0⟩]) (ps := [(0, pRat (a1 + b1)), (1, pRat (a2 + b2))]) bt_Range (places_ok (by kernel_rfl)) (cells_pair0) (show HasParts _ _ _ _ _ _ from ⟨⟨rfl, (.tmp 2 rfl rfl), _, rfl, fits_rat _⟩, ⟨rfl, (.tmp 5 rfl rfl), _, rfl, fits_rat _⟩, trivial⟩) rfl (.here 6 rfl),
      op_store 2 rfl rfl rfl rfl 0 rfl (by kernel_rfl) (by kernel_rfl) ty_Range (.tmp 6 rfl rfl) (fits_pair _ _),
      trivial⟩
  refine wp_ret ?_
  exact fin1 hI rfl (.cell 2 rfl rfl rfl rfl ty_Range rfl)
set_option maxRecDepth 100000 in
theorem cr_neg (a1 a2 : Rat) : ∀ (M : Nat → Nat → Prop) (w : World) (v0 : Value), Mid M w → Box M (fun w => (pPair a1 a2) w v0) w → Calls Tryz.prog 24 #[v0] w (RetB M (pPair (-a2) (-a1)) w) := by
  intro M w0 v0 hM hv0
  refine calls_start (N := 10) Tryz.func24 rfl rfl rfl hM (show EntsA M w0 [v0] [⟨none, none, 0, pPair a1 a2⟩] from ⟨⟨rfl, _, rfl, hv0⟩, trivial⟩) fun a hI => ?_
  refine seq_text (V1 := [⟨1, 1, some 0, none, .ptr, 30, 6, true, pPair a1 a2, []⟩, ⟨2, 2, some 1, none, .ptr, 30, 6, true, pPair 0 0, []⟩]) (A1 := []) (G1 := [⟨none, none, 0, pPair a1 a2⟩]) (V2 := [⟨1, 1, none, none, .ptr, 30, 6, true, pPair a1 a2, []⟩, ⟨2, 2, none, none, .ptr, 30, 6, true, pPair 0 0, []⟩]) (G2 := []) hI rfl rfl rfl [0, 1] (by kernel_rfl) (by kernel_rfl) ?_ [0, 1] [] rfl rfl fun a w hI => ?_
  · exact ⟨op_box 0 rfl rfl (by kernel_rfl) (by kernel_rfl) rfl rfl rfl (.tmp 0 rfl rfl) (fits_pair _ _) rfl,
      op_alloc 1 rfl rfl (by kernel_rfl) (by kernel_rfl) rfl rfl rfl zv_Range rfl rfl (by simp [NoU]) (fun w => pS_of (cells_pair0 w)),
      trivial⟩
  refine seq_drawn (V1 := [⟨1, 1, none, none, .ptr, 30, 6, true, pPair a1 a2, []⟩, ⟨2, 2, none, none, .ptr, 30, 6, true, pPair 0 0, [(7, pPair (-a2) (-a1))]⟩]) (A1 := [⟨some 0, 3, 1, 3, True⟩, ⟨some 3, 6, 1, 0, True⟩]) (G1 := [⟨some 1, none, 4, pRat a2⟩, ⟨some 2, none, 5, pRat (-a2)⟩, ⟨some 4, none, 7, pRat a1⟩, ⟨some 5, none, 8, pRat (-a1)⟩, ⟨some 6, none, 9, pPair (-a2) (-a1)⟩]) (V2 := [⟨1, 1, none, none, .ptr, 30, 6, true, pPair a1 a2, []⟩, ⟨2, 2, none, none, .ptr, 30, 6, true, pPair (-a2) (-a1), []⟩]) (G2 := []) hI rfl rfl rfl [0, 1, 3, 0, 8, 31, 63, 127] (by kernel_rfl) (by kernel_rfl) (by kernel_rfl) (by kernel_rfl) ?_ [0, 1] [] rfl rfl fun a w hI => ?_
  · exact ⟨op_field 0 rfl rfl rfl 0 rfl rfl rfl rfl (.inl ⟨rfl, rfl⟩) rfl (by kernel_rfl) (fun b w => fa_Range_1 b 0 w),
      op_loadAl 0 rfl 0 rfl rfl rfl rfl rfl trivial rfl rfl (by kernel_rfl) ty_Ratio rfl rfl (fd_get (fs := [⟨true, 3, pRat a1⟩, ⟨true, 3, pRat a2⟩]) 1 (f := ⟨true, 3, pRat a2⟩) rfl (off := 3) rfl) (.here 0 rfl),
      op_call1 (fun _ _ => by kernel_rfl) (numlike_rat _) (.tmp 0 rfl rfl) (.here 1 rfl) (c_neg _),
      op_field 0 rfl rfl rfl 1 rfl rfl rfl rfl (.inl ⟨rfl, rfl⟩) rfl (by kernel_rfl) (fun b w => fa_Range_0 b 0 w),
      op_loadAl 0 rfl 1 rfl rfl rfl rfl rfl trivial rfl rfl (by kernel_rfl) ty_Ratio rfl rfl (fd_get (fs := [⟨true, 3, pRat a1⟩, ⟨true, 3, pRat a2⟩]) 0 (f := ⟨true, 3, pRat a1⟩) rfl (off := 0) rfl) (.here 2 rfl),
      op_call1 (fun _ _ => by kernel_rfl) (numlike_rat _) (.tmp 2 rfl rfl) (.here 3 rfl) (c_neg _),
      op_build (fs := [⟨true, 3, pRat 0⟩, ⟨true, 3, pRat 0⟩]) (ps := [(0, pRat (-a2)), (1, pRat (-a1))]) bt_Range (places_ok (by kernel_rfl)) (cells_pair0) (show HasParts _ _ _ _ _ _ from ⟨⟨rfl, (.tmp 1 rfl rfl), _, rfl, fits_rat _⟩, ⟨rfl, (.tmp 3 rfl rfl), _, rfl, fits_rat _⟩, trivial⟩) rfl (.here 4 rfl),
      op_store 1 rfl rfl rfl rfl 0 rfl (by kernel_rfl) (by kernel_rfl) ty_Range (.tmp 4 rfl rfl) (fits_pair _ _),
      trivial⟩
  refine wp_ret ?_
  exact fin1 hI rfl (.cell 1 rfl rfl rfl rfl ty_Range rfl)
set_option maxRecDepth 100000 in
theorem cr_less {a1 a2 b1 b2 : Rat} {j k : Nat} (ha : BdR j a1 ∧ BdR j a2) (hb : BdR k b1 ∧ BdR k b2) (hj : j + k + j + k + 1 ≤ 100000000)  : ∀ (M : Nat → Nat → Prop) (w : World) (v0 v1 : Value), Mid M w → Box M (fun w => (pPair a1 a2) w v0) w → Box M (fun w => (pPair b1 b2) w v1) w → Calls Tryz.prog 79 #[v0, v1] w (RetB M (pPair (a1 - b2) (a2 - b1)) w) := by
  intro M w0 v0 v1 hM hv0 hv1
  refine calls_start (N := 11) Tryz.func79 rfl rfl rfl hM (show EntsA M w0 [v0, v1] [⟨none, none, 0, pPair a1 a2⟩, ⟨none, none, 1, pPair b1 b2⟩] from ⟨⟨rfl, _, rfl, hv0⟩, ⟨rfl, _, rfl, hv1⟩, trivial⟩) fun a hI => ?_
  refine seq_text (V1 := [⟨2, 2, some 0, none, .ptr, 30, 6, true, pPair a1 a2, []⟩, ⟨3, 3, some 1, none, .ptr, 30, 6, true, pPair b1 b2, []⟩, ⟨4, 4, some 2, none, .ptr, 30, 6, true, pPair 0 0, []⟩]) (A1 := []) (G1 := [⟨none, none, 0, pPair a1 a2⟩, ⟨none, none, 1, pPair b1 b2⟩]) (V2 := [⟨2, 2, none, none, .ptr, 30, 6, true, pPair a1 a2, []⟩, ⟨3, 3, none, none, .ptr, 30, 6, true, pPair b1 b2, []⟩, ⟨4, 4, none, none, .ptr, 30, 6, true, pPair 0 0, []⟩]) (G2 := []) hI rfl rfl rfl [0, 1, 3] (by kernel_rfl) (by kernel_rfl) ?_ [0, 1, 2] [] rfl rfl fun a w hI => ?_
  · exact ⟨op_box 0 rfl rfl (by kernel_rfl) (by kernel_rfl) rfl rfl rfl (.tmp 0 rfl rfl) (fits_pair _ _) rfl,
      op_box 1 rfl rfl (by kernel_rfl) (by kernel_rfl) rfl rfl rfl (.tmp 1 rfl rfl) (fits_pair _ _) rfl,
      op_alloc 2 rfl rfl (by kernel_rfl) (by kernel_rfl) rfl rfl rfl zv_Range rfl rfl (by simp [NoU]) (fun w => pS_of (cells_pair0 w)),
      trivial⟩
  refine seq_drawn (V1 := [⟨2, 2, none, none, .ptr, 30, 6, true, pPair a1 a2, []⟩, ⟨3, 3, none, none, .ptr, 30, 6, true, pPair b1 b2, []⟩, ⟨4, 4, none, none, .ptr, 30, 6, true, pPair 0 0, [(6, pPair (a1 + (-b2)) (a2 + (-b1)))]⟩]) (A1 := []) (G1 := [⟨some 0, none, 5, pPair a1 a2⟩, ⟨some 1, none, 6, pIface 30 (pPair a1 a2)⟩, ⟨some 2, none, 7, pPair b1 b2⟩, ⟨some 3, none, 8, pIface 30 (pPair b1 b2)⟩, ⟨some 4, none, 9, pPair (-b2) (-b1)⟩, ⟨some 5, none, 10, pPair (a1 + (-b2)) (a2 + (-b1))⟩]) (V2 := [⟨2, 2, none, none, .ptr, 30, 6, true, pPair a1 a2, []⟩, ⟨3, 3, none, none, .ptr, 30, 6, true, pPair b1 b2, []⟩, ⟨4, 4, none, none, .ptr, 30, 6, true, pPair (a1 + (-b2)) (a2 + (-b1)), []⟩]) (G2 := []) hI rfl rfl rfl [0, 1, 0, 4, 12, 31, 63] (by kernel_rfl) (by kernel_rfl) (by kernel_rfl) (by kernel_rfl) ?_ [0, 1, 2] [] rfl rfl fun a w hI => ?_
  · exact ⟨op_load 0 rfl rfl rfl rfl (by kernel_rfl) ty_Range rfl (.here 0 rfl),
      op_iface (.tmp 0 rfl rfl) (fun _ _ => by kernel_rfl) (.here 1 rfl),
      op_load 1 rfl rfl rfl rfl (by kernel_rfl) ty_Range rfl (.here 2 rfl),
      op_iface (.tmp 2 rfl rfl) (fun _ _ => by kernel_rfl) (.here 3 rfl),
      op_invoke0 (fun _ _ _ => by kernel_rfl) (.tmp 3 rfl rfl) (.here 4 rfl) (cr_neg _ _),
      op_invoke1 (fun _ _ _ => by kernel_rfl) (.tmp 1 rfl rfl) (.tmp 4 rfl rfl) (.here 5 rfl) (cr_add (j := j) (k := k) ⟨ha.1, ha.2⟩ ⟨(hb.2).neg, (hb.1).neg⟩ (by omega)),
      op_store 2 rfl rfl rfl rfl 0 rfl (by kernel_rfl) (by kernel_rfl) ty_Range (.tmp 5 rfl rfl) (fits_pair _ _),
      trivial⟩
  refine wp_ret ?_
  exact fin1 hI rfl (.imp (.cell 2 rfl rfl rfl rfl ty_Range rfl) (by rw [Rat.sub_eq_add_neg, Rat.sub_eq_add_neg]; exact fun _ _ h => h))
set_option maxRecDepth 100000 in
theorem cr_sub {a1 a2 b1 b2 : Rat} {j k : Nat} (ha : BdR j a1 ∧ BdR j a2) (hb : BdR k b1 ∧ BdR k b2) (hj : j + k + j + k + 1 ≤ 100000000)  : ∀ (M : Nat → Nat → Prop) (w : World) (v0 v1 : Value), Mid M w → Box M (fun w => (pPair a1 a2) w v0) w → Box M (fun w => (pPair b1 b2) w v1) w → Calls Tryz.prog 20 #[v0, v1] w (RetB M (pPair (a1 - b2) (a2 - b1)) w) := by
  intro M w0 v0 v1 hM hv0 hv1
  refine calls_start (N := 8) Tryz.func20 rfl rfl rfl hM (show EntsA M w0 [v0, v1] [⟨none, none, 0, pPair a1 a2⟩, ⟨none, none, 1, pPair b1 b2⟩] from ⟨⟨rfl, _, rfl, hv0⟩, ⟨rfl, _, rfl, hv1⟩, trivial⟩) fun a hI => ?_
  refine seq_text (V1 := [⟨2, 2, some 0, none, .ptr, 30, 6, true, pPair a1 a2, []⟩, ⟨3, 3, some 1, none, .ptr, 30, 6, true, pPair b1 b2, []⟩, ⟨4, 4, some 2, none, .ptr, 30, 6, true, pPair 0 0, []⟩]) (A1 := []) (G1 := [⟨none, none, 0, pPair a1 a2⟩, ⟨none, none, 1, pPair b1 b2⟩]) (V2 := [⟨2, 2, none, none, .ptr, 30, 6, true, pPair a1 a2, []⟩, ⟨3, 3, none, none, .ptr, 30, 6, true, pPair b1 b2, []⟩, ⟨4, 4, none, none, .ptr, 30, 6, true, pPair 0 0, []⟩]) (G2 := []) hI rfl rfl rfl [0, 1, 3] (by kernel_rfl) (by kernel_rfl) ?_ [0, 1, 2] [] rfl rfl fun a w hI => ?_
  · exact ⟨op_box 0 rfl rfl (by kernel_rfl) (by kernel_rfl) rfl rfl rfl (.tmp 0 rfl rfl) (fits_pair _ _) rfl,
      op_box 1 rfl rfl (by kernel_rfl) (by kernel_rfl) rfl rfl rfl (.tmp 1 rfl rfl) (fits_pair _ _) rfl,
      op_alloc 2 rfl rfl (by kernel_rfl) (by kernel_rfl) rfl rfl rfl zv_Range rfl rfl (by simp [NoU]) (fun w => pS_of (cells_pair0 w)),
      trivial⟩
  refine seq_text (V1 := [⟨2, 2, none, none, .ptr, 30, 6, true, pPair a1 a2, []⟩, ⟨3, 3, none, none, .ptr, 30, 6, true, pPair b1 b2, []⟩, ⟨4, 4, none, none, .ptr, 30, 6, true, pPair 0 0, [(3, pPair (a1 - b2) (a2 - b1))]⟩]) (A1 := []) (G1 := [⟨some 0, none, 5, pPair a1 a2⟩, ⟨some 1, none, 6, pPair b1 b2⟩, ⟨some 2, none, 7, pPair (a1 - b2) (a2 - b1)⟩]) (V2 := [⟨2, 2, none, none, .ptr, 30, 6, true, pPair a1 a2, []⟩, ⟨3, 3, none, none, .ptr, 30, 6, true, pPair b1 b2, []⟩, ⟨4, 4, none, none, .ptr, 30, 6, true, pPair (a1 - b2) (a2 - b1), []⟩]) (G2 := []) hI rfl rfl rfl [0, 1, 3, 7] (by kernel_rfl) (by kernel_rfl) ?_ [0, 1, 2] [] rfl rfl fun a w hI => ?_
  · exact ⟨op_load 0 rfl rfl rfl rfl (by kernel_rfl) ty_Range rfl (.here 0 rfl),
      op_load 1 rfl rfl rfl rfl (by kernel_rfl) ty_Range rfl (.here 1 rfl),
      op_callB2 (fun _ _ => by kernel_rfl) (.tmp 0 rfl rfl) (.tmp 1 rfl rfl) (.here 2 rfl) (cr_less (j := j) (k := k) ⟨ha.1, ha.2⟩ ⟨hb.1, hb.2⟩ (by omega)),
      op_store 2 rfl rfl rfl rfl 0 rfl (by kernel_rfl) (by kernel_rfl) ty_Range (.tmp 2 rfl rfl) (fits_pair _ _),
      trivial⟩
  refine wp_ret ?_
  exact fin1 hI rfl (.cell 2 rfl rfl rfl rfl ty_Range rfl)
set_option maxRecDepth 100000 in
theorem cr_has {a1 a2 y : Rat} {j k : Nat} (ha : BdR j a1 ∧ BdR j a2) (hy : BdR k y) (hj : j + k ≤ 100000000)  : ∀ (M : Nat → Nat → Prop) (w : World) (v0 v1 : Value), Mid M w → Box M (fun w => (pPair a1 a2) w v0) w → Box M (fun w => (pRat y) w v1) w → Calls Tryz.prog 38 #[v0, v1] w (RetB M (pB (decide (a1 ≤ y) && decide (y ≤ a2))) w) := by
  intro M w0 v0 v1 hM hv0 hv1
  refine calls_start (N := 17) Tryz.func38 rfl rfl rfl hM (show EntsA M w0 [v0, v1] [⟨none, none, 0, pPair a1 a2⟩, ⟨none, none, 1, pRat y⟩] from ⟨⟨rfl, _, rfl, hv0⟩, ⟨rfl, _, rfl, hv1⟩, trivial⟩) fun a hI => ?_
  refine seq_text (V1 := [⟨2, 2, some 0, none, .ptr, 30, 6, true, pPair a1 a2, []⟩, ⟨3, 3, some 1, none, .ptr, 28, 3, true, pRat y, []⟩]) (A1 := []) (G1 := [⟨none, none, 0, pPair a1 a2⟩, ⟨none, none, 1, pRat y⟩, ⟨some 2, none, 4, pB false⟩]) (V2 := [⟨2, 2, none, none, .ptr, 30, 6, true, pPair a1 a2, []⟩, ⟨3, 3, none, none, .ptr, 28, 3, true, pRat y, []⟩]) (G2 := [⟨none, none, 4, pB false⟩]) hI rfl rfl rfl [0, 1, 3] (by kernel_rfl) (by kernel_rfl) ?_ [0, 1] [2] rfl rfl fun a w hI => ?_
  · exact ⟨op_box 0 rfl rfl (by kernel_rfl) (by kernel_rfl) rfl rfl rfl (.tmp 0 rfl rfl) (fits_pair _ _) rfl,
      op_box 1 rfl rfl (by kernel_rfl) (by kernel_rfl) rfl rfl rfl (.tmp 1 rfl rfl) (fits_rat _) rfl,
      op_assign (.const _) (.here 2 rfl),
      trivial⟩
  refine seq_text (V1 := [⟨2, 2, none, none, .ptr, 30, 6, true, pPair a1 a2, []⟩, ⟨3, 3, none, none, .ptr, 28, 3, true, pRat y, []⟩]) (A1 := [⟨some 0, 5, 2, 0, True⟩, ⟨some 7, 12, 2, 3, (decide ((cmpT a1 y) ≤ (0 : Int))) = true⟩]) (G1 := [⟨none, some 12, 4, pB false⟩, ⟨some 1, none, 6, pRat a1⟩, ⟨some 2, none, 7, pRat y⟩, ⟨some 3, none, 8, pI (cmpT a1 y)⟩, ⟨some 4, none, 9, pB (decide ((cmpT a1 y) ≤ (0 : Int)))⟩, ⟨some 5, none, 10, pB (decide ((cmpT a1 y) ≤ (0 : Int)))⟩, ⟨some 6, none, 11, pSel ((decide ((cmpT a1 y) ≤ (0 : Int))) = true) (pRat y)⟩, ⟨some 8, none, 13, pSel ((decide ((cmpT a1 y) ≤ (0 : Int))) = true) (pRat a2)⟩, ⟨some 9, none, 14, pSel ((decide ((cmpT a1 y) ≤ (0 : Int))) = true) (pI (cmpT y a2))⟩, ⟨some 10, none, 15, pSel ((decide ((cmpT a1 y) ≤ (0 : Int))) = true) (pB (decide ((cmpT y a2) ≤ (0 : Int))))⟩, ⟨some 11, none, 16, pB ((decide ((cmpT a1 y) ≤ (0 : Int))) && (decide ((cmpT y a2) ≤ (0 : Int))))⟩, ⟨some 12, none, 4, pB ((decide ((cmpT a1 y) ≤ (0 : Int))) && (decide ((cmpT y a2) ≤ (0 : Int))))⟩]) (V2 := [⟨2, 2, none, none, .ptr, 30, 6, true, pPair a1 a2, []⟩, ⟨3, 3, none, none, .ptr, 28, 3, true, pRat y, []⟩]) (G2 := [⟨none, none, 4, pB ((decide ((cmpT a1 y) ≤ (0 : Int))) && (decide ((cmpT y a2) ≤ (0 : Int))))⟩]) hI rfl rfl rfl [0, 1, 3, 7, 15, 31, 63, 127, 255, 511, 1023, 2047, 4095] (by kernel_rfl) (by kernel_rfl) ?_ [0, 1] [10] rfl rfl fun a w hI => ?_
  · exact ⟨op_field 0 rfl rfl rfl 0 rfl rfl rfl rfl (.inl ⟨rfl, rfl⟩) rfl (by kernel_rfl) (fun b w => fa_Range_0 b 0 w),
      op_loadAl 0 rfl 0 rfl rfl rfl rfl rfl trivial rfl rfl (by kernel_rfl) ty_Ratio rfl rfl (fd_get (fs := [⟨true, 3, pRat a1⟩, ⟨true, 3, pRat a2⟩]) 0 (f := ⟨true, 3, pRat a1⟩) rfl (off := 0) rfl) (.here 1 rfl),
      op_load 1 rfl rfl rfl rfl (by kernel_rfl) ty_Ratio rfl (.here 2 rfl),
      op_call2 (fun _ _ => by kernel_rfl) (numlike_eq _) (.tmp 1 rfl rfl) (.tmp 2 rfl rfl) (.here 3 rfl) (c_cmp ha.1 hy (by omega)),
      op_bin (v := .bool (decide ((cmpT a1 y) ≤ (0 : Int)))) (.tmp 3 rfl rfl) (.const _) (fun _ => rfl) (.here 4 rfl),
      op_move (.tmp 4 rfl rfl) (.here 5 rfl),
      op_if 5 rfl rfl (fun hc => op_load 1 rfl rfl rfl rfl (by kernel_rfl) ty_Ratio rfl (.sel hc 6 rfl)) (by kernel_rfl) (fun _ => .none (by kernel_rfl)) (fun hc => .sel_no hc 6 rfl),
      op_if 5 rfl rfl (fun hc => op_field 0 rfl rfl rfl 1 rfl rfl rfl rfl (.inl ⟨rfl, rfl⟩) rfl (by kernel_rfl) (fun b w => fa_Range_1 b 0 w)) (by kernel_rfl) (fun hc => .at_ 1 rfl rfl rfl hc) (fun hc => .none (by kernel_rfl)),
      op_if 5 rfl rfl (fun hc => op_loadAl 0 rfl 1 rfl rfl rfl rfl rfl hc rfl rfl (by kernel_rfl) ty_Ratio rfl rfl (fd_get (fs := [⟨true, 3, pRat a1⟩, ⟨true, 3, pRat a2⟩]) 1 (f := ⟨true, 3, pRat a2⟩) rfl (off := 3) rfl) (.sel hc 7 rfl)) (by kernel_rfl) (fun _ => .none (by kernel_rfl)) (fun hc => .sel_no hc 7 rfl),
      op_if 5 rfl rfl (fun hc => op_call2 (fun _ _ => by kernel_rfl) (numlike_eq _) (.sel (.tmp 6 rfl rfl) hc) (.sel (.tmp 7 rfl rfl) hc) (.sel hc 8 rfl) (c_cmp hy ha.2 (by omega))) (by kernel_rfl) (fun _ => .none (by kernel_rfl)) (fun hc => .sel_no hc 8 rfl),
      op_if 5 rfl rfl (fun hc => op_bin (v := .bool (decide ((cmpT y a2) ≤ (0 : Int)))) (.sel (.tmp 8 rfl rfl) hc) (.const _) (fun _ => rfl) (.sel hc 9 rfl)) (by kernel_rfl) (fun _ => .none (by kernel_rfl)) (fun hc => .sel_no hc 9 rfl),
      op_pick (.tmp 5 rfl rfl) (fun h => .imp (.sel (.tmp 9 rfl rfl) (h)) fun _ _ e => by rw [h]; exact e) (fun h => .imp (.const _) fun _ _ e => by rw [h]; exact e) (.here 10 rfl),
      op_assign (.tmp 10 rfl rfl) (.here 11 rfl),
      trivial⟩
  refine wp_ret ?_
  exact fin1 hI rfl (.imp (.tmp 0 rfl) (pB_eq (by rw [dec_le, dec_le])))
set_option maxRecDepth 100000 in
theorem cr_in {a1 a2 b1 b2 : Rat} {j k : Nat} (ha : BdR j a1 ∧ BdR j a2) (hb : BdR k b1 ∧ BdR k b2) (hj : k + j ≤ 100000000)  : ∀ (M : Nat → Nat → Prop) (w : World) (v0 v1 : Value), Mid M w → Box M (fun w => (pPair a1 a2) w v0) w → Box M (fun w => (pPair b1 b2) w v1) w → Calls Tryz.prog 36 #[v0, v1] w (RetB M (pB ((decide (b1 ≤ a1) && decide (a1 ≤ b2)) && (decide (b1 ≤ a2) && decide (a2 ≤ b2)))) w) := by
  intro M w0 v0 v1 hM hv0 hv1
  refine calls_start (N := 15) Tryz.func36 rfl rfl rfl hM (show EntsA M w0 [v0, v1] [⟨none, none, 0, pPair a1 a2⟩, ⟨none, none, 1, pPair b1 b2⟩] from ⟨⟨rfl, _, rfl, hv0⟩, ⟨rfl, _, rfl, hv1⟩, trivial⟩) fun a hI => ?_
  refine seq_text (V1 := [⟨2, 2, some 0, none, .ptr, 30, 6, true, pPair a1 a2, []⟩, ⟨3, 3, some 1, none, .ptr, 30, 6, true, pPair b1 b2, []⟩]) (A1 := []) (G1 := [⟨none, none, 0, pPair a1 a2⟩, ⟨none, none, 1, pPair b1 b2⟩, ⟨some 2, none, 4, pB false⟩]) (V2 := [⟨2, 2, none, none, .ptr, 30, 6, true, pPair a1 a2, []⟩, ⟨3, 3, none, none, .ptr, 30, 6, true, pPair b1 b2, []⟩]) (G2 := [⟨none, none, 4, pB false⟩]) hI rfl rfl rfl [0, 1, 3] (by kernel_rfl) (by kernel_rfl) ?_ [0, 1] [2] rfl rfl fun a w hI => ?_
  · exact ⟨op_box 0 rfl rfl (by kernel_rfl) (by kernel_rfl) rfl rfl rfl (.tmp 0 rfl rfl) (fits_pair _ _) rfl,
      op_box 1 rfl rfl (by kernel_rfl) (by kernel_rfl) rfl rfl rfl (.tmp 1 rfl rfl) (fits_pair _ _) rfl,
      op_assign (.const _) (.here 2 rfl),
      trivial⟩
  refine seq_text (V1 := [⟨2, 2, none, none, .ptr, 30, 6, true, pPair a1 a2, []⟩, ⟨3, 3, none, none, .ptr, 30, 6, true, pPair b1 b2, []⟩]) (A1 := [⟨some 1, 6, 2, 0, True⟩, ⟨some 6, 11, 2, 3, (decide (b1 ≤ a1) && decide (a1 ≤ b2)) = true⟩]) (G1 := [⟨none, some 10, 4, pB false⟩, ⟨some 0, none, 5, pPair b1 b2⟩, ⟨some 2, none, 7, pRat a1⟩, ⟨some 3, none, 8, pB (decide (b1 ≤ a1) && decide (a1 ≤ b2))⟩, ⟨some 4, none, 9, pB (decide (b1 ≤ a1) && decide (a1 ≤ b2))⟩, ⟨some 5, none, 10, pSel ((decide (b1 ≤ a1) && decide (a1 ≤ b2)) = true) (pPair b1 b2)⟩, ⟨some 7, none, 12, pSel ((decide (b1 ≤ a1) && decide (a1 ≤ b2)) = true) (pRat a2)⟩, ⟨some 8, none, 13, pSel ((decide (b1 ≤ a1) && decide (a1 ≤ b2)) = true) (pB (decide (b1 ≤ a2) && decide (a2 ≤ b2)))⟩, ⟨some 9, none, 14, pB ((decide (b1 ≤ a1) && decide (a1 ≤ b2)) && (decide (b1 ≤ a2) && decide (a2 ≤ b2)))⟩, ⟨some 10, none, 4, pB ((decide (b1 ≤ a1) && decide (a1 ≤ b2)) && (decide (b1 ≤ a2) && decide (a2 ≤ b2)))⟩]) (V2 := [⟨2, 2, none, none, .ptr, 30, 6, true, pPair a1 a2, []⟩, ⟨3, 3, none, none, .ptr, 30, 6, true, pPair b1 b2, []⟩]) (G2 := [⟨none, none, 4, pB ((decide (b1 ≤ a1) && decide (a1 ≤ b2)) && (decide (b1 ≤ a2) && decide (a2 ≤ b2)))⟩]) hI rfl rfl rfl [0, 1, 3, 7, 15, 31, 63, 127, 255, 511, 1023] (by kernel_rfl) (by kernel_rfl) ?_ [0, 1] [8] rfl rfl fun a w hI => ?_
  · exact ⟨op_load 1 rfl rfl rfl rfl (by kernel_rfl) ty_Range rfl (.here 1 rfl),
      op_field 0 rfl rfl rfl 0 rfl rfl rfl rfl (.inl ⟨rfl, rfl⟩) rfl (by kernel_rfl) (fun b w => fa_Range_0 b 0 w),
      op_loadAl 0 rfl 0 rfl rfl rfl rfl rfl trivial rfl rfl (by kernel_rfl) ty_Ratio rfl rfl (fd_get (fs := [⟨true, 3, pRat a1⟩, ⟨true, 3, pRat a2⟩]) 0 (f := ⟨true, 3, pRat a1⟩) rfl (off := 0) rfl) (.here 2 rfl),
      op_callB2 (fun _ _ => by kernel_rfl) (.tmp 1 rfl rfl) (.tmp 2 rfl rfl) (.here 3 rfl) (cr_has (j := k) (k := j) ⟨hb.1, hb.2⟩ ha.1 (by omega)),
      op_move (.tmp 3 rfl rfl) (.here 4 rfl),
      op_if 4 rfl rfl (fun hc => op_load 1 rfl rfl rfl rfl (by kernel_rfl) ty_Range rfl (.sel hc 5 rfl)) (by kernel_rfl) (fun _ => .none (by kernel_rfl)) (fun hc => .sel_no hc 5 rfl),
      op_if 4 rfl rfl (fun hc => op_field 0 rfl rfl rfl 1 rfl rfl rfl rfl (.inl ⟨rfl, rfl⟩) rfl (by kernel_rfl) (fun b w => fa_Range_1 b 0 w)) (by kernel_rfl) (fun hc => .at_ 1 rfl rfl rfl hc) (fun hc => .none (by kernel_rfl)),
      op_if 4 rfl rfl (fun hc => op_loadAl 0 rfl 1 rfl rfl rfl rfl rfl hc rfl rfl (by kernel_rfl) ty_Ratio rfl rfl (fd_get (fs := [⟨true, 3, pRat a1⟩, ⟨true, 3, pRat a2⟩]) 1 (f := ⟨true, 3, pRat a2⟩) rfl (off := 3) rfl) (.sel hc 6 rfl)) (by kernel_rfl) (fun _ => .none (by kernel_rfl)) (fun hc => .sel_no hc 6 rfl),
      op_if 4 rfl rfl (fun hc => op_callB2 (fun _ _ => by kernel_rfl) (.sel (.tmp 5 rfl rfl) hc) (.sel (.tmp 6 rfl rfl) hc) (.sel hc 7 rfl) (cr_has (j := k) (k := j) ⟨hb.1, hb.2⟩ ha.2 (by omega))) (by kernel_rfl) (fun _ => .none (by kernel_rfl)) (fun hc => .sel_no hc 7 rfl),
      op_pick (.tmp 4 rfl rfl) (fun h => .imp (.sel (.tmp 7 rfl rfl) (h)) fun _ _ e => by rw [h]; exact e) (fun h => .imp (.const _) fun _ _ e => by rw [h]; exact e) (.here 8 rfl),
      op_assign (.tmp 8 rfl rfl) (.here 9 rfl),
      trivial⟩
  refine wp_ret ?_
  exact fin1 hI rfl (.tmp 0 rfl)
set_option maxRecDepth 100000 in
theorem cr_before {a1 a2 b1 b2 : Rat} {j k : Nat} (ha : BdR j a1 ∧ BdR j a2) (hb : BdR k b1 ∧ BdR k b2) (hj : j + k ≤ 100000000)  : ∀ (M : Nat → Nat → Prop) (w : World) (v0 v1 : Value), Mid M w → Box M (fun w => (pPair a1 a2) w v0) w → Box M (fun w => (pPair b1 b2) w v1) w → Calls Tryz.prog 40 #[v0, v1] w (RetB M (pB (decide (a2 < b1))) w) := by
  intro M w0 v0 v1 hM hv0 hv1
  refine calls_start (N := 11) Tryz.func40 rfl rfl rfl hM (show EntsA M w0 [v0, v1] [⟨none, none, 0, pPair a1 a2⟩, ⟨none, none, 1, pPair b1 b2⟩] from ⟨⟨rfl, _, rfl, hv0⟩, ⟨rfl, _, rfl, hv1⟩, trivial⟩) fun a hI => ?_
  refine seq_text (V1 := [⟨2, 2, some 0, none, .ptr, 30, 6, true, pPair a1 a2, []⟩, ⟨3, 3, some 1, none, .ptr, 30, 6, true, pPair b1 b2, []⟩]) (A1 := []) (G1 := [⟨none, none, 0, pPair a1 a2⟩, ⟨none, none, 1, pPair b1 b2⟩, ⟨some 2, none, 4, pB false⟩]) (V2 := [⟨2, 2, none, none, .ptr, 30, 6, true, pPair a1 a2, []⟩, ⟨3, 3, none, none, .ptr, 30, 6, true, pPair b1 b2, []⟩]) (G2 := [⟨none, none, 4, pB false⟩]) hI rfl rfl rfl [0, 1, 3] (by kernel_rfl) (by kernel_rfl) ?_ [0, 1] [2] rfl rfl fun a w hI => ?_
  · exact ⟨op_box 0 rfl rfl (by kernel_rfl) (by kernel_rfl) rfl rfl rfl (.tmp 0 rfl rfl) (fits_pair _ _) rfl,
      op_box 1 rfl rfl (by kernel_rfl) (by kernel_rfl) rfl rfl rfl (.tmp 1 rfl rfl) (fits_pair _ _) rfl,
      op_assign (.const _) (.here 2 rfl),
      trivial⟩
  refine seq_text (V1 := [⟨2, 2, none, none, .ptr, 30, 6, true, pPair a1 a2, []⟩, ⟨3, 3, none, none, .ptr, 30, 6, true, pPair b1 b2, []⟩]) (A1 := [⟨some 0, 5, 2, 3, True⟩, ⟨some 2, 7, 3, 0, True⟩]) (G1 := [⟨none, some 6, 4, pB false⟩, ⟨some 1, none, 6, pRat a2⟩, ⟨some 3, none, 8, pRat b1⟩, ⟨some 4, none, 9, pI (cmpT a2 b1)⟩, ⟨some 5, none, 10, pB (decide ((cmpT a2 b1) < (0 : Int)))⟩, ⟨some 6, none, 4, pB (decide ((cmpT a2 b1) < (0 : Int)))⟩]) (V2 := [⟨2, 2, none, none, .ptr, 30, 6, true, pPair a1 a2, []⟩, ⟨3, 3, none, none, .ptr, 30, 6, true, pPair b1 b2, []⟩]) (G2 := [⟨none, none, 4, pB (decide ((cmpT a2 b1) < (0 : Int)))⟩]) hI rfl rfl rfl [0, 1, 3, 7, 15, 31, 63] (by kernel_rfl) (by kernel_rfl) ?_ [0, 1] [4] rfl rfl fun a w hI => ?_
  · exact ⟨op_field 0 rfl rfl rfl 0 rfl rfl rfl rfl (.inl ⟨rfl, rfl⟩) rfl (by kernel_rfl) (fun b w => fa_Range_1 b 0 w),
      op_loadAl 0 rfl 0 rfl rfl rfl rfl rfl trivial rfl rfl (by kernel_rfl) ty_Ratio rfl rfl (fd_get (fs := [⟨true, 3, pRat a1⟩, ⟨true, 3, pRat a2⟩]) 1 (f := ⟨true, 3, pRat a2⟩) rfl (off := 3) rfl) (.here 1 rfl),
      op_field 1 rfl rfl rfl 1 rfl rfl rfl rfl (.inl ⟨rfl, rfl⟩) rfl (by kernel_rfl) (fun b w => fa_Range_0 b 0 w),
      op_loadAl 1 rfl 1 rfl rfl rfl rfl rfl trivial rfl rfl (by kernel_rfl) ty_Ratio rfl rfl (fd_get (fs := [⟨true, 3, pRat b1⟩, ⟨true, 3, pRat b2⟩]) 0 (f := ⟨true, 3, pRat b1⟩) rfl (off := 0) rfl) (.here 2 rfl),
      op_call2 (fun _ _ => by kernel_rfl) (numlike_eq _) (.tmp 1 rfl rfl) (.tmp 2 rfl rfl) (.here 3 rfl) (c_cmp ha.2 hb.1 (by omega)),
      op_bin (v := .bool (decide ((cmpT a2 b1) < (0 : Int)))) (.tmp 3 rfl rfl) (.const _) (fun _ => rfl) (.here 4 rfl),
      op_assign (.tmp 4 rfl rfl) (.here 5 rfl),
      trivial⟩
  refine wp_ret ?_
  exact fin1 hI rfl (.imp (.tmp 0 rfl) (pB_eq (dec_lt _ _)))
set_option maxRecDepth 100000 in
theorem cr_mul {a1 a2 b1 b2 : Rat} {j k : Nat} (ha : BdR j a1 ∧ BdR j a2) (hb : BdR k b1 ∧ BdR k b2) (hj : j + k + (j + k) ≤ 100000000)  : ∀ (M : Nat → Nat → Prop) (w : World) (v0 v1 : Value), Mid M w → Box M (fun w => (pPair a1 a2) w v0) w → Box M (fun w => (pPair b1 b2) w v1) w → Calls Tryz.prog 22 #[v0, v1] w (RetB M (pPair (min4 (a1 * b1) (a1 * b2) (a2 * b1) (a2 * b2)) (max4 (a1 * b1) (a1 * b2) (a2 * b1) (a2 * b2))) w) := by
  intro M w0 v0 v1 hM hv0 hv1
  refine calls_start (N := 27) Tryz.func22 rfl rfl rfl hM (show EntsA M w0 [v0, v1] [⟨none, none, 0, pPair a1 a2⟩, ⟨none, none, 1, pPair b1 b2⟩] from ⟨⟨rfl, _, rfl, hv0⟩, ⟨rfl, _, rfl, hv1⟩, trivial⟩) fun a hI => ?_
  refine seq_text (V1 := [⟨2, 2, some 0, none, .ptr, 30, 6, true, pPair a1 a2, []⟩, ⟨3, 3, some 1, none, .ptr, 30, 6, true, pPair b1 b2, []⟩, ⟨4, 4, some 2, none, .ptr, 30, 6, true, pPair 0 0, []⟩]) (A1 := []) (G1 := [⟨none, none, 0, pPair a1 a2⟩, ⟨none, none, 1, pPair b1 b2⟩]) (V2 := [⟨2, 2, none, none, .ptr, 30, 6, true, pPair a1 a2, []⟩, ⟨3, 3, none, none, .ptr, 30, 6, true, pPair b1 b2, []⟩, ⟨4, 4, none, none, .ptr, 30, 6, true, pPair 0 0, []⟩]) (G2 := []) hI rfl rfl rfl [0, 1, 3] (by kernel_rfl) (by kernel_rfl) ?_ [0, 1, 2] [] rfl rfl fun a w hI => ?_
  · exact ⟨op_box 0 rfl rfl (by kernel_rfl) (by kernel_rfl) rfl rfl rfl (.tmp 0 rfl rfl) (fits_pair _ _) rfl,
      op_box 1 rfl rfl (by kernel_rfl) (by kernel_rfl) rfl rfl rfl (.tmp 1 rfl rfl) (fits_pair _ _) rfl,
      op_alloc 2 rfl rfl (by kernel_rfl) (by kernel_rfl) rfl rfl rfl zv_Range rfl rfl (by simp [NoU]) (fun w => pS_of (cells_pair0 w)),
      trivial⟩
  refine seq_drawn (V1 := [⟨2, 2, none, none, .ptr, 30, 6, true, pPair a1 a2, []⟩, ⟨3, 3, none, none, .ptr, 30, 6, true, pPair b1 b2, []⟩, ⟨4, 4, none, none, .ptr, 30, 6, true, pPair 0 0, [(22, pPair (min4 (a1 * b1) (a1 * b2) (a2 * b1) (a2 * b2)) (max4 (a1 * b1) (a1 * b2) (a2 * b1) (a2 * b2)))]⟩]) (A1 := [⟨some 0, 5, 2, 0, True⟩, ⟨some 2, 7, 3, 0, True⟩, ⟨some 5, 10, 2, 0, True⟩, ⟨some 7, 12, 3, 3, True⟩, ⟨some 10, 15, 2, 3, True⟩, ⟨some 12, 17, 3, 0, True⟩, ⟨some 15, 20, 2, 3, True⟩, ⟨some 17, 22, 3, 3, True⟩]) (G1 := [⟨some 1, none, 6, pRat a1⟩, ⟨some 3, none, 8, pRat b1⟩, ⟨some 4, none, 9, pRat (a1 * b1)⟩, ⟨some 6, none, 11, pRat a1⟩, ⟨some 8, none, 13, pRat b2⟩, ⟨some 9, none, 14, pRat (a1 * b2)⟩, ⟨some 11, none, 16, pRat a2⟩, ⟨some 13, none, 18, pRat b1⟩, ⟨some 14, none, 19, pRat (a2 * b1)⟩, ⟨some 16, none, 21, pRat a2⟩, ⟨some 18, none, 23, pRat b2⟩, ⟨some 19, none, 24, pRat (a2 * b2)⟩, ⟨some 20, none, 25, pRats ([a1 * b1, a1 * b2, a2 * b1, a2 * b2])⟩, ⟨some 21, none, 26, pPair (min4 (a1 * b1) (a1 * b2) (a2 * b1) (a2 * b2)) (max4 (a1 * b1) (a1 * b2) (a2 * b1) (a2 * b2))⟩]) (V2 := [⟨2, 2, none, none, .ptr, 30, 6, true, pPair a1 a2, []⟩, ⟨3, 3, none, none, .ptr, 30, 6, true, pPair b1 b2, []⟩, ⟨4, 4, none, none, .ptr, 30, 6, true, pPair (min4 (a1 * b1) (a1 * b2) (a2 * b1) (a2 * b2)) (max4 (a1 * b1) (a1 * b2) (a2 * b1) (a2 * b2)), []⟩]) (G2 := []) hI rfl rfl rfl [0, 1, 0, 4, 15, 0, 32, 0, 128, 511, 0, 1024, 0, 4096, 16383, 0, 32768, 0, 131072, 524287, 1048575, 2097151, 4194303] (by kernel_rfl) (by kernel_rfl) (by kernel_rfl) (by kernel_rfl) ?_ [0, 1, 2] [] rfl rfl fun a w hI => ?_
  · exact ⟨op_field 0 rfl rfl rfl 0 rfl rfl rfl rfl (.inl ⟨rfl, rfl⟩) rfl (by kernel_rfl) (fun b w => fa_Range_0 b 0 w),
      op_loadAl 0 rfl 0 rfl rfl rfl rfl rfl trivial rfl rfl (by kernel_rfl) ty_Ratio rfl rfl (fd_get (fs := [⟨true, 3, pRat a1⟩, ⟨true, 3, pRat a2⟩]) 0 (f := ⟨true, 3, pRat a1⟩) rfl (off := 0) rfl) (.here 0 rfl),
      op_field 1 rfl rfl rfl 1 rfl rfl rfl rfl (.inl ⟨rfl, rfl⟩) rfl (by kernel_rfl) (fun b w => fa_Range_0 b 0 w),
      op_loadAl 1 rfl 1 rfl rfl rfl rfl rfl trivial rfl rfl (by kernel_rfl) ty_Ratio rfl rfl (fd_get (fs := [⟨true, 3, pRat b1⟩, ⟨true, 3, pRat b2⟩]) 0 (f := ⟨true, 3, pRat b1⟩) rfl (off := 0) rfl) (.here 1 rfl),
      op_call2 (fun _ _ => by kernel_rfl) (numlike_rat _) (.tmp 0 rfl rfl) (.tmp 1 rfl rfl) (.here 2 rfl) (c_mul ha.1 hb.1 (by omega)),
      op_field 0 rfl rfl rfl 2 rfl rfl rfl rfl (.inl ⟨rfl, rfl⟩) rfl (by kernel_rfl) (fun b w => fa_Range_0 b 0 w),
      op_loadAl 0 rfl 2 rfl rfl rfl rfl rfl trivial rfl rfl (by kernel_rfl) ty_Ratio rfl rfl (fd_get (fs := [⟨true, 3, pRat a1⟩, ⟨true, 3, pRat a2⟩]) 0 (f := ⟨true, 3, pRat a1⟩) rfl (off := 0) rfl) (.here 3 rfl),
      op_field 1 rfl rfl rfl 3 rfl rfl rfl rfl (.inl ⟨rfl, rfl⟩) rfl (by kernel_rfl) (fun b w => fa_Range_1 b 0 w),
      op_loadAl 1 rfl 3 rfl rfl rfl rfl rfl trivial rfl rfl (by kernel_rfl) ty_Ratio rfl rfl (fd_get (fs := [⟨true, 3, pRat b1⟩, ⟨true, 3, pRat b2⟩]) 1 (f := ⟨true, 3, pRat b2⟩) rfl (off := 3) rfl) (.here 4 rfl),
      op_call2 (fun _ _ => by kernel_rfl) (numlike_rat _) (.tmp 3 rfl rfl) (.tmp 4 rfl rfl) (.here 5 rfl) (c_mul ha.1 hb.2 (by omega)),
      op_field 0 rfl rfl rfl 4 rfl rfl rfl rfl (.inl ⟨rfl, rfl⟩) rfl (by kernel_rfl) (fun b w => fa_Range_1 b 0 w),
      op_loadAl 0 rfl 4 rfl rfl rfl rfl rfl trivial rfl rfl (by kernel_rfl) ty_Ratio rfl rfl (fd_get (fs := [⟨true, 3, pRat a1⟩, ⟨true, 3, pRat a2⟩]) 1 (f := ⟨true, 3, pRat a2⟩) rfl (off := 3) rfl) (.here 6 rfl),
      op_field 1 rfl rfl rfl 5 rfl rfl rfl rfl (.inl ⟨rfl, rfl⟩) rfl (by kernel_rfl) (fun b w => fa_Range_0 b 0 w),
      op_loadAl 1 rfl 5 rfl rfl rfl rfl rfl trivial rfl rfl (by kernel_rfl) ty_Ratio rfl rfl (fd_get (fs := [⟨true, 3, pRat b1⟩, ⟨true, 3, pRat b2⟩]) 0 (f := ⟨true, 3, pRat b1⟩) rfl (off := 0) rfl) (.here 7 rfl),
      op_call2 (fun _ _ => by kernel_rfl) (numlike_rat _) (.tmp 6 rfl rfl) (.tmp 7 rfl rfl) (.here 8 rfl) (c_mul ha.2 hb.1 (by omega)),
      op_field 0 rfl rfl rfl 6 rfl rfl rfl rfl (.inl ⟨rfl, rfl⟩) rfl (by kernel_rfl) (fun b w => fa_Range_1 b 0 w),
      op_loadAl 0 rfl 6 rfl rfl rfl rfl rfl trivial rfl rfl (by kernel_rfl) ty_Ratio rfl rfl (fd_get (fs := [⟨true, 3, pRat a1⟩, ⟨true, 3, pRat a2⟩]) 1 (f := ⟨true, 3, pRat a2⟩) rfl (off := 3) rfl) (.here 9 rfl),
      op_field 1 rfl rfl rfl 7 rfl rfl rfl rfl (.inl ⟨rfl, rfl⟩) rfl (by kernel_rfl) (fun b w => fa_Range_1 b 0 w),
      op_loadAl 1 rfl 7 rfl rfl rfl rfl rfl trivial rfl rfl (by kernel_rfl) ty_Ratio rfl rfl (fd_get (fs := [⟨true, 3, pRat b1⟩, ⟨true, 3, pRat b2⟩]) 1 (f := ⟨true, 3, pRat b2⟩) rfl (off := 3) rfl) (.here 10 rfl),
      op_call2 (fun _ _ => by kernel_rfl) (numlike_rat _) (.tmp 9 rfl rfl) (.tmp 10 rfl rfl) (.here 11 rfl) (c_mul ha.2 hb.2 (by omega)),
      op_buildSlice (fs := List.replicate 4 ⟨true, 3, pRat 0⟩) (ps := [(0, pRat (a1 * b1)), (1, pRat (a1 * b2)), (2, pRat (a2 * b1)), (3, pRat (a2 * b2))]) (gs := [a1 * b1, a1 * b2, a2 * b1, a2 * b2].map fun q => ⟨true, 3, pRat q⟩) sl_Ratios zv_Ratio rfl rfl rfl (fun w => isRat_zero w) rfl (show HasParts _ _ _ _ _ _ from ⟨⟨rfl, (.tmp 2 rfl rfl), _, rfl, fits_rat _⟩, ⟨rfl, (.tmp 5 rfl rfl), _, rfl, fits_rat _⟩, ⟨rfl, (.tmp 8 rfl rfl), _, rfl, fits_rat _⟩, ⟨rfl, (.tmp 11 rfl rfl), _, rfl, fits_rat _⟩, trivial⟩) rfl (fun i => pRat ([a1 * b1, a1 * b2, a2 * b1, a2 * b2].getD i 0)) (rats_fd _) (.here 12 rfl),
      op_callB1 (fun _ _ => by kernel_rfl) (.tmp 12 rfl rfl) (.here 13 rfl) (cr_around (j := (j + k)) (by simp) (by simp) (bd4 (((ha.1).mul hb.1)) (((ha.1).mul hb.2)) (((ha.2).mul hb.1)) (((ha.2).mul hb.2))) (by omega)),
      op_store 2 rfl rfl rfl rfl 0 rfl (by kernel_rfl) (by kernel_rfl) ty_Range (.tmp 13 rfl rfl) (fits_pair _ _),
      trivial⟩
  refine wp_ret ?_
  exact fin1 hI rfl (.cell 2 rfl rfl rfl rfl ty_Range rfl)
set_option maxRecDepth 100000 in
theorem cr_round {a1 a2 : Rat} {j : Nat} (ha : BdR j a1 ∧ BdR j a2) (n : Int) (hj : j ≤ 10000000)  : ∀ (M : Nat → Nat → Prop) (w : World) (v0 v1 : Value), Mid M w → Box M (fun w => (pPair a1 a2) w v0) w → Box M (fun w => (pI n) w v1) w → Calls Tryz.prog 32 #[v0, v1] w (RetB M (pPair (downR a1 n) (-(downR (-a2) n))) w) := by
  intro M w0 v0 v1 hM hv0 hv1
  refine calls_start (N := 14) Tryz.func32 rfl rfl rfl hM (show EntsA M w0 [v0, v1] [⟨none, none, 0, pPair a1 a2⟩, ⟨none, none, 1, pI n⟩] from ⟨⟨rfl, _, rfl, hv0⟩, ⟨rfl, _, rfl, hv1⟩, trivial⟩) fun a hI => ?_
  refine seq_text (V1 := [⟨2, 2, some 0, none, .ptr, 30, 6, true, pPair a1 a2, []⟩, ⟨4, 4, some 1, none, .ptr, 30, 6, true, pPair 0 0, []⟩]) (A1 := []) (G1 := [⟨none, none, 0, pPair a1 a2⟩, ⟨none, none, 1, pI n⟩]) (V2 := [⟨2, 2, none, none, .ptr, 30, 6, true, pPair a1 a2, []⟩, ⟨4, 4, none, none, .ptr, 30, 6, true, pPair 0 0, []⟩]) (G2 := [⟨none, none, 1, pI n⟩]) hI rfl rfl rfl [0, 1] (by kernel_rfl) (by kernel_rfl) ?_ [0, 1] [1] rfl rfl fun a w hI => ?_
  · exact ⟨op_box 0 rfl rfl (by kernel_rfl) (by kernel_rfl) rfl rfl rfl (.tmp 0 rfl rfl) (fits_pair _ _) rfl,
      op_alloc 1 rfl rfl (by kernel_rfl) (by kernel_rfl) rfl rfl rfl zv_Range rfl rfl (by simp [NoU]) (fun w => pS_of (cells_pair0 w)),
      trivial⟩
  refine seq_drawn (V1 := [⟨2, 2, none, none, .ptr, 30, 6, true, pPair a1 a2, []⟩, ⟨4, 4, none, none, .ptr, 30, 6, true, pPair 0 0, [(9, pPair (downR a1 n) (-(downR (-a2) n)))]⟩]) (A1 := [⟨some 0, 5, 2, 0, True⟩, ⟨some 4, 9, 2, 3, True⟩]) (G1 := [⟨none, none, 1, pI n⟩, ⟨some 1, none, 6, pRat a1⟩, ⟨some 2, none, 7, pI n⟩, ⟨some 3, none, 8, pRat (downR a1 n)⟩, ⟨some 5, none, 10, pRat a2⟩, ⟨some 6, none, 11, pI n⟩, ⟨some 7, none, 12, pRat (-(downR (-a2) n))⟩, ⟨some 8, none, 13, pPair (downR a1 n) (-(downR (-a2) n))⟩]) (V2 := [⟨2, 2, none, none, .ptr, 30, 6, true, pPair a1 a2, []⟩, ⟨4, 4, none, none, .ptr, 30, 6, true, pPair (downR a1 n) (-(downR (-a2) n)), []⟩]) (G2 := []) hI rfl rfl rfl [0, 1, 0, 7, 0, 16, 0, 127, 255, 511] (by kernel_rfl) (by kernel_rfl) (by kernel_rfl) (by kernel_rfl) ?_ [0, 1] [] rfl rfl fun a w hI => ?_
  · exact ⟨op_field 0 rfl rfl rfl 0 rfl rfl rfl rfl (.inl ⟨rfl, rfl⟩) rfl (by kernel_rfl) (fun b w => fa_Range_0 b 0 w),
      op_loadAl 0 rfl 0 rfl rfl rfl rfl rfl trivial rfl rfl (by kernel_rfl) ty_Ratio rfl rfl (fd_get (fs := [⟨true, 3, pRat a1⟩, ⟨true, 3, pRat a2⟩]) 0 (f := ⟨true, 3, pRat a1⟩) rfl (off := 0) rfl) (.here 1 rfl),
      op_move (.tmp 0 rfl rfl) (.here 2 rfl),
      op_call2 (fun _ _ => by kernel_rfl) (numlike_rat _) (.tmp 1 rfl rfl) (.tmp 2 rfl rfl) (.here 3 rfl) (c_down ha.1 (by omega) _),
      op_field 0 rfl rfl rfl 1 rfl rfl rfl rfl (.inl ⟨rfl, rfl⟩) rfl (by kernel_rfl) (fun b w => fa_Range_1 b 0 w),
      op_loadAl 0 rfl 1 rfl rfl rfl rfl rfl trivial rfl rfl (by kernel_rfl) ty_Ratio rfl rfl (fd_get (fs := [⟨true, 3, pRat a1⟩, ⟨true, 3, pRat a2⟩]) 1 (f := ⟨true, 3, pRat a2⟩) rfl (off := 3) rfl) (.here 4 rfl),
      op_move (.tmp 0 rfl rfl) (.here 5 rfl),
      op_call2 (fun _ _ => by kernel_rfl) (numlike_rat _) (.tmp 4 rfl rfl) (.tmp 5 rfl rfl) (.here 6 rfl) (c_up ha.2 (by omega) _),
      op_build (fs := [⟨true, 3, pRat 0⟩, ⟨true, 3, pRat 0⟩]) (ps := [(0, pRat (downR a1 n)), (1, pRat (-(downR (-a2) n)))]) bt_Range (places_ok (by kernel_rfl)) (cells_pair0) (show HasParts _ _ _ _ _ _ from ⟨⟨rfl, (.tmp 3 rfl rfl), _, rfl, fits_rat _⟩, ⟨rfl, (.tmp 6 rfl rfl), _, rfl, fits_rat _⟩, trivial⟩) rfl (.here 7 rfl),
      op_store 1 rfl rfl rfl rfl 0 rfl (by kernel_rfl) (by kernel_rfl) ty_Range (.tmp 7 rfl rfl) (fits_pair _ _),
      trivial⟩
  refine wp_ret ?_
  exact fin1 hI rfl (.cell 1 rfl rfl rfl rfl ty_Range rfl)
set_option maxRecDepth 100000 in
theorem cr_hull {a1 a2 b1 b2 : Rat} {j : Nat} (ha : BdR j a1 ∧ BdR j a2) (hb : BdR j b1 ∧ BdR j b2) (hj : j + j ≤ 100000000)  : ∀ (M : Nat → Nat → Prop) (w : World) (v0 v1 : Value), Mid M w → Box M (fun w => (pPair a1 a2) w v0) w → Box M (fun w => (pPair b1 b2) w v1) w → Calls Tryz.prog 34 #[v0, v1] w (RetB M (pPair (min4 a1 a2 b1 b2) (max4 a1 a2 b1 b2)) w) := by
  intro M w0 v0 v1 hM hv0 hv1
  refine calls_start (N := 15) Tryz.func34 rfl rfl rfl hM (show EntsA M w0 [v0, v1] [⟨none, none, 0, pPair a1 a2⟩, ⟨none, none, 1, pPair b1 b2⟩] from ⟨⟨rfl, _, rfl, hv0⟩, ⟨rfl, _, rfl, hv1⟩, trivial⟩) fun a hI => ?_
  refine seq_text (V1 := [⟨2, 2, some 0, none, .ptr, 30, 6, true, pPair a1 a2, []⟩, ⟨3, 3, some 1, none, .ptr, 30, 6, true, pPair b1 b2, []⟩, ⟨4, 4, some 2, none, .ptr, 30, 6, true, pPair 0 0, []⟩]) (A1 := []) (G1 := [⟨none, none, 0, pPair a1 a2⟩, ⟨none, none, 1, pPair b1 b2⟩]) (V2 := [⟨2, 2, none, none, .ptr, 30, 6, true, pPair a1 a2, []⟩, ⟨3, 3, none, none, .ptr, 30, 6, true, pPair b1 b2, []⟩, ⟨4, 4, none, none, .ptr, 30, 6, true, pPair 0 0, []⟩]) (G2 := []) hI rfl rfl rfl [0, 1, 3] (by kernel_rfl) (by kernel_rfl) ?_ [0, 1, 2] [] rfl rfl fun a w hI => ?_
  · exact ⟨op_box 0 rfl rfl (by kernel_rfl) (by kernel_rfl) rfl rfl rfl (.tmp 0 rfl rfl) (fits_pair _ _) rfl,
      op_box 1 rfl rfl (by kernel_rfl) (by kernel_rfl) rfl rfl rfl (.tmp 1 rfl rfl) (fits_pair _ _) rfl,
      op_alloc 2 rfl rfl (by kernel_rfl) (by kernel_rfl) rfl rfl rfl zv_Range rfl rfl (by simp [NoU]) (fun w => pS_of (cells_pair0 w)),
      trivial⟩
  refine seq_text (V1 := [⟨2, 2, none, none, .ptr, 30, 6, true, pPair a1 a2, []⟩, ⟨3, 3, none, none, .ptr, 30, 6, true, pPair b1 b2, []⟩, ⟨4, 4, none, none, .ptr, 30, 6, true, pPair 0 0, [(10, pPair (min4 a1 a2 b1 b2) (max4 a1 a2 b1 b2))]⟩]) (A1 := [⟨some 0, 5, 2, 0, True⟩, ⟨some 2, 7, 2, 3, True⟩, ⟨some 4, 9, 3, 0, True⟩, ⟨some 6, 11, 3, 3, True⟩]) (G1 := [⟨some 1, none, 6, pRat a1⟩, ⟨some 3, none, 8, pRat a2⟩, ⟨some 5, none, 10, pRat b1⟩, ⟨some 7, none, 12, pRat b2⟩, ⟨some 8, none, 13, pRats ([a1, a2, b1, b2])⟩, ⟨some 9, none, 14, pPair (min4 a1 a2 b1 b2) (max4 a1 a2 b1 b2)⟩]) (V2 := [⟨2, 2, none, none, .ptr, 30, 6, true, pPair a1 a2, []⟩, ⟨3, 3, none, none, .ptr, 30, 6, true, pPair b1 b2, []⟩, ⟨4, 4, none, none, .ptr, 30, 6, true, pPair (min4 a1 a2 b1 b2) (max4 a1 a2 b1 b2), []⟩]) (G2 := []) hI rfl rfl rfl [0, 1, 3, 7, 15, 31, 63, 127, 255, 511, 1023] (by kernel_rfl) (by kernel_rfl) ?_ [0, 1, 2] [] rfl rfl fun a w hI => ?_
  · exact ⟨op_field 0 rfl rfl rfl 0 rfl rfl rfl rfl (.inl ⟨rfl, rfl⟩) rfl (by kernel_rfl) (fun b w => fa_Range_0 b 0 w),
      op_loadAl 0 rfl 0 rfl rfl rfl rfl rfl trivial rfl rfl (by kernel_rfl) ty_Ratio rfl rfl (fd_get (fs := [⟨true, 3, pRat a1⟩, ⟨true, 3, pRat a2⟩]) 0 (f := ⟨true, 3, pRat a1⟩) rfl (off := 0) rfl) (.here 0 rfl),
      op_field 0 rfl rfl rfl 1 rfl rfl rfl rfl (.inl ⟨rfl, rfl⟩) rfl (by kernel_rfl) (fun b w => fa_Range_1 b 0 w),
      op_loadAl 0 rfl 1 rfl rfl rfl rfl rfl trivial rfl rfl (by kernel_rfl) ty_Ratio rfl rfl (fd_get (fs := [⟨true, 3, pRat a1⟩, ⟨true, 3, pRat a2⟩]) 1 (f := ⟨true, 3, pRat a2⟩) rfl (off := 3) rfl) (.here 1 rfl),
      op_field 1 rfl rfl rfl 2 rfl rfl rfl rfl (.inl ⟨rfl, rfl⟩) rfl (by kernel_rfl) (fun b w => fa_Range_0 b 0 w),
      op_loadAl 1 rfl 2 rfl rfl rfl rfl rfl trivial rfl rfl (by kernel_rfl) ty_Ratio rfl rfl (fd_get (fs := [⟨true, 3, pRat b1⟩, ⟨true, 3, pRat b2⟩]) 0 (f := ⟨true, 3, pRat b1⟩) rfl (off := 0) rfl) (.here 2 rfl),
      op_field 1 rfl rfl rfl 3 rfl rfl rfl rfl (.inl ⟨rfl, rfl⟩) rfl (by kernel_rfl) (fun b w => fa_Range_1 b 0 w),
      op_loadAl 1 rfl 3 rfl rfl rfl rfl rfl trivial rfl rfl (by kernel_rfl) ty_Ratio rfl rfl (fd_get (fs := [⟨true, 3, pRat b1⟩, ⟨true, 3, pRat b2⟩]) 1 (f := ⟨true, 3, pRat b2⟩) rfl (off := 3) rfl) (.here 3 rfl),
      op_buildSlice (fs := List.replicate 4 ⟨true, 3, pRat 0⟩) (ps := [(0, pRat a1), (1, pRat a2), (2, pRat b1), (3, pRat b2)]) (gs := [a1, a2, b1, b2].map fun q => ⟨true, 3, pRat q⟩) sl_Ratios zv_Ratio rfl rfl rfl (fun w => isRat_zero w) rfl (show HasParts _ _ _ _ _ _ from ⟨⟨rfl, (.tmp 0 rfl rfl), _, rfl, fits_rat _⟩, ⟨rfl, (.tmp 1 rfl rfl), _, rfl, fits_rat _⟩, ⟨rfl, (.tmp 2 rfl rfl), _, rfl, fits_rat _⟩, ⟨rfl, (.tmp 3 rfl rfl), _, rfl, fits_rat _⟩, trivial⟩) rfl (fun i => pRat ([a1, a2, b1, b2].getD i 0)) (rats_fd _) (.here 4 rfl),
      op_callB1 (fun _ _ => by kernel_rfl) (.tmp 4 rfl rfl) (.here 5 rfl) (cr_around (j := j) (by simp) (by simp) (bd4 (ha.1) (ha.2) (hb.1) (hb.2)) (by omega)),
      op_store 2 rfl rfl rfl rfl 0 rfl (by kernel_rfl) (by kernel_rfl) ty_Range (.tmp 5 rfl rfl) (fits_pair _ _),
      trivial⟩
  refine wp_ret ?_
  exact fin1 hI rfl (.cell 2 rfl rfl rfl rfl ty_Range rfl)
set_option maxRecDepth 100000 in
theorem cr_square_in {a1 a2 : Rat} {j : Nat} (ha : BdR j a1 ∧ BdR j a2) (hj : j + j + (j + j) ≤ 100000000) (hz : a1 ≤ 0 ∧ 0 ≤ a2) : ∀ (M : Nat → Nat → Prop) (w : World) (v0 : Value), Mid M w → Box M (fun w => (pPair a1 a2) w v0) w → Calls Tryz.prog 26 #[v0] w (RetB M (pPair 0 (max2 (a1 * a1) (a2 * a2))) w) := by
  intro M w0 v0 hM hv0
  refine calls_start (N := 22) Tryz.func26 rfl rfl rfl hM (show EntsA M w0 [v0] [⟨none, none, 0, pPair a1 a2⟩] from ⟨⟨rfl, _, rfl, hv0⟩, trivial⟩) fun a hI => ?_
  refine seq_text (V1 := [⟨1, 1, some 0, none, .ptr, 30, 6, true, pPair a1 a2, []⟩, ⟨2, 2, some 1, none, .ptr, 30, 6, true, pPair 0 0, []⟩]) (A1 := []) (G1 := [⟨none, none, 0, pPair a1 a2⟩]) (V2 := [⟨1, 1, none, none, .ptr, 30, 6, true, pPair a1 a2, []⟩, ⟨2, 2, none, none, .ptr, 30, 6, true, pPair 0 0, []⟩]) (G2 := []) hI rfl rfl rfl [0, 1] (by kernel_rfl) (by kernel_rfl) ?_ [0, 1] [] rfl rfl fun a w hI => ?_
  · exact ⟨op_box 0 rfl rfl (by kernel_rfl) (by kernel_rfl) rfl rfl rfl (.tmp 0 rfl rfl) (fits_pair _ _) rfl,
      op_alloc 1 rfl rfl (by kernel_rfl) (by kernel_rfl) rfl rfl rfl zv_Range rfl rfl (by simp [NoU]) (fun w => pS_of (cells_pair0 w)),
      trivial⟩
  refine seq_drawn (V1 := [⟨1, 1, none, none, .ptr, 30, 6, true, pPair a1 a2, []⟩, ⟨2, 2, none, none, .ptr, 30, 6, true, pPair 0 0, []⟩, ⟨3, 3, some 12, none, .ptr, 30, 6, true, pPair 0 0, [(13, pPair (min2 (a1 * a1) (a2 * a2)) (max2 (a1 * a1) (a2 * a2)))]⟩]) (A1 := [⟨some 0, 4, 1, 0, True⟩, ⟨some 2, 6, 1, 0, True⟩, ⟨some 5, 9, 1, 3, True⟩, ⟨some 7, 11, 1, 3, True⟩]) (G1 := [⟨some 1, none, 5, pRat a1⟩, ⟨some 3, none, 7, pRat a1⟩, ⟨some 4, none, 8, pRat (a1 * a1)⟩, ⟨some 6, none, 10, pRat a2⟩, ⟨some 8, none, 12, pRat a2⟩, ⟨some 9, none, 13, pRat (a2 * a2)⟩, ⟨some 10, none, 14, pRats ([a1 * a1, a2 * a2])⟩, ⟨some 11, none, 15, pPair (min2 (a1 * a1) (a2 * a2)) (max2 (a1 * a1) (a2 * a2))⟩]) (V2 := [⟨1, 1, none, none, .ptr, 30, 6, true, pPair a1 a2, []⟩, ⟨2, 2, none, none, .ptr, 30, 6, true, pPair 0 0, []⟩, ⟨3, 3, none, none, .ptr, 30, 6, true, pPair (min2 (a1 * a1) (a2 * a2)) (max2 (a1 * a1) (a2 * a2)), []⟩]) (G2 := []) hI rfl rfl rfl [0, 1, 0, 4, 15, 0, 32, 0, 128, 511, 1023, 2047, 0, 8191] (by kernel_rfl) (by kernel_rfl) (by kernel_rfl) (by kernel_rfl) ?_ [0, 1, 2] [] rfl rfl fun a w hI => ?_
  · exact ⟨op_field 0 rfl rfl rfl 0 rfl rfl rfl rfl (.inl ⟨rfl, rfl⟩) rfl (by kernel_rfl) (fun b w => fa_Range_0 b 0 w),
      op_loadAl 0 rfl 0 rfl rfl rfl rfl rfl trivial rfl rfl (by kernel_rfl) ty_Ratio rfl rfl (fd_get (fs := [⟨true, 3, pRat a1⟩, ⟨true, 3, pRat a2⟩]) 0 (f := ⟨true, 3, pRat a1⟩) rfl (off := 0) rfl) (.here 0 rfl),
      op_field 0 rfl rfl rfl 1 rfl rfl rfl rfl (.inl ⟨rfl, rfl⟩) rfl (by kernel_rfl) (fun b w => fa_Range_0 b 0 w),
      op_loadAl 0 rfl 1 rfl rfl rfl rfl rfl trivial rfl rfl (by kernel_rfl) ty_Ratio rfl rfl (fd_get (fs := [⟨true, 3, pRat a1⟩, ⟨true, 3, pRat a2⟩]) 0 (f := ⟨true, 3, pRat a1⟩) rfl (off := 0) rfl) (.here 1 rfl),
      op_call2 (fun _ _ => by kernel_rfl) (numlike_rat _) (.tmp 0 rfl rfl) (.tmp 1 rfl rfl) (.here 2 rfl) (c_mul ha.1 ha.1 (by omega)),
      op_field 0 rfl rfl rfl 2 rfl rfl rfl rfl (.inl ⟨rfl, rfl⟩) rfl (by kernel_rfl) (fun b w => fa_Range_1 b 0 w),
      op_loadAl 0 rfl 2 rfl rfl rfl rfl rfl trivial rfl rfl (by kernel_rfl) ty_Ratio rfl rfl (fd_get (fs := [⟨true, 3, pRat a1⟩, ⟨true, 3, pRat a2⟩]) 1 (f := ⟨true, 3, pRat a2⟩) rfl (off := 3) rfl) (.here 3 rfl),
      op_field 0 rfl rfl rfl 3 rfl rfl rfl rfl (.inl ⟨rfl, rfl⟩) rfl (by kernel_rfl) (fun b w => fa_Range_1 b 0 w),
      op_loadAl 0 rfl 3 rfl rfl rfl rfl rfl trivial rfl rfl (by kernel_rfl) ty_Ratio rfl rfl (fd_get (fs := [⟨true, 3, pRat a1⟩, ⟨true, 3, pRat a2⟩]) 1 (f := ⟨true, 3, pRat a2⟩) rfl (off := 3) rfl) (.here 4 rfl),
      op_call2 (fun _ _ => by kernel_rfl) (numlike_rat _) (.tmp 3 rfl rfl) (.tmp 4 rfl rfl) (.here 5 rfl) (c_mul ha.2 ha.2 (by omega)),
      op_buildSlice (fs := List.replicate 2 ⟨true, 3, pRat 0⟩) (ps := [(0, pRat (a1 * a1)), (1, pRat (a2 * a2))]) (gs := [a1 * a1, a2 * a2].map fun q => ⟨true, 3, pRat q⟩) sl_Ratios zv_Ratio rfl rfl rfl (fun w => isRat_zero w) rfl (show HasParts _ _ _ _ _ _ from ⟨⟨rfl, (.tmp 2 rfl rfl), _, rfl, fits_rat _⟩, ⟨rfl, (.tmp 5 rfl rfl), _, rfl, fits_rat _⟩, trivial⟩) rfl (fun i => pRat ([a1 * a1, a2 * a2].getD i 0)) (rats_fd _) (.here 6 rfl),
      op_callB1 (fun _ _ => by kernel_rfl) (.tmp 6 rfl rfl) (.here 7 rfl) (cr_around (j := (j + j)) (by simp) (by simp) (bd2 (((ha.1).mul ha.1)) (((ha.2).mul ha.2))) (by omega)),
      op_alloc 2 rfl rfl (by kernel_rfl) (by kernel_rfl) rfl rfl rfl zv_Range rfl rfl (by simp [NoU]) (fun w => pS_of (cells_pair0 w)),
      op_store 2 rfl rfl rfl rfl 0 rfl (by kernel_rfl) (by kernel_rfl) ty_Range (.tmp 7 rfl rfl) (fits_pair _ _),
      trivial⟩
  refine wp_seq ?_
  refine seq_text (V1 := [⟨1, 1, none, none, .ptr, 30, 6, true, pPair a1 a2, []⟩, ⟨2, 2, none, none, .ptr, 30, 6, true, pPair 0 0, []⟩, ⟨3, 3, none, none, .ptr, 30, 6, true, pPair (min2 (a1 * a1) (a2 * a2)) (max2 (a1 * a1) (a2 * a2)), []⟩]) (A1 := []) (G1 := [⟨some 0, none, 16, pPair a1 a2⟩, ⟨some 1, none, 17, pRat 0⟩, ⟨some 2, none, 18, pB true⟩]) (V2 := [⟨1, 1, none, none, .ptr, 30, 6, true, pPair a1 a2, []⟩, ⟨2, 2, none, none, .ptr, 30, 6, true, pPair 0 0, []⟩, ⟨3, 3, none, none, .ptr, 30, 6, true, pPair (min2 (a1 * a1) (a2 * a2)) (max2 (a1 * a1) (a2 * a2)), []⟩]) (G2 := [⟨none, none, 18, pB true⟩]) hI rfl rfl rfl [0, 1, 3] (by kernel_rfl) (by kernel_rfl) ?_ [0, 1, 2] [2] rfl rfl fun a w hI => ?_
  · exact ⟨op_load 0 rfl rfl rfl rfl (by kernel_rfl) ty_Range rfl (.here 0 rfl),
      op_zero bt_Ratio (fun w => isRat_zero w) (.here 1 rfl),
      op_callB2 (fun _ _ => by kernel_rfl) (.tmp 0 rfl rfl) (.tmp 1 rfl rfl) (.here 2 rfl) (cb_known2 (b := true) (cr_has (j := j) (k := 1) ⟨ha.1, ha.2⟩ bd_zero (by omega)) (by rw [← Bool.decide_and]; exact decide_eq_true hz)),
      trivial⟩
  refine cond_yes hI 0 rfl ?_
  refine sem_text (V1 := [⟨1, 1, none, none, .ptr, 30, 6, true, pPair a1 a2, []⟩, ⟨2, 2, none, none, .ptr, 30, 6, true, pPair 0 0, []⟩, ⟨3, 3, none, none, .ptr, 30, 6, true, pPair (min2 (a1 * a1) (a2 * a2)) (max2 (a1 * a1) (a2 * a2)), [(2, pPair 0 (max2 (a1 * a1) (a2 * a2)))]⟩]) (A1 := [⟨some 1, 20, 3, 0, True⟩]) (G1 := [⟨none, none, 18, pB true⟩, ⟨some 0, none, 19, pRat 0⟩]) (V2 := [⟨1, 1, none, none, .ptr, 30, 6, true, pPair a1 a2, []⟩, ⟨2, 2, none, none, .ptr, 30, 6, true, pPair 0 0, []⟩, ⟨3, 3, none, none, .ptr, 30, 6, true, pPair 0 (max2 (a1 * a1) (a2 * a2)), []⟩]) (G2 := []) hI rfl rfl rfl [0, 1, 3] (by kernel_rfl) (by kernel_rfl) ?_ [0, 1, 2] [] rfl rfl fun a w hI => ?_
  · exact ⟨op_zero bt_Ratio (fun w => isRat_zero w) (.here 1 rfl),
      op_field 2 rfl rfl rfl 0 rfl rfl rfl rfl (.inl ⟨rfl, rfl⟩) rfl (by kernel_rfl) (fun b w => fa_Range_0 b 0 w),
      op_storeAl 2 rfl 0 rfl rfl rfl rfl rfl trivial rfl rfl (by kernel_rfl) 0 rfl (by kernel_rfl) (by kernel_rfl) ty_Ratio rfl rfl (.tmp 1 rfl rfl) (fits_rat _) (fd_set (fs := [⟨true, 3, pRat (min2 (a1 * a1) (a2 * a2))⟩, ⟨true, 3, pRat (max2 (a1 * a1) (a2 * a2))⟩]) 0 (f := ⟨true, 3, pRat (min2 (a1 * a1) (a2 * a2))⟩) rfl (off := 0) rfl rfl),
      trivial⟩
  refine then_of ?_
  refine seq_text (V1 := [⟨1, 1, none, none, .ptr, 30, 6, true, pPair a1 a2, []⟩, ⟨2, 2, none, none, .ptr, 30, 6, true, pPair 0 0, [(1, pPair 0 (max2 (a1 * a1) (a2 * a2)))]⟩, ⟨3, 3, none, none, .ptr, 30, 6, true, pPair 0 (max2 (a1 * a1) (a2 * a2)), []⟩]) (A1 := []) (G1 := [⟨some 0, none, 21, pPair 0 (max2 (a1 * a1) (a2 * a2))⟩]) (V2 := [⟨1, 1, none, none, .ptr, 30, 6, true, pPair a1 a2, []⟩, ⟨2, 2, none, none, .ptr, 30, 6, true, pPair 0 (max2 (a1 * a1) (a2 * a2)), []⟩, ⟨3, 3, none, none, .ptr, 30, 6, true, pPair 0 (max2 (a1 * a1) (a2 * a2)), []⟩]) (G2 := []) hI rfl rfl rfl [0, 1] (by kernel_rfl) (by kernel_rfl) ?_ [0, 1, 2] [] rfl rfl fun a w hI => ?_
  · exact ⟨op_load 2 rfl rfl rfl rfl (by kernel_rfl) ty_Range rfl (.here 0 rfl),
      op_store 1 rfl rfl rfl rfl 0 rfl (by kernel_rfl) (by kernel_rfl) ty_Range (.tmp 0 rfl rfl) (fits_pair _ _),
      trivial⟩
  refine wp_ret ?_
  exact fin1 hI rfl (.cell 1 rfl rfl rfl rfl ty_Range rfl)
set_option maxRecDepth 100000 in
theorem cr_square_out {a1 a2 : Rat} {j : Nat} (ha : BdR j a1 ∧ BdR j a2) (hj : j + j + (j + j) ≤ 100000000) (hz : ¬ (a1 ≤ 0 ∧ 0 ≤ a2)) : ∀ (M : Nat → Nat → Prop) (w : World) (v0 : Value), Mid M w → Box M (fun w => (pPair a1 a2) w v0) w → Calls Tryz.prog 26 #[v0] w (RetB M (pPair (min2 (a1 * a1) (a2 * a2)) (max2 (a1 * a1) (a2 * a2))) w) := by
  intro M w0 v0 hM hv0
  refine calls_start (N := 22) Tryz.func26 rfl rfl rfl hM (show EntsA M w0 [v0] [⟨none, none, 0, pPair a1 a2⟩] from ⟨⟨rfl, _, rfl, hv0⟩, trivial⟩) fun a hI => ?_
  refine seq_text (V1 := [⟨1, 1, some 0, none, .ptr, 30, 6, true, pPair a1 a2, []⟩, ⟨2, 2, some 1, none, .ptr, 30, 6, true, pPair 0 0, []⟩]) (A1 := []) (G1 := [⟨none, none, 0, pPair a1 a2⟩]) (V2 := [⟨1, 1, none, none, .ptr, 30, 6, true, pPair a1 a2, []⟩, ⟨2, 2, none, none, .ptr, 30, 6, true, pPair 0 0, []⟩]) (G2 := []) hI rfl rfl rfl [0, 1] (by kernel_rfl) (by kernel_rfl) ?_ [0, 1] [] rfl rfl fun a w hI => ?_
  · exact ⟨op_box 0 rfl rfl (by kernel_rfl) (by kernel_rfl) rfl rfl rfl (.tmp 0 rfl rfl) (fits_pair _ _) rfl,
      op_alloc 1 rfl rfl (by kernel_rfl) (by kernel_rfl) rfl rfl rfl zv_Range rfl rfl (by simp [NoU]) (fun w => pS_of (cells_pair0 w)),
      trivial⟩
  refine seq_drawn (V1 := [⟨1, 1, none, none, .ptr, 30, 6, true, pPair a1 a2, []⟩, ⟨2, 2, none, none, .ptr, 30, 6, true, pPair 0 0, []⟩, ⟨3, 3, some 12, none, .ptr, 30, 6, true, pPair 0 0, [(13, pPair (min2 (a1 * a1) (a2 * a2)) (max2 (a1 * a1) (a2 * a2)))]⟩]) (A1 := [⟨some 0, 4, 1, 0, True⟩, ⟨some 2, 6, 1, 0, True⟩, ⟨some 5, 9, 1, 3, True⟩, ⟨some 7, 11, 1, 3, True⟩]) (G1 := [⟨some 1, none, 5, pRat a1⟩, ⟨some 3, none, 7, pRat a1⟩, ⟨some 4, none, 8, pRat (a1 * a1)⟩, ⟨some 6, none, 10, pRat a2⟩, ⟨some 8, none, 12, pRat a2⟩, ⟨some 9, none, 13, pRat (a2 * a2)⟩, ⟨some 10, none, 14, pRats ([a1 * a1, a2 * a2])⟩, ⟨some 11, none, 15, pPair (min2 (a1 * a1) (a2 * a2)) (max2 (a1 * a1) (a2 * a2))⟩]) (V2 := [⟨1, 1, none, none, .ptr, 30, 6, true, pPair a1 a2, []⟩, ⟨2, 2, none, none, .ptr, 30, 6, true, pPair 0 0, []⟩, ⟨3, 3, none, none, .ptr, 30, 6, true, pPair (min2 (a1 * a1) (a2 * a2)) (max2 (a1 * a1) (a2 * a2)), []⟩]) (G2 := []) hI rfl rfl rfl [0, 1, 0, 4, 15, 0, 32, 0, 128, 511, 1023, 2047, 0, 8191] (by kernel_rfl) (by kernel_rfl) (by kernel_rfl) (by kernel_rfl) ?_ [0, 1, 2] [] rfl rfl fun a w hI => ?_
  · exact ⟨op_field 0 rfl rfl rfl 0 rfl rfl rfl rfl (.inl ⟨rfl, rfl⟩) rfl (by kernel_rfl) (fun b w => fa_Range_0 b 0 w),
      op_loadAl 0 rfl 0 rfl rfl rfl rfl rfl trivial rfl rfl (by kernel_rfl) ty_Ratio rfl rfl (fd_get (fs := [⟨true, 3, pRat a1⟩, ⟨true, 3, pRat a2⟩]) 0 (f := ⟨true, 3, pRat a1⟩) rfl (off := 0) rfl) (.here 0 rfl),
      op_field 0 rfl rfl rfl 1 rfl rfl rfl rfl (.inl ⟨rfl, rfl⟩) rfl (by kernel_rfl) (fun b w => fa_Range_0 b 0 w),
      op_loadAl 0 rfl 1 rfl rfl rfl rfl rfl trivial rfl rfl (by kernel_rfl) ty_Ratio rfl rfl (fd_get (fs := [⟨true, 3, pRat a1⟩, ⟨true, 3, pRat a2⟩]) 0 (f := ⟨true, 3, pRat a1⟩) rfl (off := 0) rfl) (.here 1 rfl),
      op_call2 (fun _ _ => by kernel_rfl) (numlike_rat _) (.tmp 0 rfl rfl) (.tmp 1 rfl rfl) (.here 2 rfl) (c_mul ha.1 ha.1 (by omega)),
      op_field 0 rfl rfl rfl 2 rfl rfl rfl rfl (.inl ⟨rfl, rfl⟩) rfl (by kernel_rfl) (fun b w => fa_Range_1 b 0 w),
      op_loadAl 0 rfl 2 rfl rfl rfl rfl rfl trivial rfl rfl (by kernel_rfl) ty_Ratio rfl rfl (fd_get (fs := [⟨true, 3, pRat a1⟩, ⟨true, 3, pRat a2⟩]) 1 (f := ⟨true, 3, pRat a2⟩) rfl (off := 3) rfl) (.here 3 rfl),
      op_field 0 rfl rfl rfl 3 rfl rfl rfl rfl (.inl ⟨rfl, rfl⟩) rfl (by kernel_rfl) (fun b w => fa_Range_1 b 0 w),
      op_loadAl 0 rfl 3 rfl rfl rfl rfl rfl trivial rfl rfl (by kernel_rfl) ty_Ratio rfl rfl (fd_get (fs := [⟨true, 3, pRat a1⟩, ⟨true, 3, pRat a2⟩]) 1 (f := ⟨true, 3, pRat a2⟩) rfl (off := 3) rfl) (.here 4 rfl),
      op_call2 (fun _ _ => by kernel_rfl) (numlike_rat _) (.tmp 3 rfl rfl) (.tmp 4 rfl rfl) (.here 5 rfl) (c_mul ha.2 ha.2 (by omega)),
      op_buildSlice (fs := List.replicate 2 ⟨true, 3, pRat 0⟩) (ps := [(0, pRat (a1 * a1)), (1, pRat (a2 * a2))]) (gs := [a1 * a1, a2 * a2].map fun q => ⟨true, 3, pRat q⟩) sl_Ratios zv_Ratio rfl rfl rfl (fun w => isRat_zero w) rfl (show HasParts _ _ _ _ _ _ from ⟨⟨rfl, (.tmp 2 rfl rfl), _, rfl, fits_rat _⟩, ⟨rfl, (.tmp 5 rfl rfl), _, rfl, fits_rat _⟩, trivial⟩) rfl (fun i => pRat ([a1 * a1, a2 * a2].getD i 0)) (rats_fd _) (.here 6 rfl),
      op_callB1 (fun _ _ => by kernel_rfl) (.tmp 6 rfl rfl) (.here 7 rfl) (cr_around (j := (j + j)) (by simp) (by simp) (bd2 (((ha.1).mul ha.1)) (((ha.2).mul ha.2))) (by omega)),
      op_alloc 2 rfl rfl (by kernel_rfl) (by kernel_rfl) rfl rfl rfl zv_Range rfl rfl (by simp [NoU]) (fun w => pS_of (cells_pair0 w)),
      op_store 2 rfl rfl rfl rfl 0 rfl (by kernel_rfl) (by kernel_rfl) ty_Range (.tmp 7 rfl rfl) (fits_pair _ _),
      trivial⟩
  refine wp_seq ?_
  refine seq_text (V1 := [⟨1, 1, none, none, .ptr, 30, 6, true, pPair a1 a2, []⟩, ⟨2, 2, none, none, .ptr, 30, 6, true, pPair 0 0, []⟩, ⟨3, 3, none, none, .ptr, 30, 6, true, pPair (min2 (a1 * a1) (a2 * a2)) (max2 (a1 * a1) (a2 * a2)), []⟩]) (A1 := []) (G1 := [⟨some 0, none, 16, pPair a1 a2⟩, ⟨some 1, none, 17, pRat 0⟩, ⟨some 2, none, 18, pB false⟩]) (V2 := [⟨1, 1, none, none, .ptr, 30, 6, true, pPair a1 a2, []⟩, ⟨2, 2, none, none, .ptr, 30, 6, true, pPair 0 0, []⟩, ⟨3, 3, none, none, .ptr, 30, 6, true, pPair (min2 (a1 * a1) (a2 * a2)) (max2 (a1 * a1) (a2 * a2)), []⟩]) (G2 := [⟨none, none, 18, pB false⟩]) hI rfl rfl rfl [0, 1, 3] (by kernel_rfl) (by kernel_rfl) ?_ [0, 1, 2] [2] rfl rfl fun a w hI => ?_
  · exact ⟨op_load 0 rfl rfl rfl rfl (by kernel_rfl) ty_Range rfl (.here 0 rfl),
      op_zero bt_Ratio (fun w => isRat_zero w) (.here 1 rfl),
      op_callB2 (fun _ _ => by kernel_rfl) (.tmp 0 rfl rfl) (.tmp 1 rfl rfl) (.here 2 rfl) (cb_known2 (b := false) (cr_has (j := j) (k := 1) ⟨ha.1, ha.2⟩ bd_zero (by omega)) (by rw [← Bool.decide_and]; exact decide_eq_false hz)),
      trivial⟩
  refine cond_no hI 0 rfl ?_
  refine wp_skip ?_
  refine then_of ?_
  refine seq_text (V1 := [⟨1, 1, none, none, .ptr, 30, 6, true, pPair a1 a2, []⟩, ⟨2, 2, none, none, .ptr, 30, 6, true, pPair 0 0, [(1, pPair (min2 (a1 * a1) (a2 * a2)) (max2 (a1 * a1) (a2 * a2)))]⟩, ⟨3, 3, none, none, .ptr, 30, 6, true, pPair (min2 (a1 * a1) (a2 * a2)) (max2 (a1 * a1) (a2 * a2)), []⟩]) (A1 := []) (G1 := [⟨none, none, 18, pB false⟩, ⟨some 0, none, 21, pPair (min2 (a1 * a1) (a2 * a2)) (max2 (a1 * a1) (a2 * a2))⟩]) (V2 := [⟨1, 1, none, none, .ptr, 30, 6, true, pPair a1 a2, []⟩, ⟨2, 2, none, none, .ptr, 30, 6, true, pPair (min2 (a1 * a1) (a2 * a2)) (max2 (a1 * a1) (a2 * a2)), []⟩, ⟨3, 3, none, none, .ptr, 30, 6, true, pPair (min2 (a1 * a1) (a2 * a2)) (max2 (a1 * a1) (a2 * a2)), []⟩]) (G2 := []) hI rfl rfl rfl [0, 1] (by kernel_rfl) (by kernel_rfl) ?_ [0, 1, 2] [] rfl rfl fun a w hI => ?_
  · exact ⟨op_load 2 rfl rfl rfl rfl (by kernel_rfl) ty_Range rfl (.here 1 rfl),
      op_store 1 rfl rfl rfl rfl 0 rfl (by kernel_rfl) (by kernel_rfl) ty_Range (.tmp 1 rfl rfl) (fits_pair _ _),
      trivial⟩
  refine wp_ret ?_
  exact fin1 hI rfl (.cell 1 rfl rfl rfl rfl ty_Range rfl)
set_option maxRecDepth 100000 in
theorem cr_div_zero {a1 a2 b1 b2 : Rat} {j k : Nat} (ha : BdR j a1 ∧ BdR j a2) (hb : BdR k b1 ∧ BdR k b2) (hj : j + k + (j + k) ≤ 100000000) (hz : b1 ≤ 0 ∧ 0 ≤ b2) : ∀ (M : Nat → Nat → Prop) (w : World) (v0 v1 : Value), Mid M w → Box M (fun w => (pPair a1 a2) w v0) w → Box M (fun w => (pPair b1 b2) w v1) w → Calls Tryz.prog 28 #[v0, v1] w (RetB M (pTup2 (pPair 0 0) (pI 3)) w) := by
  intro M w0 v0 v1 hM hv0 hv1
  refine calls_start (N := 32) Tryz.func28 rfl rfl rfl hM (show EntsA M w0 [v0, v1] [⟨none, none, 0, pPair a1 a2⟩, ⟨none, none, 1, pPair b1 b2⟩] from ⟨⟨rfl, _, rfl, hv0⟩, ⟨rfl, _, rfl, hv1⟩, trivial⟩) fun a hI => ?_
  refine seq_text (V1 := [⟨2, 2, some 0, none, .ptr, 30, 6, true, pPair a1 a2, []⟩, ⟨3, 3, some 1, none, .ptr, 30, 6, true, pPair b1 b2, []⟩, ⟨4, 4, some 2, none, .ptr, 30, 6, true, pPair 0 0, []⟩]) (A1 := []) (G1 := [⟨none, none, 0, pPair a1 a2⟩, ⟨none, none, 1, pPair b1 b2⟩, ⟨some 3, none, 5, pI 0⟩]) (V2 := [⟨2, 2, none, none, .ptr, 30, 6, true, pPair a1 a2, []⟩, ⟨3, 3, none, none, .ptr, 30, 6, true, pPair b1 b2, []⟩, ⟨4, 4, none, none, .ptr, 30, 6, true, pPair 0 0, []⟩]) (G2 := [⟨none, none, 5, pI 0⟩]) hI rfl rfl rfl [0, 1, 3, 7] (by kernel_rfl) (by kernel_rfl) ?_ [0, 1, 2] [2] rfl rfl fun a w hI => ?_
  · exact ⟨op_box 0 rfl rfl (by kernel_rfl) (by kernel_rfl) rfl rfl rfl (.tmp 0 rfl rfl) (fits_pair _ _) rfl,
      op_box 1 rfl rfl (by kernel_rfl) (by kernel_rfl) rfl rfl rfl (.tmp 1 rfl rfl) (fits_pair _ _) rfl,
      op_alloc 2 rfl rfl (by kernel_rfl) (by kernel_rfl) rfl rfl rfl zv_Range rfl rfl (by simp [NoU]) (fun w => pS_of (cells_pair0 w)),
      op_assign (.const _) (.here 2 rfl),
      trivial⟩
  refine wp_seq ?_
  refine seq_text (V1 := [⟨2, 2, none, none, .ptr, 30, 6, true, pPair a1 a2, []⟩, ⟨3, 3, none, none, .ptr, 30, 6, true, pPair b1 b2, []⟩, ⟨4, 4, none, none, .ptr, 30, 6, true, pPair 0 0, []⟩]) (A1 := []) (G1 := [⟨none, none, 5, pI 0⟩, ⟨some 0, none, 6, pPair b1 b2⟩, ⟨some 1, none, 7, pRat 0⟩, ⟨some 2, none, 8, pB true⟩]) (V2 := [⟨2, 2, none, none, .ptr, 30, 6, true, pPair a1 a2, []⟩, ⟨3, 3, none, none, .ptr, 30, 6, true, pPair b1 b2, []⟩, ⟨4, 4, none, none, .ptr, 30, 6, true, pPair 0 0, []⟩]) (G2 := [⟨none, none, 5, pI 0⟩, ⟨none, none, 8, pB true⟩]) hI rfl rfl rfl [0, 1, 3] (by kernel_rfl) (by kernel_rfl) ?_ [0, 1, 2] [0, 3] rfl rfl fun a w hI => ?_
  · exact ⟨op_load 1 rfl rfl rfl rfl (by kernel_rfl) ty_Range rfl (.here 1 rfl),
      op_zero bt_Ratio (fun w => isRat_zero w) (.here 2 rfl),
      op_callB2 (fun _ _ => by kernel_rfl) (.tmp 1 rfl rfl) (.tmp 2 rfl rfl) (.here 3 rfl) (cb_known2 (b := true) (cr_has (j := k) (k := 1) ⟨hb.1, hb.2⟩ bd_zero (by omega)) (by rw [← Bool.decide_and]; exact decide_eq_true hz)),
      trivial⟩
  refine cond_yes hI 1 rfl ?_
  refine seq_text (V1 := [⟨2, 2, none, none, .ptr, 30, 6, true, pPair a1 a2, []⟩, ⟨3, 3, none, none, .ptr, 30, 6, true, pPair b1 b2, []⟩, ⟨4, 4, none, none, .ptr, 30, 6, true, pPair 0 0, [(1, pPair 0 0)]⟩]) (A1 := []) (G1 := [⟨none, some 2, 5, pI 0⟩, ⟨none, none, 8, pB true⟩, ⟨some 0, none, 9, pPair 0 0⟩, ⟨some 2, none, 5, pI 3⟩]) (V2 := [⟨2, 2, none, none, .ptr, 30, 6, true, pPair a1 a2, []⟩, ⟨3, 3, none, none, .ptr, 30, 6, true, pPair b1 b2, []⟩, ⟨4, 4, none, none, .ptr, 30, 6, true, pPair 0 0, []⟩]) (G2 := [⟨none, none, 5, pI 3⟩]) hI rfl rfl rfl [0, 1, 3] (by kernel_rfl) (by kernel_rfl) ?_ [0, 1, 2] [2] rfl rfl fun a w hI => ?_
  · exact ⟨op_build (fs := [⟨true, 3, pRat 0⟩, ⟨true, 3, pRat 0⟩]) (ps := []) bt_Range (places_ok (by kernel_rfl)) (cells_pair0) trivial rfl (.here 2 rfl),
      op_store 2 rfl rfl rfl rfl 0 rfl (by kernel_rfl) (by kernel_rfl) ty_Range (.tmp 2 rfl rfl) (fits_pair _ _),
      op_assign (.const _) (.here 3 rfl),
      trivial⟩
  refine wp_ret ?_
  refine then_ret ?_
  exact fin2 hI rfl (.cell 2 rfl rfl rfl rfl ty_Range rfl) (.tmp 0 rfl)
set_option maxRecDepth 100000 in
theorem cr_div_ok {a1 a2 b1 b2 : Rat} {j k : Nat} (ha : BdR j a1 ∧ BdR j a2) (hb : BdR k b1 ∧ BdR k b2) (hj : j + k + (j + k) ≤ 100000000) (hz : ¬ (b1 ≤ 0 ∧ 0 ≤ b2)) (h1 : b1 ≠ 0) (h2 : b2 ≠ 0) : ∀ (M : Nat → Nat → Prop) (w : World) (v0 v1 : Value), Mid M w → Box M (fun w => (pPair a1 a2) w v0) w → Box M (fun w => (pPair b1 b2) w v1) w → Calls Tryz.prog 28 #[v0, v1] w (RetB M (pTup2 (pPair (min4 (a1 / b1) (a1 / b2) (a2 / b1) (a2 / b2)) (max4 (a1 / b1) (a1 / b2) (a2 / b1) (a2 / b2))) (pI 0)) w) := by
  intro M w0 v0 v1 hM hv0 hv1
  refine calls_start (N := 32) Tryz.func28 rfl rfl rfl hM (show EntsA M w0 [v0, v1] [⟨none, none, 0, pPair a1 a2⟩, ⟨none, none, 1, pPair b1 b2⟩] from ⟨⟨rfl, _, rfl, hv0⟩, ⟨rfl, _, rfl, hv1⟩, trivial⟩) fun a hI => ?_
  refine seq_text (V1 := [⟨2, 2, some 0, none, .ptr, 30, 6, true, pPair a1 a2, []⟩, ⟨3, 3, some 1, none, .ptr, 30, 6, true, pPair b1 b2, []⟩, ⟨4, 4, some 2, none, .ptr, 30, 6, true, pPair 0 0, []⟩]) (A1 := []) (G1 := [⟨none, none, 0, pPair a1 a2⟩, ⟨none, none, 1, pPair b1 b2⟩, ⟨some 3, none, 5, pI 0⟩]) (V2 := [⟨2, 2, none, none, .ptr, 30, 6, true, pPair a1 a2, []⟩, ⟨3, 3, none, none, .ptr, 30, 6, true, pPair b1 b2, []⟩, ⟨4, 4, none, none, .ptr, 30, 6, true, pPair 0 0, []⟩]) (G2 := [⟨none, none, 5, pI 0⟩]) hI rfl rfl rfl [0, 1, 3, 7] (by kernel_rfl) (by kernel_rfl) ?_ [0, 1, 2] [2] rfl rfl fun a w hI => ?_
  · exact ⟨op_box 0 rfl rfl (by kernel_rfl) (by kernel_rfl) rfl rfl rfl (.tmp 0 rfl rfl) (fits_pair _ _) rfl,
      op_box 1 rfl rfl (by kernel_rfl) (by kernel_rfl) rfl rfl rfl (.tmp 1 rfl rfl) (fits_pair _ _) rfl,
      op_alloc 2 rfl rfl (by kernel_rfl) (by kernel_rfl) rfl rfl rfl zv_Range rfl rfl (by simp [NoU]) (fun w => pS_of (cells_pair0 w)),
      op_assign (.const _) (.here 2 rfl),
      trivial⟩
  refine wp_seq ?_
  refine seq_text (V1 := [⟨2, 2, none, none, .ptr, 30, 6, true, pPair a1 a2, []⟩, ⟨3, 3, none, none, .ptr, 30, 6, true, pPair b1 b2, []⟩, ⟨4, 4, none, none, .ptr, 30, 6, true, pPair 0 0, []⟩]) (A1 := []) (G1 := [⟨none, none, 5, pI 0⟩, ⟨some 0, none, 6, pPair b1 b2⟩, ⟨some 1, none, 7, pRat 0⟩, ⟨some 2, none, 8, pB false⟩]) (V2 := [⟨2, 2, none, none, .ptr, 30, 6, true, pPair a1 a2, []⟩, ⟨3, 3, none, none, .ptr, 30, 6, true, pPair b1 b2, []⟩, ⟨4, 4, none, none, .ptr, 30, 6, true, pPair 0 0, []⟩]) (G2 := [⟨none, none, 5, pI 0⟩, ⟨none, none, 8, pB false⟩]) hI rfl rfl rfl [0, 1, 3] (by kernel_rfl) (by kernel_rfl) ?_ [0, 1, 2] [0, 3] rfl rfl fun a w hI => ?_
  · exact ⟨op_load 1 rfl rfl rfl rfl (by kernel_rfl) ty_Range rfl (.here 1 rfl),
      op_zero bt_Ratio (fun w => isRat_zero w) (.here 2 rfl),
      op_callB2 (fun _ _ => by kernel_rfl) (.tmp 1 rfl rfl) (.tmp 2 rfl rfl) (.here 3 rfl) (cb_known2 (b := false) (cr_has (j := k) (k := 1) ⟨hb.1, hb.2⟩ bd_zero (by omega)) (by rw [← Bool.decide_and]; exact decide_eq_false hz)),
      trivial⟩
  refine cond_no hI 1 rfl ?_
  refine wp_skip ?_
  refine then_of ?_
  refine seq_drawn (V1 := [⟨2, 2, none, none, .ptr, 30, 6, true, pPair a1 a2, []⟩, ⟨3, 3, none, none, .ptr, 30, 6, true, pPair b1 b2, []⟩, ⟨4, 4, none, none, .ptr, 30, 6, true, pPair 0 0, [(22, pPair (min4 (a1 / b1) (a1 / b2) (a2 / b1) (a2 / b2)) (max4 (a1 / b1) (a1 / b2) (a2 / b1) (a2 / b2)))]⟩]) (A1 := [⟨some 0, 10, 2, 0, True⟩, ⟨some 2, 12, 3, 0, True⟩, ⟨some 5, 15, 2, 0, True⟩, ⟨some 7, 17, 3, 3, True⟩, ⟨some 10, 20, 2, 3, True⟩, ⟨some 12, 22, 3, 0, True⟩, ⟨some 15, 25, 2, 3, True⟩, ⟨some 17, 27, 3, 3, True⟩]) (G1 := [⟨none, some 23, 5, pI 0⟩, ⟨none, none, 8, pB false⟩, ⟨some 1, none, 11, pRat a1⟩, ⟨some 3, none, 13, pRat b1⟩, ⟨some 4, none, 14, pRat (a1 / b1)⟩, ⟨some 6, none, 16, pRat a1⟩, ⟨some 8, none, 18, pRat b2⟩, ⟨some 9, none, 19, pRat (a1 / b2)⟩, ⟨some 11, none, 21, pRat a2⟩, ⟨some 13, none, 23, pRat b1⟩, ⟨some 14, none, 24, pRat (a2 / b1)⟩, ⟨some 16, none, 26, pRat a2⟩, ⟨some 18, none, 28, pRat b2⟩, ⟨some 19, none, 29, pRat (a2 / b2)⟩, ⟨some 20, none, 30, pRats ([a1 / b1, a1 / b2, a2 / b1, a2 / b2])⟩, ⟨some 21, none, 31, pPair (min4 (a1 / b1) (a1 / b2) (a2 / b1) (a2 / b2)) (max4 (a1 / b1) (a1 / b2) (a2 / b1) (a2 / b2))⟩, ⟨some 23, none, 5, pI 0⟩]) (V2 := [⟨2, 2, none, none, .ptr, 30, 6, true, pPair a1 a2, []⟩, ⟨3, 3, none, none, .ptr, 30, 6, true, pPair b1 b2, []⟩, ⟨4, 4, none, none, .ptr, 30, 6, true, pPair (min4 (a1 / b1) (a1 / b2) (a2 / b1) (a2 / b2)) (max4 (a1 / b1) (a1 / b2) (a2 / b1) (a2 / b2)), []⟩]) (G2 := [⟨none, none, 5, pI 0⟩]) hI rfl rfl rfl [0, 1, 0, 4, 15, 0, 32, 0, 128, 511, 0, 1024, 0, 4096, 16383, 0, 32768, 0, 131072, 524287, 1048575, 2097151, 4194303, 8388607] (by kernel_rfl) (by kernel_rfl) (by kernel_rfl) (by kernel_rfl) ?_ [0, 1, 2] [15] rfl rfl fun a w hI => ?_
  · exact ⟨op_field 0 rfl rfl rfl 0 rfl rfl rfl rfl (.inl ⟨rfl, rfl⟩) rfl (by kernel_rfl) (fun b w => fa_Range_0 b 0 w),
      op_loadAl 0 rfl 0 rfl rfl rfl rfl rfl trivial rfl rfl (by kernel_rfl) ty_Ratio rfl rfl (fd_get (fs := [⟨true, 3, pRat a1⟩, ⟨true, 3, pRat a2⟩]) 0 (f := ⟨true, 3, pRat a1⟩) rfl (off := 0) rfl) (.here 2 rfl),
      op_field 1 rfl rfl rfl 1 rfl rfl rfl rfl (.inl ⟨rfl, rfl⟩) rfl (by kernel_rfl) (fun b w => fa_Range_0 b 0 w),
      op_loadAl 1 rfl 1 rfl rfl rfl rfl rfl trivial rfl rfl (by kernel_rfl) ty_Ratio rfl rfl (fd_get (fs := [⟨true, 3, pRat b1⟩, ⟨true, 3, pRat b2⟩]) 0 (f := ⟨true, 3, pRat b1⟩) rfl (off := 0) rfl) (.here 3 rfl),
      op_call2 (fun _ _ => by kernel_rfl) (numlike_rat _) (.tmp 2 rfl rfl) (.tmp 3 rfl rfl) (.here 4 rfl) (c_by ha.1 hb.1 (by omega) h1),
      op_field 0 rfl rfl rfl 2 rfl rfl rfl rfl (.inl ⟨rfl, rfl⟩) rfl (by kernel_rfl) (fun b w => fa_Range_0 b 0 w),
      op_loadAl 0 rfl 2 rfl rfl rfl rfl rfl trivial rfl rfl (by kernel_rfl) ty_Ratio rfl rfl (fd_get (fs := [⟨true, 3, pRat a1⟩, ⟨true, 3, pRat a2⟩]) 0 (f := ⟨true, 3, pRat a1⟩) rfl (off := 0) rfl) (.here 5 rfl),
      op_field 1 rfl rfl rfl 3 rfl rfl rfl rfl (.inl ⟨rfl, rfl⟩) rfl (by kernel_rfl) (fun b w => fa_Range_1 b 0 w),
      op_loadAl 1 rfl 3 rfl rfl rfl rfl rfl trivial rfl rfl (by kernel_rfl) ty_Ratio rfl rfl (fd_get (fs := [⟨true, 3, pRat b1⟩, ⟨true, 3, pRat b2⟩]) 1 (f := ⟨true, 3, pRat b2⟩) rfl (off := 3) rfl) (.here 6 rfl),
      op_call2 (fun _ _ => by kernel_rfl) (numlike_rat _) (.tmp 5 rfl rfl) (.tmp 6 rfl rfl) (.here 7 rfl) (c_by ha.1 hb.2 (by omega) h2),
      op_field 0 rfl rfl rfl 4 rfl rfl rfl rfl (.inl ⟨rfl, rfl⟩) rfl (by kernel_rfl) (fun b w => fa_Range_1 b 0 w),
      op_loadAl 0 rfl 4 rfl rfl rfl rfl rfl trivial rfl rfl (by kernel_rfl) ty_Ratio rfl rfl (fd_get (fs := [⟨true, 3, pRat a1⟩, ⟨true, 3, pRat a2⟩]) 1 (f := ⟨true, 3, pRat a2⟩) rfl (off := 3) rfl) (.here 8 rfl),
      op_field 1 rfl rfl rfl 5 rfl rfl rfl rfl (.inl ⟨rfl, rfl⟩) rfl (by kernel_rfl) (fun b w => fa_Range_0 b 0 w),
      op_loadAl 1 rfl 5 rfl rfl rfl rfl rfl trivial rfl rfl (by kernel_rfl) ty_Ratio rfl rfl (fd_get (fs := [⟨true, 3, pRat b1⟩, ⟨true, 3, pRat b2⟩]) 0 (f := ⟨true, 3, pRat b1⟩) rfl (off := 0) rfl) (.here 9 rfl),
      op_call2 (fun _ _ => by kernel_rfl) (numlike_rat _) (.tmp 8 rfl rfl) (.tmp 9 rfl rfl) (.here 10 rfl) (c_by ha.2 hb.1 (by omega) h1),
      op_field 0 rfl rfl rfl 6 rfl rfl rfl rfl (.inl ⟨rfl, rfl⟩) rfl (by kernel_rfl) (fun b w => fa_Range_1 b 0 w),
      op_loadAl 0 rfl 6 rfl rfl rfl rfl rfl trivial rfl rfl (by kernel_rfl) ty_Ratio rfl rfl (fd_get (fs := [⟨true, 3, pRat a1⟩, ⟨true, 3, pRat a2⟩]) 1 (f := ⟨true, 3, pRat a2⟩) rfl (off := 3) rfl) (.here 11 rfl),
      op_field 1 rfl rfl rfl 7 rfl rfl rfl rfl (.inl ⟨rfl, rfl⟩) rfl (by kernel_rfl) (fun b w => fa_Range_1 b 0 w),
      op_loadAl 1 rfl 7 rfl rfl rfl rfl rfl trivial rfl rfl (by kernel_rfl) ty_Ratio rfl rfl (fd_get (fs := [⟨true, 3, pRat b1⟩, ⟨true, 3, pRat b2⟩]) 1 (f := ⟨true, 3, pRat b2⟩) rfl (off := 3) rfl) (.here 12 rfl),
      op_call2 (fun _ _ => by kernel_rfl) (numlike_rat _) (.tmp 11 rfl rfl) (.tmp 12 rfl rfl) (.here 13 rfl) (c_by ha.2 hb.2 (by omega) h2),
      op_buildSlice (fs := List.replicate 4 ⟨true, 3, pRat 0⟩) (ps := [(0, pRat (a1 / b1)), (1, pRat (a1 / b2)), (2, pRat (a2 / b1)), (3, pRat (a2 / b2))]) (gs := [a1 / b1, a1 / b2, a2 / b1, a2 / b2].map fun q => ⟨true, 3, pRat q⟩) sl_Ratios zv_Ratio rfl rfl rfl (fun w => isRat_zero w) rfl (show HasParts _ _ _ _ _ _ from ⟨⟨rfl, (.tmp 4 rfl rfl), _, rfl, fits_rat _⟩, ⟨rfl, (.tmp 7 rfl rfl), _, rfl, fits_rat _⟩, ⟨rfl, (.tmp 10 rfl rfl), _, rfl, fits_rat _⟩, ⟨rfl, (.tmp 13 rfl rfl), _, rfl, fits_rat _⟩, trivial⟩) rfl (fun i => pRat ([a1 / b1, a1 / b2, a2 / b1, a2 / b2].getD i 0)) (rats_fd _) (.here 14 rfl),
      op_callB1 (fun _ _ => by kernel_rfl) (.tmp 14 rfl rfl) (.here 15 rfl) (cr_around (j := (j + k)) (by simp) (by simp) (bd4 (((ha.1).quo hb.1)) (((ha.1).quo hb.2)) (((ha.2).quo hb.1)) (((ha.2).quo hb.2))) (by omega)),
      op_store 2 rfl rfl rfl rfl 0 rfl (by kernel_rfl) (by kernel_rfl) ty_Range (.tmp 15 rfl rfl) (fits_pair _ _),
      op_assign (.const _) (.here 16 rfl),
      trivial⟩
  refine wp_ret ?_
  exact fin2 hI rfl (.cell 2 rfl rfl rfl rfl ty_Range rfl) (.tmp 0 rfl)
set_option maxRecDepth 100000 in
theorem cr_meet_none {a1 a2 b1 b2 : Rat} {j : Nat} (ha : BdR j a1 ∧ BdR j a2) (hb : BdR j b1 ∧ BdR j b2) (hj : j + j ≤ 100000000) (hz : min2 a2 b2 < max2 a1 b1) : ∀ (M : Nat → Nat → Prop) (w : World) (v0 v1 : Value), Mid M w → Box M (fun w => (pPair a1 a2) w v0) w → Box M (fun w => (pPair b1 b2) w v1) w → Calls Tryz.prog 30 #[v0, v1] w (RetB M (pTup2 (pPair 0 0) (pI 5)) w) := by
  intro M w0 v0 v1 hM hv0 hv1
  refine calls_start (N := 30) Tryz.func30 rfl rfl rfl hM (show EntsA M w0 [v0, v1] [⟨none, none, 0, pPair a1 a2⟩, ⟨none, none, 1, pPair b1 b2⟩] from ⟨⟨rfl, _, rfl, hv0⟩, ⟨rfl, _, rfl, hv1⟩, trivial⟩) fun a hI => ?_
  refine seq_text (V1 := [⟨2, 2, some 0, none, .ptr, 30, 6, true, pPair a1 a2, []⟩, ⟨3, 3, some 1, none, .ptr, 30, 6, true, pPair b1 b2, []⟩, ⟨4, 4, some 2, none, .ptr, 30, 6, true, pPair 0 0, []⟩]) (A1 := []) (G1 := [⟨none, none, 0, pPair a1 a2⟩, ⟨none, none, 1, pPair b1 b2⟩, ⟨some 3, none, 5, pI 0⟩]) (V2 := [⟨2, 2, none, none, .ptr, 30, 6, true, pPair a1 a2, []⟩, ⟨3, 3, none, none, .ptr, 30, 6, true, pPair b1 b2, []⟩, ⟨4, 4, none, none, .ptr, 30, 6, true, pPair 0 0, []⟩]) (G2 := [⟨none, none, 5, pI 0⟩]) hI rfl rfl rfl [0, 1, 3, 7] (by kernel_rfl) (by kernel_rfl) ?_ [0, 1, 2] [2] rfl rfl fun a w hI => ?_
  · exact ⟨op_box 0 rfl rfl (by kernel_rfl) (by kernel_rfl) rfl rfl rfl (.tmp 0 rfl rfl) (fits_pair _ _) rfl,
      op_box 1 rfl rfl (by kernel_rfl) (by kernel_rfl) rfl rfl rfl (.tmp 1 rfl rfl) (fits_pair _ _) rfl,
      op_alloc 2 rfl rfl (by kernel_rfl) (by kernel_rfl) rfl rfl rfl zv_Range rfl rfl (by simp [NoU]) (fun w => pS_of (cells_pair0 w)),
      op_assign (.const _) (.here 2 rfl),
      trivial⟩
  refine seq_drawn (V1 := [⟨2, 2, none, none, .ptr, 30, 6, true, pPair a1 a2, []⟩, ⟨3, 3, none, none, .ptr, 30, 6, true, pPair b1 b2, []⟩, ⟨4, 4, none, none, .ptr, 30, 6, true, pPair 0 0, []⟩, ⟨6, 6, some 14, none, .ptr, 28, 3, true, pRat 0, [(16, pRat (max2 a1 b1))]⟩, ⟨7, 7, some 15, none, .ptr, 28, 3, true, pRat 0, [(17, pRat (min2 a2 b2))]⟩]) (A1 := [⟨some 0, 8, 2, 0, True⟩, ⟨some 2, 10, 3, 0, True⟩, ⟨some 7, 15, 2, 3, True⟩, ⟨some 9, 17, 3, 3, True⟩]) (G1 := [⟨none, none, 5, pI 0⟩, ⟨some 1, none, 9, pRat a1⟩, ⟨some 3, none, 11, pRat b1⟩, ⟨some 4, none, 12, pRats ([a1, b1])⟩, ⟨some 5, none, 13, pPair (min2 a1 b1) (max2 a1 b1)⟩, ⟨some 6, none, 14, pRat (max2 a1 b1)⟩, ⟨some 8, none, 16, pRat a2⟩, ⟨some 10, none, 18, pRat b2⟩, ⟨some 11, none, 19, pRats ([a2, b2])⟩, ⟨some 12, none, 20, pPair (min2 a2 b2) (max2 a2 b2)⟩, ⟨some 13, none, 21, pRat (min2 a2 b2)⟩]) (V2 := [⟨2, 2, none, none, .ptr, 30, 6, true, pPair a1 a2, []⟩, ⟨3, 3, none, none, .ptr, 30, 6, true, pPair b1 b2, []⟩, ⟨4, 4, none, none, .ptr, 30, 6, true, pPair 0 0, []⟩, ⟨6, 6, none, none, .ptr, 28, 3, true, pRat (max2 a1 b1), []⟩, ⟨7, 7, none, none, .ptr, 28, 3, true, pRat (min2 a2 b2), []⟩]) (G2 := [⟨none, none, 5, pI 0⟩]) hI rfl rfl rfl [0, 1, 0, 4, 15, 31, 63, 0, 128, 0, 512, 1920, 4031, 8127, 0, 0, 57343, 131071] (by kernel_rfl) (by kernel_rfl) (by kernel_rfl) (by kernel_rfl) ?_ [0, 1, 2, 3, 4] [0] rfl rfl fun a w hI => ?_
  · exact ⟨op_field 0 rfl rfl rfl 0 rfl rfl rfl rfl (.inl ⟨rfl, rfl⟩) rfl (by kernel_rfl) (fun b w => fa_Range_0 b 0 w),
      op_loadAl 0 rfl 0 rfl rfl rfl rfl rfl trivial rfl rfl (by kernel_rfl) ty_Ratio rfl rfl (fd_get (fs := [⟨true, 3, pRat a1⟩, ⟨true, 3, pRat a2⟩]) 0 (f := ⟨true, 3, pRat a1⟩) rfl (off := 0) rfl) (.here 1 rfl),
      op_field 1 rfl rfl rfl 1 rfl rfl rfl rfl (.inl ⟨rfl, rfl⟩) rfl (by kernel_rfl) (fun b w => fa_Range_0 b 0 w),
      op_loadAl 1 rfl 1 rfl rfl rfl rfl rfl trivial rfl rfl (by kernel_rfl) ty_Ratio rfl rfl (fd_get (fs := [⟨true, 3, pRat b1⟩, ⟨true, 3, pRat b2⟩]) 0 (f := ⟨true, 3, pRat b1⟩) rfl (off := 0) rfl) (.here 2 rfl),
      op_buildSlice (fs := List.replicate 2 ⟨true, 3, pRat 0⟩) (ps := [(0, pRat a1), (1, pRat b1)]) (gs := [a1, b1].map fun q => ⟨true, 3, pRat q⟩) sl_Ratios zv_Ratio rfl rfl rfl (fun w => isRat_zero w) rfl (show HasParts _ _ _ _ _ _ from ⟨⟨rfl, (.tmp 1 rfl rfl), _, rfl, fits_rat _⟩, ⟨rfl, (.tmp 2 rfl rfl), _, rfl, fits_rat _⟩, trivial⟩) rfl (fun i => pRat ([a1, b1].getD i 0)) (rats_fd _) (.here 3 rfl),
      op_callB1 (fun _ _ => by kernel_rfl) (.tmp 3 rfl rfl) (.here 4 rfl) (cr_around (j := j) (by simp) (by simp) (bd2 (ha.1) (hb.1)) (by omega)),
      op_fieldV (fs := [⟨true, 3, pRat (min2 a1 b1)⟩, ⟨true, 3, pRat (max2 a1 b1)⟩]) 1 (.tmp 4 rfl rfl) rfl (off := 3) rfl (n := 3) rfl rfl (fun _ _ => by kernel_rfl) (.here 5 rfl),
      op_field 0 rfl rfl rfl 2 rfl rfl rfl rfl (.inl ⟨rfl, rfl⟩) rfl (by kernel_rfl) (fun b w => fa_Range_1 b 0 w),
      op_loadAl 0 rfl 2 rfl rfl rfl rfl rfl trivial rfl rfl (by kernel_rfl) ty_Ratio rfl rfl (fd_get (fs := [⟨true, 3, pRat a1⟩, ⟨true, 3, pRat a2⟩]) 1 (f := ⟨true, 3, pRat a2⟩) rfl (off := 3) rfl) (.here 6 rfl),
      op_field 1 rfl rfl rfl 3 rfl rfl rfl rfl (.inl ⟨rfl, rfl⟩) rfl (by kernel_rfl) (fun b w => fa_Range_1 b 0 w),
      op_loadAl 1 rfl 3 rfl rfl rfl rfl rfl trivial rfl rfl (by kernel_rfl) ty_Ratio rfl rfl (fd_get (fs := [⟨true, 3, pRat b1⟩, ⟨true, 3, pRat b2⟩]) 1 (f := ⟨true, 3, pRat b2⟩) rfl (off := 3) rfl) (.here 7 rfl),
      op_buildSlice (fs := List.replicate 2 ⟨true, 3, pRat 0⟩) (ps := [(0, pRat a2), (1, pRat b2)]) (gs := [a2, b2].map fun q => ⟨true, 3, pRat q⟩) sl_Ratios zv_Ratio rfl rfl rfl (fun w => isRat_zero w) rfl (show HasParts _ _ _ _ _ _ from ⟨⟨rfl, (.tmp 6 rfl rfl), _, rfl, fits_rat _⟩, ⟨rfl, (.tmp 7 rfl rfl), _, rfl, fits_rat _⟩, trivial⟩) rfl (fun i => pRat ([a2, b2].getD i 0)) (rats_fd _) (.here 8 rfl),
      op_callB1 (fun _ _ => by kernel_rfl) (.tmp 8 rfl rfl) (.here 9 rfl) (cr_around (j := j) (by simp) (by simp) (bd2 (ha.2) (hb.2)) (by omega)),
      op_fieldV (fs := [⟨true, 3, pRat (min2 a2 b2)⟩, ⟨true, 3, pRat (max2 a2 b2)⟩]) 0 (.tmp 9 rfl rfl) rfl (off := 0) rfl (n := 3) rfl rfl (fun _ _ => by kernel_rfl) (.here 10 rfl),
      op_alloc 3 rfl rfl (by kernel_rfl) (by kernel_rfl) rfl rfl rfl zv_Ratio rfl rfl (by simp [NoU]) (fun w => isRat_zero w),
      op_alloc 4 rfl rfl (by kernel_rfl) (by kernel_rfl) rfl rfl rfl zv_Ratio rfl rfl (by simp [NoU]) (fun w => isRat_zero w),
      op_store 3 rfl rfl rfl rfl 0 rfl (by kernel_rfl) (by kernel_rfl) ty_Ratio (.tmp 5 rfl rfl) (fits_rat _),
      op_store 4 rfl rfl rfl rfl 0 rfl (by kernel_rfl) (by kernel_rfl) ty_Ratio (.tmp 10 rfl rfl) (fits_rat _),
      trivial⟩
  refine wp_seq ?_
  refine seq_text (V1 := [⟨2, 2, none, none, .ptr, 30, 6, true, pPair a1 a2, []⟩, ⟨3, 3, none, none, .ptr, 30, 6, true, pPair b1 b2, []⟩, ⟨4, 4, none, none, .ptr, 30, 6, true, pPair 0 0, []⟩, ⟨6, 6, none, none, .ptr, 28, 3, true, pRat (max2 a1 b1), []⟩, ⟨7, 7, none, none, .ptr, 28, 3, true, pRat (min2 a2 b2), []⟩]) (A1 := []) (G1 := [⟨none, none, 5, pI 0⟩, ⟨some 0, none, 22, pRat (max2 a1 b1)⟩, ⟨some 1, none, 23, pRat (min2 a2 b2)⟩, ⟨some 2, none, 24, pI (cmpT (max2 a1 b1) (min2 a2 b2))⟩, ⟨some 3, none, 25, pB true⟩]) (V2 := [⟨2, 2, none, none, .ptr, 30, 6, true, pPair a1 a2, []⟩, ⟨3, 3, none, none, .ptr, 30, 6, true, pPair b1 b2, []⟩, ⟨4, 4, none, none, .ptr, 30, 6, true, pPair 0 0, []⟩, ⟨6, 6, none, none, .ptr, 28, 3, true, pRat (max2 a1 b1), []⟩, ⟨7, 7, none, none, .ptr, 28, 3, true, pRat (min2 a2 b2), []⟩]) (G2 := [⟨none, none, 5, pI 0⟩, ⟨none, none, 25, pB true⟩]) hI rfl rfl rfl [0, 1, 3, 7] (by kernel_rfl) (by kernel_rfl) ?_ [0, 1, 2, 3, 4] [0, 4] rfl rfl fun a w hI => ?_
  · exact ⟨op_load 3 rfl rfl rfl rfl (by kernel_rfl) ty_Ratio rfl (.here 1 rfl),
      op_load 4 rfl rfl rfl rfl (by kernel_rfl) ty_Ratio rfl (.here 2 rfl),
      op_call2 (fun _ _ => by kernel_rfl) (numlike_eq _) (.tmp 1 rfl rfl) (.tmp 2 rfl rfl) (.here 3 rfl) (c_cmp (bd_max2 (ha.1) (hb.1)) (bd_min2 (ha.2) (hb.2)) (by omega)),
      op_bin (v := .bool (decide ((cmpT (max2 a1 b1) (min2 a2 b2)) > (0 : Int)))) (.tmp 3 rfl rfl) (.const _) (fun _ => rfl) (.at_ 4 _ _ rfl (pB_eq ((dec_gt _ _).trans (decide_eq_true hz)))),
      trivial⟩
  refine cond_yes hI 1 rfl ?_
  refine seq_text (V1 := [⟨2, 2, none, none, .ptr, 30, 6, true, pPair a1 a2, []⟩, ⟨3, 3, none, none, .ptr, 30, 6, true, pPair b1 b2, []⟩, ⟨4, 4, none, none, .ptr, 30, 6, true, pPair 0 0, [(1, pPair 0 0)]⟩, ⟨6, 6, none, none, .ptr, 28, 3, true, pRat (max2 a1 b1), []⟩, ⟨7, 7, none, none, .ptr, 28, 3, true, pRat (min2 a2 b2), []⟩]) (A1 := []) (G1 := [⟨none, some 2, 5, pI 0⟩, ⟨none, none, 25, pB true⟩, ⟨some 0, none, 26, pPair 0 0⟩, ⟨some 2, none, 5, pI 5⟩]) (V2 := [⟨2, 2, none, none, .ptr, 30, 6, true, pPair a1 a2, []⟩, ⟨3, 3, none, none, .ptr, 30, 6, true, pPair b1 b2, []⟩, ⟨4, 4, none, none, .ptr, 30, 6, true, pPair 0 0, []⟩, ⟨6, 6, none, none, .ptr, 28, 3, true, pRat (max2 a1 b1), []⟩, ⟨7, 7, none, none, .ptr, 28, 3, true, pRat (min2 a2 b2), []⟩]) (G2 := [⟨none, none, 5, pI 5⟩]) hI rfl rfl rfl [0, 1, 3] (by kernel_rfl) (by kernel_rfl) ?_ [0, 1, 2, 3, 4] [2] rfl rfl fun a w hI => ?_
  · exact ⟨op_build (fs := [⟨true, 3, pRat 0⟩, ⟨true, 3, pRat 0⟩]) (ps := []) bt_Range (places_ok (by kernel_rfl)) (cells_pair0) trivial rfl (.here 2 rfl),
      op_store 2 rfl rfl rfl rfl 0 rfl (by kernel_rfl) (by kernel_rfl) ty_Range (.tmp 2 rfl rfl) (fits_pair _ _),
      op_assign (.const _) (.here 3 rfl),
      trivial⟩
  refine wp_ret ?_
  refine then_ret ?_
  exact fin2 hI rfl (.cell 2 rfl rfl rfl rfl ty_Range rfl) (.tmp 0 rfl)
set_option maxRecDepth 100000 in
theorem cr_meet_ok {a1 a2 b1 b2 : Rat} {j : Nat} (ha : BdR j a1 ∧ BdR j a2) (hb : BdR j b1 ∧ BdR j b2) (hj : j + j ≤ 100000000) (hz : ¬ min2 a2 b2 < max2 a1 b1) : ∀ (M : Nat → Nat → Prop) (w : World) (v0 v1 : Value), Mid M w → Box M (fun w => (pPair a1 a2) w v0) w → Box M (fun w => (pPair b1 b2) w v1) w → Calls Tryz.prog 30 #[v0, v1] w (RetB M (pTup2 (pPair (max2 a1 b1) (min2 a2 b2)) (pI 0)) w) := by
  intro M w0 v0 v1 hM hv0 hv1
  refine calls_start (N := 30) Tryz.func30 rfl rfl rfl hM (show EntsA M w0 [v0, v1] [⟨none, none, 0, pPair a1 a2⟩, ⟨none, none, 1, pPair b1 b2⟩] from ⟨⟨rfl, _, rfl, hv0⟩, ⟨rfl, _, rfl, hv1⟩, trivial⟩) fun a hI => ?_
  refine seq_text (V1 := [⟨2, 2, some 0, none, .ptr, 30, 6, true, pPair a1 a2, []⟩, ⟨3, 3, some 1, none, .ptr, 30, 6, true, pPair b1 b2, []⟩, ⟨4, 4, some 2, none, .ptr, 30, 6, true, pPair 0 0, []⟩]) (A1 := []) (G1 := [⟨none, none, 0, pPair a1 a2⟩, ⟨none, none, 1, pPair b1 b2⟩, ⟨some 3, none, 5, pI 0⟩]) (V2 := [⟨2, 2, none, none, .ptr, 30, 6, true, pPair a1 a2, []⟩, ⟨3, 3, none, none, .ptr, 30, 6, true, pPair b1 b2, []⟩, ⟨4, 4, none, none, .ptr, 30, 6, true, pPair 0 0, []⟩]) (G2 := [⟨none, none, 5, pI 0⟩]) hI rfl rfl rfl [0, 1, 3, 7] (by kernel_rfl) (by kernel_rfl) ?_ [0, 1, 2] [2] rfl rfl fun a w hI => ?_
  · exact ⟨op_box 0 rfl rfl (by kernel_rfl) (by kernel_rfl) rfl rfl rfl (.tmp 0 rfl rfl) (fits_pair _ _) rfl,
      op_box 1 rfl rfl (by kernel_rfl) (by kernel_rfl) rfl rfl rfl (.tmp 1 rfl rfl) (fits_pair _ _) rfl,
      op_alloc 2 rfl rfl (by kernel_rfl) (by kernel_rfl) rfl rfl rfl zv_Range rfl rfl (by simp [NoU]) (fun w => pS_of (cells_pair0 w)),
      op_assign (.const _) (.here 2 rfl),
      trivial⟩
  refine seq_drawn (V1 := [⟨2, 2, none, none, .ptr, 30, 6, true, pPair a1 a2, []⟩, ⟨3, 3, none, none, .ptr, 30, 6, true, pPair b1 b2, []⟩, ⟨4, 4, none, none, .ptr, 30, 6, true, pPair 0 0, []⟩, ⟨6, 6, some 14, none, .ptr, 28, 3, true, pRat 0, [(16, pRat (max2 a1 b1))]⟩, ⟨7, 7, some 15, none, .ptr, 28, 3, true, pRat 0, [(17, pRat (min2 a2 b2))]⟩]) (A1 := [⟨some 0, 8, 2, 0, True⟩, ⟨some 2, 10, 3, 0, True⟩, ⟨some 7, 15, 2, 3, True⟩, ⟨some 9, 17, 3, 3, True⟩]) (G1 := [⟨none, none, 5, pI 0⟩, ⟨some 1, none, 9, pRat a1⟩, ⟨some 3, none, 11, pRat b1⟩, ⟨some 4, none, 12, pRats ([a1, b1])⟩, ⟨some 5, none, 13, pPair (min2 a1 b1) (max2 a1 b1)⟩, ⟨some 6, none, 14, pRat (max2 a1 b1)⟩, ⟨some 8, none, 16, pRat a2⟩, ⟨some 10, none, 18, pRat b2⟩, ⟨some 11, none, 19, pRats ([a2, b2])⟩, ⟨some 12, none, 20, pPair (min2 a2 b2) (max2 a2 b2)⟩, ⟨some 13, none, 21, pRat (min2 a2 b2)⟩]) (V2 := [⟨2, 2, none, none, .ptr, 30, 6, true, pPair a1 a2, []⟩, ⟨3, 3, none, none, .ptr, 30, 6, true, pPair b1 b2, []⟩, ⟨4, 4, none, none, .ptr, 30, 6, true, pPair 0 0, []⟩, ⟨6, 6, none, none, .ptr, 28, 3, true, pRat (max2 a1 b1), []⟩, ⟨7, 7, none, none, .ptr, 28, 3, true, pRat (min2 a2 b2), []⟩]) (G2 := [⟨none, none, 5, pI 0⟩]) hI rfl rfl rfl [0, 1, 0, 4, 15, 31, 63, 0, 128, 0, 512, 1920, 4031, 8127, 0, 0, 57343, 131071] (by kernel_rfl) (by kernel_rfl) (by kernel_rfl) (by kernel_rfl) ?_ [0, 1, 2, 3, 4] [0] rfl rfl fun a w hI => ?_
  · exact ⟨op_field 0 rfl rfl rfl 0 rfl rfl rfl rfl (.inl ⟨rfl, rfl⟩) rfl (by kernel_rfl) (fun b w => fa_Range_0 b 0 w),
      op_loadAl 0 rfl 0 rfl rfl rfl rfl rfl trivial rfl rfl (by kernel_rfl) ty_Ratio rfl rfl (fd_get (fs := [⟨true, 3, pRat a1⟩, ⟨true, 3, pRat a2⟩]) 0 (f := ⟨true, 3, pRat a1⟩) rfl (off := 0) rfl) (.here 1 rfl),
      op_field 1 rfl rfl rfl 1 rfl rfl rfl rfl (.inl ⟨rfl, rfl⟩) rfl (by kernel_rfl) (fun b w => fa_Range_0 b 0 w),
      op_loadAl 1 rfl 1 rfl rfl rfl rfl rfl trivial rfl rfl (by kernel_rfl) ty_Ratio rfl rfl (fd_get (fs := [⟨true, 3, pRat b1⟩, ⟨true, 3, pRat b2⟩]) 0 (f := ⟨true, 3, pRat b1⟩) rfl (off := 0) rfl) (.here 2 rfl),
      op_buildSlice (fs := List.replicate 2 ⟨true, 3, pRat 0⟩) (ps := [(0, pRat a1), (1, pRat b1)]) (gs := [a1, b1].map fun q => ⟨true, 3, pRat q⟩) sl_Ratios zv_Ratio rfl rfl rfl (fun w => isRat_zero w) rfl (show HasParts _ _ _ _ _ _ from ⟨⟨rfl, (.tmp 1 rfl rfl), _, rfl, fits_rat _⟩, ⟨rfl, (.tmp 2 rfl rfl), _, rfl, fits_rat _⟩, trivial⟩) rfl (fun i => pRat ([a1, b1].getD i 0)) (rats_fd _) (.here 3 rfl),
      op_callB1 (fun _ _ => by kernel_rfl) (.tmp 3 rfl rfl) (.here 4 rfl) (cr_around (j := j) (by simp) (by simp) (bd2 (ha.1) (hb.1)) (by omega)),
      op_fieldV (fs := [⟨true, 3, pRat (min2 a1 b1)⟩, ⟨true, 3, pRat (max2 a1 b1)⟩]) 1 (.tmp 4 rfl rfl) rfl (off := 3) rfl (n := 3) rfl rfl (fun _ _ => by kernel_rfl) (.here 5 rfl),
      op_field 0 rfl rfl rfl 2 rfl rfl rfl rfl (.inl ⟨rfl, rfl⟩) rfl (by kernel_rfl) (fun b w => fa_Range_1 b 0 w),
      op_loadAl 0 rfl 2 rfl rfl rfl rfl rfl trivial rfl rfl (by kernel_rfl) ty_Ratio rfl rfl (fd_get (fs := [⟨true, 3, pRat a1⟩, ⟨true, 3, pRat a2⟩]) 1 (f := ⟨true, 3, pRat a2⟩) rfl (off := 3) rfl) (.here 6 rfl),
      op_field 1 rfl rfl rfl 3 rfl rfl rfl rfl (.inl ⟨rfl, rfl⟩) rfl (by kernel_rfl) (fun b w => fa_Range_1 b 0 w),
      op_loadAl 1 rfl 3 rfl rfl rfl rfl rfl trivial rfl rfl (by kernel_rfl) ty_Ratio rfl rfl (fd_get (fs := [⟨true, 3, pRat b1⟩, ⟨true, 3, pRat b2⟩]) 1 (f := ⟨true, 3, pRat b2⟩) rfl (off := 3) rfl) (.here 7 rfl),
      op_buildSlice (fs := List.replicate 2 ⟨true, 3, pRat 0⟩) (ps := [(0, pRat a2), (1, pRat b2)]) (gs := [a2, b2].map fun q => ⟨true, 3, pRat q⟩) sl_Ratios zv_Ratio rfl rfl rfl (fun w => isRat_zero w) rfl (show HasParts _ _ _ _ _ _ from ⟨⟨rfl, (.tmp 6 rfl rfl), _, rfl, fits_rat _⟩, ⟨rfl, (.tmp 7 rfl rfl), _, rfl, fits_rat _⟩, trivial⟩) rfl (fun i => pRat ([a2, b2].getD i 0)) (rats_fd _) (.here 8 rfl),
      op_callB1 (fun _ _ => by kernel_rfl) (.tmp 8 rfl rfl) (.here 9 rfl) (cr_around (j := j) (by simp) (by simp) (bd2 (ha.2) (hb.2)) (by omega)),
      op_fieldV (fs := [⟨true, 3, pRat (min2 a2 b2)⟩, ⟨true, 3, pRat (max2 a2 b2)⟩]) 0 (.tmp 9 rfl rfl) rfl (off := 0) rfl (n := 3) rfl rfl (fun _ _ => by kernel_rfl) (.here 10 rfl),
      op_alloc 3 rfl rfl (by kernel_rfl) (by kernel_rfl) rfl rfl rfl zv_Ratio rfl rfl (by simp [NoU]) (fun w => isRat_zero w),
      op_alloc 4 rfl rfl (by kernel_rfl) (by kernel_rfl) rfl rfl rfl zv_Ratio rfl rfl (by simp [NoU]) (fun w => isRat_zero w),
      op_store 3 rfl rfl rfl rfl 0 rfl (by kernel_rfl) (by kernel_rfl) ty_Ratio (.tmp 5 rfl rfl) (fits_rat _),
      op_store 4 rfl rfl rfl rfl 0 rfl (by kernel_rfl) (by kernel_rfl) ty_Ratio (.tmp 10 rfl rfl) (fits_rat _),
      trivial⟩
  refine wp_seq ?_
  refine seq_text (V1 := [⟨2, 2, none, none, .ptr, 30, 6, true, pPair a1 a2, []⟩, ⟨3, 3, none, none, .ptr, 30, 6, true, pPair b1 b2, []⟩, ⟨4, 4, none, none, .ptr, 30, 6, true, pPair 0 0, []⟩, ⟨6, 6, none, none, .ptr, 28, 3, true, pRat (max2 a1 b1), []⟩, ⟨7, 7, none, none, .ptr, 28, 3, true, pRat (min2 a2 b2), []⟩]) (A1 := []) (G1 := [⟨none, none, 5, pI 0⟩, ⟨some 0, none, 22, pRat (max2 a1 b1)⟩, ⟨some 1, none, 23, pRat (min2 a2 b2)⟩, ⟨some 2, none, 24, pI (cmpT (max2 a1 b1) (min2 a2 b2))⟩, ⟨some 3, none, 25, pB false⟩]) (V2 := [⟨2, 2, none, none, .ptr, 30, 6, true, pPair a1 a2, []⟩, ⟨3, 3, none, none, .ptr, 30, 6, true, pPair b1 b2, []⟩, ⟨4, 4, none, none, .ptr, 30, 6, true, pPair 0 0, []⟩, ⟨6, 6, none, none, .ptr, 28, 3, true, pRat (max2 a1 b1), []⟩, ⟨7, 7, none, none, .ptr, 28, 3, true, pRat (min2 a2 b2), []⟩]) (G2 := [⟨none, none, 5, pI 0⟩, ⟨none, none, 25, pB false⟩]) hI rfl rfl rfl [0, 1, 3, 7] (by kernel_rfl) (by kernel_rfl) ?_ [0, 1, 2, 3, 4] [0, 4] rfl rfl fun a w hI => ?_
  · exact ⟨op_load 3 rfl rfl rfl rfl (by kernel_rfl) ty_Ratio rfl (.here 1 rfl),
      op_load 4 rfl rfl rfl rfl (by kernel_rfl) ty_Ratio rfl (.here 2 rfl),
      op_call2 (fun _ _ => by kernel_rfl) (numlike_eq _) (.tmp 1 rfl rfl) (.tmp 2 rfl rfl) (.here 3 rfl) (c_cmp (bd_max2 (ha.1) (hb.1)) (bd_min2 (ha.2) (hb.2)) (by omega)),
      op_bin (v := .bool (decide ((cmpT (max2 a1 b1) (min2 a2 b2)) > (0 : Int)))) (.tmp 3 rfl rfl) (.const _) (fun _ => rfl) (.at_ 4 _ _ rfl (pB_eq ((dec_gt _ _).trans (decide_eq_false hz)))),
      trivial⟩
  refine cond_no hI 1 rfl ?_
  refine wp_skip ?_
  refine then_of ?_
  refine seq_text (V1 := [⟨2, 2, none, none, .ptr, 30, 6, true, pPair a1 a2, []⟩, ⟨3, 3, none, none, .ptr, 30, 6, true, pPair b1 b2, []⟩, ⟨4, 4, none, none, .ptr, 30, 6, true, pPair 0 0, [(3, pPair (max2 a1 b1) (min2 a2 b2))]⟩, ⟨6, 6, none, none, .ptr, 28, 3, true, pRat (max2 a1 b1), []⟩, ⟨7, 7, none, none, .ptr, 28, 3, true, pRat (min2 a2 b2), []⟩]) (A1 := []) (G1 := [⟨none, some 4, 5, pI 0⟩, ⟨none, none, 25, pB false⟩, ⟨some 0, none, 27, pRat (max2 a1 b1)⟩, ⟨some 1, none, 28, pRat (min2 a2 b2)⟩, ⟨some 2, none, 29, pPair (max2 a1 b1) (min2 a2 b2)⟩, ⟨some 4, none, 5, pI 0⟩]) (V2 := [⟨2, 2, none, none, .ptr, 30, 6, true, pPair a1 a2, []⟩, ⟨3, 3, none, none, .ptr, 30, 6, true, pPair b1 b2, []⟩, ⟨4, 4, none, none, .ptr, 30, 6, true, pPair (max2 a1 b1) (min2 a2 b2), []⟩, ⟨6, 6, none, none, .ptr, 28, 3, true, pRat (max2 a1 b1), []⟩, ⟨7, 7, none, none, .ptr, 28, 3, true, pRat (min2 a2 b2), []⟩]) (G2 := [⟨none, none, 5, pI 0⟩]) hI rfl rfl rfl [0, 1, 3, 7, 15] (by kernel_rfl) (by kernel_rfl) ?_ [0, 1, 2, 3, 4] [4] rfl rfl fun a w hI => ?_
  · exact ⟨op_load 3 rfl rfl rfl rfl (by kernel_rfl) ty_Ratio rfl (.here 2 rfl),
      op_load 4 rfl rfl rfl rfl (by kernel_rfl) ty_Ratio rfl (.here 3 rfl),
      op_build (fs := [⟨true, 3, pRat 0⟩, ⟨true, 3, pRat 0⟩]) (ps := [(0, pRat (max2 a1 b1)), (1, pRat (min2 a2 b2))]) bt_Range (places_ok (by kernel_rfl)) (cells_pair0) (show HasParts _ _ _ _ _ _ from ⟨⟨rfl, (.tmp 2 rfl rfl), _, rfl, fits_rat _⟩, ⟨rfl, (.tmp 3 rfl rfl), _, rfl, fits_rat _⟩, trivial⟩) rfl (.here 4 rfl),
      op_store 2 rfl rfl rfl rfl 0 rfl (by kernel_rfl) (by kernel_rfl) ty_Range (.tmp 4 rfl rfl) (fits_pair _ _),
      op_assign (.const _) (.here 5 rfl),
      trivial⟩
  refine wp_ret ?_
  exact fin2 hI rfl (.cell 2 rfl rfl rfl rfl ty_Range rfl) (.tmp 0 rfl)
/-- The ends of a square, of a quotient, of what two ranges have in common. -/
def sqLo (a b : Rat) : Rat := if a ≤ 0 ∧ 0 ≤ b then 0 else min2 (a * a) (b * b)
def divLo (a b c d : Rat) : Rat := if c ≤ 0 ∧ 0 ≤ d then 0 else min4 (a / c) (a / d) (b / c) (b / d)
def divHi (a b c d : Rat) : Rat := if c ≤ 0 ∧ 0 ≤ d then 0 else max4 (a / c) (a / d) (b / c) (b / d)
def divE (c d : Rat) : Int := if c ≤ 0 ∧ 0 ≤ d then 3 else 0
def meetLo (a b c d : Rat) : Rat := if min2 b d < max2 a c then 0 else max2 a c
def meetHi (a b c d : Rat) : Rat := if min2 b d < max2 a c then 0 else min2 b d
def meetE (a b c d : Rat) : Int := if min2 b d < max2 a c then 5 else 0
theorem cr_square {a1 a2 : Rat} {j : Nat} (ha : BdR j a1 ∧ BdR j a2) (hj : j + j + (j + j) ≤ 100000000) : ∀ (M : Nat → Nat → Prop) (w : World) (v0 : Value), Mid M w → Box M (fun w => pPair a1 a2 w v0) w → Calls Tryz.prog 26 #[v0] w (RetB M (pPair (sqLo a1 a2) (max2 (a1 * a1) (a2 * a2))) w) := by
  unfold sqLo
  by_cases h : a1 ≤ 0 ∧ 0 ≤ a2
  · rw [if_pos h]; exact cr_square_in ha hj h
  · rw [if_neg h]; exact cr_square_out ha hj h
theorem cr_div {a1 a2 b1 b2 : Rat} {j k : Nat} (ha : BdR j a1 ∧ BdR j a2) (hb : BdR k b1 ∧ BdR k b2) (hj : j + k + (j + k) ≤ 100000000) (hb12 : b1 ≤ b2) : ∀ (M : Nat → Nat → Prop) (w : World) (v0 v1 : Value), Mid M w → Box M (fun w => pPair a1 a2 w v0) w → Box M (fun w => pPair b1 b2 w v1) w → Calls Tryz.prog 28 #[v0, v1] w (RetB M (pTup2 (pPair (divLo a1 a2 b1 b2) (divHi a1 a2 b1 b2)) (pI (divE b1 b2))) w) := by
  unfold divLo divHi divE
  by_cases h : b1 ≤ 0 ∧ 0 ≤ b2
  · rw [if_pos h, if_pos h, if_pos h]; exact cr_div_zero ha hb hj h
  · rw [if_neg h, if_neg h, if_neg h]; exact cr_div_ok ha hb hj h (by rintro rfl; exact h ⟨Rat.le_refl, hb12⟩) (by rintro rfl; exact h ⟨hb12, Rat.le_refl⟩)
theorem cr_meet {a1 a2 b1 b2 : Rat} {j : Nat} (ha : BdR j a1 ∧ BdR j a2) (hb : BdR j b1 ∧ BdR j b2) (hj : j + j ≤ 100000000) : ∀ (M : Nat → Nat → Prop) (w : World) (v0 v1 : Value), Mid M w → Box M (fun w => pPair a1 a2 w v0) w → Box M (fun w => pPair b1 b2 w v1) w → Calls Tryz.prog 30 #[v0, v1] w (RetB M (pTup2 (pPair (meetLo a1 a2 b1 b2) (meetHi a1 a2 b1 b2)) (pI (meetE a1 a2 b1 b2))) w) := by
  unfold meetLo meetHi meetE
  by_cases h : min2 a2 b2 < max2 a1 b1
  · rw [if_pos h, if_pos h, if_pos h]; exact cr_meet_none ha hb hj h
  · rw [if_neg h, if_neg h, if_neg h]; exact cr_meet_ok ha hb hj h
theorem bd_sqLo {a b : Rat} {j : Nat} (h1 : BdR j (a * a)) (h2 : BdR j (b * b)) (hj : 1 ≤ j) : BdR j (sqLo a b) := by
  unfold sqLo; split
  · exact bd_zero.mono hj
  · exact bd_min2 h1 h2
theorem bd_divLo {a b c d : Rat} {j : Nat} (h1 : BdR j (a / c)) (h2 : BdR j (a / d)) (h3 : BdR j (b / c)) (h4 : BdR j (b / d)) (hj : 1 ≤ j) : BdR j (divLo a b c d) ∧ BdR j (divHi a b c d) := by
  unfold divLo divHi; split
  · exact ⟨bd_zero.mono hj, bd_zero.mono hj⟩
  · exact ⟨bd_min4 h1 h2 h3 h4, bd_max4 h1 h2 h3 h4⟩
theorem bd_meet {a b c d : Rat} {j : Nat} (h1 : BdR j a) (h2 : BdR j b) (h3 : BdR j c) (h4 : BdR j d) (hj : 1 ≤ j) : BdR j (meetLo a b c d) ∧ BdR j (meetHi a b c d) := by
  unfold meetLo meetHi; split
  · exact ⟨bd_zero.mono hj, bd_zero.mono hj⟩
  · exact ⟨bd_max2 h1 h3, bd_min2 h2 h4⟩
end Wx
