import Derived.Handy
import Derived.KernelRfl
import Derived.Test.YtpiniclogfefjaaProg
import Derived.Test.YtpiniclogfefjaaJResidual0
import Derived.Test.YtpiniclogfefjaaCResidualMem
import Derived.Test.YtpiniclogfefjaaJResidual6
import Derived.Test.YtpiniclogfefjaaCResidualRat1
import Derived.Test.YtpiniclogfefjaaJResidual14
import Derived.Test.YtpiniclogfefjaaJResidual16
import Derived.Test.YtpiniclogfefjaaJResidual19
import Derived.Test.YtpiniclogfefjaaCResidualInv
import Derived.Test.YtpiniclogfefjaaCResidualSem
import Derived.Test.YtpiniclogfefjaaCResidualSemOps
import Derived.Test.YtpiniclogfefjaaCResidualSemMem
import Derived.Test.YtpiniclogfefjaaJResidual24
import Derived.Test.YtpiniclogfefjaaCResidualSemTab
import Derived.Test.YtpiniclogfefjaaJResidual30
import Derived.Test.YtpiniclogfefjaaCResidualSemRow
import Derived.Test.YtpiniclogfefjaaJResidual26
import Derived.Test.YtpiniclogfefjaaCResidualSemAppend
import Derived.Test.YtpiniclogfefjaaCResidualSemObj
import Derived.Test.YtpiniclogfefjaaJResidual29
import Derived.Test.YtpiniclogfefjaaJResidual35
import Derived.Test.YtpiniclogfefjaaJResidual34
namespace Wx
set_option maxRecDepth 100000
open Go Go.RowKit Go.Proofs
set_option linter.unusedVariables false

theorem r_reduce {H : List Bk} {L1 L2 : List Rat} {b1 b2 s1 s2 n1 n2 c1 c2 p1 p2 j j2 jf : Nat} {f : Rat} (m1 : (⟨b1, 3, true, rowIt L1 p1⟩ : Bk) ∈ H) (m2 : (⟨b2, 3, true, rowIt L2 p2⟩ : Bk) ∈ H) (hne : b2 ≠ b1) (k1 : s1 + n1 ≤ L1.length) (k2 : s2 + n2 ≤ L2.length) (k12 : n2 ≤ n1) (kn : n1 ≤ 1000000) (q1 : ∀ x, x ∈ L1 → BdR j x) (q2 : ∀ x, x ∈ L2 → BdR j2 x) (qf : BdR jf f) (hj : j + (jf + j2) + j + (jf + j2) + 1 ≤ 100000000)  : ∀ (M : Nat → Nat → Prop) (B : Nat → Prop) (w : World) (v0 v1 v2 : Value), Mid M w → (∀ k, B k → ∀ o, ¬ M k o) → HpOk B w H → Box (plus M B) (fun w => (pEq (.slice (some ⟨b1, s1 * 3, none⟩) n1 c1)) w v0) w → Box (plus M B) (fun w => (pEq (.slice (some ⟨b2, s2 * 3, none⟩) n2 c2)) w v1) w → Box (plus M B) (fun w => (pRat f) w v2) w → Calls Try.prog 47 #[v0, v1, v2] w (RetL M B (pEq (.tuple #[])) (hup H b1 (rowIt (if f = 0 then L1 else redAt L1 s1 L2 s2 f n2) p1)) w) := by
  intro M B w0 v0 v1 v2 hM hBM hH hv0 hv1 hv2
  have hu1 : ∀ e, e ∈ H → e.b = b1 → e.items = rowIt L1 p1 := fun e he hb => hup_items hH he m1 hb
  refine calls_startL (N := 29) (id := 29) (s := 29) Try.func47 rfl rfl rfl hM hBM hH (show EntsA (plus M B) w0 [v0, v1, v2] [⟨none, none, 0, pEq (.slice (some ⟨b1, s1 * 3, none⟩) n1 c1)⟩, ⟨none, none, 1, pEq (.slice (some ⟨b2, s2 * 3, none⟩) n2 c2)⟩, ⟨none, none, 2, pRat f⟩] from ⟨⟨rfl, _, rfl, hv0⟩, ⟨rfl, _, rfl, hv1⟩, ⟨rfl, _, rfl, hv2⟩, trivial⟩) fun a hI => ?_
  refine seq_T hI [⟨5, 5, some 0, none, .ptr, 32, 3, true, pv (pRat f), []⟩] [] [] (.k .z) (.kkk .z) rfl [0] (by kernel_rfl) ?_ (.k (.k .z)) (.kkd .z) fun a w hI => ?_
  · exact ⟨op_box 1 rfl rfl (by kernel_rfl) (by kernel_rfl) rfl rfl rfl (.tmp 2 rfl rfl) (fits_rat _) rfl, trivial⟩
  refine wp_seq ?_
  refine seq_T hI [] [] [⟨some 0, none, 8, pRat f⟩, ⟨some 1, none, 9, pB (decide (f = 0))⟩] (.k (.k .z)) (.kk .z) rfl [0, 1] (by kernel_rfl) ?_ (.k (.k .z)) (.kkdk .z) fun a w hI => ?_
  · exact ⟨op_load 1 rfl rfl rfl rfl (by kernel_rfl) ty_Ratio rfl (.here 2 rfl), op_call1 (fun _ _ => by kernel_rfl) (numlike_eq _) (.tmp 2 rfl rfl) (.here 3 rfl) (c_zero f), trivial⟩
  refine cond_if hI 2 rfl (fun ht => ?_) (fun ht => ?_)
  · have t1 := of_decide_eq_true ht
    refine wp_ret ?_
    refine then_ret ?_
    have hI : Inv ⟨29, w0, M, B⟩ [⟨29, 29, none, none, .obj, 0, 0, false, pHp (hup H b1 (rowIt (if f = 0 then L1 else redAt L1 s1 L2 s2 f n2) p1)), []⟩, ⟨5, 5, none, none, .ptr, 32, 3, true, pv (pRat f), []⟩] [] [⟨none, none, 0, pEq (.slice (some ⟨b1, s1 * 3, none⟩) n1 c1)⟩, ⟨none, none, 1, pEq (.slice (some ⟨b2, s2 * 3, none⟩) n2 c2)⟩, ⟨none, none, 9, pB (decide (f = 0))⟩] none_ _ _ := (hI.conv ⟨⟨0, _, _, rfl, ⟨rfl, rfl, rfl⟩, rfl, fun _ => (pHp_eq (by rw [if_pos t1]; exact (hup_self hu1).symm))⟩, ⟨1, _, _, rfl, ⟨rfl, rfl, rfl⟩, rfl, fun _ => fun _ _ h => h⟩, trivial⟩ ⟨⟨rfl, rfl, 0, _, rfl, fun _ _ h => h⟩, ⟨rfl, rfl, 1, _, rfl, fun _ _ h => h⟩, ⟨rfl, rfl, 2, _, rfl, fun _ _ h => h⟩, trivial⟩)
    exact finL0 hI rfl hH (n0 := 0) rfl (hup_b _ _ _) 
  · have t2 := of_decide_eq_false ht
    refine wp_skip ?_
    refine then_of ?_
    refine seq_T hI [] [] [⟨some 0, none, 10, pEq (.slice (some ⟨b2, s2 * 3, none⟩) n2 c2)⟩, ⟨some 1, none, 11, pI (n2 : Int)⟩, ⟨some 2, none, 12, pI 0⟩] (.k (.k .z)) (.kkk .z) rfl [0, 1, 3] (by kernel_rfl) ?_ (.k (.k .z)) (.kddk (.kk .z)) fun a w hI => ?_
    · exact ⟨op_move (.tmp 1 rfl rfl) (.here 3 rfl), op_lenEq (.tmp 3 rfl rfl) (sl_Ratios).under (.here 4 rfl), op_move (.const _) (.here 5 rfl), trivial⟩
    refine wp_block ?_
    refine wp_loop_ix (fun (k : Nat) a w => (k ≤ n2) ∧ Inv ⟨29, w0, M, B⟩ [⟨29, 29, none, none, .obj, 0, 0, false, pHp (hup H b1 (rowIt (redAt L1 s1 L2 s2 f k) p1)), []⟩, ⟨5, 5, none, none, .ptr, 32, 3, true, pv (pRat f), []⟩] [] [⟨none, none, 0, pEq (.slice (some ⟨b1, s1 * 3, none⟩) n1 c1)⟩, ⟨none, none, 10, pEq (.slice (some ⟨b2, s2 * 3, none⟩) n2 c2)⟩, ⟨none, none, 11, pI (n2 : Int)⟩, ⟨none, none, 12, pI (k : Int)⟩] none_ a w) (fun (k : Nat) => n2 - k) (0) ⟨Nat.zero_le _, (hI.conv ⟨⟨0, _, _, rfl, ⟨rfl, rfl, rfl⟩, rfl, fun _ => (pHp_eq (by rw [redAt_zero]; exact (hup_self hu1).symm))⟩, ⟨1, _, _, rfl, ⟨rfl, rfl, rfl⟩, rfl, fun _ => fun _ _ h => h⟩, trivial⟩ ⟨⟨rfl, rfl, 0, _, rfl, fun _ _ h => h⟩, ⟨rfl, rfl, 1, _, rfl, fun _ _ h => h⟩, ⟨rfl, rfl, 2, _, rfl, fun _ _ h => h⟩, ⟨rfl, rfl, 3, _, rfl, (pI_eq (by omega))⟩, trivial⟩)⟩ ?_
    intro k a w hIk
    obtain ⟨hp, hI⟩ := hIk
    refine seq_T hI [] [] [⟨some 0, none, 13, pB (decide ((k : Int) < (n2 : Int)))⟩] (.k (.k .z)) (.kkkk .z) rfl [0] (by kernel_rfl) ?_ (.k (.k .z)) (.kkkk (.k .z)) fun a w hI => ?_
    · exact ⟨op_bin (v := .bool (decide ((k : Int) < (n2 : Int)))) (.tmp 3 rfl rfl) (.tmp 2 rfl rfl) (fun _ => rfl) (.here 4 rfl), trivial⟩
    refine wp_seq ?_
    refine cond_if hI 4 rfl (fun ht => ?_) (fun ht => ?_)
    · have t3 := of_decide_eq_true ht
      refine wp_skip ?_
      refine then_of ?_
      refine wp_seq ?_
      refine wp_block ?_
      refine seq_T hI [⟨7, 7, some 3, none, .ptr, 32, 3, true, pv (pRat 0), [(5, pv (pRat (L2.getD (s2 + k) 0)))]⟩] [] [⟨some 0, none, 14, pI (k : Int)⟩, ⟨some 1, none, 15, pEq (.pointer (some ⟨b2, s2 * 3 + ((k : Int)).toNat * 3, none⟩))⟩, ⟨some 2, none, 16, pRat (L2.getD (s2 + k) 0)⟩, ⟨some 4, none, 6, pI (k : Int)⟩] (.k (.k .z)) (.kkkk (.k .z)) rfl [0, 1, 3, 7, 15, 31] (by kernel_rfl) ?_ (.k (.k (.s .o .z))) (.k8 (.k .z)) fun a w hI => ?_
      · exact ⟨op_move (.tmp 3 rfl rfl) (.here 5 rfl), op_indexEq (.tmp 1 rfl rfl) (.tmp 3 rfl rfl) sl_Ratios (by omega) (by omega) (by kernel_rfl) (.here 6 rfl), op_loadH (e := ⟨b2, 3, true, rowIt L2 p2⟩) (idx := s2 + k) 0 rfl rfl rfl (by kernel_rfl) rfl (.tmp 6 rfl rfl) (hup_other m2 hne) rfl (rowIt_get (by omega)) (show s2 * 3 + ((k : Int)).toNat * 3 = (s2 + k) * 3 by omega) ty_Ratio (.here 7 rfl), op_alloc 2 rfl rfl (by kernel_rfl) (by kernel_rfl) rfl rfl rfl zv_Ratio rfl rfl (by simp [NoU]) rfl (fun w => isRat_zero w), op_assign (.tmp 5 rfl rfl) (.here 8 rfl), op_store 2 rfl rfl rfl rfl 0 rfl (by kernel_rfl) (by kernel_rfl) ty_Ratio (.tmp 7 rfl rfl) (fits_rat _), trivial⟩
      refine sem_D hI [] [] [⟨some 0, none, 17, pEq (.slice (some ⟨b1, s1 * 3, none⟩) n1 c1)⟩, ⟨some 1, none, 18, pI (k : Int)⟩, ⟨some 2, none, 19, pEq (.slice (some ⟨b1, s1 * 3, none⟩) n1 c1)⟩, ⟨some 3, none, 20, pI (k : Int)⟩, ⟨some 4, none, 21, pEq (.pointer (some ⟨b1, s1 * 3 + ((k : Int)).toNat * 3, none⟩))⟩, ⟨some 5, none, 22, pRat (L1.getD (s1 + k) 0)⟩, ⟨some 6, none, 23, pRat f⟩, ⟨some 7, none, 24, pRat (L2.getD (s2 + k) 0)⟩, ⟨some 8, none, 25, pRat (f * (L2.getD (s2 + k) 0))⟩, ⟨some 9, none, 26, pRat ((L1.getD (s1 + k) 0) - (f * (L2.getD (s2 + k) 0)))⟩, ⟨some 10, none, 27, pEq (.pointer (some ⟨b1, s1 * 3 + ((k : Int)).toNat * 3, none⟩))⟩] (.u none [(11, pHp (hset (hup H b1 (rowIt (redAt L1 s1 L2 s2 f k) p1)) b1 (s1 + k) (itR ((L1.getD (s1 + k) 0) - (f * (L2.getD (s2 + k) 0))))))] (.k (.k .z))) (.k8 (.k .z)) rfl [0, 0, 0, 0, 12, 28, 0, 0, 192, 508, 1023, 2047] (by kernel_rfl) ?_ (.s .o (.k (.k .z))) (.k8 (.k8 (.kkkk .z))) fun a w hI => ?_
      · exact ⟨op_move (.tmp 0 rfl rfl) (.here 9 rfl), op_move (.tmp 8 rfl rfl) (.here 10 rfl), op_move (.tmp 0 rfl rfl) (.here 11 rfl), op_move (.tmp 8 rfl rfl) (.here 12 rfl), op_indexEq (.tmp 11 rfl rfl) (.tmp 12 rfl rfl) sl_Ratios (by omega) (by omega) (by kernel_rfl) (.here 13 rfl), op_loadH (e := ⟨b1, 3, true, rowIt (redAt L1 s1 L2 s2 f k) p1⟩) (idx := s1 + k) 0 rfl rfl rfl (by kernel_rfl) rfl (.tmp 13 rfl rfl) (hup_mem m1 rfl) rfl (redAt_item (by omega)) (show s1 * 3 + ((k : Int)).toNat * 3 = (s1 + k) * 3 by omega) ty_Ratio (.here 14 rfl), op_load 1 rfl rfl rfl rfl (by kernel_rfl) ty_Ratio rfl (.here 15 rfl), op_load 2 rfl rfl rfl rfl (by kernel_rfl) ty_Ratio rfl (.here 16 rfl), op_call2 (fun _ _ => by kernel_rfl) (numlike_rat _) (.tmp 15 rfl rfl) (.tmp 16 rfl rfl) (.here 17 rfl) (c_mul qf (bd_getD q2 (by omega)) (by omega)), op_call2 (fun _ _ => by kernel_rfl) (numlike_rat _) (.tmp 14 rfl rfl) (.tmp 17 rfl rfl) (.here 18 rfl) (c_sub (bd_getD q1 (by omega)) ((qf).mul (bd_getD q2 (by omega))) (by omega)), op_indexEq (.tmp 9 rfl rfl) (.tmp 10 rfl rfl) sl_Ratios (by omega) (by omega) (by kernel_rfl) (.here 19 rfl), op_storeH (e := ⟨b1, 3, true, rowIt (redAt L1 s1 L2 s2 f k) p1⟩) (idx := s1 + k) (it := itR ((L1.getD (s1 + k) 0) - (f * (L2.getD (s2 + k) 0)))) 0 rfl rfl rfl (by kernel_rfl) 0 rfl (by kernel_rfl) (by kernel_rfl) rfl (.tmp 19 rfl rfl) (hup_mem m1 rfl) rfl (rowIt_lt (show s1 + k < (redAt L1 s1 L2 s2 f k).length by rw [redAt_len]; omega)) (show s1 * 3 + ((k : Int)).toNat * 3 = (s1 + k) * 3 by omega) ty_Ratio (.tmp 18 rfl rfl) (fits_rat _), trivial⟩
      refine block_of ?_
      refine then_of ?_
      refine sem_T hI [] [] [⟨some 0, none, 28, pI ((k : Int) + (1 : Int))⟩, ⟨some 1, none, 12, pI ((k : Int) + (1 : Int))⟩] (.k (.k (.k .z))) (.kkk (.t 1 (.k8 (.k8 .z)))) rfl [0, 1] (by kernel_rfl) ?_ (.k (.k (.k .z))) (.kkkd (.k8 (.k8 (.kk .z)))) fun a w hI => ?_
      · exact ⟨op_bin (v := .int .i64 (IntKind.i64.wrap ((k : Int) + (1 : Int)))) (.tmp 3 rfl rfl) (.const _) (fun _ => rfl) (.at_ 20 _ _ rfl (pI_wrap (by omega))), op_move (.tmp 20 rfl rfl) (.here 21 rfl), trivial⟩
      refine then_of ?_
      exact ⟨k + 1, ⟨(show k + 1 ≤ n2 by omega), (hI.conv ⟨⟨0, _, _, rfl, ⟨rfl, rfl, rfl⟩, rfl, fun _ => (pHp_eq (by rw [hset_hup, rowIt_set (by rw [redAt_len]; omega), redAt_step (by omega)]))⟩, ⟨1, _, _, rfl, ⟨rfl, rfl, rfl⟩, rfl, fun _ => fun _ _ h => h⟩, trivial⟩ ⟨⟨rfl, rfl, 0, _, rfl, fun _ _ h => h⟩, ⟨rfl, rfl, 1, _, rfl, fun _ _ h => h⟩, ⟨rfl, rfl, 2, _, rfl, fun _ _ h => h⟩, ⟨rfl, rfl, 20, _, rfl, (pI_eq (by omega))⟩, trivial⟩)⟩, (show n2 - (k + 1) < n2 - k by omega)⟩
    · have t4 := of_decide_eq_false ht
      refine wp_exit ?_
      refine then_exit ?_
      refine then_exit ?_
      refine block_exit ?_
      have hI : Inv ⟨29, w0, M, B⟩ [⟨29, 29, none, none, .obj, 0, 0, false, pHp (hup H b1 (rowIt (if f = 0 then L1 else redAt L1 s1 L2 s2 f n2) p1)), []⟩, ⟨5, 5, none, none, .ptr, 32, 3, true, pv (pRat f), []⟩] [] [⟨none, none, 0, pEq (.slice (some ⟨b1, s1 * 3, none⟩) n1 c1)⟩, ⟨none, none, 10, pEq (.slice (some ⟨b2, s2 * 3, none⟩) n2 c2)⟩, ⟨none, none, 11, pI (n2 : Int)⟩, ⟨none, none, 12, pI (k : Int)⟩, ⟨none, none, 13, pB (decide ((k : Int) < (n2 : Int)))⟩] none_ _ _ := (hI.conv ⟨⟨0, _, _, rfl, ⟨rfl, rfl, rfl⟩, rfl, fun _ => (pHp_eq (by rw [if_neg t2, show k = n2 by omega]))⟩, ⟨1, _, _, rfl, ⟨rfl, rfl, rfl⟩, rfl, fun _ => fun _ _ h => h⟩, trivial⟩ ⟨⟨rfl, rfl, 0, _, rfl, fun _ _ h => h⟩, ⟨rfl, rfl, 1, _, rfl, fun _ _ h => h⟩, ⟨rfl, rfl, 2, _, rfl, fun _ _ h => h⟩, ⟨rfl, rfl, 3, _, rfl, fun _ _ h => h⟩, ⟨rfl, rfl, 4, _, rfl, fun _ _ h => h⟩, trivial⟩)
      exact finL0 hI rfl hH (n0 := 0) rfl (hup_b _ _ _) 
theorem fits_rats (l : List Rat) : Fits 1 false (pRats l) := by
  rintro w v ⟨A, c, rfl, _⟩
  exact ⟨[_], rfl, rfl, rfl, fun u hu => by simp at hu; subst hu; exact ⟨noU_slice _ _ _, rfl⟩⟩
theorem pEq_to {u v : Value} (h : u = v) : ∀ w x, pEq u w x → pEq v w x := fun _ _ k => h ▸ k
theorem c_pivot1 {l : List Rat} {c j : Nat} (hc : c < l.length) (hl : c ≤ 1000000000) (hb : ∀ x, x ∈ l → BdR j x) : ∀ (M : Nat → Nat → Prop) (w : World) (v0 v1 : Value), Mid M w → Box M (fun w => (pRats l) w v0) w → Box M (fun w => (pPtr 1 false (pI (c : Int))) w v1) w → Calls Try.prog 71 #[v0, v1] w (RetB M (pB (!(decide ((l).getD c 0 = 0)))) w) := by
  intro M w0 v0 v1 hM hv0 hv1
  refine calls_start (N := 10) Try.func71 rfl rfl rfl hM (show EntsA M w0 [v0, v1] [⟨none, none, 0, pRats l⟩, ⟨none, none, 1, pPtr 1 false (pI (c : Int))⟩] from ⟨⟨rfl, _, rfl, hv0⟩, ⟨rfl, _, rfl, hv1⟩, trivial⟩) fun a hI => ?_
  refine seq_T hI [] [] [⟨some 0, none, 3, pB false⟩] .z (.kk .z) rfl [0] (by kernel_rfl) ?_ .z (.kkk .z) fun a w hI => ?_
  · exact ⟨op_assign (.const _) (.here 2 rfl), trivial⟩
  refine seq_T hI [] [] [⟨some 0, none, 4, pRats l⟩, ⟨some 1, none, 5, pI (c : Int)⟩, ⟨some 2, none, 6, pPtr 3 true (pRat ((l).getD c 0))⟩, ⟨some 3, none, 7, pRat ((l).getD c 0)⟩, ⟨some 4, none, 8, pB (decide ((l).getD c 0 = 0))⟩, ⟨some 5, none, 9, pB (!(decide ((l).getD c 0 = 0)))⟩, ⟨some 6, none, 3, pB (!(decide ((l).getD c 0 = 0)))⟩] .z (.kk (.t 6 .z)) rfl [0, 1, 3, 7, 15, 31, 63] (by kernel_rfl) ?_ .z (.d8 (.dk .z)) fun a w hI => ?_
  · exact ⟨op_move (.tmp 0 rfl rfl) (.here 3 rfl), op_loadEq (.tmp 1 rfl rfl) ty_int (.here 4 rfl), op_indexRow (.tmp 3 rfl rfl) (.tmp 4 rfl rfl) sl_Ratios (by omega) (by omega) (by kernel_rfl) (.at_ 5 _ _ rfl (by rw [Int.toNat_natCast]; exact fun _ _ h => h)), op_loadP (.tmp 5 rfl rfl) ty_Ratio (fits_rat _) (.here 6 rfl), op_call1 (fun _ _ => by kernel_rfl) (numlike_eq _) (.tmp 6 rfl rfl) (.here 7 rfl) (c_zero ((l).getD c 0)), op_not (.tmp 7 rfl rfl) (.here 8 rfl), op_assign (.tmp 8 rfl rfl) (.here 9 rfl), trivial⟩
  refine wp_ret ?_
  exact fin1 hI rfl (.tmp 0 rfl)
theorem c_indexPivot {X : Nat → List Rat} {n c j : Nat} (hn : n ≤ 1000000) (hc : ∀ i, i < n → c < (X i).length) (hl : c ≤ 1000000000) (hb : ∀ i, i < n → ∀ x, x ∈ X i → BdR j x) : ∀ (M : Nat → Nat → Prop) (w : World) (v0 v1 : Value), Mid M w → Box M (fun w => (pRow 1 false n (fun i => pRats (X i))) w v0) w → Box M (fun w => (pClo 71 1 false (pI (c : Int))) w v1) w → Calls Try.prog 70 #[v0, v1] w (RetB M (pI (firstI (fun i => !(decide ((X i).getD c 0 = 0))) n)) w) := by
  intro M w0 v0 v1 hM hv0 hv1
  refine calls_start (N := 19) Try.func70 rfl rfl rfl hM (show EntsA M w0 [v0, v1] [⟨none, none, 0, pRow 1 false n (fun i => pRats (X i))⟩, ⟨none, none, 1, pClo 71 1 false (pI (c : Int))⟩] from ⟨⟨rfl, _, rfl, hv0⟩, ⟨rfl, _, rfl, hv1⟩, trivial⟩) fun a hI => ?_
  refine seq_T hI [] [] [⟨some 0, none, 4, pI 0⟩] .z (.kk .z) rfl [0] (by kernel_rfl) ?_ .z (.kkk .z) fun a w hI => ?_
  · exact ⟨op_assign (.const _) (.here 2 rfl), trivial⟩
  refine wp_seq ?_
  refine seq_T hI [] [] [⟨some 0, none, 6, pRow 1 false n (fun i => pRats (X i))⟩, ⟨some 1, none, 7, pI (n : Int)⟩, ⟨some 2, none, 8, pI 0⟩] .z (.kkk .z) rfl [0, 1, 3] (by kernel_rfl) ?_ .z (.kkkd (.kk .z)) fun a w hI => ?_
  · exact ⟨op_move (.tmp 0 rfl rfl) (.here 3 rfl), op_len (.tmp 3 rfl rfl) (sl_Rows).under (.here 4 rfl), op_move (.const _) (.here 5 rfl), trivial⟩
  refine wp_block ?_
  refine wp_loop_ix (fun (k : Nat) a w => (k ≤ n ∧ ∀ q, q < k → (!(decide ((X q).getD c 0 = 0))) = false) ∧ Inv ⟨19, w0, M, fun _ => False⟩ [] [] [⟨none, none, 0, pRow 1 false n (fun i => pRats (X i))⟩, ⟨none, none, 1, pClo 71 1 false (pI (c : Int))⟩, ⟨none, none, 7, pI (n : Int)⟩, ⟨none, none, 8, pI (k : Int)⟩] none_ a w) (fun (k : Nat) => n - k) (0) ⟨⟨Nat.zero_le _, fun q hq => by omega⟩, (hI.conv trivial ⟨⟨rfl, rfl, 0, _, rfl, fun _ _ h => h⟩, ⟨rfl, rfl, 1, _, rfl, fun _ _ h => h⟩, ⟨rfl, rfl, 3, _, rfl, fun _ _ h => h⟩, ⟨rfl, rfl, 4, _, rfl, (pI_eq (by omega))⟩, trivial⟩)⟩ ?_
  intro k a w hIk
  obtain ⟨hp, hI⟩ := hIk
  refine seq_T hI [] [] [⟨some 0, none, 9, pB (decide ((k : Int) < (n : Int)))⟩] .z (.kkkk .z) rfl [0] (by kernel_rfl) ?_ .z (.kkkk (.k .z)) fun a w hI => ?_
  · exact ⟨op_bin (v := .bool (decide ((k : Int) < (n : Int)))) (.tmp 3 rfl rfl) (.tmp 2 rfl rfl) (fun _ => rfl) (.here 4 rfl), trivial⟩
  refine wp_seq ?_
  refine cond_if hI 4 rfl (fun ht => ?_) (fun ht => ?_)
  · have t1 := of_decide_eq_true ht
    refine wp_skip ?_
    refine then_of ?_
    refine wp_seq ?_
    refine wp_block ?_
    refine seq_T hI [] [] [⟨some 0, none, 10, pI (k : Int)⟩, ⟨some 1, none, 5, pI (k : Int)⟩] .z (.kkkk (.k .z)) rfl [0, 1] (by kernel_rfl) ?_ .z (.kkkk (.kkk .z)) fun a w hI => ?_
    · exact ⟨op_move (.tmp 3 rfl rfl) (.here 5 rfl), op_assign (.tmp 5 rfl rfl) (.here 6 rfl), trivial⟩
    refine seq_T hI [] [] [⟨some 0, none, 11, pClo 71 1 false (pI (c : Int))⟩, ⟨some 1, none, 12, pRow 1 false n (fun i => pRats (X i))⟩, ⟨some 2, none, 13, pI (k : Int)⟩, ⟨some 3, none, 14, pPtr 1 false (pRats (X k))⟩, ⟨some 4, none, 15, pRats (X k)⟩, ⟨some 5, none, 16, pB (!(decide ((X k).getD c 0 = 0)))⟩] .z (.kkkk (.kkk .z)) rfl [0, 1, 3, 7, 15, 31] (by kernel_rfl) ?_ .z (.k8 (.kkkk (.k .z))) fun a w hI => ?_
    · exact ⟨op_move (.tmp 1 rfl rfl) (.here 7 rfl), op_move (.tmp 0 rfl rfl) (.here 8 rfl), op_move (.tmp 6 rfl rfl) (.here 9 rfl), op_indexRow (.tmp 8 rfl rfl) (.tmp 9 rfl rfl) sl_Rows (by omega) (by omega) (by kernel_rfl) (.at_ 10 _ _ rfl (by rw [Int.toNat_natCast]; exact fun _ _ h => h)), op_loadP (.tmp 10 rfl rfl) ty_Ratios ((fits_rats _)) (.here 11 rfl), op_callc1 (fun _ _ => by kernel_rfl) (.tmp 7 rfl rfl) (.tmp 11 rfl rfl) (.here 12 rfl) (c_pivot1 (hc _ (by omega)) hl (hb _ (by omega))), trivial⟩
    refine cond_if hI 12 rfl (fun ht => ?_) (fun ht => ?_)
    · have t2 := ht
      refine seq_T hI [] [] [⟨some 0, none, 17, pI (k : Int)⟩, ⟨some 1, none, 4, pI (k : Int)⟩] .z (.k8 (.kkkk (.k .z))) rfl [0, 1] (by kernel_rfl) ?_ .z (.k8 (.kkkk (.kkk .z))) fun a w hI => ?_
      · exact ⟨op_move (.tmp 6 rfl rfl) (.here 13 rfl), op_assign (.tmp 13 rfl rfl) (.here 14 rfl), trivial⟩
      refine wp_ret ?_
      refine block_ret ?_
      refine then_ret ?_
      refine then_ret ?_
      refine block_ret ?_
      refine then_ret ?_
      exact fin1 hI rfl (.imp (.tmp 14 rfl) (pI_eq (firstI_yes (p := fun i => !(decide ((X i).getD c 0 = 0))) (by omega) t2 hp.2).symm))
    · have t3 := ht
      refine wp_skip ?_
      refine block_of ?_
      refine then_of ?_
      refine sem_T hI [] [] [⟨some 0, none, 18, pI ((k : Int) + (1 : Int))⟩, ⟨some 1, none, 8, pI ((k : Int) + (1 : Int))⟩] .z (.kkk (.t 1 (.k8 (.k .z)))) rfl [0, 1] (by kernel_rfl) ?_ .z (.kkkd (.k8 (.kkk .z))) fun a w hI => ?_
      · exact ⟨op_bin (v := .int .i64 (IntKind.i64.wrap ((k : Int) + (1 : Int)))) (.tmp 3 rfl rfl) (.const _) (fun _ => rfl) (.at_ 13 _ _ rfl (pI_wrap (by omega))), op_move (.tmp 13 rfl rfl) (.here 14 rfl), trivial⟩
      refine then_of ?_
      exact ⟨k + 1, ⟨⟨by omega, fun q hq => by rcases Nat.lt_or_ge q k with h | h; exact hp.2 q h; rw [show q = k by omega]; exact t3⟩, (hI.conv trivial ⟨⟨rfl, rfl, 0, _, rfl, fun _ _ h => h⟩, ⟨rfl, rfl, 1, _, rfl, fun _ _ h => h⟩, ⟨rfl, rfl, 2, _, rfl, fun _ _ h => h⟩, ⟨rfl, rfl, 13, _, rfl, (pI_eq (by omega))⟩, trivial⟩)⟩, (show n - (k + 1) < n - k by omega)⟩
  · have t4 := of_decide_eq_false ht
    refine wp_exit ?_
    refine then_exit ?_
    refine then_exit ?_
    refine block_exit ?_
    refine then_of ?_
    refine seq_T hI [] [] [⟨some 0, none, 4, pI (-1)⟩] .z (.kkkk (.k .z)) rfl [0] (by kernel_rfl) ?_ .z (.dddd (.dk .z)) fun a w hI => ?_
    · exact ⟨op_assign (.const _) (.here 5 rfl), trivial⟩
    refine wp_ret ?_
    exact fin1 hI rfl (.imp (.tmp 0 rfl) (pI_eq (firstI_no (fun j hj => hp.2 j (by omega))).symm))
theorem r_pivot {H : List Bk} {g cap c j : Nat} {R : List RowL} {X : List (List Rat)} (hM0 : MatOk g cap R X H) (hc : c < X.length) (hn : X.length ≤ 1000000) (hcol : ∀ i, i < X.length → c < (X.getD i []).length) (hb : ∀ i, i < X.length → ∀ x, x ∈ X.getD i [] → BdR j x) : ∀ (M : Nat → Nat → Prop) (B : Nat → Prop) (w : World) (v0 v1 : Value), Mid M w → (∀ k, B k → ∀ o, ¬ M k o) → HpOk B w H → Box (plus M B) (fun w => (pEq (.slice (some ⟨g, 0, none⟩) X.length cap)) w v0) w → Box (plus M B) (fun w => (pI (c : Int)) w v1) w → Calls Try.prog 46 #[v0, v1] w (RetL M B (pTup2 (pB (decide (0 ≤ pivI X c))) (pB (decide (pivI X c > 0)))) (hup H g (tops (pivL X R c))) w) := by
  intro M B w0 v0 v1 hM hBM hH hv0 hv1
  have hu : ∀ e, e ∈ H → e.b = g → e.items = tops R := fun e he hb' => hup_items hH he hM0.top hb'
  have hrg : _ := pivI_range hc
  have hlen : _ := hM0.len
  have hsz : _ := hM0.size
  refine calls_startL (N := 34) (id := 34) (s := 34) Try.func46 rfl rfl rfl hM hBM hH (show EntsA (plus M B) w0 [v0, v1] [⟨none, none, 0, pEq (.slice (some ⟨g, 0, none⟩) X.length cap)⟩, ⟨none, none, 1, pI (c : Int)⟩] from ⟨⟨rfl, _, rfl, hv0⟩, ⟨rfl, _, rfl, hv1⟩, trivial⟩) fun a hI => ?_
  refine seq_T hI [⟨3, 3, some 0, none, .ptr, 3, 1, false, pv (pI (c : Int)), []⟩] [] [⟨some 1, none, 4, pB false⟩, ⟨some 2, none, 5, pB false⟩] (.k .z) (.kk .z) rfl [0, 1, 3] (by kernel_rfl) ?_ (.k (.k .z)) (.kdkk .z) fun a w hI => ?_
  · exact ⟨op_box 1 rfl rfl (by kernel_rfl) (by kernel_rfl) rfl rfl rfl (.tmp 1 rfl rfl) (fits_int _) rfl, op_assign (.const _) (.here 2 rfl), op_assign (.const _) (.here 3 rfl), trivial⟩
  obtain ⟨p3, hI⟩ := hI.openPtr 1 rfl rfl rfl
  refine seq_T hI [] [] [⟨some 0, none, 7, pEq (.slice (some ⟨g, 0, none⟩) X.length cap)⟩, ⟨some 1, none, 8, pI (c : Int)⟩, ⟨some 2, none, 9, pEq (.slice (some ⟨g, c, none⟩) (X.length - c) (cap - c))⟩, ⟨some 3, none, 10, pEq (.func (.func 71) #[] #[.pointer (some ⟨p3, 0, none⟩)])⟩, ⟨some 4, none, 11, pI (pivI X c)⟩, ⟨some 5, none, 6, pI (pivI X c)⟩] (.k (.k .z)) (.kkkk .z) rfl [0, 1, 3, 7, 15, 31] (by kernel_rfl) ?_ (.k (.k .z)) (.kkkk (.dddd (.dk .z))) fun a w hI => ?_
  · exact ⟨op_move (.tmp 1 rfl rfl) (.here 4 rfl), op_load 1 rfl rfl rfl rfl (by kernel_rfl) ty_int rfl (.here 5 rfl), op_sliceLo (.tmp 4 rfl rfl) (.tmp 5 rfl rfl) sl_Rows (by omega) (by omega) (by omega) (.at_ 6 _ _ rfl (pEq_to (by simp))), op_makeFunc1 (.tmp 0 rfl rfl) (.here 7 rfl), op_callRO (fun _ _ => by kernel_rfl) 0 rfl rfl rfl (by kernel_rfl) rfl 1 rfl rfl rfl (by kernel_rfl) rfl (.tmp 0 rfl rfl) (.tmp 6 rfl rfl) (.tmp 7 rfl rfl) (numlike_eq _) (.here 8 rfl) (fun B w v hH hv => by rw [show v = _ from hv]; exact heap_rows hH hM0 (Nat.le_of_lt hc)) (c_indexPivot (X := fun i => X.getD (c + i) []) (by omega) (fun i hi => hcol (c + i) (by omega)) (by omega) (fun i hi => hb (c + i) (by omega))), op_assign (.tmp 8 rfl rfl) (.here 9 rfl), trivial⟩
  refine wp_seq ?_
  refine seq_T hI [] [] [⟨some 0, none, 12, pI (pivI X c)⟩, ⟨some 1, none, 13, pB (decide ((pivI X c) < (0 : Int)))⟩] (.k (.k .z)) (.kkkk (.k .z)) rfl [0, 1] (by kernel_rfl) ?_ (.k (.k .z)) (.kkkk (.kdk .z)) fun a w hI => ?_
  · exact ⟨op_move (.tmp 4 rfl rfl) (.here 5 rfl), op_bin (v := .bool (decide ((pivI X c) < (0 : Int)))) (.tmp 5 rfl rfl) (.const _) (fun _ => rfl) (.here 6 rfl), trivial⟩
  refine cond_if hI 5 rfl (fun ht => ?_) (fun ht => ?_)
  · have t1 := of_decide_eq_true ht
    refine seq_T hI [] [] [⟨some 0, none, 4, pB false⟩, ⟨some 1, none, 5, pB false⟩] (.k (.k .z)) (.kk (.t 0 (.t 1 (.kk .z)))) rfl [0, 1] (by kernel_rfl) ?_ (.k (.k .z)) (.kkdd (.kdkk .z)) fun a w hI => ?_
    · exact ⟨op_assign (.const _) (.here 6 rfl), op_assign (.const _) (.here 7 rfl), trivial⟩
    refine wp_ret ?_
    refine then_ret ?_
    have hI : Inv ⟨34, w0, M, B⟩ [⟨34, 34, none, none, .obj, 0, 0, false, pHp (hup H g (tops (pivL X R c))), []⟩, ⟨3, 3, none, none, .ptr, 3, 1, false, pv (pI (c : Int)), []⟩] [] [⟨none, none, 3, pEq (.pointer (some ⟨p3, 0, none⟩))⟩, ⟨none, none, 0, pEq (.slice (some ⟨g, 0, none⟩) X.length cap)⟩, ⟨none, none, 6, pI (pivI X c)⟩, ⟨none, none, 4, pB false⟩, ⟨none, none, 5, pB false⟩] none_ _ _ := (hI.conv ⟨⟨0, _, _, rfl, ⟨rfl, rfl, rfl⟩, rfl, fun _ => (pHp_eq (by unfold pivL; rw [if_pos (by omega)]; exact (hup_self hu).symm))⟩, ⟨1, _, _, rfl, ⟨rfl, rfl, rfl⟩, rfl, fun _ => fun _ _ h => h⟩, trivial⟩ ⟨⟨rfl, rfl, 0, _, rfl, fun _ _ h => h⟩, ⟨rfl, rfl, 1, _, rfl, fun _ _ h => h⟩, ⟨rfl, rfl, 2, _, rfl, fun _ _ h => h⟩, ⟨rfl, rfl, 3, _, rfl, fun _ _ h => h⟩, ⟨rfl, rfl, 4, _, rfl, fun _ _ h => h⟩, trivial⟩)
    exact finL2 hI rfl hH (n0 := 0) rfl (hup_b _ _ _) (.imp (.tmp 3 rfl) (pB_eq (decide_eq_false (by omega)).symm)) (.imp (.tmp 4 rfl) (pB_eq (decide_eq_false (by omega)).symm))
  · have t2 := of_decide_eq_false ht
    refine wp_skip ?_
    refine then_of ?_
    obtain ⟨i0, hi0⟩ : ∃ i0 : Nat, pivI X c = (i0 : Int) := ⟨(pivI X c).toNat, by omega⟩
    obtain ⟨x, hx⟩ := hM0.get hc
    obtain ⟨y, hy⟩ := hM0.get (i := c + i0) (by omega)
    refine seq_D hI [] [] [⟨some 0, none, 14, pEq (.slice (some ⟨g, 0, none⟩) X.length cap)⟩, ⟨some 1, none, 15, pI (c : Int)⟩, ⟨some 2, none, 16, pEq (.slice (some ⟨g, 0, none⟩) X.length cap)⟩, ⟨some 3, none, 17, pI (c : Int)⟩, ⟨some 4, none, 18, pI (pivI X c)⟩, ⟨some 5, none, 19, pI ((c : Int) + (pivI X c))⟩, ⟨some 6, none, 20, pEq (.slice (some ⟨g, 0, none⟩) X.length cap)⟩, ⟨some 7, none, 21, pI (c : Int)⟩, ⟨some 8, none, 22, pI (pivI X c)⟩, ⟨some 9, none, 23, pI ((c : Int) + (pivI X c))⟩, ⟨some 10, none, 24, pEq (.pointer (some ⟨g, 0 + (((c : Int) + (pivI X c))).toNat * 1, none⟩))⟩, ⟨some 11, none, 25, pEq (.slice (some ⟨y.b, 0, none⟩) y.n y.cap)⟩, ⟨some 12, none, 26, pEq (.slice (some ⟨g, 0, none⟩) X.length cap)⟩, ⟨some 13, none, 27, pI (c : Int)⟩, ⟨some 14, none, 28, pEq (.pointer (some ⟨g, 0 + ((c : Int)).toNat * 1, none⟩))⟩, ⟨some 15, none, 29, pEq (.slice (some ⟨x.b, 0, none⟩) x.n x.cap)⟩, ⟨some 16, none, 30, pEq (.pointer (some ⟨g, 0 + ((c : Int)).toNat * 1, none⟩))⟩, ⟨some 18, none, 31, pEq (.pointer (some ⟨g, 0 + (((c : Int) + (pivI X c))).toNat * 1, none⟩))⟩] (.u none [(17, pHp (hset H g c (itV y.hdr))), (19, pHp (hset (hset H g c (itV y.hdr)) g (c + i0) (itV x.hdr)))] (.k .z)) (.kkkk (.kk .z)) rfl [0, 0, 0, 0, 0, 24, 0, 0, 0, 384, 960, 1984, 0, 0, 12288, 28672, 65475, 131011, 262143, 524287] (by kernel_rfl) ?_ (.s (.c .o) (.k .z)) (.ddkk (.kddd (.d8 (.d8 .z)))) fun a w hI => ?_
    · exact ⟨op_move (.tmp 1 rfl rfl) (.here 6 rfl), op_load 1 rfl rfl rfl rfl (by kernel_rfl) ty_int rfl (.here 7 rfl), op_move (.tmp 1 rfl rfl) (.here 8 rfl), op_load 1 rfl rfl rfl rfl (by kernel_rfl) ty_int rfl (.here 9 rfl), op_move (.tmp 4 rfl rfl) (.here 10 rfl), op_bin (v := .int .i64 (IntKind.i64.wrap ((c : Int) + (pivI X c)))) (.tmp 9 rfl rfl) (.tmp 10 rfl rfl) (fun _ => rfl) (.at_ 11 _ _ rfl (pI_wrap (by omega))), op_move (.tmp 1 rfl rfl) (.here 12 rfl), op_load 1 rfl rfl rfl rfl (by kernel_rfl) ty_int rfl (.here 13 rfl), op_move (.tmp 4 rfl rfl) (.here 14 rfl), op_bin (v := .int .i64 (IntKind.i64.wrap ((c : Int) + (pivI X c)))) (.tmp 13 rfl rfl) (.tmp 14 rfl rfl) (fun _ => rfl) (.at_ 15 _ _ rfl (pI_wrap (by omega))), op_indexEq (.tmp 12 rfl rfl) (.tmp 15 rfl rfl) sl_Rows (by omega) (by omega) (by kernel_rfl) (.here 16 rfl), op_loadH (e := ⟨g, 1, false, tops R⟩) (idx := c + i0) 0 rfl rfl rfl (by kernel_rfl) rfl (.tmp 16 rfl rfl) hM0.top rfl (tops_get hy) (show 0 + (((c : Int) + (pivI X c))).toNat * 1 = (c + i0) * 1 by omega) ty_Ratios (.here 17 rfl), op_move (.tmp 1 rfl rfl) (.here 18 rfl), op_load 1 rfl rfl rfl rfl (by kernel_rfl) ty_int rfl (.here 19 rfl), op_indexEq (.tmp 18 rfl rfl) (.tmp 19 rfl rfl) sl_Rows (by omega) (by omega) (by kernel_rfl) (.here 20 rfl), op_loadH (e := ⟨g, 1, false, tops R⟩) (idx := c) 0 rfl rfl rfl (by kernel_rfl) rfl (.tmp 20 rfl rfl) hM0.top rfl (tops_get hx) (show 0 + ((c : Int)).toNat * 1 = (c) * 1 by omega) ty_Ratios (.here 21 rfl), op_indexEq (.tmp 6 rfl rfl) (.tmp 7 rfl rfl) sl_Rows (by omega) (by omega) (by kernel_rfl) (.here 22 rfl), op_storeH (e := ⟨g, 1, false, tops R⟩) (idx := c) (it := itV y.hdr) 0 rfl rfl rfl (by kernel_rfl) 0 rfl (by kernel_rfl) (by kernel_rfl) rfl (.tmp 22 rfl rfl) hM0.top rfl (by rw [tops_len]; omega) (show 0 + ((c : Int)).toNat * 1 = (c) * 1 by omega) ty_Ratios (.tmp 17 rfl rfl) (fits_slice _ _ _), op_indexEq (.tmp 8 rfl rfl) (.tmp 11 rfl rfl) sl_Rows (by omega) (by omega) (by kernel_rfl) (.here 23 rfl), op_storeH (e := ⟨g, 1, false, (tops R).set c (itV y.hdr)⟩) (idx := c + i0) (it := itV x.hdr) 0 rfl rfl rfl (by kernel_rfl) 1 rfl (by kernel_rfl) (by kernel_rfl) rfl (.tmp 23 rfl rfl) (hset_mem hM0.top rfl) rfl (by rw [List.length_set, tops_len]; omega) (show 0 + (((c : Int) + (pivI X c))).toNat * 1 = (c + i0) * 1 by omega) ty_Ratios (.tmp 21 rfl rfl) (fits_slice _ _ _), trivial⟩
    refine seq_T hI [] [] [⟨some 0, none, 32, pI (pivI X c)⟩, ⟨some 1, none, 33, pB (decide ((pivI X c) > (0 : Int)))⟩, ⟨some 2, none, 4, pB true⟩, ⟨some 3, none, 5, pB (decide ((pivI X c) > (0 : Int)))⟩] (.k (.k .z)) (.t 2 (.t 3 (.k .z))) rfl [0, 1, 3, 7] (by kernel_rfl) ?_ (.k (.k .z)) (.dddd (.dkk .z)) fun a w hI => ?_
    · exact ⟨op_move (.tmp 2 rfl rfl) (.here 3 rfl), op_bin (v := .bool (decide ((pivI X c) > (0 : Int)))) (.tmp 3 rfl rfl) (.const _) (fun _ => rfl) (.here 4 rfl), op_assign (.const _) (.here 5 rfl), op_assign (.tmp 4 rfl rfl) (.here 6 rfl), trivial⟩
    refine wp_ret ?_
    have hI : Inv ⟨34, w0, M, B⟩ [⟨34, 34, none, none, .obj, 0, 0, false, pHp (hup H g (tops (pivL X R c))), []⟩, ⟨3, 3, none, none, .ptr, 3, 1, false, pv (pI (c : Int)), []⟩] [] [⟨none, none, 4, pB true⟩, ⟨none, none, 5, pB (decide ((pivI X c) > (0 : Int)))⟩] none_ _ _ := (hI.conv ⟨⟨0, _, _, rfl, ⟨rfl, rfl, rfl⟩, rfl, fun _ => (pHp_eq (by unfold pivL; rw [if_neg (by omega), show (pivI X c).toNat = i0 by omega]; exact heap_swap hu hx hy))⟩, ⟨1, _, _, rfl, ⟨rfl, rfl, rfl⟩, rfl, fun _ => fun _ _ h => h⟩, trivial⟩ ⟨⟨rfl, rfl, 0, _, rfl, fun _ _ h => h⟩, ⟨rfl, rfl, 1, _, rfl, fun _ _ h => h⟩, trivial⟩)
    exact finL2 hI rfl hH (n0 := 0) rfl (hup_b _ _ _) (.imp (.tmp 0 rfl) (pB_eq (decide_eq_true (by omega)).symm)) (.tmp 1 rfl)
end Wx
