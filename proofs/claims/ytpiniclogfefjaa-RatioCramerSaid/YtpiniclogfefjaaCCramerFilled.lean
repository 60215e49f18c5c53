import Derived.Handy
import Derived.KernelRfl
import Derived.Test.YtpiniclogfefjaaProg
import Derived.Test.YtpiniclogfefjaaJCramer0
import Derived.Test.YtpiniclogfefjaaCCramerMem
import Derived.Test.YtpiniclogfefjaaJCramer6
import Derived.Test.YtpiniclogfefjaaCCramerRat1
import Derived.Test.YtpiniclogfefjaaJCramer14
import Derived.Test.YtpiniclogfefjaaJCramer16
import Derived.Test.YtpiniclogfefjaaJCramer18
import Derived.Test.YtpiniclogfefjaaCCramerInv
import Derived.Test.YtpiniclogfefjaaCCramerSem
import Derived.Test.YtpiniclogfefjaaCCramerSemOps
import Derived.Test.YtpiniclogfefjaaCCramerSemMem
import Derived.Test.YtpiniclogfefjaaJCramer23
import Derived.Test.YtpiniclogfefjaaCCramerSemTab
import Derived.Test.YtpiniclogfefjaaJCramer29
import Derived.Test.YtpiniclogfefjaaCCramerSemRow
import Derived.Test.YtpiniclogfefjaaJCramer25
import Derived.Test.YtpiniclogfefjaaCCramerSemAppend
import Derived.Test.YtpiniclogfefjaaCCramerSemObj
import Derived.Test.YtpiniclogfefjaaJCramer28
import Derived.Test.YtpiniclogfefjaaCCramerSemCopy
import Derived.Test.YtpiniclogfefjaaCCramerSemApp
import Derived.Test.YtpiniclogfefjaaJCramer32
import Derived.Test.YtpiniclogfefjaaCCramerPlainSolve
import Derived.Test.YtpiniclogfefjaaJCramer34
import Derived.Test.YtpiniclogfefjaaJCramer39
import Derived.Test.YtpiniclogfefjaaCCramerMatrix
import Derived.Test.YtpiniclogfefjaaJCramer36
import Derived.Test.YtpiniclogfefjaaCCramerTurned
namespace Wx
set_option maxRecDepth 100000
open Go Go.RowKit Go.Proofs
set_option linter.unusedVariables false

theorem c_filled {L : List Int} {n f : Nat} (h0 : 0 < n) (hn : n ≤ 8) (hf : f ≤ 8) (hL : L.length ≤ 1000000) (h8 : ∀ i, -128 ≤ L.getD i 0 ∧ L.getD i 0 ≤ 127) : ∀ (M : Nat → Nat → Prop) (w : World) (v0 v1 v2 : Value), Mid M w → Box M (fun w => (pRow 1 false L.length (fun i => pEq (.int .i8 (L.getD i 0)))) w v0) w → Box M (fun w => (pI (n : Int)) w v1) w → Box M (fun w => (pI (f : Int)) w v2) w → Calls Try.prog 15 #[v0, v1, v2] w (RetB M (pRow 1 false n (fun i => pRats ((fillM L n f).getD i []))) w) := by
  intro M w0 v0 v1 v2 hM hv0 hv1 hv2
  refine calls_startR (N := 55) Try.func15 rfl rfl rfl hM (show EntsA M w0 [v0, v1, v2] [⟨none, none, 0, pRow 1 false L.length (fun i => pEq (.int .i8 (L.getD i 0)))⟩, ⟨none, none, 1, pI (n : Int)⟩, ⟨none, none, 2, pI (f : Int)⟩] from ⟨⟨rfl, _, rfl, hv0⟩, ⟨rfl, _, rfl, hv1⟩, ⟨rfl, _, rfl, hv2⟩, trivial⟩) fun a hI => ?_
  refine seq_T hI [] [] [⟨some 0, none, 6, pEq ((Value.slice none 0 0))⟩] .z (.kkk .z) rfl [0] (by kernel_rfl) ?_ .z (.kkkk .z) fun a w hI => ?_
  · exact ⟨op_assign (.const _) (.here 3 rfl), trivial⟩
  refine seq_ST hI [⟨12, 12, some 1, none, .obj, 0, 0, false, pMade 1 false n (itV (.slice none 0 0)), []⟩] [] [⟨some 0, none, 11, pI (n : Int)⟩] .z (.kkkk .z) rfl [0, 1, 3] 2 (by kernel_rfl) ?_ (.k .z) (.kkkk (.d .z)) (fun a w hI => hI.openMade 0 rfl (by kernel_rfl)) (⟨_, exL fun l hC a w hI => sing hI [] [⟨some 0, none, 7, pEq (.slice (some ⟨l, 0, none⟩) n n)⟩] (.k .z) (.kkkk (.k .z)) (by kernel_rfl) (op_assign (.tmp 0 rfl rfl) (.here 5 rfl)) (.k .z) (.dkkk (.kk .z)),
      rfl⟩) ?_
  · exact ⟨op_move (.tmp 1 rfl rfl) (.here 4 rfl), op_makeSliceO (zv := .slice none 0 0) (z := [.slice none 0 0]) 0 rfl rfl rfl rfl rfl (by kernel_rfl) (.tmp 4 rfl rfl) (.tmp 4 rfl rfl) (sl_Rows).under (by kernel_rfl) rfl rfl (by omega) (fun u hu => by rw [List.mem_singleton.1 hu]; exact noU_slice _ _ _) (fun _ => rfl) (by omega) (.none (by kernel_rfl)), trivial⟩
  · rintro a w ⟨g, hC, hI⟩
    have hC : True := hC
    refine wp_seq ?_
    refine seq_T hI [] [] [⟨some 0, none, 13, pI (n : Int)⟩, ⟨some 1, none, 14, pI 0⟩] (.k .z) (.kkkk (.k .z)) rfl [0, 1] (by kernel_rfl) ?_ (.k .z) (.kkkk (.kkk .z)) fun a w hI => ?_
    · exact ⟨op_move (.tmp 1 rfl rfl) (.here 5 rfl), op_move (.const _) (.here 6 rfl), trivial⟩
    refine wp_block ?_
    refine wp_loop_ix (fun (q : BI) a w => (q.k ≤ n ∧ BldOk g n q.R (filB L n f q.k) q.H) ∧ Inv ⟨55, w0, M, fun _ => False⟩ [⟨12, 12, none, none, .obj, 0, 0, false, pHp q.H, []⟩] [] [⟨none, none, 0, pRow 1 false L.length (fun i => pEq (.int .i8 (L.getD i 0)))⟩, ⟨none, none, 1, pI (n : Int)⟩, ⟨none, none, 2, pI (f : Int)⟩, ⟨none, none, 6, pEq ((Value.slice none 0 0))⟩, ⟨none, none, 7, pEq (.slice (some ⟨g, 0, none⟩) n n)⟩, ⟨none, none, 13, pI (n : Int)⟩, ⟨none, none, 14, pI (q.k : Int)⟩] none_ a w) (fun (q : BI) => n - q.k) (⟨0, List.replicate n ⟨0, 0, 0⟩, [⟨g, 1, false, List.replicate n (itV (.slice none 0 0))⟩]⟩) ⟨⟨Nat.zero_le _, by have h := bld_nil g n; rw [← filB_zero (L := L) (f := f)] at h; exact h⟩, (hI.conv ⟨⟨0, _, _, rfl, ⟨rfl, rfl, rfl⟩, rfl, fun _ => (fun _ _ h => h)⟩, trivial⟩ ⟨⟨rfl, rfl, 0, _, rfl, fun _ _ h => h⟩, ⟨rfl, rfl, 1, _, rfl, fun _ _ h => h⟩, ⟨rfl, rfl, 2, _, rfl, fun _ _ h => h⟩, ⟨rfl, rfl, 3, _, rfl, fun _ _ h => h⟩, ⟨rfl, rfl, 4, _, rfl, fun _ _ h => h⟩, ⟨rfl, rfl, 5, _, rfl, fun _ _ h => h⟩, ⟨rfl, rfl, 6, _, rfl, (pI_eq rfl)⟩, trivial⟩)⟩ ?_
    intro q a w hIk
    obtain ⟨⟨hk, hB⟩, hI⟩ := hIk
    refine seq_T hI [] [] [⟨some 0, none, 15, pB (decide ((q.k : Int) < (n : Int)))⟩] (.k .z) (.kkkk (.kkk .z)) rfl [0] (by kernel_rfl) ?_ (.k .z) (.k8 .z) fun a w hI => ?_
    · exact ⟨op_bin (v := .bool (decide ((q.k : Int) < (n : Int)))) (.tmp 6 rfl rfl) (.tmp 5 rfl rfl) (fun _ => rfl) (.here 7 rfl), trivial⟩
    refine wp_seq ?_
    refine cond_if hI 7 rfl (fun ht => ?_) (fun ht => ?_)
    · have t1 := of_decide_eq_true ht
      refine wp_skip ?_
      refine then_of ?_
      refine wp_seq ?_
      refine wp_block ?_
      refine seq_T hI [] [] [⟨some 0, none, 16, pI (q.k : Int)⟩, ⟨some 1, none, 8, pI (q.k : Int)⟩] (.k .z) (.k8 .z) rfl [0, 1] (by kernel_rfl) ?_ (.k .z) (.kkkk (.kkkd (.dk .z))) fun a w hI => ?_
      · exact ⟨op_move (.tmp 6 rfl rfl) (.here 8 rfl), op_assign (.tmp 8 rfl rfl) (.here 9 rfl), trivial⟩
      have hoff : ∀ r : RowL, (∀ e, e ∈ q.H → e.b ≠ r.b) → g ≠ r.b := fun r h => h _ hB.top
      refine seq_ST hI [⟨20, 20, some 3, none, .obj, 0, 0, false, pApp q.H (.slice none 0 0) [] (List.replicate n 0), []⟩] [] [⟨some 0, none, 17, pEq (.slice (some ⟨g, 0, none⟩) n n)⟩, ⟨some 1, none, 18, pI (q.k : Int)⟩, ⟨some 2, none, 19, pI (n : Int)⟩] (.u (some 3) [] .z) (.k8 .z) rfl [0, 1, 3, 7, 15, 31] 4 (by kernel_rfl) ?_ (.d (.k .z)) (.k8 (.kkd .z)) (fun a w hI => hI.openApp 0 rfl (by kernel_rfl)) (⟨_, exL fun l hC a w hI => sing hI [] [⟨some 0, none, 21, pEq (.pointer (some ⟨g, 0 + ((q.k : Int)).toNat * 1, none⟩))⟩] (.k .z) (.k8 (.kkk .z)) (by kernel_rfl) (op_indexEq (.tmp 9 rfl rfl) (.tmp 10 rfl rfl) sl_Rows (by omega) (by omega) (by kernel_rfl) (.here 11 rfl)) (.k .z) (.k8 (.kddk .z)),
          _, exL fun l hC a w hI => sing hI [] [] (.u none [(0, pHp (hset (appH q.H l.b (rowIt (List.replicate n 0) l.cap)) g q.k (itV l.hdr)))] .z) (.k8 (.kk .z)) (by kernel_rfl) (op_storeH (e := ⟨g, 1, false, tops0 q.R⟩) (idx := q.k) (it := itV l.hdr) 0 rfl rfl rfl (by kernel_rfl) 0 rfl (by kernel_rfl) (by kernel_rfl) rfl (.tmp 9 rfl rfl) (appH_other hB.top (hoff l (appOk_new hC).2)) rfl (by rw [tops0_len]; have := hB.len.1; omega) (show 0 + ((q.k : Int)).toNat * 1 = q.k * 1 by omega) ty_Ratios (.tmp 0 rfl rfl) (fits_slice _ _ _)) (.s .o .z) (.dkkk (.kkkk (.kd .z))),
          rfl⟩) ?_
      · exact ⟨op_move (.tmp 4 rfl rfl) (.here 8 rfl), op_move (.tmp 7 rfl rfl) (.here 9 rfl), op_move (.tmp 1 rfl rfl) (.here 10 rfl), op_makeSliceH (n := n) (zv := .agg #[.bool false, .slice none 0 0, .slice none 0 0]) (z := [.bool false, .slice none 0 0, .slice none 0 0]) 0 rfl rfl rfl rfl (by kernel_rfl) rfl 1 rfl rfl rfl rfl rfl (by kernel_rfl) (.tmp 10 rfl rfl) (.tmp 10 rfl rfl) (sl_Ratios).under (by kernel_rfl) rfl rfl (by simp [NoU]) (fun w => isRat_zero w) (by omega) (.none (by kernel_rfl)), trivial⟩
      · rintro a w ⟨l, hC, hI⟩
        have hC : AppOk q.H (.slice none 0 0) [] (List.replicate n 0) l := hC
        refine seq_T hI [] [] [⟨some 0, none, 22, pI (n : Int)⟩, ⟨some 1, none, 23, pI 0⟩] (.k .z) (.k8 .z) rfl [0, 1] (by kernel_rfl) ?_ (.k .z) (.k8 (.kk .z)) fun a w hI => ?_
        · exact ⟨op_move (.tmp 1 rfl rfl) (.here 8 rfl), op_move (.const _) (.here 9 rfl), trivial⟩
        refine wp_block ?_
        refine wp_loop_ix (fun (q2 : BI) a w => (q2.k ≤ n ∧ BldOk g n q2.R (filC L n f q.k q2.k) q2.H) ∧ Inv ⟨55, w0, M, fun _ => False⟩ [⟨20, 20, none, none, .obj, 0, 0, false, pHp q2.H, []⟩] [] [⟨none, none, 0, pRow 1 false L.length (fun i => pEq (.int .i8 (L.getD i 0)))⟩, ⟨none, none, 1, pI (n : Int)⟩, ⟨none, none, 2, pI (f : Int)⟩, ⟨none, none, 6, pEq ((Value.slice none 0 0))⟩, ⟨none, none, 7, pEq (.slice (some ⟨g, 0, none⟩) n n)⟩, ⟨none, none, 13, pI (n : Int)⟩, ⟨none, none, 14, pI (q.k : Int)⟩, ⟨none, none, 8, pI (q.k : Int)⟩, ⟨none, none, 22, pI (n : Int)⟩, ⟨none, none, 23, pI (q2.k : Int)⟩] none_ a w) (fun (q2 : BI) => n - q2.k) (⟨0, q.R.set q.k l, hset (appH q.H l.b (rowIt (List.replicate n 0) l.cap)) g q.k (itV l.hdr)⟩) ⟨⟨Nat.zero_le _, by have h := hB.put (i := q.k) (l := List.replicate n 0) (r' := l) (by omega) (by rw [List.length_replicate]; omega) (appOk_new hC).1 hC.2.1 hC.2.2.1 (.inr (appOk_new hC).2); rw [filB_start (by omega)] at h; exact h⟩, (hI.conv ⟨⟨0, _, _, rfl, ⟨rfl, rfl, rfl⟩, rfl, fun _ => (fun _ _ h => h)⟩, trivial⟩ ⟨⟨rfl, rfl, 0, _, rfl, fun _ _ h => h⟩, ⟨rfl, rfl, 1, _, rfl, fun _ _ h => h⟩, ⟨rfl, rfl, 2, _, rfl, fun _ _ h => h⟩, ⟨rfl, rfl, 3, _, rfl, fun _ _ h => h⟩, ⟨rfl, rfl, 4, _, rfl, fun _ _ h => h⟩, ⟨rfl, rfl, 5, _, rfl, fun _ _ h => h⟩, ⟨rfl, rfl, 6, _, rfl, fun _ _ h => h⟩, ⟨rfl, rfl, 7, _, rfl, fun _ _ h => h⟩, ⟨rfl, rfl, 8, _, rfl, fun _ _ h => h⟩, ⟨rfl, rfl, 9, _, rfl, (pI_eq rfl)⟩, trivial⟩)⟩ ?_
        intro q2 a w hIk
        obtain ⟨⟨hk2, hB2⟩, hI⟩ := hIk
        refine seq_T hI [] [] [⟨some 0, none, 24, pB (decide ((q2.k : Int) < (n : Int)))⟩] (.k .z) (.k8 (.kk .z)) rfl [0] (by kernel_rfl) ?_ (.k .z) (.k8 (.kkk .z)) fun a w hI => ?_
        · exact ⟨op_bin (v := .bool (decide ((q2.k : Int) < (n : Int)))) (.tmp 9 rfl rfl) (.tmp 8 rfl rfl) (fun _ => rfl) (.here 10 rfl), trivial⟩
        refine wp_seq ?_
        refine cond_if hI 10 rfl (fun ht => ?_) (fun ht => ?_)
        · have t2 := of_decide_eq_true ht
          refine wp_skip ?_
          refine then_of ?_
          refine wp_seq ?_
          refine wp_block ?_
          refine seq_T hI [] [] [⟨some 0, none, 25, pI (q2.k : Int)⟩, ⟨some 1, none, 9, pI (q2.k : Int)⟩] (.k .z) (.k8 (.kkk .z)) rfl [0, 1] (by kernel_rfl) ?_ (.k .z) (.k8 (.kkdd (.k .z))) fun a w hI => ?_
          · exact ⟨op_move (.tmp 9 rfl rfl) (.here 11 rfl), op_assign (.tmp 11 rfl rfl) (.here 12 rfl), trivial⟩
          refine seq_T hI [] [] [⟨some 0, none, 10, pI 0⟩] (.k .z) (.k8 (.kkk .z)) rfl [0] (by kernel_rfl) ?_ (.k .z) (.k8 (.kkkk .z)) fun a w hI => ?_
          · exact ⟨op_assign (.const _) (.here 11 rfl), trivial⟩
          refine wp_seq ?_
          refine seq_T hI [] [] [⟨some 0, none, 26, pRow 1 false L.length (fun i => pEq (.int .i8 (L.getD i 0)))⟩, ⟨some 1, none, 27, pI (L.length : Int)⟩, ⟨some 2, none, 28, pB (decide ((L.length : Int) > (0 : Int)))⟩] (.k .z) (.k8 (.kkkk .z)) rfl [0, 1, 3] (by kernel_rfl) ?_ (.k .z) (.k8 (.kkkk (.ddk .z))) fun a w hI => ?_
          · exact ⟨op_move (.tmp 0 rfl rfl) (.here 12 rfl), op_len (.tmp 12 rfl rfl) (sl_i8s).under (.here 13 rfl), op_bin (v := .bool (decide ((L.length : Int) > (0 : Int)))) (.tmp 13 rfl rfl) (.const _) (fun _ => rfl) (.here 14 rfl), trivial⟩
          refine wp_joinT (fun a w => Inv ⟨55, w0, M, fun _ => False⟩ [⟨20, 20, none, none, .obj, 0, 0, false, pHp q2.H, []⟩] [] [⟨none, none, 0, pRow 1 false L.length (fun i => pEq (.int .i8 (L.getD i 0)))⟩, ⟨none, none, 1, pI (n : Int)⟩, ⟨none, none, 2, pI (f : Int)⟩, ⟨none, none, 6, pEq ((Value.slice none 0 0))⟩, ⟨none, none, 7, pEq (.slice (some ⟨g, 0, none⟩) n n)⟩, ⟨none, none, 13, pI (n : Int)⟩, ⟨none, none, 14, pI (q.k : Int)⟩, ⟨none, none, 8, pI (q.k : Int)⟩, ⟨none, none, 22, pI (n : Int)⟩, ⟨none, none, 23, pI (q2.k : Int)⟩, ⟨none, none, 9, pI (q2.k : Int)⟩, ⟨none, none, 10, pI (fillZ L (f + n * q.k + q2.k))⟩] none_ a w) ?_ ?_
          ·
            refine cond_if hI 12 rfl (fun ht => ?_) (fun ht => ?_)
            · have t3 := of_decide_eq_true ht
              have hnk : n * q.k ≤ 64 := Nat.le_trans (Nat.mul_le_mul hn (show q.k ≤ 8 by omega)) (by decide)
              have hnk2 : ((n * q.k : Nat) : Int) = (n : Int) * (q.k : Int) := Int.natCast_mul ..
              have hpz : ((f : Int) + (n : Int) * (q.k : Int) + (q2.k : Int)) = ((f + n * q.k + q2.k : Nat) : Int) := by rw [Int.natCast_add, Int.natCast_add, hnk2]
              have hmod := Nat.mod_lt (f + n * q.k + q2.k) (show 0 < L.length by have := t3; omega)
              have hv8 := h8 ((f + n * q.k + q2.k) % L.length)
              refine sem_T hI [] [] [⟨some 0, none, 29, pRow 1 false L.length (fun i => pEq (.int .i8 (L.getD i 0)))⟩, ⟨some 1, none, 30, pI (f : Int)⟩, ⟨some 2, none, 31, pI (n : Int)⟩, ⟨some 3, none, 32, pI (q.k : Int)⟩, ⟨some 4, none, 33, pI ((n : Int) * (q.k : Int))⟩, ⟨some 5, none, 34, pI ((f : Int) + ((n : Int) * (q.k : Int)))⟩, ⟨some 6, none, 35, pI (q2.k : Int)⟩, ⟨some 7, none, 36, pI (((f : Int) + ((n : Int) * (q.k : Int))) + (q2.k : Int))⟩, ⟨some 8, none, 37, pRow 1 false L.length (fun i => pEq (.int .i8 (L.getD i 0)))⟩, ⟨some 9, none, 38, pI (L.length : Int)⟩, ⟨some 10, none, 39, pI (((f + n * q.k + q2.k) % L.length : Nat) : Int)⟩, ⟨some 11, none, 40, pPtr 1 false (pEq (.int .i8 (L.getD ((f + n * q.k + q2.k) % L.length) 0)))⟩, ⟨some 12, none, 41, pEq (.int .i8 (L.getD ((f + n * q.k + q2.k) % L.length) 0))⟩, ⟨some 13, none, 42, pI (L.getD ((f + n * q.k + q2.k) % L.length) 0)⟩, ⟨some 14, none, 43, pI (((L.getD ((f + n * q.k + q2.k) % L.length) 0)).tmod 10)⟩, ⟨some 15, none, 10, pI (((L.getD ((f + n * q.k + q2.k) % L.length) 0)).tmod 10)⟩] (.k .z) (.k8 (.kkk (.t 15 (.k .z)))) rfl [0, 1, 3, 7, 15, 31, 63, 127, 255, 511, 1023, 2047, 4095, 8191, 16383, 32767] (by kernel_rfl) ?_ (.k .z) (.k8 (.kkkd (.d8 (.d8 (.k .z))))) fun a w hI => ?_
              · exact ⟨op_move (.tmp 0 rfl rfl) (.here 13 rfl), op_move (.tmp 2 rfl rfl) (.here 14 rfl), op_move (.tmp 1 rfl rfl) (.here 15 rfl), op_move (.tmp 7 rfl rfl) (.here 16 rfl), op_bin (v := .int .i64 (IntKind.i64.wrap ((n : Int) * (q.k : Int)))) (.tmp 15 rfl rfl) (.tmp 16 rfl rfl) (fun _ => rfl) (.at_ 17 _ _ rfl (pI_wrap (by omega))), op_bin (v := .int .i64 (IntKind.i64.wrap ((f : Int) + ((n : Int) * (q.k : Int))))) (.tmp 14 rfl rfl) (.tmp 17 rfl rfl) (fun _ => rfl) (.at_ 18 _ _ rfl (pI_wrap (by omega))), op_move (.tmp 10 rfl rfl) (.here 19 rfl), op_bin (v := .int .i64 (IntKind.i64.wrap (((f : Int) + ((n : Int) * (q.k : Int))) + (q2.k : Int)))) (.tmp 18 rfl rfl) (.tmp 19 rfl rfl) (fun _ => rfl) (.at_ 20 _ _ rfl (pI_wrap (by omega))), op_move (.tmp 0 rfl rfl) (.here 21 rfl), op_len (.tmp 21 rfl rfl) (sl_i8s).under (.here 22 rfl), op_bin (.tmp 20 rfl rfl) (.tmp 22 rfl rfl) (bin_rem (by omega)) (.at_ 23 _ _ rfl (pI_eq (by rw [hpz]; exact (Int.ofNat_tmod _ _).symm))), op_indexRow (.tmp 13 rfl rfl) (.tmp 23 rfl rfl) sl_i8s (by omega) (by omega) (by kernel_rfl) (.at_ 24 _ _ rfl (by rw [Int.toNat_natCast]; exact fun _ _ h => h)), op_loadP (.tmp 24 rfl rfl) ty_int8 (fits_i8 _) (.here 25 rfl), op_conv (.tmp 25 rfl rfl) (fun _ => by kernel_rfl) (.at_ 26 _ _ rfl (pI_wrap (by omega))), op_bin (.tmp 26 rfl rfl) (.const _) (bin_rem (by decide)) (.here 27 rfl), op_assign (.tmp 27 rfl rfl) (.here 28 rfl), trivial⟩
              refine then_of ?_
              exact (hI.conv ⟨⟨0, _, _, rfl, ⟨rfl, rfl, rfl⟩, rfl, fun _ => fun _ _ h => h⟩, trivial⟩ ⟨⟨rfl, rfl, 0, _, rfl, fun _ _ h => h⟩, ⟨rfl, rfl, 1, _, rfl, fun _ _ h => h⟩, ⟨rfl, rfl, 2, _, rfl, fun _ _ h => h⟩, ⟨rfl, rfl, 3, _, rfl, fun _ _ h => h⟩, ⟨rfl, rfl, 4, _, rfl, fun _ _ h => h⟩, ⟨rfl, rfl, 5, _, rfl, fun _ _ h => h⟩, ⟨rfl, rfl, 6, _, rfl, fun _ _ h => h⟩, ⟨rfl, rfl, 7, _, rfl, fun _ _ h => h⟩, ⟨rfl, rfl, 8, _, rfl, fun _ _ h => h⟩, ⟨rfl, rfl, 9, _, rfl, fun _ _ h => h⟩, ⟨rfl, rfl, 10, _, rfl, fun _ _ h => h⟩, ⟨rfl, rfl, 11, _, rfl, (pI_eq (if_pos (by have := t3; omega)).symm)⟩, trivial⟩)
            · have t4 := of_decide_eq_false ht
              refine wp_skip ?_
              refine then_of ?_
              exact (hI.conv ⟨⟨0, _, _, rfl, ⟨rfl, rfl, rfl⟩, rfl, fun _ => fun _ _ h => h⟩, trivial⟩ ⟨⟨rfl, rfl, 0, _, rfl, fun _ _ h => h⟩, ⟨rfl, rfl, 1, _, rfl, fun _ _ h => h⟩, ⟨rfl, rfl, 2, _, rfl, fun _ _ h => h⟩, ⟨rfl, rfl, 3, _, rfl, fun _ _ h => h⟩, ⟨rfl, rfl, 4, _, rfl, fun _ _ h => h⟩, ⟨rfl, rfl, 5, _, rfl, fun _ _ h => h⟩, ⟨rfl, rfl, 6, _, rfl, fun _ _ h => h⟩, ⟨rfl, rfl, 7, _, rfl, fun _ _ h => h⟩, ⟨rfl, rfl, 8, _, rfl, fun _ _ h => h⟩, ⟨rfl, rfl, 9, _, rfl, fun _ _ h => h⟩, ⟨rfl, rfl, 10, _, rfl, fun _ _ h => h⟩, ⟨rfl, rfl, 11, _, rfl, (pI_eq (if_neg (by have := t4; omega)).symm)⟩, trivial⟩)
          ·
            intro a w hI
            have hl2 := hB2.len.1
            have hfb := fillZ_bd L (f + n * q.k + q2.k)
            have hrn := hB2.num q.k (by omega)
            rw [filC_at (by omega), fillP_len] at hrn
            have hr0 : (rowAt q2.R q.k).n ≠ 0 := by omega
            obtain ⟨hc1, hc2, hmem, _⟩ := hB2.rows q.k (by omega) hr0
            rw [filC_at (by omega)] at hmem
            refine sem_D hI [] [] [⟨some 0, none, 44, pEq (.slice (some ⟨g, 0, none⟩) n n)⟩, ⟨some 1, none, 45, pI (q.k : Int)⟩, ⟨some 2, none, 46, pEq (.pointer (some ⟨g, 0 + ((q.k : Int)).toNat * 1, none⟩))⟩, ⟨some 3, none, 47, pEq (.slice (some ⟨(rowAt q2.R q.k).b, 0, none⟩) ((rowAt q2.R q.k).n) ((rowAt q2.R q.k).cap))⟩, ⟨some 4, none, 48, pI (q2.k : Int)⟩, ⟨some 5, none, 49, pI (fillZ L (f + n * q.k + q2.k))⟩, ⟨some 6, none, 50, pRat (fillE L n f q.k q2.k)⟩, ⟨some 7, none, 51, pEq (.pointer (some ⟨(rowAt q2.R q.k).b, 0 + ((q2.k : Int)).toNat * 3, none⟩))⟩] (.u none [(8, pHp (hset q2.H (rowAt q2.R q.k).b q2.k (itR (fillE L n f q.k q2.k))))] .z) (.k8 (.kkkk .z)) rfl [0, 0, 3, 7, 0, 0, 32, 127, 255] (by kernel_rfl) ?_ (.s .o .z) (.k8 (.kkdd (.d8 .z))) fun a w hI => ?_
            · exact ⟨op_move (.tmp 4 rfl rfl) (.here 12 rfl), op_move (.tmp 7 rfl rfl) (.here 13 rfl), op_indexEq (.tmp 12 rfl rfl) (.tmp 13 rfl rfl) sl_Rows (by omega) (by omega) (by kernel_rfl) (.here 14 rfl), op_loadH (e := ⟨g, 1, false, tops0 q2.R⟩) (idx := q.k) 0 rfl rfl rfl (by kernel_rfl) rfl (.tmp 14 rfl rfl) hB2.top rfl (tops0_hdr (by have := hB2.len.1; omega) hr0) (show 0 + ((q.k : Int)).toNat * 1 = q.k * 1 by omega) ty_Ratios (.here 15 rfl), op_move (.tmp 10 rfl rfl) (.here 16 rfl), op_move (.tmp 11 rfl rfl) (.here 17 rfl), op_call1 (fun _ _ => by kernel_rfl) (numlike_rat _) (.tmp 17 rfl rfl) (.here 18 rfl) (c_int (fillZ L (f + n * q.k + q2.k)) (by omega) (by omega)), op_indexEq (.tmp 15 rfl rfl) (.tmp 16 rfl rfl) sl_Ratios (by omega) (by omega) (by kernel_rfl) (.here 19 rfl), op_storeH (e := ⟨(rowAt q2.R q.k).b, 3, true, rowIt (fillP L n f q.k q2.k) (rowAt q2.R q.k).cap⟩) (idx := q2.k) (it := itR (fillE L n f q.k q2.k)) 0 rfl rfl rfl (by kernel_rfl) 0 rfl (by kernel_rfl) (by kernel_rfl) rfl (.tmp 19 rfl rfl) hmem rfl (rowIt_lt (by rw [fillP_len]; omega)) (show 0 + ((q2.k : Int)).toNat * 3 = q2.k * 3 by omega) ty_Ratio (.tmp 18 rfl rfl) (fits_rat _), trivial⟩
            refine block_of ?_
            refine then_of ?_
            refine sem_T hI [] [] [⟨some 0, none, 52, pI ((q2.k : Int) + (1 : Int))⟩, ⟨some 1, none, 23, pI ((q2.k : Int) + (1 : Int))⟩] (.k .z) (.k8 (.k (.t 1 .z))) rfl [0, 1] (by kernel_rfl) ?_ (.k .z) (.k8 (.kddk .z)) fun a w hI => ?_
            · exact ⟨op_bin (v := .int .i64 (IntKind.i64.wrap ((q2.k : Int) + (1 : Int)))) (.tmp 9 rfl rfl) (.const _) (fun _ => rfl) (.at_ 10 _ _ rfl (pI_wrap (by omega))), op_move (.tmp 10 rfl rfl) (.here 11 rfl), trivial⟩
            refine then_of ?_
            exact ⟨⟨q2.k + 1, q2.R, hset q2.H (rowAt q2.R q.k).b q2.k (itR (fillE L n f q.k q2.k))⟩, ⟨⟨by show q2.k + 1 ≤ n; omega, by have h := hB2.setItem (i := q.k) (k := q2.k) (q := fillE L n f q.k q2.k) (by omega) (by rw [filC_at (by omega), fillP_len]; omega); rw [filC_step (by omega) (by omega)] at h; exact h⟩, (hI.conv ⟨⟨0, _, _, rfl, ⟨rfl, rfl, rfl⟩, rfl, fun _ => fun _ _ h => h⟩, trivial⟩ ⟨⟨rfl, rfl, 0, _, rfl, fun _ _ h => h⟩, ⟨rfl, rfl, 1, _, rfl, fun _ _ h => h⟩, ⟨rfl, rfl, 2, _, rfl, fun _ _ h => h⟩, ⟨rfl, rfl, 3, _, rfl, fun _ _ h => h⟩, ⟨rfl, rfl, 4, _, rfl, fun _ _ h => h⟩, ⟨rfl, rfl, 5, _, rfl, fun _ _ h => h⟩, ⟨rfl, rfl, 6, _, rfl, fun _ _ h => h⟩, ⟨rfl, rfl, 7, _, rfl, fun _ _ h => h⟩, ⟨rfl, rfl, 8, _, rfl, fun _ _ h => h⟩, ⟨rfl, rfl, 9, _, rfl, (pI_eq (by show ((q2.k : Int) + 1) = ((q2.k + 1 : Nat) : Int); omega))⟩, trivial⟩)⟩, (show n - (q2.k + 1) < n - q2.k by omega)⟩
        · have t5 := of_decide_eq_false ht
          refine wp_exit ?_
          refine then_exit ?_
          refine then_exit ?_
          refine block_exit ?_
          refine block_of ?_
          refine then_of ?_
          refine sem_T hI [] [] [⟨some 0, none, 53, pI ((q.k : Int) + (1 : Int))⟩, ⟨some 1, none, 14, pI ((q.k : Int) + (1 : Int))⟩] (.k .z) (.kkkk (.kk (.t 1 (.kkkk .z)))) rfl [0, 1] (by kernel_rfl) ?_ (.k .z) (.kkkk (.kkdd (.dddd (.k .z)))) fun a w hI => ?_
          · exact ⟨op_bin (v := .int .i64 (IntKind.i64.wrap ((q.k : Int) + (1 : Int)))) (.tmp 6 rfl rfl) (.const _) (fun _ => rfl) (.at_ 11 _ _ rfl (pI_wrap (by omega))), op_move (.tmp 11 rfl rfl) (.here 12 rfl), trivial⟩
          refine then_of ?_
          replace hI := hI.reobj 12 12 (n0 := 0) rfl (by kernel_rfl) (by kernel_rfl)
          exact ⟨⟨q.k + 1, q2.R, q2.H⟩, ⟨⟨by show q.k + 1 ≤ n; omega, by have h := hB2; rw [show q2.k = n by omega, filC_end] at h; exact h⟩, (hI.conv ⟨⟨0, _, _, rfl, ⟨rfl, rfl, rfl⟩, rfl, fun _ => fun _ _ h => h⟩, trivial⟩ ⟨⟨rfl, rfl, 0, _, rfl, fun _ _ h => h⟩, ⟨rfl, rfl, 1, _, rfl, fun _ _ h => h⟩, ⟨rfl, rfl, 2, _, rfl, fun _ _ h => h⟩, ⟨rfl, rfl, 3, _, rfl, fun _ _ h => h⟩, ⟨rfl, rfl, 4, _, rfl, fun _ _ h => h⟩, ⟨rfl, rfl, 5, _, rfl, fun _ _ h => h⟩, ⟨rfl, rfl, 6, _, rfl, (pI_eq (by show ((q.k : Int) + 1) = ((q.k + 1 : Nat) : Int); omega))⟩, trivial⟩)⟩, (show n - (q.k + 1) < n - q.k by omega)⟩
    · have t6 := of_decide_eq_false ht
      refine wp_exit ?_
      refine then_exit ?_
      refine then_exit ?_
      refine block_exit ?_
      refine then_of ?_
      refine seq_T hI [] [] [⟨some 0, none, 54, pEq (.slice (some ⟨g, 0, none⟩) n n)⟩, ⟨some 1, none, 6, pEq (.slice (some ⟨g, 0, none⟩) n n)⟩] (.k .z) (.kkk (.t 1 (.kkkk .z))) rfl [0, 1] (by kernel_rfl) ?_ (.k .z) (.d8 (.dk .z)) fun a w hI => ?_
      · exact ⟨op_move (.tmp 4 rfl rfl) (.here 8 rfl), op_assign (.tmp 8 rfl rfl) (.here 9 rfl), trivial⟩
      refine wp_ret ?_
      exact finObj1 hI rfl (n0 := 0) rfl (.tmp 0 rfl) (fun B w hH => by have h := hB.read (cap := n) (Nat.le_refl _) (by unfold maxLen; omega) (fun i hi => by rw [filB_get hi, if_pos (by omega), fillR_len]; omega) B w hH; rw [show q.k = n by omega, filB_end] at h; exact h)
theorem idn_test {i k : Nat} {x : Rat} (h : x = if i = k then 1 else 0) : ((((i : Int) == (k : Int)) && !(decide (x = ((1 : Int) : Rat)))) || (((i : Int) != (k : Int)) && !(decide (x = 0)))) = false := by
  have e : ((1 : Int) : Rat) = 1 := rfl
  rw [e, h]
  by_cases hk : i = k
  · subst hk
    simp
  · have : ((i : Int) == (k : Int)) = false := beq_eq_false_iff_ne.2 (by omega)
    simp [this, hk]
theorem c_identity {A : List (List Rat)} (hA : A.length ≤ 1000000) (hr : ∀ i, i < A.length → (A.getD i []).length ≤ 1000000) (hId : ∀ i, i < A.length → ∀ k, k < (A.getD i []).length → (A.getD i []).getD k 0 = if i = k then 1 else 0) : ∀ (M : Nat → Nat → Prop) (w : World) (v0 : Value), Mid M w → Box M (fun w => (pRow 1 false A.length (fun i => pRats (A.getD i []))) w v0) w → Calls Try.prog 21 #[v0] w (RetB M (pB true) w) := by
  intro M w0 v0 hM hv0
  refine calls_start (N := 42) Try.func21 rfl rfl rfl hM (show EntsA M w0 [v0] [⟨none, none, 0, pRow 1 false A.length (fun i => pRats (A.getD i []))⟩] from ⟨⟨rfl, _, rfl, hv0⟩, trivial⟩) fun a hI => ?_
  refine seq_T hI [] [] [⟨some 0, none, 2, pB false⟩] .z (.k .z) rfl [0] (by kernel_rfl) ?_ .z (.kk .z) fun a w hI => ?_
  · exact ⟨op_assign (.const _) (.here 1 rfl), trivial⟩
  refine wp_seq ?_
  refine seq_T hI [] [] [⟨some 0, none, 6, pRow 1 false A.length (fun i => pRats (A.getD i []))⟩, ⟨some 1, none, 7, pI (A.length : Int)⟩, ⟨some 2, none, 8, pI 0⟩] .z (.kk .z) rfl [0, 1, 3] (by kernel_rfl) ?_ .z (.kkdk (.k .z)) fun a w hI => ?_
  · exact ⟨op_move (.tmp 0 rfl rfl) (.here 2 rfl), op_len (.tmp 2 rfl rfl) (sl_Rows).under (.here 3 rfl), op_move (.const _) (.here 4 rfl), trivial⟩
  refine wp_block ?_
  refine wp_loop_ix (fun (k : Nat) a w => (k ≤ A.length) ∧ Inv ⟨42, w0, M, fun _ => False⟩ [] [] [⟨none, none, 0, pRow 1 false A.length (fun i => pRats (A.getD i []))⟩, ⟨none, none, 7, pI (A.length : Int)⟩, ⟨none, none, 8, pI (k : Int)⟩] none_ a w) (fun (k : Nat) => A.length - k) (0) ⟨Nat.zero_le _, (hI.conv trivial ⟨⟨rfl, rfl, 0, _, rfl, fun _ _ h => h⟩, ⟨rfl, rfl, 2, _, rfl, fun _ _ h => h⟩, ⟨rfl, rfl, 3, _, rfl, (pI_eq (by omega))⟩, trivial⟩)⟩ ?_
  intro k a w hIk
  obtain ⟨hp, hI⟩ := hIk
  refine seq_T hI [] [] [⟨some 0, none, 9, pB (decide ((k : Int) < (A.length : Int)))⟩] .z (.kkk .z) rfl [0] (by kernel_rfl) ?_ .z (.kkkk .z) fun a w hI => ?_
  · exact ⟨op_bin (v := .bool (decide ((k : Int) < (A.length : Int)))) (.tmp 2 rfl rfl) (.tmp 1 rfl rfl) (fun _ => rfl) (.here 3 rfl), trivial⟩
  refine wp_seq ?_
  refine cond_if hI 3 rfl (fun ht => ?_) (fun ht => ?_)
  · have t1 := of_decide_eq_true ht
    refine wp_skip ?_
    refine then_of ?_
    refine wp_seq ?_
    refine wp_block ?_
    refine seq_T hI [] [] [⟨some 0, none, 10, pI (k : Int)⟩, ⟨some 1, none, 3, pI (k : Int)⟩] .z (.kkkk .z) rfl [0, 1] (by kernel_rfl) ?_ .z (.kkkd (.dk .z)) fun a w hI => ?_
    · exact ⟨op_move (.tmp 2 rfl rfl) (.here 4 rfl), op_assign (.tmp 4 rfl rfl) (.here 5 rfl), trivial⟩
    have hk0 := hr k (by omega)
    refine seq_T hI [] [] [⟨some 0, none, 11, pRow 1 false A.length (fun i => pRats (A.getD i []))⟩, ⟨some 1, none, 12, pI (k : Int)⟩, ⟨some 2, none, 13, pPtr 1 false (pRats (A.getD k []))⟩, ⟨some 3, none, 14, pRats (A.getD k [])⟩, ⟨some 4, none, 15, pI ((A.getD k []).length : Int)⟩, ⟨some 5, none, 16, pI 0⟩] .z (.kkkk .z) rfl [0, 1, 3, 7, 15, 31] (by kernel_rfl) ?_ .z (.kkkk (.dddk (.kk .z))) fun a w hI => ?_
    · exact ⟨op_move (.tmp 0 rfl rfl) (.here 4 rfl), op_move (.tmp 3 rfl rfl) (.here 5 rfl), op_indexRow (.tmp 4 rfl rfl) (.tmp 5 rfl rfl) sl_Rows (by omega) (by omega) (by kernel_rfl) (.at_ 6 _ _ rfl (by rw [Int.toNat_natCast]; exact fun _ _ h => h)), op_loadP (.tmp 6 rfl rfl) ty_Ratios ((fits_rats _)) (.here 7 rfl), op_len (.tmp 7 rfl rfl) (sl_Ratios).under (.here 8 rfl), op_move (.const _) (.here 9 rfl), trivial⟩
    refine wp_block ?_
    refine wp_loop_ix (fun (k2 : Nat) a w => (k2 ≤ (A.getD k []).length) ∧ Inv ⟨42, w0, M, fun _ => False⟩ [] [] [⟨none, none, 0, pRow 1 false A.length (fun i => pRats (A.getD i []))⟩, ⟨none, none, 7, pI (A.length : Int)⟩, ⟨none, none, 8, pI (k : Int)⟩, ⟨none, none, 3, pI (k : Int)⟩, ⟨none, none, 14, pRats (A.getD k [])⟩, ⟨none, none, 15, pI ((A.getD k []).length : Int)⟩, ⟨none, none, 16, pI (k2 : Int)⟩] none_ a w) (fun (k2 : Nat) => (A.getD k []).length - k2) (0) ⟨Nat.zero_le _, (hI.conv trivial ⟨⟨rfl, rfl, 0, _, rfl, fun _ _ h => h⟩, ⟨rfl, rfl, 1, _, rfl, fun _ _ h => h⟩, ⟨rfl, rfl, 2, _, rfl, fun _ _ h => h⟩, ⟨rfl, rfl, 3, _, rfl, fun _ _ h => h⟩, ⟨rfl, rfl, 4, _, rfl, fun _ _ h => h⟩, ⟨rfl, rfl, 5, _, rfl, fun _ _ h => h⟩, ⟨rfl, rfl, 6, _, rfl, (pI_eq (by omega))⟩, trivial⟩)⟩ ?_
    intro k2 a w hIk
    obtain ⟨hp2, hI⟩ := hIk
    refine seq_T hI [] [] [⟨some 0, none, 17, pB (decide ((k2 : Int) < ((A.getD k []).length : Int)))⟩] .z (.kkkk (.kkk .z)) rfl [0] (by kernel_rfl) ?_ .z (.k8 .z) fun a w hI => ?_
    · exact ⟨op_bin (v := .bool (decide ((k2 : Int) < ((A.getD k []).length : Int)))) (.tmp 6 rfl rfl) (.tmp 5 rfl rfl) (fun _ => rfl) (.here 7 rfl), trivial⟩
    refine wp_seq ?_
    refine cond_if hI 7 rfl (fun ht => ?_) (fun ht => ?_)
    · have t2 := of_decide_eq_true ht
      refine wp_skip ?_
      refine then_of ?_
      refine wp_seq ?_
      refine wp_block ?_
      refine seq_T hI [⟨5, 5, some 3, none, .ptr, 32, 3, true, pv (pRat 0), [(5, pv (pRat ((A.getD k []).getD k2 0)))]⟩] [] [⟨some 0, none, 18, pI (k2 : Int)⟩, ⟨some 1, none, 19, pPtr 3 true (pRat ((A.getD k []).getD k2 0))⟩, ⟨some 2, none, 20, pRat ((A.getD k []).getD k2 0)⟩, ⟨some 4, none, 4, pI (k2 : Int)⟩] .z (.k8 .z) rfl [0, 1, 3, 7, 15, 31] (by kernel_rfl) ?_ (.s .o .z) (.kkkk (.kkkd (.dddk .z))) fun a w hI => ?_
      · exact ⟨op_move (.tmp 6 rfl rfl) (.here 8 rfl), op_indexRow (.tmp 4 rfl rfl) (.tmp 6 rfl rfl) sl_Ratios (by omega) (by omega) (by kernel_rfl) (.at_ 9 _ _ rfl (by rw [Int.toNat_natCast]; exact fun _ _ h => h)), op_loadP (.tmp 9 rfl rfl) ty_Ratio (fits_rat _) (.here 10 rfl), op_alloc 0 rfl rfl (by kernel_rfl) (by kernel_rfl) rfl rfl rfl zv_Ratio rfl rfl (by simp [NoU]) rfl (fun w => isRat_zero w), op_assign (.tmp 8 rfl rfl) (.here 11 rfl), op_store 0 rfl rfl rfl rfl 0 rfl (by kernel_rfl) (by kernel_rfl) ty_Ratio (.tmp 10 rfl rfl) (fits_rat _), trivial⟩
      refine seq_D hI [] [] [⟨some 0, none, 21, pI (k : Int)⟩, ⟨some 1, none, 22, pI (k2 : Int)⟩, ⟨some 2, none, 23, pB ((k : Int) == (k2 : Int))⟩, ⟨some 3, none, 24, pB ((k : Int) == (k2 : Int))⟩, ⟨some 4, none, 25, pSel (((k : Int) == (k2 : Int)) = true) (pRat ((A.getD k []).getD k2 0))⟩, ⟨some 5, none, 26, pSel (((k : Int) == (k2 : Int)) = true) (pRat ((1 : Int) : Rat))⟩, ⟨some 6, none, 27, pSel (((k : Int) == (k2 : Int)) = true) (pB (decide ((A.getD k []).getD k2 0 = ((1 : Int) : Rat))))⟩, ⟨some 7, none, 28, pSel (((k : Int) == (k2 : Int)) = true) (pB (!(decide ((A.getD k []).getD k2 0 = ((1 : Int) : Rat)))))⟩, ⟨some 8, none, 29, pB (((k : Int) == (k2 : Int)) && (!(decide ((A.getD k []).getD k2 0 = ((1 : Int) : Rat)))))⟩, ⟨some 9, none, 30, pB (((k : Int) == (k2 : Int)) && (!(decide ((A.getD k []).getD k2 0 = ((1 : Int) : Rat)))))⟩, ⟨some 10, none, 31, pSel ((((k : Int) == (k2 : Int)) && (!(decide ((A.getD k []).getD k2 0 = ((1 : Int) : Rat))))) = false) (pI (k : Int))⟩, ⟨some 11, none, 32, pSel ((((k : Int) == (k2 : Int)) && (!(decide ((A.getD k []).getD k2 0 = ((1 : Int) : Rat))))) = false) (pI (k2 : Int))⟩, ⟨some 12, none, 33, pSel ((((k : Int) == (k2 : Int)) && (!(decide ((A.getD k []).getD k2 0 = ((1 : Int) : Rat))))) = false) (pB ((k : Int) != (k2 : Int)))⟩, ⟨some 13, none, 34, pSel ((((k : Int) == (k2 : Int)) && (!(decide ((A.getD k []).getD k2 0 = ((1 : Int) : Rat))))) = false) (pB ((k : Int) != (k2 : Int)))⟩, ⟨some 14, none, 35, pSel (((((k : Int) == (k2 : Int)) && (!(decide ((A.getD k []).getD k2 0 = ((1 : Int) : Rat))))) = false) ∧ ((k : Int) != (k2 : Int)) = true) (pRat ((A.getD k []).getD k2 0))⟩, ⟨some 15, none, 36, pSel (((((k : Int) == (k2 : Int)) && (!(decide ((A.getD k []).getD k2 0 = ((1 : Int) : Rat))))) = false) ∧ ((k : Int) != (k2 : Int)) = true) (pB (decide ((A.getD k []).getD k2 0 = 0)))⟩, ⟨some 16, none, 37, pSel (((((k : Int) == (k2 : Int)) && (!(decide ((A.getD k []).getD k2 0 = ((1 : Int) : Rat))))) = false) ∧ ((k : Int) != (k2 : Int)) = true) (pB (!(decide ((A.getD k []).getD k2 0 = 0))))⟩, ⟨some 17, none, 38, pSel ((((k : Int) == (k2 : Int)) && (!(decide ((A.getD k []).getD k2 0 = ((1 : Int) : Rat))))) = false) (pB (((k : Int) != (k2 : Int)) && (!(decide ((A.getD k []).getD k2 0 = 0)))))⟩, ⟨some 18, none, 39, pB false⟩] (.k .z) (.k8 .z) rfl [0, 0, 3, 7, 15, 15, 63, 127, 255, 511, 1023, 1023, 4095, 8191, 16383, 32767, 65535, 131071, 262143] (by kernel_rfl) ?_ (.k .z) (.kkkk (.kkkd (.dddd (.kkkk (.ddkk (.kkkk (.kkk .z))))))) fun a w hI => ?_
      · exact ⟨op_move (.tmp 3 rfl rfl) (.here 8 rfl), op_move (.tmp 7 rfl rfl) (.here 9 rfl), op_bin (v := .bool (((k : Int) == (k2 : Int)))) (.tmp 8 rfl rfl) (.tmp 9 rfl rfl) (fun _ => rfl) (.here 10 rfl), op_move (.tmp 10 rfl rfl) (.here 11 rfl), op_if 11 rfl rfl (fun hc => op_load 0 rfl rfl rfl rfl (by kernel_rfl) ty_Ratio rfl (.sel hc 12 rfl)) (by kernel_rfl) (fun _ => .none (by kernel_rfl)) (fun hc => .sel_no hc 12 rfl), op_if 11 rfl rfl (fun hc => op_call1 (fun _ _ => by kernel_rfl) (numlike_rat _) (.const _) (.sel hc 13 rfl) (c_int 1 (by omega) (by omega))) (by kernel_rfl) (fun _ => .none (by kernel_rfl)) (fun hc => .sel_no hc 13 rfl), op_if 11 rfl rfl (fun hc => op_call2 (fun _ _ => by kernel_rfl) (numlike_eq _) (.sel (.tmp 12 rfl rfl) hc) (.sel (.tmp 13 rfl rfl) hc) (.sel hc 14 rfl) (c_same ((A.getD k []).getD k2 0) ((1 : Int) : Rat))) (by kernel_rfl) (fun _ => .none (by kernel_rfl)) (fun hc => .sel_no hc 14 rfl), op_if 11 rfl rfl (fun hc => op_not (.sel (.tmp 14 rfl rfl) hc) (.sel hc 15 rfl)) (by kernel_rfl) (fun _ => .none (by kernel_rfl)) (fun hc => .sel_no hc 15 rfl), op_pick (.tmp 11 rfl rfl) (fun h => .imp (.sel (.tmp 15 rfl rfl) (h)) fun _ _ e => by rw [h]; exact e) (fun h => .imp (.const _) fun _ _ e => by rw [h]; exact e) (.here 16 rfl), op_move (.tmp 16 rfl rfl) (.here 17 rfl), op_if 17 rfl rfl (fun hc => op_move (.tmp 3 rfl rfl) (.sel hc 18 rfl)) (by kernel_rfl) (fun _ => .none (by kernel_rfl)) (fun hc => .sel_no hc 18 rfl), op_if 17 rfl rfl (fun hc => op_move (.tmp 7 rfl rfl) (.sel hc 19 rfl)) (by kernel_rfl) (fun _ => .none (by kernel_rfl)) (fun hc => .sel_no hc 19 rfl), op_if 17 rfl rfl (fun hc => op_bin (v := .bool (((k : Int) != (k2 : Int)))) (.sel (.tmp 18 rfl rfl) hc) (.sel (.tmp 19 rfl rfl) hc) (fun _ => rfl) (.sel hc 20 rfl)) (by kernel_rfl) (fun _ => .none (by kernel_rfl)) (fun hc => .sel_no hc 20 rfl), op_if 17 rfl rfl (fun hc => op_move (.sel (.tmp 20 rfl rfl) hc) (.sel hc 21 rfl)) (by kernel_rfl) (fun _ => .none (by kernel_rfl)) (fun hc => .sel_no hc 21 rfl), op_if2 21 rfl rfl (fun hc => op_load 0 rfl rfl rfl rfl (by kernel_rfl) ty_Ratio rfl (.sel hc 22 rfl)) (by kernel_rfl) (fun _ => .none (by kernel_rfl)) (fun hc => .sel_no hc 22 rfl), op_if2 21 rfl rfl (fun hc => op_call1 (fun _ _ => by kernel_rfl) (numlike_eq _) (.sel (.tmp 22 rfl rfl) hc) (.sel hc 23 rfl) (c_zero ((A.getD k []).getD k2 0))) (by kernel_rfl) (fun _ => .none (by kernel_rfl)) (fun hc => .sel_no hc 23 rfl), op_if2 21 rfl rfl (fun hc => op_not (.sel (.tmp 23 rfl rfl) hc) (.sel hc 24 rfl)) (by kernel_rfl) (fun _ => .none (by kernel_rfl)) (fun hc => .sel_no hc 24 rfl), op_if 17 rfl rfl (fun hc => op_pick (.sel (.tmp 21 rfl rfl) hc) (fun h => .imp (.sel (.tmp 24 rfl rfl) (⟨hc, h⟩)) fun _ _ e => by rw [h]; exact e) (fun h => .imp (.const _) fun _ _ e => by rw [h]; exact e) (.sel hc 25 rfl)) (by kernel_rfl) (fun _ => .none (by kernel_rfl)) (fun hc => .sel_no hc 25 rfl), op_pick (.tmp 17 rfl rfl) (fun h => .imp (.const _) fun _ _ e => by rw [h]; exact e) (fun h => .imp (.sel (.tmp 25 rfl rfl) (h)) fun _ _ e => by rw [h]; exact e) (.at_ 26 _ _ rfl (pB_eq ((idn_test (hId k (by omega) k2 (by omega)))))), trivial⟩
      refine cond_no hI 19 rfl ?_
      refine wp_skip ?_
      refine block_of ?_
      refine then_of ?_
      have hk0 := hr k (by omega)
      refine sem_T hI [] [] [⟨some 0, none, 40, pI ((k2 : Int) + (1 : Int))⟩, ⟨some 1, none, 16, pI ((k2 : Int) + (1 : Int))⟩] (.k .z) (.kkkk (.kk (.t 1 (.k8 (.kkkk (.k .z)))))) rfl [0, 1] (by kernel_rfl) ?_ (.k .z) (.kkkk (.kkdk (.k8 (.kkkd (.dk .z))))) fun a w hI => ?_
      · exact ⟨op_bin (v := .int .i64 (IntKind.i64.wrap ((k2 : Int) + (1 : Int)))) (.tmp 6 rfl rfl) (.const _) (fun _ => rfl) (.at_ 20 _ _ rfl (pI_wrap (by omega))), op_move (.tmp 20 rfl rfl) (.here 21 rfl), trivial⟩
      refine then_of ?_
      exact ⟨k2 + 1, ⟨(show k2 + 1 ≤ (A.getD k []).length by omega), (hI.conv trivial ⟨⟨rfl, rfl, 0, _, rfl, fun _ _ h => h⟩, ⟨rfl, rfl, 1, _, rfl, fun _ _ h => h⟩, ⟨rfl, rfl, 2, _, rfl, fun _ _ h => h⟩, ⟨rfl, rfl, 3, _, rfl, fun _ _ h => h⟩, ⟨rfl, rfl, 4, _, rfl, fun _ _ h => h⟩, ⟨rfl, rfl, 5, _, rfl, fun _ _ h => h⟩, ⟨rfl, rfl, 18, _, rfl, (pI_eq (by omega))⟩, trivial⟩)⟩, (show (A.getD k []).length - (k2 + 1) < (A.getD k []).length - k2 by omega)⟩
    · have t3 := of_decide_eq_false ht
      refine wp_exit ?_
      refine then_exit ?_
      refine then_exit ?_
      refine block_exit ?_
      refine block_of ?_
      refine then_of ?_
      refine sem_T hI [] [] [⟨some 0, none, 41, pI ((k : Int) + (1 : Int))⟩, ⟨some 1, none, 8, pI ((k : Int) + (1 : Int))⟩] .z (.kk (.t 1 (.kkkk (.k .z)))) rfl [0, 1] (by kernel_rfl) ?_ .z (.kkdd (.dddd (.dk .z))) fun a w hI => ?_
      · exact ⟨op_bin (v := .int .i64 (IntKind.i64.wrap ((k : Int) + (1 : Int)))) (.tmp 2 rfl rfl) (.const _) (fun _ => rfl) (.at_ 8 _ _ rfl (pI_wrap (by omega))), op_move (.tmp 8 rfl rfl) (.here 9 rfl), trivial⟩
      refine then_of ?_
      exact ⟨k + 1, ⟨(show k + 1 ≤ A.length by omega), (hI.conv trivial ⟨⟨rfl, rfl, 0, _, rfl, fun _ _ h => h⟩, ⟨rfl, rfl, 1, _, rfl, fun _ _ h => h⟩, ⟨rfl, rfl, 2, _, rfl, (pI_eq (by omega))⟩, trivial⟩)⟩, (show A.length - (k + 1) < A.length - k by omega)⟩
  · have t4 := of_decide_eq_false ht
    refine wp_exit ?_
    refine then_exit ?_
    refine then_exit ?_
    refine block_exit ?_
    refine then_of ?_
    refine seq_T hI [] [] [⟨some 0, none, 2, pB true⟩] .z (.kkkk .z) rfl [0] (by kernel_rfl) ?_ .z (.dddd (.k .z)) fun a w hI => ?_
    · exact ⟨op_assign (.const _) (.here 4 rfl), trivial⟩
    refine wp_ret ?_
    exact fin1 hI rfl (.tmp 0 rfl)
end Wx
