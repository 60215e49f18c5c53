import Derived.Handy
import Derived.KernelRfl
import Derived.Test.YtpiniclogfefjaaProg
import Derived.Test.YtpiniclogfefjaaJResidual0
import Derived.Test.YtpiniclogfefjaaCResidualMem
import Derived.Test.YtpiniclogfefjaaJResidual6
import Derived.Test.YtpiniclogfefjaaCResidualRat1
import Derived.Test.YtpiniclogfefjaaJResidual14
import Derived.Test.YtpiniclogfefjaaJResidual16
import Derived.Test.YtpiniclogfefjaaJResidual19
import Derived.Test.YtpiniclogfefjaaCResidualInv
import Derived.Test.YtpiniclogfefjaaCResidualSem
import Derived.Test.YtpiniclogfefjaaCResidualSemOps
import Derived.Test.YtpiniclogfefjaaCResidualSemMem
import Derived.Test.YtpiniclogfefjaaJResidual24
import Derived.Test.YtpiniclogfefjaaCResidualSemTab
import Derived.Test.YtpiniclogfefjaaJResidual30
import Derived.Test.YtpiniclogfefjaaCResidualSemRow
import Derived.Test.YtpiniclogfefjaaJResidual26
import Derived.Test.YtpiniclogfefjaaCResidualSemAppend
import Derived.Test.YtpiniclogfefjaaCResidualSemObj
import Derived.Test.YtpiniclogfefjaaJResidual29
import Derived.Test.YtpiniclogfefjaaCResidualSemCopy
import Derived.Test.YtpiniclogfefjaaCResidualSemApp
import Derived.Test.YtpiniclogfefjaaJResidual34
import Derived.Test.YtpiniclogfefjaaJResidual35
import Derived.Test.YtpiniclogfefjaaCResidualMatrix
namespace Wx
set_option maxRecDepth 100000
open Go Go.RowKit Go.Proofs
set_option linter.unusedVariables false

structure BI where
  k : Nat
  R : List RowL
  H : List Bk
theorem c_turned {A : List (List Rat)} {j : Nat} (h0 : 0 < A.length) (hA : A.length ≤ 1000000) (hn : (A.getD 0 []).length ≤ 1000000) (hr : ∀ i, i < A.length → (A.getD i []).length = (A.getD 0 []).length) (hb : ∀ i k, BdR j ((A.getD i []).getD k 0)) : ∀ (M : Nat → Nat → Prop) (w : World) (v0 : Value), Mid M w → Box M (fun w => (pRow 1 false A.length (fun i => pRats (A.getD i []))) w v0) w → Calls Try.prog 33 #[v0] w (RetB M (pRow 1 false (A.getD 0 []).length (fun i => pRats ((turnM A).getD i []))) w) := by
  intro M w0 v0 hM hv0
  refine calls_startR (N := 39) Try.func33 rfl rfl rfl hM (show EntsA M w0 [v0] [⟨none, none, 0, pRow 1 false A.length (fun i => pRats (A.getD i []))⟩] from ⟨⟨rfl, _, rfl, hv0⟩, trivial⟩) fun a hI => ?_
  refine seq_T hI [] [] [⟨some 0, none, 2, pEq ((Value.slice none 0 0))⟩] .z (.k .z) rfl [0] (by kernel_rfl) ?_ .z (.kk .z) fun a w hI => ?_
  · exact ⟨op_assign (.const _) (.here 1 rfl), trivial⟩
  refine seq_ST hI [⟨11, 11, some 4, none, .obj, 0, 0, false, pMade 1 false (A.getD 0 []).length (itV (.slice none 0 0)), []⟩] [] [⟨some 0, none, 7, pRow 1 false A.length (fun i => pRats (A.getD i []))⟩, ⟨some 1, none, 8, pPtr 1 false (pRats (A.getD 0 []))⟩, ⟨some 2, none, 9, pRats (A.getD 0 [])⟩, ⟨some 3, none, 10, pI ((A.getD 0 []).length : Int)⟩] .z (.kk .z) rfl [0, 1, 3, 7, 15, 31] 5 (by kernel_rfl) ?_ (.k .z) (.kkdd (.dd .z)) (fun a w hI => hI.openMade 0 rfl (by kernel_rfl)) (⟨_, exL fun l hC a w hI => sing hI [] [⟨some 0, none, 3, pEq (.slice (some ⟨l, 0, none⟩) ((A.getD 0 []).length) ((A.getD 0 []).length))⟩] (.k .z) (.kkk .z) (by kernel_rfl) (op_assign (.tmp 0 rfl rfl) (.here 3 rfl)) (.k .z) (.dkkk .z),
      rfl⟩) ?_
  · exact ⟨op_move (.tmp 0 rfl rfl) (.here 2 rfl), op_indexRow (.tmp 2 rfl rfl) (.const _) sl_Rows (by omega) (by omega) (by kernel_rfl) (.here 3 rfl), op_loadP (.tmp 3 rfl rfl) ty_Ratios ((fits_rats _)) (.here 4 rfl), op_len (.tmp 4 rfl rfl) (sl_Ratios).under (.here 5 rfl), op_makeSliceO (zv := .slice none 0 0) (z := [.slice none 0 0]) 0 rfl rfl rfl rfl rfl (by kernel_rfl) (.tmp 5 rfl rfl) (.tmp 5 rfl rfl) (sl_Rows).under (by kernel_rfl) rfl rfl (by omega) (fun u hu => by rw [List.mem_singleton.1 hu]; exact noU_slice _ _ _) (fun _ => rfl) (by omega) (.none (by kernel_rfl)), trivial⟩
  · rintro a w ⟨g, hC, hI⟩
    have hC : True := hC
    refine wp_seq ?_
    refine seq_T hI [] [] [⟨some 0, none, 12, pEq (.slice (some ⟨g, 0, none⟩) ((A.getD 0 []).length) ((A.getD 0 []).length))⟩, ⟨some 1, none, 13, pI ((A.getD 0 []).length : Int)⟩, ⟨some 2, none, 14, pI 0⟩] (.k .z) (.kkk .z) rfl [0, 1, 3] (by kernel_rfl) ?_ (.k .z) (.kkkd (.kk .z)) fun a w hI => ?_
    · exact ⟨op_move (.tmp 2 rfl rfl) (.here 3 rfl), op_lenEq (.tmp 3 rfl rfl) (sl_Rows).under (.here 4 rfl), op_move (.const _) (.here 5 rfl), trivial⟩
    refine wp_block ?_
    refine wp_loop_ix (fun (q : BI) a w => (q.k ≤ (A.getD 0 []).length ∧ BldOk g (A.getD 0 []).length q.R (bldX A (A.getD 0 []).length q.k 0) q.H) ∧ Inv ⟨39, w0, M, fun _ => False⟩ [⟨11, 11, none, none, .obj, 0, 0, false, pHp q.H, []⟩] [] [⟨none, none, 0, pRow 1 false A.length (fun i => pRats (A.getD i []))⟩, ⟨none, none, 2, pEq ((Value.slice none 0 0))⟩, ⟨none, none, 3, pEq (.slice (some ⟨g, 0, none⟩) ((A.getD 0 []).length) ((A.getD 0 []).length))⟩, ⟨none, none, 13, pI ((A.getD 0 []).length : Int)⟩, ⟨none, none, 14, pI (q.k : Int)⟩] none_ a w) (fun (q : BI) => (A.getD 0 []).length - q.k) (⟨0, List.replicate (A.getD 0 []).length ⟨0, 0, 0⟩, [⟨g, 1, false, List.replicate (A.getD 0 []).length (itV (.slice none 0 0))⟩]⟩) ⟨⟨Nat.zero_le _, by have h := bld_nil g (A.getD 0 []).length; rw [← bldX_zero (A := A)] at h; exact h⟩, (hI.conv ⟨⟨0, _, _, rfl, ⟨rfl, rfl, rfl⟩, rfl, fun _ => (fun _ _ h => h)⟩, trivial⟩ ⟨⟨rfl, rfl, 0, _, rfl, fun _ _ h => h⟩, ⟨rfl, rfl, 1, _, rfl, fun _ _ h => h⟩, ⟨rfl, rfl, 2, _, rfl, fun _ _ h => h⟩, ⟨rfl, rfl, 3, _, rfl, fun _ _ h => h⟩, ⟨rfl, rfl, 4, _, rfl, (pI_eq rfl)⟩, trivial⟩)⟩ ?_
    intro q a w hIk
    obtain ⟨⟨hk, hB⟩, hI⟩ := hIk
    refine seq_T hI [] [] [⟨some 0, none, 15, pB (decide ((q.k : Int) < ((A.getD 0 []).length : Int)))⟩] (.k .z) (.kkkk (.k .z)) rfl [0] (by kernel_rfl) ?_ (.k .z) (.kkkk (.kk .z)) fun a w hI => ?_
    · exact ⟨op_bin (v := .bool (decide ((q.k : Int) < ((A.getD 0 []).length : Int)))) (.tmp 4 rfl rfl) (.tmp 3 rfl rfl) (fun _ => rfl) (.here 5 rfl), trivial⟩
    refine wp_seq ?_
    refine cond_if hI 5 rfl (fun ht => ?_) (fun ht => ?_)
    · have t1 := of_decide_eq_true ht
      refine wp_skip ?_
      refine then_of ?_
      refine wp_seq ?_
      refine wp_block ?_
      refine seq_T hI [] [] [⟨some 0, none, 16, pI (q.k : Int)⟩, ⟨some 1, none, 4, pI (q.k : Int)⟩] (.k .z) (.kkkk (.kk .z)) rfl [0, 1] (by kernel_rfl) ?_ (.k .z) (.kkkk (.kddk .z)) fun a w hI => ?_
      · exact ⟨op_move (.tmp 4 rfl rfl) (.here 6 rfl), op_assign (.tmp 6 rfl rfl) (.here 7 rfl), trivial⟩
      refine seq_T hI [] [] [⟨some 0, none, 17, pRow 1 false A.length (fun i => pRats (A.getD i []))⟩, ⟨some 1, none, 18, pI (A.length : Int)⟩, ⟨some 2, none, 19, pI 0⟩] (.k .z) (.kkkk (.kk .z)) rfl [0, 1, 3] (by kernel_rfl) ?_ (.k .z) (.k8 (.k .z)) fun a w hI => ?_
      · exact ⟨op_move (.tmp 0 rfl rfl) (.here 6 rfl), op_len (.tmp 6 rfl rfl) (sl_Rows).under (.here 7 rfl), op_move (.const _) (.here 8 rfl), trivial⟩
      refine wp_block ?_
      refine wp_loop_ix (fun (q2 : BI) a w => (q2.k ≤ A.length ∧ BldOk g (A.getD 0 []).length q2.R (bldX A (A.getD 0 []).length q.k q2.k) q2.H) ∧ Inv ⟨39, w0, M, fun _ => False⟩ [⟨11, 11, none, none, .obj, 0, 0, false, pHp q2.H, []⟩] [] [⟨none, none, 0, pRow 1 false A.length (fun i => pRats (A.getD i []))⟩, ⟨none, none, 2, pEq ((Value.slice none 0 0))⟩, ⟨none, none, 3, pEq (.slice (some ⟨g, 0, none⟩) ((A.getD 0 []).length) ((A.getD 0 []).length))⟩, ⟨none, none, 13, pI ((A.getD 0 []).length : Int)⟩, ⟨none, none, 14, pI (q.k : Int)⟩, ⟨none, none, 4, pI (q.k : Int)⟩, ⟨none, none, 17, pRow 1 false A.length (fun i => pRats (A.getD i []))⟩, ⟨none, none, 18, pI (A.length : Int)⟩, ⟨none, none, 19, pI (q2.k : Int)⟩] none_ a w) (fun (q2 : BI) => A.length - q2.k) (⟨0, q.R, q.H⟩) ⟨⟨Nat.zero_le _, hB⟩, (hI.conv ⟨⟨0, _, _, rfl, ⟨rfl, rfl, rfl⟩, rfl, fun _ => (fun _ _ h => h)⟩, trivial⟩ ⟨⟨rfl, rfl, 0, _, rfl, fun _ _ h => h⟩, ⟨rfl, rfl, 1, _, rfl, fun _ _ h => h⟩, ⟨rfl, rfl, 2, _, rfl, fun _ _ h => h⟩, ⟨rfl, rfl, 3, _, rfl, fun _ _ h => h⟩, ⟨rfl, rfl, 4, _, rfl, fun _ _ h => h⟩, ⟨rfl, rfl, 5, _, rfl, fun _ _ h => h⟩, ⟨rfl, rfl, 6, _, rfl, fun _ _ h => h⟩, ⟨rfl, rfl, 7, _, rfl, fun _ _ h => h⟩, ⟨rfl, rfl, 8, _, rfl, (pI_eq rfl)⟩, trivial⟩)⟩ ?_
      intro q2 a w hIk
      obtain ⟨⟨hk2, hB2⟩, hI⟩ := hIk
      refine seq_T hI [] [] [⟨some 0, none, 20, pB (decide ((q2.k : Int) < (A.length : Int)))⟩] (.k .z) (.k8 (.k .z)) rfl [0] (by kernel_rfl) ?_ (.k .z) (.k8 (.kk .z)) fun a w hI => ?_
      · exact ⟨op_bin (v := .bool (decide ((q2.k : Int) < (A.length : Int)))) (.tmp 8 rfl rfl) (.tmp 7 rfl rfl) (fun _ => rfl) (.here 9 rfl), trivial⟩
      refine wp_seq ?_
      refine cond_if hI 9 rfl (fun ht => ?_) (fun ht => ?_)
      · have t2 := of_decide_eq_true ht
        refine wp_skip ?_
        refine then_of ?_
        refine wp_seq ?_
        refine wp_block ?_
        refine seq_T hI [] [] [⟨some 0, none, 21, pPtr 1 false (pRats (A.getD q2.k []))⟩, ⟨some 1, none, 22, pRats (A.getD q2.k [])⟩, ⟨some 2, none, 6, pRats (A.getD q2.k [])⟩] (.k .z) (.k8 (.kk .z)) rfl [0, 1, 3] (by kernel_rfl) ?_ (.k .z) (.k8 (.kddd (.k .z))) fun a w hI => ?_
        · exact ⟨op_indexRow (.tmp 6 rfl rfl) (.tmp 8 rfl rfl) sl_Rows (by omega) (by omega) (by kernel_rfl) (.at_ 10 _ _ rfl (by rw [Int.toNat_natCast]; exact fun _ _ h => h)), op_loadP (.tmp 10 rfl rfl) ty_Ratios ((fits_rats _)) (.here 11 rfl), op_assign (.tmp 11 rfl rfl) (.here 12 rfl), trivial⟩
        have hl := hr q2.k (by omega)
        refine sem_SD hI [⟨34, 34, some 11, none, .obj, 0, 0, false, pApp q2.H (hdr0 (rowAt q2.R q.k)) ((bldX A (A.getD 0 []).length q.k q2.k).getD q.k []) [(A.getD q2.k []).getD q.k 0], []⟩] [] [⟨some 0, none, 23, pEq (.slice (some ⟨g, 0, none⟩) ((A.getD 0 []).length) ((A.getD 0 []).length))⟩, ⟨some 1, none, 24, pI (q.k : Int)⟩, ⟨some 2, none, 25, pEq (.slice (some ⟨g, 0, none⟩) ((A.getD 0 []).length) ((A.getD 0 []).length))⟩, ⟨some 3, none, 26, pI (q.k : Int)⟩, ⟨some 4, none, 27, pEq (.pointer (some ⟨g, 0 + ((q.k : Int)).toNat * 1, none⟩))⟩, ⟨some 5, none, 28, pEq (hdr0 (rowAt q2.R q.k))⟩, ⟨some 6, none, 29, pRats (A.getD q2.k [])⟩, ⟨some 7, none, 30, pI (q.k : Int)⟩, ⟨some 8, none, 31, pPtr 3 true (pRat ((A.getD q2.k []).getD q.k 0))⟩, ⟨some 9, none, 32, pRat ((A.getD q2.k []).getD q.k 0)⟩, ⟨some 10, none, 33, pRats ([(A.getD q2.k []).getD q.k 0])⟩] (.u (some 11) [] .z) (.k8 (.kk .z)) rfl [0, 0, 0, 0, 12, 28, 0, 0, 192, 448, 960, 2044, 4095, 8191] 12 (by kernel_rfl) ?_ (.d (.k .z)) (.k8 (.kdkk (.d8 (.d .z)))) (fun a w hI => hI.openApp 0 rfl (by kernel_rfl)) (⟨_, exL fun l hC a w hI => sing hI [] [⟨some 0, none, 35, pEq (.pointer (some ⟨g, 0 + ((q.k : Int)).toNat * 1, none⟩))⟩] (.k .z) (.k8 (.kkkk .z)) (by kernel_rfl) (op_indexEq (.tmp 10 rfl rfl) (.tmp 11 rfl rfl) sl_Rows (by omega) (by omega) (by kernel_rfl) (.here 12 rfl)) (.k .z) (.k8 (.kkdd (.k .z))),
            _, exL fun l hC a w hI => sing hI [] [] (.u none [(0, pHp (hset (appH q2.H l.b (rowIt ((bldX A (A.getD 0 []).length q.k q2.k).getD q.k [] ++ [(A.getD q2.k []).getD q.k 0]) l.cap)) g q.k (itV l.hdr)))] .z) (.k8 (.kkk .z)) (by kernel_rfl) (op_storeH (e := ⟨g, 1, false, tops0 q2.R⟩) (idx := q.k) (it := itV l.hdr) 0 rfl rfl rfl (by kernel_rfl) 0 rfl (by kernel_rfl) (by kernel_rfl) rfl (.tmp 10 rfl rfl) (appH_other hB2.top (hB2.off (by omega) hC.2.2.2)) rfl (by rw [tops0_len]; have := hB2.len.1; omega) (show 0 + ((q.k : Int)).toNat * 1 = q.k * 1 by omega) ty_Ratios (.tmp 0 rfl rfl) (fits_slice _ _ _)) (.s .o .z) (.dkkk (.kkkk (.kkd .z))),
            rfl⟩) ?_
        · exact ⟨op_move (.tmp 2 rfl rfl) (.here 10 rfl), op_move (.tmp 5 rfl rfl) (.here 11 rfl), op_move (.tmp 2 rfl rfl) (.here 12 rfl), op_move (.tmp 5 rfl rfl) (.here 13 rfl), op_indexEq (.tmp 12 rfl rfl) (.tmp 13 rfl rfl) sl_Rows (by omega) (by omega) (by kernel_rfl) (.here 14 rfl), op_loadH (e := ⟨g, 1, false, tops0 q2.R⟩) (idx := q.k) 0 rfl rfl rfl (by kernel_rfl) rfl (.tmp 14 rfl rfl) hB2.top rfl (tops0_get (by have := hB2.len.1; omega)) (show 0 + ((q.k : Int)).toNat * 1 = q.k * 1 by omega) ty_Ratios (.here 15 rfl), op_move (.tmp 9 rfl rfl) (.here 16 rfl), op_move (.tmp 5 rfl rfl) (.here 17 rfl), op_indexRow (.tmp 16 rfl rfl) (.tmp 17 rfl rfl) sl_Ratios (by omega) (by omega) (by kernel_rfl) (.at_ 18 _ _ rfl (by rw [Int.toNat_natCast]; exact fun _ _ h => h)), op_loadP (.tmp 18 rfl rfl) ty_Ratio (fits_rat _) (.here 19 rfl), op_buildSlice (fs := List.replicate 1 ⟨true, 3, pRat 0⟩) (ps := [(0, pRat ((A.getD q2.k []).getD q.k 0))]) (gs := [(A.getD q2.k []).getD q.k 0].map fun q => ⟨true, 3, pRat q⟩) sl_Ratios zv_Ratio rfl rfl rfl (fun w => isRat_zero w) rfl (show HasParts _ _ _ _ _ _ from ⟨⟨rfl, (.tmp 19 rfl rfl), _, rfl, fits_rat _⟩, trivial⟩) rfl (fun i => pRat ([(A.getD q2.k []).getD q.k 0].getD i 0)) (rats_fd _) (.here 20 rfl), op_appendH 0 rfl rfl rfl rfl (by kernel_rfl) rfl 1 rfl rfl rfl rfl rfl (by kernel_rfl) (.tmp 15 rfl rfl) (.tmp 20 rfl rfl) (hB2.case (by omega)) app_Ratios Nat.one_pos (by rw [bldX_get (by omega), if_neg (Nat.lt_irrefl _), if_pos rfl, List.length_take]; show _ + 1 ≤ _; omega) (.none (by kernel_rfl)), trivial⟩
        · rintro a w ⟨l, hC, hI⟩
          have hC : AppOk q2.H (hdr0 (rowAt q2.R q.k)) ((bldX A (A.getD 0 []).length q.k q2.k).getD q.k []) [(A.getD q2.k []).getD q.k 0] l := hC
          refine block_of ?_
          refine then_of ?_
          refine sem_T hI [] [] [⟨some 0, none, 36, pI ((q2.k : Int) + (1 : Int))⟩, ⟨some 1, none, 19, pI ((q2.k : Int) + (1 : Int))⟩] (.k .z) (.k8 (.t 1 .z)) rfl [0, 1] (by kernel_rfl) ?_ (.k .z) (.k8 (.ddk .z)) fun a w hI => ?_
          · exact ⟨op_bin (v := .int .i64 (IntKind.i64.wrap ((q2.k : Int) + (1 : Int)))) (.tmp 8 rfl rfl) (.const _) (fun _ => rfl) (.at_ 9 _ _ rfl (pI_wrap (by omega))), op_move (.tmp 9 rfl rfl) (.here 10 rfl), trivial⟩
          refine then_of ?_
          replace hI := hI.reobj 11 11 (n0 := 0) rfl (by kernel_rfl) (by kernel_rfl)
          exact ⟨⟨q2.k + 1, q2.R.set q.k l, hset (appH q2.H l.b (rowIt ((bldX A (A.getD 0 []).length q.k q2.k).getD q.k [] ++ [(A.getD q2.k []).getD q.k 0]) l.cap)) g q.k (itV l.hdr)⟩, ⟨⟨by show q2.k + 1 ≤ A.length; omega, by have h := hB2.append (l' := [(A.getD q2.k []).getD q.k 0]) (by omega) Nat.one_pos hC; rw [bldX_step (by omega) (by omega)] at h; exact h⟩, (hI.conv ⟨⟨0, _, _, rfl, ⟨rfl, rfl, rfl⟩, rfl, fun _ => fun _ _ h => h⟩, trivial⟩ ⟨⟨rfl, rfl, 0, _, rfl, fun _ _ h => h⟩, ⟨rfl, rfl, 1, _, rfl, fun _ _ h => h⟩, ⟨rfl, rfl, 2, _, rfl, fun _ _ h => h⟩, ⟨rfl, rfl, 3, _, rfl, fun _ _ h => h⟩, ⟨rfl, rfl, 4, _, rfl, fun _ _ h => h⟩, ⟨rfl, rfl, 5, _, rfl, fun _ _ h => h⟩, ⟨rfl, rfl, 6, _, rfl, fun _ _ h => h⟩, ⟨rfl, rfl, 7, _, rfl, fun _ _ h => h⟩, ⟨rfl, rfl, 8, _, rfl, (pI_eq (by show ((q2.k : Int) + 1) = ((q2.k + 1 : Nat) : Int); omega))⟩, trivial⟩)⟩, (show A.length - (q2.k + 1) < A.length - q2.k by omega)⟩
      · have t3 := of_decide_eq_false ht
        refine wp_exit ?_
        refine then_exit ?_
        refine then_exit ?_
        refine block_exit ?_
        refine block_of ?_
        refine then_of ?_
        refine sem_T hI [] [] [⟨some 0, none, 37, pI ((q.k : Int) + (1 : Int))⟩, ⟨some 1, none, 14, pI ((q.k : Int) + (1 : Int))⟩] (.k .z) (.kkkk (.t 1 (.kkkk (.k .z)))) rfl [0, 1] (by kernel_rfl) ?_ (.k .z) (.kkkk (.dddd (.dddk .z))) fun a w hI => ?_
        · exact ⟨op_bin (v := .int .i64 (IntKind.i64.wrap ((q.k : Int) + (1 : Int)))) (.tmp 4 rfl rfl) (.const _) (fun _ => rfl) (.at_ 10 _ _ rfl (pI_wrap (by omega))), op_move (.tmp 10 rfl rfl) (.here 11 rfl), trivial⟩
        refine then_of ?_
        exact ⟨⟨q.k + 1, q2.R, q2.H⟩, ⟨⟨by show q.k + 1 ≤ (A.getD 0 []).length; omega, by have h := hB2; rw [show q2.k = A.length by omega, bldX_next] at h; exact h⟩, (hI.conv ⟨⟨0, _, _, rfl, ⟨rfl, rfl, rfl⟩, rfl, fun _ => fun _ _ h => h⟩, trivial⟩ ⟨⟨rfl, rfl, 0, _, rfl, fun _ _ h => h⟩, ⟨rfl, rfl, 1, _, rfl, fun _ _ h => h⟩, ⟨rfl, rfl, 2, _, rfl, fun _ _ h => h⟩, ⟨rfl, rfl, 3, _, rfl, fun _ _ h => h⟩, ⟨rfl, rfl, 4, _, rfl, (pI_eq (by show ((q.k : Int) + 1) = ((q.k + 1 : Nat) : Int); omega))⟩, trivial⟩)⟩, (show (A.getD 0 []).length - (q.k + 1) < (A.getD 0 []).length - q.k by omega)⟩
    · have t4 := of_decide_eq_false ht
      refine wp_exit ?_
      refine then_exit ?_
      refine then_exit ?_
      refine block_exit ?_
      refine then_of ?_
      refine seq_T hI [] [] [⟨some 0, none, 38, pEq (.slice (some ⟨g, 0, none⟩) ((A.getD 0 []).length) ((A.getD 0 []).length))⟩, ⟨some 1, none, 2, pEq (.slice (some ⟨g, 0, none⟩) ((A.getD 0 []).length) ((A.getD 0 []).length))⟩] (.k .z) (.k (.t 1 (.kkkk .z))) rfl [0, 1] (by kernel_rfl) ?_ (.k .z) (.dddd (.dddk .z)) fun a w hI => ?_
      · exact ⟨op_move (.tmp 2 rfl rfl) (.here 6 rfl), op_assign (.tmp 6 rfl rfl) (.here 7 rfl), trivial⟩
      refine wp_ret ?_
      exact finObj1 hI rfl (n0 := 0) rfl (.tmp 0 rfl) (fun B w hH => by have h := hB.read (cap := (A.getD 0 []).length) (Nat.le_refl _) (by unfold maxLen; omega) (fun i hi => by rw [bldX_get hi, if_pos (by omega), colAt_len]; omega) B w hH; rw [show q.k = (A.getD 0 []).length by omega, bldX_end] at h; exact h)
end Wx
