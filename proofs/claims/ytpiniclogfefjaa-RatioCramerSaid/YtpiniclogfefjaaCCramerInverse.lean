import Derived.Handy
import Derived.KernelRfl
import Derived.Test.YtpiniclogfefjaaProg
import Derived.Test.YtpiniclogfefjaaJCramer0
import Derived.Test.YtpiniclogfefjaaCCramerMem
import Derived.Test.YtpiniclogfefjaaJCramer6
import Derived.Test.YtpiniclogfefjaaCCramerRat1
import Derived.Test.YtpiniclogfefjaaJCramer14
import Derived.Test.YtpiniclogfefjaaJCramer16
import Derived.Test.YtpiniclogfefjaaJCramer18
import Derived.Test.YtpiniclogfefjaaCCramerInv
import Derived.Test.YtpiniclogfefjaaCCramerSem
import Derived.Test.YtpiniclogfefjaaCCramerSemOps
import Derived.Test.YtpiniclogfefjaaCCramerSemMem
import Derived.Test.YtpiniclogfefjaaJCramer23
import Derived.Test.YtpiniclogfefjaaCCramerSemTab
import Derived.Test.YtpiniclogfefjaaJCramer29
import Derived.Test.YtpiniclogfefjaaCCramerSemRow
import Derived.Test.YtpiniclogfefjaaJCramer25
import Derived.Test.YtpiniclogfefjaaCCramerSemAppend
import Derived.Test.YtpiniclogfefjaaCCramerSemObj
import Derived.Test.YtpiniclogfefjaaJCramer28
import Derived.Test.YtpiniclogfefjaaCCramerSemCopy
import Derived.Test.YtpiniclogfefjaaCCramerSemApp
import Derived.Test.YtpiniclogfefjaaJCramer32
import Derived.Test.YtpiniclogfefjaaCCramerPlainSolve
import Derived.Test.YtpiniclogfefjaaJCramer34
import Derived.Test.YtpiniclogfefjaaCCramerMatrix
import Derived.Test.YtpiniclogfefjaaJCramer36
import Derived.Test.YtpiniclogfefjaaCCramerTurned
import Derived.Test.YtpiniclogfefjaaCCramerSolved
import Derived.Test.YtpiniclogfefjaaCCramerSolve
import Derived.Test.YtpiniclogfefjaaCCramerInner
import Derived.Test.YtpiniclogfefjaaCCramerProd
namespace Wx
set_option maxRecDepth 100000
open Go Go.RowKit Go.Proofs
set_option linter.unusedVariables false

theorem c_Product_ok {A B : List (List Rat)} {j1 j2 : Nat} (hR : Right A) (hQ : Right B) (hf : B.length = (A.getD 0 []).length) (hAb : BdX j1 A) (hBb : BdX j2 B) (h2 : 1 ≤ j2) (hj : dotJ (j1 + j2) B.length ≤ 100000000) : ∀ (M : Nat → Nat → Prop) (w : World) (v0 v1 : Value), Mid M w → Box M (fun w => (pRow 1 false A.length (fun i => pRats (A.getD i []))) w v0) w → Box M (fun w => (pRow 1 false B.length (fun i => pRats (B.getD i []))) w v1) w → Calls Try.prog 16 #[v0, v1] w (RetB M (pTup2 (pRow 1 false A.length fun i => pRats ((mulT A (turnM B)).getD i [])) (pI 0)) w) := by
  intro M w0 v0 v1 hM hv0 hv1
  have h0 := hR.rows
  have h0' := hQ.rows
  have h1 := hR.cols
  have h1' := hQ.cols
  refine calls_startR (N := 28) Try.func16 rfl rfl rfl hM (show EntsA M w0 [v0, v1] [⟨none, none, 0, pRow 1 false A.length (fun i => pRats (A.getD i []))⟩, ⟨none, none, 1, pRow 1 false B.length (fun i => pRats (B.getD i []))⟩] from ⟨⟨rfl, _, rfl, hv0⟩, ⟨rfl, _, rfl, hv1⟩, trivial⟩) fun a hI => ?_
  refine seq_T hI [] [] [⟨some 0, none, 4, pEq ((Value.slice none 0 0))⟩, ⟨some 1, none, 5, pI 0⟩] .z (.kk .z) rfl [0, 1] (by kernel_rfl) ?_ .z (.kkkk .z) fun a w hI => ?_
  · exact ⟨op_assign (.const _) (.here 2 rfl), op_assign (.const _) (.here 3 rfl), trivial⟩
  refine wp_seq ?_
  refine seq_T hI [] [] [⟨some 0, none, 8, pRow 1 false A.length (fun i => pRats (A.getD i []))⟩, ⟨some 1, none, 9, pI 0⟩, ⟨some 2, none, 6, pI 0⟩] .z (.kkkk .z) rfl [0, 1, 3] (by kernel_rfl) ?_ .z (.kkkk (.ddk .z)) fun a w hI => ?_
  · exact ⟨op_move (.tmp 0 rfl rfl) (.here 4 rfl), op_callB1 (fun _ _ => by kernel_rfl) (.tmp 4 rfl rfl) (.here 5 rfl) (c_check_ok hR), op_assign (.tmp 5 rfl rfl) (.here 6 rfl), trivial⟩
  refine seq_T hI [] [] [⟨some 0, none, 10, pI 0⟩, ⟨some 1, none, 11, pB false⟩] .z (.kkkk (.k .z)) rfl [0, 1] (by kernel_rfl) ?_ .z (.kkkk (.kdk .z)) fun a w hI => ?_
  · exact ⟨op_move (.tmp 4 rfl rfl) (.here 5 rfl), op_bin (v := .bool (false)) (.tmp 5 rfl rfl) (.const _) (fun _ => rfl) (.here 6 rfl), trivial⟩
  refine cond_no hI 5 rfl ?_
  refine wp_skip ?_
  refine then_of ?_
  refine wp_seq ?_
  refine seq_T hI [] [] [⟨some 0, none, 13, pRow 1 false B.length (fun i => pRats (B.getD i []))⟩, ⟨some 1, none, 14, pI 0⟩, ⟨some 2, none, 7, pI 0⟩] .z (.kkkk (.kk .z)) rfl [0, 1, 3] (by kernel_rfl) ?_ .z (.kkkk (.dddd (.k .z))) fun a w hI => ?_
  · exact ⟨op_move (.tmp 1 rfl rfl) (.here 6 rfl), op_callB1 (fun _ _ => by kernel_rfl) (.tmp 6 rfl rfl) (.here 7 rfl) (c_check_ok hQ), op_assign (.tmp 7 rfl rfl) (.here 8 rfl), trivial⟩
  refine seq_T hI [] [] [⟨some 0, none, 15, pI 0⟩, ⟨some 1, none, 16, pB false⟩] .z (.kkkk (.k .z)) rfl [0, 1] (by kernel_rfl) ?_ .z (.kkkk (.kdk .z)) fun a w hI => ?_
  · exact ⟨op_move (.tmp 4 rfl rfl) (.here 5 rfl), op_bin (v := .bool (false)) (.tmp 5 rfl rfl) (.const _) (fun _ => rfl) (.here 6 rfl), trivial⟩
  refine cond_no hI 5 rfl ?_
  refine wp_skip ?_
  refine then_of ?_
  refine wp_seq ?_
  refine seq_T hI [] [] [⟨some 0, none, 18, pRow 1 false B.length (fun i => pRats (B.getD i []))⟩, ⟨some 1, none, 19, pI (B.length : Int)⟩, ⟨some 2, none, 20, pRow 1 false A.length (fun i => pRats (A.getD i []))⟩, ⟨some 3, none, 21, pPtr 1 false (pRats (A.getD 0 []))⟩, ⟨some 4, none, 22, pRats (A.getD 0 [])⟩, ⟨some 5, none, 23, pI ((A.getD 0 []).length : Int)⟩, ⟨some 6, none, 24, pB false⟩] .z (.kkkk (.kk .z)) rfl [0, 1, 3, 7, 15, 31, 63] (by kernel_rfl) ?_ .z (.kkkk (.d8 (.k .z))) fun a w hI => ?_
  · exact ⟨op_move (.tmp 1 rfl rfl) (.here 6 rfl), op_len (.tmp 6 rfl rfl) (sl_Rows).under (.here 7 rfl), op_move (.tmp 0 rfl rfl) (.here 8 rfl), op_indexRow (.tmp 8 rfl rfl) (.const _) sl_Rows (by omega) (by omega) (by kernel_rfl) (.here 9 rfl), op_loadP (.tmp 9 rfl rfl) ty_Ratios ((fits_rats _)) (.here 10 rfl), op_len (.tmp 10 rfl rfl) (sl_Ratios).under (.here 11 rfl), op_bin (v := .bool (((B.length : Int) != ((A.getD 0 []).length : Int)))) (.tmp 7 rfl rfl) (.tmp 11 rfl rfl) (fun _ => rfl) (.at_ 12 _ _ rfl (pB_eq ((by rw [hf]; exact bne_self_eq_false _)))), trivial⟩
  refine cond_no hI 4 rfl ?_
  refine wp_skip ?_
  refine then_of ?_
  refine seq_T hI [] [] [⟨some 0, none, 25, pRow 1 false A.length (fun i => pRats (A.getD i []))⟩, ⟨some 1, none, 26, pRow 1 false B.length (fun i => pRats (B.getD i []))⟩, ⟨some 2, none, 27, pRow 1 false A.length (fun i => pRats ((mulT A (turnM B)).getD i []))⟩, ⟨some 3, none, 4, pRow 1 false A.length (fun i => pRats ((mulT A (turnM B)).getD i []))⟩, ⟨some 4, none, 5, pI 0⟩] .z (.kk (.t 3 (.t 4 (.k .z)))) rfl [0, 1, 3, 7, 15] (by kernel_rfl) ?_ .z (.d8 (.kk .z)) fun a w hI => ?_
  · exact ⟨op_move (.tmp 0 rfl rfl) (.here 5 rfl), op_move (.tmp 1 rfl rfl) (.here 6 rfl), op_callB2 (fun _ _ => by kernel_rfl) (.tmp 5 rfl rfl) (.tmp 6 rfl rfl) (.here 7 rfl) (c_product (j1 := j1) (j2 := j2) (by omega) ⟨by omega, by omega⟩ (fun i hi => by rw [hR.rect i hi, hf]) hQ.rect (by omega) hAb hBb h2 hj), op_assign (.tmp 7 rfl rfl) (.here 8 rfl), op_assign (.const _) (.here 9 rfl), trivial⟩
  refine wp_ret ?_
  exact fin2 hI rfl (.tmp 0 rfl) (.tmp 1 rfl)
theorem c_Inverse_ok {A : List (List Rat)} {j : Nat} (hR : Right A) (hA : Rect A.length A) (hAb : BdX j A) (h1 : 1 ≤ j) (hj : gjJ j A.length ≤ 100000000) (hs : ¬ gjSing (augX A (oneM A.length)) A.length) : ∀ (M : Nat → Nat → Prop) (w : World) (v0 : Value), Mid M w → Box M (fun w => (pRow 1 false A.length (fun i => pRats (A.getD i []))) w v0) w → Calls Try.prog 20 #[v0] w (RetB M (pTup2 (pRow 1 false A.length (fun i => pRats ((solX A (oneM A.length)).getD i []))) (pI 0)) w) := by
  intro M w0 v0 hM hv0
  have h0 := hR.rows.1
  have hn := hR.rows.2
  refine calls_startR (N := 45) Try.func20 rfl rfl rfl hM (show EntsA M w0 [v0] [⟨none, none, 0, pRow 1 false A.length (fun i => pRats (A.getD i []))⟩] from ⟨⟨rfl, _, rfl, hv0⟩, trivial⟩) fun a hI => ?_
  refine seq_T hI [] [] [⟨some 0, none, 2, pEq ((Value.slice none 0 0))⟩, ⟨some 1, none, 3, pI 0⟩] .z (.k .z) rfl [0, 1] (by kernel_rfl) ?_ .z (.kkk .z) fun a w hI => ?_
  · exact ⟨op_assign (.const _) (.here 1 rfl), op_assign (.const _) (.here 2 rfl), trivial⟩
  refine wp_seq ?_
  refine seq_T hI [] [] [⟨some 0, none, 9, pRow 1 false A.length (fun i => pRats (A.getD i []))⟩, ⟨some 1, none, 10, pI 0⟩, ⟨some 2, none, 4, pI 0⟩] .z (.kkk .z) rfl [0, 1, 3] (by kernel_rfl) ?_ .z (.kkkd (.dk .z)) fun a w hI => ?_
  · exact ⟨op_move (.tmp 0 rfl rfl) (.here 3 rfl), op_callB1 (fun _ _ => by kernel_rfl) (.tmp 3 rfl rfl) (.here 4 rfl) (c_square_ok hR (hA 0 h0)), op_assign (.tmp 4 rfl rfl) (.here 5 rfl), trivial⟩
  refine seq_T hI [] [] [⟨some 0, none, 11, pI 0⟩, ⟨some 1, none, 12, pB false⟩] .z (.kkkk .z) rfl [0, 1] (by kernel_rfl) ?_ .z (.kkkk (.dk .z)) fun a w hI => ?_
  · exact ⟨op_move (.tmp 3 rfl rfl) (.here 4 rfl), op_bin (v := .bool (false)) (.tmp 4 rfl rfl) (.const _) (fun _ => rfl) (.here 5 rfl), trivial⟩
  refine cond_no hI 4 rfl ?_
  refine wp_skip ?_
  refine then_of ?_
  refine seq_ST hI [⟨16, 16, some 2, none, .obj, 0, 0, false, pMade 1 false A.length (itV (.slice none 0 0)), []⟩] [] [⟨some 0, none, 14, pRow 1 false A.length (fun i => pRats (A.getD i []))⟩, ⟨some 1, none, 15, pI (A.length : Int)⟩] .z (.kkkk (.k .z)) rfl [0, 1, 3, 7] 3 (by kernel_rfl) ?_ (.k .z) (.kkkd (.ddd .z)) (fun a w hI => hI.openMade 0 rfl (by kernel_rfl)) (⟨_, exL fun l hC a w hI => sing hI [] [⟨some 0, none, 5, pEq (.slice (some ⟨l, 0, none⟩) A.length A.length)⟩] (.k .z) (.kkkk .z) (by kernel_rfl) (op_assign (.tmp 0 rfl rfl) (.here 4 rfl)) (.k .z) (.dkkk (.k .z)),
      rfl⟩) ?_
  · exact ⟨op_move (.tmp 0 rfl rfl) (.here 5 rfl), op_len (.tmp 5 rfl rfl) (sl_Rows).under (.here 6 rfl), op_makeSliceO (zv := .slice none 0 0) (z := [.slice none 0 0]) 0 rfl rfl rfl rfl rfl (by kernel_rfl) (.tmp 6 rfl rfl) (.tmp 6 rfl rfl) (sl_Rows).under (by kernel_rfl) rfl rfl (by omega) (fun u hu => by rw [List.mem_singleton.1 hu]; exact noU_slice _ _ _) (fun _ => rfl) (by omega) (.none (by kernel_rfl)), trivial⟩
  · rintro a w ⟨g, hC, hI⟩
    have hC : True := hC
    refine wp_seq ?_
    refine seq_T hI [] [] [⟨some 0, none, 17, pEq (.slice (some ⟨g, 0, none⟩) A.length A.length)⟩, ⟨some 1, none, 18, pI (A.length : Int)⟩, ⟨some 2, none, 19, pI 0⟩] (.k .z) (.kkkk .z) rfl [0, 1, 3] (by kernel_rfl) ?_ (.k .z) (.kkkk (.dkk .z)) fun a w hI => ?_
    · exact ⟨op_move (.tmp 3 rfl rfl) (.here 4 rfl), op_lenEq (.tmp 4 rfl rfl) (sl_Rows).under (.here 5 rfl), op_move (.const _) (.here 6 rfl), trivial⟩
    refine wp_block ?_
    refine wp_loop_ix (fun (q : BI) a w => (q.k ≤ A.length ∧ BldOk g A.length q.R (oneB A.length q.k) q.H) ∧ Inv ⟨45, w0, M, fun _ => False⟩ [⟨16, 16, none, none, .obj, 0, 0, false, pHp q.H, []⟩] [] [⟨none, none, 0, pRow 1 false A.length (fun i => pRats (A.getD i []))⟩, ⟨none, none, 2, pEq ((Value.slice none 0 0))⟩, ⟨none, none, 3, pI 0⟩, ⟨none, none, 5, pEq (.slice (some ⟨g, 0, none⟩) A.length A.length)⟩, ⟨none, none, 18, pI (A.length : Int)⟩, ⟨none, none, 19, pI (q.k : Int)⟩] none_ a w) (fun (q : BI) => A.length - q.k) (⟨0, List.replicate A.length ⟨0, 0, 0⟩, [⟨g, 1, false, List.replicate A.length (itV (.slice none 0 0))⟩]⟩) ⟨⟨Nat.zero_le _, by have h := bld_nil g A.length; rw [← oneB_zero] at h; exact h⟩, (hI.conv ⟨⟨0, _, _, rfl, ⟨rfl, rfl, rfl⟩, rfl, fun _ => (fun _ _ h => h)⟩, trivial⟩ ⟨⟨rfl, rfl, 0, _, rfl, fun _ _ h => h⟩, ⟨rfl, rfl, 1, _, rfl, fun _ _ h => h⟩, ⟨rfl, rfl, 2, _, rfl, fun _ _ h => h⟩, ⟨rfl, rfl, 3, _, rfl, fun _ _ h => h⟩, ⟨rfl, rfl, 4, _, rfl, fun _ _ h => h⟩, ⟨rfl, rfl, 5, _, rfl, (pI_eq rfl)⟩, trivial⟩)⟩ ?_
    intro q a w hIk
    obtain ⟨⟨hk, hB⟩, hI⟩ := hIk
    refine seq_T hI [] [] [⟨some 0, none, 20, pB (decide ((q.k : Int) < (A.length : Int)))⟩] (.k .z) (.kkkk (.kk .z)) rfl [0] (by kernel_rfl) ?_ (.k .z) (.kkkk (.kkk .z)) fun a w hI => ?_
    · exact ⟨op_bin (v := .bool (decide ((q.k : Int) < (A.length : Int)))) (.tmp 5 rfl rfl) (.tmp 4 rfl rfl) (fun _ => rfl) (.here 6 rfl), trivial⟩
    refine wp_seq ?_
    refine cond_if hI 6 rfl (fun ht => ?_) (fun ht => ?_)
    · have t1 := of_decide_eq_true ht
      refine wp_skip ?_
      refine then_of ?_
      refine wp_seq ?_
      refine wp_block ?_
      refine seq_T hI [] [] [⟨some 0, none, 21, pI (q.k : Int)⟩, ⟨some 1, none, 6, pI (q.k : Int)⟩] (.k .z) (.kkkk (.kkk .z)) rfl [0, 1] (by kernel_rfl) ?_ (.k .z) (.kkkk (.kkdd (.k .z))) fun a w hI => ?_
      · exact ⟨op_move (.tmp 5 rfl rfl) (.here 7 rfl), op_assign (.tmp 7 rfl rfl) (.here 8 rfl), trivial⟩
      have hoff : ∀ r : RowL, (∀ e, e ∈ q.H → e.b ≠ r.b) → g ≠ r.b := fun r h => h _ hB.top
      refine seq_ST hI [⟨26, 26, some 4, none, .obj, 0, 0, false, pApp q.H (.slice none 0 0) [] (List.replicate A.length 0), []⟩] [] [⟨some 0, none, 22, pEq (.slice (some ⟨g, 0, none⟩) A.length A.length)⟩, ⟨some 1, none, 23, pI (q.k : Int)⟩, ⟨some 2, none, 24, pRow 1 false A.length (fun i => pRats (A.getD i []))⟩, ⟨some 3, none, 25, pI (A.length : Int)⟩] (.u (some 4) [] .z) (.kkkk (.kkk .z)) rfl [0, 1, 3, 7, 15, 31, 63] 5 (by kernel_rfl) ?_ (.d (.k .z)) (.k8 (.kdd .z)) (fun a w hI => hI.openApp 0 rfl (by kernel_rfl)) (⟨_, exL fun l hC a w hI => sing hI [] [⟨some 0, none, 27, pEq (.pointer (some ⟨g, 0 + ((q.k : Int)).toNat * 1, none⟩))⟩] (.k .z) (.k8 (.kk .z)) (by kernel_rfl) (op_indexEq (.tmp 8 rfl rfl) (.tmp 9 rfl rfl) sl_Rows (by omega) (by omega) (by kernel_rfl) (.here 10 rfl)) (.k .z) (.k8 (.ddk .z)),
          _, exL fun l hC a w hI => sing hI [] [] (.u none [(0, pHp (hset (appH q.H l.b (rowIt (List.replicate A.length 0) l.cap)) g q.k (itV l.hdr)))] .z) (.k8 (.k .z)) (by kernel_rfl) (op_storeH (e := ⟨g, 1, false, tops0 q.R⟩) (idx := q.k) (it := itV l.hdr) 0 rfl rfl rfl (by kernel_rfl) 0 rfl (by kernel_rfl) (by kernel_rfl) rfl (.tmp 8 rfl rfl) (appH_other hB.top (hoff l (appOk_new hC).2)) rfl (by rw [tops0_len]; have := hB.len.1; omega) (show 0 + ((q.k : Int)).toNat * 1 = q.k * 1 by omega) ty_Ratios (.tmp 0 rfl rfl) (fits_slice _ _ _)) (.s .o .z) (.dkkk (.kkkk (.d .z))),
          rfl⟩) ?_
      · exact ⟨op_move (.tmp 3 rfl rfl) (.here 7 rfl), op_move (.tmp 6 rfl rfl) (.here 8 rfl), op_move (.tmp 0 rfl rfl) (.here 9 rfl), op_len (.tmp 9 rfl rfl) (sl_Rows).under (.here 10 rfl), op_makeSliceH (n := A.length) (zv := .agg #[.bool false, .slice none 0 0, .slice none 0 0]) (z := [.bool false, .slice none 0 0, .slice none 0 0]) 0 rfl rfl rfl rfl (by kernel_rfl) rfl 1 rfl rfl rfl rfl rfl (by kernel_rfl) (.tmp 10 rfl rfl) (.tmp 10 rfl rfl) (sl_Ratios).under (by kernel_rfl) rfl rfl (by simp [NoU]) (fun w => isRat_zero w) (by omega) (.none (by kernel_rfl)), trivial⟩
      · rintro a w ⟨l, hC, hI⟩
        have hC : AppOk q.H (.slice none 0 0) [] (List.replicate A.length 0) l := hC
        have hnew := appOk_new hC
        rw [List.length_replicate] at hnew
        have hB1 := hB.put (i := q.k) (l := List.replicate A.length 0) (r' := l) (by omega) (by rw [List.length_replicate]; omega) (appOk_new hC).1 hC.2.1 hC.2.2.1 (.inr hnew.2)
        have hq1 := hB.len.1
        have hra : rowAt (q.R.set q.k l) q.k = l := by rw [rowAt_set (by omega), if_pos rfl]
        have htop : (tops0 (q.R.set q.k l))[q.k]? = some (itV l.hdr) := by rw [tops0_get (by rw [List.length_set]; omega), hra, hdr0_hdr (by omega)]
        have hmem : (⟨l.b, 3, true, rowIt (List.replicate A.length 0) l.cap⟩ : Bk) ∈ hset (appH q.H l.b (rowIt (List.replicate A.length 0) l.cap)) g q.k (itV l.hdr) := hset_other appH_mem (Ne.symm (hoff l hnew.2))
        have hcap := hC.2.1
        have hcap2 := hC.2.2.1
        refine sem_D hI [] [] [⟨some 0, none, 28, pEq (.slice (some ⟨g, 0, none⟩) A.length A.length)⟩, ⟨some 1, none, 29, pI (q.k : Int)⟩, ⟨some 2, none, 30, pEq (.pointer (some ⟨g, 0 + ((q.k : Int)).toNat * 1, none⟩))⟩, ⟨some 3, none, 31, pEq (.slice (some ⟨l.b, 0, none⟩) l.n l.cap)⟩, ⟨some 4, none, 32, pI (q.k : Int)⟩, ⟨some 5, none, 33, pRat 1⟩, ⟨some 6, none, 34, pEq (.pointer (some ⟨l.b, 0 + ((q.k : Int)).toNat * 3, none⟩))⟩] (.u none [(7, pHp (hset (hset (appH q.H l.b (rowIt (List.replicate A.length 0) l.cap)) g q.k (itV l.hdr)) l.b q.k (itR 1)))] .z) (.kkkk (.kkk .z)) rfl [0, 0, 3, 7, 0, 0, 63, 127] (by kernel_rfl) ?_ (.s .o .z) (.kkkk (.kkdd (.dddd (.dd .z)))) fun a w hI => ?_
        · exact ⟨op_move (.tmp 3 rfl rfl) (.here 7 rfl), op_move (.tmp 6 rfl rfl) (.here 8 rfl), op_indexEq (.tmp 7 rfl rfl) (.tmp 8 rfl rfl) sl_Rows (by omega) (by omega) (by kernel_rfl) (.here 9 rfl), op_loadH (e := ⟨g, 1, false, tops0 (q.R.set q.k l)⟩) (idx := q.k) 0 rfl rfl rfl (by kernel_rfl) rfl (.tmp 9 rfl rfl) hB1.top rfl htop (show 0 + ((q.k : Int)).toNat * 1 = q.k * 1 by omega) ty_Ratios (.here 10 rfl), op_move (.tmp 6 rfl rfl) (.here 11 rfl), op_call1 (fun _ _ => by kernel_rfl) (numlike_rat _) (.const _) (.here 12 rfl) ((by have h := c_int 1 (by omega) (by omega); rw [show ((1 : Int) : Rat) = 1 from rfl] at h; exact h)), op_indexEq (.tmp 10 rfl rfl) (.tmp 11 rfl rfl) sl_Ratios (by omega) (by omega) (by kernel_rfl) (.here 13 rfl), op_storeH (e := ⟨l.b, 3, true, rowIt (List.replicate A.length 0) l.cap⟩) (idx := q.k) (it := itR 1) 0 rfl rfl rfl (by kernel_rfl) 0 rfl (by kernel_rfl) (by kernel_rfl) rfl (.tmp 13 rfl rfl) hmem rfl (rowIt_lt (by rw [List.length_replicate]; omega)) (show 0 + ((q.k : Int)).toNat * 3 = q.k * 3 by omega) ty_Ratio (.tmp 12 rfl rfl) (fits_rat _), trivial⟩
        refine block_of ?_
        refine then_of ?_
        refine sem_T hI [] [] [⟨some 0, none, 35, pI ((q.k : Int) + (1 : Int))⟩, ⟨some 1, none, 19, pI ((q.k : Int) + (1 : Int))⟩] (.k .z) (.kkkk (.k (.t 1 .z))) rfl [0, 1] (by kernel_rfl) ?_ (.k .z) (.kkkk (.kddk .z)) fun a w hI => ?_
        · exact ⟨op_bin (v := .int .i64 (IntKind.i64.wrap ((q.k : Int) + (1 : Int)))) (.tmp 5 rfl rfl) (.const _) (fun _ => rfl) (.at_ 6 _ _ rfl (pI_wrap (by omega))), op_move (.tmp 6 rfl rfl) (.here 7 rfl), trivial⟩
        refine then_of ?_
        replace hI := hI.reobj 16 16 (n0 := 0) rfl (by kernel_rfl) (by kernel_rfl)
        exact ⟨⟨q.k + 1, (q.R.set q.k l), hset (hset (appH q.H l.b (rowIt (List.replicate A.length 0) l.cap)) g q.k (itV l.hdr)) l.b q.k (itR 1)⟩, ⟨⟨by show q.k + 1 ≤ A.length; omega, by have h := hB1.setItem (i := q.k) (k := q.k) (q := 1) (by omega) (by rw [oneB_at (by omega), List.length_replicate]; omega); rw [hra, oneB_step (by omega)] at h; exact h⟩, (hI.conv ⟨⟨0, _, _, rfl, ⟨rfl, rfl, rfl⟩, rfl, fun _ => fun _ _ h => h⟩, trivial⟩ ⟨⟨rfl, rfl, 0, _, rfl, fun _ _ h => h⟩, ⟨rfl, rfl, 1, _, rfl, fun _ _ h => h⟩, ⟨rfl, rfl, 2, _, rfl, fun _ _ h => h⟩, ⟨rfl, rfl, 3, _, rfl, fun _ _ h => h⟩, ⟨rfl, rfl, 4, _, rfl, fun _ _ h => h⟩, ⟨rfl, rfl, 5, _, rfl, (pI_eq (by show ((q.k : Int) + 1) = ((q.k + 1 : Nat) : Int); omega))⟩, trivial⟩)⟩, (show A.length - (q.k + 1) < A.length - q.k by omega)⟩
    · have t2 := of_decide_eq_false ht
      refine wp_exit ?_
      refine then_exit ?_
      refine then_exit ?_
      refine block_exit ?_
      refine then_of ?_
      replace hI := hI.restObj (n0 := 0) (k := 3) (p := pRow 1 false A.length (fun i => pRats ((oneM A.length).getD i []))) rfl (by kernel_rfl) rfl (fun B w hH => by have h := hB.read (cap := A.length) (Nat.le_refl _) (by unfold maxLen; omega) (fun i hi => by rw [oneB_get hi, if_pos (by omega), oneR_len]; omega) B w hH; rw [show q.k = A.length by omega, oneB_end] at h; exact h)
      refine seq_T hI [] [] [⟨some 0, none, 37, pRow 1 false A.length (fun i => pRats (A.getD i []))⟩, ⟨some 1, none, 38, pRow 1 false A.length (fun i => pRats ((oneM A.length).getD i []))⟩, ⟨some 2, none, 39, pTup2 (pRow 1 false A.length (fun i => pRats ((solX A (oneM A.length)).getD i []))) (pB true)⟩, ⟨some 3, none, 36, pTup2 (pRow 1 false A.length (fun i => pRats ((solX A (oneM A.length)).getD i []))) (pB true)⟩, ⟨some 4, none, 40, pRow 1 false A.length (fun i => pRats ((solX A (oneM A.length)).getD i []))⟩, ⟨some 5, none, 41, pB true⟩, ⟨some 6, none, 7, pRow 1 false A.length (fun i => pRats ((solX A (oneM A.length)).getD i []))⟩, ⟨some 7, none, 8, pB true⟩] .z (.kkkk (.kkk .z)) rfl [0, 1, 3, 7, 15, 31, 63, 127] (by kernel_rfl) ?_ .z (.ddkk (.d8 (.dkk .z))) fun a w hI => ?_
      · exact ⟨op_move (.tmp 1 rfl rfl) (.here 7 rfl), op_move (.tmp 0 rfl rfl) (.here 8 rfl), op_callB2 (fun _ _ => by kernel_rfl) (.tmp 7 rfl rfl) (.tmp 8 rfl rfl) (.here 9 rfl) (c_solved_ok h0 (m := A.length) (j := j) (by omega) (by omega) hA oneM_len (fun i hi => oneM_rect hi) hAb (oneM_bd h1) h1 hj hs), op_move (.tmp 9 rfl rfl) (.here 10 rfl), op_extract (.tmp 10 rfl rfl) ex2_0 (.here 11 rfl), op_extract (.tmp 10 rfl rfl) ex2_1 (.here 12 rfl), op_assign (.tmp 11 rfl rfl) (.here 13 rfl), op_assign (.tmp 12 rfl rfl) (.here 14 rfl), trivial⟩
      refine wp_seq ?_
      refine seq_T hI [] [] [⟨some 0, none, 42, pB true⟩, ⟨some 1, none, 43, pB false⟩] .z (.kkkk .z) rfl [0, 1] (by kernel_rfl) ?_ .z (.kkkd (.dk .z)) fun a w hI => ?_
      · exact ⟨op_move (.tmp 3 rfl rfl) (.here 4 rfl), op_not (.tmp 4 rfl rfl) (.here 5 rfl), trivial⟩
      refine cond_no hI 3 rfl ?_
      refine wp_skip ?_
      refine then_of ?_
      refine seq_T hI [] [] [⟨some 0, none, 44, pRow 1 false A.length (fun i => pRats ((solX A (oneM A.length)).getD i []))⟩, ⟨some 1, none, 2, pRow 1 false A.length (fun i => pRats ((solX A (oneM A.length)).getD i []))⟩, ⟨some 2, none, 3, pI 0⟩] .z (.t 1 (.t 2 (.kk .z))) rfl [0, 1, 3] (by kernel_rfl) ?_ .z (.dddd (.dkk .z)) fun a w hI => ?_
      · exact ⟨op_move (.tmp 2 rfl rfl) (.here 4 rfl), op_assign (.tmp 4 rfl rfl) (.here 5 rfl), op_assign (.const _) (.here 6 rfl), trivial⟩
      refine wp_ret ?_
      exact fin2 hI rfl (.tmp 0 rfl) (.tmp 1 rfl)
theorem c_Inverse_no {A : List (List Rat)} {j : Nat} (hR : Right A) (hA : Rect A.length A) (hAb : BdX j A) (h1 : 1 ≤ j) (hj : gjJ j A.length ≤ 100000000) (hs :  gjSing (augX A (oneM A.length)) A.length) : ∀ (M : Nat → Nat → Prop) (w : World) (v0 : Value), Mid M w → Box M (fun w => (pRow 1 false A.length (fun i => pRats (A.getD i []))) w v0) w → Calls Try.prog 20 #[v0] w (RetB M (pTup2 (pEq (.slice none 0 0)) (pI 6)) w) := by
  intro M w0 v0 hM hv0
  have h0 := hR.rows.1
  have hn := hR.rows.2
  refine calls_startR (N := 45) Try.func20 rfl rfl rfl hM (show EntsA M w0 [v0] [⟨none, none, 0, pRow 1 false A.length (fun i => pRats (A.getD i []))⟩] from ⟨⟨rfl, _, rfl, hv0⟩, trivial⟩) fun a hI => ?_
  refine seq_T hI [] [] [⟨some 0, none, 2, pEq ((Value.slice none 0 0))⟩, ⟨some 1, none, 3, pI 0⟩] .z (.k .z) rfl [0, 1] (by kernel_rfl) ?_ .z (.kkk .z) fun a w hI => ?_
  · exact ⟨op_assign (.const _) (.here 1 rfl), op_assign (.const _) (.here 2 rfl), trivial⟩
  refine wp_seq ?_
  refine seq_T hI [] [] [⟨some 0, none, 9, pRow 1 false A.length (fun i => pRats (A.getD i []))⟩, ⟨some 1, none, 10, pI 0⟩, ⟨some 2, none, 4, pI 0⟩] .z (.kkk .z) rfl [0, 1, 3] (by kernel_rfl) ?_ .z (.kkkd (.dk .z)) fun a w hI => ?_
  · exact ⟨op_move (.tmp 0 rfl rfl) (.here 3 rfl), op_callB1 (fun _ _ => by kernel_rfl) (.tmp 3 rfl rfl) (.here 4 rfl) (c_square_ok hR (hA 0 h0)), op_assign (.tmp 4 rfl rfl) (.here 5 rfl), trivial⟩
  refine seq_T hI [] [] [⟨some 0, none, 11, pI 0⟩, ⟨some 1, none, 12, pB false⟩] .z (.kkkk .z) rfl [0, 1] (by kernel_rfl) ?_ .z (.kkkk (.dk .z)) fun a w hI => ?_
  · exact ⟨op_move (.tmp 3 rfl rfl) (.here 4 rfl), op_bin (v := .bool (false)) (.tmp 4 rfl rfl) (.const _) (fun _ => rfl) (.here 5 rfl), trivial⟩
  refine cond_no hI 4 rfl ?_
  refine wp_skip ?_
  refine then_of ?_
  refine seq_ST hI [⟨16, 16, some 2, none, .obj, 0, 0, false, pMade 1 false A.length (itV (.slice none 0 0)), []⟩] [] [⟨some 0, none, 14, pRow 1 false A.length (fun i => pRats (A.getD i []))⟩, ⟨some 1, none, 15, pI (A.length : Int)⟩] .z (.kkkk (.k .z)) rfl [0, 1, 3, 7] 3 (by kernel_rfl) ?_ (.k .z) (.kkkd (.ddd .z)) (fun a w hI => hI.openMade 0 rfl (by kernel_rfl)) (⟨_, exL fun l hC a w hI => sing hI [] [⟨some 0, none, 5, pEq (.slice (some ⟨l, 0, none⟩) A.length A.length)⟩] (.k .z) (.kkkk .z) (by kernel_rfl) (op_assign (.tmp 0 rfl rfl) (.here 4 rfl)) (.k .z) (.dkkk (.k .z)),
      rfl⟩) ?_
  · exact ⟨op_move (.tmp 0 rfl rfl) (.here 5 rfl), op_len (.tmp 5 rfl rfl) (sl_Rows).under (.here 6 rfl), op_makeSliceO (zv := .slice none 0 0) (z := [.slice none 0 0]) 0 rfl rfl rfl rfl rfl (by kernel_rfl) (.tmp 6 rfl rfl) (.tmp 6 rfl rfl) (sl_Rows).under (by kernel_rfl) rfl rfl (by omega) (fun u hu => by rw [List.mem_singleton.1 hu]; exact noU_slice _ _ _) (fun _ => rfl) (by omega) (.none (by kernel_rfl)), trivial⟩
  · rintro a w ⟨g, hC, hI⟩
    have hC : True := hC
    refine wp_seq ?_
    refine seq_T hI [] [] [⟨some 0, none, 17, pEq (.slice (some ⟨g, 0, none⟩) A.length A.length)⟩, ⟨some 1, none, 18, pI (A.length : Int)⟩, ⟨some 2, none, 19, pI 0⟩] (.k .z) (.kkkk .z) rfl [0, 1, 3] (by kernel_rfl) ?_ (.k .z) (.kkkk (.dkk .z)) fun a w hI => ?_
    · exact ⟨op_move (.tmp 3 rfl rfl) (.here 4 rfl), op_lenEq (.tmp 4 rfl rfl) (sl_Rows).under (.here 5 rfl), op_move (.const _) (.here 6 rfl), trivial⟩
    refine wp_block ?_
    refine wp_loop_ix (fun (q : BI) a w => (q.k ≤ A.length ∧ BldOk g A.length q.R (oneB A.length q.k) q.H) ∧ Inv ⟨45, w0, M, fun _ => False⟩ [⟨16, 16, none, none, .obj, 0, 0, false, pHp q.H, []⟩] [] [⟨none, none, 0, pRow 1 false A.length (fun i => pRats (A.getD i []))⟩, ⟨none, none, 2, pEq ((Value.slice none 0 0))⟩, ⟨none, none, 3, pI 0⟩, ⟨none, none, 5, pEq (.slice (some ⟨g, 0, none⟩) A.length A.length)⟩, ⟨none, none, 18, pI (A.length : Int)⟩, ⟨none, none, 19, pI (q.k : Int)⟩] none_ a w) (fun (q : BI) => A.length - q.k) (⟨0, List.replicate A.length ⟨0, 0, 0⟩, [⟨g, 1, false, List.replicate A.length (itV (.slice none 0 0))⟩]⟩) ⟨⟨Nat.zero_le _, by have h := bld_nil g A.length; rw [← oneB_zero] at h; exact h⟩, (hI.conv ⟨⟨0, _, _, rfl, ⟨rfl, rfl, rfl⟩, rfl, fun _ => (fun _ _ h => h)⟩, trivial⟩ ⟨⟨rfl, rfl, 0, _, rfl, fun _ _ h => h⟩, ⟨rfl, rfl, 1, _, rfl, fun _ _ h => h⟩, ⟨rfl, rfl, 2, _, rfl, fun _ _ h => h⟩, ⟨rfl, rfl, 3, _, rfl, fun _ _ h => h⟩, ⟨rfl, rfl, 4, _, rfl, fun _ _ h => h⟩, ⟨rfl, rfl, 5, _, rfl, (pI_eq rfl)⟩, trivial⟩)⟩ ?_
    intro q a w hIk
    obtain ⟨⟨hk, hB⟩, hI⟩ := hIk
    refine seq_T hI [] [] [⟨some 0, none, 20, pB (decide ((q.k : Int) < (A.length : Int)))⟩] (.k .z) (.kkkk (.kk .z)) rfl [0] (by kernel_rfl) ?_ (.k .z) (.kkkk (.kkk .z)) fun a w hI => ?_
    · exact ⟨op_bin (v := .bool (decide ((q.k : Int) < (A.length : Int)))) (.tmp 5 rfl rfl) (.tmp 4 rfl rfl) (fun _ => rfl) (.here 6 rfl), trivial⟩
    refine wp_seq ?_
    refine cond_if hI 6 rfl (fun ht => ?_) (fun ht => ?_)
    · have t1 := of_decide_eq_true ht
      refine wp_skip ?_
      refine then_of ?_
      refine wp_seq ?_
      refine wp_block ?_
      refine seq_T hI [] [] [⟨some 0, none, 21, pI (q.k : Int)⟩, ⟨some 1, none, 6, pI (q.k : Int)⟩] (.k .z) (.kkkk (.kkk .z)) rfl [0, 1] (by kernel_rfl) ?_ (.k .z) (.kkkk (.kkdd (.k .z))) fun a w hI => ?_
      · exact ⟨op_move (.tmp 5 rfl rfl) (.here 7 rfl), op_assign (.tmp 7 rfl rfl) (.here 8 rfl), trivial⟩
      have hoff : ∀ r : RowL, (∀ e, e ∈ q.H → e.b ≠ r.b) → g ≠ r.b := fun r h => h _ hB.top
      refine seq_ST hI [⟨26, 26, some 4, none, .obj, 0, 0, false, pApp q.H (.slice none 0 0) [] (List.replicate A.length 0), []⟩] [] [⟨some 0, none, 22, pEq (.slice (some ⟨g, 0, none⟩) A.length A.length)⟩, ⟨some 1, none, 23, pI (q.k : Int)⟩, ⟨some 2, none, 24, pRow 1 false A.length (fun i => pRats (A.getD i []))⟩, ⟨some 3, none, 25, pI (A.length : Int)⟩] (.u (some 4) [] .z) (.kkkk (.kkk .z)) rfl [0, 1, 3, 7, 15, 31, 63] 5 (by kernel_rfl) ?_ (.d (.k .z)) (.k8 (.kdd .z)) (fun a w hI => hI.openApp 0 rfl (by kernel_rfl)) (⟨_, exL fun l hC a w hI => sing hI [] [⟨some 0, none, 27, pEq (.pointer (some ⟨g, 0 + ((q.k : Int)).toNat * 1, none⟩))⟩] (.k .z) (.k8 (.kk .z)) (by kernel_rfl) (op_indexEq (.tmp 8 rfl rfl) (.tmp 9 rfl rfl) sl_Rows (by omega) (by omega) (by kernel_rfl) (.here 10 rfl)) (.k .z) (.k8 (.ddk .z)),
          _, exL fun l hC a w hI => sing hI [] [] (.u none [(0, pHp (hset (appH q.H l.b (rowIt (List.replicate A.length 0) l.cap)) g q.k (itV l.hdr)))] .z) (.k8 (.k .z)) (by kernel_rfl) (op_storeH (e := ⟨g, 1, false, tops0 q.R⟩) (idx := q.k) (it := itV l.hdr) 0 rfl rfl rfl (by kernel_rfl) 0 rfl (by kernel_rfl) (by kernel_rfl) rfl (.tmp 8 rfl rfl) (appH_other hB.top (hoff l (appOk_new hC).2)) rfl (by rw [tops0_len]; have := hB.len.1; omega) (show 0 + ((q.k : Int)).toNat * 1 = q.k * 1 by omega) ty_Ratios (.tmp 0 rfl rfl) (fits_slice _ _ _)) (.s .o .z) (.dkkk (.kkkk (.d .z))),
          rfl⟩) ?_
      · exact ⟨op_move (.tmp 3 rfl rfl) (.here 7 rfl), op_move (.tmp 6 rfl rfl) (.here 8 rfl), op_move (.tmp 0 rfl rfl) (.here 9 rfl), op_len (.tmp 9 rfl rfl) (sl_Rows).under (.here 10 rfl), op_makeSliceH (n := A.length) (zv := .agg #[.bool false, .slice none 0 0, .slice none 0 0]) (z := [.bool false, .slice none 0 0, .slice none 0 0]) 0 rfl rfl rfl rfl (by kernel_rfl) rfl 1 rfl rfl rfl rfl rfl (by kernel_rfl) (.tmp 10 rfl rfl) (.tmp 10 rfl rfl) (sl_Ratios).under (by kernel_rfl) rfl rfl (by simp [NoU]) (fun w => isRat_zero w) (by omega) (.none (by kernel_rfl)), trivial⟩
      · rintro a w ⟨l, hC, hI⟩
        have hC : AppOk q.H (.slice none 0 0) [] (List.replicate A.length 0) l := hC
        have hnew := appOk_new hC
        rw [List.length_replicate] at hnew
        have hB1 := hB.put (i := q.k) (l := List.replicate A.length 0) (r' := l) (by omega) (by rw [List.length_replicate]; omega) (appOk_new hC).1 hC.2.1 hC.2.2.1 (.inr hnew.2)
        have hq1 := hB.len.1
        have hra : rowAt (q.R.set q.k l) q.k = l := by rw [rowAt_set (by omega), if_pos rfl]
        have htop : (tops0 (q.R.set q.k l))[q.k]? = some (itV l.hdr) := by rw [tops0_get (by rw [List.length_set]; omega), hra, hdr0_hdr (by omega)]
        have hmem : (⟨l.b, 3, true, rowIt (List.replicate A.length 0) l.cap⟩ : Bk) ∈ hset (appH q.H l.b (rowIt (List.replicate A.length 0) l.cap)) g q.k (itV l.hdr) := hset_other appH_mem (Ne.symm (hoff l hnew.2))
        have hcap := hC.2.1
        have hcap2 := hC.2.2.1
        refine sem_D hI [] [] [⟨some 0, none, 28, pEq (.slice (some ⟨g, 0, none⟩) A.length A.length)⟩, ⟨some 1, none, 29, pI (q.k : Int)⟩, ⟨some 2, none, 30, pEq (.pointer (some ⟨g, 0 + ((q.k : Int)).toNat * 1, none⟩))⟩, ⟨some 3, none, 31, pEq (.slice (some ⟨l.b, 0, none⟩) l.n l.cap)⟩, ⟨some 4, none, 32, pI (q.k : Int)⟩, ⟨some 5, none, 33, pRat 1⟩, ⟨some 6, none, 34, pEq (.pointer (some ⟨l.b, 0 + ((q.k : Int)).toNat * 3, none⟩))⟩] (.u none [(7, pHp (hset (hset (appH q.H l.b (rowIt (List.replicate A.length 0) l.cap)) g q.k (itV l.hdr)) l.b q.k (itR 1)))] .z) (.kkkk (.kkk .z)) rfl [0, 0, 3, 7, 0, 0, 63, 127] (by kernel_rfl) ?_ (.s .o .z) (.kkkk (.kkdd (.dddd (.dd .z)))) fun a w hI => ?_
        · exact ⟨op_move (.tmp 3 rfl rfl) (.here 7 rfl), op_move (.tmp 6 rfl rfl) (.here 8 rfl), op_indexEq (.tmp 7 rfl rfl) (.tmp 8 rfl rfl) sl_Rows (by omega) (by omega) (by kernel_rfl) (.here 9 rfl), op_loadH (e := ⟨g, 1, false, tops0 (q.R.set q.k l)⟩) (idx := q.k) 0 rfl rfl rfl (by kernel_rfl) rfl (.tmp 9 rfl rfl) hB1.top rfl htop (show 0 + ((q.k : Int)).toNat * 1 = q.k * 1 by omega) ty_Ratios (.here 10 rfl), op_move (.tmp 6 rfl rfl) (.here 11 rfl), op_call1 (fun _ _ => by kernel_rfl) (numlike_rat _) (.const _) (.here 12 rfl) ((by have h := c_int 1 (by omega) (by omega); rw [show ((1 : Int) : Rat) = 1 from rfl] at h; exact h)), op_indexEq (.tmp 10 rfl rfl) (.tmp 11 rfl rfl) sl_Ratios (by omega) (by omega) (by kernel_rfl) (.here 13 rfl), op_storeH (e := ⟨l.b, 3, true, rowIt (List.replicate A.length 0) l.cap⟩) (idx := q.k) (it := itR 1) 0 rfl rfl rfl (by kernel_rfl) 0 rfl (by kernel_rfl) (by kernel_rfl) rfl (.tmp 13 rfl rfl) hmem rfl (rowIt_lt (by rw [List.length_replicate]; omega)) (show 0 + ((q.k : Int)).toNat * 3 = q.k * 3 by omega) ty_Ratio (.tmp 12 rfl rfl) (fits_rat _), trivial⟩
        refine block_of ?_
        refine then_of ?_
        refine sem_T hI [] [] [⟨some 0, none, 35, pI ((q.k : Int) + (1 : Int))⟩, ⟨some 1, none, 19, pI ((q.k : Int) + (1 : Int))⟩] (.k .z) (.kkkk (.k (.t 1 .z))) rfl [0, 1] (by kernel_rfl) ?_ (.k .z) (.kkkk (.kddk .z)) fun a w hI => ?_
        · exact ⟨op_bin (v := .int .i64 (IntKind.i64.wrap ((q.k : Int) + (1 : Int)))) (.tmp 5 rfl rfl) (.const _) (fun _ => rfl) (.at_ 6 _ _ rfl (pI_wrap (by omega))), op_move (.tmp 6 rfl rfl) (.here 7 rfl), trivial⟩
        refine then_of ?_
        replace hI := hI.reobj 16 16 (n0 := 0) rfl (by kernel_rfl) (by kernel_rfl)
        exact ⟨⟨q.k + 1, (q.R.set q.k l), hset (hset (appH q.H l.b (rowIt (List.replicate A.length 0) l.cap)) g q.k (itV l.hdr)) l.b q.k (itR 1)⟩, ⟨⟨by show q.k + 1 ≤ A.length; omega, by have h := hB1.setItem (i := q.k) (k := q.k) (q := 1) (by omega) (by rw [oneB_at (by omega), List.length_replicate]; omega); rw [hra, oneB_step (by omega)] at h; exact h⟩, (hI.conv ⟨⟨0, _, _, rfl, ⟨rfl, rfl, rfl⟩, rfl, fun _ => fun _ _ h => h⟩, trivial⟩ ⟨⟨rfl, rfl, 0, _, rfl, fun _ _ h => h⟩, ⟨rfl, rfl, 1, _, rfl, fun _ _ h => h⟩, ⟨rfl, rfl, 2, _, rfl, fun _ _ h => h⟩, ⟨rfl, rfl, 3, _, rfl, fun _ _ h => h⟩, ⟨rfl, rfl, 4, _, rfl, fun _ _ h => h⟩, ⟨rfl, rfl, 5, _, rfl, (pI_eq (by show ((q.k : Int) + 1) = ((q.k + 1 : Nat) : Int); omega))⟩, trivial⟩)⟩, (show A.length - (q.k + 1) < A.length - q.k by omega)⟩
    · have t2 := of_decide_eq_false ht
      refine wp_exit ?_
      refine then_exit ?_
      refine then_exit ?_
      refine block_exit ?_
      refine then_of ?_
      replace hI := hI.restObj (n0 := 0) (k := 3) (p := pRow 1 false A.length (fun i => pRats ((oneM A.length).getD i []))) rfl (by kernel_rfl) rfl (fun B w hH => by have h := hB.read (cap := A.length) (Nat.le_refl _) (by unfold maxLen; omega) (fun i hi => by rw [oneB_get hi, if_pos (by omega), oneR_len]; omega) B w hH; rw [show q.k = A.length by omega, oneB_end] at h; exact h)
      refine seq_T hI [] [] [⟨some 0, none, 37, pRow 1 false A.length (fun i => pRats (A.getD i []))⟩, ⟨some 1, none, 38, pRow 1 false A.length (fun i => pRats ((oneM A.length).getD i []))⟩, ⟨some 2, none, 39, pTup2 (pEq (.slice none 0 0)) (pB false)⟩, ⟨some 3, none, 36, pTup2 (pEq (.slice none 0 0)) (pB false)⟩, ⟨some 4, none, 40, pEq (.slice none 0 0)⟩, ⟨some 5, none, 41, pB false⟩, ⟨some 6, none, 7, pEq (.slice none 0 0)⟩, ⟨some 7, none, 8, pB false⟩] .z (.kkkk (.kkk .z)) rfl [0, 1, 3, 7, 15, 31, 63, 127] (by kernel_rfl) ?_ .z (.ddkk (.d8 (.dkk .z))) fun a w hI => ?_
      · exact ⟨op_move (.tmp 1 rfl rfl) (.here 7 rfl), op_move (.tmp 0 rfl rfl) (.here 8 rfl), op_callB2 (fun _ _ => by kernel_rfl) (.tmp 7 rfl rfl) (.tmp 8 rfl rfl) (.here 9 rfl) (c_solved_no h0 (m := A.length) (j := j) (by omega) (by omega) hA oneM_len (fun i hi => oneM_rect hi) hAb (oneM_bd h1) h1 hj hs), op_move (.tmp 9 rfl rfl) (.here 10 rfl), op_extract (.tmp 10 rfl rfl) ex2_0 (.here 11 rfl), op_extract (.tmp 10 rfl rfl) ex2_1 (.here 12 rfl), op_assign (.tmp 11 rfl rfl) (.here 13 rfl), op_assign (.tmp 12 rfl rfl) (.here 14 rfl), trivial⟩
      refine wp_seq ?_
      refine seq_T hI [] [] [⟨some 0, none, 42, pB false⟩, ⟨some 1, none, 43, pB true⟩] .z (.kkkk .z) rfl [0, 1] (by kernel_rfl) ?_ .z (.kkkd (.dk .z)) fun a w hI => ?_
      · exact ⟨op_move (.tmp 3 rfl rfl) (.here 4 rfl), op_not (.tmp 4 rfl rfl) (.here 5 rfl), trivial⟩
      refine cond_yes hI 3 rfl ?_
      refine seq_T hI [] [] [⟨some 0, none, 2, pEq ((Value.slice none 0 0))⟩, ⟨some 1, none, 3, pI 6⟩] .z (.t 0 (.t 1 (.kk .z))) rfl [0, 1] (by kernel_rfl) ?_ .z (.ddkd (.kk .z)) fun a w hI => ?_
      · exact ⟨op_assign (.const _) (.here 4 rfl), op_assign (.const _) (.here 5 rfl), trivial⟩
      refine wp_ret ?_
      refine then_ret ?_
      exact fin2 hI rfl (.tmp 1 rfl) (.tmp 2 rfl)
end Wx
