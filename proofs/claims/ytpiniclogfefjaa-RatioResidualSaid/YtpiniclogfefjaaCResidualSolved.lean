import Derived.Handy
import Derived.KernelRfl
import Derived.Test.YtpiniclogfefjaaProg
import Derived.Test.YtpiniclogfefjaaJResidual0
import Derived.Test.YtpiniclogfefjaaCResidualMem
import Derived.Test.YtpiniclogfefjaaJResidual6
import Derived.Test.YtpiniclogfefjaaCResidualRat1
import Derived.Test.YtpiniclogfefjaaJResidual14
import Derived.Test.YtpiniclogfefjaaJResidual16
import Derived.Test.YtpiniclogfefjaaJResidual19
import Derived.Test.YtpiniclogfefjaaCResidualInv
import Derived.Test.YtpiniclogfefjaaCResidualSem
import Derived.Test.YtpiniclogfefjaaCResidualSemOps
import Derived.Test.YtpiniclogfefjaaCResidualSemMem
import Derived.Test.YtpiniclogfefjaaJResidual24
import Derived.Test.YtpiniclogfefjaaCResidualSemTab
import Derived.Test.YtpiniclogfefjaaJResidual30
import Derived.Test.YtpiniclogfefjaaCResidualSemRow
import Derived.Test.YtpiniclogfefjaaJResidual26
import Derived.Test.YtpiniclogfefjaaCResidualSemAppend
import Derived.Test.YtpiniclogfefjaaCResidualSemObj
import Derived.Test.YtpiniclogfefjaaJResidual29
import Derived.Test.YtpiniclogfefjaaCResidualSemCopy
import Derived.Test.YtpiniclogfefjaaCResidualSemApp
import Derived.Test.YtpiniclogfefjaaJResidual34
import Derived.Test.YtpiniclogfefjaaJResidual35
import Derived.Test.YtpiniclogfefjaaCResidualMatrix
import Derived.Test.YtpiniclogfefjaaJResidual37
import Derived.Test.YtpiniclogfefjaaCResidualTurned
namespace Wx
set_option maxRecDepth 100000
open Go Go.RowKit Go.Proofs
set_option linter.unusedVariables false

theorem c_solved {A B : List (List Rat)} {m j : Nat} (h0 : 0 < A.length) (hn : A.length ≤ 100000) (hm : 0 < m ∧ m ≤ 100000) (hA : Rect A.length A) (hBl : B.length = A.length) (hBr : ∀ i, i < A.length → (B.getD i []).length = m) (hAb : BdX j A) (hBb : BdX j B) (h1 : 1 ≤ j) (hj : gjJ j A.length ≤ 100000000) : ∀ (M : Nat → Nat → Prop) (w : World) (v0 v1 : Value), Mid M w → Box M (fun w => (pRow 1 false A.length (fun i => pRats (A.getD i []))) w v0) w → Box M (fun w => (pRow 1 false A.length (fun i => pRats (B.getD i []))) w v1) w → Calls Try.prog 49 #[v0, v1] w (RetB M (pSol (gjSing (augX A B) A.length) A.length fun i => (solX A B).getD i []) w) := by
  intro M w0 v0 v1 hM hv0 hv1
  have hA0 : ∀ i, i < A.length → 0 < (A.getD i []).length := fun i hi => by rw [hA i hi]; exact h0
  have hAm : ∀ i, i < A.length → (A.getD i []).length ≤ 1000000 := fun i hi => by rw [hA i hi]; omega
  have hB0 : ∀ i, i < A.length → 0 < (B.getD i []).length ∧ (B.getD i []).length ≤ 100000 := fun i hi => by rw [hBr i hi]; exact hm
  refine calls_startR (N := 123) Try.func49 rfl rfl rfl hM (show EntsA M w0 [v0, v1] [⟨none, none, 0, pRow 1 false A.length (fun i => pRats (A.getD i []))⟩, ⟨none, none, 1, pRow 1 false A.length (fun i => pRats (B.getD i []))⟩] from ⟨⟨rfl, _, rfl, hv0⟩, ⟨rfl, _, rfl, hv1⟩, trivial⟩) fun a hI => ?_
  refine seq_T hI [] [] [⟨some 0, none, 4, pEq ((Value.slice none 0 0))⟩, ⟨some 1, none, 5, pB false⟩] .z (.kk .z) rfl [0, 1] (by kernel_rfl) ?_ .z (.kkkk .z) fun a w hI => ?_
  · exact ⟨op_assign (.const _) (.here 2 rfl), op_assign (.const _) (.here 3 rfl), trivial⟩
  refine seq_ST hI [] [] [⟨some 0, none, 15, pRow 1 false A.length (fun i => pRats (A.getD i []))⟩] .z (.kkkk .z) rfl [0, 1, 3] 1 (by kernel_rfl) ?_ .z (.kkkk (.k .z)) (fun a w hI => hI) (⟨_, fun a w hI => step_callO1 16 (fun _ _ => by kernel_rfl) hI (.tmp 4 rfl rfl) (fun M w v hM hv => r_copied h0 (by omega) hA0 hAm M w v hM hv) (by kernel_rfl) (by kernel_rfl) (by kernel_rfl),
      _, exL fun l hC a w hI => sing hI [] [⟨some 0, none, 6, pEq (.slice (some ⟨l.g, 0, none⟩) A.length l.cap)⟩] (.k .z) (.kkkk (.kk .z)) (by kernel_rfl) (op_assign (.tmp 0 rfl rfl) (.here 6 rfl)) (.k .z) (.dkkk (.kdk .z)),
      rfl⟩) ?_
  · exact ⟨op_move (.tmp 0 rfl rfl) (.here 4 rfl), trivial⟩
  · rintro a w ⟨m0, hC, hI⟩
    have hC : MatOk m0.g m0.cap m0.R A m0.H := hC
    refine wp_seq ?_
    have hcp : A.length ≤ m0.cap ∧ m0.cap ≤ maxLen := by have h := hC.size; rw [hC.len] at h; exact h
    refine seq_T hI [] [] [⟨some 0, none, 17, pEq (.slice (some ⟨m0.g, 0, none⟩) A.length m0.cap)⟩, ⟨some 1, none, 18, pI (A.length : Int)⟩, ⟨some 2, none, 19, pI 0⟩] (.k .z) (.kkkk (.k .z)) rfl [0, 1, 3] (by kernel_rfl) ?_ (.k .z) (.kkkk (.kdkk .z)) fun a w hI => ?_
    · exact ⟨op_move (.tmp 4 rfl rfl) (.here 5 rfl), op_lenEq (.tmp 5 rfl rfl) (sl_Rows).under (.here 6 rfl), op_move (.const _) (.here 7 rfl), trivial⟩
    refine wp_block ?_
    refine wp_loop_ix (fun (q : BI) a w => (q.k ≤ A.length ∧ BldOk m0.g A.length q.R (joinX A B A.length q.k) q.H) ∧ Inv ⟨123, w0, M, fun _ => False⟩ [⟨16, 16, none, none, .obj, 0, 0, false, pHp q.H, []⟩] [] [⟨none, none, 0, pRow 1 false A.length (fun i => pRats (A.getD i []))⟩, ⟨none, none, 1, pRow 1 false A.length (fun i => pRats (B.getD i []))⟩, ⟨none, none, 4, pEq ((Value.slice none 0 0))⟩, ⟨none, none, 5, pB false⟩, ⟨none, none, 6, pEq (.slice (some ⟨m0.g, 0, none⟩) A.length m0.cap)⟩, ⟨none, none, 18, pI (A.length : Int)⟩, ⟨none, none, 19, pI (q.k : Int)⟩] none_ a w) (fun (q : BI) => A.length - q.k) (⟨0, m0.R, m0.H⟩) ⟨⟨Nat.zero_le _, by have h := hC.bld hA0; show BldOk m0.g A.length m0.R (joinX A B A.length 0) m0.H; rw [joinX_zero]; exact h⟩, (hI.conv ⟨⟨0, _, _, rfl, ⟨rfl, rfl, rfl⟩, rfl, fun _ => (fun _ _ h => h)⟩, trivial⟩ ⟨⟨rfl, rfl, 0, _, rfl, fun _ _ h => h⟩, ⟨rfl, rfl, 1, _, rfl, fun _ _ h => h⟩, ⟨rfl, rfl, 2, _, rfl, fun _ _ h => h⟩, ⟨rfl, rfl, 3, _, rfl, fun _ _ h => h⟩, ⟨rfl, rfl, 4, _, rfl, fun _ _ h => h⟩, ⟨rfl, rfl, 5, _, rfl, fun _ _ h => h⟩, ⟨rfl, rfl, 6, _, rfl, (pI_eq rfl)⟩, trivial⟩)⟩ ?_
    intro q a w hIk
    obtain ⟨⟨hk, hB⟩, hI⟩ := hIk
    refine seq_T hI [] [] [⟨some 0, none, 20, pB (decide ((q.k : Int) < (A.length : Int)))⟩] (.k .z) (.kkkk (.kkk .z)) rfl [0] (by kernel_rfl) ?_ (.k .z) (.k8 .z) fun a w hI => ?_
    · exact ⟨op_bin (v := .bool (decide ((q.k : Int) < (A.length : Int)))) (.tmp 6 rfl rfl) (.tmp 5 rfl rfl) (fun _ => rfl) (.here 7 rfl), trivial⟩
    refine wp_seq ?_
    refine cond_if hI 7 rfl (fun ht => ?_) (fun ht => ?_)
    · have t1 := of_decide_eq_true ht
      refine wp_skip ?_
      refine then_of ?_
      refine wp_seq ?_
      refine wp_block ?_
      refine seq_T hI [] [] [⟨some 0, none, 21, pI (q.k : Int)⟩, ⟨some 1, none, 7, pI (q.k : Int)⟩] (.k .z) (.k8 .z) rfl [0, 1] (by kernel_rfl) ?_ (.k .z) (.kkkk (.kkkd (.dk .z))) fun a w hI => ?_
      · exact ⟨op_move (.tmp 6 rfl rfl) (.here 8 rfl), op_assign (.tmp 8 rfl rfl) (.here 9 rfl), trivial⟩
      have hjl : (joinX A B A.length q.k).getD q.k [] = A.getD q.k [] := by rw [joinX_get (by omega), if_neg (Nat.lt_irrefl _)]
      have hjl2 : ((joinX A B A.length q.k).getD q.k []).length ≤ 1000000 := by rw [hjl]; exact hAm _ (by omega)
      have hbl := hB0 q.k (by omega)
      refine sem_SD hI [⟨32, 32, some 10, none, .obj, 0, 0, false, pApp q.H (hdr0 (rowAt q.R q.k)) ((joinX A B A.length q.k).getD q.k []) (B.getD q.k []), []⟩] [] [⟨some 0, none, 22, pEq (.slice (some ⟨m0.g, 0, none⟩) A.length m0.cap)⟩, ⟨some 1, none, 23, pI (q.k : Int)⟩, ⟨some 2, none, 24, pEq (.slice (some ⟨m0.g, 0, none⟩) A.length m0.cap)⟩, ⟨some 3, none, 25, pI (q.k : Int)⟩, ⟨some 4, none, 26, pEq (.pointer (some ⟨m0.g, 0 + ((q.k : Int)).toNat * 1, none⟩))⟩, ⟨some 5, none, 27, pEq (hdr0 (rowAt q.R q.k))⟩, ⟨some 6, none, 28, pRow 1 false A.length (fun i => pRats (B.getD i []))⟩, ⟨some 7, none, 29, pI (q.k : Int)⟩, ⟨some 8, none, 30, pPtr 1 false (pRats (B.getD q.k []))⟩, ⟨some 9, none, 31, pRats (B.getD q.k [])⟩] (.u (some 10) [] .z) (.k8 .z) rfl [0, 0, 0, 0, 12, 28, 0, 0, 192, 448, 1020, 2047, 4095] 11 (by kernel_rfl) ?_ (.d (.k .z)) (.kkkk (.kkkd (.kkdd (.dddd (.dd .z))))) (fun a w hI => hI.openApp 0 rfl (by kernel_rfl)) (⟨_, exL fun l hC a w hI => sing hI [] [⟨some 0, none, 33, pEq (.pointer (some ⟨m0.g, 0 + ((q.k : Int)).toNat * 1, none⟩))⟩] (.k .z) (.k8 (.kk .z)) (by kernel_rfl) (op_indexEq (.tmp 8 rfl rfl) (.tmp 9 rfl rfl) sl_Rows (by omega) (by omega) (by kernel_rfl) (.here 10 rfl)) (.k .z) (.k8 (.ddk .z)),
          _, exL fun l hC a w hI => sing hI [] [] (.u none [(0, pHp (hset (appH q.H l.b (rowIt ((joinX A B A.length q.k).getD q.k [] ++ B.getD q.k []) l.cap)) m0.g q.k (itV l.hdr)))] .z) (.k8 (.k .z)) (by kernel_rfl) (op_storeH (e := ⟨m0.g, 1, false, tops0 q.R⟩) (idx := q.k) (it := itV l.hdr) 0 rfl rfl rfl (by kernel_rfl) 0 rfl (by kernel_rfl) (by kernel_rfl) rfl (.tmp 8 rfl rfl) (appH_other hB.top (hB.off (by omega) hC.2.2.2)) rfl (by rw [tops0_len]; have := hB.len.1; omega) (show 0 + ((q.k : Int)).toNat * 1 = (q.k) * 1 by omega) ty_Ratios (.tmp 0 rfl rfl) (fits_slice _ _ _)) (.s .o .z) (.dkkk (.kkkk (.d .z))),
          rfl⟩) ?_
      · exact ⟨op_move (.tmp 4 rfl rfl) (.here 8 rfl), op_move (.tmp 7 rfl rfl) (.here 9 rfl), op_move (.tmp 4 rfl rfl) (.here 10 rfl), op_move (.tmp 7 rfl rfl) (.here 11 rfl), op_indexEq (.tmp 10 rfl rfl) (.tmp 11 rfl rfl) sl_Rows (by omega) (by omega) (by kernel_rfl) (.here 12 rfl), op_loadH (e := ⟨m0.g, 1, false, tops0 q.R⟩) (idx := q.k) 0 rfl rfl rfl (by kernel_rfl) rfl (.tmp 12 rfl rfl) hB.top rfl (tops0_get (by have := hB.len.1; omega)) (show 0 + ((q.k : Int)).toNat * 1 = (q.k) * 1 by omega) ty_Ratios (.here 13 rfl), op_move (.tmp 1 rfl rfl) (.here 14 rfl), op_move (.tmp 7 rfl rfl) (.here 15 rfl), op_indexRow (.tmp 14 rfl rfl) (.tmp 15 rfl rfl) sl_Rows (by omega) (by omega) (by kernel_rfl) (.at_ 16 _ _ rfl (by rw [Int.toNat_natCast]; exact fun _ _ h => h)), op_loadP (.tmp 16 rfl rfl) ty_Ratios ((fits_rats _)) (.here 17 rfl), op_appendH 0 rfl rfl rfl rfl (by kernel_rfl) rfl 1 rfl rfl rfl rfl rfl (by kernel_rfl) (.tmp 13 rfl rfl) (.tmp 17 rfl rfl) (hB.case (by omega)) app_Ratios (by omega) (by omega) (.none (by kernel_rfl)), trivial⟩
      · rintro a w ⟨l, hC, hI⟩
        have hC : AppOk q.H (hdr0 (rowAt q.R q.k)) ((joinX A B A.length q.k).getD q.k []) (B.getD q.k []) l := hC
        refine block_of ?_
        refine then_of ?_
        refine sem_T hI [] [] [⟨some 0, none, 34, pI ((q.k : Int) + (1 : Int))⟩, ⟨some 1, none, 19, pI ((q.k : Int) + (1 : Int))⟩] (.k .z) (.kkkk (.kk (.t 1 .z))) rfl [0, 1] (by kernel_rfl) ?_ (.k .z) (.kkkk (.kkdd (.k .z))) fun a w hI => ?_
        · exact ⟨op_bin (v := .int .i64 (IntKind.i64.wrap ((q.k : Int) + (1 : Int)))) (.tmp 6 rfl rfl) (.const _) (fun _ => rfl) (.at_ 7 _ _ rfl (pI_wrap (by omega))), op_move (.tmp 7 rfl rfl) (.here 8 rfl), trivial⟩
        refine then_of ?_
        replace hI := hI.reobj 16 16 (n0 := 0) rfl (by kernel_rfl) (by kernel_rfl)
        exact ⟨⟨q.k + 1, q.R.set q.k l, hset (appH q.H l.b (rowIt ((joinX A B A.length q.k).getD q.k [] ++ B.getD q.k []) l.cap)) m0.g q.k (itV l.hdr)⟩, ⟨⟨by show q.k + 1 ≤ A.length; omega, by have h := hB.append (l' := B.getD q.k []) (by omega) (by omega) hC; rw [joinX_step (by omega)] at h; exact h⟩, (hI.conv ⟨⟨0, _, _, rfl, ⟨rfl, rfl, rfl⟩, rfl, fun _ => fun _ _ h => h⟩, trivial⟩ ⟨⟨rfl, rfl, 0, _, rfl, fun _ _ h => h⟩, ⟨rfl, rfl, 1, _, rfl, fun _ _ h => h⟩, ⟨rfl, rfl, 2, _, rfl, fun _ _ h => h⟩, ⟨rfl, rfl, 3, _, rfl, fun _ _ h => h⟩, ⟨rfl, rfl, 4, _, rfl, fun _ _ h => h⟩, ⟨rfl, rfl, 5, _, rfl, fun _ _ h => h⟩, ⟨rfl, rfl, 6, _, rfl, (pI_eq (by show ((q.k : Int) + 1) = ((q.k + 1 : Nat) : Int); omega))⟩, trivial⟩)⟩, (show A.length - (q.k + 1) < A.length - q.k by omega)⟩
    · have t2 := of_decide_eq_false ht
      refine wp_exit ?_
      refine then_exit ?_
      refine then_exit ?_
      refine block_exit ?_
      refine then_of ?_
      refine wp_seq ?_
      have hq : q.k = A.length := by omega
      have hM0 : MatOk m0.g m0.cap q.R (augX A B) q.H := by have h := hB.mat (cap := m0.cap) hcp.1 hcp.2 (fun i hi => by rw [joinX_get hi]; have := hA0 i hi; split; rw [List.length_append]; omega; exact this); rw [hq] at h; exact h
      have hXr0 : Rect (A.length + m) (augX A B) := augX_rect hA hBr
      have hXb0 : BdX j (augX A B) := augX_bd hAb hBb h1
      refine seq_T hI [] [] [⟨some 0, none, 35, pEq (.slice (some ⟨m0.g, 0, none⟩) A.length m0.cap)⟩, ⟨some 1, none, 36, pI (A.length : Int)⟩, ⟨some 2, none, 37, pI 0⟩] (.k .z) (.k8 .z) rfl [0, 1, 3] (by kernel_rfl) ?_ (.k .z) (.kdkk (.kddd (.dkk .z))) fun a w hI => ?_
      · exact ⟨op_move (.tmp 4 rfl rfl) (.here 8 rfl), op_lenEq (.tmp 8 rfl rfl) (sl_Rows).under (.here 9 rfl), op_move (.const _) (.here 10 rfl), trivial⟩
      refine wp_block ?_
      refine wp_loop_ix (fun (q1 : BI) a w => (q1.k ≤ A.length ∧ MatOk m0.g m0.cap q1.R (gjX (augX A B) q1.k) q1.H ∧ ∀ c, c < q1.k → 0 ≤ pivI (gjX (augX A B) c) c) ∧ Inv ⟨123, w0, M, fun _ => False⟩ [⟨16, 16, none, none, .obj, 0, 0, false, pHp q1.H, []⟩] [] [⟨none, none, 0, pRow 1 false A.length (fun i => pRats (A.getD i []))⟩, ⟨none, none, 6, pEq (.slice (some ⟨m0.g, 0, none⟩) A.length m0.cap)⟩, ⟨none, none, 36, pI (A.length : Int)⟩, ⟨none, none, 37, pI (q1.k : Int)⟩] none_ a w) (fun (q1 : BI) => A.length - q1.k) (⟨0, q.R, q.H⟩) ⟨⟨Nat.zero_le _, hM0, fun c hc => absurd hc (Nat.not_lt_zero _)⟩, (hI.conv ⟨⟨0, _, _, rfl, ⟨rfl, rfl, rfl⟩, rfl, fun _ => (fun _ _ h => h)⟩, trivial⟩ ⟨⟨rfl, rfl, 0, _, rfl, fun _ _ h => h⟩, ⟨rfl, rfl, 3, _, rfl, fun _ _ h => h⟩, ⟨rfl, rfl, 4, _, rfl, fun _ _ h => h⟩, ⟨rfl, rfl, 5, _, rfl, (pI_eq rfl)⟩, trivial⟩)⟩ ?_
      intro q1 a w hIk
      obtain ⟨⟨hk1, hM, hns⟩, hI⟩ := hIk
      refine seq_T hI [] [] [⟨some 0, none, 38, pB (decide ((q1.k : Int) < (A.length : Int)))⟩] (.k .z) (.kkkk .z) rfl [0] (by kernel_rfl) ?_ (.k .z) (.kkkk (.k .z)) fun a w hI => ?_
      · exact ⟨op_bin (v := .bool (decide ((q1.k : Int) < (A.length : Int)))) (.tmp 3 rfl rfl) (.tmp 2 rfl rfl) (fun _ => rfl) (.here 4 rfl), trivial⟩
      refine wp_seq ?_
      refine cond_if hI 4 rfl (fun ht => ?_) (fun ht => ?_)
      · have t3 := of_decide_eq_true ht
        refine wp_skip ?_
        refine then_of ?_
        refine wp_seq ?_
        refine wp_block ?_
        refine seq_T hI [] [] [⟨some 0, none, 39, pI (q1.k : Int)⟩, ⟨some 1, none, 8, pI (q1.k : Int)⟩] (.k .z) (.kkkk (.k .z)) rfl [0, 1] (by kernel_rfl) ?_ (.k .z) (.kkkk (.ddk .z)) fun a w hI => ?_
        · exact ⟨op_move (.tmp 3 rfl rfl) (.here 5 rfl), op_assign (.tmp 5 rfl rfl) (.here 6 rfl), trivial⟩
        refine wp_seq ?_
        obtain ⟨X, eX⟩ : ∃ X, X = gjX (augX A B) q1.k := ⟨_, rfl⟩
        have hM1 := hM
        rw [← eX] at hM1
        have hXl : X.length = A.length := by rw [eX, gjX_len, augX_len]
        have hXr : Rect (A.length + m) X := by rw [eX]; exact hXr0.gj _ (by rw [augX_len]; omega)
        have hXb : BdX (gjJ j q1.k) X := by rw [eX]; exact hXb0.gj h1 _ (by rw [augX_len]; omega)
        have hcol : ∀ i, i < X.length → q1.k < (X.getD i []).length := fun i hi => by rw [hXr i hi]; omega
        have hun := hI.uniq 0 rfl
        have hjj : 8 * gjJ j q1.k + 1 ≤ 100000000 := Nat.le_trans (gjJ_mono (j := j) (show q1.k + 1 ≤ A.length by omega)) hj
        refine seq_ST hI [] [] [⟨some 0, none, 41, pEq (.slice (some ⟨m0.g, 0, none⟩) A.length m0.cap)⟩, ⟨some 1, none, 42, pI (q1.k : Int)⟩] (.k .z) (.kkkk (.k .z)) rfl [0, 1, 3, 7, 15, 31, 63, 127] 2 (by kernel_rfl) ?_ (.k .z) (.kkkk (.kkk .z)) (fun a w hI => hI) (⟨_, fun a w hI => step_callL2 (fun _ _ => by kernel_rfl) hI (n0 := 0) rfl (numlike_tup2 (numlike_eq _) (numlike_eq _)) (.tmp 5 rfl rfl) (.tmp 6 rfl rfl) (fun M B w v1 v2 hM hBM hH h1 h2 => r_pivot hM1 (by omega) (by omega) hcol (fun i hi => bd_mem (hXb i)) M B w v1 v2 hM hBM hH (by rw [hXl]; exact h1) h2) (by kernel_rfl) (by kernel_rfl) (by kernel_rfl) (by kernel_rfl),
            _, fun a w hI => sing hI [] [⟨some 0, none, 40, pTup2 (pB (decide (0 ≤ pivI X q1.k))) (pB (decide (pivI X q1.k > 0)))⟩] (.k .z) (.k8 .z) (by kernel_rfl) (op_move (.tmp 0 rfl rfl) (.here 8 rfl)) (.k .z) (.dkkk (.kkdd (.k .z))),
            _, fun a w hI => sing hI [] [⟨some 0, none, 44, pB (decide (0 ≤ pivI X q1.k))⟩] (.k .z) (.kkkk (.kk .z)) (by kernel_rfl) (op_extract (.tmp 5 rfl rfl) ex2_0 (.here 6 rfl)) (.k .z) (.kkkk (.kkk .z)),
            _, fun a w hI => sing hI [] [⟨some 0, none, 45, pB (decide (pivI X q1.k > 0))⟩] (.k .z) (.kkkk (.kkk .z)) (by kernel_rfl) (op_extract (.tmp 5 rfl rfl) ex2_1 (.here 7 rfl)) (.k .z) (.kkkk (.kdkk .z)),
            _, fun a w hI => sing hI [] [⟨some 0, none, 9, pB (decide (0 ≤ pivI X q1.k))⟩] (.k .z) (.kkkk (.kkk .z)) (by kernel_rfl) (op_assign (.tmp 5 rfl rfl) (.here 7 rfl)) (.k .z) (.kkkk (.kdkk .z)),
            _, fun a w hI => sing hI [] [⟨some 0, none, 10, pB (decide (pivI X q1.k > 0))⟩] (.k .z) (.kkkk (.kkk .z)) (by kernel_rfl) (op_assign (.tmp 5 rfl rfl) (.here 7 rfl)) (.k .z) (.kkkk (.kdkd .z)),
            rfl⟩) ?_
        · exact ⟨op_move (.tmp 1 rfl rfl) (.here 5 rfl), op_move (.tmp 4 rfl rfl) (.here 6 rfl), trivial⟩
        · intro a w hI
          refine seq_T hI [] [] [⟨some 0, none, 46, pB (decide (0 ≤ pivI X q1.k))⟩, ⟨some 1, none, 47, pB (!(decide (0 ≤ pivI X q1.k)))⟩] (.k .z) (.kkkk (.kk .z)) rfl [0, 1] (by kernel_rfl) ?_ (.k .z) (.kkkk (.kddk .z)) fun a w hI => ?_
          · exact ⟨op_move (.tmp 5 rfl rfl) (.here 6 rfl), op_not (.tmp 6 rfl rfl) (.here 7 rfl), trivial⟩
          refine cond_if hI 5 rfl (fun ht => ?_) (fun ht => ?_)
          · have t4 := ht
            refine seq_T hI [] [] [⟨some 0, none, 4, pEq ((Value.slice none 0 0))⟩, ⟨some 1, none, 5, pB false⟩] (.k .z) (.kkkk (.kk .z)) rfl [0, 1] (by kernel_rfl) ?_ (.k .z) (.kkkk (.kdkk .z)) fun a w hI => ?_
            · exact ⟨op_assign (.const _) (.here 6 rfl), op_assign (.const _) (.here 7 rfl), trivial⟩
            refine wp_ret ?_
            refine then_ret ?_
            refine block_ret ?_
            refine then_ret ?_
            refine then_ret ?_
            refine block_ret ?_
            refine then_ret ?_
            exact post_mono (fin2 hI rfl (.tmp 5 rfl) (.tmp 6 rfl)) fun e w' h => retB_mono h fun w v h => ⟨fun hs => absurd (show gjSing (augX A B) A.length from ⟨q1.k, by omega, by rw [← eX]; have := t4; simp at this; omega⟩) hs, fun _ => h⟩
          · have t5 := ht
            refine wp_skip ?_
            refine then_of ?_
            have hp0 : 0 ≤ pivI X q1.k := by simpa using t5
            obtain ⟨R1, eR1⟩ : ∃ R1, R1 = pivL X q1.R q1.k := ⟨_, rfl⟩
            obtain ⟨X1, eX1⟩ : ∃ X1, X1 = pivL X X q1.k := ⟨_, rfl⟩
            obtain ⟨H1, eH1⟩ : ∃ H1, H1 = hup q1.H m0.g (tops (pivL X q1.R q1.k)) := ⟨_, rfl⟩
            have hMp : MatOk m0.g m0.cap R1 X1 H1 := by rw [eR1, eX1, eH1]; exact hM1.pivot (by omega) fun e he hb => hun e _ he hM1.top hb
            have hpne : (X1.getD q1.k []).getD q1.k 0 ≠ 0 := by rw [eX1]; exact piv_ne (by omega) hp0
            have hX1b : BdX (gjJ j q1.k) X1 := by rw [eX1]; exact hXb.piv (by omega) (gjJ_pos h1 _)
            have hX1l : X1.length = A.length := by rw [eX1, pivL_len]; exact hXl
            have hX1r : Rect (A.length + m) X1 := by rw [eX1]; exact hXr.piv (by omega)
            rw [← eH1] at hI
            obtain ⟨rc, hrc⟩ := hMp.get (i := q1.k) (by omega)
            have hfc := hMp.fit _ _ hrc
            have hrl := hX1r q1.k (by omega)
            have hoff := hMp.off rc (List.mem_of_getElem? hrc)
            have hun1 := hI.uniq 0 rfl
            refine seq_T hI [⟨11, 11, some 7, none, .ptr, 32, 3, true, pv (pRat 0), [(8, pv (pRat ((X1.getD q1.k []).getD q1.k 0)))]⟩] [] [⟨some 0, none, 48, pEq (.slice (some ⟨m0.g, 0, none⟩) A.length m0.cap)⟩, ⟨some 1, none, 49, pI (q1.k : Int)⟩, ⟨some 2, none, 50, pEq (.pointer (some ⟨m0.g, 0 + ((q1.k : Int)).toNat * 1, none⟩))⟩, ⟨some 3, none, 51, pEq (.slice (some ⟨rc.b, 0, none⟩) rc.n rc.cap)⟩, ⟨some 4, none, 52, pI (q1.k : Int)⟩, ⟨some 5, none, 53, pEq (.pointer (some ⟨rc.b, 0 + ((q1.k : Int)).toNat * 3, none⟩))⟩, ⟨some 6, none, 54, pRat ((X1.getD q1.k []).getD q1.k 0)⟩] (.k .z) (.kkkk (.kk .z)) rfl [0, 1, 3, 7, 15, 31, 63, 127, 255] (by kernel_rfl) ?_ (.k (.s .o .z)) (.kkkk (.kddd (.dddd (.d .z)))) fun a w hI => ?_
            · exact ⟨op_move (.tmp 1 rfl rfl) (.here 6 rfl), op_move (.tmp 4 rfl rfl) (.here 7 rfl), op_indexEq (.tmp 6 rfl rfl) (.tmp 7 rfl rfl) sl_Rows (by omega) (by omega) (by kernel_rfl) (.here 8 rfl), op_loadH (e := ⟨m0.g, 1, false, tops R1⟩) (idx := q1.k) 0 rfl rfl rfl (by kernel_rfl) rfl (.tmp 8 rfl rfl) hMp.top rfl (tops_get hrc) (show 0 + ((q1.k : Int)).toNat * 1 = (q1.k) * 1 by omega) ty_Ratios (.here 9 rfl), op_move (.tmp 4 rfl rfl) (.here 10 rfl), op_indexEq (.tmp 9 rfl rfl) (.tmp 10 rfl rfl) sl_Ratios (by omega) (by omega) (by kernel_rfl) (.here 11 rfl), op_loadH (e := ⟨rc.b, 3, true, rowIt (X1.getD q1.k []) rc.cap⟩) (idx := q1.k) 0 rfl rfl rfl (by kernel_rfl) rfl (.tmp 11 rfl rfl) (hMp.rows _ _ hrc) rfl (rowIt_get (by omega)) (show 0 + ((q1.k : Int)).toNat * 3 = (q1.k) * 3 by omega) ty_Ratio (.here 12 rfl), op_alloc 1 rfl rfl (by kernel_rfl) (by kernel_rfl) rfl rfl rfl zv_Ratio rfl rfl (by simp [NoU]) rfl (fun w => isRat_zero w), op_store 1 rfl rfl rfl rfl 0 rfl (by kernel_rfl) (by kernel_rfl) ty_Ratio (.tmp 12 rfl rfl) (fits_rat _), trivial⟩
            refine wp_seq ?_
            refine seq_T hI [] [] [⟨some 0, none, 55, pEq (.slice (some ⟨m0.g, 0, none⟩) A.length m0.cap)⟩, ⟨some 1, none, 56, pI (q1.k : Int)⟩, ⟨some 2, none, 57, pEq (.pointer (some ⟨m0.g, 0 + ((q1.k : Int)).toNat * 1, none⟩))⟩, ⟨some 3, none, 58, pEq (.slice (some ⟨rc.b, 0, none⟩) rc.n rc.cap)⟩, ⟨some 4, none, 59, pI (rc.n : Int)⟩, ⟨some 5, none, 60, pI 0⟩] (.k (.k .z)) (.kkkk (.k .z)) rfl [0, 1, 3, 7, 15, 31] (by kernel_rfl) ?_ (.k (.k .z)) (.kkkk (.kddd (.dkk .z))) fun a w hI => ?_
            · exact ⟨op_move (.tmp 1 rfl rfl) (.here 5 rfl), op_move (.tmp 4 rfl rfl) (.here 6 rfl), op_indexEq (.tmp 5 rfl rfl) (.tmp 6 rfl rfl) sl_Rows (by omega) (by omega) (by kernel_rfl) (.here 7 rfl), op_loadH (e := ⟨m0.g, 1, false, tops R1⟩) (idx := q1.k) 0 rfl rfl rfl (by kernel_rfl) rfl (.tmp 7 rfl rfl) hMp.top rfl (tops_get hrc) (show 0 + ((q1.k : Int)).toNat * 1 = (q1.k) * 1 by omega) ty_Ratios (.here 8 rfl), op_lenEq (.tmp 8 rfl rfl) (sl_Ratios).under (.here 9 rfl), op_move (.const _) (.here 10 rfl), trivial⟩
            refine wp_block ?_
            refine wp_loop_ix (fun (k : Nat) a w => (k ≤ rc.n) ∧ Inv ⟨123, w0, M, fun _ => False⟩ [⟨16, 16, none, none, .obj, 0, 0, false, pHp (hup H1 rc.b (rowIt (divAt (X1.getD q1.k []) ((X1.getD q1.k []).getD q1.k 0) k) rc.cap)), []⟩, ⟨11, 11, none, none, .ptr, 32, 3, true, pv (pRat ((X1.getD q1.k []).getD q1.k 0)), []⟩] [] [⟨none, none, 0, pRow 1 false A.length (fun i => pRats (A.getD i []))⟩, ⟨none, none, 6, pEq (.slice (some ⟨m0.g, 0, none⟩) A.length m0.cap)⟩, ⟨none, none, 36, pI (A.length : Int)⟩, ⟨none, none, 37, pI (q1.k : Int)⟩, ⟨none, none, 8, pI (q1.k : Int)⟩, ⟨none, none, 59, pI (rc.n : Int)⟩, ⟨none, none, 60, pI (k : Int)⟩] none_ a w) (fun (k : Nat) => rc.n - k) (0) ⟨Nat.zero_le _, (hI.conv ⟨⟨0, _, _, rfl, ⟨rfl, rfl, rfl⟩, rfl, fun _ => (pHp_eq (by rw [divAt_zero]; exact (hup_self fun e he hb => hun1 e _ he (hMp.rows _ _ hrc) hb).symm))⟩, ⟨1, _, _, rfl, ⟨rfl, rfl, rfl⟩, rfl, fun _ => fun _ _ h => h⟩, trivial⟩ ⟨⟨rfl, rfl, 0, _, rfl, fun _ _ h => h⟩, ⟨rfl, rfl, 1, _, rfl, fun _ _ h => h⟩, ⟨rfl, rfl, 2, _, rfl, fun _ _ h => h⟩, ⟨rfl, rfl, 3, _, rfl, fun _ _ h => h⟩, ⟨rfl, rfl, 4, _, rfl, fun _ _ h => h⟩, ⟨rfl, rfl, 5, _, rfl, fun _ _ h => h⟩, ⟨rfl, rfl, 6, _, rfl, (fun _ _ h => h)⟩, trivial⟩)⟩ ?_
            intro k a w hIk
            obtain ⟨hp, hI⟩ := hIk
            refine seq_T hI [] [] [⟨some 0, none, 61, pB (decide ((k : Int) < (rc.n : Int)))⟩] (.k (.k .z)) (.kkkk (.kkk .z)) rfl [0] (by kernel_rfl) ?_ (.k (.k .z)) (.k8 .z) fun a w hI => ?_
            · exact ⟨op_bin (v := .bool (decide ((k : Int) < (rc.n : Int)))) (.tmp 6 rfl rfl) (.tmp 5 rfl rfl) (fun _ => rfl) (.here 7 rfl), trivial⟩
            refine wp_seq ?_
            refine cond_if hI 7 rfl (fun ht => ?_) (fun ht => ?_)
            · have t6 := of_decide_eq_true ht
              refine wp_skip ?_
              refine then_of ?_
              refine wp_seq ?_
              refine wp_block ?_
              refine seq_T hI [] [] [⟨some 0, none, 62, pI (k : Int)⟩, ⟨some 1, none, 12, pI (k : Int)⟩] (.k (.k .z)) (.k8 .z) rfl [0, 1] (by kernel_rfl) ?_ (.k (.k .z)) (.kkkk (.kkkd (.dk .z))) fun a w hI => ?_
              · exact ⟨op_move (.tmp 6 rfl rfl) (.here 8 rfl), op_assign (.tmp 8 rfl rfl) (.here 9 rfl), trivial⟩
              refine sem_D hI [] [] [⟨some 0, none, 63, pEq (.slice (some ⟨m0.g, 0, none⟩) A.length m0.cap)⟩, ⟨some 1, none, 64, pI (q1.k : Int)⟩, ⟨some 2, none, 65, pEq (.pointer (some ⟨m0.g, 0 + ((q1.k : Int)).toNat * 1, none⟩))⟩, ⟨some 3, none, 66, pEq (.slice (some ⟨rc.b, 0, none⟩) rc.n rc.cap)⟩, ⟨some 4, none, 67, pI (k : Int)⟩, ⟨some 5, none, 68, pEq (.slice (some ⟨m0.g, 0, none⟩) A.length m0.cap)⟩, ⟨some 6, none, 69, pI (q1.k : Int)⟩, ⟨some 7, none, 70, pEq (.pointer (some ⟨m0.g, 0 + ((q1.k : Int)).toNat * 1, none⟩))⟩, ⟨some 8, none, 71, pEq (.slice (some ⟨rc.b, 0, none⟩) rc.n rc.cap)⟩, ⟨some 9, none, 72, pI (k : Int)⟩, ⟨some 10, none, 73, pEq (.pointer (some ⟨rc.b, 0 + ((k : Int)).toNat * 3, none⟩))⟩, ⟨some 11, none, 74, pRat ((X1.getD q1.k []).getD k 0)⟩, ⟨some 12, none, 75, pRat ((X1.getD q1.k []).getD q1.k 0)⟩, ⟨some 13, none, 76, pRat (((X1.getD q1.k []).getD k 0) / ((X1.getD q1.k []).getD q1.k 0))⟩, ⟨some 14, none, 77, pEq (.pointer (some ⟨rc.b, 0 + ((k : Int)).toNat * 3, none⟩))⟩] (.u none [(15, pHp (hset (hup H1 rc.b (rowIt (divAt (X1.getD q1.k []) ((X1.getD q1.k []).getD q1.k 0) k) rc.cap)) rc.b k (itR ((X1.getD q1.k []).getD k 0 / ((X1.getD q1.k []).getD q1.k 0)))))] (.k .z)) (.k8 .z) rfl [0, 0, 3, 7, 0, 0, 0, 96, 224, 0, 992, 2016, 0, 8160, 16383, 32767] (by kernel_rfl) ?_ (.s .o (.k .z)) (.kkkk (.kkkd (.d8 (.dddd (.ddd .z))))) fun a w hI => ?_
              · exact ⟨op_move (.tmp 1 rfl rfl) (.here 8 rfl), op_move (.tmp 4 rfl rfl) (.here 9 rfl), op_indexEq (.tmp 8 rfl rfl) (.tmp 9 rfl rfl) sl_Rows (by omega) (by omega) (by kernel_rfl) (.here 10 rfl), op_loadH (e := ⟨m0.g, 1, false, tops R1⟩) (idx := q1.k) 0 rfl rfl rfl (by kernel_rfl) rfl (.tmp 10 rfl rfl) (hup_other hMp.top (Ne.symm hoff)) rfl (tops_get hrc) (show 0 + ((q1.k : Int)).toNat * 1 = (q1.k) * 1 by omega) ty_Ratios (.here 11 rfl), op_move (.tmp 7 rfl rfl) (.here 12 rfl), op_move (.tmp 1 rfl rfl) (.here 13 rfl), op_move (.tmp 4 rfl rfl) (.here 14 rfl), op_indexEq (.tmp 13 rfl rfl) (.tmp 14 rfl rfl) sl_Rows (by omega) (by omega) (by kernel_rfl) (.here 15 rfl), op_loadH (e := ⟨m0.g, 1, false, tops R1⟩) (idx := q1.k) 0 rfl rfl rfl (by kernel_rfl) rfl (.tmp 15 rfl rfl) (hup_other hMp.top (Ne.symm hoff)) rfl (tops_get hrc) (show 0 + ((q1.k : Int)).toNat * 1 = (q1.k) * 1 by omega) ty_Ratios (.here 16 rfl), op_move (.tmp 7 rfl rfl) (.here 17 rfl), op_indexEq (.tmp 16 rfl rfl) (.tmp 17 rfl rfl) sl_Ratios (by omega) (by omega) (by kernel_rfl) (.here 18 rfl), op_loadH (e := ⟨rc.b, 3, true, rowIt (divAt (X1.getD q1.k []) ((X1.getD q1.k []).getD q1.k 0) k) rc.cap⟩) (idx := k) 0 rfl rfl rfl (by kernel_rfl) rfl (.tmp 18 rfl rfl) (hup_mem (hMp.rows _ _ hrc) rfl) rfl (divAt_item (by omega)) (show 0 + ((k : Int)).toNat * 3 = (k) * 3 by omega) ty_Ratio (.here 19 rfl), op_load 1 rfl rfl rfl rfl (by kernel_rfl) ty_Ratio rfl (.here 20 rfl), op_call2 (fun _ _ => by kernel_rfl) (numlike_rat _) (.tmp 19 rfl rfl) (.tmp 20 rfl rfl) (.here 21 rfl) (c_by (hX1b _ _) (hX1b _ _) (by omega) hpne), op_indexEq (.tmp 11 rfl rfl) (.tmp 12 rfl rfl) sl_Ratios (by omega) (by omega) (by kernel_rfl) (.here 22 rfl), op_storeH (e := ⟨rc.b, 3, true, rowIt (divAt (X1.getD q1.k []) ((X1.getD q1.k []).getD q1.k 0) k) rc.cap⟩) (idx := k) (it := itR ((X1.getD q1.k []).getD k 0 / ((X1.getD q1.k []).getD q1.k 0))) 0 rfl rfl rfl (by kernel_rfl) 0 rfl (by kernel_rfl) (by kernel_rfl) rfl (.tmp 22 rfl rfl) (hup_mem (hMp.rows _ _ hrc) rfl) rfl (rowIt_lt (by rw [divAt_len]; omega)) (show 0 + ((k : Int)).toNat * 3 = (k) * 3 by omega) ty_Ratio (.tmp 21 rfl rfl) (fits_rat _), trivial⟩
              refine block_of ?_
              refine then_of ?_
              refine sem_T hI [] [] [⟨some 0, none, 78, pI ((k : Int) + (1 : Int))⟩, ⟨some 1, none, 60, pI ((k : Int) + (1 : Int))⟩] (.k (.k .z)) (.kkkk (.kk (.t 1 .z))) rfl [0, 1] (by kernel_rfl) ?_ (.k (.k .z)) (.kkkk (.kkdd (.k .z))) fun a w hI => ?_
              · exact ⟨op_bin (v := .int .i64 (IntKind.i64.wrap ((k : Int) + (1 : Int)))) (.tmp 6 rfl rfl) (.const _) (fun _ => rfl) (.at_ 7 _ _ rfl (pI_wrap (by omega))), op_move (.tmp 7 rfl rfl) (.here 8 rfl), trivial⟩
              refine then_of ?_
              exact ⟨k + 1, ⟨(show k + 1 ≤ rc.n by omega), (hI.conv ⟨⟨0, _, _, rfl, ⟨rfl, rfl, rfl⟩, rfl, fun _ => (pHp_eq (by rw [hset_hup, rowIt_set (by rw [divAt_len]; omega), divAt_step (by omega)]))⟩, ⟨1, _, _, rfl, ⟨rfl, rfl, rfl⟩, rfl, fun _ => fun _ _ h => h⟩, trivial⟩ ⟨⟨rfl, rfl, 0, _, rfl, fun _ _ h => h⟩, ⟨rfl, rfl, 1, _, rfl, fun _ _ h => h⟩, ⟨rfl, rfl, 2, _, rfl, fun _ _ h => h⟩, ⟨rfl, rfl, 3, _, rfl, fun _ _ h => h⟩, ⟨rfl, rfl, 4, _, rfl, fun _ _ h => h⟩, ⟨rfl, rfl, 5, _, rfl, fun _ _ h => h⟩, ⟨rfl, rfl, 6, _, rfl, (pI_eq (by omega))⟩, trivial⟩)⟩, (show rc.n - (k + 1) < rc.n - k by omega)⟩
            · have t7 := of_decide_eq_false ht
              refine wp_exit ?_
              refine then_exit ?_
              refine then_exit ?_
              refine block_exit ?_
              refine then_of ?_
              obtain ⟨X2, eX2⟩ : ∃ X2, X2 = normX X1 q1.k := ⟨_, rfl⟩
              have hM2 : MatOk m0.g m0.cap R1 X2 (hup H1 rc.b (rowIt (divAt (X1.getD q1.k []) ((X1.getD q1.k []).getD q1.k 0) k) rc.cap)) := by have h := hMp.setRow hrc (l := divAt (X1.getD q1.k []) ((X1.getD q1.k []).getD q1.k 0) k) divAt_len; rw [show k = (X1.getD q1.k []).length by omega] at h ⊢; rw [eX2]; exact h
              have hX2l : X2.length = A.length := by rw [eX2, normX_len]; exact hX1l
              have hX2r : Rect (A.length + m) X2 := by rw [eX2]; exact hX1r.norm (by omega)
              refine seq_T hI [] [] [⟨some 0, none, 79, pEq (.slice (some ⟨m0.g, 0, none⟩) A.length m0.cap)⟩, ⟨some 1, none, 80, pI (A.length : Int)⟩, ⟨some 2, none, 81, pI 0⟩] (.k (.k .z)) (.k8 .z) rfl [0, 1, 3] (by kernel_rfl) ?_ (.k (.k .z)) (.kkkk (.kddd (.dkk .z))) fun a w hI => ?_
              · exact ⟨op_move (.tmp 1 rfl rfl) (.here 8 rfl), op_lenEq (.tmp 8 rfl rfl) (sl_Rows).under (.here 9 rfl), op_move (.const _) (.here 10 rfl), trivial⟩
              refine wp_block ?_
              refine wp_loop_ix (fun (q3 : BI) a w => (q3.k ≤ A.length ∧ MatOk m0.g m0.cap R1 (elimX X2 q1.k q3.k) q3.H) ∧ Inv ⟨123, w0, M, fun _ => False⟩ [⟨16, 16, none, none, .obj, 0, 0, false, pHp q3.H, []⟩, ⟨11, 11, none, none, .ptr, 32, 3, true, pv (pRat ((X1.getD q1.k []).getD q1.k 0)), []⟩] [] [⟨none, none, 0, pRow 1 false A.length (fun i => pRats (A.getD i []))⟩, ⟨none, none, 6, pEq (.slice (some ⟨m0.g, 0, none⟩) A.length m0.cap)⟩, ⟨none, none, 36, pI (A.length : Int)⟩, ⟨none, none, 37, pI (q1.k : Int)⟩, ⟨none, none, 8, pI (q1.k : Int)⟩, ⟨none, none, 80, pI (A.length : Int)⟩, ⟨none, none, 81, pI (q3.k : Int)⟩] none_ a w) (fun (q3 : BI) => A.length - q3.k) (⟨0, R1, hup H1 rc.b (rowIt (divAt (X1.getD q1.k []) ((X1.getD q1.k []).getD q1.k 0) k) rc.cap)⟩) ⟨⟨Nat.zero_le _, by show MatOk m0.g m0.cap R1 (elimX X2 q1.k 0) _; rw [elimX_zero]; exact hM2⟩, (hI.conv ⟨⟨0, _, _, rfl, ⟨rfl, rfl, rfl⟩, rfl, fun _ => (fun _ _ h => h)⟩, ⟨1, _, _, rfl, ⟨rfl, rfl, rfl⟩, rfl, fun _ => fun _ _ h => h⟩, trivial⟩ ⟨⟨rfl, rfl, 0, _, rfl, fun _ _ h => h⟩, ⟨rfl, rfl, 1, _, rfl, fun _ _ h => h⟩, ⟨rfl, rfl, 2, _, rfl, fun _ _ h => h⟩, ⟨rfl, rfl, 3, _, rfl, fun _ _ h => h⟩, ⟨rfl, rfl, 4, _, rfl, fun _ _ h => h⟩, ⟨rfl, rfl, 5, _, rfl, fun _ _ h => h⟩, ⟨rfl, rfl, 6, _, rfl, (pI_eq rfl)⟩, trivial⟩)⟩ ?_
              intro q3 a w hIk
              obtain ⟨⟨hk3, hM3⟩, hI⟩ := hIk
              refine seq_T hI [] [] [⟨some 0, none, 82, pB (decide ((q3.k : Int) < (A.length : Int)))⟩] (.k (.k .z)) (.kkkk (.kkk .z)) rfl [0] (by kernel_rfl) ?_ (.k (.k .z)) (.k8 .z) fun a w hI => ?_
              · exact ⟨op_bin (v := .bool (decide ((q3.k : Int) < (A.length : Int)))) (.tmp 6 rfl rfl) (.tmp 5 rfl rfl) (fun _ => rfl) (.here 7 rfl), trivial⟩
              refine wp_seq ?_
              refine cond_if hI 7 rfl (fun ht => ?_) (fun ht => ?_)
              · have t8 := of_decide_eq_true ht
                refine wp_skip ?_
                refine then_of ?_
                refine wp_seq ?_
                refine wp_block ?_
                refine seq_T hI [] [] [⟨some 0, none, 83, pI (q3.k : Int)⟩, ⟨some 1, none, 13, pI (q3.k : Int)⟩] (.k (.k .z)) (.k8 .z) rfl [0, 1] (by kernel_rfl) ?_ (.k (.k .z)) (.kkkk (.kkkd (.dk .z))) fun a w hI => ?_
                · exact ⟨op_move (.tmp 6 rfl rfl) (.here 8 rfl), op_assign (.tmp 8 rfl rfl) (.here 9 rfl), trivial⟩
                refine seq_T hI [] [] [⟨some 0, none, 84, pI (q3.k : Int)⟩, ⟨some 1, none, 85, pI (q1.k : Int)⟩, ⟨some 2, none, 86, pB ((q3.k : Int) != (q1.k : Int))⟩] (.k (.k .z)) (.k8 .z) rfl [0, 1, 3] (by kernel_rfl) ?_ (.k (.k .z)) (.k8 (.ddk .z)) fun a w hI => ?_
                · exact ⟨op_move (.tmp 7 rfl rfl) (.here 8 rfl), op_move (.tmp 4 rfl rfl) (.here 9 rfl), op_bin (v := .bool (((q3.k : Int) != (q1.k : Int)))) (.tmp 8 rfl rfl) (.tmp 9 rfl rfl) (fun _ => rfl) (.here 10 rfl), trivial⟩
                refine cond_if hI 8 rfl (fun ht => ?_) (fun ht => ?_)
                · have t9 := ht
                  have hne0 : q3.k ≠ q1.k := fun e => by have := t9; rw [e] at this; simp at this
                  obtain ⟨ri, hri⟩ := hM3.get (i := q3.k) (by rw [elimX_len]; omega)
                  have hfi := hM3.fit _ _ hri
                  have hfc3 := hM3.fit _ _ hrc
                  have eL1 : (elimX X2 q1.k q3.k).getD q3.k [] = X2.getD q3.k [] := elimX_at (by omega) (Nat.le_refl _)
                  have eL2 : (elimX X2 q1.k q3.k).getD q1.k [] = X2.getD q1.k [] := elimX_own (by omega)
                  rw [eL1] at hfi
                  rw [eL2] at hfc3
                  have m1 : (⟨ri.b, 3, true, rowIt (X2.getD q3.k []) ri.cap⟩ : Bk) ∈ q3.H := by have h := hM3.rows _ _ hri; rw [eL1] at h; exact h
                  have m2 : (⟨rc.b, 3, true, rowIt (X2.getD q1.k []) rc.cap⟩ : Bk) ∈ q3.H := by have h := hM3.rows _ _ hrc; rw [eL2] at h; exact h
                  have hne : rc.b ≠ ri.b := hM3.apart _ _ _ _ hrc hri (fun e => hne0 e.symm)
                  have hl1 := hX2r q3.k (by omega)
                  have hl2 := hX2r q1.k (by omega)
                  have hX2b : ∀ k, BdR (gjJ j q1.k) ((X2.getD q3.k []).getD k 0) := fun k => by rw [eX2, normX_other hne0 (by omega)]; exact hX1b _ _
                  have b1 := bd_mem hX2b
                  have b2 : ∀ x, x ∈ X2.getD q1.k [] → BdR (gjJ j q1.k + gjJ j q1.k) x := bd_mem fun k => by rw [eX2]; exact hX1b.norm (gjJ_pos h1 _) (by omega) k
                  have b3 := hX2b q1.k
                  refine sem_SD hI [] [] [⟨some 0, none, 87, pEq (.slice (some ⟨m0.g, 0, none⟩) A.length m0.cap)⟩, ⟨some 1, none, 88, pI (q3.k : Int)⟩, ⟨some 2, none, 89, pEq (.pointer (some ⟨m0.g, 0 + ((q3.k : Int)).toNat * 1, none⟩))⟩, ⟨some 3, none, 90, pEq (.slice (some ⟨ri.b, 0, none⟩) ri.n ri.cap)⟩, ⟨some 4, none, 91, pEq (.slice (some ⟨m0.g, 0, none⟩) A.length m0.cap)⟩, ⟨some 5, none, 92, pI (q1.k : Int)⟩, ⟨some 6, none, 93, pEq (.pointer (some ⟨m0.g, 0 + ((q1.k : Int)).toNat * 1, none⟩))⟩, ⟨some 7, none, 94, pEq (.slice (some ⟨rc.b, 0, none⟩) rc.n rc.cap)⟩, ⟨some 8, none, 95, pEq (.slice (some ⟨m0.g, 0, none⟩) A.length m0.cap)⟩, ⟨some 9, none, 96, pI (q3.k : Int)⟩, ⟨some 10, none, 97, pEq (.pointer (some ⟨m0.g, 0 + ((q3.k : Int)).toNat * 1, none⟩))⟩, ⟨some 11, none, 98, pEq (.slice (some ⟨ri.b, 0, none⟩) ri.n ri.cap)⟩, ⟨some 12, none, 99, pI (q1.k : Int)⟩, ⟨some 13, none, 100, pEq (.pointer (some ⟨ri.b, 0 + ((q1.k : Int)).toNat * 3, none⟩))⟩, ⟨some 14, none, 101, pRat ((X2.getD q3.k []).getD q1.k 0)⟩] (.k (.k .z)) (.k8 (.k .z)) rfl [0, 0, 3, 7, 0, 0, 48, 112, 0, 0, 768, 1792, 0, 7936, 16128, 32767] 15 (by kernel_rfl) ?_ (.k (.k .z)) (.kkkk (.kkkd (.dddd (.kddd (.kddd (.dddk .z)))))) (fun a w hI => hI) (⟨_, fun a w hI => step_callL3 (fun _ _ => by kernel_rfl) hI (n0 := 0) rfl (numlike_eq _) (.tmp 7 rfl rfl) (.tmp 8 rfl rfl) (.tmp 9 rfl rfl) (fun M B w v1 v2 v3 hM hBM hH h1 h2 h3 => r_reduce (s1 := 0) (s2 := 0) (n1 := ri.n) (n2 := rc.n) (c1 := ri.cap) (c2 := rc.cap) (j := gjJ j q1.k) (j2 := gjJ j q1.k + gjJ j q1.k) (jf := gjJ j q1.k) m1 m2 hne (by omega) (by omega) (by omega) (by omega) b1 b2 b3 (by omega) M B w v1 v2 v3 hM hBM hH h1 h2 h3) (by kernel_rfl) (by kernel_rfl) (by kernel_rfl) (by kernel_rfl),
                      rfl⟩) ?_
                  · exact ⟨op_move (.tmp 1 rfl rfl) (.here 9 rfl), op_move (.tmp 7 rfl rfl) (.here 10 rfl), op_indexEq (.tmp 9 rfl rfl) (.tmp 10 rfl rfl) sl_Rows (by omega) (by omega) (by kernel_rfl) (.here 11 rfl), op_loadH (e := ⟨m0.g, 1, false, tops R1⟩) (idx := q3.k) 0 rfl rfl rfl (by kernel_rfl) rfl (.tmp 11 rfl rfl) hM3.top rfl (tops_get hri) (show 0 + ((q3.k : Int)).toNat * 1 = (q3.k) * 1 by omega) ty_Ratios (.here 12 rfl), op_move (.tmp 1 rfl rfl) (.here 13 rfl), op_move (.tmp 4 rfl rfl) (.here 14 rfl), op_indexEq (.tmp 13 rfl rfl) (.tmp 14 rfl rfl) sl_Rows (by omega) (by omega) (by kernel_rfl) (.here 15 rfl), op_loadH (e := ⟨m0.g, 1, false, tops R1⟩) (idx := q1.k) 0 rfl rfl rfl (by kernel_rfl) rfl (.tmp 15 rfl rfl) hM3.top rfl (tops_get hrc) (show 0 + ((q1.k : Int)).toNat * 1 = (q1.k) * 1 by omega) ty_Ratios (.here 16 rfl), op_move (.tmp 1 rfl rfl) (.here 17 rfl), op_move (.tmp 7 rfl rfl) (.here 18 rfl), op_indexEq (.tmp 17 rfl rfl) (.tmp 18 rfl rfl) sl_Rows (by omega) (by omega) (by kernel_rfl) (.here 19 rfl), op_loadH (e := ⟨m0.g, 1, false, tops R1⟩) (idx := q3.k) 0 rfl rfl rfl (by kernel_rfl) rfl (.tmp 19 rfl rfl) hM3.top rfl (tops_get hri) (show 0 + ((q3.k : Int)).toNat * 1 = (q3.k) * 1 by omega) ty_Ratios (.here 20 rfl), op_move (.tmp 4 rfl rfl) (.here 21 rfl), op_indexEq (.tmp 20 rfl rfl) (.tmp 21 rfl rfl) sl_Ratios (by omega) (by omega) (by kernel_rfl) (.here 22 rfl), op_loadH (e := ⟨ri.b, 3, true, rowIt (X2.getD q3.k []) ri.cap⟩) (idx := q1.k) 0 rfl rfl rfl (by kernel_rfl) rfl (.tmp 22 rfl rfl) m1 rfl (rowIt_get (by omega)) (show 0 + ((q1.k : Int)).toNat * 3 = (q1.k) * 3 by omega) ty_Ratio (.here 23 rfl), trivial⟩
                  · intro a w hI
                    refine block_of ?_
                    refine then_of ?_
                    refine sem_T hI [] [] [⟨some 0, none, 103, pI ((q3.k : Int) + (1 : Int))⟩, ⟨some 1, none, 81, pI ((q3.k : Int) + (1 : Int))⟩] (.k (.k .z)) (.kkkk (.kkk (.t 1 (.kkk .z)))) rfl [0, 1] (by kernel_rfl) ?_ (.k (.k .z)) (.dkkk (.kkkd (.dddd (.k .z)))) fun a w hI => ?_
                    · exact ⟨op_bin (v := .int .i64 (IntKind.i64.wrap ((q3.k : Int) + (1 : Int)))) (.tmp 7 rfl rfl) (.const _) (fun _ => rfl) (.at_ 11 _ _ rfl (pI_wrap (by omega))), op_move (.tmp 11 rfl rfl) (.here 12 rfl), trivial⟩
                    refine then_of ?_
                    exact ⟨⟨q3.k + 1, R1, hup q3.H ri.b (rowIt (if (X2.getD q3.k []).getD q1.k 0 = 0 then X2.getD q3.k [] else redAt (X2.getD q3.k []) 0 (X2.getD q1.k []) 0 ((X2.getD q3.k []).getD q1.k 0) rc.n) ri.cap)⟩, ⟨⟨by show q3.k + 1 ≤ A.length; omega, by have h := hM3.setRow hri (l := redRow (X2.getD q3.k []) (X2.getD q1.k []) q1.k) (by rw [redRow_len, eL1]); rw [elimX_step (by omega) hne0] at h; show MatOk m0.g m0.cap R1 (elimX X2 q1.k (q3.k + 1)) _; rw [show rc.n = (X2.getD q1.k []).length by omega]; exact h⟩, (hI.conv ⟨⟨0, _, _, rfl, ⟨rfl, rfl, rfl⟩, rfl, fun _ => (fun _ _ h => h)⟩, ⟨1, _, _, rfl, ⟨rfl, rfl, rfl⟩, rfl, fun _ => fun _ _ h => h⟩, trivial⟩ ⟨⟨rfl, rfl, 0, _, rfl, fun _ _ h => h⟩, ⟨rfl, rfl, 1, _, rfl, fun _ _ h => h⟩, ⟨rfl, rfl, 2, _, rfl, fun _ _ h => h⟩, ⟨rfl, rfl, 3, _, rfl, fun _ _ h => h⟩, ⟨rfl, rfl, 4, _, rfl, fun _ _ h => h⟩, ⟨rfl, rfl, 5, _, rfl, fun _ _ h => h⟩, ⟨rfl, rfl, 6, _, rfl, (pI_eq (by show ((q3.k : Int) + 1) = ((q3.k + 1 : Nat) : Int); omega))⟩, trivial⟩)⟩, (show A.length - (q3.k + 1) < A.length - q3.k by omega)⟩
                · have t10 := ht
                  refine wp_skip ?_
                  refine block_of ?_
                  refine then_of ?_
                  refine sem_T hI [] [] [⟨some 0, none, 103, pI ((q3.k : Int) + (1 : Int))⟩, ⟨some 1, none, 81, pI ((q3.k : Int) + (1 : Int))⟩] (.k (.k .z)) (.kkkk (.kk (.t 1 (.kk .z)))) rfl [0, 1] (by kernel_rfl) ?_ (.k (.k .z)) (.kkkk (.kkdd (.ddk .z))) fun a w hI => ?_
                  · exact ⟨op_bin (v := .int .i64 (IntKind.i64.wrap ((q3.k : Int) + (1 : Int)))) (.tmp 6 rfl rfl) (.const _) (fun _ => rfl) (.at_ 9 _ _ rfl (pI_wrap (by omega))), op_move (.tmp 9 rfl rfl) (.here 10 rfl), trivial⟩
                  refine then_of ?_
                  exact ⟨⟨q3.k + 1, R1, q3.H⟩, ⟨⟨by show q3.k + 1 ≤ A.length; omega, by have h := hM3; rw [show q3.k = q1.k by have := t10; simp at this; omega] at h ⊢; show MatOk m0.g m0.cap R1 (elimX X2 q1.k (q1.k + 1)) _; rw [elimX_skip]; exact h⟩, (hI.conv ⟨⟨0, _, _, rfl, ⟨rfl, rfl, rfl⟩, rfl, fun _ => (fun _ _ h => h)⟩, ⟨1, _, _, rfl, ⟨rfl, rfl, rfl⟩, rfl, fun _ => fun _ _ h => h⟩, trivial⟩ ⟨⟨rfl, rfl, 0, _, rfl, fun _ _ h => h⟩, ⟨rfl, rfl, 1, _, rfl, fun _ _ h => h⟩, ⟨rfl, rfl, 2, _, rfl, fun _ _ h => h⟩, ⟨rfl, rfl, 3, _, rfl, fun _ _ h => h⟩, ⟨rfl, rfl, 4, _, rfl, fun _ _ h => h⟩, ⟨rfl, rfl, 5, _, rfl, fun _ _ h => h⟩, ⟨rfl, rfl, 6, _, rfl, (pI_eq (by show ((q3.k : Int) + 1) = ((q3.k + 1 : Nat) : Int); omega))⟩, trivial⟩)⟩, (show A.length - (q3.k + 1) < A.length - q3.k by omega)⟩
              · have t11 := of_decide_eq_false ht
                refine wp_exit ?_
                refine then_exit ?_
                refine then_exit ?_
                refine block_exit ?_
                refine block_of ?_
                refine then_of ?_
                refine sem_T hI [] [] [⟨some 0, none, 104, pI ((q1.k : Int) + (1 : Int))⟩, ⟨some 1, none, 37, pI ((q1.k : Int) + (1 : Int))⟩] (.k (.k .z)) (.kkk (.t 1 (.kkkk .z))) rfl [0, 1] (by kernel_rfl) ?_ (.k (.k .z)) (.kkkd (.dddd (.dk .z))) fun a w hI => ?_
                · exact ⟨op_bin (v := .int .i64 (IntKind.i64.wrap ((q1.k : Int) + (1 : Int)))) (.tmp 3 rfl rfl) (.const _) (fun _ => rfl) (.at_ 8 _ _ rfl (pI_wrap (by omega))), op_move (.tmp 8 rfl rfl) (.here 9 rfl), trivial⟩
                refine then_of ?_
                exact ⟨⟨q1.k + 1, R1, q3.H⟩, ⟨⟨by show q1.k + 1 ≤ A.length; omega, by have h := hM3; rw [show q3.k = X.length by omega] at h; show MatOk m0.g m0.cap R1 (gjStep (gjX (augX A B) q1.k) q1.k) q3.H; rw [← eX]; rw [eX2, eX1] at h; exact h, fun c hc => by rcases Nat.lt_or_ge c q1.k with h | h; exact hns c h; rw [show c = q1.k by have : c < q1.k + 1 := hc; omega, ← eX]; exact hp0⟩, (hI.conv ⟨⟨0, _, _, rfl, ⟨rfl, rfl, rfl⟩, rfl, fun _ => fun _ _ h => h⟩, trivial⟩ ⟨⟨rfl, rfl, 0, _, rfl, fun _ _ h => h⟩, ⟨rfl, rfl, 1, _, rfl, fun _ _ h => h⟩, ⟨rfl, rfl, 2, _, rfl, fun _ _ h => h⟩, ⟨rfl, rfl, 3, _, rfl, (pI_eq (by show ((q1.k : Int) + 1) = ((q1.k + 1 : Nat) : Int); omega))⟩, trivial⟩)⟩, (show A.length - (q1.k + 1) < A.length - q1.k by omega)⟩
      · have t12 := of_decide_eq_false ht
        refine wp_exit ?_
        refine then_exit ?_
        refine then_exit ?_
        refine block_exit ?_
        refine then_of ?_
        refine wp_seq ?_
        obtain ⟨XF, eXF⟩ : ∃ XF, XF = gjX (augX A B) A.length := ⟨_, rfl⟩
        have hq1 : q1.k = A.length := by omega
        have hXFl : XF.length = A.length := by rw [eXF, gjX_len, augX_len]
        have hXFr : Rect (A.length + m) XF := by rw [eXF]; exact hXr0.gj _ (by rw [augX_len]; omega)
        have hBF : BldOk m0.g A.length q1.R XF q1.H := by have h := hM; rw [hq1, ← eXF] at h; have h := h.bld (fun i hi => by rw [hXFr i hi]; omega); rw [hXFl] at h; exact h
        refine seq_T hI [] [] [⟨some 0, none, 105, pEq (.slice (some ⟨m0.g, 0, none⟩) A.length m0.cap)⟩, ⟨some 1, none, 106, pI (A.length : Int)⟩, ⟨some 2, none, 107, pI 0⟩] (.k .z) (.kkkk (.k .z)) rfl [0, 1, 3] (by kernel_rfl) ?_ (.k .z) (.kkdd (.ddkk .z)) fun a w hI => ?_
        · exact ⟨op_move (.tmp 1 rfl rfl) (.here 5 rfl), op_lenEq (.tmp 5 rfl rfl) (sl_Rows).under (.here 6 rfl), op_move (.const _) (.here 7 rfl), trivial⟩
        refine wp_block ?_
        refine wp_loop_ix (fun (q4 : BI) a w => (q4.k ≤ A.length ∧ BldOk m0.g A.length q4.R (dropX XF A.length q4.k) q4.H) ∧ Inv ⟨123, w0, M, fun _ => False⟩ [⟨16, 16, none, none, .obj, 0, 0, false, pHp q4.H, []⟩] [] [⟨none, none, 0, pRow 1 false A.length (fun i => pRats (A.getD i []))⟩, ⟨none, none, 6, pEq (.slice (some ⟨m0.g, 0, none⟩) A.length m0.cap)⟩, ⟨none, none, 106, pI (A.length : Int)⟩, ⟨none, none, 107, pI (q4.k : Int)⟩] none_ a w) (fun (q4 : BI) => A.length - q4.k) (⟨0, q1.R, q1.H⟩) ⟨⟨Nat.zero_le _, by show BldOk m0.g A.length q1.R (dropX XF A.length 0) q1.H; rw [dropX_zero]; exact hBF⟩, (hI.conv ⟨⟨0, _, _, rfl, ⟨rfl, rfl, rfl⟩, rfl, fun _ => (fun _ _ h => h)⟩, trivial⟩ ⟨⟨rfl, rfl, 0, _, rfl, fun _ _ h => h⟩, ⟨rfl, rfl, 1, _, rfl, fun _ _ h => h⟩, ⟨rfl, rfl, 2, _, rfl, fun _ _ h => h⟩, ⟨rfl, rfl, 3, _, rfl, (pI_eq rfl)⟩, trivial⟩)⟩ ?_
        intro q4 a w hIk
        obtain ⟨⟨hk4, hB4⟩, hI⟩ := hIk
        refine seq_T hI [] [] [⟨some 0, none, 108, pB (decide ((q4.k : Int) < (A.length : Int)))⟩] (.k .z) (.kkkk .z) rfl [0] (by kernel_rfl) ?_ (.k .z) (.kkkk (.k .z)) fun a w hI => ?_
        · exact ⟨op_bin (v := .bool (decide ((q4.k : Int) < (A.length : Int)))) (.tmp 3 rfl rfl) (.tmp 2 rfl rfl) (fun _ => rfl) (.here 4 rfl), trivial⟩
        refine wp_seq ?_
        refine cond_if hI 4 rfl (fun ht => ?_) (fun ht => ?_)
        · have t13 := of_decide_eq_true ht
          refine wp_skip ?_
          refine then_of ?_
          refine wp_seq ?_
          refine wp_block ?_
          refine seq_T hI [] [] [⟨some 0, none, 109, pI (q4.k : Int)⟩, ⟨some 1, none, 14, pI (q4.k : Int)⟩] (.k .z) (.kkkk (.k .z)) rfl [0, 1] (by kernel_rfl) ?_ (.k .z) (.kkkk (.ddk .z)) fun a w hI => ?_
          · exact ⟨op_move (.tmp 3 rfl rfl) (.here 5 rfl), op_assign (.tmp 5 rfl rfl) (.here 6 rfl), trivial⟩
          have hl4 := hB4.len.1
          have hxk := hXFr q4.k (by omega)
          have e4 : (dropX XF A.length q4.k).getD q4.k [] = XF.getD q4.k [] := by rw [dropX_get (by omega), if_neg (Nat.lt_irrefl _)]
          have hrn := hB4.num q4.k (by omega)
          rw [e4] at hrn
          have hr0 : (rowAt q4.R q4.k).n ≠ 0 := by omega
          obtain ⟨hc1, hc2, hmem, _⟩ := hB4.rows q4.k (by omega) hr0
          rw [e4] at hmem
          refine sem_ST hI [] [] [⟨some 0, none, 110, pEq (.slice (some ⟨m0.g, 0, none⟩) A.length m0.cap)⟩, ⟨some 1, none, 111, pI (q4.k : Int)⟩, ⟨some 2, none, 112, pEq (.slice (some ⟨m0.g, 0, none⟩) A.length m0.cap)⟩, ⟨some 3, none, 113, pI (q4.k : Int)⟩, ⟨some 4, none, 114, pEq (.pointer (some ⟨m0.g, 0 + ((q4.k : Int)).toNat * 1, none⟩))⟩, ⟨some 5, none, 115, pEq (.slice (some ⟨(rowAt q4.R q4.k).b, 0, none⟩) ((rowAt q4.R q4.k).n) ((rowAt q4.R q4.k).cap))⟩, ⟨some 6, none, 116, pRow 1 false A.length (fun i => pRats (A.getD i []))⟩, ⟨some 7, none, 117, pI (A.length : Int)⟩, ⟨some 8, none, 118, pEq (.slice (some ⟨(rowAt q4.R q4.k).b, A.length * 3, none⟩) ((rowAt q4.R q4.k).n - A.length) ((rowAt q4.R q4.k).cap - A.length))⟩] (.k .z) (.kkkk (.k .z)) rfl [0, 1, 3, 7, 15, 31, 63, 127, 255, 511, 1023, 2047] 9 (by kernel_rfl) ?_ (.k .z) (.kkkk (.dkkd (.dddd (.dk .z)))) (fun a w hI => hI) (⟨_, fun a w hI => step_callRowO (fun _ _ => by kernel_rfl) hI (n0 := 0) rfl (.tmp 6 rfl rfl) (fun B w hH => heap_rats_drop hH hmem hrn (by omega) (by omega) (by omega)) (fun M w v hM hv => c_clone (by rw [List.length_drop]; omega) (by rw [List.length_drop]; omega) M w v hM hv) (by kernel_rfl) (by kernel_rfl) (by kernel_rfl) (by kernel_rfl),
              _, exL fun l hC a w hI => sing hI [] [⟨some 0, none, 120, pEq (.pointer (some ⟨m0.g, 0 + ((q4.k : Int)).toNat * 1, none⟩))⟩] (.k .z) (.k8 .z) (by kernel_rfl) (op_indexEq (.tmp 5 rfl rfl) (.tmp 6 rfl rfl) sl_Rows (by omega) (by omega) (by kernel_rfl) (.here 8 rfl)) (.k .z) (.kkkk (.kddd (.k .z))),
              _, exL fun l hC a w hI => sing hI [] [] (.u none [(0, pHp (hset (appH q4.H l.b (rowIt ((XF.getD q4.k []).drop A.length) l.cap)) m0.g q4.k (itV l.hdr)))] .z) (.kkkk (.kk .z)) (by kernel_rfl) (op_storeH (e := ⟨m0.g, 1, false, tops0 q4.R⟩) (idx := q4.k) (it := itV l.hdr) 0 rfl rfl rfl (by kernel_rfl) 0 rfl (by kernel_rfl) (by kernel_rfl) rfl (.tmp 5 rfl rfl) (appH_other hB4.top (hB4.off (by omega) (.inr hC.2.2.2))) rfl (by rw [tops0_len]; omega) (show 0 + ((q4.k : Int)).toNat * 1 = (q4.k) * 1 by omega) ty_Ratios (.tmp 0 rfl rfl) (fits_slice _ _ _)) (.s .o .z) (.dkkk (.kd .z)),
              rfl⟩) ?_
          · exact ⟨op_move (.tmp 1 rfl rfl) (.here 5 rfl), op_move (.tmp 4 rfl rfl) (.here 6 rfl), op_move (.tmp 1 rfl rfl) (.here 7 rfl), op_move (.tmp 4 rfl rfl) (.here 8 rfl), op_indexEq (.tmp 7 rfl rfl) (.tmp 8 rfl rfl) sl_Rows (by omega) (by omega) (by kernel_rfl) (.here 9 rfl), op_loadH (e := ⟨m0.g, 1, false, tops0 q4.R⟩) (idx := q4.k) 0 rfl rfl rfl (by kernel_rfl) rfl (.tmp 9 rfl rfl) hB4.top rfl (tops0_hdr (by omega) hr0) (show 0 + ((q4.k : Int)).toNat * 1 = (q4.k) * 1 by omega) ty_Ratios (.here 10 rfl), op_move (.tmp 0 rfl rfl) (.here 11 rfl), op_len (.tmp 11 rfl rfl) (sl_Rows).under (.here 12 rfl), op_sliceLo (.tmp 10 rfl rfl) (.tmp 12 rfl rfl) sl_Ratios (by omega) (by omega) (by omega) (.at_ 13 _ _ rfl (pEq_to (by simp))), trivial⟩
          · rintro a w ⟨l, hC, hI⟩
            have hC : l.n = ((XF.getD q4.k []).drop A.length).length ∧ l.n ≤ l.cap ∧ l.cap ≤ maxLen ∧ ∀ e, e ∈ q4.H → e.b ≠ l.b := hC
            refine block_of ?_
            refine then_of ?_
            refine sem_T hI [] [] [⟨some 0, none, 121, pI ((q4.k : Int) + (1 : Int))⟩, ⟨some 1, none, 107, pI ((q4.k : Int) + (1 : Int))⟩] (.k .z) (.kkk (.t 1 .z)) rfl [0, 1] (by kernel_rfl) ?_ (.k .z) (.kkkd (.dk .z)) fun a w hI => ?_
            · exact ⟨op_bin (v := .int .i64 (IntKind.i64.wrap ((q4.k : Int) + (1 : Int)))) (.tmp 3 rfl rfl) (.const _) (fun _ => rfl) (.at_ 4 _ _ rfl (pI_wrap (by omega))), op_move (.tmp 4 rfl rfl) (.here 5 rfl), trivial⟩
            refine then_of ?_
            exact ⟨⟨q4.k + 1, q4.R.set q4.k l, hset (appH q4.H l.b (rowIt ((XF.getD q4.k []).drop A.length) l.cap)) m0.g q4.k (itV l.hdr)⟩, ⟨⟨by show q4.k + 1 ≤ A.length; omega, by have h := hB4.put (i := q4.k) (l := (XF.getD q4.k []).drop A.length) (by omega) (by rw [List.length_drop]; omega) hC.1 hC.2.1 hC.2.2.1 (.inr hC.2.2.2); rw [dropX_step (by omega)] at h; exact h⟩, (hI.conv ⟨⟨0, _, _, rfl, ⟨rfl, rfl, rfl⟩, rfl, fun _ => fun _ _ h => h⟩, trivial⟩ ⟨⟨rfl, rfl, 0, _, rfl, fun _ _ h => h⟩, ⟨rfl, rfl, 1, _, rfl, fun _ _ h => h⟩, ⟨rfl, rfl, 2, _, rfl, fun _ _ h => h⟩, ⟨rfl, rfl, 3, _, rfl, (pI_eq (by show ((q4.k : Int) + 1) = ((q4.k + 1 : Nat) : Int); omega))⟩, trivial⟩)⟩, (show A.length - (q4.k + 1) < A.length - q4.k by omega)⟩
        · have t14 := of_decide_eq_false ht
          refine wp_exit ?_
          refine then_exit ?_
          refine then_exit ?_
          refine block_exit ?_
          refine then_of ?_
          refine seq_T hI [] [] [⟨some 0, none, 122, pEq (.slice (some ⟨m0.g, 0, none⟩) A.length m0.cap)⟩, ⟨some 1, none, 4, pEq (.slice (some ⟨m0.g, 0, none⟩) A.length m0.cap)⟩, ⟨some 2, none, 5, pB true⟩] (.k .z) (.kkkk (.k .z)) rfl [0, 1, 3] (by kernel_rfl) ?_ (.k .z) (.dddd (.ddkk .z)) fun a w hI => ?_
          · exact ⟨op_move (.tmp 1 rfl rfl) (.here 5 rfl), op_assign (.tmp 5 rfl rfl) (.here 6 rfl), op_assign (.const _) (.here 7 rfl), trivial⟩
          refine wp_ret ?_
          exact post_mono (finObj2 hI rfl (n0 := 0) rfl (.tmp 0 rfl) (.tmp 1 rfl) (p := pRow 1 false A.length fun i => pRats ((solX A B).getD i [])) (fun B' w hH => by have h := hB4.read (cap := m0.cap) hcp.1 hcp.2 (fun i hi => by rw [dropX_get (by omega), if_pos (by omega), List.length_drop, hXFr i (by omega)]; omega) B' w hH; rw [show q4.k = A.length by omega, eXF] at h; exact h)) fun e w' h => retB_mono h fun w v h => ⟨fun _ => h, fun ⟨c, hc1, hc2⟩ => absurd (hns c (by omega)) (by omega)⟩
end Wx
