import Derived.Handy
import Derived.KernelRfl
import Derived.Test.YtncpoijmhgihjaaProg
import Derived.Test.YtncpoijmhgihjaaPlain1
import Derived.Test.YtncpoijmhgihjaaMem
import Derived.Test.YtncpoijmhgihjaaJIncludes3
import Derived.Test.YtncpoijmhgihjaaCRat1
import Derived.Test.YtncpoijmhgihjaaCRat2
import Derived.Test.YtncpoijmhgihjaaJIncludes16
import Derived.Test.YtncpoijmhgihjaaCRat3
import Derived.Test.YtncpoijmhgihjaaJIncludes18
import Derived.Test.YtncpoijmhgihjaaCSame
import Derived.Test.YtncpoijmhgihjaaCInt
import Derived.Test.YtncpoijmhgihjaaInv
import Derived.Test.YtncpoijmhgihjaaSem
import Derived.Test.YtncpoijmhgihjaaSemOps
import Derived.Test.YtncpoijmhgihjaaSemMem
import Derived.Test.YtncpoijmhgihjaaSemCode
import Derived.Test.YtncpoijmhgihjaaCSemData
import Derived.Test.YtncpoijmhgihjaaCSemBuild
import Derived.Test.YtncpoijmhgihjaaJIncludes39
namespace Wx
open Go Go.RowKit Go.Proofs
set_option linter.unusedVariables false

set_option maxRecDepth 100000 in
theorem cp_join (a1 a2 : Rat) : ∀ (M : Nat → Prop) (w : World) (v0 v1 : Value), Mid M w → Box M (fun w => (pRat a1) w v0) w → Box M (fun w => (pRat a2) w v1) w → Calls Try.prog 26 #[v0, v1] w (RetB M (pPair a1 a2) w) := by
  intro M w0 v0 v1 hM hv0 hv1
  refine calls_start (N := 8) Try.func26 rfl rfl rfl hM (show EntsA M w0 [v0, v1] [⟨none, none, 0, pRat a1⟩, ⟨none, none, 1, pRat a2⟩] from ⟨⟨rfl, _, rfl, hv0⟩, ⟨rfl, _, rfl, hv1⟩, trivial⟩) fun a hI => ?_
  refine seq_text (V1 := [⟨2, some 0, 27, 3, true, pRat a1, []⟩, ⟨3, some 1, 27, 3, true, pRat a2, []⟩, ⟨4, some 2, 43, 6, true, pPair 0 0, []⟩]) (A1 := []) (G1 := [⟨none, none, 0, pRat a1⟩, ⟨none, none, 1, pRat a2⟩]) (V2 := [⟨2, none, 27, 3, true, pRat a1, []⟩, ⟨3, none, 27, 3, true, pRat a2, []⟩, ⟨4, none, 43, 6, true, pPair 0 0, []⟩]) (A2 := []) (G2 := []) hI rfl rfl rfl [0, 1, 3] (by kernel_rfl) (by kernel_rfl) ?_ [0, 1, 2] [] [] rfl rfl rfl fun a w hI => ?_
  · exact ⟨op_box 0 rfl rfl (by kernel_rfl) (by kernel_rfl) rfl rfl (.tmp 0 rfl rfl) (fits_rat _) rfl,
      op_box 1 rfl rfl (by kernel_rfl) (by kernel_rfl) rfl rfl (.tmp 1 rfl rfl) (fits_rat _) rfl,
      op_alloc 2 rfl rfl (by kernel_rfl) (by kernel_rfl) rfl rfl zv_Pair rfl rfl (by simp [NoU]) (fun w => pS_of (cells_pair0 w)),
      trivial⟩
  refine seq_text (V1 := [⟨2, none, 27, 3, true, pRat a1, []⟩, ⟨3, none, 27, 3, true, pRat a2, []⟩, ⟨4, none, 43, 6, true, pPair 0 0, [(3, pPair a1 a2)]⟩]) (A1 := []) (G1 := [⟨some 0, none, 5, pRat a1⟩, ⟨some 1, none, 6, pRat a2⟩, ⟨some 2, none, 7, pPair a1 a2⟩]) (V2 := [⟨2, none, 27, 3, true, pRat a1, []⟩, ⟨3, none, 27, 3, true, pRat a2, []⟩, ⟨4, none, 43, 6, true, pPair a1 a2, []⟩]) (A2 := []) (G2 := []) hI rfl rfl rfl [0, 1, 3, 7] (by kernel_rfl) (by kernel_rfl) ?_ [0, 1, 2] [] [] rfl rfl rfl fun a w hI => ?_
  · exact ⟨op_load 0 rfl rfl rfl (by kernel_rfl) ty_Ratio rfl (.here 0 rfl),
      op_load 1 rfl rfl rfl (by kernel_rfl) ty_Ratio rfl (.here 1 rfl),
      op_build (fs := [⟨true, 3, pRat 0⟩, ⟨true, 3, pRat 0⟩]) (ps := [(0, pRat a1), (1, pRat a2)]) bt_Pair (places_ok (by kernel_rfl)) (cells_pair0) (show HasParts _ _ _ _ _ _ from ⟨⟨rfl, (.tmp 0 rfl rfl), _, rfl, fits_rat _⟩, ⟨rfl, (.tmp 1 rfl rfl), _, rfl, fits_rat _⟩, trivial⟩) rfl (.here 2 rfl),
      op_store 2 rfl rfl rfl 0 rfl (by kernel_rfl) (by kernel_rfl) ty_Pair (.tmp 2 rfl rfl) (fits_pair _ _),
      trivial⟩
  refine wp_ret ?_
  exact fin1 hI rfl (.cell 2 rfl rfl rfl ty_Pair rfl)
set_option maxRecDepth 100000 in
theorem cp_neg (a1 a2 : Rat) : ∀ (M : Nat → Prop) (w : World) (v0 : Value), Mid M w → Box M (fun w => (pPair a1 a2) w v0) w → Calls Try.prog 128 #[v0] w (RetB M (pPair (-a1) (-a2)) w) := by
  intro M w0 v0 hM hv0
  refine calls_start (N := 10) Try.func128 rfl rfl rfl hM (show EntsA M w0 [v0] [⟨none, none, 0, pPair a1 a2⟩] from ⟨⟨rfl, _, rfl, hv0⟩, trivial⟩) fun a hI => ?_
  refine seq_text (V1 := [⟨1, some 0, 43, 6, true, pPair a1 a2, []⟩, ⟨2, some 1, 43, 6, true, pPair 0 0, []⟩]) (A1 := []) (G1 := [⟨none, none, 0, pPair a1 a2⟩]) (V2 := [⟨1, none, 43, 6, true, pPair a1 a2, []⟩, ⟨2, none, 43, 6, true, pPair 0 0, []⟩]) (A2 := []) (G2 := []) hI rfl rfl rfl [0, 1] (by kernel_rfl) (by kernel_rfl) ?_ [0, 1] [] [] rfl rfl rfl fun a w hI => ?_
  · exact ⟨op_box 0 rfl rfl (by kernel_rfl) (by kernel_rfl) rfl rfl (.tmp 0 rfl rfl) (fits_pair _ _) rfl,
      op_alloc 1 rfl rfl (by kernel_rfl) (by kernel_rfl) rfl rfl zv_Pair rfl rfl (by simp [NoU]) (fun w => pS_of (cells_pair0 w)),
      trivial⟩
  refine seq_drawn (V1 := [⟨1, none, 43, 6, true, pPair a1 a2, []⟩, ⟨2, none, 43, 6, true, pPair 0 0, [(7, pPair (-a1) (-a2))]⟩]) (A1 := [⟨some 0, 3, 1, 0, True⟩, ⟨some 3, 6, 1, 3, True⟩]) (G1 := [⟨some 1, none, 4, pRat a1⟩, ⟨some 2, none, 5, pRat (-a1)⟩, ⟨some 4, none, 7, pRat a2⟩, ⟨some 5, none, 8, pRat (-a2)⟩, ⟨some 6, none, 9, pPair (-a1) (-a2)⟩]) (V2 := [⟨1, none, 43, 6, true, pPair a1 a2, []⟩, ⟨2, none, 43, 6, true, pPair (-a1) (-a2), []⟩]) (A2 := []) (G2 := []) hI rfl rfl rfl [0, 1, 3, 0, 8, 31, 63, 127] (by kernel_rfl) (by kernel_rfl) (by kernel_rfl) (by kernel_rfl) ?_ [0, 1] [] [] rfl rfl rfl fun a w hI => ?_
  · exact ⟨op_field 0 rfl rfl 0 rfl rfl rfl rfl (.inl ⟨rfl, rfl⟩) rfl (by kernel_rfl) (fun b w => fa_Pair_0 b 0 w),
      op_loadAl 0 rfl 0 rfl rfl rfl rfl rfl trivial rfl (by kernel_rfl) ty_Ratio rfl rfl (fd_get (fs := [⟨true, 3, pRat a1⟩, ⟨true, 3, pRat a2⟩]) 0 (f := ⟨true, 3, pRat a1⟩) rfl (off := 0) rfl) (.here 0 rfl),
      op_call1 (fun _ _ => by kernel_rfl) (numlike_rat _) (.tmp 0 rfl rfl) (.here 1 rfl) (c_neg _),
      op_field 0 rfl rfl 1 rfl rfl rfl rfl (.inl ⟨rfl, rfl⟩) rfl (by kernel_rfl) (fun b w => fa_Pair_1 b 0 w),
      op_loadAl 0 rfl 1 rfl rfl rfl rfl rfl trivial rfl (by kernel_rfl) ty_Ratio rfl rfl (fd_get (fs := [⟨true, 3, pRat a1⟩, ⟨true, 3, pRat a2⟩]) 1 (f := ⟨true, 3, pRat a2⟩) rfl (off := 3) rfl) (.here 2 rfl),
      op_call1 (fun _ _ => by kernel_rfl) (numlike_rat _) (.tmp 2 rfl rfl) (.here 3 rfl) (c_neg _),
      op_build (fs := [⟨true, 3, pRat 0⟩, ⟨true, 3, pRat 0⟩]) (ps := [(0, pRat (-a1)), (1, pRat (-a2))]) bt_Pair (places_ok (by kernel_rfl)) (cells_pair0) (show HasParts _ _ _ _ _ _ from ⟨⟨rfl, (.tmp 1 rfl rfl), _, rfl, fits_rat _⟩, ⟨rfl, (.tmp 3 rfl rfl), _, rfl, fits_rat _⟩, trivial⟩) rfl (.here 4 rfl),
      op_store 1 rfl rfl rfl 0 rfl (by kernel_rfl) (by kernel_rfl) ty_Pair (.tmp 4 rfl rfl) (fits_pair _ _),
      trivial⟩
  refine wp_ret ?_
  exact fin1 hI rfl (.cell 1 rfl rfl rfl ty_Pair rfl)
set_option maxRecDepth 100000 in
theorem cp_conj (a1 a2 : Rat) : ∀ (M : Nat → Prop) (w : World) (v0 : Value), Mid M w → Box M (fun w => (pPair a1 a2) w v0) w → Calls Try.prog 25 #[v0] w (RetB M (pPair a1 (-a2)) w) := by
  intro M w0 v0 hM hv0
  refine calls_start (N := 9) Try.func25 rfl rfl rfl hM (show EntsA M w0 [v0] [⟨none, none, 0, pPair a1 a2⟩] from ⟨⟨rfl, _, rfl, hv0⟩, trivial⟩) fun a hI => ?_
  refine seq_text (V1 := [⟨1, some 0, 43, 6, true, pPair a1 a2, []⟩, ⟨2, some 1, 43, 6, true, pPair 0 0, []⟩]) (A1 := []) (G1 := [⟨none, none, 0, pPair a1 a2⟩]) (V2 := [⟨1, none, 43, 6, true, pPair a1 a2, []⟩, ⟨2, none, 43, 6, true, pPair 0 0, []⟩]) (A2 := []) (G2 := []) hI rfl rfl rfl [0, 1] (by kernel_rfl) (by kernel_rfl) ?_ [0, 1] [] [] rfl rfl rfl fun a w hI => ?_
  · exact ⟨op_box 0 rfl rfl (by kernel_rfl) (by kernel_rfl) rfl rfl (.tmp 0 rfl rfl) (fits_pair _ _) rfl,
      op_alloc 1 rfl rfl (by kernel_rfl) (by kernel_rfl) rfl rfl zv_Pair rfl rfl (by simp [NoU]) (fun w => pS_of (cells_pair0 w)),
      trivial⟩
  refine seq_drawn (V1 := [⟨1, none, 43, 6, true, pPair a1 a2, []⟩, ⟨2, none, 43, 6, true, pPair 0 0, [(6, pPair a1 (-a2))]⟩]) (A1 := [⟨some 0, 3, 1, 0, True⟩, ⟨some 2, 5, 1, 3, True⟩]) (G1 := [⟨some 1, none, 4, pRat a1⟩, ⟨some 3, none, 6, pRat a2⟩, ⟨some 4, none, 7, pRat (-a2)⟩, ⟨some 5, none, 8, pPair a1 (-a2)⟩]) (V2 := [⟨1, none, 43, 6, true, pPair a1 a2, []⟩, ⟨2, none, 43, 6, true, pPair a1 (-a2), []⟩]) (A2 := []) (G2 := []) hI rfl rfl rfl [0, 1, 0, 4, 12, 31, 63] (by kernel_rfl) (by kernel_rfl) (by kernel_rfl) (by kernel_rfl) ?_ [0, 1] [] [] rfl rfl rfl fun a w hI => ?_
  · exact ⟨op_field 0 rfl rfl 0 rfl rfl rfl rfl (.inl ⟨rfl, rfl⟩) rfl (by kernel_rfl) (fun b w => fa_Pair_0 b 0 w),
      op_loadAl 0 rfl 0 rfl rfl rfl rfl rfl trivial rfl (by kernel_rfl) ty_Ratio rfl rfl (fd_get (fs := [⟨true, 3, pRat a1⟩, ⟨true, 3, pRat a2⟩]) 0 (f := ⟨true, 3, pRat a1⟩) rfl (off := 0) rfl) (.here 0 rfl),
      op_field 0 rfl rfl 1 rfl rfl rfl rfl (.inl ⟨rfl, rfl⟩) rfl (by kernel_rfl) (fun b w => fa_Pair_1 b 0 w),
      op_loadAl 0 rfl 1 rfl rfl rfl rfl rfl trivial rfl (by kernel_rfl) ty_Ratio rfl rfl (fd_get (fs := [⟨true, 3, pRat a1⟩, ⟨true, 3, pRat a2⟩]) 1 (f := ⟨true, 3, pRat a2⟩) rfl (off := 3) rfl) (.here 1 rfl),
      op_call1 (fun _ _ => by kernel_rfl) (numlike_rat _) (.tmp 1 rfl rfl) (.here 2 rfl) (c_neg _),
      op_build (fs := [⟨true, 3, pRat 0⟩, ⟨true, 3, pRat 0⟩]) (ps := [(0, pRat a1), (1, pRat (-a2))]) bt_Pair (places_ok (by kernel_rfl)) (cells_pair0) (show HasParts _ _ _ _ _ _ from ⟨⟨rfl, (.tmp 0 rfl rfl), _, rfl, fits_rat _⟩, ⟨rfl, (.tmp 2 rfl rfl), _, rfl, fits_rat _⟩, trivial⟩) rfl (.here 3 rfl),
      op_store 1 rfl rfl rfl 0 rfl (by kernel_rfl) (by kernel_rfl) ty_Pair (.tmp 3 rfl rfl) (fits_pair _ _),
      trivial⟩
  refine wp_ret ?_
  exact fin1 hI rfl (.cell 1 rfl rfl rfl ty_Pair rfl)
set_option maxRecDepth 100000 in
theorem cp_add {a1 a2 b1 b2 : Rat} {j k : Nat} (ha : BdR j a1 ∧ BdR j a2) (hb : BdR k b1 ∧ BdR k b2) (hj : j + k + j + k + 1 ≤ 100000000) : ∀ (M : Nat → Prop) (w : World) (v0 v1 : Value), Mid M w → Box M (fun w => (pPair a1 a2) w v0) w → Box M (fun w => (pPair b1 b2) w v1) w → Calls Try.prog 20 #[v0, v1] w (RetB M (pPair (a1 + b1) (a2 + b2)) w) := by
  intro M w0 v0 v1 hM hv0 hv1
  refine calls_start (N := 16) Try.func20 rfl rfl rfl hM (show EntsA M w0 [v0, v1] [⟨none, none, 0, pPair a1 a2⟩, ⟨none, none, 1, pPair b1 b2⟩] from ⟨⟨rfl, _, rfl, hv0⟩, ⟨rfl, _, rfl, hv1⟩, trivial⟩) fun a hI => ?_
  refine seq_text (V1 := [⟨2, some 0, 43, 6, true, pPair a1 a2, []⟩, ⟨3, some 1, 43, 6, true, pPair b1 b2, []⟩, ⟨4, some 2, 43, 6, true, pPair 0 0, []⟩]) (A1 := []) (G1 := [⟨none, none, 0, pPair a1 a2⟩, ⟨none, none, 1, pPair b1 b2⟩]) (V2 := [⟨2, none, 43, 6, true, pPair a1 a2, []⟩, ⟨3, none, 43, 6, true, pPair b1 b2, []⟩, ⟨4, none, 43, 6, true, pPair 0 0, []⟩]) (A2 := []) (G2 := []) hI rfl rfl rfl [0, 1, 3] (by kernel_rfl) (by kernel_rfl) ?_ [0, 1, 2] [] [] rfl rfl rfl fun a w hI => ?_
  · exact ⟨op_box 0 rfl rfl (by kernel_rfl) (by kernel_rfl) rfl rfl (.tmp 0 rfl rfl) (fits_pair _ _) rfl,
      op_box 1 rfl rfl (by kernel_rfl) (by kernel_rfl) rfl rfl (.tmp 1 rfl rfl) (fits_pair _ _) rfl,
      op_alloc 2 rfl rfl (by kernel_rfl) (by kernel_rfl) rfl rfl zv_Pair rfl rfl (by simp [NoU]) (fun w => pS_of (cells_pair0 w)),
      trivial⟩
  refine seq_drawn (V1 := [⟨2, none, 43, 6, true, pPair a1 a2, []⟩, ⟨3, none, 43, 6, true, pPair b1 b2, []⟩, ⟨4, none, 43, 6, true, pPair 0 0, [(11, pPair (a1 + b1) (a2 + b2))]⟩]) (A1 := [⟨some 0, 5, 2, 0, True⟩, ⟨some 2, 7, 3, 0, True⟩, ⟨some 5, 10, 2, 3, True⟩, ⟨some 7, 12, 3, 3, True⟩]) (G1 := [⟨some 1, none, 6, pRat a1⟩, ⟨some 3, none, 8, pRat b1⟩, ⟨some 4, none, 9, pRat (a1 + b1)⟩, ⟨some 6, none, 11, pRat a2⟩, ⟨some 8, none, 13, pRat b2⟩, ⟨some 9, none, 14, pRat (a2 + b2)⟩, ⟨some 10, none, 15, pPair (a1 + b1) (a2 + b2)⟩]) (V2 := [⟨2, none, 43, 6, true, pPair a1 a2, []⟩, ⟨3, none, 43, 6, true, pPair b1 b2, []⟩, ⟨4, none, 43, 6, true, pPair (a1 + b1) (a2 + b2), []⟩]) (A2 := []) (G2 := []) hI rfl rfl rfl [0, 1, 0, 4, 15, 0, 32, 0, 128, 511, 1023, 2047] (by kernel_rfl) (by kernel_rfl) (by kernel_rfl) (by kernel_rfl) ?_ [0, 1, 2] [] [] rfl rfl rfl fun a w hI => ?_
  · exact ⟨op_field 0 rfl rfl 0 rfl rfl rfl rfl (.inl ⟨rfl, rfl⟩) rfl (by kernel_rfl) (fun b w => fa_Pair_0 b 0 w),
      op_loadAl 0 rfl 0 rfl rfl rfl rfl rfl trivial rfl (by kernel_rfl) ty_Ratio rfl rfl (fd_get (fs := [⟨true, 3, pRat a1⟩, ⟨true, 3, pRat a2⟩]) 0 (f := ⟨true, 3, pRat a1⟩) rfl (off := 0) rfl) (.here 0 rfl),
      op_field 1 rfl rfl 1 rfl rfl rfl rfl (.inl ⟨rfl, rfl⟩) rfl (by kernel_rfl) (fun b w => fa_Pair_0 b 0 w),
      op_loadAl 1 rfl 1 rfl rfl rfl rfl rfl trivial rfl (by kernel_rfl) ty_Ratio rfl rfl (fd_get (fs := [⟨true, 3, pRat b1⟩, ⟨true, 3, pRat b2⟩]) 0 (f := ⟨true, 3, pRat b1⟩) rfl (off := 0) rfl) (.here 1 rfl),
      op_call2 (fun _ _ => by kernel_rfl) (numlike_rat _) (.tmp 0 rfl rfl) (.tmp 1 rfl rfl) (.here 2 rfl) (c_add ha.1 hb.1 (by omega)),
      op_field 0 rfl rfl 2 rfl rfl rfl rfl (.inl ⟨rfl, rfl⟩) rfl (by kernel_rfl) (fun b w => fa_Pair_1 b 0 w),
      op_loadAl 0 rfl 2 rfl rfl rfl rfl rfl trivial rfl (by kernel_rfl) ty_Ratio rfl rfl (fd_get (fs := [⟨true, 3, pRat a1⟩, ⟨true, 3, pRat a2⟩]) 1 (f := ⟨true, 3, pRat a2⟩) rfl (off := 3) rfl) (.here 3 rfl),
      op_field 1 rfl rfl 3 rfl rfl rfl rfl (.inl ⟨rfl, rfl⟩) rfl (by kernel_rfl) (fun b w => fa_Pair_1 b 0 w),
      op_loadAl 1 rfl 3 rfl rfl rfl rfl rfl trivial rfl (by kernel_rfl) ty_Ratio rfl rfl (fd_get (fs := [⟨true, 3, pRat b1⟩, ⟨true, 3, pRat b2⟩]) 1 (f := ⟨true, 3, pRat b2⟩) rfl (off := 3) rfl) (.here 4 rfl),
      op_call2 (fun _ _ => by kernel_rfl) (numlike_rat _) (.tmp 3 rfl rfl) (.tmp 4 rfl rfl) (.here 5 rfl) (c_add ha.2 hb.2 (by omega)),
      op_build (fs := [⟨true, 3, pRat 0⟩, ⟨true, 3, pRat 0⟩]) (ps := [(0, pRat (a1 + b1)), (1, pRat (a2 + b2))]) bt_Pair (places_ok (by kernel_rfl)) (cells_pair0) (show HasParts _ _ _ _ _ _ from ⟨⟨rfl, (.tmp 2 rfl rfl), _, rfl, fits_rat _⟩, ⟨rfl, (.tmp 5 rfl rfl), _, rfl, fits_rat _⟩, trivial⟩) rfl (.here 6 rfl),
      op_store 2 rfl rfl rfl 0 rfl (by kernel_rfl) (by kernel_rfl) ty_Pair (.tmp 6 rfl rfl) (fits_pair _ _),
      trivial⟩
  refine wp_ret ?_
  exact fin1 hI rfl (.cell 2 rfl rfl rfl ty_Pair rfl)
set_option maxRecDepth 100000 in
theorem cp_mul {a1 a2 b1 b2 : Rat} {j k : Nat} (ha : BdR j a1 ∧ BdR j a2) (hb : BdR k b1 ∧ BdR k b2) (hj : (j + k) + (j + k) + (j + k) + (j + k) + 1 ≤ 100000000) : ∀ (M : Nat → Prop) (w : World) (v0 v1 : Value), Mid M w → Box M (fun w => (pPair a1 a2) w v0) w → Box M (fun w => (pPair b1 b2) w v1) w → Calls Try.prog 22 #[v0, v1] w (RetB M (pPair ((a1 * b1) - (a2 * b2)) ((a1 * b2) + (a2 * b1))) w) := by
  intro M w0 v0 v1 hM hv0 hv1
  refine calls_start (N := 28) Try.func22 rfl rfl rfl hM (show EntsA M w0 [v0, v1] [⟨none, none, 0, pPair a1 a2⟩, ⟨none, none, 1, pPair b1 b2⟩] from ⟨⟨rfl, _, rfl, hv0⟩, ⟨rfl, _, rfl, hv1⟩, trivial⟩) fun a hI => ?_
  refine seq_text (V1 := [⟨2, some 0, 43, 6, true, pPair a1 a2, []⟩, ⟨3, some 1, 43, 6, true, pPair b1 b2, []⟩, ⟨4, some 2, 43, 6, true, pPair 0 0, []⟩]) (A1 := []) (G1 := [⟨none, none, 0, pPair a1 a2⟩, ⟨none, none, 1, pPair b1 b2⟩]) (V2 := [⟨2, none, 43, 6, true, pPair a1 a2, []⟩, ⟨3, none, 43, 6, true, pPair b1 b2, []⟩, ⟨4, none, 43, 6, true, pPair 0 0, []⟩]) (A2 := []) (G2 := []) hI rfl rfl rfl [0, 1, 3] (by kernel_rfl) (by kernel_rfl) ?_ [0, 1, 2] [] [] rfl rfl rfl fun a w hI => ?_
  · exact ⟨op_box 0 rfl rfl (by kernel_rfl) (by kernel_rfl) rfl rfl (.tmp 0 rfl rfl) (fits_pair _ _) rfl,
      op_box 1 rfl rfl (by kernel_rfl) (by kernel_rfl) rfl rfl (.tmp 1 rfl rfl) (fits_pair _ _) rfl,
      op_alloc 2 rfl rfl (by kernel_rfl) (by kernel_rfl) rfl rfl zv_Pair rfl rfl (by simp [NoU]) (fun w => pS_of (cells_pair0 w)),
      trivial⟩
  refine seq_drawn (V1 := [⟨2, none, 43, 6, true, pPair a1 a2, []⟩, ⟨3, none, 43, 6, true, pPair b1 b2, []⟩, ⟨4, none, 43, 6, true, pPair 0 0, [(23, pPair ((a1 * b1) - (a2 * b2)) ((a1 * b2) + (a2 * b1)))]⟩]) (A1 := [⟨some 0, 5, 2, 0, True⟩, ⟨some 2, 7, 3, 0, True⟩, ⟨some 5, 10, 2, 3, True⟩, ⟨some 7, 12, 3, 3, True⟩, ⟨some 11, 16, 2, 0, True⟩, ⟨some 13, 18, 3, 3, True⟩, ⟨some 16, 21, 2, 3, True⟩, ⟨some 18, 23, 3, 0, True⟩]) (G1 := [⟨some 1, none, 6, pRat a1⟩, ⟨some 3, none, 8, pRat b1⟩, ⟨some 4, none, 9, pRat (a1 * b1)⟩, ⟨some 6, none, 11, pRat a2⟩, ⟨some 8, none, 13, pRat b2⟩, ⟨some 9, none, 14, pRat (a2 * b2)⟩, ⟨some 10, none, 15, pRat ((a1 * b1) - (a2 * b2))⟩, ⟨some 12, none, 17, pRat a1⟩, ⟨some 14, none, 19, pRat b2⟩, ⟨some 15, none, 20, pRat (a1 * b2)⟩, ⟨some 17, none, 22, pRat a2⟩, ⟨some 19, none, 24, pRat b1⟩, ⟨some 20, none, 25, pRat (a2 * b1)⟩, ⟨some 21, none, 26, pRat ((a1 * b2) + (a2 * b1))⟩, ⟨some 22, none, 27, pPair ((a1 * b1) - (a2 * b2)) ((a1 * b2) + (a2 * b1))⟩]) (V2 := [⟨2, none, 43, 6, true, pPair a1 a2, []⟩, ⟨3, none, 43, 6, true, pPair b1 b2, []⟩, ⟨4, none, 43, 6, true, pPair ((a1 * b1) - (a2 * b2)) ((a1 * b2) + (a2 * b1)), []⟩]) (A2 := []) (G2 := []) hI rfl rfl rfl [0, 1, 0, 4, 15, 0, 32, 0, 128, 511, 1023, 0, 2048, 0, 8192, 32767, 0, 65536, 0, 262144, 1048575, 2097151, 4194303, 8388607] (by kernel_rfl) (by kernel_rfl) (by kernel_rfl) (by kernel_rfl) ?_ [0, 1, 2] [] [] rfl rfl rfl fun a w hI => ?_
  · exact ⟨op_field 0 rfl rfl 0 rfl rfl rfl rfl (.inl ⟨rfl, rfl⟩) rfl (by kernel_rfl) (fun b w => fa_Pair_0 b 0 w),
      op_loadAl 0 rfl 0 rfl rfl rfl rfl rfl trivial rfl (by kernel_rfl) ty_Ratio rfl rfl (fd_get (fs := [⟨true, 3, pRat a1⟩, ⟨true, 3, pRat a2⟩]) 0 (f := ⟨true, 3, pRat a1⟩) rfl (off := 0) rfl) (.here 0 rfl),
      op_field 1 rfl rfl 1 rfl rfl rfl rfl (.inl ⟨rfl, rfl⟩) rfl (by kernel_rfl) (fun b w => fa_Pair_0 b 0 w),
      op_loadAl 1 rfl 1 rfl rfl rfl rfl rfl trivial rfl (by kernel_rfl) ty_Ratio rfl rfl (fd_get (fs := [⟨true, 3, pRat b1⟩, ⟨true, 3, pRat b2⟩]) 0 (f := ⟨true, 3, pRat b1⟩) rfl (off := 0) rfl) (.here 1 rfl),
      op_call2 (fun _ _ => by kernel_rfl) (numlike_rat _) (.tmp 0 rfl rfl) (.tmp 1 rfl rfl) (.here 2 rfl) (c_mul ha.1 hb.1 (by omega)),
      op_field 0 rfl rfl 2 rfl rfl rfl rfl (.inl ⟨rfl, rfl⟩) rfl (by kernel_rfl) (fun b w => fa_Pair_1 b 0 w),
      op_loadAl 0 rfl 2 rfl rfl rfl rfl rfl trivial rfl (by kernel_rfl) ty_Ratio rfl rfl (fd_get (fs := [⟨true, 3, pRat a1⟩, ⟨true, 3, pRat a2⟩]) 1 (f := ⟨true, 3, pRat a2⟩) rfl (off := 3) rfl) (.here 3 rfl),
      op_field 1 rfl rfl 3 rfl rfl rfl rfl (.inl ⟨rfl, rfl⟩) rfl (by kernel_rfl) (fun b w => fa_Pair_1 b 0 w),
      op_loadAl 1 rfl 3 rfl rfl rfl rfl rfl trivial rfl (by kernel_rfl) ty_Ratio rfl rfl (fd_get (fs := [⟨true, 3, pRat b1⟩, ⟨true, 3, pRat b2⟩]) 1 (f := ⟨true, 3, pRat b2⟩) rfl (off := 3) rfl) (.here 4 rfl),
      op_call2 (fun _ _ => by kernel_rfl) (numlike_rat _) (.tmp 3 rfl rfl) (.tmp 4 rfl rfl) (.here 5 rfl) (c_mul ha.2 hb.2 (by omega)),
      op_call2 (fun _ _ => by kernel_rfl) (numlike_rat _) (.tmp 2 rfl rfl) (.tmp 5 rfl rfl) (.here 6 rfl) (c_sub ((ha.1).mul hb.1) ((ha.2).mul hb.2) (by omega)),
      op_field 0 rfl rfl 4 rfl rfl rfl rfl (.inl ⟨rfl, rfl⟩) rfl (by kernel_rfl) (fun b w => fa_Pair_0 b 0 w),
      op_loadAl 0 rfl 4 rfl rfl rfl rfl rfl trivial rfl (by kernel_rfl) ty_Ratio rfl rfl (fd_get (fs := [⟨true, 3, pRat a1⟩, ⟨true, 3, pRat a2⟩]) 0 (f := ⟨true, 3, pRat a1⟩) rfl (off := 0) rfl) (.here 7 rfl),
      op_field 1 rfl rfl 5 rfl rfl rfl rfl (.inl ⟨rfl, rfl⟩) rfl (by kernel_rfl) (fun b w => fa_Pair_1 b 0 w),
      op_loadAl 1 rfl 5 rfl rfl rfl rfl rfl trivial rfl (by kernel_rfl) ty_Ratio rfl rfl (fd_get (fs := [⟨true, 3, pRat b1⟩, ⟨true, 3, pRat b2⟩]) 1 (f := ⟨true, 3, pRat b2⟩) rfl (off := 3) rfl) (.here 8 rfl),
      op_call2 (fun _ _ => by kernel_rfl) (numlike_rat _) (.tmp 7 rfl rfl) (.tmp 8 rfl rfl) (.here 9 rfl) (c_mul ha.1 hb.2 (by omega)),
      op_field 0 rfl rfl 6 rfl rfl rfl rfl (.inl ⟨rfl, rfl⟩) rfl (by kernel_rfl) (fun b w => fa_Pair_1 b 0 w),
      op_loadAl 0 rfl 6 rfl rfl rfl rfl rfl trivial rfl (by kernel_rfl) ty_Ratio rfl rfl (fd_get (fs := [⟨true, 3, pRat a1⟩, ⟨true, 3, pRat a2⟩]) 1 (f := ⟨true, 3, pRat a2⟩) rfl (off := 3) rfl) (.here 10 rfl),
      op_field 1 rfl rfl 7 rfl rfl rfl rfl (.inl ⟨rfl, rfl⟩) rfl (by kernel_rfl) (fun b w => fa_Pair_0 b 0 w),
      op_loadAl 1 rfl 7 rfl rfl rfl rfl rfl trivial rfl (by kernel_rfl) ty_Ratio rfl rfl (fd_get (fs := [⟨true, 3, pRat b1⟩, ⟨true, 3, pRat b2⟩]) 0 (f := ⟨true, 3, pRat b1⟩) rfl (off := 0) rfl) (.here 11 rfl),
      op_call2 (fun _ _ => by kernel_rfl) (numlike_rat _) (.tmp 10 rfl rfl) (.tmp 11 rfl rfl) (.here 12 rfl) (c_mul ha.2 hb.1 (by omega)),
      op_call2 (fun _ _ => by kernel_rfl) (numlike_rat _) (.tmp 9 rfl rfl) (.tmp 12 rfl rfl) (.here 13 rfl) (c_add ((ha.1).mul hb.2) ((ha.2).mul hb.1) (by omega)),
      op_build (fs := [⟨true, 3, pRat 0⟩, ⟨true, 3, pRat 0⟩]) (ps := [(0, pRat ((a1 * b1) - (a2 * b2))), (1, pRat ((a1 * b2) + (a2 * b1)))]) bt_Pair (places_ok (by kernel_rfl)) (cells_pair0) (show HasParts _ _ _ _ _ _ from ⟨⟨rfl, (.tmp 6 rfl rfl), _, rfl, fits_rat _⟩, ⟨rfl, (.tmp 13 rfl rfl), _, rfl, fits_rat _⟩, trivial⟩) rfl (.here 14 rfl),
      op_store 2 rfl rfl rfl 0 rfl (by kernel_rfl) (by kernel_rfl) ty_Pair (.tmp 14 rfl rfl) (fits_pair _ _),
      trivial⟩
  refine wp_ret ?_
  exact fin1 hI rfl (.cell 2 rfl rfl rfl ty_Pair rfl)
set_option maxRecDepth 100000 in
theorem cp_norm {a1 a2 : Rat} {j : Nat} (ha : BdR j a1 ∧ BdR j a2) (hj : (j + j) + (j + j) + (j + j) + (j + j) + 1 ≤ 100000000) : ∀ (M : Nat → Prop) (w : World) (v0 : Value), Mid M w → Box M (fun w => (pPair a1 a2) w v0) w → Calls Try.prog 24 #[v0] w (RetB M (pRat ((a1 * a1) + (a2 * a2))) w) := by
  intro M w0 v0 hM hv0
  refine calls_start (N := 14) Try.func24 rfl rfl rfl hM (show EntsA M w0 [v0] [⟨none, none, 0, pPair a1 a2⟩] from ⟨⟨rfl, _, rfl, hv0⟩, trivial⟩) fun a hI => ?_
  refine seq_text (V1 := [⟨1, some 0, 43, 6, true, pPair a1 a2, []⟩, ⟨2, some 1, 27, 3, true, pRat 0, []⟩]) (A1 := []) (G1 := [⟨none, none, 0, pPair a1 a2⟩]) (V2 := [⟨1, none, 43, 6, true, pPair a1 a2, []⟩, ⟨2, none, 27, 3, true, pRat 0, []⟩]) (A2 := []) (G2 := []) hI rfl rfl rfl [0, 1] (by kernel_rfl) (by kernel_rfl) ?_ [0, 1] [] [] rfl rfl rfl fun a w hI => ?_
  · exact ⟨op_box 0 rfl rfl (by kernel_rfl) (by kernel_rfl) rfl rfl (.tmp 0 rfl rfl) (fits_pair _ _) rfl,
      op_alloc 1 rfl rfl (by kernel_rfl) (by kernel_rfl) rfl rfl zv_Ratio rfl rfl (by simp [NoU]) (fun w => isRat_zero w),
      trivial⟩
  refine seq_drawn (V1 := [⟨1, none, 43, 6, true, pPair a1 a2, []⟩, ⟨2, none, 27, 3, true, pRat 0, [(11, pRat ((a1 * a1) + (a2 * a2)))]⟩]) (A1 := [⟨some 0, 3, 1, 0, True⟩, ⟨some 2, 5, 1, 0, True⟩, ⟨some 5, 8, 1, 3, True⟩, ⟨some 7, 10, 1, 3, True⟩]) (G1 := [⟨some 1, none, 4, pRat a1⟩, ⟨some 3, none, 6, pRat a1⟩, ⟨some 4, none, 7, pRat (a1 * a1)⟩, ⟨some 6, none, 9, pRat a2⟩, ⟨some 8, none, 11, pRat a2⟩, ⟨some 9, none, 12, pRat (a2 * a2)⟩, ⟨some 10, none, 13, pRat ((a1 * a1) + (a2 * a2))⟩]) (V2 := [⟨1, none, 43, 6, true, pPair a1 a2, []⟩, ⟨2, none, 27, 3, true, pRat ((a1 * a1) + (a2 * a2)), []⟩]) (A2 := []) (G2 := []) hI rfl rfl rfl [0, 1, 0, 4, 15, 0, 32, 0, 128, 511, 1023, 2047] (by kernel_rfl) (by kernel_rfl) (by kernel_rfl) (by kernel_rfl) ?_ [0, 1] [] [] rfl rfl rfl fun a w hI => ?_
  · exact ⟨op_field 0 rfl rfl 0 rfl rfl rfl rfl (.inl ⟨rfl, rfl⟩) rfl (by kernel_rfl) (fun b w => fa_Pair_0 b 0 w),
      op_loadAl 0 rfl 0 rfl rfl rfl rfl rfl trivial rfl (by kernel_rfl) ty_Ratio rfl rfl (fd_get (fs := [⟨true, 3, pRat a1⟩, ⟨true, 3, pRat a2⟩]) 0 (f := ⟨true, 3, pRat a1⟩) rfl (off := 0) rfl) (.here 0 rfl),
      op_field 0 rfl rfl 1 rfl rfl rfl rfl (.inl ⟨rfl, rfl⟩) rfl (by kernel_rfl) (fun b w => fa_Pair_0 b 0 w),
      op_loadAl 0 rfl 1 rfl rfl rfl rfl rfl trivial rfl (by kernel_rfl) ty_Ratio rfl rfl (fd_get (fs := [⟨true, 3, pRat a1⟩, ⟨true, 3, pRat a2⟩]) 0 (f := ⟨true, 3, pRat a1⟩) rfl (off := 0) rfl) (.here 1 rfl),
      op_call2 (fun _ _ => by kernel_rfl) (numlike_rat _) (.tmp 0 rfl rfl) (.tmp 1 rfl rfl) (.here 2 rfl) (c_mul ha.1 ha.1 (by omega)),
      op_field 0 rfl rfl 2 rfl rfl rfl rfl (.inl ⟨rfl, rfl⟩) rfl (by kernel_rfl) (fun b w => fa_Pair_1 b 0 w),
      op_loadAl 0 rfl 2 rfl rfl rfl rfl rfl trivial rfl (by kernel_rfl) ty_Ratio rfl rfl (fd_get (fs := [⟨true, 3, pRat a1⟩, ⟨true, 3, pRat a2⟩]) 1 (f := ⟨true, 3, pRat a2⟩) rfl (off := 3) rfl) (.here 3 rfl),
      op_field 0 rfl rfl 3 rfl rfl rfl rfl (.inl ⟨rfl, rfl⟩) rfl (by kernel_rfl) (fun b w => fa_Pair_1 b 0 w),
      op_loadAl 0 rfl 3 rfl rfl rfl rfl rfl trivial rfl (by kernel_rfl) ty_Ratio rfl rfl (fd_get (fs := [⟨true, 3, pRat a1⟩, ⟨true, 3, pRat a2⟩]) 1 (f := ⟨true, 3, pRat a2⟩) rfl (off := 3) rfl) (.here 4 rfl),
      op_call2 (fun _ _ => by kernel_rfl) (numlike_rat _) (.tmp 3 rfl rfl) (.tmp 4 rfl rfl) (.here 5 rfl) (c_mul ha.2 ha.2 (by omega)),
      op_call2 (fun _ _ => by kernel_rfl) (numlike_rat _) (.tmp 2 rfl rfl) (.tmp 5 rfl rfl) (.here 6 rfl) (c_add ((ha.1).mul ha.1) ((ha.2).mul ha.2) (by omega)),
      op_store 1 rfl rfl rfl 0 rfl (by kernel_rfl) (by kernel_rfl) ty_Ratio (.tmp 6 rfl rfl) (fits_rat _),
      trivial⟩
  refine wp_ret ?_
  exact fin1 hI rfl (.cell 1 rfl rfl rfl ty_Ratio rfl)
set_option maxRecDepth 100000 in
theorem cp_less {a1 a2 b1 b2 : Rat} {j k : Nat} (ha : BdR j a1 ∧ BdR j a2) (hb : BdR k b1 ∧ BdR k b2) (hj : j + k + j + k + 1 ≤ 100000000) : ∀ (M : Nat → Prop) (w : World) (v0 v1 : Value), Mid M w → Box M (fun w => (pPair a1 a2) w v0) w → Box M (fun w => (pPair b1 b2) w v1) w → Calls Try.prog 60 #[v0, v1] w (RetB M (pPair (a1 - b1) (a2 - b2)) w) := by
  intro M w0 v0 v1 hM hv0 hv1
  refine calls_start (N := 11) Try.func60 rfl rfl rfl hM (show EntsA M w0 [v0, v1] [⟨none, none, 0, pPair a1 a2⟩, ⟨none, none, 1, pPair b1 b2⟩] from ⟨⟨rfl, _, rfl, hv0⟩, ⟨rfl, _, rfl, hv1⟩, trivial⟩) fun a hI => ?_
  refine seq_text (V1 := [⟨2, some 0, 43, 6, true, pPair a1 a2, []⟩, ⟨3, some 1, 43, 6, true, pPair b1 b2, []⟩, ⟨4, some 2, 43, 6, true, pPair 0 0, []⟩]) (A1 := []) (G1 := [⟨none, none, 0, pPair a1 a2⟩, ⟨none, none, 1, pPair b1 b2⟩]) (V2 := [⟨2, none, 43, 6, true, pPair a1 a2, []⟩, ⟨3, none, 43, 6, true, pPair b1 b2, []⟩, ⟨4, none, 43, 6, true, pPair 0 0, []⟩]) (A2 := []) (G2 := []) hI rfl rfl rfl [0, 1, 3] (by kernel_rfl) (by kernel_rfl) ?_ [0, 1, 2] [] [] rfl rfl rfl fun a w hI => ?_
  · exact ⟨op_box 0 rfl rfl (by kernel_rfl) (by kernel_rfl) rfl rfl (.tmp 0 rfl rfl) (fits_pair _ _) rfl,
      op_box 1 rfl rfl (by kernel_rfl) (by kernel_rfl) rfl rfl (.tmp 1 rfl rfl) (fits_pair _ _) rfl,
      op_alloc 2 rfl rfl (by kernel_rfl) (by kernel_rfl) rfl rfl zv_Pair rfl rfl (by simp [NoU]) (fun w => pS_of (cells_pair0 w)),
      trivial⟩
  refine seq_drawn (V1 := [⟨2, none, 43, 6, true, pPair a1 a2, []⟩, ⟨3, none, 43, 6, true, pPair b1 b2, []⟩, ⟨4, none, 43, 6, true, pPair 0 0, [(6, pPair (a1 + (-b1)) (a2 + (-b2)))]⟩]) (A1 := []) (G1 := [⟨some 0, none, 5, pPair a1 a2⟩, ⟨some 1, none, 6, pIface 43 (pPair a1 a2)⟩, ⟨some 2, none, 7, pPair b1 b2⟩, ⟨some 3, none, 8, pIface 43 (pPair b1 b2)⟩, ⟨some 4, none, 9, pPair (-b1) (-b2)⟩, ⟨some 5, none, 10, pPair (a1 + (-b1)) (a2 + (-b2))⟩]) (V2 := [⟨2, none, 43, 6, true, pPair a1 a2, []⟩, ⟨3, none, 43, 6, true, pPair b1 b2, []⟩, ⟨4, none, 43, 6, true, pPair (a1 + (-b1)) (a2 + (-b2)), []⟩]) (A2 := []) (G2 := []) hI rfl rfl rfl [0, 1, 0, 4, 12, 31, 63] (by kernel_rfl) (by kernel_rfl) (by kernel_rfl) (by kernel_rfl) ?_ [0, 1, 2] [] [] rfl rfl rfl fun a w hI => ?_
  · exact ⟨op_load 0 rfl rfl rfl (by kernel_rfl) ty_Pair rfl (.here 0 rfl),
      op_iface (.tmp 0 rfl rfl) (fun _ _ => by kernel_rfl) (.here 1 rfl),
      op_load 1 rfl rfl rfl (by kernel_rfl) ty_Pair rfl (.here 2 rfl),
      op_iface (.tmp 2 rfl rfl) (fun _ _ => by kernel_rfl) (.here 3 rfl),
      op_invoke0 (fun _ _ _ => by kernel_rfl) (.tmp 3 rfl rfl) (.here 4 rfl) (cp_neg _ _),
      op_invoke1 (fun _ _ _ => by kernel_rfl) (.tmp 1 rfl rfl) (.tmp 4 rfl rfl) (.here 5 rfl) (cp_add (j := j) (k := k) ⟨ha.1, ha.2⟩ ⟨(hb.1).neg, (hb.2).neg⟩ (by omega)),
      op_store 2 rfl rfl rfl 0 rfl (by kernel_rfl) (by kernel_rfl) ty_Pair (.tmp 5 rfl rfl) (fits_pair _ _),
      trivial⟩
  refine wp_ret ?_
  exact fin1 hI rfl (.imp (.cell 2 rfl rfl rfl ty_Pair rfl) (by rw [Rat.sub_eq_add_neg, Rat.sub_eq_add_neg]; exact fun _ _ h => h))
set_option maxRecDepth 100000 in
theorem cp_sub {a1 a2 b1 b2 : Rat} {j k : Nat} (ha : BdR j a1 ∧ BdR j a2) (hb : BdR k b1 ∧ BdR k b2) (hj : j + k + j + k + 1 ≤ 100000000) : ∀ (M : Nat → Prop) (w : World) (v0 v1 : Value), Mid M w → Box M (fun w => (pPair a1 a2) w v0) w → Box M (fun w => (pPair b1 b2) w v1) w → Calls Try.prog 23 #[v0, v1] w (RetB M (pPair (a1 - b1) (a2 - b2)) w) := by
  intro M w0 v0 v1 hM hv0 hv1
  refine calls_start (N := 8) Try.func23 rfl rfl rfl hM (show EntsA M w0 [v0, v1] [⟨none, none, 0, pPair a1 a2⟩, ⟨none, none, 1, pPair b1 b2⟩] from ⟨⟨rfl, _, rfl, hv0⟩, ⟨rfl, _, rfl, hv1⟩, trivial⟩) fun a hI => ?_
  refine seq_text (V1 := [⟨2, some 0, 43, 6, true, pPair a1 a2, []⟩, ⟨3, some 1, 43, 6, true, pPair b1 b2, []⟩, ⟨4, some 2, 43, 6, true, pPair 0 0, []⟩]) (A1 := []) (G1 := [⟨none, none, 0, pPair a1 a2⟩, ⟨none, none, 1, pPair b1 b2⟩]) (V2 := [⟨2, none, 43, 6, true, pPair a1 a2, []⟩, ⟨3, none, 43, 6, true, pPair b1 b2, []⟩, ⟨4, none, 43, 6, true, pPair 0 0, []⟩]) (A2 := []) (G2 := []) hI rfl rfl rfl [0, 1, 3] (by kernel_rfl) (by kernel_rfl) ?_ [0, 1, 2] [] [] rfl rfl rfl fun a w hI => ?_
  · exact ⟨op_box 0 rfl rfl (by kernel_rfl) (by kernel_rfl) rfl rfl (.tmp 0 rfl rfl) (fits_pair _ _) rfl,
      op_box 1 rfl rfl (by kernel_rfl) (by kernel_rfl) rfl rfl (.tmp 1 rfl rfl) (fits_pair _ _) rfl,
      op_alloc 2 rfl rfl (by kernel_rfl) (by kernel_rfl) rfl rfl zv_Pair rfl rfl (by simp [NoU]) (fun w => pS_of (cells_pair0 w)),
      trivial⟩
  refine seq_text (V1 := [⟨2, none, 43, 6, true, pPair a1 a2, []⟩, ⟨3, none, 43, 6, true, pPair b1 b2, []⟩, ⟨4, none, 43, 6, true, pPair 0 0, [(3, pPair (a1 - b1) (a2 - b2))]⟩]) (A1 := []) (G1 := [⟨some 0, none, 5, pPair a1 a2⟩, ⟨some 1, none, 6, pPair b1 b2⟩, ⟨some 2, none, 7, pPair (a1 - b1) (a2 - b2)⟩]) (V2 := [⟨2, none, 43, 6, true, pPair a1 a2, []⟩, ⟨3, none, 43, 6, true, pPair b1 b2, []⟩, ⟨4, none, 43, 6, true, pPair (a1 - b1) (a2 - b2), []⟩]) (A2 := []) (G2 := []) hI rfl rfl rfl [0, 1, 3, 7] (by kernel_rfl) (by kernel_rfl) ?_ [0, 1, 2] [] [] rfl rfl rfl fun a w hI => ?_
  · exact ⟨op_load 0 rfl rfl rfl (by kernel_rfl) ty_Pair rfl (.here 0 rfl),
      op_load 1 rfl rfl rfl (by kernel_rfl) ty_Pair rfl (.here 1 rfl),
      op_callB2 (fun _ _ => by kernel_rfl) (.tmp 0 rfl rfl) (.tmp 1 rfl rfl) (.here 2 rfl) (cp_less (j := j) (k := k) ⟨ha.1, ha.2⟩ ⟨hb.1, hb.2⟩ (by omega)),
      op_store 2 rfl rfl rfl 0 rfl (by kernel_rfl) (by kernel_rfl) ty_Pair (.tmp 2 rfl rfl) (fits_pair _ _),
      trivial⟩
  refine wp_ret ?_
  exact fin1 hI rfl (.cell 2 rfl rfl rfl ty_Pair rfl)
set_option maxRecDepth 100000 in
theorem cp_zero (a1 a2 : Rat) : ∀ (M : Nat → Prop) (w : World) (v0 : Value), Mid M w → Box M (fun w => (pPair a1 a2) w v0) w → Calls Try.prog 29 #[v0] w (RetB M (pB ((decide (a1 = 0)) && (decide (a2 = 0)))) w) := by
  intro M w0 v0 hM hv0
  refine calls_start (N := 11) Try.func29 rfl rfl rfl hM (show EntsA M w0 [v0] [⟨none, none, 0, pPair a1 a2⟩] from ⟨⟨rfl, _, rfl, hv0⟩, trivial⟩) fun a hI => ?_
  refine seq_text (V1 := [⟨1, some 0, 43, 6, true, pPair a1 a2, []⟩]) (A1 := []) (G1 := [⟨none, none, 0, pPair a1 a2⟩, ⟨some 1, none, 2, pB false⟩]) (V2 := [⟨1, none, 43, 6, true, pPair a1 a2, []⟩]) (A2 := []) (G2 := [⟨none, none, 2, pB false⟩]) hI rfl rfl rfl [0, 1] (by kernel_rfl) (by kernel_rfl) ?_ [0] [] [1] rfl rfl rfl fun a w hI => ?_
  · exact ⟨op_box 0 rfl rfl (by kernel_rfl) (by kernel_rfl) rfl rfl (.tmp 0 rfl rfl) (fits_pair _ _) rfl,
      op_assign (.const _) (.here 1 rfl),
      trivial⟩
  refine seq_text (V1 := [⟨1, none, 43, 6, true, pPair a1 a2, []⟩]) (A1 := [⟨some 0, 3, 1, 0, True⟩, ⟨some 4, 7, 1, 3, (decide (a1 = 0)) = true⟩]) (G1 := [⟨none, some 8, 2, pB false⟩, ⟨some 1, none, 4, pRat a1⟩, ⟨some 2, none, 5, pB (decide (a1 = 0))⟩, ⟨some 3, none, 6, pB (decide (a1 = 0))⟩, ⟨some 5, none, 8, pSel ((decide (a1 = 0)) = true) (pRat a2)⟩, ⟨some 6, none, 9, pSel ((decide (a1 = 0)) = true) (pB (decide (a2 = 0)))⟩, ⟨some 7, none, 10, pB ((decide (a1 = 0)) && (decide (a2 = 0)))⟩, ⟨some 8, none, 2, pB ((decide (a1 = 0)) && (decide (a2 = 0)))⟩]) (V2 := [⟨1, none, 43, 6, true, pPair a1 a2, []⟩]) (A2 := []) (G2 := [⟨none, none, 2, pB ((decide (a1 = 0)) && (decide (a2 = 0)))⟩]) hI rfl rfl rfl [0, 1, 3, 7, 15, 31, 63, 127, 255] (by kernel_rfl) (by kernel_rfl) ?_ [0] [] [6] rfl rfl rfl fun a w hI => ?_
  · exact ⟨op_field 0 rfl rfl 0 rfl rfl rfl rfl (.inl ⟨rfl, rfl⟩) rfl (by kernel_rfl) (fun b w => fa_Pair_0 b 0 w),
      op_loadAl 0 rfl 0 rfl rfl rfl rfl rfl trivial rfl (by kernel_rfl) ty_Ratio rfl rfl (fd_get (fs := [⟨true, 3, pRat a1⟩, ⟨true, 3, pRat a2⟩]) 0 (f := ⟨true, 3, pRat a1⟩) rfl (off := 0) rfl) (.here 1 rfl),
      op_call1 (fun _ _ => by kernel_rfl) (numlike_eq _) (.tmp 1 rfl rfl) (.here 2 rfl) (c_zero a1),
      op_move (.tmp 2 rfl rfl) (.here 3 rfl),
      op_if 3 rfl rfl (fun hc => op_field 0 rfl rfl 1 rfl rfl rfl rfl (.inl ⟨rfl, rfl⟩) rfl (by kernel_rfl) (fun b w => fa_Pair_1 b 0 w)) (by kernel_rfl) (fun hc => .at_ 1 rfl rfl rfl hc) (fun hc => .none (by kernel_rfl)),
      op_if 3 rfl rfl (fun hc => op_loadAl 0 rfl 1 rfl rfl rfl rfl rfl hc rfl (by kernel_rfl) ty_Ratio rfl rfl (fd_get (fs := [⟨true, 3, pRat a1⟩, ⟨true, 3, pRat a2⟩]) 1 (f := ⟨true, 3, pRat a2⟩) rfl (off := 3) rfl) (.sel hc 4 rfl)) (by kernel_rfl) (fun _ => .none (by kernel_rfl)) (fun hc => .sel_no hc 4 rfl),
      op_if 3 rfl rfl (fun hc => op_call1 (fun _ _ => by kernel_rfl) (numlike_eq _) (.sel (.tmp 4 rfl rfl) hc) (.sel hc 5 rfl) (c_zero a2)) (by kernel_rfl) (fun _ => .none (by kernel_rfl)) (fun hc => .sel_no hc 5 rfl),
      op_pick (.tmp 3 rfl rfl) (fun h => .imp (.sel (.tmp 5 rfl rfl) (h)) fun _ _ e => by rw [h]; exact e) (fun h => .imp (.const _) fun _ _ e => by rw [h]; exact e) (.here 6 rfl),
      op_assign (.tmp 6 rfl rfl) (.here 7 rfl),
      trivial⟩
  refine wp_ret ?_
  exact fin1 hI rfl (.tmp 0 rfl)
set_option maxRecDepth 100000 in
theorem cp_same (a1 a2 b1 b2 : Rat) : ∀ (M : Nat → Prop) (w : World) (v0 v1 : Value), Mid M w → Box M (fun w => (pPair a1 a2) w v0) w → Box M (fun w => (pPair b1 b2) w v1) w → Calls Try.prog 21 #[v0, v1] w (RetB M (pB ((decide (a1 = b1)) && (decide (a2 = b2)))) w) := by
  intro M w0 v0 v1 hM hv0 hv1
  refine calls_start (N := 17) Try.func21 rfl rfl rfl hM (show EntsA M w0 [v0, v1] [⟨none, none, 0, pPair a1 a2⟩, ⟨none, none, 1, pPair b1 b2⟩] from ⟨⟨rfl, _, rfl, hv0⟩, ⟨rfl, _, rfl, hv1⟩, trivial⟩) fun a hI => ?_
  refine seq_text (V1 := [⟨2, some 0, 43, 6, true, pPair a1 a2, []⟩, ⟨3, some 1, 43, 6, true, pPair b1 b2, []⟩]) (A1 := []) (G1 := [⟨none, none, 0, pPair a1 a2⟩, ⟨none, none, 1, pPair b1 b2⟩, ⟨some 2, none, 4, pB false⟩]) (V2 := [⟨2, none, 43, 6, true, pPair a1 a2, []⟩, ⟨3, none, 43, 6, true, pPair b1 b2, []⟩]) (A2 := []) (G2 := [⟨none, none, 4, pB false⟩]) hI rfl rfl rfl [0, 1, 3] (by kernel_rfl) (by kernel_rfl) ?_ [0, 1] [] [2] rfl rfl rfl fun a w hI => ?_
  · exact ⟨op_box 0 rfl rfl (by kernel_rfl) (by kernel_rfl) rfl rfl (.tmp 0 rfl rfl) (fits_pair _ _) rfl,
      op_box 1 rfl rfl (by kernel_rfl) (by kernel_rfl) rfl rfl (.tmp 1 rfl rfl) (fits_pair _ _) rfl,
      op_assign (.const _) (.here 2 rfl),
      trivial⟩
  refine seq_text (V1 := [⟨2, none, 43, 6, true, pPair a1 a2, []⟩, ⟨3, none, 43, 6, true, pPair b1 b2, []⟩]) (A1 := [⟨some 0, 5, 2, 0, True⟩, ⟨some 2, 7, 3, 0, True⟩, ⟨some 6, 11, 2, 3, (decide (a1 = b1)) = true⟩, ⟨some 8, 13, 3, 3, (decide (a1 = b1)) = true⟩]) (G1 := [⟨none, some 12, 4, pB false⟩, ⟨some 1, none, 6, pRat a1⟩, ⟨some 3, none, 8, pRat b1⟩, ⟨some 4, none, 9, pB (decide (a1 = b1))⟩, ⟨some 5, none, 10, pB (decide (a1 = b1))⟩, ⟨some 7, none, 12, pSel ((decide (a1 = b1)) = true) (pRat a2)⟩, ⟨some 9, none, 14, pSel ((decide (a1 = b1)) = true) (pRat b2)⟩, ⟨some 10, none, 15, pSel ((decide (a1 = b1)) = true) (pB (decide (a2 = b2)))⟩, ⟨some 11, none, 16, pB ((decide (a1 = b1)) && (decide (a2 = b2)))⟩, ⟨some 12, none, 4, pB ((decide (a1 = b1)) && (decide (a2 = b2)))⟩]) (V2 := [⟨2, none, 43, 6, true, pPair a1 a2, []⟩, ⟨3, none, 43, 6, true, pPair b1 b2, []⟩]) (A2 := []) (G2 := [⟨none, none, 4, pB ((decide (a1 = b1)) && (decide (a2 = b2)))⟩]) hI rfl rfl rfl [0, 1, 3, 7, 15, 31, 63, 127, 255, 511, 1023, 2047, 4095] (by kernel_rfl) (by kernel_rfl) ?_ [0, 1] [] [8] rfl rfl rfl fun a w hI => ?_
  · exact ⟨op_field 0 rfl rfl 0 rfl rfl rfl rfl (.inl ⟨rfl, rfl⟩) rfl (by kernel_rfl) (fun b w => fa_Pair_0 b 0 w),
      op_loadAl 0 rfl 0 rfl rfl rfl rfl rfl trivial rfl (by kernel_rfl) ty_Ratio rfl rfl (fd_get (fs := [⟨true, 3, pRat a1⟩, ⟨true, 3, pRat a2⟩]) 0 (f := ⟨true, 3, pRat a1⟩) rfl (off := 0) rfl) (.here 1 rfl),
      op_field 1 rfl rfl 1 rfl rfl rfl rfl (.inl ⟨rfl, rfl⟩) rfl (by kernel_rfl) (fun b w => fa_Pair_0 b 0 w),
      op_loadAl 1 rfl 1 rfl rfl rfl rfl rfl trivial rfl (by kernel_rfl) ty_Ratio rfl rfl (fd_get (fs := [⟨true, 3, pRat b1⟩, ⟨true, 3, pRat b2⟩]) 0 (f := ⟨true, 3, pRat b1⟩) rfl (off := 0) rfl) (.here 2 rfl),
      op_call2 (fun _ _ => by kernel_rfl) (numlike_eq _) (.tmp 1 rfl rfl) (.tmp 2 rfl rfl) (.here 3 rfl) (c_same a1 b1),
      op_move (.tmp 3 rfl rfl) (.here 4 rfl),
      op_if 4 rfl rfl (fun hc => op_field 0 rfl rfl 2 rfl rfl rfl rfl (.inl ⟨rfl, rfl⟩) rfl (by kernel_rfl) (fun b w => fa_Pair_1 b 0 w)) (by kernel_rfl) (fun hc => .at_ 2 rfl rfl rfl hc) (fun hc => .none (by kernel_rfl)),
      op_if 4 rfl rfl (fun hc => op_loadAl 0 rfl 2 rfl rfl rfl rfl rfl hc rfl (by kernel_rfl) ty_Ratio rfl rfl (fd_get (fs := [⟨true, 3, pRat a1⟩, ⟨true, 3, pRat a2⟩]) 1 (f := ⟨true, 3, pRat a2⟩) rfl (off := 3) rfl) (.sel hc 5 rfl)) (by kernel_rfl) (fun _ => .none (by kernel_rfl)) (fun hc => .sel_no hc 5 rfl),
      op_if 4 rfl rfl (fun hc => op_field 1 rfl rfl 3 rfl rfl rfl rfl (.inl ⟨rfl, rfl⟩) rfl (by kernel_rfl) (fun b w => fa_Pair_1 b 0 w)) (by kernel_rfl) (fun hc => .at_ 3 rfl rfl rfl hc) (fun hc => .none (by kernel_rfl)),
      op_if 4 rfl rfl (fun hc => op_loadAl 1 rfl 3 rfl rfl rfl rfl rfl hc rfl (by kernel_rfl) ty_Ratio rfl rfl (fd_get (fs := [⟨true, 3, pRat b1⟩, ⟨true, 3, pRat b2⟩]) 1 (f := ⟨true, 3, pRat b2⟩) rfl (off := 3) rfl) (.sel hc 6 rfl)) (by kernel_rfl) (fun _ => .none (by kernel_rfl)) (fun hc => .sel_no hc 6 rfl),
      op_if 4 rfl rfl (fun hc => op_call2 (fun _ _ => by kernel_rfl) (numlike_eq _) (.sel (.tmp 5 rfl rfl) hc) (.sel (.tmp 6 rfl rfl) hc) (.sel hc 7 rfl) (c_same a2 b2)) (by kernel_rfl) (fun _ => .none (by kernel_rfl)) (fun hc => .sel_no hc 7 rfl),
      op_pick (.tmp 4 rfl rfl) (fun h => .imp (.sel (.tmp 7 rfl rfl) (h)) fun _ _ e => by rw [h]; exact e) (fun h => .imp (.const _) fun _ _ e => by rw [h]; exact e) (.here 8 rfl),
      op_assign (.tmp 8 rfl rfl) (.here 9 rfl),
      trivial⟩
  refine wp_ret ?_
  exact fin1 hI rfl (.tmp 0 rfl)
theorem sq_zero2 {a b : Rat} (h : a * a + b * b = 0) : a = 0 ∧ b = 0 := by
  have sq : ∀ x : Rat, x ≠ 0 → 0 < x * x := by
    intro x hx
    by_cases h : x < 0
    · have h1 : 0 < -x := by grind
      have := Rat.mul_pos h1 h1
      grind
    · exact Rat.mul_pos (by grind) (by grind)
  by_cases ha : a = 0
  · by_cases hb : b = 0
    · exact ⟨ha, hb⟩
    · have := sq b hb; rw [ha] at h; grind
  · have h1 := sq a ha
    by_cases hb : b = 0
    · rw [hb] at h; grind
    · have := sq b hb; grind
set_option maxRecDepth 100000 in
theorem cp_div_ok {a1 a2 b1 b2 : Rat} {j k : Nat} (ha : BdR j a1 ∧ BdR j a2) (hb : BdR k b1 ∧ BdR k b2) (hj : (j + k) + (j + k) + (j + k) + (j + k) + 1 + ((k + k) + (k + k) + (k + k) + (k + k) + 1) ≤ 100000000) (hz : ¬ (b1 = 0 ∧ b2 = 0)) : ∀ (M : Nat → Prop) (w : World) (v0 v1 : Value), Mid M w → Box M (fun w => (pPair a1 a2) w v0) w → Box M (fun w => (pPair b1 b2) w v1) w → Calls Try.prog 28 #[v0, v1] w (RetB M (pTup2 (pPair (((a1 * b1) - (a2 * (-b2))) / ((b1 * b1) + (b2 * b2))) (((a1 * (-b2)) + (a2 * b1)) / ((b1 * b1) + (b2 * b2)))) (pI 0)) w) := by
  intro M w0 v0 v1 hM hv0 hv1
  refine calls_start (N := 26) Try.func28 rfl rfl rfl hM (show EntsA M w0 [v0, v1] [⟨none, none, 0, pPair a1 a2⟩, ⟨none, none, 1, pPair b1 b2⟩] from ⟨⟨rfl, _, rfl, hv0⟩, ⟨rfl, _, rfl, hv1⟩, trivial⟩) fun a hI => ?_
  refine seq_text (V1 := [⟨2, some 0, 43, 6, true, pPair a1 a2, []⟩, ⟨3, some 1, 43, 6, true, pPair b1 b2, []⟩, ⟨4, some 2, 43, 6, true, pPair 0 0, []⟩]) (A1 := []) (G1 := [⟨none, none, 0, pPair a1 a2⟩, ⟨none, none, 1, pPair b1 b2⟩, ⟨some 3, none, 5, pI 0⟩]) (V2 := [⟨2, none, 43, 6, true, pPair a1 a2, []⟩, ⟨3, none, 43, 6, true, pPair b1 b2, []⟩, ⟨4, none, 43, 6, true, pPair 0 0, []⟩]) (A2 := []) (G2 := [⟨none, none, 5, pI 0⟩]) hI rfl rfl rfl [0, 1, 3, 7] (by kernel_rfl) (by kernel_rfl) ?_ [0, 1, 2] [] [2] rfl rfl rfl fun a w hI => ?_
  · exact ⟨op_box 0 rfl rfl (by kernel_rfl) (by kernel_rfl) rfl rfl (.tmp 0 rfl rfl) (fits_pair _ _) rfl,
      op_box 1 rfl rfl (by kernel_rfl) (by kernel_rfl) rfl rfl (.tmp 1 rfl rfl) (fits_pair _ _) rfl,
      op_alloc 2 rfl rfl (by kernel_rfl) (by kernel_rfl) rfl rfl zv_Pair rfl rfl (by simp [NoU]) (fun w => pS_of (cells_pair0 w)),
      op_assign (.const _) (.here 2 rfl),
      trivial⟩
  refine wp_seq ?_
  refine seq_text (V1 := [⟨2, none, 43, 6, true, pPair a1 a2, []⟩, ⟨3, none, 43, 6, true, pPair b1 b2, []⟩, ⟨4, none, 43, 6, true, pPair 0 0, []⟩]) (A1 := []) (G1 := [⟨none, none, 5, pI 0⟩, ⟨some 0, none, 8, pPair b1 b2⟩, ⟨some 1, none, 9, pB false⟩]) (V2 := [⟨2, none, 43, 6, true, pPair a1 a2, []⟩, ⟨3, none, 43, 6, true, pPair b1 b2, []⟩, ⟨4, none, 43, 6, true, pPair 0 0, []⟩]) (A2 := []) (G2 := [⟨none, none, 5, pI 0⟩, ⟨none, none, 9, pB false⟩]) hI rfl rfl rfl [0, 1] (by kernel_rfl) (by kernel_rfl) ?_ [0, 1, 2] [] [0, 2] rfl rfl rfl fun a w hI => ?_
  · exact ⟨op_load 1 rfl rfl rfl (by kernel_rfl) ty_Pair rfl (.here 1 rfl),
      op_callB1 (fun _ _ => by kernel_rfl) (.tmp 1 rfl rfl) (.here 2 rfl) (cb_known1 (b := false) (cp_zero b1 b2) (by rw [← Bool.decide_and]; exact decide_eq_false hz)),
      trivial⟩
  refine cond_no hI 1 rfl ?_
  refine wp_skip ?_
  refine then_of ?_
  refine seq_drawn (V1 := [⟨2, none, 43, 6, true, pPair a1 a2, []⟩, ⟨3, none, 43, 6, true, pPair b1 b2, []⟩, ⟨4, none, 43, 6, true, pPair 0 0, []⟩, ⟨6, some 6, 27, 3, true, pRat 0, [(8, pRat ((b1 * b1) + (b2 * b2)))]⟩, ⟨7, some 7, 43, 6, true, pPair 0 0, [(9, pPair ((a1 * b1) - (a2 * (-b2))) ((a1 * (-b2)) + (a2 * b1)))]⟩]) (A1 := []) (G1 := [⟨none, none, 5, pI 0⟩, ⟨none, none, 9, pB false⟩, ⟨some 0, none, 11, pPair b1 b2⟩, ⟨some 1, none, 12, pRat ((b1 * b1) + (b2 * b2))⟩, ⟨some 2, none, 13, pPair a1 a2⟩, ⟨some 3, none, 14, pPair b1 b2⟩, ⟨some 4, none, 15, pPair b1 (-b2)⟩, ⟨some 5, none, 16, pPair ((a1 * b1) - (a2 * (-b2))) ((a1 * (-b2)) + (a2 * b1))⟩]) (V2 := [⟨2, none, 43, 6, true, pPair a1 a2, []⟩, ⟨3, none, 43, 6, true, pPair b1 b2, []⟩, ⟨4, none, 43, 6, true, pPair 0 0, []⟩, ⟨6, none, 27, 3, true, pRat ((b1 * b1) + (b2 * b2)), []⟩, ⟨7, none, 43, 6, true, pPair ((a1 * b1) - (a2 * (-b2))) ((a1 * (-b2)) + (a2 * b1)), []⟩]) (A2 := []) (G2 := [⟨none, none, 5, pI 0⟩]) hI rfl rfl rfl [0, 1, 0, 0, 11, 31, 0, 0, 255, 511] (by kernel_rfl) (by kernel_rfl) (by kernel_rfl) (by kernel_rfl) ?_ [0, 1, 2, 3, 4] [] [0] rfl rfl rfl fun a w hI => ?_
  · exact ⟨op_load 1 rfl rfl rfl (by kernel_rfl) ty_Pair rfl (.here 2 rfl),
      op_callB1 (fun _ _ => by kernel_rfl) (.tmp 2 rfl rfl) (.here 3 rfl) (cp_norm (j := k) ⟨hb.1, hb.2⟩ (by omega)),
      op_load 0 rfl rfl rfl (by kernel_rfl) ty_Pair rfl (.here 4 rfl),
      op_load 1 rfl rfl rfl (by kernel_rfl) ty_Pair rfl (.here 5 rfl),
      op_callB1 (fun _ _ => by kernel_rfl) (.tmp 5 rfl rfl) (.here 6 rfl) (cp_conj _ _),
      op_callB2 (fun _ _ => by kernel_rfl) (.tmp 4 rfl rfl) (.tmp 6 rfl rfl) (.here 7 rfl) (cp_mul (j := j) (k := k) ⟨ha.1, ha.2⟩ ⟨hb.1, (hb.2).neg⟩ (by omega)),
      op_alloc 3 rfl rfl (by kernel_rfl) (by kernel_rfl) rfl rfl zv_Ratio rfl rfl (by simp [NoU]) (fun w => isRat_zero w),
      op_alloc 4 rfl rfl (by kernel_rfl) (by kernel_rfl) rfl rfl zv_Pair rfl rfl (by simp [NoU]) (fun w => pS_of (cells_pair0 w)),
      op_store 3 rfl rfl rfl 0 rfl (by kernel_rfl) (by kernel_rfl) ty_Ratio (.tmp 3 rfl rfl) (fits_rat _),
      op_store 4 rfl rfl rfl 0 rfl (by kernel_rfl) (by kernel_rfl) ty_Pair (.tmp 7 rfl rfl) (fits_pair _ _),
      trivial⟩
  refine seq_drawn (V1 := [⟨2, none, 43, 6, true, pPair a1 a2, []⟩, ⟨3, none, 43, 6, true, pPair b1 b2, []⟩, ⟨4, none, 43, 6, true, pPair 0 0, [(9, pPair (((a1 * b1) - (a2 * (-b2))) / ((b1 * b1) + (b2 * b2))) (((a1 * (-b2)) + (a2 * b1)) / ((b1 * b1) + (b2 * b2))))]⟩, ⟨6, none, 27, 3, true, pRat ((b1 * b1) + (b2 * b2)), []⟩, ⟨7, none, 43, 6, true, pPair ((a1 * b1) - (a2 * (-b2))) ((a1 * (-b2)) + (a2 * b1)), []⟩]) (A1 := [⟨some 0, 17, 7, 0, True⟩, ⟨some 4, 21, 7, 3, True⟩]) (G1 := [⟨none, some 10, 5, pI 0⟩, ⟨some 1, none, 18, pRat ((a1 * b1) - (a2 * (-b2)))⟩, ⟨some 2, none, 19, pRat ((b1 * b1) + (b2 * b2))⟩, ⟨some 3, none, 20, pRat (((a1 * b1) - (a2 * (-b2))) / ((b1 * b1) + (b2 * b2)))⟩, ⟨some 5, none, 22, pRat ((a1 * (-b2)) + (a2 * b1))⟩, ⟨some 6, none, 23, pRat ((b1 * b1) + (b2 * b2))⟩, ⟨some 7, none, 24, pRat (((a1 * (-b2)) + (a2 * b1)) / ((b1 * b1) + (b2 * b2)))⟩, ⟨some 8, none, 25, pPair (((a1 * b1) - (a2 * (-b2))) / ((b1 * b1) + (b2 * b2))) (((a1 * (-b2)) + (a2 * b1)) / ((b1 * b1) + (b2 * b2)))⟩, ⟨some 10, none, 5, pI 0⟩]) (V2 := [⟨2, none, 43, 6, true, pPair a1 a2, []⟩, ⟨3, none, 43, 6, true, pPair b1 b2, []⟩, ⟨4, none, 43, 6, true, pPair (((a1 * b1) - (a2 * (-b2))) / ((b1 * b1) + (b2 * b2))) (((a1 * (-b2)) + (a2 * b1)) / ((b1 * b1) + (b2 * b2))), []⟩, ⟨6, none, 27, 3, true, pRat ((b1 * b1) + (b2 * b2)), []⟩, ⟨7, none, 43, 6, true, pPair ((a1 * b1) - (a2 * (-b2))) ((a1 * (-b2)) + (a2 * b1)), []⟩]) (A2 := []) (G2 := [⟨none, none, 5, pI 0⟩]) hI rfl rfl rfl [0, 1, 0, 7, 0, 16, 0, 127, 255, 511, 1023] (by kernel_rfl) (by kernel_rfl) (by kernel_rfl) (by kernel_rfl) ?_ [0, 1, 2, 3, 4] [] [7] rfl rfl rfl fun a w hI => ?_
  · exact ⟨op_field 4 rfl rfl 0 rfl rfl rfl rfl (.inl ⟨rfl, rfl⟩) rfl (by kernel_rfl) (fun b w => fa_Pair_0 b 0 w),
      op_loadAl 4 rfl 0 rfl rfl rfl rfl rfl trivial rfl (by kernel_rfl) ty_Ratio rfl rfl (fd_get (fs := [⟨true, 3, pRat ((a1 * b1) - (a2 * (-b2)))⟩, ⟨true, 3, pRat ((a1 * (-b2)) + (a2 * b1))⟩]) 0 (f := ⟨true, 3, pRat ((a1 * b1) - (a2 * (-b2)))⟩) rfl (off := 0) rfl) (.here 1 rfl),
      op_load 3 rfl rfl rfl (by kernel_rfl) ty_Ratio rfl (.here 2 rfl),
      op_call2 (fun _ _ => by kernel_rfl) (numlike_rat _) (.tmp 1 rfl rfl) (.tmp 2 rfl rfl) (.here 3 rfl) (c_by ((((ha.1).mul hb.1)).sub_ ((ha.2).mul (hb.2).neg)) ((((hb.1).mul hb.1)).add ((hb.2).mul hb.2)) (by omega) (fun h => hz (sq_zero2 h))),
      op_field 4 rfl rfl 1 rfl rfl rfl rfl (.inl ⟨rfl, rfl⟩) rfl (by kernel_rfl) (fun b w => fa_Pair_1 b 0 w),
      op_loadAl 4 rfl 1 rfl rfl rfl rfl rfl trivial rfl (by kernel_rfl) ty_Ratio rfl rfl (fd_get (fs := [⟨true, 3, pRat ((a1 * b1) - (a2 * (-b2)))⟩, ⟨true, 3, pRat ((a1 * (-b2)) + (a2 * b1))⟩]) 1 (f := ⟨true, 3, pRat ((a1 * (-b2)) + (a2 * b1))⟩) rfl (off := 3) rfl) (.here 4 rfl),
      op_load 3 rfl rfl rfl (by kernel_rfl) ty_Ratio rfl (.here 5 rfl),
      op_call2 (fun _ _ => by kernel_rfl) (numlike_rat _) (.tmp 4 rfl rfl) (.tmp 5 rfl rfl) (.here 6 rfl) (c_by ((((ha.1).mul (hb.2).neg)).add ((ha.2).mul hb.1)) ((((hb.1).mul hb.1)).add ((hb.2).mul hb.2)) (by omega) (fun h => hz (sq_zero2 h))),
      op_build (fs := [⟨true, 3, pRat 0⟩, ⟨true, 3, pRat 0⟩]) (ps := [(0, pRat (((a1 * b1) - (a2 * (-b2))) / ((b1 * b1) + (b2 * b2)))), (1, pRat (((a1 * (-b2)) + (a2 * b1)) / ((b1 * b1) + (b2 * b2))))]) bt_Pair (places_ok (by kernel_rfl)) (cells_pair0) (show HasParts _ _ _ _ _ _ from ⟨⟨rfl, (.tmp 3 rfl rfl), _, rfl, fits_rat _⟩, ⟨rfl, (.tmp 6 rfl rfl), _, rfl, fits_rat _⟩, trivial⟩) rfl (.here 7 rfl),
      op_store 2 rfl rfl rfl 0 rfl (by kernel_rfl) (by kernel_rfl) ty_Pair (.tmp 7 rfl rfl) (fits_pair _ _),
      op_assign (.const _) (.here 8 rfl),
      trivial⟩
  refine wp_ret ?_
  exact fin2 hI rfl (.cell 2 rfl rfl rfl ty_Pair rfl) (.tmp 0 rfl)
set_option maxRecDepth 100000 in
theorem cp_div_zero {a1 a2 b1 b2 : Rat} {j k : Nat} (ha : BdR j a1 ∧ BdR j a2) (hb : BdR k b1 ∧ BdR k b2) (hj : (j + k) + (j + k) + (j + k) + (j + k) + 1 + ((k + k) + (k + k) + (k + k) + (k + k) + 1) ≤ 100000000) (hz : b1 = 0 ∧ b2 = 0) : ∀ (M : Nat → Prop) (w : World) (v0 v1 : Value), Mid M w → Box M (fun w => (pPair a1 a2) w v0) w → Box M (fun w => (pPair b1 b2) w v1) w → Calls Try.prog 28 #[v0, v1] w (RetB M (pTup2 (pPair ((a1 * b1 - a2 * (-b2)) / (b1 * b1 + b2 * b2)) ((a1 * (-b2) + a2 * b1) / (b1 * b1 + b2 * b2))) (pI 3)) w) := by
  intro M w0 v0 v1 hM hv0 hv1
  refine calls_start (N := 26) Try.func28 rfl rfl rfl hM (show EntsA M w0 [v0, v1] [⟨none, none, 0, pPair a1 a2⟩, ⟨none, none, 1, pPair b1 b2⟩] from ⟨⟨rfl, _, rfl, hv0⟩, ⟨rfl, _, rfl, hv1⟩, trivial⟩) fun a hI => ?_
  refine seq_text (V1 := [⟨2, some 0, 43, 6, true, pPair a1 a2, []⟩, ⟨3, some 1, 43, 6, true, pPair b1 b2, []⟩, ⟨4, some 2, 43, 6, true, pPair 0 0, []⟩]) (A1 := []) (G1 := [⟨none, none, 0, pPair a1 a2⟩, ⟨none, none, 1, pPair b1 b2⟩, ⟨some 3, none, 5, pI 0⟩]) (V2 := [⟨2, none, 43, 6, true, pPair a1 a2, []⟩, ⟨3, none, 43, 6, true, pPair b1 b2, []⟩, ⟨4, none, 43, 6, true, pPair 0 0, []⟩]) (A2 := []) (G2 := [⟨none, none, 5, pI 0⟩]) hI rfl rfl rfl [0, 1, 3, 7] (by kernel_rfl) (by kernel_rfl) ?_ [0, 1, 2] [] [2] rfl rfl rfl fun a w hI => ?_
  · exact ⟨op_box 0 rfl rfl (by kernel_rfl) (by kernel_rfl) rfl rfl (.tmp 0 rfl rfl) (fits_pair _ _) rfl,
      op_box 1 rfl rfl (by kernel_rfl) (by kernel_rfl) rfl rfl (.tmp 1 rfl rfl) (fits_pair _ _) rfl,
      op_alloc 2 rfl rfl (by kernel_rfl) (by kernel_rfl) rfl rfl zv_Pair rfl rfl (by simp [NoU]) (fun w => pS_of (cells_pair0 w)),
      op_assign (.const _) (.here 2 rfl),
      trivial⟩
  refine wp_seq ?_
  refine seq_text (V1 := [⟨2, none, 43, 6, true, pPair a1 a2, []⟩, ⟨3, none, 43, 6, true, pPair b1 b2, []⟩, ⟨4, none, 43, 6, true, pPair 0 0, []⟩]) (A1 := []) (G1 := [⟨none, none, 5, pI 0⟩, ⟨some 0, none, 8, pPair b1 b2⟩, ⟨some 1, none, 9, pB true⟩]) (V2 := [⟨2, none, 43, 6, true, pPair a1 a2, []⟩, ⟨3, none, 43, 6, true, pPair b1 b2, []⟩, ⟨4, none, 43, 6, true, pPair 0 0, []⟩]) (A2 := []) (G2 := [⟨none, none, 5, pI 0⟩, ⟨none, none, 9, pB true⟩]) hI rfl rfl rfl [0, 1] (by kernel_rfl) (by kernel_rfl) ?_ [0, 1, 2] [] [0, 2] rfl rfl rfl fun a w hI => ?_
  · exact ⟨op_load 1 rfl rfl rfl (by kernel_rfl) ty_Pair rfl (.here 1 rfl),
      op_callB1 (fun _ _ => by kernel_rfl) (.tmp 1 rfl rfl) (.here 2 rfl) (cb_known1 (b := true) (cp_zero b1 b2) (by rw [← Bool.decide_and]; exact decide_eq_true hz)),
      trivial⟩
  refine cond_yes hI 1 rfl ?_
  refine seq_text (V1 := [⟨2, none, 43, 6, true, pPair a1 a2, []⟩, ⟨3, none, 43, 6, true, pPair b1 b2, []⟩, ⟨4, none, 43, 6, true, pPair 0 0, [(1, pPair 0 0)]⟩]) (A1 := []) (G1 := [⟨none, some 2, 5, pI 0⟩, ⟨none, none, 9, pB true⟩, ⟨some 0, none, 10, pPair 0 0⟩, ⟨some 2, none, 5, pI 3⟩]) (V2 := [⟨2, none, 43, 6, true, pPair a1 a2, []⟩, ⟨3, none, 43, 6, true, pPair b1 b2, []⟩, ⟨4, none, 43, 6, true, pPair 0 0, []⟩]) (A2 := []) (G2 := [⟨none, none, 5, pI 3⟩]) hI rfl rfl rfl [0, 1, 3] (by kernel_rfl) (by kernel_rfl) ?_ [0, 1, 2] [] [2] rfl rfl rfl fun a w hI => ?_
  · exact ⟨op_build (fs := [⟨true, 3, pRat 0⟩, ⟨true, 3, pRat 0⟩]) (ps := []) bt_Pair (places_ok (by kernel_rfl)) (cells_pair0) trivial rfl (.here 2 rfl),
      op_store 2 rfl rfl rfl 0 rfl (by kernel_rfl) (by kernel_rfl) ty_Pair (.tmp 2 rfl rfl) (fits_pair _ _),
      op_assign (.const _) (.here 3 rfl),
      trivial⟩
  refine wp_ret ?_
  refine then_ret ?_
  exact fin2 hI rfl (.imp (.cell 2 rfl rfl rfl ty_Pair rfl) (by obtain ⟨rfl, rfl⟩ := hz; rw [show a1 * 0 - a2 * (-0) = (0 : Rat) by grind, show a1 * (-0) + a2 * 0 = (0 : Rat) by grind, Rat.div_def, Rat.zero_mul]; exact fun _ _ h => h)) (.tmp 0 rfl)
theorem cp_div {a1 a2 b1 b2 : Rat} {j k : Nat} (ha : BdR j a1 ∧ BdR j a2) (hb : BdR k b1 ∧ BdR k b2) (hj : (j + k) + (j + k) + (j + k) + (j + k) + 1 + ((k + k) + (k + k) + (k + k) + (k + k) + 1) ≤ 100000000) : ∀ (M : Nat → Prop) (w : World) (v0 v1 : Value), Mid M w → Box M (fun w => pPair a1 a2 w v0) w → Box M (fun w => pPair b1 b2 w v1) w → Calls Try.prog 28 #[v0, v1] w (RetB M (pTup2 (pPair ((a1 * b1 - a2 * (-b2)) / (b1 * b1 + b2 * b2)) ((a1 * (-b2) + a2 * b1) / (b1 * b1 + b2 * b2))) (pI (if b1 = 0 ∧ b2 = 0 then 3 else 0))) w) := by
  by_cases h : b1 = 0 ∧ b2 = 0
  · rw [if_pos h]; exact cp_div_zero ha hb hj h
  · rw [if_neg h]; exact cp_div_ok ha hb hj h
end Wx
