import Derived.Handy
import Derived.KernelRfl
import Derived.Test.YtncpoijmhgihjaaProg
import Derived.Test.YtncpoijmhgihjaaPlain1
import Derived.Test.YtncpoijmhgihjaaMem
import Derived.Test.YtncpoijmhgihjaaJIncludes3
import Derived.Test.YtncpoijmhgihjaaCRat1
import Derived.Test.YtncpoijmhgihjaaCRat2
import Derived.Test.YtncpoijmhgihjaaJIncludes16
import Derived.Test.YtncpoijmhgihjaaCInt
import Derived.Test.YtncpoijmhgihjaaInv
import Derived.Test.YtncpoijmhgihjaaJIncludes24
import Derived.Test.YtncpoijmhgihjaaCAwake
import Derived.Test.YtncpoijmhgihjaaSem
import Derived.Test.YtncpoijmhgihjaaSemOps
import Derived.Test.YtncpoijmhgihjaaSemMem
import Derived.Test.YtncpoijmhgihjaaSemCode
import Derived.Test.YtncpoijmhgihjaaCSemData
import Derived.Test.YtncpoijmhgihjaaCSemBuild
import Derived.Test.YtncpoijmhgihjaaJIncludes39
import Derived.Test.YtncpoijmhgihjaaCPairs
namespace Wx
open Go Go.RowKit Go.Proofs
set_option linter.unusedVariables false

/-- A fraction's data fit their kind. -/
def FracOk (n d : Int) : Prop := -9223372036854775808 ≤ n ∧ n ≤ 9223372036854775807 ∧ d ≤ 9223372036854775807
theorem bd_ok {n d : Int} (h : FracOk n d) : BdR 64 (ofR n d) := bd_ofR h.1 h.2.1 h.2.2
theorem c_of {n d : Int} {x : Rat} (e : x = ofR n d) (h : FracOk n d) : ∀ w v1, pFrac n d w v1 → Calls Try.prog 6 #[v1] w (Ret (pRat x) w) := fun w v1 h1 => by
  rw [pFrac_eq h1, e]
  exact of_num w n d h.1 h.2.1 h.2.2
theorem c_awake : ∀ w, Calls Try.prog 15 #[] w (Ret (pB true) w) := fun w => (awake_num w).mono fun _ _ => ret_is
theorem bd_int {z : Int} (h1 : -9223372036854775808 ≤ z) (h2 : z ≤ 9223372036854775807) : BdR 64 (z : Rat) := ⟨by unfold Bd; rw [Rat.num_intCast]; omega, by unfold Bd; rw [Rat.den_intCast]; omega⟩
set_option maxRecDepth 100000 in
theorem cl_join {n1 d1 n2 d2 : Int} {x1 x2 : Rat} (e1 : x1 = ofR n1 d1) (f1 : FracOk n1 d1) (e2 : x2 = ofR n2 d2) (f2 : FracOk n2 d2) : ∀ (M : Nat → Prop) (w : World) (v0 : Value), Mid M w → Box M (fun w => (pS [⟨true, 2, pFrac n1 d1⟩, ⟨true, 2, pFrac n2 d2⟩]) w v0) w → Calls Try.prog 19 #[v0] w (RetB M (pPair x1 x2) w) := by
  intro M w0 v0 hM hv0
  have B1 : BdR 64 x1 := e1 ▸ bd_ok f1
  have B2 : BdR 64 x2 := e2 ▸ bd_ok f2
  refine calls_start (N := 10) Try.func19 rfl rfl rfl hM (show EntsA M w0 [v0] [⟨none, none, 0, pS [⟨true, 2, pFrac n1 d1⟩, ⟨true, 2, pFrac n2 d2⟩]⟩] from ⟨⟨rfl, _, rfl, hv0⟩, trivial⟩) fun a hI => ?_
  refine seq_text (V1 := [⟨1, some 0, 39, 4, true, pS [⟨true, 2, pFrac n1 d1⟩, ⟨true, 2, pFrac n2 d2⟩], []⟩, ⟨2, some 1, 43, 6, true, pPair 0 0, []⟩]) (A1 := []) (G1 := [⟨none, none, 0, pS [⟨true, 2, pFrac n1 d1⟩, ⟨true, 2, pFrac n2 d2⟩]⟩]) (V2 := [⟨1, none, 39, 4, true, pS [⟨true, 2, pFrac n1 d1⟩, ⟨true, 2, pFrac n2 d2⟩], []⟩, ⟨2, none, 43, 6, true, pPair 0 0, []⟩]) (A2 := []) (G2 := []) hI rfl rfl rfl [0, 1] (by kernel_rfl) (by kernel_rfl) ?_ [0, 1] [] [] rfl rfl rfl fun a w hI => ?_
  · exact ⟨op_box 0 rfl rfl (by kernel_rfl) (by kernel_rfl) rfl rfl (.tmp 0 rfl rfl) (fits_s (fs := [⟨true, 2, pFrac n1 d1⟩, ⟨true, 2, pFrac n2 d2⟩]) ⟨fits_frac _ _, fits_frac _ _, trivial⟩ rfl) rfl,
      op_alloc 1 rfl rfl (by kernel_rfl) (by kernel_rfl) rfl rfl zv_Pair rfl rfl (by simp [NoU]) (fun w => pS_of (cells_pair0 w)),
      trivial⟩
  refine seq_drawn (V1 := [⟨1, none, 39, 4, true, pS [⟨true, 2, pFrac n1 d1⟩, ⟨true, 2, pFrac n2 d2⟩], []⟩, ⟨2, none, 43, 6, true, pPair 0 0, [(7, pPair x1 x2)]⟩]) (A1 := [⟨some 0, 3, 1, 0, True⟩, ⟨some 3, 6, 1, 2, True⟩]) (G1 := [⟨some 1, none, 4, pFrac n1 d1⟩, ⟨some 2, none, 5, pRat x1⟩, ⟨some 4, none, 7, pFrac n2 d2⟩, ⟨some 5, none, 8, pRat x2⟩, ⟨some 6, none, 9, pPair x1 x2⟩]) (V2 := [⟨1, none, 39, 4, true, pS [⟨true, 2, pFrac n1 d1⟩, ⟨true, 2, pFrac n2 d2⟩], []⟩, ⟨2, none, 43, 6, true, pPair x1 x2, []⟩]) (A2 := []) (G2 := []) hI rfl rfl rfl [0, 1, 3, 0, 8, 31, 63, 127] (by kernel_rfl) (by kernel_rfl) (by kernel_rfl) (by kernel_rfl) ?_ [0, 1] [] [] rfl rfl rfl fun a w hI => ?_
  · exact ⟨op_index 0 rfl rfl 0 rfl rfl rfl rfl (.inl ⟨rfl, rfl⟩) rfl (by kernel_rfl) (.const _) (fun _ _ => by kernel_rfl),
      op_loadAl 0 rfl 0 rfl rfl rfl rfl rfl trivial rfl (by kernel_rfl) ty_Frac rfl rfl (fd_get (fs := [⟨true, 2, pFrac n1 d1⟩, ⟨true, 2, pFrac n2 d2⟩]) 0 (f := ⟨true, 2, pFrac n1 d1⟩) rfl (off := 0) rfl) (.here 0 rfl),
      op_call1 (fun _ _ => by kernel_rfl) (numlike_rat _) (.tmp 0 rfl rfl) (.here 1 rfl) (c_of e1 f1),
      op_index 0 rfl rfl 1 rfl rfl rfl rfl (.inl ⟨rfl, rfl⟩) rfl (by kernel_rfl) (.const _) (fun _ _ => by kernel_rfl),
      op_loadAl 0 rfl 1 rfl rfl rfl rfl rfl trivial rfl (by kernel_rfl) ty_Frac rfl rfl (fd_get (fs := [⟨true, 2, pFrac n1 d1⟩, ⟨true, 2, pFrac n2 d2⟩]) 1 (f := ⟨true, 2, pFrac n2 d2⟩) rfl (off := 2) rfl) (.here 2 rfl),
      op_call1 (fun _ _ => by kernel_rfl) (numlike_rat _) (.tmp 2 rfl rfl) (.here 3 rfl) (c_of e2 f2),
      op_callB2 (fun _ _ => by kernel_rfl) (.tmp 1 rfl rfl) (.tmp 3 rfl rfl) (.here 4 rfl) (cp_join _ _),
      op_store 1 rfl rfl rfl 0 rfl (by kernel_rfl) (by kernel_rfl) ty_Pair (.tmp 4 rfl rfl) (fits_pair _ _),
      trivial⟩
  refine wp_ret ?_
  exact fin1 hI rfl (.cell 1 rfl rfl rfl ty_Pair rfl)
theorem frac2_of (n1 d1 n2 d2 : Int) (w : World) : pS [⟨true, 2, pFrac n1 d1⟩, ⟨true, 2, pFrac n2 d2⟩] w (.agg #[.int .i64 n1, .int .i64 d1, .int .i64 n2, .int .i64 d2]) := pS_of (show pCells [⟨true, 2, pFrac n1 d1⟩, ⟨true, 2, pFrac n2 d2⟩] w [.int .i64 n1, .int .i64 d1, .int .i64 n2, .int .i64 d2] from ⟨by simp, pFrac_of n1 d1 w, by simp, pFrac_of n2 d2 w, rfl⟩)
/-- A law's answer. -/
theorem law_true {f : FuncId} {P : Program} {args : Array Value} {W : World} (h : Calls P f args W (RetB (fun _ => False) (pB true) W)) : Calls P f args W fun e w' => e = .returned (.bool true) ∧ Below W.heap.size W w' :=
  h.mono fun e w' h => by
    obtain ⟨v, rfl, hv, hb⟩ := h
    have : v = .bool true := hv.out
    exact ⟨by rw [this], hb⟩
end Wx
