import Derived.Handy
import Derived.KernelRfl
import Derived.Test.YtlomlheajdgdoaaGreatProg
import Derived.Test.YtlomlheajdgdoaaGreatJPairs0
import Derived.Test.YtlomlheajdgdoaaGreatJPairs1
import Derived.Test.YtlomlheajdgdoaaGreatCPairsRat1
import Derived.Test.YtlomlheajdgdoaaGreatJPairs9
import Derived.Test.YtlomlheajdgdoaaGreatJPairs18
import Derived.Test.YtlomlheajdgdoaaGreatJPairs10
import Derived.Test.YtlomlheajdgdoaaGreatJPairs22
import Derived.Test.YtlomlheajdgdoaaGreatCPairsSem
import Derived.Test.YtlomlheajdgdoaaGreatCPairsSemOps
import Derived.Test.YtlomlheajdgdoaaGreatCPairsSemMem
import Derived.Test.YtlomlheajdgdoaaGreatCPairsSemCode
import Derived.Test.YtlomlheajdgdoaaGreatJPairs15
import Derived.Test.YtlomlheajdgdoaaGreatJPairs16
import Derived.Test.YtlomlheajdgdoaaGreatJPairs29
import Derived.Test.YtlomlheajdgdoaaGreatCPairsPairs
import Derived.Test.YtlomlheajdgdoaaGreatJPairs35
namespace Wx
set_option maxRecDepth 100000
open Go Go.RowKit Go.Proofs
set_option linter.unusedVariables false

theorem cl_join {n1 d1 n2 d2 : Int} {x1 x2 : Rat} (e1 : x1 = ofR n1 d1) (f1 : FracOk n1 d1) (e2 : x2 = ofR n2 d2) (f2 : FracOk n2 d2) : ∀ (M : Nat → Nat → Prop) (w : World) (v0 : Value), Mid M w → Box M (fun w => (pS [⟨true, 2, pFrac n1 d1⟩, ⟨true, 2, pFrac n2 d2⟩]) w v0) w → Calls Tryz.prog 27 #[v0] w (RetB M (pPair x1 x2) w) := by
  intro M w0 v0 hM hv0
  have B1 : BdR 64 x1 := e1 ▸ bd_ok f1
  have B2 : BdR 64 x2 := e2 ▸ bd_ok f2
  refine calls_start (N := 10) Tryz.func27 rfl rfl rfl hM (show EntsA M w0 [v0] [⟨none, none, 0, pS [⟨true, 2, pFrac n1 d1⟩, ⟨true, 2, pFrac n2 d2⟩]⟩] from ⟨⟨rfl, _, rfl, hv0⟩, trivial⟩) fun a hI => ?_
  refine seq_text (V1 := [⟨1, 1, some 0, none, .ptr, 62, 4, true, pv (pS [⟨true, 2, pFrac n1 d1⟩, ⟨true, 2, pFrac n2 d2⟩]), []⟩, ⟨2, 2, some 1, none, .ptr, 65, 6, true, pv (pPair 0 0), []⟩]) (A1 := []) (G1 := [⟨none, none, 0, pS [⟨true, 2, pFrac n1 d1⟩, ⟨true, 2, pFrac n2 d2⟩]⟩]) (V2 := [⟨1, 1, none, none, .ptr, 62, 4, true, pv (pS [⟨true, 2, pFrac n1 d1⟩, ⟨true, 2, pFrac n2 d2⟩]), []⟩, ⟨2, 2, none, none, .ptr, 65, 6, true, pv (pPair 0 0), []⟩]) (G2 := []) hI rfl rfl rfl [0, 1] (by kernel_rfl) (by kernel_rfl) ?_ [0, 1] [] rfl rfl fun a w hI => ?_
  · exact ⟨op_box 0 rfl rfl (by kernel_rfl) (by kernel_rfl) rfl rfl rfl (.tmp 0 rfl rfl) (fits_s (fs := [⟨true, 2, pFrac n1 d1⟩, ⟨true, 2, pFrac n2 d2⟩]) ⟨fits_frac _ _, fits_frac _ _, trivial⟩ rfl) rfl, op_alloc 1 rfl rfl (by kernel_rfl) (by kernel_rfl) rfl rfl rfl zv_Pair rfl rfl (by simp [NoU]) rfl (fun w => pS_of (cells_pair0 w)), trivial⟩
  refine seq_drawn (V1 := [⟨1, 1, none, none, .ptr, 62, 4, true, pv (pS [⟨true, 2, pFrac n1 d1⟩, ⟨true, 2, pFrac n2 d2⟩]), []⟩, ⟨2, 2, none, none, .ptr, 65, 6, true, pv (pPair 0 0), [(7, pv (pPair x1 x2))]⟩]) (A1 := [⟨some 0, 3, 1, 0, True⟩, ⟨some 3, 6, 1, 2, True⟩]) (G1 := [⟨some 1, none, 4, pFrac n1 d1⟩, ⟨some 2, none, 5, pRat x1⟩, ⟨some 4, none, 7, pFrac n2 d2⟩, ⟨some 5, none, 8, pRat x2⟩, ⟨some 6, none, 9, pPair x1 x2⟩]) (V2 := [⟨1, 1, none, none, .ptr, 62, 4, true, pv (pS [⟨true, 2, pFrac n1 d1⟩, ⟨true, 2, pFrac n2 d2⟩]), []⟩, ⟨2, 2, none, none, .ptr, 65, 6, true, pv (pPair x1 x2), []⟩]) (G2 := []) hI rfl rfl rfl [0, 1, 3, 0, 8, 31, 63, 127] (by kernel_rfl) (by kernel_rfl) (by kernel_rfl) (by kernel_rfl) ?_ [0, 1] [] rfl rfl fun a w hI => ?_
  · exact ⟨op_index 0 rfl rfl rfl 0 rfl rfl rfl rfl (.inl ⟨rfl, rfl⟩) rfl (by kernel_rfl) (.const _) (fun _ _ => by kernel_rfl), op_loadAl 0 rfl 0 rfl rfl rfl rfl rfl trivial rfl rfl (by kernel_rfl) ty_Frac rfl rfl (fd_get (fs := [⟨true, 2, pFrac n1 d1⟩, ⟨true, 2, pFrac n2 d2⟩]) 0 (f := ⟨true, 2, pFrac n1 d1⟩) rfl (off := 0) rfl) (.here 0 rfl), op_call1 (fun _ _ => by kernel_rfl) (numlike_rat _) (.tmp 0 rfl rfl) (.here 1 rfl) (c_of e1 f1), op_index 0 rfl rfl rfl 1 rfl rfl rfl rfl (.inl ⟨rfl, rfl⟩) rfl (by kernel_rfl) (.const _) (fun _ _ => by kernel_rfl), op_loadAl 0 rfl 1 rfl rfl rfl rfl rfl trivial rfl rfl (by kernel_rfl) ty_Frac rfl rfl (fd_get (fs := [⟨true, 2, pFrac n1 d1⟩, ⟨true, 2, pFrac n2 d2⟩]) 1 (f := ⟨true, 2, pFrac n2 d2⟩) rfl (off := 2) rfl) (.here 2 rfl), op_call1 (fun _ _ => by kernel_rfl) (numlike_rat _) (.tmp 2 rfl rfl) (.here 3 rfl) (c_of e2 f2), op_callB2 (fun _ _ => by kernel_rfl) (.tmp 1 rfl rfl) (.tmp 3 rfl rfl) (.here 4 rfl) (cp_join _ _), op_store 1 rfl rfl rfl rfl 0 rfl (by kernel_rfl) (by kernel_rfl) ty_Pair (.tmp 4 rfl rfl) (fits_pair _ _), trivial⟩
  refine wp_ret ?_
  exact fin1 hI rfl (.cell 1 rfl rfl rfl rfl ty_Pair rfl)
end Wx
