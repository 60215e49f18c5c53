import Derived.Handy
import Derived.KernelRfl
import Derived.Test.YtncpoijmhgihjaaProg
import Derived.Test.YtncpoijmhgihjaaPlain1
import Derived.Test.YtncpoijmhgihjaaMem
import Derived.Test.YtncpoijmhgihjaaJIncludes3
import Derived.Test.YtncpoijmhgihjaaCRat1
import Derived.Test.YtncpoijmhgihjaaCRat2
import Derived.Test.YtncpoijmhgihjaaJIncludes16
import Derived.Test.YtncpoijmhgihjaaCRat3
import Derived.Test.YtncpoijmhgihjaaJIncludes18
import Derived.Test.YtncpoijmhgihjaaCSame
import Derived.Test.YtncpoijmhgihjaaCInt
import Derived.Test.YtncpoijmhgihjaaInv
import Derived.Test.YtncpoijmhgihjaaCCmp
import Derived.Test.YtncpoijmhgihjaaCPlainOrd
import Derived.Test.YtncpoijmhgihjaaJIncludes24
import Derived.Test.YtncpoijmhgihjaaCAwake
import Derived.Test.YtncpoijmhgihjaaSem
import Derived.Test.YtncpoijmhgihjaaSemOps
import Derived.Test.YtncpoijmhgihjaaSemMem
import Derived.Test.YtncpoijmhgihjaaSemCode
import Derived.Test.YtncpoijmhgihjaaCSemData
import Derived.Test.YtncpoijmhgihjaaCSemBuild
import Derived.Test.YtncpoijmhgihjaaCSemRow
import Derived.Test.YtncpoijmhgihjaaJIncludes39
import Derived.Test.YtncpoijmhgihjaaCPairs
import Derived.Test.YtncpoijmhgihjaaCLaw1
import Derived.Test.YtncpoijmhgihjaaCRangePlain
import Derived.Test.YtncpoijmhgihjaaCIncPlain
import Derived.Test.YtncpoijmhgihjaaCRanges
namespace Wx
open Go Go.RowKit Go.Proofs
set_option linter.unusedVariables false

set_option maxRecDepth 100000 in
theorem cl_range {n1 d1 n2 d2 : Int} {x1 x2 : Rat} (e1 : x1 = ofR n1 d1) (f1 : FracOk n1 d1) (e2 : x2 = ofR n2 d2) (f2 : FracOk n2 d2) {xl xh : Rat} (el : xl = min4 x1 x1 x2 x2) (eh : xh = max4 x1 x1 x2 x2) : ∀ (M : Nat → Prop) (w : World) (v0 : Value), Mid M w → Box M (fun w => (pS [⟨true, 2, pFrac n1 d1⟩, ⟨true, 2, pFrac n2 d2⟩]) w v0) w → Calls Try.prog 30 #[v0] w (RetB M (pPair xl xh) w) := by
  intro M w0 v0 hM hv0
  have B1 : BdR 64 x1 := e1 ▸ bd_ok f1
  have B2 : BdR 64 x2 := e2 ▸ bd_ok f2
  have B3 : BdR 64 (min4 x1 x1 x2 x2) := BdR.mono (bd_min4 (B1) (B1) (B2) (B2)) (by omega)
  have B4 : BdR 64 (max4 x1 x1 x2 x2) := BdR.mono (bd_max4 (B1) (B1) (B2) (B2)) (by omega)
  refine calls_start (N := 12) Try.func30 rfl rfl rfl hM (show EntsA M w0 [v0] [⟨none, none, 0, pS [⟨true, 2, pFrac n1 d1⟩, ⟨true, 2, pFrac n2 d2⟩]⟩] from ⟨⟨rfl, _, rfl, hv0⟩, trivial⟩) fun a hI => ?_
  refine seq_text (V1 := [⟨1, some 0, 39, 4, true, pS [⟨true, 2, pFrac n1 d1⟩, ⟨true, 2, pFrac n2 d2⟩], []⟩, ⟨2, some 1, 54, 6, true, pPair 0 0, []⟩]) (A1 := []) (G1 := [⟨none, none, 0, pS [⟨true, 2, pFrac n1 d1⟩, ⟨true, 2, pFrac n2 d2⟩]⟩]) (V2 := [⟨1, none, 39, 4, true, pS [⟨true, 2, pFrac n1 d1⟩, ⟨true, 2, pFrac n2 d2⟩], []⟩, ⟨2, none, 54, 6, true, pPair 0 0, []⟩]) (A2 := []) (G2 := []) hI rfl rfl rfl [0, 1] (by kernel_rfl) (by kernel_rfl) ?_ [0, 1] [] [] rfl rfl rfl fun a w hI => ?_
  · exact ⟨op_box 0 rfl rfl (by kernel_rfl) (by kernel_rfl) rfl rfl (.tmp 0 rfl rfl) (fits_s (fs := [⟨true, 2, pFrac n1 d1⟩, ⟨true, 2, pFrac n2 d2⟩]) ⟨fits_frac _ _, fits_frac _ _, trivial⟩ rfl) rfl,
      op_alloc 1 rfl rfl (by kernel_rfl) (by kernel_rfl) rfl rfl zv_Range rfl rfl (by simp [NoU]) (fun w => pS_of (cells_pair0 w)),
      trivial⟩
  refine seq_drawn (V1 := [⟨1, none, 39, 4, true, pS [⟨true, 2, pFrac n1 d1⟩, ⟨true, 2, pFrac n2 d2⟩], []⟩, ⟨2, none, 54, 6, true, pPair 0 0, [(9, pPair (min4 x1 x1 x2 x2) (max4 x1 x1 x2 x2))]⟩]) (A1 := [⟨some 0, 3, 1, 0, True⟩, ⟨some 4, 7, 1, 2, True⟩]) (G1 := [⟨some 1, none, 4, pFrac n1 d1⟩, ⟨some 2, none, 5, pRat x1⟩, ⟨some 3, none, 6, pPair x1 x1⟩, ⟨some 5, none, 8, pFrac n2 d2⟩, ⟨some 6, none, 9, pRat x2⟩, ⟨some 7, none, 10, pPair x2 x2⟩, ⟨some 8, none, 11, pPair (min4 x1 x1 x2 x2) (max4 x1 x1 x2 x2)⟩]) (V2 := [⟨1, none, 39, 4, true, pS [⟨true, 2, pFrac n1 d1⟩, ⟨true, 2, pFrac n2 d2⟩], []⟩, ⟨2, none, 54, 6, true, pPair (min4 x1 x1 x2 x2) (max4 x1 x1 x2 x2), []⟩]) (A2 := []) (G2 := []) hI rfl rfl rfl [0, 1, 3, 7, 0, 16, 63, 127, 255, 511] (by kernel_rfl) (by kernel_rfl) (by kernel_rfl) (by kernel_rfl) ?_ [0, 1] [] [] rfl rfl rfl fun a w hI => ?_
  · exact ⟨op_index 0 rfl rfl 0 rfl rfl rfl rfl (.inl ⟨rfl, rfl⟩) rfl (by kernel_rfl) (.const _) (fun _ _ => by kernel_rfl),
      op_loadAl 0 rfl 0 rfl rfl rfl rfl rfl trivial rfl (by kernel_rfl) ty_Frac rfl rfl (fd_get (fs := [⟨true, 2, pFrac n1 d1⟩, ⟨true, 2, pFrac n2 d2⟩]) 0 (f := ⟨true, 2, pFrac n1 d1⟩) rfl (off := 0) rfl) (.here 0 rfl),
      op_call1 (fun _ _ => by kernel_rfl) (numlike_rat _) (.tmp 0 rfl rfl) (.here 1 rfl) (c_of e1 f1),
      op_callB1 (fun _ _ => by kernel_rfl) (.tmp 1 rfl rfl) (.here 2 rfl) (cr_only _),
      op_index 0 rfl rfl 1 rfl rfl rfl rfl (.inl ⟨rfl, rfl⟩) rfl (by kernel_rfl) (.const _) (fun _ _ => by kernel_rfl),
      op_loadAl 0 rfl 1 rfl rfl rfl rfl rfl trivial rfl (by kernel_rfl) ty_Frac rfl rfl (fd_get (fs := [⟨true, 2, pFrac n1 d1⟩, ⟨true, 2, pFrac n2 d2⟩]) 1 (f := ⟨true, 2, pFrac n2 d2⟩) rfl (off := 2) rfl) (.here 3 rfl),
      op_call1 (fun _ _ => by kernel_rfl) (numlike_rat _) (.tmp 3 rfl rfl) (.here 4 rfl) (c_of e2 f2),
      op_callB1 (fun _ _ => by kernel_rfl) (.tmp 4 rfl rfl) (.here 5 rfl) (cr_only _),
      op_callB2 (fun _ _ => by kernel_rfl) (.tmp 2 rfl rfl) (.tmp 5 rfl rfl) (.here 6 rfl) (cr_hull (j := 64) ⟨B1, B1⟩ ⟨B2, B2⟩ (by omega)),
      op_store 1 rfl rfl rfl 0 rfl (by kernel_rfl) (by kernel_rfl) ty_Range (.tmp 6 rfl rfl) (fits_pair _ _),
      trivial⟩
  refine wp_ret ?_
  exact fin1 hI rfl (.imp (.cell 1 rfl rfl rfl ty_Range rfl) (by rw [el, eh]; exact fun _ _ h => h))
set_option maxRecDepth 100000 in
theorem cl_within {xl xh u : Rat} {n : Int} (hb : BdR 64 xl ∧ BdR 64 xh) (hn : 0 ≤ n) (eu : u = withinR xl xh n) : ∀ (M : Nat → Prop) (w : World) (v0 v1 : Value), Mid M w → Box M (fun w => (pPair xl xh) w v0) w → Box M (fun w => (pEq (.int .u8 n)) w v1) w → Calls Try.prog 31 #[v0, v1] w (RetB M (pRat u) w) := by
  intro M w0 v0 v1 hM hv0 hv1
  have hm : 0 ≤ n.tmod 251 ∧ n.tmod 251 ≤ 250 := by rw [Int.tmod_eq_emod_of_nonneg hn]; omega
  have B1 : BdR 64 (newR ((n).tmod 251) 250) := BdR.mono (bd_newR (by omega) (by omega) (by omega) (by omega) (by omega)) (by omega)
  have B2 : BdR 257 (xh - xl) := BdR.mono ((hb.2).sub_ hb.1) (by omega)
  have B3 : BdR 321 ((xh - xl) * (newR ((n).tmod 251) 250)) := BdR.mono ((B2).mul B1) (by omega)
  have B4 : BdR 771 (xl + ((xh - xl) * (newR ((n).tmod 251) 250))) := BdR.mono ((hb.1).add B3) (by omega)
  refine calls_start (N := 21) Try.func31 rfl rfl rfl hM (show EntsA M w0 [v0, v1] [⟨none, none, 0, pPair xl xh⟩, ⟨none, none, 1, pEq (.int .u8 n)⟩] from ⟨⟨rfl, _, rfl, hv0⟩, ⟨rfl, _, rfl, hv1⟩, trivial⟩) fun a hI => ?_
  refine seq_text (V1 := [⟨2, some 0, 54, 6, true, pPair xl xh, []⟩, ⟨4, some 1, 27, 3, true, pRat 0, []⟩]) (A1 := []) (G1 := [⟨none, none, 0, pPair xl xh⟩, ⟨none, none, 1, pEq (.int .u8 n)⟩]) (V2 := [⟨2, none, 54, 6, true, pPair xl xh, []⟩, ⟨4, none, 27, 3, true, pRat 0, []⟩]) (A2 := []) (G2 := [⟨none, none, 1, pEq (.int .u8 n)⟩]) hI rfl rfl rfl [0, 1] (by kernel_rfl) (by kernel_rfl) ?_ [0, 1] [] [1] rfl rfl rfl fun a w hI => ?_
  · exact ⟨op_box 0 rfl rfl (by kernel_rfl) (by kernel_rfl) rfl rfl (.tmp 0 rfl rfl) (fits_pair _ _) rfl,
      op_alloc 1 rfl rfl (by kernel_rfl) (by kernel_rfl) rfl rfl zv_Ratio rfl rfl (by simp [NoU]) (fun w => isRat_zero w),
      trivial⟩
  refine seq_text (V1 := [⟨2, none, 54, 6, true, pPair xl xh, []⟩, ⟨4, none, 27, 3, true, pRat 0, []⟩, ⟨5, some 7, 27, 3, true, pRat 0, [(8, pRat (newR ((n).tmod 251) 250))]⟩]) (A1 := []) (G1 := [⟨none, none, 1, pEq (.int .u8 n)⟩, ⟨some 0, none, 8, pEq (.int .u8 n)⟩, ⟨some 1, none, 9, pEq (.int .u8 ((n).tmod 251))⟩, ⟨some 2, none, 10, pI ((n).tmod 251)⟩, ⟨some 3, none, 11, pTup2 (pRat (newR ((n).tmod 251) 250)) (pI 0)⟩, ⟨some 4, none, 7, pTup2 (pRat (newR ((n).tmod 251) 250)) (pI 0)⟩, ⟨some 5, none, 12, pRat (newR ((n).tmod 251) 250)⟩, ⟨some 6, none, 13, pI 0⟩, ⟨some 9, none, 6, pI 0⟩]) (V2 := [⟨2, none, 54, 6, true, pPair xl xh, []⟩, ⟨4, none, 27, 3, true, pRat 0, []⟩, ⟨5, none, 27, 3, true, pRat (newR ((n).tmod 251) 250), []⟩]) (A2 := []) (G2 := []) hI rfl rfl rfl [0, 1, 3, 7, 15, 31, 63, 127, 255, 511] (by kernel_rfl) (by kernel_rfl) ?_ [0, 1, 2] [] [] rfl rfl rfl fun a w hI => ?_
  · exact ⟨op_move (.tmp 0 rfl rfl) (.here 1 rfl),
      op_bin (.tmp 1 rfl rfl) (.const _) (fun _ => by kernel_rfl) (.here 2 rfl),
      op_conv (.tmp 2 rfl rfl) (fun _ => by kernel_rfl) (.at_ 3 _ _ rfl (pI_wrap (by omega))),
      op_call2 (fun _ _ => by kernel_rfl) (numlike_tup2 (numlike_rat _) (numlike_eq _)) (.tmp 3 rfl rfl) (.const _) (.here 4 rfl) (c_new_ok (by omega) (by omega) (by omega) (by omega) (by omega)),
      op_move (.tmp 4 rfl rfl) (.here 5 rfl),
      op_extract (.tmp 5 rfl rfl) ex2_0 (.here 6 rfl),
      op_extract (.tmp 5 rfl rfl) ex2_1 (.here 7 rfl),
      op_alloc 2 rfl rfl (by kernel_rfl) (by kernel_rfl) rfl rfl zv_Ratio rfl rfl (by simp [NoU]) (fun w => isRat_zero w),
      op_store 2 rfl rfl rfl 0 rfl (by kernel_rfl) (by kernel_rfl) ty_Ratio (.tmp 6 rfl rfl) (fits_rat _),
      op_assign (.tmp 7 rfl rfl) (.here 8 rfl),
      trivial⟩
  refine seq_drawn (V1 := [⟨2, none, 54, 6, true, pPair xl xh, []⟩, ⟨4, none, 27, 3, true, pRat 0, [(7, pRat (xl + ((xh - xl) * (newR ((n).tmod 251) 250))))]⟩, ⟨5, none, 27, 3, true, pRat (newR ((n).tmod 251) 250), []⟩]) (A1 := []) (G1 := [⟨some 0, none, 14, pPair xl xh⟩, ⟨some 1, none, 15, pRat xl⟩, ⟨some 2, none, 16, pPair xl xh⟩, ⟨some 3, none, 17, pRat (xh - xl)⟩, ⟨some 4, none, 18, pRat (newR ((n).tmod 251) 250)⟩, ⟨some 5, none, 19, pRat ((xh - xl) * (newR ((n).tmod 251) 250))⟩, ⟨some 6, none, 20, pRat (xl + ((xh - xl) * (newR ((n).tmod 251) 250)))⟩]) (V2 := [⟨2, none, 54, 6, true, pPair xl xh, []⟩, ⟨4, none, 27, 3, true, pRat (xl + ((xh - xl) * (newR ((n).tmod 251) 250))), []⟩, ⟨5, none, 27, 3, true, pRat (newR ((n).tmod 251) 250), []⟩]) (A2 := []) (G2 := []) hI rfl rfl rfl [0, 1, 0, 7, 0, 31, 63, 127] (by kernel_rfl) (by kernel_rfl) (by kernel_rfl) (by kernel_rfl) ?_ [0, 1, 2] [] [] rfl rfl rfl fun a w hI => ?_
  · exact ⟨op_load 0 rfl rfl rfl (by kernel_rfl) ty_Range rfl (.here 0 rfl),
      op_callB1 (fun _ _ => by kernel_rfl) (.tmp 0 rfl rfl) (.here 1 rfl) (cr_lo _ _),
      op_load 0 rfl rfl rfl (by kernel_rfl) ty_Range rfl (.here 2 rfl),
      op_callB1 (fun _ _ => by kernel_rfl) (.tmp 2 rfl rfl) (.here 3 rfl) (cr_width (j := 64) ⟨hb.1, hb.2⟩ (by omega)),
      op_load 2 rfl rfl rfl (by kernel_rfl) ty_Ratio rfl (.here 4 rfl),
      op_call2 (fun _ _ => by kernel_rfl) (numlike_rat _) (.tmp 3 rfl rfl) (.tmp 4 rfl rfl) (.here 5 rfl) (c_mul B2 B1 (by omega)),
      op_call2 (fun _ _ => by kernel_rfl) (numlike_rat _) (.tmp 1 rfl rfl) (.tmp 5 rfl rfl) (.here 6 rfl) (c_add hb.1 B3 (by omega)),
      op_store 1 rfl rfl rfl 0 rfl (by kernel_rfl) (by kernel_rfl) ty_Ratio (.tmp 6 rfl rfl) (fits_rat _),
      trivial⟩
  refine wp_ret ?_
  exact fin1 hI rfl (.imp (.cell 1 rfl rfl rfl ty_Ratio rfl) (pRat_eq (by rw [eu]; rfl)))
end Wx
