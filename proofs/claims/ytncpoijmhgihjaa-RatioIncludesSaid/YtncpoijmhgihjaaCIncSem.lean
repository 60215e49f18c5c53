import Derived.Handy
import Derived.KernelRfl
import Derived.Test.YtncpoijmhgihjaaProg
import Derived.Test.YtncpoijmhgihjaaPlain1
import Derived.Test.YtncpoijmhgihjaaMem
import Derived.Test.YtncpoijmhgihjaaJIncludes3
import Derived.Test.YtncpoijmhgihjaaCRat1
import Derived.Test.YtncpoijmhgihjaaCRat2
import Derived.Test.YtncpoijmhgihjaaJIncludes16
import Derived.Test.YtncpoijmhgihjaaCRat3
import Derived.Test.YtncpoijmhgihjaaJIncludes18
import Derived.Test.YtncpoijmhgihjaaCSame
import Derived.Test.YtncpoijmhgihjaaCInt
import Derived.Test.YtncpoijmhgihjaaInv
import Derived.Test.YtncpoijmhgihjaaCCmp
import Derived.Test.YtncpoijmhgihjaaCPlainOrd
import Derived.Test.YtncpoijmhgihjaaJIncludes24
import Derived.Test.YtncpoijmhgihjaaCAwake
import Derived.Test.YtncpoijmhgihjaaSem
import Derived.Test.YtncpoijmhgihjaaSemOps
import Derived.Test.YtncpoijmhgihjaaSemMem
import Derived.Test.YtncpoijmhgihjaaSemCode
import Derived.Test.YtncpoijmhgihjaaCSemData
import Derived.Test.YtncpoijmhgihjaaCSemBuild
import Derived.Test.YtncpoijmhgihjaaCSemRow
import Derived.Test.YtncpoijmhgihjaaJIncludes39
import Derived.Test.YtncpoijmhgihjaaCPairs
import Derived.Test.YtncpoijmhgihjaaCLaw1
import Derived.Test.YtncpoijmhgihjaaCRangePlain
import Derived.Test.YtncpoijmhgihjaaCIncPlain
import Derived.Test.YtncpoijmhgihjaaCRanges
import Derived.Test.YtncpoijmhgihjaaCLawRange
import Derived.Test.YtncpoijmhgihjaaJIncludes47
namespace Wx
open Go Go.RowKit Go.Proofs
set_option linter.unusedVariables false

set_option maxRecDepth 100000 in
theorem includes_sem {n1 d1 n2 d2 n3 d3 n4 d4 n m k : Int} {x1 x2 x3 x4 xl xh yl yh u v : Rat} (e1 : x1 = ofR n1 d1) (f1 : FracOk n1 d1) (e2 : x2 = ofR n2 d2) (f2 : FracOk n2 d2) (e3 : x3 = ofR n3 d3) (f3 : FracOk n3 d3) (e4 : x4 = ofR n4 d4) (f4 : FracOk n4 d4) (exl : xl = min4 x1 x1 x2 x2) (exh : xh = max4 x1 x1 x2 x2) (eyl : yl = min4 x3 x3 x4 x4) (eyh : yh = max4 x3 x3 x4 x4) (hn : 0 ≤ n) (hm : 0 ≤ m) (eu : u = withinR xl xh n) (ev : v = withinR yl yh m) (bxl : BdR 64 xl) (bxh : BdR 64 xh) (byl : BdR 64 yl) (byh : BdR 64 yh) (bu : BdR 771 u) (bv : BdR 771 v) (ox : xl ≤ u ∧ u ≤ xh) (oy : yl ≤ v ∧ v ≤ yh) : ∀ (M : Nat → Prop) (w : World) (v0 v1 v2 v3 v4 : Value), Mid M w → Box M (fun w => (pS [⟨true, 2, pFrac n1 d1⟩, ⟨true, 2, pFrac n2 d2⟩]) w v0) w → Box M (fun w => (pS [⟨true, 2, pFrac n3 d3⟩, ⟨true, 2, pFrac n4 d4⟩]) w v1) w → Box M (fun w => (pEq (.int .u8 n)) w v2) w → Box M (fun w => (pEq (.int .u8 m)) w v3) w → Box M (fun w => (pI k) w v4) w → Calls Try.prog 5 #[v0, v1, v2, v3, v4] w (RetB M (pB true) w) := by
  intro M w0 v0 v1 v2 v3 v4 hM hv0 hv1 hv2 hv3 hv4
  have B1 : BdR 257 (xl + yl) := BdR.mono ((bxl).add byl) (by omega)
  have B2 : BdR 257 (xh + yh) := BdR.mono ((bxh).add byh) (by omega)
  have B3 : BdR 3085 (u + v) := BdR.mono ((bu).add bv) (by omega)
  have B4 : BdR 257 (xl - yh) := BdR.mono ((bxl).sub_ byh) (by omega)
  have B5 : BdR 257 (xh - yl) := BdR.mono ((bxh).sub_ byl) (by omega)
  have B6 : BdR 3085 (u - v) := BdR.mono ((bu).sub_ bv) (by omega)
  have B7 : BdR 128 (xl * yl) := BdR.mono ((bxl).mul byl) (by omega)
  have B8 : BdR 128 (xl * yh) := BdR.mono ((bxl).mul byh) (by omega)
  have B9 : BdR 128 (xh * yl) := BdR.mono ((bxh).mul byl) (by omega)
  have B10 : BdR 128 (xh * yh) := BdR.mono ((bxh).mul byh) (by omega)
  have B11 : BdR 128 (min4 (xl * yl) (xl * yh) (xh * yl) (xh * yh)) := BdR.mono (bd_min4 (B7) (B8) (B9) (B10)) (by omega)
  have B12 : BdR 128 (max4 (xl * yl) (xl * yh) (xh * yl) (xh * yh)) := BdR.mono (bd_max4 (B7) (B8) (B9) (B10)) (by omega)
  have B13 : BdR 1542 (u * v) := BdR.mono ((bu).mul bv) (by omega)
  have B14 : BdR 64 (-xh) := BdR.mono ((bxh).neg) (by omega)
  have B15 : BdR 64 (-xl) := BdR.mono ((bxl).neg) (by omega)
  have B16 : BdR 771 (-u) := BdR.mono ((bu).neg) (by omega)
  have B17 : BdR 128 (xl * xl) := BdR.mono ((bxl).mul bxl) (by omega)
  have B18 : BdR 128 (xh * xh) := BdR.mono ((bxh).mul bxh) (by omega)
  have B19 : BdR 128 (sqLo xl xh) := BdR.mono (bd_sqLo (B17) (B18) (by omega)) (by omega)
  have B20 : BdR 128 (max2 (xl * xl) (xh * xh)) := BdR.mono (bd_max2 (B17) (B18)) (by omega)
  have B21 : BdR 1542 (u * u) := BdR.mono ((bu).mul bu) (by omega)
  have B22 : BdR 364 (downR xl k) := BdR.mono (bd_downR bxl _) (by omega)
  have B23 : BdR 364 (-(downR (-xh) k)) := BdR.mono (bd_upR bxh _) (by omega)
  have B24 : BdR 64 (min4 xl xh yl yh) := BdR.mono (bd_min4 (bxl) (bxh) (byl) (byh)) (by omega)
  have B25 : BdR 64 (max4 xl xh yl yh) := BdR.mono (bd_max4 (bxl) (bxh) (byl) (byh)) (by omega)
  have B26 : BdR 3085 (u + v) := BdR.mono ((bu).add bv) (by omega)
  have B27 : BdR 3085 (u + v) := BdR.mono ((bu).add bv) (by omega)
  have B28 : BdR 257 (xl + yl) := BdR.mono ((bxl).add byl) (by omega)
  have B29 : BdR 257 (xh + yh) := BdR.mono ((bxh).add byh) (by omega)
  have B30 : BdR 835 (u * yl) := BdR.mono ((bu).mul byl) (by omega)
  have B31 : BdR 835 (u * yh) := BdR.mono ((bu).mul byh) (by omega)
  have B32 : BdR 835 (u * yl) := BdR.mono ((bu).mul byl) (by omega)
  have B33 : BdR 835 (u * yh) := BdR.mono ((bu).mul byh) (by omega)
  have B34 : BdR 835 (min4 (u * yl) (u * yh) (u * yl) (u * yh)) := BdR.mono (bd_min4 (B30) (B31) (B32) (B33)) (by omega)
  have B35 : BdR 835 (max4 (u * yl) (u * yh) (u * yl) (u * yh)) := BdR.mono (bd_max4 (B30) (B31) (B32) (B33)) (by omega)
  have B36 : BdR 128 (xl * yl) := BdR.mono ((bxl).mul byl) (by omega)
  have B37 : BdR 128 (xl * yh) := BdR.mono ((bxl).mul byh) (by omega)
  have B38 : BdR 128 (xh * yl) := BdR.mono ((bxh).mul byl) (by omega)
  have B39 : BdR 128 (xh * yh) := BdR.mono ((bxh).mul byh) (by omega)
  have B40 : BdR 128 (min4 (xl * yl) (xl * yh) (xh * yl) (xh * yh)) := BdR.mono (bd_min4 (B36) (B37) (B38) (B39)) (by omega)
  have B41 : BdR 128 (max4 (xl * yl) (xl * yh) (xh * yl) (xh * yh)) := BdR.mono (bd_max4 (B36) (B37) (B38) (B39)) (by omega)
  have B42 : BdR 1542 (u * u) := BdR.mono ((bu).mul bu) (by omega)
  have B43 : BdR 1542 (u * u) := BdR.mono ((bu).mul bu) (by omega)
  have B44 : BdR 1542 (sqLo u u) := BdR.mono (bd_sqLo (B42) (B43) (by omega)) (by omega)
  have B45 : BdR 1542 (max2 (u * u) (u * u)) := BdR.mono (bd_max2 (B42) (B43)) (by omega)
  have B46 : BdR 128 (xl * xl) := BdR.mono ((bxl).mul bxl) (by omega)
  have B47 : BdR 128 (xh * xh) := BdR.mono ((bxh).mul bxh) (by omega)
  have B48 : BdR 128 (sqLo xl xh) := BdR.mono (bd_sqLo (B46) (B47) (by omega)) (by omega)
  have B49 : BdR 128 (max2 (xl * xl) (xh * xh)) := BdR.mono (bd_max2 (B46) (B47)) (by omega)
  have B50 : BdR 128 (xl / yl) := BdR.mono ((bxl).quo byl) (by omega)
  have B51 : BdR 128 (xl / yh) := BdR.mono ((bxl).quo byh) (by omega)
  have B52 : BdR 128 (xh / yl) := BdR.mono ((bxh).quo byl) (by omega)
  have B53 : BdR 128 (xh / yh) := BdR.mono ((bxh).quo byh) (by omega)
  have B54 : BdR 128 (divLo xl xh yl yh) := BdR.mono ((bd_divLo (B50) (B51) (B52) (B53) (by omega)).1) (by omega)
  have B55 : BdR 128 (divHi xl xh yl yh) := BdR.mono ((bd_divLo (B50) (B51) (B52) (B53) (by omega)).2) (by omega)
  have B56 : BdR 1542 (u / v) := BdR.mono ((bu).quo bv) (by omega)
  have B57 : BdR 1542 (u / v) := BdR.mono ((bu).quo bv) (by omega)
  have B58 : BdR 1542 (u / v) := BdR.mono ((bu).quo bv) (by omega)
  have B59 : BdR 1542 (u / v) := BdR.mono ((bu).quo bv) (by omega)
  have B60 : BdR 1542 (divLo u u v v) := BdR.mono ((bd_divLo (B56) (B57) (B58) (B59) (by omega)).1) (by omega)
  have B61 : BdR 1542 (divHi u u v v) := BdR.mono ((bd_divLo (B56) (B57) (B58) (B59) (by omega)).2) (by omega)
  have B62 : BdR 64 ((0 : Int) : Rat) := BdR.mono (bd_int (by omega) (by omega)) (by omega)
  have B63 : BdR 64 (meetLo xl xh yl yh) := BdR.mono ((bd_meet (bxl) (bxh) (byl) (byh) (by omega)).1) (by omega)
  have B64 : BdR 64 (meetHi xl xh yl yh) := BdR.mono ((bd_meet (bxl) (bxh) (byl) (byh) (by omega)).2) (by omega)
  refine calls_start (N := 228) Try.func5 rfl rfl rfl hM (show EntsA M w0 [v0, v1, v2, v3, v4] [⟨none, none, 0, pS [⟨true, 2, pFrac n1 d1⟩, ⟨true, 2, pFrac n2 d2⟩]⟩, ⟨none, none, 1, pS [⟨true, 2, pFrac n3 d3⟩, ⟨true, 2, pFrac n4 d4⟩]⟩, ⟨none, none, 2, pEq (.int .u8 n)⟩, ⟨none, none, 3, pEq (.int .u8 m)⟩, ⟨none, none, 4, pI k⟩] from ⟨⟨rfl, _, rfl, hv0⟩, ⟨rfl, _, rfl, hv1⟩, ⟨rfl, _, rfl, hv2⟩, ⟨rfl, _, rfl, hv3⟩, ⟨rfl, _, rfl, hv4⟩, trivial⟩) fun a hI => ?_
  refine seq_text (V1 := [⟨5, some 0, 39, 4, true, pS [⟨true, 2, pFrac n1 d1⟩, ⟨true, 2, pFrac n2 d2⟩], []⟩, ⟨6, some 1, 39, 4, true, pS [⟨true, 2, pFrac n3 d3⟩, ⟨true, 2, pFrac n4 d4⟩], []⟩]) (A1 := []) (G1 := [⟨none, none, 0, pS [⟨true, 2, pFrac n1 d1⟩, ⟨true, 2, pFrac n2 d2⟩]⟩, ⟨none, none, 1, pS [⟨true, 2, pFrac n3 d3⟩, ⟨true, 2, pFrac n4 d4⟩]⟩, ⟨none, none, 2, pEq (.int .u8 n)⟩, ⟨none, none, 3, pEq (.int .u8 m)⟩, ⟨none, none, 4, pI k⟩, ⟨some 2, none, 10, pB false⟩]) (V2 := [⟨5, none, 39, 4, true, pS [⟨true, 2, pFrac n1 d1⟩, ⟨true, 2, pFrac n2 d2⟩], []⟩, ⟨6, none, 39, 4, true, pS [⟨true, 2, pFrac n3 d3⟩, ⟨true, 2, pFrac n4 d4⟩], []⟩]) (A2 := []) (G2 := [⟨none, none, 2, pEq (.int .u8 n)⟩, ⟨none, none, 3, pEq (.int .u8 m)⟩, ⟨none, none, 4, pI k⟩, ⟨none, none, 10, pB false⟩]) hI rfl rfl rfl [0, 1, 3] (by kernel_rfl) (by kernel_rfl) ?_ [0, 1] [] [2, 3, 4, 5] rfl rfl rfl fun a w hI => ?_
  · exact ⟨op_box 0 rfl rfl (by kernel_rfl) (by kernel_rfl) rfl rfl (.tmp 0 rfl rfl) (fits_s (fs := [⟨true, 2, pFrac n1 d1⟩, ⟨true, 2, pFrac n2 d2⟩]) ⟨fits_frac _ _, fits_frac _ _, trivial⟩ rfl) rfl,
      op_box 1 rfl rfl (by kernel_rfl) (by kernel_rfl) rfl rfl (.tmp 1 rfl rfl) (fits_s (fs := [⟨true, 2, pFrac n3 d3⟩, ⟨true, 2, pFrac n4 d4⟩]) ⟨fits_frac _ _, fits_frac _ _, trivial⟩ rfl) rfl,
      op_assign (.const _) (.here 5 rfl),
      trivial⟩
  refine seq_drawn (V1 := [⟨5, none, 39, 4, true, pS [⟨true, 2, pFrac n1 d1⟩, ⟨true, 2, pFrac n2 d2⟩], []⟩, ⟨6, none, 39, 4, true, pS [⟨true, 2, pFrac n3 d3⟩, ⟨true, 2, pFrac n4 d4⟩], []⟩, ⟨11, some 4, 54, 6, true, pPair 0 0, [(6, pPair xl xh)]⟩, ⟨12, some 5, 54, 6, true, pPair 0 0, [(7, pPair yl yh)]⟩]) (A1 := []) (G1 := [⟨none, none, 2, pEq (.int .u8 n)⟩, ⟨none, none, 3, pEq (.int .u8 m)⟩, ⟨none, none, 4, pI k⟩, ⟨none, none, 10, pB false⟩, ⟨some 0, none, 23, pS [⟨true, 2, pFrac n1 d1⟩, ⟨true, 2, pFrac n2 d2⟩]⟩, ⟨some 1, none, 24, pPair xl xh⟩, ⟨some 2, none, 25, pS [⟨true, 2, pFrac n3 d3⟩, ⟨true, 2, pFrac n4 d4⟩]⟩, ⟨some 3, none, 26, pPair yl yh⟩]) (V2 := [⟨5, none, 39, 4, true, pS [⟨true, 2, pFrac n1 d1⟩, ⟨true, 2, pFrac n2 d2⟩], []⟩, ⟨6, none, 39, 4, true, pS [⟨true, 2, pFrac n3 d3⟩, ⟨true, 2, pFrac n4 d4⟩], []⟩, ⟨11, none, 54, 6, true, pPair xl xh, []⟩, ⟨12, none, 54, 6, true, pPair yl yh, []⟩]) (A2 := []) (G2 := [⟨none, none, 2, pEq (.int .u8 n)⟩, ⟨none, none, 3, pEq (.int .u8 m)⟩, ⟨none, none, 4, pI k⟩, ⟨none, none, 10, pB false⟩]) hI rfl rfl rfl [0, 1, 0, 7, 0, 0, 63, 127] (by kernel_rfl) (by kernel_rfl) (by kernel_rfl) (by kernel_rfl) ?_ [0, 1, 2, 3] [] [0, 1, 2, 3] rfl rfl rfl fun a w hI => ?_
  · exact ⟨op_load 0 rfl rfl rfl (by kernel_rfl) ty_Frac2 rfl (.here 4 rfl),
      op_callB1 (fun _ _ => by kernel_rfl) (.tmp 4 rfl rfl) (.here 5 rfl) (cl_range e1 f1 e2 f2 exl exh),
      op_load 1 rfl rfl rfl (by kernel_rfl) ty_Frac2 rfl (.here 6 rfl),
      op_callB1 (fun _ _ => by kernel_rfl) (.tmp 6 rfl rfl) (.here 7 rfl) (cl_range e3 f3 e4 f4 eyl eyh),
      op_alloc 2 rfl rfl (by kernel_rfl) (by kernel_rfl) rfl rfl zv_Range rfl rfl (by simp [NoU]) (fun w => pS_of (cells_pair0 w)),
      op_alloc 3 rfl rfl (by kernel_rfl) (by kernel_rfl) rfl rfl zv_Range rfl rfl (by simp [NoU]) (fun w => pS_of (cells_pair0 w)),
      op_store 2 rfl rfl rfl 0 rfl (by kernel_rfl) (by kernel_rfl) ty_Range (.tmp 5 rfl rfl) (fits_pair _ _),
      op_store 3 rfl rfl rfl 0 rfl (by kernel_rfl) (by kernel_rfl) ty_Range (.tmp 7 rfl rfl) (fits_pair _ _),
      trivial⟩
  refine seq_drawn (V1 := [⟨5, none, 39, 4, true, pS [⟨true, 2, pFrac n1 d1⟩, ⟨true, 2, pFrac n2 d2⟩], []⟩, ⟨6, none, 39, 4, true, pS [⟨true, 2, pFrac n3 d3⟩, ⟨true, 2, pFrac n4 d4⟩], []⟩, ⟨11, none, 54, 6, true, pPair xl xh, []⟩, ⟨12, none, 54, 6, true, pPair yl yh, []⟩, ⟨13, some 6, 27, 3, true, pRat 0, [(8, pRat u)]⟩, ⟨14, some 7, 27, 3, true, pRat 0, [(9, pRat v)]⟩]) (A1 := []) (G1 := [⟨none, none, 2, pEq (.int .u8 n)⟩, ⟨none, none, 3, pEq (.int .u8 m)⟩, ⟨none, none, 4, pI k⟩, ⟨none, none, 10, pB false⟩, ⟨some 0, none, 27, pPair xl xh⟩, ⟨some 1, none, 28, pEq (.int .u8 n)⟩, ⟨some 2, none, 29, pRat u⟩, ⟨some 3, none, 30, pPair yl yh⟩, ⟨some 4, none, 31, pEq (.int .u8 m)⟩, ⟨some 5, none, 32, pRat v⟩]) (V2 := [⟨5, none, 39, 4, true, pS [⟨true, 2, pFrac n1 d1⟩, ⟨true, 2, pFrac n2 d2⟩], []⟩, ⟨6, none, 39, 4, true, pS [⟨true, 2, pFrac n3 d3⟩, ⟨true, 2, pFrac n4 d4⟩], []⟩, ⟨11, none, 54, 6, true, pPair xl xh, []⟩, ⟨12, none, 54, 6, true, pPair yl yh, []⟩, ⟨13, none, 27, 3, true, pRat u, []⟩, ⟨14, none, 27, 3, true, pRat v, []⟩]) (A2 := []) (G2 := [⟨none, none, 4, pI k⟩, ⟨none, none, 10, pB false⟩]) hI rfl rfl rfl [0, 0, 3, 0, 0, 31, 0, 0, 255, 511] (by kernel_rfl) (by kernel_rfl) (by kernel_rfl) (by kernel_rfl) ?_ [0, 1, 2, 3, 4, 5] [] [2, 3] rfl rfl rfl fun a w hI => ?_
  · exact ⟨op_load 2 rfl rfl rfl (by kernel_rfl) ty_Range rfl (.here 4 rfl),
      op_move (.tmp 0 rfl rfl) (.here 5 rfl),
      op_callB2 (fun _ _ => by kernel_rfl) (.tmp 4 rfl rfl) (.tmp 5 rfl rfl) (.here 6 rfl) (cl_within ⟨bxl, bxh⟩ hn eu),
      op_load 3 rfl rfl rfl (by kernel_rfl) ty_Range rfl (.here 7 rfl),
      op_move (.tmp 1 rfl rfl) (.here 8 rfl),
      op_callB2 (fun _ _ => by kernel_rfl) (.tmp 7 rfl rfl) (.tmp 8 rfl rfl) (.here 9 rfl) (cl_within ⟨byl, byh⟩ hm ev),
      op_alloc 4 rfl rfl (by kernel_rfl) (by kernel_rfl) rfl rfl zv_Ratio rfl rfl (by simp [NoU]) (fun w => isRat_zero w),
      op_alloc 5 rfl rfl (by kernel_rfl) (by kernel_rfl) rfl rfl zv_Ratio rfl rfl (by simp [NoU]) (fun w => isRat_zero w),
      op_store 4 rfl rfl rfl 0 rfl (by kernel_rfl) (by kernel_rfl) ty_Ratio (.tmp 6 rfl rfl) (fits_rat _),
      op_store 5 rfl rfl rfl 0 rfl (by kernel_rfl) (by kernel_rfl) ty_Ratio (.tmp 9 rfl rfl) (fits_rat _),
      trivial⟩
  refine wp_seq ?_
  refine seq_drawn (V1 := [⟨5, none, 39, 4, true, pS [⟨true, 2, pFrac n1 d1⟩, ⟨true, 2, pFrac n2 d2⟩], []⟩, ⟨6, none, 39, 4, true, pS [⟨true, 2, pFrac n3 d3⟩, ⟨true, 2, pFrac n4 d4⟩], []⟩, ⟨11, none, 54, 6, true, pPair xl xh, []⟩, ⟨12, none, 54, 6, true, pPair yl yh, []⟩, ⟨13, none, 27, 3, true, pRat u, []⟩, ⟨14, none, 27, 3, true, pRat v, []⟩]) (A1 := []) (G1 := [⟨none, none, 4, pI k⟩, ⟨none, none, 10, pB false⟩, ⟨some 0, none, 33, pPair xl xh⟩, ⟨some 1, none, 34, pRat u⟩, ⟨some 2, none, 35, pB true⟩, ⟨some 3, none, 36, pB false⟩, ⟨some 4, none, 37, pB false⟩, ⟨some 5, none, 38, pPair yl yh⟩, ⟨some 6, none, 39, pRat v⟩, ⟨some 7, none, 40, pB true⟩, ⟨some 8, none, 41, pB false⟩, ⟨some 9, none, 42, pB false⟩, ⟨some 10, none, 43, pB false⟩, ⟨some 11, none, 44, pPair xl xh⟩, ⟨some 12, none, 45, pPair yl yh⟩, ⟨some 13, none, 46, pPair (xl + yl) (xh + yh)⟩, ⟨some 14, none, 47, pRat u⟩, ⟨some 15, none, 48, pRat v⟩, ⟨some 16, none, 49, pRat (u + v)⟩, ⟨some 17, none, 50, pB true⟩, ⟨some 18, none, 51, pB false⟩, ⟨some 19, none, 52, pB false⟩, ⟨some 20, none, 53, pB false⟩, ⟨some 21, none, 54, pPair xl xh⟩, ⟨some 22, none, 55, pPair yl yh⟩, ⟨some 23, none, 56, pPair (xl - yh) (xh - yl)⟩, ⟨some 24, none, 57, pRat u⟩, ⟨some 25, none, 58, pRat v⟩, ⟨some 26, none, 59, pRat (u - v)⟩, ⟨some 27, none, 60, pB true⟩, ⟨some 28, none, 61, pB false⟩, ⟨some 29, none, 62, pB false⟩, ⟨some 30, none, 63, pB false⟩, ⟨some 31, none, 64, pPair xl xh⟩, ⟨some 32, none, 65, pPair yl yh⟩, ⟨some 33, none, 66, pPair (min4 (xl * yl) (xl * yh) (xh * yl) (xh * yh)) (max4 (xl * yl) (xl * yh) (xh * yl) (xh * yh))⟩, ⟨some 34, none, 67, pRat u⟩, ⟨some 35, none, 68, pRat v⟩, ⟨some 36, none, 69, pRat (u * v)⟩, ⟨some 37, none, 70, pB true⟩, ⟨some 38, none, 71, pB false⟩, ⟨some 39, none, 72, pB false⟩, ⟨some 40, none, 73, pB false⟩, ⟨some 41, none, 74, pPair xl xh⟩, ⟨some 42, none, 75, pPair (-xh) (-xl)⟩, ⟨some 43, none, 76, pRat u⟩, ⟨some 44, none, 77, pRat (-u)⟩, ⟨some 45, none, 78, pB true⟩, ⟨some 46, none, 79, pB false⟩, ⟨some 47, none, 80, pB false⟩, ⟨some 48, none, 81, pB false⟩, ⟨some 49, none, 82, pPair xl xh⟩, ⟨some 50, none, 83, pPair (sqLo xl xh) (max2 (xl * xl) (xh * xh))⟩, ⟨some 51, none, 84, pRat u⟩, ⟨some 52, none, 85, pRat u⟩, ⟨some 53, none, 86, pRat (u * u)⟩, ⟨some 54, none, 87, pB true⟩, ⟨some 55, none, 88, pB false⟩, ⟨some 56, none, 89, pB false⟩, ⟨some 57, none, 90, pB false⟩, ⟨some 58, none, 91, pPair xl xh⟩, ⟨some 59, none, 92, pI k⟩, ⟨some 60, none, 93, pPair (downR xl k) (-(downR (-xh) k))⟩, ⟨some 61, none, 94, pRat u⟩, ⟨some 62, none, 95, pB true⟩, ⟨some 63, none, 96, pB false⟩, ⟨some 64, none, 97, pB false⟩, ⟨some 65, none, 98, pB false⟩, ⟨some 66, none, 99, pPair xl xh⟩, ⟨some 67, none, 100, pPair yl yh⟩, ⟨some 68, none, 101, pPair (min4 xl xh yl yh) (max4 xl xh yl yh)⟩, ⟨some 69, none, 102, pRat v⟩, ⟨some 70, none, 103, pB true⟩, ⟨some 71, none, 104, pB false⟩, ⟨some 72, none, 105, pB false⟩]) (V2 := [⟨5, none, 39, 4, true, pS [⟨true, 2, pFrac n1 d1⟩, ⟨true, 2, pFrac n2 d2⟩], []⟩, ⟨6, none, 39, 4, true, pS [⟨true, 2, pFrac n3 d3⟩, ⟨true, 2, pFrac n4 d4⟩], []⟩, ⟨11, none, 54, 6, true, pPair xl xh, []⟩, ⟨12, none, 54, 6, true, pPair yl yh, []⟩, ⟨13, none, 27, 3, true, pRat u, []⟩, ⟨14, none, 27, 3, true, pRat v, []⟩]) (A2 := []) (G2 := [⟨none, none, 10, pB false⟩, ⟨none, none, 105, pB false⟩]) hI rfl rfl rfl [0, 0, 3, 7, 15, 31, 31, 127, 255, 511, 1023, 2047, 2047, 8191, 2047, 2047, 65535, 131071, 262143, 524287, 1048575, 2097151, 2097151, 8388607, 2097151, 2097151, 67108863, 134217727, 268435455, 536870911, 1073741823, 2147483647, 2147483647, 8589934591, 2147483647, 2147483647, 68719476735, 137438953471, 274877906943, 549755813887, 1099511627775, 2199023255551, 4398046511103, 2199023255551, 17592186044415, 35184372088831, 70368744177663, 140737488355327, 281474976710655, 562949953421311, 1125899906842623, 562949953421311, 562949953421311, 9007199254740991, 18014398509481983, 36028797018963967, 72057594037927935, 144115188075855871, 288230376151711743, 288230376151711743, 1152921504606846975, 288230376151711743, 4611686018427387903, 9223372036854775807, 18446744073709551615, 36893488147419103231, 73786976294838206463, 73786976294838206463, 295147905179352825855, 73786976294838206463, 1180591620717411303423, 2361183241434822606847, 4722366482869645213695] (by kernel_rfl) (by kernel_rfl) (by kernel_rfl) (by kernel_rfl) ?_ [0, 1, 2, 3, 4, 5] [] [1, 74] rfl rfl rfl fun a w hI => ?_
  · exact ⟨op_load 2 rfl rfl rfl (by kernel_rfl) ty_Range rfl (.here 2 rfl),
      op_load 4 rfl rfl rfl (by kernel_rfl) ty_Ratio rfl (.here 3 rfl),
      op_callB2 (fun _ _ => by kernel_rfl) (.tmp 2 rfl rfl) (.tmp 3 rfl rfl) (.here 4 rfl) (cb_known2 (b := true) (cr_has (j := 64) (k := 771) ⟨bxl, bxh⟩ bu (by omega)) (decide2 ox)),
      op_not (.tmp 4 rfl rfl) (.here 5 rfl),
      op_move (.tmp 5 rfl rfl) (.here 6 rfl),
      op_yes 6 rfl rfl (op_load 3 rfl rfl rfl (by kernel_rfl) ty_Range rfl (.here 7 rfl)),
      op_yes 6 rfl rfl (op_load 5 rfl rfl rfl (by kernel_rfl) ty_Ratio rfl (.here 8 rfl)),
      op_yes 6 rfl rfl (op_callB2 (fun _ _ => by kernel_rfl) (.tmp 7 rfl rfl) (.tmp 8 rfl rfl) (.here 9 rfl) (cb_known2 (b := true) (cr_has (j := 64) (k := 771) ⟨byl, byh⟩ bv (by omega)) (decide2 oy))),
      op_yes 6 rfl rfl (op_not (.tmp 9 rfl rfl) (.here 10 rfl)),
      op_pick (b := false) (.tmp 6 rfl rfl) (fun h => by cases h) (fun _ => (.tmp 10 rfl rfl)) (.here 11 rfl),
      op_move (.tmp 11 rfl rfl) (.here 12 rfl),
      op_yes 12 rfl rfl (op_load 2 rfl rfl rfl (by kernel_rfl) ty_Range rfl (.here 13 rfl)),
      op_yes 12 rfl rfl (op_load 3 rfl rfl rfl (by kernel_rfl) ty_Range rfl (.here 14 rfl)),
      op_yes 12 rfl rfl (op_callB2 (fun _ _ => by kernel_rfl) (.tmp 13 rfl rfl) (.tmp 14 rfl rfl) (.here 15 rfl) (cr_add (j := 64) (k := 64) ⟨bxl, bxh⟩ ⟨byl, byh⟩ (by omega))),
      op_yes 12 rfl rfl (op_load 4 rfl rfl rfl (by kernel_rfl) ty_Ratio rfl (.here 16 rfl)),
      op_yes 12 rfl rfl (op_load 5 rfl rfl rfl (by kernel_rfl) ty_Ratio rfl (.here 17 rfl)),
      op_yes 12 rfl rfl (op_call2 (fun _ _ => by kernel_rfl) (numlike_rat _) (.tmp 16 rfl rfl) (.tmp 17 rfl rfl) (.here 18 rfl) (c_add bu bv (by omega))),
      op_yes 12 rfl rfl (op_callB2 (fun _ _ => by kernel_rfl) (.tmp 15 rfl rfl) (.tmp 18 rfl rfl) (.here 19 rfl) (cb_known2 (b := true) (cr_has (j := 257) (k := 3085) ⟨B1, B2⟩ B3 (by omega)) (decide2 (i_add ox oy)))),
      op_yes 12 rfl rfl (op_not (.tmp 19 rfl rfl) (.here 20 rfl)),
      op_pick (b := false) (.tmp 12 rfl rfl) (fun h => by cases h) (fun _ => (.tmp 20 rfl rfl)) (.here 21 rfl),
      op_move (.tmp 21 rfl rfl) (.here 22 rfl),
      op_yes 22 rfl rfl (op_load 2 rfl rfl rfl (by kernel_rfl) ty_Range rfl (.here 23 rfl)),
      op_yes 22 rfl rfl (op_load 3 rfl rfl rfl (by kernel_rfl) ty_Range rfl (.here 24 rfl)),
      op_yes 22 rfl rfl (op_callB2 (fun _ _ => by kernel_rfl) (.tmp 23 rfl rfl) (.tmp 24 rfl rfl) (.here 25 rfl) (cr_sub (j := 64) (k := 64) ⟨bxl, bxh⟩ ⟨byl, byh⟩ (by omega))),
      op_yes 22 rfl rfl (op_load 4 rfl rfl rfl (by kernel_rfl) ty_Ratio rfl (.here 26 rfl)),
      op_yes 22 rfl rfl (op_load 5 rfl rfl rfl (by kernel_rfl) ty_Ratio rfl (.here 27 rfl)),
      op_yes 22 rfl rfl (op_call2 (fun _ _ => by kernel_rfl) (numlike_rat _) (.tmp 26 rfl rfl) (.tmp 27 rfl rfl) (.here 28 rfl) (c_sub bu bv (by omega))),
      op_yes 22 rfl rfl (op_callB2 (fun _ _ => by kernel_rfl) (.tmp 25 rfl rfl) (.tmp 28 rfl rfl) (.here 29 rfl) (cb_known2 (b := true) (cr_has (j := 257) (k := 3085) ⟨B4, B5⟩ B6 (by omega)) (decide2 (i_sub ox oy)))),
      op_yes 22 rfl rfl (op_not (.tmp 29 rfl rfl) (.here 30 rfl)),
      op_pick (b := false) (.tmp 22 rfl rfl) (fun h => by cases h) (fun _ => (.tmp 30 rfl rfl)) (.here 31 rfl),
      op_move (.tmp 31 rfl rfl) (.here 32 rfl),
      op_yes 32 rfl rfl (op_load 2 rfl rfl rfl (by kernel_rfl) ty_Range rfl (.here 33 rfl)),
      op_yes 32 rfl rfl (op_load 3 rfl rfl rfl (by kernel_rfl) ty_Range rfl (.here 34 rfl)),
      op_yes 32 rfl rfl (op_callB2 (fun _ _ => by kernel_rfl) (.tmp 33 rfl rfl) (.tmp 34 rfl rfl) (.here 35 rfl) (cr_mul (j := 64) (k := 64) ⟨bxl, bxh⟩ ⟨byl, byh⟩ (by omega))),
      op_yes 32 rfl rfl (op_load 4 rfl rfl rfl (by kernel_rfl) ty_Ratio rfl (.here 36 rfl)),
      op_yes 32 rfl rfl (op_load 5 rfl rfl rfl (by kernel_rfl) ty_Ratio rfl (.here 37 rfl)),
      op_yes 32 rfl rfl (op_call2 (fun _ _ => by kernel_rfl) (numlike_rat _) (.tmp 36 rfl rfl) (.tmp 37 rfl rfl) (.here 38 rfl) (c_mul bu bv (by omega))),
      op_yes 32 rfl rfl (op_callB2 (fun _ _ => by kernel_rfl) (.tmp 35 rfl rfl) (.tmp 38 rfl rfl) (.here 39 rfl) (cb_known2 (b := true) (cr_has (j := 128) (k := 1542) ⟨B11, B12⟩ B13 (by omega)) (decide2 (mul_in ox.1 ox.2 oy.1 oy.2)))),
      op_yes 32 rfl rfl (op_not (.tmp 39 rfl rfl) (.here 40 rfl)),
      op_pick (b := false) (.tmp 32 rfl rfl) (fun h => by cases h) (fun _ => (.tmp 40 rfl rfl)) (.here 41 rfl),
      op_move (.tmp 41 rfl rfl) (.here 42 rfl),
      op_yes 42 rfl rfl (op_load 2 rfl rfl rfl (by kernel_rfl) ty_Range rfl (.here 43 rfl)),
      op_yes 42 rfl rfl (op_callB1 (fun _ _ => by kernel_rfl) (.tmp 43 rfl rfl) (.here 44 rfl) (cr_neg _ _)),
      op_yes 42 rfl rfl (op_load 4 rfl rfl rfl (by kernel_rfl) ty_Ratio rfl (.here 45 rfl)),
      op_yes 42 rfl rfl (op_call1 (fun _ _ => by kernel_rfl) (numlike_rat _) (.tmp 45 rfl rfl) (.here 46 rfl) (c_neg _)),
      op_yes 42 rfl rfl (op_callB2 (fun _ _ => by kernel_rfl) (.tmp 44 rfl rfl) (.tmp 46 rfl rfl) (.here 47 rfl) (cb_known2 (b := true) (cr_has (j := 64) (k := 771) ⟨B14, B15⟩ B16 (by omega)) (decide2 (i_neg ox)))),
      op_yes 42 rfl rfl (op_not (.tmp 47 rfl rfl) (.here 48 rfl)),
      op_pick (b := false) (.tmp 42 rfl rfl) (fun h => by cases h) (fun _ => (.tmp 48 rfl rfl)) (.here 49 rfl),
      op_move (.tmp 49 rfl rfl) (.here 50 rfl),
      op_yes 50 rfl rfl (op_load 2 rfl rfl rfl (by kernel_rfl) ty_Range rfl (.here 51 rfl)),
      op_yes 50 rfl rfl (op_callB1 (fun _ _ => by kernel_rfl) (.tmp 51 rfl rfl) (.here 52 rfl) (cr_square (j := 64) ⟨bxl, bxh⟩ (by omega))),
      op_yes 50 rfl rfl (op_load 4 rfl rfl rfl (by kernel_rfl) ty_Ratio rfl (.here 53 rfl)),
      op_yes 50 rfl rfl (op_load 4 rfl rfl rfl (by kernel_rfl) ty_Ratio rfl (.here 54 rfl)),
      op_yes 50 rfl rfl (op_call2 (fun _ _ => by kernel_rfl) (numlike_rat _) (.tmp 53 rfl rfl) (.tmp 54 rfl rfl) (.here 55 rfl) (c_mul bu bu (by omega))),
      op_yes 50 rfl rfl (op_callB2 (fun _ _ => by kernel_rfl) (.tmp 52 rfl rfl) (.tmp 55 rfl rfl) (.here 56 rfl) (cb_known2 (b := true) (cr_has (j := 128) (k := 1542) ⟨B19, B20⟩ B21 (by omega)) (decide2 (sq_in ox.1 ox.2)))),
      op_yes 50 rfl rfl (op_not (.tmp 56 rfl rfl) (.here 57 rfl)),
      op_pick (b := false) (.tmp 50 rfl rfl) (fun h => by cases h) (fun _ => (.tmp 57 rfl rfl)) (.here 58 rfl),
      op_move (.tmp 58 rfl rfl) (.here 59 rfl),
      op_yes 59 rfl rfl (op_load 2 rfl rfl rfl (by kernel_rfl) ty_Range rfl (.here 60 rfl)),
      op_yes 59 rfl rfl (op_move (.tmp 0 rfl rfl) (.here 61 rfl)),
      op_yes 59 rfl rfl (op_callB2 (fun _ _ => by kernel_rfl) (.tmp 60 rfl rfl) (.tmp 61 rfl rfl) (.here 62 rfl) (cr_round (j := 64) ⟨bxl, bxh⟩ _ (by omega))),
      op_yes 59 rfl rfl (op_load 4 rfl rfl rfl (by kernel_rfl) ty_Ratio rfl (.here 63 rfl)),
      op_yes 59 rfl rfl (op_callB2 (fun _ _ => by kernel_rfl) (.tmp 62 rfl rfl) (.tmp 63 rfl rfl) (.here 64 rfl) (cb_known2 (b := true) (cr_has (j := 364) (k := 771) ⟨B22, B23⟩ bu (by omega)) (decide2 (i_round ox k)))),
      op_yes 59 rfl rfl (op_not (.tmp 64 rfl rfl) (.here 65 rfl)),
      op_pick (b := false) (.tmp 59 rfl rfl) (fun h => by cases h) (fun _ => (.tmp 65 rfl rfl)) (.here 66 rfl),
      op_move (.tmp 66 rfl rfl) (.here 67 rfl),
      op_yes 67 rfl rfl (op_load 2 rfl rfl rfl (by kernel_rfl) ty_Range rfl (.here 68 rfl)),
      op_yes 67 rfl rfl (op_load 3 rfl rfl rfl (by kernel_rfl) ty_Range rfl (.here 69 rfl)),
      op_yes 67 rfl rfl (op_callB2 (fun _ _ => by kernel_rfl) (.tmp 68 rfl rfl) (.tmp 69 rfl rfl) (.here 70 rfl) (cr_hull (j := 64) ⟨bxl, bxh⟩ ⟨byl, byh⟩ (by omega))),
      op_yes 67 rfl rfl (op_load 5 rfl rfl rfl (by kernel_rfl) ty_Ratio rfl (.here 71 rfl)),
      op_yes 67 rfl rfl (op_callB2 (fun _ _ => by kernel_rfl) (.tmp 70 rfl rfl) (.tmp 71 rfl rfl) (.here 72 rfl) (cb_known2 (b := true) (cr_has (j := 64) (k := 771) ⟨B24, B25⟩ bv (by omega)) (decide2 (i_hull oy)))),
      op_yes 67 rfl rfl (op_not (.tmp 72 rfl rfl) (.here 73 rfl)),
      op_pick (b := false) (.tmp 67 rfl rfl) (fun h => by cases h) (fun _ => (.tmp 73 rfl rfl)) (.here 74 rfl),
      trivial⟩
  refine cond_no hI 1 rfl ?_
  refine wp_skip ?_
  refine then_of ?_
  refine seq_drawn (V1 := [⟨5, none, 39, 4, true, pS [⟨true, 2, pFrac n1 d1⟩, ⟨true, 2, pFrac n2 d2⟩], []⟩, ⟨6, none, 39, 4, true, pS [⟨true, 2, pFrac n3 d3⟩, ⟨true, 2, pFrac n4 d4⟩], []⟩, ⟨11, none, 54, 6, true, pPair xl xh, []⟩, ⟨12, none, 54, 6, true, pPair yl yh, []⟩, ⟨13, none, 27, 3, true, pRat u, []⟩, ⟨14, none, 27, 3, true, pRat v, []⟩, ⟨15, some 4, 54, 6, true, pPair 0 0, [(6, pPair u u)]⟩, ⟨16, some 5, 54, 6, true, pPair 0 0, [(7, pPair v v)]⟩]) (A1 := []) (G1 := [⟨none, none, 10, pB false⟩, ⟨none, none, 105, pB false⟩, ⟨some 0, none, 106, pRat u⟩, ⟨some 1, none, 107, pPair u u⟩, ⟨some 2, none, 108, pRat v⟩, ⟨some 3, none, 109, pPair v v⟩]) (V2 := [⟨5, none, 39, 4, true, pS [⟨true, 2, pFrac n1 d1⟩, ⟨true, 2, pFrac n2 d2⟩], []⟩, ⟨6, none, 39, 4, true, pS [⟨true, 2, pFrac n3 d3⟩, ⟨true, 2, pFrac n4 d4⟩], []⟩, ⟨11, none, 54, 6, true, pPair xl xh, []⟩, ⟨12, none, 54, 6, true, pPair yl yh, []⟩, ⟨13, none, 27, 3, true, pRat u, []⟩, ⟨14, none, 27, 3, true, pRat v, []⟩, ⟨15, none, 54, 6, true, pPair u u, []⟩, ⟨16, none, 54, 6, true, pPair v v, []⟩]) (A2 := []) (G2 := [⟨none, none, 10, pB false⟩]) hI rfl rfl rfl [0, 1, 0, 7, 0, 0, 63, 127] (by kernel_rfl) (by kernel_rfl) (by kernel_rfl) (by kernel_rfl) ?_ [0, 1, 2, 3, 4, 5, 6, 7] [] [0] rfl rfl rfl fun a w hI => ?_
  · exact ⟨op_load 4 rfl rfl rfl (by kernel_rfl) ty_Ratio rfl (.here 2 rfl),
      op_callB1 (fun _ _ => by kernel_rfl) (.tmp 2 rfl rfl) (.here 3 rfl) (cr_only _),
      op_load 5 rfl rfl rfl (by kernel_rfl) ty_Ratio rfl (.here 4 rfl),
      op_callB1 (fun _ _ => by kernel_rfl) (.tmp 4 rfl rfl) (.here 5 rfl) (cr_only _),
      op_alloc 6 rfl rfl (by kernel_rfl) (by kernel_rfl) rfl rfl zv_Range rfl rfl (by simp [NoU]) (fun w => pS_of (cells_pair0 w)),
      op_alloc 7 rfl rfl (by kernel_rfl) (by kernel_rfl) rfl rfl zv_Range rfl rfl (by simp [NoU]) (fun w => pS_of (cells_pair0 w)),
      op_store 6 rfl rfl rfl 0 rfl (by kernel_rfl) (by kernel_rfl) ty_Range (.tmp 3 rfl rfl) (fits_pair _ _),
      op_store 7 rfl rfl rfl 0 rfl (by kernel_rfl) (by kernel_rfl) ty_Range (.tmp 5 rfl rfl) (fits_pair _ _),
      trivial⟩
  refine wp_seq ?_
  refine seq_drawn (V1 := [⟨5, none, 39, 4, true, pS [⟨true, 2, pFrac n1 d1⟩, ⟨true, 2, pFrac n2 d2⟩], []⟩, ⟨6, none, 39, 4, true, pS [⟨true, 2, pFrac n3 d3⟩, ⟨true, 2, pFrac n4 d4⟩], []⟩, ⟨11, none, 54, 6, true, pPair xl xh, []⟩, ⟨12, none, 54, 6, true, pPair yl yh, []⟩, ⟨13, none, 27, 3, true, pRat u, []⟩, ⟨14, none, 27, 3, true, pRat v, []⟩, ⟨15, none, 54, 6, true, pPair u u, []⟩, ⟨16, none, 54, 6, true, pPair v v, []⟩]) (A1 := []) (G1 := [⟨none, none, 10, pB false⟩, ⟨some 0, none, 110, pPair u u⟩, ⟨some 1, none, 111, pPair xl xh⟩, ⟨some 2, none, 112, pB true⟩, ⟨some 3, none, 113, pB false⟩, ⟨some 4, none, 114, pB false⟩, ⟨some 5, none, 115, pPair u u⟩, ⟨some 6, none, 116, pPair v v⟩, ⟨some 7, none, 117, pPair (u + v) (u + v)⟩, ⟨some 8, none, 118, pPair xl xh⟩, ⟨some 9, none, 119, pPair yl yh⟩, ⟨some 10, none, 120, pPair (xl + yl) (xh + yh)⟩, ⟨some 11, none, 121, pB true⟩, ⟨some 12, none, 122, pB false⟩, ⟨some 13, none, 123, pB false⟩, ⟨some 14, none, 124, pB false⟩, ⟨some 15, none, 125, pPair u u⟩, ⟨some 16, none, 126, pPair yl yh⟩, ⟨some 17, none, 127, pPair (min4 (u * yl) (u * yh) (u * yl) (u * yh)) (max4 (u * yl) (u * yh) (u * yl) (u * yh))⟩, ⟨some 18, none, 128, pPair xl xh⟩, ⟨some 19, none, 129, pPair yl yh⟩, ⟨some 20, none, 130, pPair (min4 (xl * yl) (xl * yh) (xh * yl) (xh * yh)) (max4 (xl * yl) (xl * yh) (xh * yl) (xh * yh))⟩, ⟨some 21, none, 131, pB true⟩, ⟨some 22, none, 132, pB false⟩, ⟨some 23, none, 133, pB false⟩, ⟨some 24, none, 134, pB false⟩, ⟨some 25, none, 135, pPair u u⟩, ⟨some 26, none, 136, pPair (sqLo u u) (max2 (u * u) (u * u))⟩, ⟨some 27, none, 137, pPair xl xh⟩, ⟨some 28, none, 138, pPair (sqLo xl xh) (max2 (xl * xl) (xh * xh))⟩, ⟨some 29, none, 139, pB true⟩, ⟨some 30, none, 140, pB false⟩, ⟨some 31, none, 141, pB false⟩, ⟨some 32, none, 142, pB false⟩, ⟨some 33, none, 143, pPair xl xh⟩, ⟨some 34, none, 144, pPair yl yh⟩, ⟨some 35, none, 145, pB (decide (xh < yl))⟩, ⟨some 36, none, 146, pB (decide (xh < yl))⟩, ⟨some 37, none, 147, pSel ((decide (xh < yl)) = true) (pRat u)⟩, ⟨some 38, none, 148, pSel ((decide (xh < yl)) = true) (pRat v)⟩, ⟨some 39, none, 149, pSel ((decide (xh < yl)) = true) (pI (cmpT u v))⟩, ⟨some 40, none, 150, pSel ((decide (xh < yl)) = true) (pB (decide ((cmpT u v) ≥ (0 : Int))))⟩, ⟨some 41, none, 151, pB false⟩, ⟨some 42, none, 152, pB false⟩]) (V2 := [⟨5, none, 39, 4, true, pS [⟨true, 2, pFrac n1 d1⟩, ⟨true, 2, pFrac n2 d2⟩], []⟩, ⟨6, none, 39, 4, true, pS [⟨true, 2, pFrac n3 d3⟩, ⟨true, 2, pFrac n4 d4⟩], []⟩, ⟨11, none, 54, 6, true, pPair xl xh, []⟩, ⟨12, none, 54, 6, true, pPair yl yh, []⟩, ⟨13, none, 27, 3, true, pRat u, []⟩, ⟨14, none, 27, 3, true, pRat v, []⟩, ⟨15, none, 54, 6, true, pPair u u, []⟩, ⟨16, none, 54, 6, true, pPair v v, []⟩]) (A2 := []) (G2 := [⟨none, none, 10, pB false⟩, ⟨none, none, 152, pB false⟩]) hI rfl rfl rfl [0, 0, 3, 7, 15, 31, 31, 127, 31, 31, 1023, 2047, 4095, 8191, 16383, 32767, 32767, 131071, 32767, 32767, 1048575, 2097151, 4194303, 8388607, 16777215, 33554431, 67108863, 33554431, 268435455, 536870911, 1073741823, 2147483647, 4294967295, 8589934591, 8589934591, 34359738367, 68719476735, 137438953471, 137438953471, 549755813887, 1099511627775, 2199023255551, 4398046511103] (by kernel_rfl) (by kernel_rfl) (by kernel_rfl) (by kernel_rfl) ?_ [0, 1, 2, 3, 4, 5, 6, 7] [] [0, 43] rfl rfl rfl fun a w hI => ?_
  · exact ⟨op_load 6 rfl rfl rfl (by kernel_rfl) ty_Range rfl (.here 1 rfl),
      op_load 2 rfl rfl rfl (by kernel_rfl) ty_Range rfl (.here 2 rfl),
      op_callB2 (fun _ _ => by kernel_rfl) (.tmp 1 rfl rfl) (.tmp 2 rfl rfl) (.here 3 rfl) (cb_known2 (b := true) (cr_in (j := 771) (k := 64) ⟨bu, bu⟩ ⟨bxl, bxh⟩ (by omega)) (decide4 ox ox)),
      op_not (.tmp 3 rfl rfl) (.here 4 rfl),
      op_move (.tmp 4 rfl rfl) (.here 5 rfl),
      op_yes 5 rfl rfl (op_load 6 rfl rfl rfl (by kernel_rfl) ty_Range rfl (.here 6 rfl)),
      op_yes 5 rfl rfl (op_load 7 rfl rfl rfl (by kernel_rfl) ty_Range rfl (.here 7 rfl)),
      op_yes 5 rfl rfl (op_callB2 (fun _ _ => by kernel_rfl) (.tmp 6 rfl rfl) (.tmp 7 rfl rfl) (.here 8 rfl) (cr_add (j := 771) (k := 771) ⟨bu, bu⟩ ⟨bv, bv⟩ (by omega))),
      op_yes 5 rfl rfl (op_load 2 rfl rfl rfl (by kernel_rfl) ty_Range rfl (.here 9 rfl)),
      op_yes 5 rfl rfl (op_load 3 rfl rfl rfl (by kernel_rfl) ty_Range rfl (.here 10 rfl)),
      op_yes 5 rfl rfl (op_callB2 (fun _ _ => by kernel_rfl) (.tmp 9 rfl rfl) (.tmp 10 rfl rfl) (.here 11 rfl) (cr_add (j := 64) (k := 64) ⟨bxl, bxh⟩ ⟨byl, byh⟩ (by omega))),
      op_yes 5 rfl rfl (op_callB2 (fun _ _ => by kernel_rfl) (.tmp 8 rfl rfl) (.tmp 11 rfl rfl) (.here 12 rfl) (cb_known2 (b := true) (cr_in (j := 3085) (k := 257) ⟨B26, B27⟩ ⟨B28, B29⟩ (by omega)) (decide4 (i_add ox oy) (i_add ox oy)))),
      op_yes 5 rfl rfl (op_not (.tmp 12 rfl rfl) (.here 13 rfl)),
      op_pick (b := false) (.tmp 5 rfl rfl) (fun h => by cases h) (fun _ => (.tmp 13 rfl rfl)) (.here 14 rfl),
      op_move (.tmp 14 rfl rfl) (.here 15 rfl),
      op_yes 15 rfl rfl (op_load 6 rfl rfl rfl (by kernel_rfl) ty_Range rfl (.here 16 rfl)),
      op_yes 15 rfl rfl (op_load 3 rfl rfl rfl (by kernel_rfl) ty_Range rfl (.here 17 rfl)),
      op_yes 15 rfl rfl (op_callB2 (fun _ _ => by kernel_rfl) (.tmp 16 rfl rfl) (.tmp 17 rfl rfl) (.here 18 rfl) (cr_mul (j := 771) (k := 64) ⟨bu, bu⟩ ⟨byl, byh⟩ (by omega))),
      op_yes 15 rfl rfl (op_load 2 rfl rfl rfl (by kernel_rfl) ty_Range rfl (.here 19 rfl)),
      op_yes 15 rfl rfl (op_load 3 rfl rfl rfl (by kernel_rfl) ty_Range rfl (.here 20 rfl)),
      op_yes 15 rfl rfl (op_callB2 (fun _ _ => by kernel_rfl) (.tmp 19 rfl rfl) (.tmp 20 rfl rfl) (.here 21 rfl) (cr_mul (j := 64) (k := 64) ⟨bxl, bxh⟩ ⟨byl, byh⟩ (by omega))),
      op_yes 15 rfl rfl (op_callB2 (fun _ _ => by kernel_rfl) (.tmp 18 rfl rfl) (.tmp 21 rfl rfl) (.here 22 rfl) (cb_known2 (b := true) (cr_in (j := 835) (k := 128) ⟨B34, B35⟩ ⟨B40, B41⟩ (by omega)) (decide4 (i_mulp ox oy).1 (i_mulp ox oy).2))),
      op_yes 15 rfl rfl (op_not (.tmp 22 rfl rfl) (.here 23 rfl)),
      op_pick (b := false) (.tmp 15 rfl rfl) (fun h => by cases h) (fun _ => (.tmp 23 rfl rfl)) (.here 24 rfl),
      op_move (.tmp 24 rfl rfl) (.here 25 rfl),
      op_yes 25 rfl rfl (op_load 6 rfl rfl rfl (by kernel_rfl) ty_Range rfl (.here 26 rfl)),
      op_yes 25 rfl rfl (op_callB1 (fun _ _ => by kernel_rfl) (.tmp 26 rfl rfl) (.here 27 rfl) (cr_square (j := 771) ⟨bu, bu⟩ (by omega))),
      op_yes 25 rfl rfl (op_load 2 rfl rfl rfl (by kernel_rfl) ty_Range rfl (.here 28 rfl)),
      op_yes 25 rfl rfl (op_callB1 (fun _ _ => by kernel_rfl) (.tmp 28 rfl rfl) (.here 29 rfl) (cr_square (j := 64) ⟨bxl, bxh⟩ (by omega))),
      op_yes 25 rfl rfl (op_callB2 (fun _ _ => by kernel_rfl) (.tmp 27 rfl rfl) (.tmp 29 rfl rfl) (.here 30 rfl) (cb_known2 (b := true) (cr_in (j := 1542) (k := 128) ⟨B44, B45⟩ ⟨B48, B49⟩ (by omega)) (decide4 (i_sqp ox).1 (i_sqp ox).2))),
      op_yes 25 rfl rfl (op_not (.tmp 30 rfl rfl) (.here 31 rfl)),
      op_pick (b := false) (.tmp 25 rfl rfl) (fun h => by cases h) (fun _ => (.tmp 31 rfl rfl)) (.here 32 rfl),
      op_move (.tmp 32 rfl rfl) (.here 33 rfl),
      op_yes 33 rfl rfl (op_load 2 rfl rfl rfl (by kernel_rfl) ty_Range rfl (.here 34 rfl)),
      op_yes 33 rfl rfl (op_load 3 rfl rfl rfl (by kernel_rfl) ty_Range rfl (.here 35 rfl)),
      op_yes 33 rfl rfl (op_callB2 (fun _ _ => by kernel_rfl) (.tmp 34 rfl rfl) (.tmp 35 rfl rfl) (.here 36 rfl) (cr_before (j := 64) (k := 64) ⟨bxl, bxh⟩ ⟨byl, byh⟩ (by omega))),
      op_yes 33 rfl rfl (op_move (.tmp 36 rfl rfl) (.here 37 rfl)),
      op_if 37 rfl rfl (fun hc => op_load 4 rfl rfl rfl (by kernel_rfl) ty_Ratio rfl (.sel hc 38 rfl)) (by kernel_rfl) (fun _ => .none (by kernel_rfl)) (fun hc => .sel_no hc 38 rfl),
      op_if 37 rfl rfl (fun hc => op_load 5 rfl rfl rfl (by kernel_rfl) ty_Ratio rfl (.sel hc 39 rfl)) (by kernel_rfl) (fun _ => .none (by kernel_rfl)) (fun hc => .sel_no hc 39 rfl),
      op_if 37 rfl rfl (fun hc => op_call2 (fun _ _ => by kernel_rfl) (numlike_eq _) (.sel (.tmp 38 rfl rfl) hc) (.sel (.tmp 39 rfl rfl) hc) (.sel hc 40 rfl) (c_cmp bu bv (by omega))) (by kernel_rfl) (fun _ => .none (by kernel_rfl)) (fun hc => .sel_no hc 40 rfl),
      op_if 37 rfl rfl (fun hc => op_bin (v := .bool (decide ((cmpT u v) ≥ (0 : Int)))) (.sel (.tmp 40 rfl rfl) hc) (.const _) (fun _ => rfl) (.sel hc 41 rfl)) (by kernel_rfl) (fun _ => .none (by kernel_rfl)) (fun hc => .sel_no hc 41 rfl),
      op_yes 33 rfl rfl (op_pick (.tmp 37 rfl rfl) (fun h => .imp (.sel (.tmp 41 rfl rfl) (h)) fun _ _ e => by rw [h]; exact e) (fun h => .imp (.const _) fun _ _ e => by rw [h]; exact e) (.at_ 42 _ _ rfl (pB_eq (i_before ox oy)))),
      op_pick (b := false) (.tmp 33 rfl rfl) (fun h => by cases h) (fun _ => (.tmp 42 rfl rfl)) (.here 43 rfl),
      trivial⟩
  refine cond_no hI 1 rfl ?_
  refine wp_skip ?_
  refine then_of ?_
  refine seq_text (V1 := [⟨5, none, 39, 4, true, pS [⟨true, 2, pFrac n1 d1⟩, ⟨true, 2, pFrac n2 d2⟩], []⟩, ⟨6, none, 39, 4, true, pS [⟨true, 2, pFrac n3 d3⟩, ⟨true, 2, pFrac n4 d4⟩], []⟩, ⟨11, none, 54, 6, true, pPair xl xh, []⟩, ⟨12, none, 54, 6, true, pPair yl yh, []⟩, ⟨13, none, 27, 3, true, pRat u, []⟩, ⟨14, none, 27, 3, true, pRat v, []⟩, ⟨15, none, 54, 6, true, pPair u u, []⟩, ⟨16, none, 54, 6, true, pPair v v, []⟩, ⟨17, some 6, 54, 6, true, pPair 0 0, [(7, pPair (divLo xl xh yl yh) (divHi xl xh yl yh))]⟩]) (A1 := []) (G1 := [⟨none, none, 10, pB false⟩, ⟨none, none, 152, pB false⟩, ⟨some 0, none, 154, pPair xl xh⟩, ⟨some 1, none, 155, pPair yl yh⟩, ⟨some 2, none, 156, pTup2 (pPair (divLo xl xh yl yh) (divHi xl xh yl yh)) (pI (divE yl yh))⟩, ⟨some 3, none, 153, pTup2 (pPair (divLo xl xh yl yh) (divHi xl xh yl yh)) (pI (divE yl yh))⟩, ⟨some 4, none, 157, pPair (divLo xl xh yl yh) (divHi xl xh yl yh)⟩, ⟨some 5, none, 158, pI (divE yl yh)⟩, ⟨some 8, none, 18, pI (divE yl yh)⟩]) (V2 := [⟨5, none, 39, 4, true, pS [⟨true, 2, pFrac n1 d1⟩, ⟨true, 2, pFrac n2 d2⟩], []⟩, ⟨6, none, 39, 4, true, pS [⟨true, 2, pFrac n3 d3⟩, ⟨true, 2, pFrac n4 d4⟩], []⟩, ⟨11, none, 54, 6, true, pPair xl xh, []⟩, ⟨12, none, 54, 6, true, pPair yl yh, []⟩, ⟨13, none, 27, 3, true, pRat u, []⟩, ⟨14, none, 27, 3, true, pRat v, []⟩, ⟨15, none, 54, 6, true, pPair u u, []⟩, ⟨16, none, 54, 6, true, pPair v v, []⟩, ⟨17, none, 54, 6, true, pPair (divLo xl xh yl yh) (divHi xl xh yl yh), []⟩]) (A2 := []) (G2 := [⟨none, none, 10, pB false⟩, ⟨none, none, 18, pI (divE yl yh)⟩]) hI rfl rfl rfl [0, 1, 3, 7, 15, 31, 63, 127, 255] (by kernel_rfl) (by kernel_rfl) ?_ [0, 1, 2, 3, 4, 5, 6, 7, 8] [] [0, 8] rfl rfl rfl fun a w hI => ?_
  · exact ⟨op_load 2 rfl rfl rfl (by kernel_rfl) ty_Range rfl (.here 2 rfl),
      op_load 3 rfl rfl rfl (by kernel_rfl) ty_Range rfl (.here 3 rfl),
      op_callB2 (fun _ _ => by kernel_rfl) (.tmp 2 rfl rfl) (.tmp 3 rfl rfl) (.here 4 rfl) (cr_div (j := 64) (k := 64) ⟨bxl, bxh⟩ ⟨byl, byh⟩ (by omega) (Rat.le_trans oy.1 oy.2)),
      op_move (.tmp 4 rfl rfl) (.here 5 rfl),
      op_extract (.tmp 5 rfl rfl) ex2_0 (.here 6 rfl),
      op_extract (.tmp 5 rfl rfl) ex2_1 (.here 7 rfl),
      op_alloc 8 rfl rfl (by kernel_rfl) (by kernel_rfl) rfl rfl zv_Range rfl rfl (by simp [NoU]) (fun w => pS_of (cells_pair0 w)),
      op_store 8 rfl rfl rfl 0 rfl (by kernel_rfl) (by kernel_rfl) ty_Range (.tmp 6 rfl rfl) (fits_pair _ _),
      op_assign (.tmp 7 rfl rfl) (.here 8 rfl),
      trivial⟩
  refine seq_text (V1 := [⟨5, none, 39, 4, true, pS [⟨true, 2, pFrac n1 d1⟩, ⟨true, 2, pFrac n2 d2⟩], []⟩, ⟨6, none, 39, 4, true, pS [⟨true, 2, pFrac n3 d3⟩, ⟨true, 2, pFrac n4 d4⟩], []⟩, ⟨11, none, 54, 6, true, pPair xl xh, []⟩, ⟨12, none, 54, 6, true, pPair yl yh, []⟩, ⟨13, none, 27, 3, true, pRat u, []⟩, ⟨14, none, 27, 3, true, pRat v, []⟩, ⟨15, none, 54, 6, true, pPair u u, []⟩, ⟨16, none, 54, 6, true, pPair v v, []⟩, ⟨17, none, 54, 6, true, pPair (divLo xl xh yl yh) (divHi xl xh yl yh), []⟩, ⟨19, some 6, 54, 6, true, pPair 0 0, [(7, pPair (divLo u u v v) (divHi u u v v))]⟩]) (A1 := []) (G1 := [⟨none, none, 10, pB false⟩, ⟨none, none, 18, pI (divE yl yh)⟩, ⟨some 0, none, 160, pPair u u⟩, ⟨some 1, none, 161, pPair v v⟩, ⟨some 2, none, 162, pTup2 (pPair (divLo u u v v) (divHi u u v v)) (pI (divE v v))⟩, ⟨some 3, none, 159, pTup2 (pPair (divLo u u v v) (divHi u u v v)) (pI (divE v v))⟩, ⟨some 4, none, 163, pPair (divLo u u v v) (divHi u u v v)⟩, ⟨some 5, none, 164, pI (divE v v)⟩, ⟨some 8, none, 20, pI (divE v v)⟩]) (V2 := [⟨5, none, 39, 4, true, pS [⟨true, 2, pFrac n1 d1⟩, ⟨true, 2, pFrac n2 d2⟩], []⟩, ⟨6, none, 39, 4, true, pS [⟨true, 2, pFrac n3 d3⟩, ⟨true, 2, pFrac n4 d4⟩], []⟩, ⟨11, none, 54, 6, true, pPair xl xh, []⟩, ⟨12, none, 54, 6, true, pPair yl yh, []⟩, ⟨13, none, 27, 3, true, pRat u, []⟩, ⟨14, none, 27, 3, true, pRat v, []⟩, ⟨15, none, 54, 6, true, pPair u u, []⟩, ⟨16, none, 54, 6, true, pPair v v, []⟩, ⟨17, none, 54, 6, true, pPair (divLo xl xh yl yh) (divHi xl xh yl yh), []⟩, ⟨19, none, 54, 6, true, pPair (divLo u u v v) (divHi u u v v), []⟩]) (A2 := []) (G2 := [⟨none, none, 10, pB false⟩, ⟨none, none, 18, pI (divE yl yh)⟩, ⟨none, none, 20, pI (divE v v)⟩]) hI rfl rfl rfl [0, 1, 3, 7, 15, 31, 63, 127, 255] (by kernel_rfl) (by kernel_rfl) ?_ [0, 1, 2, 3, 4, 5, 6, 7, 8, 9] [] [0, 1, 8] rfl rfl rfl fun a w hI => ?_
  · exact ⟨op_load 6 rfl rfl rfl (by kernel_rfl) ty_Range rfl (.here 2 rfl),
      op_load 7 rfl rfl rfl (by kernel_rfl) ty_Range rfl (.here 3 rfl),
      op_callB2 (fun _ _ => by kernel_rfl) (.tmp 2 rfl rfl) (.tmp 3 rfl rfl) (.here 4 rfl) (cr_div (j := 771) (k := 771) ⟨bu, bu⟩ ⟨bv, bv⟩ (by omega) Rat.le_refl),
      op_move (.tmp 4 rfl rfl) (.here 5 rfl),
      op_extract (.tmp 5 rfl rfl) ex2_0 (.here 6 rfl),
      op_extract (.tmp 5 rfl rfl) ex2_1 (.here 7 rfl),
      op_alloc 9 rfl rfl (by kernel_rfl) (by kernel_rfl) rfl rfl zv_Range rfl rfl (by simp [NoU]) (fun w => pS_of (cells_pair0 w)),
      op_store 9 rfl rfl rfl 0 rfl (by kernel_rfl) (by kernel_rfl) ty_Range (.tmp 6 rfl rfl) (fits_pair _ _),
      op_assign (.tmp 7 rfl rfl) (.here 8 rfl),
      trivial⟩
  refine wp_seq ?_
  refine seq_drawn (V1 := [⟨5, none, 39, 4, true, pS [⟨true, 2, pFrac n1 d1⟩, ⟨true, 2, pFrac n2 d2⟩], []⟩, ⟨6, none, 39, 4, true, pS [⟨true, 2, pFrac n3 d3⟩, ⟨true, 2, pFrac n4 d4⟩], []⟩, ⟨11, none, 54, 6, true, pPair xl xh, []⟩, ⟨12, none, 54, 6, true, pPair yl yh, []⟩, ⟨13, none, 27, 3, true, pRat u, []⟩, ⟨14, none, 27, 3, true, pRat v, []⟩, ⟨15, none, 54, 6, true, pPair u u, []⟩, ⟨16, none, 54, 6, true, pPair v v, []⟩, ⟨17, none, 54, 6, true, pPair (divLo xl xh yl yh) (divHi xl xh yl yh), []⟩, ⟨19, none, 54, 6, true, pPair (divLo u u v v) (divHi u u v v), []⟩]) (A1 := []) (G1 := [⟨none, none, 10, pB false⟩, ⟨none, none, 18, pI (divE yl yh)⟩, ⟨none, none, 20, pI (divE v v)⟩, ⟨some 0, none, 165, pI (divE yl yh)⟩, ⟨some 1, none, 166, pB ((divE yl yh) == (0 : Int))⟩, ⟨some 2, none, 167, pB ((divE yl yh) == (0 : Int))⟩, ⟨some 3, none, 168, pSel (((divE yl yh) == (0 : Int)) = true) (pI (divE v v))⟩, ⟨some 4, none, 169, pSel (((divE yl yh) == (0 : Int)) = true) (pB ((divE v v) != (0 : Int)))⟩, ⟨some 5, none, 170, pSel (((divE yl yh) == (0 : Int)) = true) (pB ((divE v v) != (0 : Int)))⟩, ⟨some 6, none, 171, pSel ((((divE yl yh) == (0 : Int)) = true) ∧ ((divE v v) != (0 : Int)) = false) (pPair (divLo u u v v) (divHi u u v v))⟩, ⟨some 7, none, 172, pSel ((((divE yl yh) == (0 : Int)) = true) ∧ ((divE v v) != (0 : Int)) = false) (pPair (divLo xl xh yl yh) (divHi xl xh yl yh))⟩, ⟨some 8, none, 173, pSel ((((divE yl yh) == (0 : Int)) = true) ∧ ((divE v v) != (0 : Int)) = false) (pB ((decide ((divLo xl xh yl yh) ≤ (divLo u u v v)) && decide ((divLo u u v v) ≤ (divHi xl xh yl yh))) && (decide ((divLo xl xh yl yh) ≤ (divHi u u v v)) && decide ((divHi u u v v) ≤ (divHi xl xh yl yh)))))⟩, ⟨some 9, none, 174, pSel ((((divE yl yh) == (0 : Int)) = true) ∧ ((divE v v) != (0 : Int)) = false) (pB (!((decide ((divLo xl xh yl yh) ≤ (divLo u u v v)) && decide ((divLo u u v v) ≤ (divHi xl xh yl yh))) && (decide ((divLo xl xh yl yh) ≤ (divHi u u v v)) && decide ((divHi u u v v) ≤ (divHi xl xh yl yh))))))⟩, ⟨some 10, none, 175, pSel (((divE yl yh) == (0 : Int)) = true) (pB (((divE v v) != (0 : Int)) || (!((decide ((divLo xl xh yl yh) ≤ (divLo u u v v)) && decide ((divLo u u v v) ≤ (divHi xl xh yl yh))) && (decide ((divLo xl xh yl yh) ≤ (divHi u u v v)) && decide ((divHi u u v v) ≤ (divHi xl xh yl yh)))))))⟩, ⟨some 11, none, 176, pB false⟩, ⟨some 12, none, 177, pB false⟩, ⟨some 13, none, 178, pI (divE yl yh)⟩, ⟨some 14, none, 179, pB ((divE yl yh) != (0 : Int))⟩, ⟨some 15, none, 180, pB ((divE yl yh) != (0 : Int))⟩, ⟨some 16, none, 181, pSel (((divE yl yh) != (0 : Int)) = true) (pI (divE yl yh))⟩, ⟨some 17, none, 182, pSel (((divE yl yh) != (0 : Int)) = true) (pB ((divE yl yh) != (3 : Int)))⟩, ⟨some 18, none, 183, pSel (((divE yl yh) != (0 : Int)) = true) (pB ((divE yl yh) != (3 : Int)))⟩, ⟨some 19, none, 184, pSel ((((divE yl yh) != (0 : Int)) = true) ∧ ((divE yl yh) != (3 : Int)) = false) (pPair yl yh)⟩, ⟨some 20, none, 185, pSel ((((divE yl yh) != (0 : Int)) = true) ∧ ((divE yl yh) != (3 : Int)) = false) (pRat ((0 : Int) : Rat))⟩, ⟨some 21, none, 186, pSel ((((divE yl yh) != (0 : Int)) = true) ∧ ((divE yl yh) != (3 : Int)) = false) (pB (decide (yl ≤ ((0 : Int) : Rat)) && decide (((0 : Int) : Rat) ≤ yh)))⟩, ⟨some 22, none, 187, pSel ((((divE yl yh) != (0 : Int)) = true) ∧ ((divE yl yh) != (3 : Int)) = false) (pB (!(decide (yl ≤ ((0 : Int) : Rat)) && decide (((0 : Int) : Rat) ≤ yh))))⟩, ⟨some 23, none, 188, pSel (((divE yl yh) != (0 : Int)) = true) (pB (((divE yl yh) != (3 : Int)) || (!(decide (yl ≤ ((0 : Int) : Rat)) && decide (((0 : Int) : Rat) ≤ yh)))))⟩, ⟨some 24, none, 189, pB false⟩, ⟨some 25, none, 190, pB false⟩]) (V2 := [⟨5, none, 39, 4, true, pS [⟨true, 2, pFrac n1 d1⟩, ⟨true, 2, pFrac n2 d2⟩], []⟩, ⟨6, none, 39, 4, true, pS [⟨true, 2, pFrac n3 d3⟩, ⟨true, 2, pFrac n4 d4⟩], []⟩, ⟨11, none, 54, 6, true, pPair xl xh, []⟩, ⟨12, none, 54, 6, true, pPair yl yh, []⟩, ⟨13, none, 27, 3, true, pRat u, []⟩, ⟨14, none, 27, 3, true, pRat v, []⟩, ⟨15, none, 54, 6, true, pPair u u, []⟩, ⟨16, none, 54, 6, true, pPair v v, []⟩, ⟨17, none, 54, 6, true, pPair (divLo xl xh yl yh) (divHi xl xh yl yh), []⟩, ⟨19, none, 54, 6, true, pPair (divLo u u v v) (divHi u u v v), []⟩]) (A2 := []) (G2 := [⟨none, none, 10, pB false⟩, ⟨none, none, 190, pB false⟩]) hI rfl rfl rfl [0, 1, 3, 7, 15, 31, 63, 63, 255, 511, 1023, 2047, 4095, 8191, 16383, 32767, 65535, 131071, 262143, 524287, 524287, 2097151, 4194303, 8388607, 16777215, 33554431] (by kernel_rfl) (by kernel_rfl) (by kernel_rfl) (by kernel_rfl) ?_ [0, 1, 2, 3, 4, 5, 6, 7, 8, 9] [] [0, 28] rfl rfl rfl fun a w hI => ?_
  · exact ⟨op_move (.tmp 1 rfl rfl) (.here 3 rfl),
      op_bin (v := .bool (((divE yl yh) == (0 : Int)))) (.tmp 3 rfl rfl) (.const _) (fun _ => rfl) (.here 4 rfl),
      op_move (.tmp 4 rfl rfl) (.here 5 rfl),
      op_if 5 rfl rfl (fun hc => op_move (.tmp 2 rfl rfl) (.sel hc 6 rfl)) (by kernel_rfl) (fun _ => .none (by kernel_rfl)) (fun hc => .sel_no hc 6 rfl),
      op_if 5 rfl rfl (fun hc => op_bin (v := .bool (((divE v v) != (0 : Int)))) (.sel (.tmp 6 rfl rfl) hc) (.const _) (fun _ => rfl) (.sel hc 7 rfl)) (by kernel_rfl) (fun _ => .none (by kernel_rfl)) (fun hc => .sel_no hc 7 rfl),
      op_if 5 rfl rfl (fun hc => op_move (.sel (.tmp 7 rfl rfl) hc) (.sel hc 8 rfl)) (by kernel_rfl) (fun _ => .none (by kernel_rfl)) (fun hc => .sel_no hc 8 rfl),
      op_if2 8 rfl rfl (fun hc => op_load 9 rfl rfl rfl (by kernel_rfl) ty_Range rfl (.sel hc 9 rfl)) (by kernel_rfl) (fun _ => .none (by kernel_rfl)) (fun hc => .sel_no hc 9 rfl),
      op_if2 8 rfl rfl (fun hc => op_load 8 rfl rfl rfl (by kernel_rfl) ty_Range rfl (.sel hc 10 rfl)) (by kernel_rfl) (fun _ => .none (by kernel_rfl)) (fun hc => .sel_no hc 10 rfl),
      op_if2 8 rfl rfl (fun hc => op_callB2 (fun _ _ => by kernel_rfl) (.sel (.tmp 9 rfl rfl) hc) (.sel (.tmp 10 rfl rfl) hc) (.sel hc 11 rfl) (cr_in (j := 1542) (k := 128) ⟨B60, B61⟩ ⟨B54, B55⟩ (by omega))) (by kernel_rfl) (fun _ => .none (by kernel_rfl)) (fun hc => .sel_no hc 11 rfl),
      op_if2 8 rfl rfl (fun hc => op_not (.sel (.tmp 11 rfl rfl) hc) (.sel hc 12 rfl)) (by kernel_rfl) (fun _ => .none (by kernel_rfl)) (fun hc => .sel_no hc 12 rfl),
      op_if 5 rfl rfl (fun hc => op_pick (.sel (.tmp 8 rfl rfl) hc) (fun h => .imp (.const _) fun _ _ e => by rw [h]; exact e) (fun h => .imp (.sel (.tmp 12 rfl rfl) (⟨hc, h⟩)) fun _ _ e => by rw [h]; exact e) (.sel hc 13 rfl)) (by kernel_rfl) (fun _ => .none (by kernel_rfl)) (fun hc => .sel_no hc 13 rfl),
      op_pick (.tmp 5 rfl rfl) (fun h => .imp (.sel (.tmp 13 rfl rfl) (h)) fun _ _ e => by rw [h]; exact e) (fun h => .imp (.const _) fun _ _ e => by rw [h]; exact e) (.at_ 14 _ _ rfl (pB_eq (i_div1 ox oy))),
      op_move (.tmp 14 rfl rfl) (.here 15 rfl),
      op_yes 15 rfl rfl (op_move (.tmp 1 rfl rfl) (.here 16 rfl)),
      op_yes 15 rfl rfl (op_bin (v := .bool (((divE yl yh) != (0 : Int)))) (.tmp 16 rfl rfl) (.const _) (fun _ => rfl) (.here 17 rfl)),
      op_yes 15 rfl rfl (op_move (.tmp 17 rfl rfl) (.here 18 rfl)),
      op_if 18 rfl rfl (fun hc => op_move (.tmp 1 rfl rfl) (.sel hc 19 rfl)) (by kernel_rfl) (fun _ => .none (by kernel_rfl)) (fun hc => .sel_no hc 19 rfl),
      op_if 18 rfl rfl (fun hc => op_bin (v := .bool (((divE yl yh) != (3 : Int)))) (.sel (.tmp 19 rfl rfl) hc) (.const _) (fun _ => rfl) (.sel hc 20 rfl)) (by kernel_rfl) (fun _ => .none (by kernel_rfl)) (fun hc => .sel_no hc 20 rfl),
      op_if 18 rfl rfl (fun hc => op_move (.sel (.tmp 20 rfl rfl) hc) (.sel hc 21 rfl)) (by kernel_rfl) (fun _ => .none (by kernel_rfl)) (fun hc => .sel_no hc 21 rfl),
      op_if2 21 rfl rfl (fun hc => op_load 3 rfl rfl rfl (by kernel_rfl) ty_Range rfl (.sel hc 22 rfl)) (by kernel_rfl) (fun _ => .none (by kernel_rfl)) (fun hc => .sel_no hc 22 rfl),
      op_if2 21 rfl rfl (fun hc => op_call1 (fun _ _ => by kernel_rfl) (numlike_rat _) (.const _) (.sel hc 23 rfl) (c_int 0 (by omega) (by omega))) (by kernel_rfl) (fun _ => .none (by kernel_rfl)) (fun hc => .sel_no hc 23 rfl),
      op_if2 21 rfl rfl (fun hc => op_callB2 (fun _ _ => by kernel_rfl) (.sel (.tmp 22 rfl rfl) hc) (.sel (.tmp 23 rfl rfl) hc) (.sel hc 24 rfl) (cr_has (j := 64) (k := 64) ⟨byl, byh⟩ B62 (by omega))) (by kernel_rfl) (fun _ => .none (by kernel_rfl)) (fun hc => .sel_no hc 24 rfl),
      op_if2 21 rfl rfl (fun hc => op_not (.sel (.tmp 24 rfl rfl) hc) (.sel hc 25 rfl)) (by kernel_rfl) (fun _ => .none (by kernel_rfl)) (fun hc => .sel_no hc 25 rfl),
      op_if 18 rfl rfl (fun hc => op_pick (.sel (.tmp 21 rfl rfl) hc) (fun h => .imp (.const _) fun _ _ e => by rw [h]; exact e) (fun h => .imp (.sel (.tmp 25 rfl rfl) (⟨hc, h⟩)) fun _ _ e => by rw [h]; exact e) (.sel hc 26 rfl)) (by kernel_rfl) (fun _ => .none (by kernel_rfl)) (fun hc => .sel_no hc 26 rfl),
      op_yes 15 rfl rfl (op_pick (.tmp 18 rfl rfl) (fun h => .imp (.sel (.tmp 26 rfl rfl) (h)) fun _ _ e => by rw [h]; exact e) (fun h => .imp (.const _) fun _ _ e => by rw [h]; exact e) (.at_ 27 _ _ rfl (pB_eq (i_div2 _ _)))),
      op_pick (b := false) (.tmp 15 rfl rfl) (fun h => by cases h) (fun _ => (.tmp 27 rfl rfl)) (.here 28 rfl),
      trivial⟩
  refine cond_no hI 1 rfl ?_
  refine wp_skip ?_
  refine then_of ?_
  refine seq_text (V1 := [⟨5, none, 39, 4, true, pS [⟨true, 2, pFrac n1 d1⟩, ⟨true, 2, pFrac n2 d2⟩], []⟩, ⟨6, none, 39, 4, true, pS [⟨true, 2, pFrac n3 d3⟩, ⟨true, 2, pFrac n4 d4⟩], []⟩, ⟨11, none, 54, 6, true, pPair xl xh, []⟩, ⟨12, none, 54, 6, true, pPair yl yh, []⟩, ⟨13, none, 27, 3, true, pRat u, []⟩, ⟨14, none, 27, 3, true, pRat v, []⟩, ⟨15, none, 54, 6, true, pPair u u, []⟩, ⟨16, none, 54, 6, true, pPair v v, []⟩, ⟨17, none, 54, 6, true, pPair (divLo xl xh yl yh) (divHi xl xh yl yh), []⟩, ⟨19, none, 54, 6, true, pPair (divLo u u v v) (divHi u u v v), []⟩, ⟨21, some 6, 54, 6, true, pPair 0 0, [(7, pPair (meetLo xl xh yl yh) (meetHi xl xh yl yh))]⟩]) (A1 := []) (G1 := [⟨none, none, 10, pB false⟩, ⟨none, none, 190, pB false⟩, ⟨some 0, none, 192, pPair xl xh⟩, ⟨some 1, none, 193, pPair yl yh⟩, ⟨some 2, none, 194, pTup2 (pPair (meetLo xl xh yl yh) (meetHi xl xh yl yh)) (pI (meetE xl xh yl yh))⟩, ⟨some 3, none, 191, pTup2 (pPair (meetLo xl xh yl yh) (meetHi xl xh yl yh)) (pI (meetE xl xh yl yh))⟩, ⟨some 4, none, 195, pPair (meetLo xl xh yl yh) (meetHi xl xh yl yh)⟩, ⟨some 5, none, 196, pI (meetE xl xh yl yh)⟩, ⟨some 8, none, 22, pI (meetE xl xh yl yh)⟩]) (V2 := [⟨5, none, 39, 4, true, pS [⟨true, 2, pFrac n1 d1⟩, ⟨true, 2, pFrac n2 d2⟩], []⟩, ⟨6, none, 39, 4, true, pS [⟨true, 2, pFrac n3 d3⟩, ⟨true, 2, pFrac n4 d4⟩], []⟩, ⟨11, none, 54, 6, true, pPair xl xh, []⟩, ⟨12, none, 54, 6, true, pPair yl yh, []⟩, ⟨13, none, 27, 3, true, pRat u, []⟩, ⟨14, none, 27, 3, true, pRat v, []⟩, ⟨15, none, 54, 6, true, pPair u u, []⟩, ⟨16, none, 54, 6, true, pPair v v, []⟩, ⟨17, none, 54, 6, true, pPair (divLo xl xh yl yh) (divHi xl xh yl yh), []⟩, ⟨19, none, 54, 6, true, pPair (divLo u u v v) (divHi u u v v), []⟩, ⟨21, none, 54, 6, true, pPair (meetLo xl xh yl yh) (meetHi xl xh yl yh), []⟩]) (A2 := []) (G2 := [⟨none, none, 10, pB false⟩, ⟨none, none, 22, pI (meetE xl xh yl yh)⟩]) hI rfl rfl rfl [0, 1, 3, 7, 15, 31, 63, 127, 255] (by kernel_rfl) (by kernel_rfl) ?_ [0, 1, 2, 3, 4, 5, 6, 7, 8, 9, 10] [] [0, 8] rfl rfl rfl fun a w hI => ?_
  · exact ⟨op_load 2 rfl rfl rfl (by kernel_rfl) ty_Range rfl (.here 2 rfl),
      op_load 3 rfl rfl rfl (by kernel_rfl) ty_Range rfl (.here 3 rfl),
      op_callB2 (fun _ _ => by kernel_rfl) (.tmp 2 rfl rfl) (.tmp 3 rfl rfl) (.here 4 rfl) (cr_meet (j := 64) ⟨bxl, bxh⟩ ⟨byl, byh⟩ (by omega)),
      op_move (.tmp 4 rfl rfl) (.here 5 rfl),
      op_extract (.tmp 5 rfl rfl) ex2_0 (.here 6 rfl),
      op_extract (.tmp 5 rfl rfl) ex2_1 (.here 7 rfl),
      op_alloc 10 rfl rfl (by kernel_rfl) (by kernel_rfl) rfl rfl zv_Range rfl rfl (by simp [NoU]) (fun w => pS_of (cells_pair0 w)),
      op_store 10 rfl rfl rfl 0 rfl (by kernel_rfl) (by kernel_rfl) ty_Range (.tmp 6 rfl rfl) (fits_pair _ _),
      op_assign (.tmp 7 rfl rfl) (.here 8 rfl),
      trivial⟩
  refine seq_text (V1 := [⟨5, none, 39, 4, true, pS [⟨true, 2, pFrac n1 d1⟩, ⟨true, 2, pFrac n2 d2⟩], []⟩, ⟨6, none, 39, 4, true, pS [⟨true, 2, pFrac n3 d3⟩, ⟨true, 2, pFrac n4 d4⟩], []⟩, ⟨11, none, 54, 6, true, pPair xl xh, []⟩, ⟨12, none, 54, 6, true, pPair yl yh, []⟩, ⟨13, none, 27, 3, true, pRat u, []⟩, ⟨14, none, 27, 3, true, pRat v, []⟩, ⟨15, none, 54, 6, true, pPair u u, []⟩, ⟨16, none, 54, 6, true, pPair v v, []⟩, ⟨17, none, 54, 6, true, pPair (divLo xl xh yl yh) (divHi xl xh yl yh), []⟩, ⟨19, none, 54, 6, true, pPair (divLo u u v v) (divHi u u v v), []⟩, ⟨21, none, 54, 6, true, pPair (meetLo xl xh yl yh) (meetHi xl xh yl yh), []⟩]) (A1 := []) (G1 := [⟨none, some 31, 10, pB false⟩, ⟨none, none, 22, pI (meetE xl xh yl yh)⟩, ⟨some 0, none, 197, pI (meetE xl xh yl yh)⟩, ⟨some 1, none, 198, pB ((meetE xl xh yl yh) == (0 : Int))⟩, ⟨some 2, none, 199, pB ((meetE xl xh yl yh) == (0 : Int))⟩, ⟨some 3, none, 200, pSel (((meetE xl xh yl yh) == (0 : Int)) = true) (pPair (meetLo xl xh yl yh) (meetHi xl xh yl yh))⟩, ⟨some 4, none, 201, pSel (((meetE xl xh yl yh) == (0 : Int)) = true) (pPair xl xh)⟩, ⟨some 5, none, 202, pSel (((meetE xl xh yl yh) == (0 : Int)) = true) (pB ((decide (xl ≤ (meetLo xl xh yl yh)) && decide ((meetLo xl xh yl yh) ≤ xh)) && (decide (xl ≤ (meetHi xl xh yl yh)) && decide ((meetHi xl xh yl yh) ≤ xh))))⟩, ⟨some 6, none, 203, pB (((meetE xl xh yl yh) == (0 : Int)) && ((decide (xl ≤ (meetLo xl xh yl yh)) && decide ((meetLo xl xh yl yh) ≤ xh)) && (decide (xl ≤ (meetHi xl xh yl yh)) && decide ((meetHi xl xh yl yh) ≤ xh))))⟩, ⟨some 7, none, 204, pB (((meetE xl xh yl yh) == (0 : Int)) && ((decide (xl ≤ (meetLo xl xh yl yh)) && decide ((meetLo xl xh yl yh) ≤ xh)) && (decide (xl ≤ (meetHi xl xh yl yh)) && decide ((meetHi xl xh yl yh) ≤ xh))))⟩, ⟨some 8, none, 205, pSel ((((meetE xl xh yl yh) == (0 : Int)) && ((decide (xl ≤ (meetLo xl xh yl yh)) && decide ((meetLo xl xh yl yh) ≤ xh)) && (decide (xl ≤ (meetHi xl xh yl yh)) && decide ((meetHi xl xh yl yh) ≤ xh)))) = true) (pPair (meetLo xl xh yl yh) (meetHi xl xh yl yh))⟩, ⟨some 9, none, 206, pSel ((((meetE xl xh yl yh) == (0 : Int)) && ((decide (xl ≤ (meetLo xl xh yl yh)) && decide ((meetLo xl xh yl yh) ≤ xh)) && (decide (xl ≤ (meetHi xl xh yl yh)) && decide ((meetHi xl xh yl yh) ≤ xh)))) = true) (pPair yl yh)⟩, ⟨some 10, none, 207, pSel ((((meetE xl xh yl yh) == (0 : Int)) && ((decide (xl ≤ (meetLo xl xh yl yh)) && decide ((meetLo xl xh yl yh) ≤ xh)) && (decide (xl ≤ (meetHi xl xh yl yh)) && decide ((meetHi xl xh yl yh) ≤ xh)))) = true) (pB ((decide (yl ≤ (meetLo xl xh yl yh)) && decide ((meetLo xl xh yl yh) ≤ yh)) && (decide (yl ≤ (meetHi xl xh yl yh)) && decide ((meetHi xl xh yl yh) ≤ yh))))⟩, ⟨some 11, none, 208, pB ((((meetE xl xh yl yh) == (0 : Int)) && ((decide (xl ≤ (meetLo xl xh yl yh)) && decide ((meetLo xl xh yl yh) ≤ xh)) && (decide (xl ≤ (meetHi xl xh yl yh)) && decide ((meetHi xl xh yl yh) ≤ xh)))) && ((decide (yl ≤ (meetLo xl xh yl yh)) && decide ((meetLo xl xh yl yh) ≤ yh)) && (decide (yl ≤ (meetHi xl xh yl yh)) && decide ((meetHi xl xh yl yh) ≤ yh))))⟩, ⟨some 12, none, 209, pB ((((meetE xl xh yl yh) == (0 : Int)) && ((decide (xl ≤ (meetLo xl xh yl yh)) && decide ((meetLo xl xh yl yh) ≤ xh)) && (decide (xl ≤ (meetHi xl xh yl yh)) && decide ((meetHi xl xh yl yh) ≤ xh)))) && ((decide (yl ≤ (meetLo xl xh yl yh)) && decide ((meetLo xl xh yl yh) ≤ yh)) && (decide (yl ≤ (meetHi xl xh yl yh)) && decide ((meetHi xl xh yl yh) ≤ yh))))⟩, ⟨some 13, none, 210, pSel (((((meetE xl xh yl yh) == (0 : Int)) && ((decide (xl ≤ (meetLo xl xh yl yh)) && decide ((meetLo xl xh yl yh) ≤ xh)) && (decide (xl ≤ (meetHi xl xh yl yh)) && decide ((meetHi xl xh yl yh) ≤ xh)))) && ((decide (yl ≤ (meetLo xl xh yl yh)) && decide ((meetLo xl xh yl yh) ≤ yh)) && (decide (yl ≤ (meetHi xl xh yl yh)) && decide ((meetHi xl xh yl yh) ≤ yh)))) = false) (pI (meetE xl xh yl yh))⟩, ⟨some 14, none, 211, pSel (((((meetE xl xh yl yh) == (0 : Int)) && ((decide (xl ≤ (meetLo xl xh yl yh)) && decide ((meetLo xl xh yl yh) ≤ xh)) && (decide (xl ≤ (meetHi xl xh yl yh)) && decide ((meetHi xl xh yl yh) ≤ xh)))) && ((decide (yl ≤ (meetLo xl xh yl yh)) && decide ((meetLo xl xh yl yh) ≤ yh)) && (decide (yl ≤ (meetHi xl xh yl yh)) && decide ((meetHi xl xh yl yh) ≤ yh)))) = false) (pB ((meetE xl xh yl yh) == (5 : Int)))⟩, ⟨some 15, none, 212, pSel (((((meetE xl xh yl yh) == (0 : Int)) && ((decide (xl ≤ (meetLo xl xh yl yh)) && decide ((meetLo xl xh yl yh) ≤ xh)) && (decide (xl ≤ (meetHi xl xh yl yh)) && decide ((meetHi xl xh yl yh) ≤ xh)))) && ((decide (yl ≤ (meetLo xl xh yl yh)) && decide ((meetLo xl xh yl yh) ≤ yh)) && (decide (yl ≤ (meetHi xl xh yl yh)) && decide ((meetHi xl xh yl yh) ≤ yh)))) = false) (pB ((meetE xl xh yl yh) == (5 : Int)))⟩, ⟨some 16, none, 213, pSel ((((((meetE xl xh yl yh) == (0 : Int)) && ((decide (xl ≤ (meetLo xl xh yl yh)) && decide ((meetLo xl xh yl yh) ≤ xh)) && (decide (xl ≤ (meetHi xl xh yl yh)) && decide ((meetHi xl xh yl yh) ≤ xh)))) && ((decide (yl ≤ (meetLo xl xh yl yh)) && decide ((meetLo xl xh yl yh) ≤ yh)) && (decide (yl ≤ (meetHi xl xh yl yh)) && decide ((meetHi xl xh yl yh) ≤ yh)))) = false) ∧ ((meetE xl xh yl yh) == (5 : Int)) = true) (pPair xl xh)⟩, ⟨some 17, none, 214, pSel ((((((meetE xl xh yl yh) == (0 : Int)) && ((decide (xl ≤ (meetLo xl xh yl yh)) && decide ((meetLo xl xh yl yh) ≤ xh)) && (decide (xl ≤ (meetHi xl xh yl yh)) && decide ((meetHi xl xh yl yh) ≤ xh)))) && ((decide (yl ≤ (meetLo xl xh yl yh)) && decide ((meetLo xl xh yl yh) ≤ yh)) && (decide (yl ≤ (meetHi xl xh yl yh)) && decide ((meetHi xl xh yl yh) ≤ yh)))) = false) ∧ ((meetE xl xh yl yh) == (5 : Int)) = true) (pRat v)⟩, ⟨some 18, none, 215, pSel ((((((meetE xl xh yl yh) == (0 : Int)) && ((decide (xl ≤ (meetLo xl xh yl yh)) && decide ((meetLo xl xh yl yh) ≤ xh)) && (decide (xl ≤ (meetHi xl xh yl yh)) && decide ((meetHi xl xh yl yh) ≤ xh)))) && ((decide (yl ≤ (meetLo xl xh yl yh)) && decide ((meetLo xl xh yl yh) ≤ yh)) && (decide (yl ≤ (meetHi xl xh yl yh)) && decide ((meetHi xl xh yl yh) ≤ yh)))) = false) ∧ ((meetE xl xh yl yh) == (5 : Int)) = true) (pB (decide (xl ≤ v) && decide (v ≤ xh)))⟩, ⟨some 19, none, 216, pSel ((((((meetE xl xh yl yh) == (0 : Int)) && ((decide (xl ≤ (meetLo xl xh yl yh)) && decide ((meetLo xl xh yl yh) ≤ xh)) && (decide (xl ≤ (meetHi xl xh yl yh)) && decide ((meetHi xl xh yl yh) ≤ xh)))) && ((decide (yl ≤ (meetLo xl xh yl yh)) && decide ((meetLo xl xh yl yh) ≤ yh)) && (decide (yl ≤ (meetHi xl xh yl yh)) && decide ((meetHi xl xh yl yh) ≤ yh)))) = false) ∧ ((meetE xl xh yl yh) == (5 : Int)) = true) (pB (!(decide (xl ≤ v) && decide (v ≤ xh))))⟩, ⟨some 20, none, 217, pSel (((((meetE xl xh yl yh) == (0 : Int)) && ((decide (xl ≤ (meetLo xl xh yl yh)) && decide ((meetLo xl xh yl yh) ≤ xh)) && (decide (xl ≤ (meetHi xl xh yl yh)) && decide ((meetHi xl xh yl yh) ≤ xh)))) && ((decide (yl ≤ (meetLo xl xh yl yh)) && decide ((meetLo xl xh yl yh) ≤ yh)) && (decide (yl ≤ (meetHi xl xh yl yh)) && decide ((meetHi xl xh yl yh) ≤ yh)))) = false) (pB (((meetE xl xh yl yh) == (5 : Int)) && (!(decide (xl ≤ v) && decide (v ≤ xh)))))⟩, ⟨some 21, none, 218, pSel (((((meetE xl xh yl yh) == (0 : Int)) && ((decide (xl ≤ (meetLo xl xh yl yh)) && decide ((meetLo xl xh yl yh) ≤ xh)) && (decide (xl ≤ (meetHi xl xh yl yh)) && decide ((meetHi xl xh yl yh) ≤ xh)))) && ((decide (yl ≤ (meetLo xl xh yl yh)) && decide ((meetLo xl xh yl yh) ≤ yh)) && (decide (yl ≤ (meetHi xl xh yl yh)) && decide ((meetHi xl xh yl yh) ≤ yh)))) = false) (pB (((meetE xl xh yl yh) == (5 : Int)) && (!(decide (xl ≤ v) && decide (v ≤ xh)))))⟩, ⟨some 22, none, 219, pSel ((((((meetE xl xh yl yh) == (0 : Int)) && ((decide (xl ≤ (meetLo xl xh yl yh)) && decide ((meetLo xl xh yl yh) ≤ xh)) && (decide (xl ≤ (meetHi xl xh yl yh)) && decide ((meetHi xl xh yl yh) ≤ xh)))) && ((decide (yl ≤ (meetLo xl xh yl yh)) && decide ((meetLo xl xh yl yh) ≤ yh)) && (decide (yl ≤ (meetHi xl xh yl yh)) && decide ((meetHi xl xh yl yh) ≤ yh)))) = false) ∧ (((meetE xl xh yl yh) == (5 : Int)) && (!(decide (xl ≤ v) && decide (v ≤ xh)))) = true) (pPair yl yh)⟩, ⟨some 23, none, 220, pSel ((((((meetE xl xh yl yh) == (0 : Int)) && ((decide (xl ≤ (meetLo xl xh yl yh)) && decide ((meetLo xl xh yl yh) ≤ xh)) && (decide (xl ≤ (meetHi xl xh yl yh)) && decide ((meetHi xl xh yl yh) ≤ xh)))) && ((decide (yl ≤ (meetLo xl xh yl yh)) && decide ((meetLo xl xh yl yh) ≤ yh)) && (decide (yl ≤ (meetHi xl xh yl yh)) && decide ((meetHi xl xh yl yh) ≤ yh)))) = false) ∧ (((meetE xl xh yl yh) == (5 : Int)) && (!(decide (xl ≤ v) && decide (v ≤ xh)))) = true) (pRat u)⟩, ⟨some 24, none, 221, pSel ((((((meetE xl xh yl yh) == (0 : Int)) && ((decide (xl ≤ (meetLo xl xh yl yh)) && decide ((meetLo xl xh yl yh) ≤ xh)) && (decide (xl ≤ (meetHi xl xh yl yh)) && decide ((meetHi xl xh yl yh) ≤ xh)))) && ((decide (yl ≤ (meetLo xl xh yl yh)) && decide ((meetLo xl xh yl yh) ≤ yh)) && (decide (yl ≤ (meetHi xl xh yl yh)) && decide ((meetHi xl xh yl yh) ≤ yh)))) = false) ∧ (((meetE xl xh yl yh) == (5 : Int)) && (!(decide (xl ≤ v) && decide (v ≤ xh)))) = true) (pB (decide (yl ≤ u) && decide (u ≤ yh)))⟩, ⟨some 25, none, 222, pSel ((((((meetE xl xh yl yh) == (0 : Int)) && ((decide (xl ≤ (meetLo xl xh yl yh)) && decide ((meetLo xl xh yl yh) ≤ xh)) && (decide (xl ≤ (meetHi xl xh yl yh)) && decide ((meetHi xl xh yl yh) ≤ xh)))) && ((decide (yl ≤ (meetLo xl xh yl yh)) && decide ((meetLo xl xh yl yh) ≤ yh)) && (decide (yl ≤ (meetHi xl xh yl yh)) && decide ((meetHi xl xh yl yh) ≤ yh)))) = false) ∧ (((meetE xl xh yl yh) == (5 : Int)) && (!(decide (xl ≤ v) && decide (v ≤ xh)))) = true) (pB (!(decide (yl ≤ u) && decide (u ≤ yh))))⟩, ⟨some 26, none, 223, pSel (((((meetE xl xh yl yh) == (0 : Int)) && ((decide (xl ≤ (meetLo xl xh yl yh)) && decide ((meetLo xl xh yl yh) ≤ xh)) && (decide (xl ≤ (meetHi xl xh yl yh)) && decide ((meetHi xl xh yl yh) ≤ xh)))) && ((decide (yl ≤ (meetLo xl xh yl yh)) && decide ((meetLo xl xh yl yh) ≤ yh)) && (decide (yl ≤ (meetHi xl xh yl yh)) && decide ((meetHi xl xh yl yh) ≤ yh)))) = false) (pB ((((meetE xl xh yl yh) == (5 : Int)) && (!(decide (xl ≤ v) && decide (v ≤ xh)))) && (!(decide (yl ≤ u) && decide (u ≤ yh)))))⟩, ⟨some 27, none, 224, pB true⟩, ⟨some 28, none, 225, pB true⟩, ⟨some 29, none, 226, pB true⟩, ⟨some 30, none, 227, pB true⟩, ⟨some 31, none, 10, pB true⟩]) (V2 := [⟨5, none, 39, 4, true, pS [⟨true, 2, pFrac n1 d1⟩, ⟨true, 2, pFrac n2 d2⟩], []⟩, ⟨6, none, 39, 4, true, pS [⟨true, 2, pFrac n3 d3⟩, ⟨true, 2, pFrac n4 d4⟩], []⟩, ⟨11, none, 54, 6, true, pPair xl xh, []⟩, ⟨12, none, 54, 6, true, pPair yl yh, []⟩, ⟨13, none, 27, 3, true, pRat u, []⟩, ⟨14, none, 27, 3, true, pRat v, []⟩, ⟨15, none, 54, 6, true, pPair u u, []⟩, ⟨16, none, 54, 6, true, pPair v v, []⟩, ⟨17, none, 54, 6, true, pPair (divLo xl xh yl yh) (divHi xl xh yl yh), []⟩, ⟨19, none, 54, 6, true, pPair (divLo u u v v) (divHi u u v v), []⟩, ⟨21, none, 54, 6, true, pPair (meetLo xl xh yl yh) (meetHi xl xh yl yh), []⟩]) (A2 := []) (G2 := [⟨none, none, 10, pB true⟩]) hI rfl rfl rfl [0, 1, 3, 7, 15, 31, 63, 127, 255, 511, 1023, 2047, 4095, 8191, 16383, 32767, 65535, 131071, 262143, 524287, 1048575, 2097151, 4194303, 8388607, 16777215, 33554431, 67108863, 134217727, 268435455, 536870911, 1073741823, 2147483647] (by kernel_rfl) (by kernel_rfl) ?_ [0, 1, 2, 3, 4, 5, 6, 7, 8, 9, 10] [] [32] rfl rfl rfl fun a w hI => ?_
  · exact ⟨op_move (.tmp 1 rfl rfl) (.here 2 rfl),
      op_bin (v := .bool (((meetE xl xh yl yh) == (0 : Int)))) (.tmp 2 rfl rfl) (.const _) (fun _ => rfl) (.here 3 rfl),
      op_move (.tmp 3 rfl rfl) (.here 4 rfl),
      op_if 4 rfl rfl (fun hc => op_load 10 rfl rfl rfl (by kernel_rfl) ty_Range rfl (.sel hc 5 rfl)) (by kernel_rfl) (fun _ => .none (by kernel_rfl)) (fun hc => .sel_no hc 5 rfl),
      op_if 4 rfl rfl (fun hc => op_load 2 rfl rfl rfl (by kernel_rfl) ty_Range rfl (.sel hc 6 rfl)) (by kernel_rfl) (fun _ => .none (by kernel_rfl)) (fun hc => .sel_no hc 6 rfl),
      op_if 4 rfl rfl (fun hc => op_callB2 (fun _ _ => by kernel_rfl) (.sel (.tmp 5 rfl rfl) hc) (.sel (.tmp 6 rfl rfl) hc) (.sel hc 7 rfl) (cr_in (j := 64) (k := 64) ⟨B63, B64⟩ ⟨bxl, bxh⟩ (by omega))) (by kernel_rfl) (fun _ => .none (by kernel_rfl)) (fun hc => .sel_no hc 7 rfl),
      op_pick (.tmp 4 rfl rfl) (fun h => .imp (.sel (.tmp 7 rfl rfl) (h)) fun _ _ e => by rw [h]; exact e) (fun h => .imp (.const _) fun _ _ e => by rw [h]; exact e) (.here 8 rfl),
      op_move (.tmp 8 rfl rfl) (.here 9 rfl),
      op_if 9 rfl rfl (fun hc => op_load 10 rfl rfl rfl (by kernel_rfl) ty_Range rfl (.sel hc 10 rfl)) (by kernel_rfl) (fun _ => .none (by kernel_rfl)) (fun hc => .sel_no hc 10 rfl),
      op_if 9 rfl rfl (fun hc => op_load 3 rfl rfl rfl (by kernel_rfl) ty_Range rfl (.sel hc 11 rfl)) (by kernel_rfl) (fun _ => .none (by kernel_rfl)) (fun hc => .sel_no hc 11 rfl),
      op_if 9 rfl rfl (fun hc => op_callB2 (fun _ _ => by kernel_rfl) (.sel (.tmp 10 rfl rfl) hc) (.sel (.tmp 11 rfl rfl) hc) (.sel hc 12 rfl) (cr_in (j := 64) (k := 64) ⟨B63, B64⟩ ⟨byl, byh⟩ (by omega))) (by kernel_rfl) (fun _ => .none (by kernel_rfl)) (fun hc => .sel_no hc 12 rfl),
      op_pick (.tmp 9 rfl rfl) (fun h => .imp (.sel (.tmp 12 rfl rfl) (h)) fun _ _ e => by rw [h]; exact e) (fun h => .imp (.const _) fun _ _ e => by rw [h]; exact e) (.here 13 rfl),
      op_move (.tmp 13 rfl rfl) (.here 14 rfl),
      op_if 14 rfl rfl (fun hc => op_move (.tmp 1 rfl rfl) (.sel hc 15 rfl)) (by kernel_rfl) (fun _ => .none (by kernel_rfl)) (fun hc => .sel_no hc 15 rfl),
      op_if 14 rfl rfl (fun hc => op_bin (v := .bool (((meetE xl xh yl yh) == (5 : Int)))) (.sel (.tmp 15 rfl rfl) hc) (.const _) (fun _ => rfl) (.sel hc 16 rfl)) (by kernel_rfl) (fun _ => .none (by kernel_rfl)) (fun hc => .sel_no hc 16 rfl),
      op_if 14 rfl rfl (fun hc => op_move (.sel (.tmp 16 rfl rfl) hc) (.sel hc 17 rfl)) (by kernel_rfl) (fun _ => .none (by kernel_rfl)) (fun hc => .sel_no hc 17 rfl),
      op_if2 17 rfl rfl (fun hc => op_load 2 rfl rfl rfl (by kernel_rfl) ty_Range rfl (.sel hc 18 rfl)) (by kernel_rfl) (fun _ => .none (by kernel_rfl)) (fun hc => .sel_no hc 18 rfl),
      op_if2 17 rfl rfl (fun hc => op_load 5 rfl rfl rfl (by kernel_rfl) ty_Ratio rfl (.sel hc 19 rfl)) (by kernel_rfl) (fun _ => .none (by kernel_rfl)) (fun hc => .sel_no hc 19 rfl),
      op_if2 17 rfl rfl (fun hc => op_callB2 (fun _ _ => by kernel_rfl) (.sel (.tmp 18 rfl rfl) hc) (.sel (.tmp 19 rfl rfl) hc) (.sel hc 20 rfl) (cr_has (j := 64) (k := 771) ⟨bxl, bxh⟩ bv (by omega))) (by kernel_rfl) (fun _ => .none (by kernel_rfl)) (fun hc => .sel_no hc 20 rfl),
      op_if2 17 rfl rfl (fun hc => op_not (.sel (.tmp 20 rfl rfl) hc) (.sel hc 21 rfl)) (by kernel_rfl) (fun _ => .none (by kernel_rfl)) (fun hc => .sel_no hc 21 rfl),
      op_if 14 rfl rfl (fun hc => op_pick (.sel (.tmp 17 rfl rfl) hc) (fun h => .imp (.sel (.tmp 21 rfl rfl) (⟨hc, h⟩)) fun _ _ e => by rw [h]; exact e) (fun h => .imp (.const _) fun _ _ e => by rw [h]; exact e) (.sel hc 22 rfl)) (by kernel_rfl) (fun _ => .none (by kernel_rfl)) (fun hc => .sel_no hc 22 rfl),
      op_if 14 rfl rfl (fun hc => op_move (.sel (.tmp 22 rfl rfl) hc) (.sel hc 23 rfl)) (by kernel_rfl) (fun _ => .none (by kernel_rfl)) (fun hc => .sel_no hc 23 rfl),
      op_if2 23 rfl rfl (fun hc => op_load 3 rfl rfl rfl (by kernel_rfl) ty_Range rfl (.sel hc 24 rfl)) (by kernel_rfl) (fun _ => .none (by kernel_rfl)) (fun hc => .sel_no hc 24 rfl),
      op_if2 23 rfl rfl (fun hc => op_load 4 rfl rfl rfl (by kernel_rfl) ty_Ratio rfl (.sel hc 25 rfl)) (by kernel_rfl) (fun _ => .none (by kernel_rfl)) (fun hc => .sel_no hc 25 rfl),
      op_if2 23 rfl rfl (fun hc => op_callB2 (fun _ _ => by kernel_rfl) (.sel (.tmp 24 rfl rfl) hc) (.sel (.tmp 25 rfl rfl) hc) (.sel hc 26 rfl) (cr_has (j := 64) (k := 771) ⟨byl, byh⟩ bu (by omega))) (by kernel_rfl) (fun _ => .none (by kernel_rfl)) (fun hc => .sel_no hc 26 rfl),
      op_if2 23 rfl rfl (fun hc => op_not (.sel (.tmp 26 rfl rfl) hc) (.sel hc 27 rfl)) (by kernel_rfl) (fun _ => .none (by kernel_rfl)) (fun hc => .sel_no hc 27 rfl),
      op_if 14 rfl rfl (fun hc => op_pick (.sel (.tmp 23 rfl rfl) hc) (fun h => .imp (.sel (.tmp 27 rfl rfl) (⟨hc, h⟩)) fun _ _ e => by rw [h]; exact e) (fun h => .imp (.const _) fun _ _ e => by rw [h]; exact e) (.sel hc 28 rfl)) (by kernel_rfl) (fun _ => .none (by kernel_rfl)) (fun hc => .sel_no hc 28 rfl),
      op_pick (.tmp 14 rfl rfl) (fun h => .imp (.const _) fun _ _ e => by rw [h]; exact e) (fun h => .imp (.sel (.tmp 28 rfl rfl) (h)) fun _ _ e => by rw [h]; exact e) (.at_ 29 _ _ rfl (pB_eq (i_meet ox oy))),
      op_move (.tmp 29 rfl rfl) (.here 30 rfl),
      op_yes 30 rfl rfl (op_call0 (fun _ _ => by kernel_rfl) (numlike_eq _)  (.here 31 rfl) (c_awake)),
      op_pick (b := true) (.tmp 30 rfl rfl) (fun _ => (.tmp 31 rfl rfl)) (fun h => by cases h) (.here 32 rfl),
      op_assign (.tmp 32 rfl rfl) (.here 33 rfl),
      trivial⟩
  refine wp_ret ?_
  exact fin1 hI rfl (.tmp 0 rfl)
theorem within_in {xl xh : Rat} {n : Int} (h : xl ≤ xh) (hn : 0 ≤ n) : xl ≤ withinR xl xh n ∧ withinR xl xh n ≤ xh := by
  have hm : 0 ≤ n.tmod 251 ∧ n.tmod 251 ≤ 250 := by rw [Int.tmod_eq_emod_of_nonneg hn]; omega
  unfold withinR
  rw [newR_eq (by omega)]
  generalize n.tmod 251 = z at *
  have h1 : (0 : Rat) ≤ (z : Rat) := Rat.intCast_le_intCast.2 hm.1
  have h2 : (z : Rat) ≤ ((250 : Int) : Rat) := Rat.intCast_le_intCast.2 hm.2
  have e : (((250 : Int) : Rat)) = 250 := rfl
  rw [e] at h2 ⊢
  have hf : (z : Rat) / 250 = (z : Rat) * (1 / 250) := by rw [Rat.div_def, Rat.div_def, Rat.one_mul]
  rw [hf]
  generalize (z : Rat) = q at *
  have k1 : 0 ≤ (xh - xl) * q := Rat.mul_nonneg (by grind) h1
  have k2 : 0 ≤ (xh - xl) * (250 - q) := Rat.mul_nonneg (by grind) (by grind)
  exact ⟨by grind, by grind⟩
theorem bd_within {xl xh : Rat} {n : Int} (h1 : BdR 64 xl) (h2 : BdR 64 xh) (hn : 0 ≤ n) : BdR 771 (withinR xl xh n) := by
  have hm : 0 ≤ n.tmod 251 ∧ n.tmod 251 ≤ 250 := by rw [Int.tmod_eq_emod_of_nonneg hn]; omega
  exact (h1.add ((h2.sub_ h1).mul (bd_newR (n := n.tmod 251) (d := 250) (by omega) (by omega) (by omega) (by omega) (by omega)))).mono (by omega)
theorem includes_law (W : World) (n1 d1 n2 d2 n3 d3 n4 d4 n m k : Int) (h : FracOk n1 d1 ∧ FracOk n2 d2 ∧ FracOk n3 d3 ∧ FracOk n4 d4) (hn : 0 ≤ n) (hm : 0 ≤ m) :
    Calls Try.prog 5 #[.agg #[.int .i64 n1, .int .i64 d1, .int .i64 n2, .int .i64 d2], .agg #[.int .i64 n3, .int .i64 d3, .int .i64 n4, .int .i64 d4], .int .u8 n, .int .u8 m, .int .i64 k] W fun e w' => e = .returned (.bool true) ∧ Below W.heap.size W w' := by
  obtain ⟨f1, f2, f3, f4⟩ := h
  have b1 := bd_ok f1
  have b2 := bd_ok f2
  have b3 := bd_ok f3
  have b4 := bd_ok f4
  have ox := within_in (xl := min4 (ofR n1 d1) (ofR n1 d1) (ofR n2 d2) (ofR n2 d2)) (min4_le_max4 _ _ _ _) hn
  have oy := within_in (xl := min4 (ofR n3 d3) (ofR n3 d3) (ofR n4 d4) (ofR n4 d4)) (min4_le_max4 _ _ _ _) hm
  exact law_true (includes_sem rfl f1 rfl f2 rfl f3 rfl f4 rfl rfl rfl rfl hn hm rfl rfl (bd_min4 b1 b1 b2 b2) (bd_max4 b1 b1 b2 b2) (bd_min4 b3 b3 b4 b4) (bd_max4 b3 b3 b4 b4) (bd_within (bd_min4 b1 b1 b2 b2) (bd_max4 b1 b1 b2 b2) hn) (bd_within (bd_min4 b3 b3 b4 b4) (bd_max4 b3 b3 b4 b4) hm) ox oy
    _ W _ _ _ _ _ (mid_none W) (fun w' _ => frac2_of n1 d1 n2 d2 w') (fun w' _ => frac2_of n3 d3 n4 d4 w') (fun _ _ => rfl) (fun _ _ => rfl) (fun _ _ => rfl))
end Wx
