import Derived.Handy
import Derived.KernelRfl
import Derived.Test.YtpbpkfcplkdjhaaGreatProg
import Derived.Test.YtpbpkfcplkdjhaaGreatJRanges0
import Derived.Test.YtpbpkfcplkdjhaaGreatJRanges1
import Derived.Test.YtpbpkfcplkdjhaaGreatCRat1
import Derived.Test.YtpbpkfcplkdjhaaGreatJRanges10
import Derived.Test.YtpbpkfcplkdjhaaGreatInv
import Derived.Test.YtpbpkfcplkdjhaaGreatJRanges15
import Derived.Test.YtpbpkfcplkdjhaaGreatJRanges22
import Derived.Test.YtpbpkfcplkdjhaaGreatCSem
import Derived.Test.YtpbpkfcplkdjhaaGreatCSemOps
import Derived.Test.YtpbpkfcplkdjhaaGreatCSemMem
import Derived.Test.YtpbpkfcplkdjhaaGreatCSemCode
import Derived.Test.YtpbpkfcplkdjhaaGreatJRanges27
import Derived.Test.YtpbpkfcplkdjhaaGreatCSemRow
import Derived.Test.YtpbpkfcplkdjhaaGreatJRanges29
import Derived.Test.YtpbpkfcplkdjhaaGreatJRanges40
import Derived.Test.YtpbpkfcplkdjhaaGreatJRanges41
import Derived.Test.YtpbpkfcplkdjhaaGreatCRanges
import Derived.Test.YtpbpkfcplkdjhaaGreatJRanges43
import Derived.Test.YtpbpkfcplkdjhaaGreatCNRanges
import Derived.Test.YtpbpkfcplkdjhaaGreatCRangesIs
namespace Wx
open Go Go.RowKit Go.Proofs
set_option linter.unusedVariables false

theorem cb_conv2 {f : FuncId} {P : Program} {p1 p2 p q : Pred} (h : ∀ (M : Nat → Nat → Prop) (w : World) (v1 v2 : Value), Mid M w → Box M (fun w => p1 w v1) w → Box M (fun w => p2 w v2) w → Calls P f #[v1, v2] w (RetB M p w)) (e : ∀ w v, p w v → q w v) : ∀ (M : Nat → Nat → Prop) (w : World) (v1 v2 : Value), Mid M w → Box M (fun w => p1 w v1) w → Box M (fun w => p2 w v2) w → Calls P f #[v1, v2] w (RetB M q w) :=
  fun M w v1 v2 h0 h1 h2 => (h M w v1 v2 h0 h1 h2).mono fun _ _ ⟨v, h3, h4, h5⟩ => ⟨v, h3, h4.imp fun w => e w v, h5⟩
theorem hull_lo {a b c d : Rat} (h : a ≤ b) (g : c ≤ d) : min2 a c = min4 a b c d := by
  rw [← min22]
  have h1 := min2_le a b
  have h2 := min2_le c d
  have m1 := min2_mem a b
  have m2 := min2_mem c d
  have e1 : min2 a b = a := by grind
  have e2 : min2 c d = c := by grind
  rw [e1, e2]
theorem hull_hi {a b c d : Rat} (h : a ≤ b) (g : c ≤ d) : max2 b d = max4 a b c d := by
  rw [← max22]
  have h1 := le_max2 a b
  have h2 := le_max2 c d
  have m1 := max2_mem a b
  have m2 := max2_mem c d
  have e1 : max2 a b = b := by grind
  have e2 : max2 c d = d := by grind
  rw [e1, e2]
set_option maxRecDepth 100000 in
theorem ranges_sem {n1 d1 n2 d2 n3 d3 n4 d4 k : Int} {x1 x2 x3 x4 xl xh yl yh : Rat} (e1 : x1 = ofR n1 d1) (f1 : FracOk n1 d1) (e2 : x2 = ofR n2 d2) (f2 : FracOk n2 d2) (e3 : x3 = ofR n3 d3) (f3 : FracOk n3 d3) (e4 : x4 = ofR n4 d4) (f4 : FracOk n4 d4) (exl : xl = min4 x1 x1 x2 x2) (exh : xh = max4 x1 x1 x2 x2) (eyl : yl = min4 x3 x3 x4 x4) (eyh : yh = max4 x3 x3 x4 x4) (bxl : BdR 64 xl) (bxh : BdR 64 xh) (byl : BdR 64 yl) (byh : BdR 64 yh) (ox : xl ≤ xh) (oy : yl ≤ yh) : ∀ (M : Nat → Nat → Prop) (w : World) (v0 v1 v2 : Value), Mid M w → Box M (fun w => (pS [⟨true, 2, pFrac n1 d1⟩, ⟨true, 2, pFrac n2 d2⟩]) w v0) w → Box M (fun w => (pS [⟨true, 2, pFrac n3 d3⟩, ⟨true, 2, pFrac n4 d4⟩]) w v1) w → Box M (fun w => (pI k) w v2) w → Calls Tryz.prog 3 #[v0, v1, v2] w (RetB M (pB true) w) := by
  intro M w0 v0 v1 v2 hM hv0 hv1 hv2
  have B1 : BdR 64 x1 := e1 ▸ bd_ok f1
  have B2 : BdR 64 x2 := e2 ▸ bd_ok f2
  have B3 : BdR 64 (makeLo x1 x2) := BdR.mono ((bd_make B1 B2 (by omega)).1) (by omega)
  have B4 : BdR 64 (makeHi x1 x2) := BdR.mono ((bd_make B1 B2 (by omega)).2) (by omega)
  have B5 : BdR 64 x1 := e1 ▸ bd_ok f1
  have B6 : BdR 64 x2 := e2 ▸ bd_ok f2
  have B7 : BdR 64 (makeLo x1 x2) := BdR.mono ((bd_make B5 B6 (by omega)).1) (by omega)
  have B8 : BdR 64 (makeHi x1 x2) := BdR.mono ((bd_make B5 B6 (by omega)).2) (by omega)
  have B9 : BdR 257 (xh - xl) := BdR.mono ((bxh).sub_ bxl) (by omega)
  have B10 : BdR 257 (xh - xl) := BdR.mono ((bxh).sub_ bxl) (by omega)
  have B11 : BdR 257 (xl + yl) := BdR.mono ((bxl).add byl) (by omega)
  have B12 : BdR 257 (xh + yh) := BdR.mono ((bxh).add byh) (by omega)
  have B13 : BdR 257 (xl + yl) := BdR.mono ((bxl).add byl) (by omega)
  have B14 : BdR 257 (xh + yh) := BdR.mono ((bxh).add byh) (by omega)
  have B15 : BdR 257 (xl - yh) := BdR.mono ((bxl).sub_ byh) (by omega)
  have B16 : BdR 257 (xh - yl) := BdR.mono ((bxh).sub_ byl) (by omega)
  have B17 : BdR 257 (xl - yh) := BdR.mono ((bxl).sub_ byh) (by omega)
  have B18 : BdR 257 (xh - yl) := BdR.mono ((bxh).sub_ byl) (by omega)
  have B19 : BdR 128 (xl * yl) := BdR.mono ((bxl).mul byl) (by omega)
  have B20 : BdR 128 (xl * yh) := BdR.mono ((bxl).mul byh) (by omega)
  have B21 : BdR 128 (xh * yl) := BdR.mono ((bxh).mul byl) (by omega)
  have B22 : BdR 128 (xh * yh) := BdR.mono ((bxh).mul byh) (by omega)
  have B23 : BdR 128 (min4 (xl * yl) (xl * yh) (xh * yl) (xh * yh)) := BdR.mono (bd_min4 (B19) (B20) (B21) (B22)) (by omega)
  have B24 : BdR 128 (max4 (xl * yl) (xl * yh) (xh * yl) (xh * yh)) := BdR.mono (bd_max4 (B19) (B20) (B21) (B22)) (by omega)
  have B25 : BdR 128 (xl * yl) := BdR.mono ((bxl).mul byl) (by omega)
  have B26 : BdR 128 (xl * yh) := BdR.mono ((bxl).mul byh) (by omega)
  have B27 : BdR 128 (xh * yl) := BdR.mono ((bxh).mul byl) (by omega)
  have B28 : BdR 128 (xh * yh) := BdR.mono ((bxh).mul byh) (by omega)
  have B29 : BdR 128 (min4 (xl * yl) (xl * yh) (xh * yl) (xh * yh)) := BdR.mono (bd_min4 (B25) (B26) (B27) (B28)) (by omega)
  have B30 : BdR 128 (max4 (xl * yl) (xl * yh) (xh * yl) (xh * yh)) := BdR.mono (bd_max4 (B25) (B26) (B27) (B28)) (by omega)
  have B31 : BdR 64 (-xh) := BdR.mono ((bxh).neg) (by omega)
  have B32 : BdR 64 (-xl) := BdR.mono ((bxl).neg) (by omega)
  have B33 : BdR 64 (-xh) := BdR.mono ((bxh).neg) (by omega)
  have B34 : BdR 64 (-xl) := BdR.mono ((bxl).neg) (by omega)
  have B35 : BdR 128 (xl * xl) := BdR.mono ((bxl).mul bxl) (by omega)
  have B36 : BdR 128 (xh * xh) := BdR.mono ((bxh).mul bxh) (by omega)
  have B37 : BdR 128 (sqLo xl xh) := BdR.mono (bd_sqLo (B35) (B36) (by omega)) (by omega)
  have B38 : BdR 128 (max2 (xl * xl) (xh * xh)) := BdR.mono (bd_max2 (B35) (B36)) (by omega)
  have B39 : BdR 128 (xl * xl) := BdR.mono ((bxl).mul bxl) (by omega)
  have B40 : BdR 128 (xh * xh) := BdR.mono ((bxh).mul bxh) (by omega)
  have B41 : BdR 128 (sqLo xl xh) := BdR.mono (bd_sqLo (B39) (B40) (by omega)) (by omega)
  have B42 : BdR 128 (max2 (xl * xl) (xh * xh)) := BdR.mono (bd_max2 (B39) (B40)) (by omega)
  have B43 : BdR 128 (xl / yl) := BdR.mono ((bxl).quo byl) (by omega)
  have B44 : BdR 128 (xl / yh) := BdR.mono ((bxl).quo byh) (by omega)
  have B45 : BdR 128 (xh / yl) := BdR.mono ((bxh).quo byl) (by omega)
  have B46 : BdR 128 (xh / yh) := BdR.mono ((bxh).quo byh) (by omega)
  have B47 : BdR 128 (divLo xl xh yl yh) := BdR.mono ((bd_divLo (B43) (B44) (B45) (B46) (by omega)).1) (by omega)
  have B48 : BdR 128 (divHi xl xh yl yh) := BdR.mono ((bd_divLo (B43) (B44) (B45) (B46) (by omega)).2) (by omega)
  have B49 : BdR 128 (xl / yl) := BdR.mono ((bxl).quo byl) (by omega)
  have B50 : BdR 128 (xl / yh) := BdR.mono ((bxl).quo byh) (by omega)
  have B51 : BdR 128 (xh / yl) := BdR.mono ((bxh).quo byl) (by omega)
  have B52 : BdR 128 (xh / yh) := BdR.mono ((bxh).quo byh) (by omega)
  have B53 : BdR 128 (divLo xl xh yl yh) := BdR.mono ((bd_divLo (B49) (B50) (B51) (B52) (by omega)).1) (by omega)
  have B54 : BdR 128 (divHi xl xh yl yh) := BdR.mono ((bd_divLo (B49) (B50) (B51) (B52) (by omega)).2) (by omega)
  have B55 : BdR 64 (meetLo xl xh yl yh) := BdR.mono ((bd_meet (bxl) (bxh) (byl) (byh) (by omega)).1) (by omega)
  have B56 : BdR 64 (meetHi xl xh yl yh) := BdR.mono ((bd_meet (bxl) (bxh) (byl) (byh) (by omega)).2) (by omega)
  have B57 : BdR 64 (meetLo xl xh yl yh) := BdR.mono ((bd_meet (bxl) (bxh) (byl) (byh) (by omega)).1) (by omega)
  have B58 : BdR 64 (meetHi xl xh yl yh) := BdR.mono ((bd_meet (bxl) (bxh) (byl) (byh) (by omega)).2) (by omega)
  have B59 : BdR 364 (downR xl k) := BdR.mono (bd_downR bxl _) (by omega)
  have B60 : BdR 364 (-(downR (-xh) k)) := BdR.mono (bd_upR bxh _) (by omega)
  have B61 : BdR 364 (downR xl k) := BdR.mono (bd_downR bxl _) (by omega)
  have B62 : BdR 364 (-(downR (-xh) k)) := BdR.mono (bd_upR bxh _) (by omega)
  have B63 : BdR 64 (min4 xl xh yl yh) := BdR.mono (bd_min4 (bxl) (bxh) (byl) (byh)) (by omega)
  have B64 : BdR 64 (max4 xl xh yl yh) := BdR.mono (bd_max4 (bxl) (bxh) (byl) (byh)) (by omega)
  have B65 : BdR 64 (min4 xl xh yl yh) := BdR.mono (bd_min4 (bxl) (bxh) (byl) (byh)) (by omega)
  have B66 : BdR 64 (max4 xl xh yl yh) := BdR.mono (bd_max4 (bxl) (bxh) (byl) (byh)) (by omega)
  have B67 : BdR 64 x3 := e3 ▸ bd_ok f3
  have B68 : BdR 64 x3 := e3 ▸ bd_ok f3
  refine calls_start (N := 214) Tryz.func3 rfl rfl rfl hM (show EntsA M w0 [v0, v1, v2] [⟨none, none, 0, pS [⟨true, 2, pFrac n1 d1⟩, ⟨true, 2, pFrac n2 d2⟩]⟩, ⟨none, none, 1, pS [⟨true, 2, pFrac n3 d3⟩, ⟨true, 2, pFrac n4 d4⟩]⟩, ⟨none, none, 2, pI k⟩] from ⟨⟨rfl, _, rfl, hv0⟩, ⟨rfl, _, rfl, hv1⟩, ⟨rfl, _, rfl, hv2⟩, trivial⟩) fun a hI => ?_
  refine seq_text (V1 := [⟨3, 3, some 0, none, .ptr, 24, 4, true, pS [⟨true, 2, pFrac n1 d1⟩, ⟨true, 2, pFrac n2 d2⟩], []⟩, ⟨4, 4, some 1, none, .ptr, 24, 4, true, pS [⟨true, 2, pFrac n3 d3⟩, ⟨true, 2, pFrac n4 d4⟩], []⟩]) (A1 := []) (G1 := [⟨none, none, 0, pS [⟨true, 2, pFrac n1 d1⟩, ⟨true, 2, pFrac n2 d2⟩]⟩, ⟨none, none, 1, pS [⟨true, 2, pFrac n3 d3⟩, ⟨true, 2, pFrac n4 d4⟩]⟩, ⟨none, none, 2, pI k⟩, ⟨some 2, none, 6, pB false⟩]) (V2 := [⟨3, 3, none, none, .ptr, 24, 4, true, pS [⟨true, 2, pFrac n1 d1⟩, ⟨true, 2, pFrac n2 d2⟩], []⟩, ⟨4, 4, none, none, .ptr, 24, 4, true, pS [⟨true, 2, pFrac n3 d3⟩, ⟨true, 2, pFrac n4 d4⟩], []⟩]) (G2 := [⟨none, none, 2, pI k⟩, ⟨none, none, 6, pB false⟩]) hI rfl rfl rfl [0, 1, 3] (by kernel_rfl) (by kernel_rfl) ?_ [0, 1] [2, 3] rfl rfl fun a w hI => ?_
  · exact ⟨op_box 0 rfl rfl (by kernel_rfl) (by kernel_rfl) rfl rfl rfl (.tmp 0 rfl rfl) (fits_s (fs := [⟨true, 2, pFrac n1 d1⟩, ⟨true, 2, pFrac n2 d2⟩]) ⟨fits_frac _ _, fits_frac _ _, trivial⟩ rfl) rfl,
      op_box 1 rfl rfl (by kernel_rfl) (by kernel_rfl) rfl rfl rfl (.tmp 1 rfl rfl) (fits_s (fs := [⟨true, 2, pFrac n3 d3⟩, ⟨true, 2, pFrac n4 d4⟩]) ⟨fits_frac _ _, fits_frac _ _, trivial⟩ rfl) rfl,
      op_assign (.const _) (.here 3 rfl),
      trivial⟩
  refine seq_drawn (V1 := [⟨3, 3, none, none, .ptr, 24, 4, true, pS [⟨true, 2, pFrac n1 d1⟩, ⟨true, 2, pFrac n2 d2⟩], []⟩, ⟨4, 4, none, none, .ptr, 24, 4, true, pS [⟨true, 2, pFrac n3 d3⟩, ⟨true, 2, pFrac n4 d4⟩], []⟩, ⟨7, 7, some 10, none, .ptr, 30, 6, true, pPair 0 0, [(11, pPair (makeLo x1 x2) (makeHi x1 x2))]⟩]) (A1 := [⟨some 0, 18, 3, 0, True⟩, ⟨some 3, 21, 3, 2, True⟩]) (G1 := [⟨none, none, 2, pI k⟩, ⟨none, none, 6, pB false⟩, ⟨some 1, none, 19, pFrac n1 d1⟩, ⟨some 2, none, 20, pRat x1⟩, ⟨some 4, none, 22, pFrac n2 d2⟩, ⟨some 5, none, 23, pRat x2⟩, ⟨some 6, none, 24, pTup2 (pPair (makeLo x1 x2) (makeHi x1 x2)) (pI (makeE x1 x2))⟩, ⟨some 7, none, 17, pTup2 (pPair (makeLo x1 x2) (makeHi x1 x2)) (pI (makeE x1 x2))⟩, ⟨some 8, none, 25, pPair (makeLo x1 x2) (makeHi x1 x2)⟩, ⟨some 9, none, 26, pI (makeE x1 x2)⟩, ⟨some 12, none, 8, pI (makeE x1 x2)⟩]) (V2 := [⟨3, 3, none, none, .ptr, 24, 4, true, pS [⟨true, 2, pFrac n1 d1⟩, ⟨true, 2, pFrac n2 d2⟩], []⟩, ⟨4, 4, none, none, .ptr, 24, 4, true, pS [⟨true, 2, pFrac n3 d3⟩, ⟨true, 2, pFrac n4 d4⟩], []⟩, ⟨7, 7, none, none, .ptr, 30, 6, true, pPair (makeLo x1 x2) (makeHi x1 x2), []⟩]) (G2 := [⟨none, none, 2, pI k⟩, ⟨none, none, 6, pB false⟩, ⟨none, none, 8, pI (makeE x1 x2)⟩]) hI rfl rfl rfl [0, 1, 3, 0, 8, 31, 63, 127, 255, 255, 0, 1535, 4095] (by kernel_rfl) (by kernel_rfl) (by kernel_rfl) (by kernel_rfl) ?_ [0, 1, 2] [0, 1, 10] rfl rfl fun a w hI => ?_
  · exact ⟨op_index 0 rfl rfl rfl 0 rfl rfl rfl rfl (.inl ⟨rfl, rfl⟩) rfl (by kernel_rfl) (.const _) (fun _ _ => by kernel_rfl),
      op_loadAl 0 rfl 0 rfl rfl rfl rfl rfl trivial rfl rfl (by kernel_rfl) ty_Frac rfl rfl (fd_get (fs := [⟨true, 2, pFrac n1 d1⟩, ⟨true, 2, pFrac n2 d2⟩]) 0 (f := ⟨true, 2, pFrac n1 d1⟩) rfl (off := 0) rfl) (.here 2 rfl),
      op_call1 (fun _ _ => by kernel_rfl) (numlike_rat _) (.tmp 2 rfl rfl) (.here 3 rfl) (c_of e1 f1),
      op_index 0 rfl rfl rfl 1 rfl rfl rfl rfl (.inl ⟨rfl, rfl⟩) rfl (by kernel_rfl) (.const _) (fun _ _ => by kernel_rfl),
      op_loadAl 0 rfl 1 rfl rfl rfl rfl rfl trivial rfl rfl (by kernel_rfl) ty_Frac rfl rfl (fd_get (fs := [⟨true, 2, pFrac n1 d1⟩, ⟨true, 2, pFrac n2 d2⟩]) 1 (f := ⟨true, 2, pFrac n2 d2⟩) rfl (off := 2) rfl) (.here 4 rfl),
      op_call1 (fun _ _ => by kernel_rfl) (numlike_rat _) (.tmp 4 rfl rfl) (.here 5 rfl) (c_of e2 f2),
      op_callB2 (fun _ _ => by kernel_rfl) (.tmp 3 rfl rfl) (.tmp 5 rfl rfl) (.here 6 rfl) (cr_make (j := 64) B1 B2 (by omega)),
      op_move (.tmp 6 rfl rfl) (.here 7 rfl),
      op_extract (.tmp 7 rfl rfl) ex2_0 (.here 8 rfl),
      op_extract (.tmp 7 rfl rfl) ex2_1 (.here 9 rfl),
      op_alloc 2 rfl rfl (by kernel_rfl) (by kernel_rfl) rfl rfl rfl zv_Range rfl rfl (by simp [NoU]) (fun w => pS_of (cells_pair0 w)),
      op_store 2 rfl rfl rfl rfl 0 rfl (by kernel_rfl) (by kernel_rfl) ty_Range (.tmp 8 rfl rfl) (fits_pair _ _),
      op_assign (.tmp 9 rfl rfl) (.here 10 rfl),
      trivial⟩
  refine seq_drawn (V1 := [⟨3, 3, none, none, .ptr, 24, 4, true, pS [⟨true, 2, pFrac n1 d1⟩, ⟨true, 2, pFrac n2 d2⟩], []⟩, ⟨4, 4, none, none, .ptr, 24, 4, true, pS [⟨true, 2, pFrac n3 d3⟩, ⟨true, 2, pFrac n4 d4⟩], []⟩, ⟨7, 7, none, none, .ptr, 30, 6, true, pPair (makeLo x1 x2) (makeHi x1 x2), []⟩, ⟨9, 9, some 10, none, .ptr, 39, 6, true, pAny, [(11, pRPair (makeLo x1 x2) (makeHi x1 x2))]⟩]) (A1 := [⟨some 0, 28, 3, 0, True⟩, ⟨some 3, 31, 3, 2, True⟩]) (G1 := [⟨none, none, 2, pI k⟩, ⟨none, none, 6, pB false⟩, ⟨none, none, 8, pI (makeE x1 x2)⟩, ⟨some 1, none, 29, pFrac n1 d1⟩, ⟨some 2, none, 30, pRef x1⟩, ⟨some 4, none, 32, pFrac n2 d2⟩, ⟨some 5, none, 33, pRef x2⟩, ⟨some 6, none, 34, pTup2 (pRPair (makeLo x1 x2) (makeHi x1 x2)) (pI (makeE x1 x2))⟩, ⟨some 7, none, 27, pTup2 (pRPair (makeLo x1 x2) (makeHi x1 x2)) (pI (makeE x1 x2))⟩, ⟨some 8, none, 35, pRPair (makeLo x1 x2) (makeHi x1 x2)⟩, ⟨some 9, none, 36, pI (makeE x1 x2)⟩, ⟨some 12, none, 10, pI (makeE x1 x2)⟩]) (V2 := [⟨3, 3, none, none, .ptr, 24, 4, true, pS [⟨true, 2, pFrac n1 d1⟩, ⟨true, 2, pFrac n2 d2⟩], []⟩, ⟨4, 4, none, none, .ptr, 24, 4, true, pS [⟨true, 2, pFrac n3 d3⟩, ⟨true, 2, pFrac n4 d4⟩], []⟩, ⟨7, 7, none, none, .ptr, 30, 6, true, pPair (makeLo x1 x2) (makeHi x1 x2), []⟩, ⟨9, 9, none, none, .ptr, 39, 6, true, pRPair (makeLo x1 x2) (makeHi x1 x2), []⟩]) (G2 := [⟨none, none, 2, pI k⟩, ⟨none, none, 6, pB false⟩, ⟨none, none, 8, pI (makeE x1 x2)⟩, ⟨none, none, 10, pI (makeE x1 x2)⟩]) hI rfl rfl rfl [0, 1, 3, 0, 8, 31, 63, 127, 255, 255, 0, 1535, 4095] (by kernel_rfl) (by kernel_rfl) (by kernel_rfl) (by kernel_rfl) ?_ [0, 1, 2, 3] [0, 1, 2, 11] rfl rfl fun a w hI => ?_
  · exact ⟨op_index 0 rfl rfl rfl 0 rfl rfl rfl rfl (.inl ⟨rfl, rfl⟩) rfl (by kernel_rfl) (.const _) (fun _ _ => by kernel_rfl),
      op_loadAl 0 rfl 0 rfl rfl rfl rfl rfl trivial rfl rfl (by kernel_rfl) ty_Frac rfl rfl (fd_get (fs := [⟨true, 2, pFrac n1 d1⟩, ⟨true, 2, pFrac n2 d2⟩]) 0 (f := ⟨true, 2, pFrac n1 d1⟩) rfl (off := 0) rfl) (.here 3 rfl),
      op_call1 (fun _ _ => by kernel_rfl) (numlike_ref _) (.tmp 3 rfl rfl) (.here 4 rfl) (cn_of e1 f1),
      op_index 0 rfl rfl rfl 1 rfl rfl rfl rfl (.inl ⟨rfl, rfl⟩) rfl (by kernel_rfl) (.const _) (fun _ _ => by kernel_rfl),
      op_loadAl 0 rfl 1 rfl rfl rfl rfl rfl trivial rfl rfl (by kernel_rfl) ty_Frac rfl rfl (fd_get (fs := [⟨true, 2, pFrac n1 d1⟩, ⟨true, 2, pFrac n2 d2⟩]) 1 (f := ⟨true, 2, pFrac n2 d2⟩) rfl (off := 2) rfl) (.here 5 rfl),
      op_call1 (fun _ _ => by kernel_rfl) (numlike_ref _) (.tmp 5 rfl rfl) (.here 6 rfl) (cn_of e2 f2),
      op_callB2 (fun _ _ => by kernel_rfl) (.tmp 4 rfl rfl) (.tmp 6 rfl rfl) (.here 7 rfl) (nr_make (j := 64) B5 B6 (by omega)),
      op_move (.tmp 7 rfl rfl) (.here 8 rfl),
      op_extract (.tmp 8 rfl rfl) ex2_0 (.here 9 rfl),
      op_extract (.tmp 8 rfl rfl) ex2_1 (.here 10 rfl),
      op_alloc 3 rfl rfl (by kernel_rfl) (by kernel_rfl) rfl rfl rfl zv_S rfl rfl (by simp [NoU]) (fun _ => trivial),
      op_store 3 rfl rfl rfl rfl 0 rfl (by kernel_rfl) (by kernel_rfl) ty_S (.tmp 9 rfl rfl) (fits_rpair _ _),
      op_assign (.tmp 10 rfl rfl) (.here 11 rfl),
      trivial⟩
  refine wp_seq ?_
  refine seq_text (V1 := [⟨3, 3, none, none, .ptr, 24, 4, true, pS [⟨true, 2, pFrac n1 d1⟩, ⟨true, 2, pFrac n2 d2⟩], []⟩, ⟨4, 4, none, none, .ptr, 24, 4, true, pS [⟨true, 2, pFrac n3 d3⟩, ⟨true, 2, pFrac n4 d4⟩], []⟩, ⟨7, 7, none, none, .ptr, 30, 6, true, pPair (makeLo x1 x2) (makeHi x1 x2), []⟩, ⟨9, 9, none, none, .ptr, 39, 6, true, pRPair (makeLo x1 x2) (makeHi x1 x2), []⟩]) (A1 := []) (G1 := [⟨none, none, 2, pI k⟩, ⟨none, none, 6, pB false⟩, ⟨none, none, 8, pI (makeE x1 x2)⟩, ⟨none, none, 10, pI (makeE x1 x2)⟩, ⟨some 0, none, 37, pI (makeE x1 x2)⟩, ⟨some 1, none, 38, pI (makeE x1 x2)⟩, ⟨some 2, none, 39, pB false⟩, ⟨some 3, none, 40, pB false⟩, ⟨some 4, none, 41, pPair (makeLo x1 x2) (makeHi x1 x2)⟩, ⟨some 5, none, 42, pRPair (makeLo x1 x2) (makeHi x1 x2)⟩, ⟨some 6, none, 43, pB true⟩, ⟨some 7, none, 44, pB false⟩, ⟨some 8, none, 45, pB false⟩]) (V2 := [⟨3, 3, none, none, .ptr, 24, 4, true, pS [⟨true, 2, pFrac n1 d1⟩, ⟨true, 2, pFrac n2 d2⟩], []⟩, ⟨4, 4, none, none, .ptr, 24, 4, true, pS [⟨true, 2, pFrac n3 d3⟩, ⟨true, 2, pFrac n4 d4⟩], []⟩, ⟨7, 7, none, none, .ptr, 30, 6, true, pPair (makeLo x1 x2) (makeHi x1 x2), []⟩, ⟨9, 9, none, none, .ptr, 39, 6, true, pRPair (makeLo x1 x2) (makeHi x1 x2), []⟩]) (G2 := [⟨none, none, 2, pI k⟩, ⟨none, none, 6, pB false⟩, ⟨none, none, 8, pI (makeE x1 x2)⟩, ⟨none, none, 10, pI (makeE x1 x2)⟩, ⟨none, none, 45, pB false⟩]) hI rfl rfl rfl [0, 1, 3, 7, 15, 31, 63, 127, 255] (by kernel_rfl) (by kernel_rfl) ?_ [0, 1, 2, 3] [0, 1, 2, 3, 12] rfl rfl fun a w hI => ?_
  · exact ⟨op_move (.tmp 2 rfl rfl) (.here 4 rfl),
      op_move (.tmp 3 rfl rfl) (.here 5 rfl),
      op_bin (v := .bool (((makeE x1 x2) != (makeE x1 x2)))) (.tmp 4 rfl rfl) (.tmp 5 rfl rfl) (fun _ => rfl) (.at_ 6 _ _ rfl (pB_eq (bne_self_eq_false _))),
      op_move (.tmp 6 rfl rfl) (.here 7 rfl),
      op_yes 7 rfl rfl (op_load 2 rfl rfl rfl rfl (by kernel_rfl) ty_Range rfl (.here 8 rfl)),
      op_yes 7 rfl rfl (op_load 3 rfl rfl rfl rfl (by kernel_rfl) ty_S rfl (.here 9 rfl)),
      op_yes 7 rfl rfl (op_callB2 (fun _ _ => by kernel_rfl) (.tmp 8 rfl rfl) (.tmp 9 rfl rfl) (.here 10 rfl) (cl_isrange (j := 64) ⟨B3, B4⟩ (by omega) rfl rfl)),
      op_yes 7 rfl rfl (op_not (.tmp 10 rfl rfl) (.here 11 rfl)),
      op_pick (b := false) (.tmp 7 rfl rfl) (fun h => by cases h) (fun _ => (.tmp 11 rfl rfl)) (.here 12 rfl),
      trivial⟩
  refine cond_no hI 4 rfl ?_
  refine wp_skip ?_
  refine then_of ?_
  refine seq_drawn (V1 := [⟨3, 3, none, none, .ptr, 24, 4, true, pS [⟨true, 2, pFrac n1 d1⟩, ⟨true, 2, pFrac n2 d2⟩], []⟩, ⟨4, 4, none, none, .ptr, 24, 4, true, pS [⟨true, 2, pFrac n3 d3⟩, ⟨true, 2, pFrac n4 d4⟩], []⟩, ⟨7, 7, none, none, .ptr, 30, 6, true, pPair (makeLo x1 x2) (makeHi x1 x2), []⟩, ⟨9, 9, none, none, .ptr, 39, 6, true, pRPair (makeLo x1 x2) (makeHi x1 x2), []⟩, ⟨11, 11, some 8, none, .ptr, 30, 6, true, pPair 0 0, [(12, pPair xl xh)]⟩, ⟨12, 12, some 9, none, .ptr, 30, 6, true, pPair 0 0, [(13, pPair yl yh)]⟩, ⟨13, 13, some 10, none, .ptr, 39, 6, true, pAny, [(14, pRPair xl xh)]⟩, ⟨14, 14, some 11, none, .ptr, 39, 6, true, pAny, [(15, pRPair yl yh)]⟩]) (A1 := []) (G1 := [⟨none, none, 2, pI k⟩, ⟨none, none, 6, pB false⟩, ⟨none, none, 8, pI (makeE x1 x2)⟩, ⟨none, none, 10, pI (makeE x1 x2)⟩, ⟨none, none, 45, pB false⟩, ⟨some 0, none, 46, pS [⟨true, 2, pFrac n1 d1⟩, ⟨true, 2, pFrac n2 d2⟩]⟩, ⟨some 1, none, 47, pPair xl xh⟩, ⟨some 2, none, 48, pS [⟨true, 2, pFrac n3 d3⟩, ⟨true, 2, pFrac n4 d4⟩]⟩, ⟨some 3, none, 49, pPair yl yh⟩, ⟨some 4, none, 50, pS [⟨true, 2, pFrac n1 d1⟩, ⟨true, 2, pFrac n2 d2⟩]⟩, ⟨some 5, none, 51, pRPair xl xh⟩, ⟨some 6, none, 52, pS [⟨true, 2, pFrac n3 d3⟩, ⟨true, 2, pFrac n4 d4⟩]⟩, ⟨some 7, none, 53, pRPair yl yh⟩]) (V2 := [⟨3, 3, none, none, .ptr, 24, 4, true, pS [⟨true, 2, pFrac n1 d1⟩, ⟨true, 2, pFrac n2 d2⟩], []⟩, ⟨4, 4, none, none, .ptr, 24, 4, true, pS [⟨true, 2, pFrac n3 d3⟩, ⟨true, 2, pFrac n4 d4⟩], []⟩, ⟨7, 7, none, none, .ptr, 30, 6, true, pPair (makeLo x1 x2) (makeHi x1 x2), []⟩, ⟨9, 9, none, none, .ptr, 39, 6, true, pRPair (makeLo x1 x2) (makeHi x1 x2), []⟩, ⟨11, 11, none, none, .ptr, 30, 6, true, pPair xl xh, []⟩, ⟨12, 12, none, none, .ptr, 30, 6, true, pPair yl yh, []⟩, ⟨13, 13, none, none, .ptr, 39, 6, true, pRPair xl xh, []⟩, ⟨14, 14, none, none, .ptr, 39, 6, true, pRPair yl yh, []⟩]) (G2 := [⟨none, none, 2, pI k⟩, ⟨none, none, 6, pB false⟩, ⟨none, none, 8, pI (makeE x1 x2)⟩, ⟨none, none, 10, pI (makeE x1 x2)⟩]) hI rfl rfl rfl [0, 1, 0, 7, 0, 31, 0, 127, 0, 0, 0, 0, 4095, 8191, 16383, 32767] (by kernel_rfl) (by kernel_rfl) (by kernel_rfl) (by kernel_rfl) ?_ [0, 1, 2, 3, 4, 5, 6, 7] [0, 1, 2, 3] rfl rfl fun a w hI => ?_
  · exact ⟨op_load 0 rfl rfl rfl rfl (by kernel_rfl) ty_Frac2 rfl (.here 5 rfl),
      op_callB1 (fun _ _ => by kernel_rfl) (.tmp 5 rfl rfl) (.here 6 rfl) (cl_range e1 f1 e2 f2 exl exh),
      op_load 1 rfl rfl rfl rfl (by kernel_rfl) ty_Frac2 rfl (.here 7 rfl),
      op_callB1 (fun _ _ => by kernel_rfl) (.tmp 7 rfl rfl) (.here 8 rfl) (cl_range e3 f3 e4 f4 eyl eyh),
      op_load 0 rfl rfl rfl rfl (by kernel_rfl) ty_Frac2 rfl (.here 9 rfl),
      op_callB1 (fun _ _ => by kernel_rfl) (.tmp 9 rfl rfl) (.here 10 rfl) (cl_refrange e1 f1 e2 f2 exl exh),
      op_load 1 rfl rfl rfl rfl (by kernel_rfl) ty_Frac2 rfl (.here 11 rfl),
      op_callB1 (fun _ _ => by kernel_rfl) (.tmp 11 rfl rfl) (.here 12 rfl) (cl_refrange e3 f3 e4 f4 eyl eyh),
      op_alloc 4 rfl rfl (by kernel_rfl) (by kernel_rfl) rfl rfl rfl zv_Range rfl rfl (by simp [NoU]) (fun w => pS_of (cells_pair0 w)),
      op_alloc 5 rfl rfl (by kernel_rfl) (by kernel_rfl) rfl rfl rfl zv_Range rfl rfl (by simp [NoU]) (fun w => pS_of (cells_pair0 w)),
      op_alloc 6 rfl rfl (by kernel_rfl) (by kernel_rfl) rfl rfl rfl zv_S rfl rfl (by simp [NoU]) (fun _ => trivial),
      op_alloc 7 rfl rfl (by kernel_rfl) (by kernel_rfl) rfl rfl rfl zv_S rfl rfl (by simp [NoU]) (fun _ => trivial),
      op_store 4 rfl rfl rfl rfl 0 rfl (by kernel_rfl) (by kernel_rfl) ty_Range (.tmp 6 rfl rfl) (fits_pair _ _),
      op_store 5 rfl rfl rfl rfl 0 rfl (by kernel_rfl) (by kernel_rfl) ty_Range (.tmp 8 rfl rfl) (fits_pair _ _),
      op_store 6 rfl rfl rfl rfl 0 rfl (by kernel_rfl) (by kernel_rfl) ty_S (.tmp 10 rfl rfl) (fits_rpair _ _),
      op_store 7 rfl rfl rfl rfl 0 rfl (by kernel_rfl) (by kernel_rfl) ty_S (.tmp 12 rfl rfl) (fits_rpair _ _),
      trivial⟩
  refine wp_seq ?_
  refine seq_drawn (V1 := [⟨3, 3, none, none, .ptr, 24, 4, true, pS [⟨true, 2, pFrac n1 d1⟩, ⟨true, 2, pFrac n2 d2⟩], []⟩, ⟨4, 4, none, none, .ptr, 24, 4, true, pS [⟨true, 2, pFrac n3 d3⟩, ⟨true, 2, pFrac n4 d4⟩], []⟩, ⟨7, 7, none, none, .ptr, 30, 6, true, pPair (makeLo x1 x2) (makeHi x1 x2), []⟩, ⟨9, 9, none, none, .ptr, 39, 6, true, pRPair (makeLo x1 x2) (makeHi x1 x2), []⟩, ⟨11, 11, none, none, .ptr, 30, 6, true, pPair xl xh, []⟩, ⟨12, 12, none, none, .ptr, 30, 6, true, pPair yl yh, []⟩, ⟨13, 13, none, none, .ptr, 39, 6, true, pRPair xl xh, []⟩, ⟨14, 14, none, none, .ptr, 39, 6, true, pRPair yl yh, []⟩]) (A1 := [⟨some 7, 61, 13, 3, True⟩, ⟨some 9, 63, 13, 0, True⟩]) (G1 := [⟨none, none, 2, pI k⟩, ⟨none, none, 6, pB false⟩, ⟨none, none, 8, pI (makeE x1 x2)⟩, ⟨none, none, 10, pI (makeE x1 x2)⟩, ⟨some 0, none, 54, pPair xl xh⟩, ⟨some 1, none, 55, pRPair xl xh⟩, ⟨some 2, none, 56, pB true⟩, ⟨some 3, none, 57, pB false⟩, ⟨some 4, none, 58, pB false⟩, ⟨some 5, none, 59, pPair xl xh⟩, ⟨some 6, none, 60, pRat (xh - xl)⟩, ⟨some 8, none, 62, pRef xh⟩, ⟨some 10, none, 64, pRef xl⟩, ⟨some 11, none, 65, pRef (xh - xl)⟩, ⟨some 12, none, 66, pB true⟩, ⟨some 13, none, 67, pB false⟩, ⟨some 14, none, 68, pB false⟩, ⟨some 15, none, 69, pB false⟩, ⟨some 16, none, 70, pPair xl xh⟩, ⟨some 17, none, 71, pEq (.string (((((⟨#[91]⟩ : ByteArray) ++ strOf (textR xl)) ++ (⟨#[44]⟩ : ByteArray)) ++ strOf (textR xh)) ++ (⟨#[93]⟩ : ByteArray)))⟩, ⟨some 18, none, 72, pRPair xl xh⟩, ⟨some 19, none, 73, pEq (.string (((((⟨#[91]⟩ : ByteArray) ++ strOf (textR xl)) ++ (⟨#[44]⟩ : ByteArray)) ++ strOf (textR xh)) ++ (⟨#[93]⟩ : ByteArray)))⟩, ⟨some 20, none, 74, pB false⟩, ⟨some 21, none, 75, pB false⟩, ⟨some 22, none, 76, pB false⟩, ⟨some 23, none, 77, pPair xl xh⟩, ⟨some 24, none, 78, pPair yl yh⟩, ⟨some 25, none, 79, pPair (xl + yl) (xh + yh)⟩, ⟨some 26, none, 80, pRPair xl xh⟩, ⟨some 27, none, 81, pRPair yl yh⟩, ⟨some 28, none, 82, pRPair (xl + yl) (xh + yh)⟩, ⟨some 29, none, 83, pB true⟩, ⟨some 30, none, 84, pB false⟩, ⟨some 31, none, 85, pB false⟩, ⟨some 32, none, 86, pB false⟩, ⟨some 33, none, 87, pPair xl xh⟩, ⟨some 34, none, 88, pPair yl yh⟩, ⟨some 35, none, 89, pPair (xl - yh) (xh - yl)⟩, ⟨some 36, none, 90, pRPair xl xh⟩, ⟨some 37, none, 91, pRPair yl yh⟩, ⟨some 38, none, 92, pRPair (xl - yh) (xh - yl)⟩, ⟨some 39, none, 93, pB true⟩, ⟨some 40, none, 94, pB false⟩, ⟨some 41, none, 95, pB false⟩, ⟨some 42, none, 96, pB false⟩, ⟨some 43, none, 97, pPair xl xh⟩, ⟨some 44, none, 98, pPair yl yh⟩, ⟨some 45, none, 99, pPair (min4 (xl * yl) (xl * yh) (xh * yl) (xh * yh)) (max4 (xl * yl) (xl * yh) (xh * yl) (xh * yh))⟩, ⟨some 46, none, 100, pRPair xl xh⟩, ⟨some 47, none, 101, pRPair yl yh⟩, ⟨some 48, none, 102, pRPair (min4 (xl * yl) (xl * yh) (xh * yl) (xh * yh)) (max4 (xl * yl) (xl * yh) (xh * yl) (xh * yh))⟩, ⟨some 49, none, 103, pB true⟩, ⟨some 50, none, 104, pB false⟩, ⟨some 51, none, 105, pB false⟩, ⟨some 52, none, 106, pB false⟩, ⟨some 53, none, 107, pPair xl xh⟩, ⟨some 54, none, 108, pPair (-xh) (-xl)⟩, ⟨some 55, none, 109, pRPair xl xh⟩, ⟨some 56, none, 110, pRPair (-xh) (-xl)⟩, ⟨some 57, none, 111, pB true⟩, ⟨some 58, none, 112, pB false⟩, ⟨some 59, none, 113, pB false⟩, ⟨some 60, none, 114, pB false⟩, ⟨some 61, none, 115, pPair xl xh⟩, ⟨some 62, none, 116, pPair (sqLo xl xh) (max2 (xl * xl) (xh * xh))⟩, ⟨some 63, none, 117, pRPair xl xh⟩, ⟨some 64, none, 118, pRPair (sqLo xl xh) (max2 (xl * xl) (xh * xh))⟩, ⟨some 65, none, 119, pB true⟩, ⟨some 66, none, 120, pB false⟩, ⟨some 67, none, 121, pB false⟩]) (V2 := [⟨3, 3, none, none, .ptr, 24, 4, true, pS [⟨true, 2, pFrac n1 d1⟩, ⟨true, 2, pFrac n2 d2⟩], []⟩, ⟨4, 4, none, none, .ptr, 24, 4, true, pS [⟨true, 2, pFrac n3 d3⟩, ⟨true, 2, pFrac n4 d4⟩], []⟩, ⟨7, 7, none, none, .ptr, 30, 6, true, pPair (makeLo x1 x2) (makeHi x1 x2), []⟩, ⟨9, 9, none, none, .ptr, 39, 6, true, pRPair (makeLo x1 x2) (makeHi x1 x2), []⟩, ⟨11, 11, none, none, .ptr, 30, 6, true, pPair xl xh, []⟩, ⟨12, 12, none, none, .ptr, 30, 6, true, pPair yl yh, []⟩, ⟨13, 13, none, none, .ptr, 39, 6, true, pRPair xl xh, []⟩, ⟨14, 14, none, none, .ptr, 39, 6, true, pRPair yl yh, []⟩]) (G2 := [⟨none, none, 2, pI k⟩, ⟨none, none, 6, pB false⟩, ⟨none, none, 8, pI (makeE x1 x2)⟩, ⟨none, none, 10, pI (makeE x1 x2)⟩, ⟨none, none, 121, pB false⟩]) hI rfl rfl rfl [0, 0, 3, 7, 15, 31, 63, 31, 159, 31, 543, 2047, 4095, 8191, 16383, 32767, 65535, 131071, 65535, 524287, 1048575, 2097151, 4194303, 8388607, 8388607, 33554431, 8388607, 8388607, 268435455, 536870911, 1073741823, 2147483647, 4294967295, 8589934591, 8589934591, 34359738367, 8589934591, 8589934591, 274877906943, 549755813887, 1099511627775, 2199023255551, 4398046511103, 8796093022207, 8796093022207, 35184372088831, 8796093022207, 8796093022207, 281474976710655, 562949953421311, 1125899906842623, 2251799813685247, 4503599627370495, 9007199254740991, 18014398509481983, 9007199254740991, 72057594037927935, 144115188075855871, 288230376151711743, 576460752303423487, 1152921504606846975, 2305843009213693951, 4611686018427387903, 2305843009213693951, 18446744073709551615, 36893488147419103231, 73786976294838206463, 147573952589676412927] (by kernel_rfl) (by kernel_rfl) (by kernel_rfl) (by kernel_rfl) ?_ [0, 1, 2, 3, 4, 5, 6, 7] [0, 1, 2, 3, 69] rfl rfl fun a w hI => ?_
  · exact ⟨op_load 4 rfl rfl rfl rfl (by kernel_rfl) ty_Range rfl (.here 4 rfl),
      op_load 6 rfl rfl rfl rfl (by kernel_rfl) ty_S rfl (.here 5 rfl),
      op_callB2 (fun _ _ => by kernel_rfl) (.tmp 4 rfl rfl) (.tmp 5 rfl rfl) (.here 6 rfl) (cl_isrange (j := 64) ⟨bxl, bxh⟩ (by omega) rfl rfl),
      op_not (.tmp 6 rfl rfl) (.here 7 rfl),
      op_move (.tmp 7 rfl rfl) (.here 8 rfl),
      op_yes 8 rfl rfl (op_load 4 rfl rfl rfl rfl (by kernel_rfl) ty_Range rfl (.here 9 rfl)),
      op_yes 8 rfl rfl (op_callB1 (fun _ _ => by kernel_rfl) (.tmp 9 rfl rfl) (.here 10 rfl) (cr_width (j := 64) ⟨bxl, bxh⟩ (by omega))),
      op_yes 8 rfl rfl (op_field 6 rfl rfl rfl 0 rfl rfl rfl rfl (.inl ⟨rfl, rfl⟩) rfl (by kernel_rfl) (fun b w => fa_S_1 b 0 w)),
      op_yes 8 rfl rfl (op_loadAl 6 rfl 0 rfl rfl rfl rfl rfl trivial rfl rfl (by kernel_rfl) ty_R rfl rfl (fd_get (fs := [⟨true, 3, pRef xl⟩, ⟨true, 3, pRef xh⟩]) 1 (f := ⟨true, 3, pRef xh⟩) rfl (off := 3) rfl) (.here 11 rfl)),
      op_yes 8 rfl rfl (op_field 6 rfl rfl rfl 1 rfl rfl rfl rfl (.inl ⟨rfl, rfl⟩) rfl (by kernel_rfl) (fun b w => fa_S_0 b 0 w)),
      op_yes 8 rfl rfl (op_loadAl 6 rfl 1 rfl rfl rfl rfl rfl trivial rfl rfl (by kernel_rfl) ty_R rfl rfl (fd_get (fs := [⟨true, 3, pRef xl⟩, ⟨true, 3, pRef xh⟩]) 0 (f := ⟨true, 3, pRef xl⟩) rfl (off := 0) rfl) (.here 12 rfl)),
      op_yes 8 rfl rfl (op_call2 (fun _ _ => by kernel_rfl) (numlike_ref _) (.tmp 11 rfl rfl) (.tmp 12 rfl rfl) (.here 13 rfl) (cn_sub bxh bxl (by omega))),
      op_yes 8 rfl rfl (op_call2 (fun _ _ => by kernel_rfl) (numlike_eq _) (.tmp 10 rfl rfl) (.tmp 13 rfl rfl) (.here 14 rfl) (c_is B9 (by omega) (rfl))),
      op_yes 8 rfl rfl (op_not (.tmp 14 rfl rfl) (.here 15 rfl)),
      op_pick (b := false) (.tmp 8 rfl rfl) (fun h => by cases h) (fun _ => (.tmp 15 rfl rfl)) (.here 16 rfl),
      op_move (.tmp 16 rfl rfl) (.here 17 rfl),
      op_yes 17 rfl rfl (op_load 4 rfl rfl rfl rfl (by kernel_rfl) ty_Range rfl (.here 18 rfl)),
      op_yes 17 rfl rfl (op_callB1 (fun _ _ => by kernel_rfl) (.tmp 18 rfl rfl) (.here 19 rfl) (cr_text ⟨bxl, bxh⟩)),
      op_yes 17 rfl rfl (op_load 6 rfl rfl rfl rfl (by kernel_rfl) ty_S rfl (.here 20 rfl)),
      op_yes 17 rfl rfl (op_callB1 (fun _ _ => by kernel_rfl) (.tmp 20 rfl rfl) (.here 21 rfl) (nr_text ⟨bxl, bxh⟩)),
      op_yes 17 rfl rfl (op_bin_same (neq := true) (.tmp 19 rfl rfl) (.tmp 21 rfl rfl) (.here 22 rfl)),
      op_pick (b := false) (.tmp 17 rfl rfl) (fun h => by cases h) (fun _ => (.tmp 22 rfl rfl)) (.here 23 rfl),
      op_move (.tmp 23 rfl rfl) (.here 24 rfl),
      op_yes 24 rfl rfl (op_load 4 rfl rfl rfl rfl (by kernel_rfl) ty_Range rfl (.here 25 rfl)),
      op_yes 24 rfl rfl (op_load 5 rfl rfl rfl rfl (by kernel_rfl) ty_Range rfl (.here 26 rfl)),
      op_yes 24 rfl rfl (op_callB2 (fun _ _ => by kernel_rfl) (.tmp 25 rfl rfl) (.tmp 26 rfl rfl) (.here 27 rfl) (cr_add (j := 64) (k := 64) ⟨bxl, bxh⟩ ⟨byl, byh⟩ (by omega))),
      op_yes 24 rfl rfl (op_load 6 rfl rfl rfl rfl (by kernel_rfl) ty_S rfl (.here 28 rfl)),
      op_yes 24 rfl rfl (op_load 7 rfl rfl rfl rfl (by kernel_rfl) ty_S rfl (.here 29 rfl)),
      op_yes 24 rfl rfl (op_callB2 (fun _ _ => by kernel_rfl) (.tmp 28 rfl rfl) (.tmp 29 rfl rfl) (.here 30 rfl) (nr_add (j := 64) (k := 64) ⟨bxl, bxh⟩ ⟨byl, byh⟩ (by omega))),
      op_yes 24 rfl rfl (op_callB2 (fun _ _ => by kernel_rfl) (.tmp 27 rfl rfl) (.tmp 30 rfl rfl) (.here 31 rfl) (cl_isrange (j := 257) ⟨B11, B12⟩ (by omega) rfl rfl)),
      op_yes 24 rfl rfl (op_not (.tmp 31 rfl rfl) (.here 32 rfl)),
      op_pick (b := false) (.tmp 24 rfl rfl) (fun h => by cases h) (fun _ => (.tmp 32 rfl rfl)) (.here 33 rfl),
      op_move (.tmp 33 rfl rfl) (.here 34 rfl),
      op_yes 34 rfl rfl (op_load 4 rfl rfl rfl rfl (by kernel_rfl) ty_Range rfl (.here 35 rfl)),
      op_yes 34 rfl rfl (op_load 5 rfl rfl rfl rfl (by kernel_rfl) ty_Range rfl (.here 36 rfl)),
      op_yes 34 rfl rfl (op_callB2 (fun _ _ => by kernel_rfl) (.tmp 35 rfl rfl) (.tmp 36 rfl rfl) (.here 37 rfl) (cr_sub (j := 64) (k := 64) ⟨bxl, bxh⟩ ⟨byl, byh⟩ (by omega))),
      op_yes 34 rfl rfl (op_load 6 rfl rfl rfl rfl (by kernel_rfl) ty_S rfl (.here 38 rfl)),
      op_yes 34 rfl rfl (op_load 7 rfl rfl rfl rfl (by kernel_rfl) ty_S rfl (.here 39 rfl)),
      op_yes 34 rfl rfl (op_callB2 (fun _ _ => by kernel_rfl) (.tmp 38 rfl rfl) (.tmp 39 rfl rfl) (.here 40 rfl) (nr_sub (j := 64) (k := 64) ⟨bxl, bxh⟩ ⟨byl, byh⟩ (by omega))),
      op_yes 34 rfl rfl (op_callB2 (fun _ _ => by kernel_rfl) (.tmp 37 rfl rfl) (.tmp 40 rfl rfl) (.here 41 rfl) (cl_isrange (j := 257) ⟨B15, B16⟩ (by omega) rfl rfl)),
      op_yes 34 rfl rfl (op_not (.tmp 41 rfl rfl) (.here 42 rfl)),
      op_pick (b := false) (.tmp 34 rfl rfl) (fun h => by cases h) (fun _ => (.tmp 42 rfl rfl)) (.here 43 rfl),
      op_move (.tmp 43 rfl rfl) (.here 44 rfl),
      op_yes 44 rfl rfl (op_load 4 rfl rfl rfl rfl (by kernel_rfl) ty_Range rfl (.here 45 rfl)),
      op_yes 44 rfl rfl (op_load 5 rfl rfl rfl rfl (by kernel_rfl) ty_Range rfl (.here 46 rfl)),
      op_yes 44 rfl rfl (op_callB2 (fun _ _ => by kernel_rfl) (.tmp 45 rfl rfl) (.tmp 46 rfl rfl) (.here 47 rfl) (cr_mul (j := 64) (k := 64) ⟨bxl, bxh⟩ ⟨byl, byh⟩ (by omega))),
      op_yes 44 rfl rfl (op_load 6 rfl rfl rfl rfl (by kernel_rfl) ty_S rfl (.here 48 rfl)),
      op_yes 44 rfl rfl (op_load 7 rfl rfl rfl rfl (by kernel_rfl) ty_S rfl (.here 49 rfl)),
      op_yes 44 rfl rfl (op_callB2 (fun _ _ => by kernel_rfl) (.tmp 48 rfl rfl) (.tmp 49 rfl rfl) (.here 50 rfl) (nr_mul (j := 64) (k := 64) ⟨bxl, bxh⟩ ⟨byl, byh⟩ (by omega))),
      op_yes 44 rfl rfl (op_callB2 (fun _ _ => by kernel_rfl) (.tmp 47 rfl rfl) (.tmp 50 rfl rfl) (.here 51 rfl) (cl_isrange (j := 128) ⟨B23, B24⟩ (by omega) rfl rfl)),
      op_yes 44 rfl rfl (op_not (.tmp 51 rfl rfl) (.here 52 rfl)),
      op_pick (b := false) (.tmp 44 rfl rfl) (fun h => by cases h) (fun _ => (.tmp 52 rfl rfl)) (.here 53 rfl),
      op_move (.tmp 53 rfl rfl) (.here 54 rfl),
      op_yes 54 rfl rfl (op_load 4 rfl rfl rfl rfl (by kernel_rfl) ty_Range rfl (.here 55 rfl)),
      op_yes 54 rfl rfl (op_callB1 (fun _ _ => by kernel_rfl) (.tmp 55 rfl rfl) (.here 56 rfl) (cr_neg _ _)),
      op_yes 54 rfl rfl (op_load 6 rfl rfl rfl rfl (by kernel_rfl) ty_S rfl (.here 57 rfl)),
      op_yes 54 rfl rfl (op_callB1 (fun _ _ => by kernel_rfl) (.tmp 57 rfl rfl) (.here 58 rfl) (nr_neg _ _)),
      op_yes 54 rfl rfl (op_callB2 (fun _ _ => by kernel_rfl) (.tmp 56 rfl rfl) (.tmp 58 rfl rfl) (.here 59 rfl) (cl_isrange (j := 64) ⟨B31, B32⟩ (by omega) rfl rfl)),
      op_yes 54 rfl rfl (op_not (.tmp 59 rfl rfl) (.here 60 rfl)),
      op_pick (b := false) (.tmp 54 rfl rfl) (fun h => by cases h) (fun _ => (.tmp 60 rfl rfl)) (.here 61 rfl),
      op_move (.tmp 61 rfl rfl) (.here 62 rfl),
      op_yes 62 rfl rfl (op_load 4 rfl rfl rfl rfl (by kernel_rfl) ty_Range rfl (.here 63 rfl)),
      op_yes 62 rfl rfl (op_callB1 (fun _ _ => by kernel_rfl) (.tmp 63 rfl rfl) (.here 64 rfl) (cr_square (j := 64) ⟨bxl, bxh⟩ (by omega))),
      op_yes 62 rfl rfl (op_load 6 rfl rfl rfl rfl (by kernel_rfl) ty_S rfl (.here 65 rfl)),
      op_yes 62 rfl rfl (op_callB1 (fun _ _ => by kernel_rfl) (.tmp 65 rfl rfl) (.here 66 rfl) (nr_square (j := 64) ⟨bxl, bxh⟩ (by omega) (by omega))),
      op_yes 62 rfl rfl (op_callB2 (fun _ _ => by kernel_rfl) (.tmp 64 rfl rfl) (.tmp 66 rfl rfl) (.here 67 rfl) (cl_isrange (j := 128) ⟨B37, B38⟩ (by omega) rfl rfl)),
      op_yes 62 rfl rfl (op_not (.tmp 67 rfl rfl) (.here 68 rfl)),
      op_pick (b := false) (.tmp 62 rfl rfl) (fun h => by cases h) (fun _ => (.tmp 68 rfl rfl)) (.here 69 rfl),
      trivial⟩
  refine cond_no hI 4 rfl ?_
  refine wp_skip ?_
  refine then_of ?_
  refine seq_text (V1 := [⟨3, 3, none, none, .ptr, 24, 4, true, pS [⟨true, 2, pFrac n1 d1⟩, ⟨true, 2, pFrac n2 d2⟩], []⟩, ⟨4, 4, none, none, .ptr, 24, 4, true, pS [⟨true, 2, pFrac n3 d3⟩, ⟨true, 2, pFrac n4 d4⟩], []⟩, ⟨7, 7, none, none, .ptr, 30, 6, true, pPair (makeLo x1 x2) (makeHi x1 x2), []⟩, ⟨9, 9, none, none, .ptr, 39, 6, true, pRPair (makeLo x1 x2) (makeHi x1 x2), []⟩, ⟨11, 11, none, none, .ptr, 30, 6, true, pPair xl xh, []⟩, ⟨12, 12, none, none, .ptr, 30, 6, true, pPair yl yh, []⟩, ⟨13, 13, none, none, .ptr, 39, 6, true, pRPair xl xh, []⟩, ⟨14, 14, none, none, .ptr, 39, 6, true, pRPair yl yh, []⟩, ⟨15, 15, some 6, none, .ptr, 30, 6, true, pPair 0 0, [(7, pPair (divLo xl xh yl yh) (divHi xl xh yl yh))]⟩]) (A1 := []) (G1 := [⟨none, none, 2, pI k⟩, ⟨none, none, 6, pB false⟩, ⟨none, some 8, 8, pI (makeE x1 x2)⟩, ⟨none, none, 10, pI (makeE x1 x2)⟩, ⟨none, none, 121, pB false⟩, ⟨some 0, none, 123, pPair xl xh⟩, ⟨some 1, none, 124, pPair yl yh⟩, ⟨some 2, none, 125, pTup2 (pPair (divLo xl xh yl yh) (divHi xl xh yl yh)) (pI (divE yl yh))⟩, ⟨some 3, none, 122, pTup2 (pPair (divLo xl xh yl yh) (divHi xl xh yl yh)) (pI (divE yl yh))⟩, ⟨some 4, none, 126, pPair (divLo xl xh yl yh) (divHi xl xh yl yh)⟩, ⟨some 5, none, 127, pI (divE yl yh)⟩, ⟨some 8, none, 8, pI (divE yl yh)⟩]) (V2 := [⟨3, 3, none, none, .ptr, 24, 4, true, pS [⟨true, 2, pFrac n1 d1⟩, ⟨true, 2, pFrac n2 d2⟩], []⟩, ⟨4, 4, none, none, .ptr, 24, 4, true, pS [⟨true, 2, pFrac n3 d3⟩, ⟨true, 2, pFrac n4 d4⟩], []⟩, ⟨7, 7, none, none, .ptr, 30, 6, true, pPair (makeLo x1 x2) (makeHi x1 x2), []⟩, ⟨9, 9, none, none, .ptr, 39, 6, true, pRPair (makeLo x1 x2) (makeHi x1 x2), []⟩, ⟨11, 11, none, none, .ptr, 30, 6, true, pPair xl xh, []⟩, ⟨12, 12, none, none, .ptr, 30, 6, true, pPair yl yh, []⟩, ⟨13, 13, none, none, .ptr, 39, 6, true, pRPair xl xh, []⟩, ⟨14, 14, none, none, .ptr, 39, 6, true, pRPair yl yh, []⟩, ⟨15, 15, none, none, .ptr, 30, 6, true, pPair (divLo xl xh yl yh) (divHi xl xh yl yh), []⟩]) (G2 := [⟨none, none, 2, pI k⟩, ⟨none, none, 6, pB false⟩, ⟨none, none, 10, pI (makeE x1 x2)⟩, ⟨none, none, 8, pI (divE yl yh)⟩]) hI rfl rfl rfl [0, 1, 3, 7, 15, 31, 63, 127, 255] (by kernel_rfl) (by kernel_rfl) ?_ [0, 1, 2, 3, 4, 5, 6, 7, 8] [0, 1, 2, 10] rfl rfl fun a w hI => ?_
  · exact ⟨op_load 4 rfl rfl rfl rfl (by kernel_rfl) ty_Range rfl (.here 5 rfl),
      op_load 5 rfl rfl rfl rfl (by kernel_rfl) ty_Range rfl (.here 6 rfl),
      op_callB2 (fun _ _ => by kernel_rfl) (.tmp 5 rfl rfl) (.tmp 6 rfl rfl) (.here 7 rfl) (cr_div (j := 64) (k := 64) ⟨bxl, bxh⟩ ⟨byl, byh⟩ (by omega) oy),
      op_move (.tmp 7 rfl rfl) (.here 8 rfl),
      op_extract (.tmp 8 rfl rfl) ex2_0 (.here 9 rfl),
      op_extract (.tmp 8 rfl rfl) ex2_1 (.here 10 rfl),
      op_alloc 8 rfl rfl (by kernel_rfl) (by kernel_rfl) rfl rfl rfl zv_Range rfl rfl (by simp [NoU]) (fun w => pS_of (cells_pair0 w)),
      op_store 8 rfl rfl rfl rfl 0 rfl (by kernel_rfl) (by kernel_rfl) ty_Range (.tmp 9 rfl rfl) (fits_pair _ _),
      op_assign (.tmp 10 rfl rfl) (.here 11 rfl),
      trivial⟩
  refine seq_text (V1 := [⟨3, 3, none, none, .ptr, 24, 4, true, pS [⟨true, 2, pFrac n1 d1⟩, ⟨true, 2, pFrac n2 d2⟩], []⟩, ⟨4, 4, none, none, .ptr, 24, 4, true, pS [⟨true, 2, pFrac n3 d3⟩, ⟨true, 2, pFrac n4 d4⟩], []⟩, ⟨7, 7, none, none, .ptr, 30, 6, true, pPair (makeLo x1 x2) (makeHi x1 x2), []⟩, ⟨9, 9, none, none, .ptr, 39, 6, true, pRPair (makeLo x1 x2) (makeHi x1 x2), []⟩, ⟨11, 11, none, none, .ptr, 30, 6, true, pPair xl xh, []⟩, ⟨12, 12, none, none, .ptr, 30, 6, true, pPair yl yh, []⟩, ⟨13, 13, none, none, .ptr, 39, 6, true, pRPair xl xh, []⟩, ⟨14, 14, none, none, .ptr, 39, 6, true, pRPair yl yh, []⟩, ⟨15, 15, none, none, .ptr, 30, 6, true, pPair (divLo xl xh yl yh) (divHi xl xh yl yh), []⟩, ⟨16, 16, some 6, none, .ptr, 39, 6, true, pAny, [(7, pRPair (divLo xl xh yl yh) (divHi xl xh yl yh))]⟩]) (A1 := []) (G1 := [⟨none, none, 2, pI k⟩, ⟨none, none, 6, pB false⟩, ⟨none, some 8, 10, pI (makeE x1 x2)⟩, ⟨none, none, 8, pI (divE yl yh)⟩, ⟨some 0, none, 129, pRPair xl xh⟩, ⟨some 1, none, 130, pRPair yl yh⟩, ⟨some 2, none, 131, pTup2 (pRPair (divLo xl xh yl yh) (divHi xl xh yl yh)) (pI (divE yl yh))⟩, ⟨some 3, none, 128, pTup2 (pRPair (divLo xl xh yl yh) (divHi xl xh yl yh)) (pI (divE yl yh))⟩, ⟨some 4, none, 132, pRPair (divLo xl xh yl yh) (divHi xl xh yl yh)⟩, ⟨some 5, none, 133, pI (divE yl yh)⟩, ⟨some 8, none, 10, pI (divE yl yh)⟩]) (V2 := [⟨3, 3, none, none, .ptr, 24, 4, true, pS [⟨true, 2, pFrac n1 d1⟩, ⟨true, 2, pFrac n2 d2⟩], []⟩, ⟨4, 4, none, none, .ptr, 24, 4, true, pS [⟨true, 2, pFrac n3 d3⟩, ⟨true, 2, pFrac n4 d4⟩], []⟩, ⟨7, 7, none, none, .ptr, 30, 6, true, pPair (makeLo x1 x2) (makeHi x1 x2), []⟩, ⟨9, 9, none, none, .ptr, 39, 6, true, pRPair (makeLo x1 x2) (makeHi x1 x2), []⟩, ⟨11, 11, none, none, .ptr, 30, 6, true, pPair xl xh, []⟩, ⟨12, 12, none, none, .ptr, 30, 6, true, pPair yl yh, []⟩, ⟨13, 13, none, none, .ptr, 39, 6, true, pRPair xl xh, []⟩, ⟨14, 14, none, none, .ptr, 39, 6, true, pRPair yl yh, []⟩, ⟨15, 15, none, none, .ptr, 30, 6, true, pPair (divLo xl xh yl yh) (divHi xl xh yl yh), []⟩, ⟨16, 16, none, none, .ptr, 39, 6, true, pRPair (divLo xl xh yl yh) (divHi xl xh yl yh), []⟩]) (G2 := [⟨none, none, 2, pI k⟩, ⟨none, none, 6, pB false⟩, ⟨none, none, 8, pI (divE yl yh)⟩, ⟨none, none, 10, pI (divE yl yh)⟩]) hI rfl rfl rfl [0, 1, 3, 7, 15, 31, 63, 127, 255] (by kernel_rfl) (by kernel_rfl) ?_ [0, 1, 2, 3, 4, 5, 6, 7, 8, 9] [0, 1, 2, 9] rfl rfl fun a w hI => ?_
  · exact ⟨op_load 6 rfl rfl rfl rfl (by kernel_rfl) ty_S rfl (.here 4 rfl),
      op_load 7 rfl rfl rfl rfl (by kernel_rfl) ty_S rfl (.here 5 rfl),
      op_callB2 (fun _ _ => by kernel_rfl) (.tmp 4 rfl rfl) (.tmp 5 rfl rfl) (.here 6 rfl) (nr_div (j := 64) (k := 64) ⟨bxl, bxh⟩ ⟨byl, byh⟩ (by omega) oy),
      op_move (.tmp 6 rfl rfl) (.here 7 rfl),
      op_extract (.tmp 7 rfl rfl) ex2_0 (.here 8 rfl),
      op_extract (.tmp 7 rfl rfl) ex2_1 (.here 9 rfl),
      op_alloc 9 rfl rfl (by kernel_rfl) (by kernel_rfl) rfl rfl rfl zv_S rfl rfl (by simp [NoU]) (fun _ => trivial),
      op_store 9 rfl rfl rfl rfl 0 rfl (by kernel_rfl) (by kernel_rfl) ty_S (.tmp 8 rfl rfl) (fits_rpair _ _),
      op_assign (.tmp 9 rfl rfl) (.here 10 rfl),
      trivial⟩
  refine wp_seq ?_
  refine seq_text (V1 := [⟨3, 3, none, none, .ptr, 24, 4, true, pS [⟨true, 2, pFrac n1 d1⟩, ⟨true, 2, pFrac n2 d2⟩], []⟩, ⟨4, 4, none, none, .ptr, 24, 4, true, pS [⟨true, 2, pFrac n3 d3⟩, ⟨true, 2, pFrac n4 d4⟩], []⟩, ⟨7, 7, none, none, .ptr, 30, 6, true, pPair (makeLo x1 x2) (makeHi x1 x2), []⟩, ⟨9, 9, none, none, .ptr, 39, 6, true, pRPair (makeLo x1 x2) (makeHi x1 x2), []⟩, ⟨11, 11, none, none, .ptr, 30, 6, true, pPair xl xh, []⟩, ⟨12, 12, none, none, .ptr, 30, 6, true, pPair yl yh, []⟩, ⟨13, 13, none, none, .ptr, 39, 6, true, pRPair xl xh, []⟩, ⟨14, 14, none, none, .ptr, 39, 6, true, pRPair yl yh, []⟩, ⟨15, 15, none, none, .ptr, 30, 6, true, pPair (divLo xl xh yl yh) (divHi xl xh yl yh), []⟩, ⟨16, 16, none, none, .ptr, 39, 6, true, pRPair (divLo xl xh yl yh) (divHi xl xh yl yh), []⟩]) (A1 := []) (G1 := [⟨none, none, 2, pI k⟩, ⟨none, none, 6, pB false⟩, ⟨none, none, 8, pI (divE yl yh)⟩, ⟨none, none, 10, pI (divE yl yh)⟩, ⟨some 0, none, 134, pI (divE yl yh)⟩, ⟨some 1, none, 135, pI (divE yl yh)⟩, ⟨some 2, none, 136, pB false⟩, ⟨some 3, none, 137, pB false⟩, ⟨some 4, none, 138, pPair (divLo xl xh yl yh) (divHi xl xh yl yh)⟩, ⟨some 5, none, 139, pRPair (divLo xl xh yl yh) (divHi xl xh yl yh)⟩, ⟨some 6, none, 140, pB true⟩, ⟨some 7, none, 141, pB false⟩, ⟨some 8, none, 142, pB false⟩]) (V2 := [⟨3, 3, none, none, .ptr, 24, 4, true, pS [⟨true, 2, pFrac n1 d1⟩, ⟨true, 2, pFrac n2 d2⟩], []⟩, ⟨4, 4, none, none, .ptr, 24, 4, true, pS [⟨true, 2, pFrac n3 d3⟩, ⟨true, 2, pFrac n4 d4⟩], []⟩, ⟨7, 7, none, none, .ptr, 30, 6, true, pPair (makeLo x1 x2) (makeHi x1 x2), []⟩, ⟨9, 9, none, none, .ptr, 39, 6, true, pRPair (makeLo x1 x2) (makeHi x1 x2), []⟩, ⟨11, 11, none, none, .ptr, 30, 6, true, pPair xl xh, []⟩, ⟨12, 12, none, none, .ptr, 30, 6, true, pPair yl yh, []⟩, ⟨13, 13, none, none, .ptr, 39, 6, true, pRPair xl xh, []⟩, ⟨14, 14, none, none, .ptr, 39, 6, true, pRPair yl yh, []⟩, ⟨15, 15, none, none, .ptr, 30, 6, true, pPair (divLo xl xh yl yh) (divHi xl xh yl yh), []⟩, ⟨16, 16, none, none, .ptr, 39, 6, true, pRPair (divLo xl xh yl yh) (divHi xl xh yl yh), []⟩]) (G2 := [⟨none, none, 2, pI k⟩, ⟨none, none, 6, pB false⟩, ⟨none, none, 8, pI (divE yl yh)⟩, ⟨none, none, 10, pI (divE yl yh)⟩, ⟨none, none, 142, pB false⟩]) hI rfl rfl rfl [0, 1, 3, 7, 15, 31, 63, 127, 255] (by kernel_rfl) (by kernel_rfl) ?_ [0, 1, 2, 3, 4, 5, 6, 7, 8, 9] [0, 1, 2, 3, 12] rfl rfl fun a w hI => ?_
  · exact ⟨op_move (.tmp 2 rfl rfl) (.here 4 rfl),
      op_move (.tmp 3 rfl rfl) (.here 5 rfl),
      op_bin (v := .bool (((divE yl yh) != (divE yl yh)))) (.tmp 4 rfl rfl) (.tmp 5 rfl rfl) (fun _ => rfl) (.at_ 6 _ _ rfl (pB_eq (bne_self_eq_false _))),
      op_move (.tmp 6 rfl rfl) (.here 7 rfl),
      op_yes 7 rfl rfl (op_load 8 rfl rfl rfl rfl (by kernel_rfl) ty_Range rfl (.here 8 rfl)),
      op_yes 7 rfl rfl (op_load 9 rfl rfl rfl rfl (by kernel_rfl) ty_S rfl (.here 9 rfl)),
      op_yes 7 rfl rfl (op_callB2 (fun _ _ => by kernel_rfl) (.tmp 8 rfl rfl) (.tmp 9 rfl rfl) (.here 10 rfl) (cl_isrange (j := 128) ⟨B47, B48⟩ (by omega) rfl rfl)),
      op_yes 7 rfl rfl (op_not (.tmp 10 rfl rfl) (.here 11 rfl)),
      op_pick (b := false) (.tmp 7 rfl rfl) (fun h => by cases h) (fun _ => (.tmp 11 rfl rfl)) (.here 12 rfl),
      trivial⟩
  refine cond_no hI 4 rfl ?_
  refine wp_skip ?_
  refine then_of ?_
  refine seq_text (V1 := [⟨3, 3, none, none, .ptr, 24, 4, true, pS [⟨true, 2, pFrac n1 d1⟩, ⟨true, 2, pFrac n2 d2⟩], []⟩, ⟨4, 4, none, none, .ptr, 24, 4, true, pS [⟨true, 2, pFrac n3 d3⟩, ⟨true, 2, pFrac n4 d4⟩], []⟩, ⟨7, 7, none, none, .ptr, 30, 6, true, pPair (makeLo x1 x2) (makeHi x1 x2), []⟩, ⟨9, 9, none, none, .ptr, 39, 6, true, pRPair (makeLo x1 x2) (makeHi x1 x2), []⟩, ⟨11, 11, none, none, .ptr, 30, 6, true, pPair xl xh, []⟩, ⟨12, 12, none, none, .ptr, 30, 6, true, pPair yl yh, []⟩, ⟨13, 13, none, none, .ptr, 39, 6, true, pRPair xl xh, []⟩, ⟨14, 14, none, none, .ptr, 39, 6, true, pRPair yl yh, []⟩, ⟨15, 15, none, none, .ptr, 30, 6, true, pPair (divLo xl xh yl yh) (divHi xl xh yl yh), [(6, pPair (meetLo xl xh yl yh) (meetHi xl xh yl yh))]⟩, ⟨16, 16, none, none, .ptr, 39, 6, true, pRPair (divLo xl xh yl yh) (divHi xl xh yl yh), []⟩]) (A1 := []) (G1 := [⟨none, none, 2, pI k⟩, ⟨none, none, 6, pB false⟩, ⟨none, some 7, 8, pI (divE yl yh)⟩, ⟨none, none, 10, pI (divE yl yh)⟩, ⟨none, none, 142, pB false⟩, ⟨some 0, none, 144, pPair xl xh⟩, ⟨some 1, none, 145, pPair yl yh⟩, ⟨some 2, none, 146, pTup2 (pPair (meetLo xl xh yl yh) (meetHi xl xh yl yh)) (pI (meetE xl xh yl yh))⟩, ⟨some 3, none, 143, pTup2 (pPair (meetLo xl xh yl yh) (meetHi xl xh yl yh)) (pI (meetE xl xh yl yh))⟩, ⟨some 4, none, 147, pPair (meetLo xl xh yl yh) (meetHi xl xh yl yh)⟩, ⟨some 5, none, 148, pI (meetE xl xh yl yh)⟩, ⟨some 7, none, 8, pI (meetE xl xh yl yh)⟩]) (V2 := [⟨3, 3, none, none, .ptr, 24, 4, true, pS [⟨true, 2, pFrac n1 d1⟩, ⟨true, 2, pFrac n2 d2⟩], []⟩, ⟨4, 4, none, none, .ptr, 24, 4, true, pS [⟨true, 2, pFrac n3 d3⟩, ⟨true, 2, pFrac n4 d4⟩], []⟩, ⟨7, 7, none, none, .ptr, 30, 6, true, pPair (makeLo x1 x2) (makeHi x1 x2), []⟩, ⟨9, 9, none, none, .ptr, 39, 6, true, pRPair (makeLo x1 x2) (makeHi x1 x2), []⟩, ⟨11, 11, none, none, .ptr, 30, 6, true, pPair xl xh, []⟩, ⟨12, 12, none, none, .ptr, 30, 6, true, pPair yl yh, []⟩, ⟨13, 13, none, none, .ptr, 39, 6, true, pRPair xl xh, []⟩, ⟨14, 14, none, none, .ptr, 39, 6, true, pRPair yl yh, []⟩, ⟨15, 15, none, none, .ptr, 30, 6, true, pPair (meetLo xl xh yl yh) (meetHi xl xh yl yh), []⟩, ⟨16, 16, none, none, .ptr, 39, 6, true, pRPair (divLo xl xh yl yh) (divHi xl xh yl yh), []⟩]) (G2 := [⟨none, none, 2, pI k⟩, ⟨none, none, 6, pB false⟩, ⟨none, none, 10, pI (divE yl yh)⟩, ⟨none, none, 8, pI (meetE xl xh yl yh)⟩]) hI rfl rfl rfl [0, 1, 3, 7, 15, 31, 63, 127] (by kernel_rfl) (by kernel_rfl) ?_ [0, 1, 2, 3, 4, 5, 6, 7, 8, 9] [0, 1, 2, 10] rfl rfl fun a w hI => ?_
  · exact ⟨op_load 4 rfl rfl rfl rfl (by kernel_rfl) ty_Range rfl (.here 5 rfl),
      op_load 5 rfl rfl rfl rfl (by kernel_rfl) ty_Range rfl (.here 6 rfl),
      op_callB2 (fun _ _ => by kernel_rfl) (.tmp 5 rfl rfl) (.tmp 6 rfl rfl) (.here 7 rfl) (cr_meet (j := 64) ⟨bxl, bxh⟩ ⟨byl, byh⟩ (by omega)),
      op_move (.tmp 7 rfl rfl) (.here 8 rfl),
      op_extract (.tmp 8 rfl rfl) ex2_0 (.here 9 rfl),
      op_extract (.tmp 8 rfl rfl) ex2_1 (.here 10 rfl),
      op_store 8 rfl rfl rfl rfl 0 rfl (by kernel_rfl) (by kernel_rfl) ty_Range (.tmp 9 rfl rfl) (fits_pair _ _),
      op_assign (.tmp 10 rfl rfl) (.here 11 rfl),
      trivial⟩
  refine seq_text (V1 := [⟨3, 3, none, none, .ptr, 24, 4, true, pS [⟨true, 2, pFrac n1 d1⟩, ⟨true, 2, pFrac n2 d2⟩], []⟩, ⟨4, 4, none, none, .ptr, 24, 4, true, pS [⟨true, 2, pFrac n3 d3⟩, ⟨true, 2, pFrac n4 d4⟩], []⟩, ⟨7, 7, none, none, .ptr, 30, 6, true, pPair (makeLo x1 x2) (makeHi x1 x2), []⟩, ⟨9, 9, none, none, .ptr, 39, 6, true, pRPair (makeLo x1 x2) (makeHi x1 x2), []⟩, ⟨11, 11, none, none, .ptr, 30, 6, true, pPair xl xh, []⟩, ⟨12, 12, none, none, .ptr, 30, 6, true, pPair yl yh, []⟩, ⟨13, 13, none, none, .ptr, 39, 6, true, pRPair xl xh, []⟩, ⟨14, 14, none, none, .ptr, 39, 6, true, pRPair yl yh, []⟩, ⟨15, 15, none, none, .ptr, 30, 6, true, pPair (meetLo xl xh yl yh) (meetHi xl xh yl yh), []⟩, ⟨16, 16, none, none, .ptr, 39, 6, true, pRPair (divLo xl xh yl yh) (divHi xl xh yl yh), [(6, pRPair (meetLo xl xh yl yh) (meetHi xl xh yl yh))]⟩]) (A1 := []) (G1 := [⟨none, none, 2, pI k⟩, ⟨none, none, 6, pB false⟩, ⟨none, some 7, 10, pI (divE yl yh)⟩, ⟨none, none, 8, pI (meetE xl xh yl yh)⟩, ⟨some 0, none, 150, pRPair xl xh⟩, ⟨some 1, none, 151, pRPair yl yh⟩, ⟨some 2, none, 152, pTup2 (pRPair (meetLo xl xh yl yh) (meetHi xl xh yl yh)) (pI (meetE xl xh yl yh))⟩, ⟨some 3, none, 149, pTup2 (pRPair (meetLo xl xh yl yh) (meetHi xl xh yl yh)) (pI (meetE xl xh yl yh))⟩, ⟨some 4, none, 153, pRPair (meetLo xl xh yl yh) (meetHi xl xh yl yh)⟩, ⟨some 5, none, 154, pI (meetE xl xh yl yh)⟩, ⟨some 7, none, 10, pI (meetE xl xh yl yh)⟩]) (V2 := [⟨3, 3, none, none, .ptr, 24, 4, true, pS [⟨true, 2, pFrac n1 d1⟩, ⟨true, 2, pFrac n2 d2⟩], []⟩, ⟨4, 4, none, none, .ptr, 24, 4, true, pS [⟨true, 2, pFrac n3 d3⟩, ⟨true, 2, pFrac n4 d4⟩], []⟩, ⟨7, 7, none, none, .ptr, 30, 6, true, pPair (makeLo x1 x2) (makeHi x1 x2), []⟩, ⟨9, 9, none, none, .ptr, 39, 6, true, pRPair (makeLo x1 x2) (makeHi x1 x2), []⟩, ⟨11, 11, none, none, .ptr, 30, 6, true, pPair xl xh, []⟩, ⟨12, 12, none, none, .ptr, 30, 6, true, pPair yl yh, []⟩, ⟨13, 13, none, none, .ptr, 39, 6, true, pRPair xl xh, []⟩, ⟨14, 14, none, none, .ptr, 39, 6, true, pRPair yl yh, []⟩, ⟨15, 15, none, none, .ptr, 30, 6, true, pPair (meetLo xl xh yl yh) (meetHi xl xh yl yh), []⟩, ⟨16, 16, none, none, .ptr, 39, 6, true, pRPair (meetLo xl xh yl yh) (meetHi xl xh yl yh), []⟩]) (G2 := [⟨none, none, 2, pI k⟩, ⟨none, none, 6, pB false⟩, ⟨none, none, 8, pI (meetE xl xh yl yh)⟩, ⟨none, none, 10, pI (meetE xl xh yl yh)⟩]) hI rfl rfl rfl [0, 1, 3, 7, 15, 31, 63, 127] (by kernel_rfl) (by kernel_rfl) ?_ [0, 1, 2, 3, 4, 5, 6, 7, 8, 9] [0, 1, 2, 9] rfl rfl fun a w hI => ?_
  · exact ⟨op_load 6 rfl rfl rfl rfl (by kernel_rfl) ty_S rfl (.here 4 rfl),
      op_load 7 rfl rfl rfl rfl (by kernel_rfl) ty_S rfl (.here 5 rfl),
      op_callB2 (fun _ _ => by kernel_rfl) (.tmp 4 rfl rfl) (.tmp 5 rfl rfl) (.here 6 rfl) (nr_meet (j := 64) ⟨bxl, bxh⟩ ⟨byl, byh⟩ (by omega)),
      op_move (.tmp 6 rfl rfl) (.here 7 rfl),
      op_extract (.tmp 7 rfl rfl) ex2_0 (.here 8 rfl),
      op_extract (.tmp 7 rfl rfl) ex2_1 (.here 9 rfl),
      op_store 9 rfl rfl rfl rfl 0 rfl (by kernel_rfl) (by kernel_rfl) ty_S (.tmp 8 rfl rfl) (fits_rpair _ _),
      op_assign (.tmp 9 rfl rfl) (.here 10 rfl),
      trivial⟩
  refine wp_seq ?_
  refine seq_text (V1 := [⟨3, 3, none, none, .ptr, 24, 4, true, pS [⟨true, 2, pFrac n1 d1⟩, ⟨true, 2, pFrac n2 d2⟩], []⟩, ⟨4, 4, none, none, .ptr, 24, 4, true, pS [⟨true, 2, pFrac n3 d3⟩, ⟨true, 2, pFrac n4 d4⟩], []⟩, ⟨7, 7, none, none, .ptr, 30, 6, true, pPair (makeLo x1 x2) (makeHi x1 x2), []⟩, ⟨9, 9, none, none, .ptr, 39, 6, true, pRPair (makeLo x1 x2) (makeHi x1 x2), []⟩, ⟨11, 11, none, none, .ptr, 30, 6, true, pPair xl xh, []⟩, ⟨12, 12, none, none, .ptr, 30, 6, true, pPair yl yh, []⟩, ⟨13, 13, none, none, .ptr, 39, 6, true, pRPair xl xh, []⟩, ⟨14, 14, none, none, .ptr, 39, 6, true, pRPair yl yh, []⟩, ⟨15, 15, none, none, .ptr, 30, 6, true, pPair (meetLo xl xh yl yh) (meetHi xl xh yl yh), []⟩, ⟨16, 16, none, none, .ptr, 39, 6, true, pRPair (meetLo xl xh yl yh) (meetHi xl xh yl yh), []⟩]) (A1 := []) (G1 := [⟨none, none, 2, pI k⟩, ⟨none, none, 6, pB false⟩, ⟨none, none, 8, pI (meetE xl xh yl yh)⟩, ⟨none, none, 10, pI (meetE xl xh yl yh)⟩, ⟨some 0, none, 155, pI (meetE xl xh yl yh)⟩, ⟨some 1, none, 156, pI (meetE xl xh yl yh)⟩, ⟨some 2, none, 157, pB false⟩, ⟨some 3, none, 158, pB false⟩, ⟨some 4, none, 159, pPair (meetLo xl xh yl yh) (meetHi xl xh yl yh)⟩, ⟨some 5, none, 160, pRPair (meetLo xl xh yl yh) (meetHi xl xh yl yh)⟩, ⟨some 6, none, 161, pB true⟩, ⟨some 7, none, 162, pB false⟩, ⟨some 8, none, 163, pB false⟩]) (V2 := [⟨3, 3, none, none, .ptr, 24, 4, true, pS [⟨true, 2, pFrac n1 d1⟩, ⟨true, 2, pFrac n2 d2⟩], []⟩, ⟨4, 4, none, none, .ptr, 24, 4, true, pS [⟨true, 2, pFrac n3 d3⟩, ⟨true, 2, pFrac n4 d4⟩], []⟩, ⟨7, 7, none, none, .ptr, 30, 6, true, pPair (makeLo x1 x2) (makeHi x1 x2), []⟩, ⟨9, 9, none, none, .ptr, 39, 6, true, pRPair (makeLo x1 x2) (makeHi x1 x2), []⟩, ⟨11, 11, none, none, .ptr, 30, 6, true, pPair xl xh, []⟩, ⟨12, 12, none, none, .ptr, 30, 6, true, pPair yl yh, []⟩, ⟨13, 13, none, none, .ptr, 39, 6, true, pRPair xl xh, []⟩, ⟨14, 14, none, none, .ptr, 39, 6, true, pRPair yl yh, []⟩, ⟨15, 15, none, none, .ptr, 30, 6, true, pPair (meetLo xl xh yl yh) (meetHi xl xh yl yh), []⟩, ⟨16, 16, none, none, .ptr, 39, 6, true, pRPair (meetLo xl xh yl yh) (meetHi xl xh yl yh), []⟩]) (G2 := [⟨none, none, 2, pI k⟩, ⟨none, none, 6, pB false⟩, ⟨none, none, 163, pB false⟩]) hI rfl rfl rfl [0, 1, 3, 7, 15, 31, 63, 127, 255] (by kernel_rfl) (by kernel_rfl) ?_ [0, 1, 2, 3, 4, 5, 6, 7, 8, 9] [0, 1, 12] rfl rfl fun a w hI => ?_
  · exact ⟨op_move (.tmp 2 rfl rfl) (.here 4 rfl),
      op_move (.tmp 3 rfl rfl) (.here 5 rfl),
      op_bin (v := .bool (((meetE xl xh yl yh) != (meetE xl xh yl yh)))) (.tmp 4 rfl rfl) (.tmp 5 rfl rfl) (fun _ => rfl) (.at_ 6 _ _ rfl (pB_eq (bne_self_eq_false _))),
      op_move (.tmp 6 rfl rfl) (.here 7 rfl),
      op_yes 7 rfl rfl (op_load 8 rfl rfl rfl rfl (by kernel_rfl) ty_Range rfl (.here 8 rfl)),
      op_yes 7 rfl rfl (op_load 9 rfl rfl rfl rfl (by kernel_rfl) ty_S rfl (.here 9 rfl)),
      op_yes 7 rfl rfl (op_callB2 (fun _ _ => by kernel_rfl) (.tmp 8 rfl rfl) (.tmp 9 rfl rfl) (.here 10 rfl) (cl_isrange (j := 64) ⟨B55, B56⟩ (by omega) rfl rfl)),
      op_yes 7 rfl rfl (op_not (.tmp 10 rfl rfl) (.here 11 rfl)),
      op_pick (b := false) (.tmp 7 rfl rfl) (fun h => by cases h) (fun _ => (.tmp 11 rfl rfl)) (.here 12 rfl),
      trivial⟩
  refine cond_no hI 2 rfl ?_
  refine wp_skip ?_
  refine then_of ?_
  refine seq_drawn (V1 := [⟨3, 3, none, none, .ptr, 24, 4, true, pS [⟨true, 2, pFrac n1 d1⟩, ⟨true, 2, pFrac n2 d2⟩], []⟩, ⟨4, 4, none, none, .ptr, 24, 4, true, pS [⟨true, 2, pFrac n3 d3⟩, ⟨true, 2, pFrac n4 d4⟩], []⟩, ⟨7, 7, none, none, .ptr, 30, 6, true, pPair (makeLo x1 x2) (makeHi x1 x2), []⟩, ⟨9, 9, none, none, .ptr, 39, 6, true, pRPair (makeLo x1 x2) (makeHi x1 x2), []⟩, ⟨11, 11, none, none, .ptr, 30, 6, true, pPair xl xh, []⟩, ⟨12, 12, none, none, .ptr, 30, 6, true, pPair yl yh, []⟩, ⟨13, 13, none, none, .ptr, 39, 6, true, pRPair xl xh, []⟩, ⟨14, 14, none, none, .ptr, 39, 6, true, pRPair yl yh, []⟩, ⟨15, 15, none, none, .ptr, 30, 6, true, pPair (meetLo xl xh yl yh) (meetHi xl xh yl yh), []⟩, ⟨16, 16, none, none, .ptr, 39, 6, true, pRPair (meetLo xl xh yl yh) (meetHi xl xh yl yh), []⟩]) (A1 := [⟨some 27, 191, 4, 0, True⟩, ⟨some 32, 196, 4, 0, True⟩]) (G1 := [⟨none, none, 2, pI k⟩, ⟨none, some 50, 6, pB false⟩, ⟨none, none, 163, pB false⟩, ⟨some 0, none, 164, pPair xl xh⟩, ⟨some 1, none, 165, pI k⟩, ⟨some 2, none, 166, pPair (downR xl k) (-(downR (-xh) k))⟩, ⟨some 3, none, 167, pRPair xl xh⟩, ⟨some 4, none, 168, pI k⟩, ⟨some 5, none, 169, pRPair (downR xl k) (-(downR (-xh) k))⟩, ⟨some 6, none, 170, pB true⟩, ⟨some 7, none, 171, pB true⟩, ⟨some 8, none, 172, pPair xl xh⟩, ⟨some 9, none, 173, pPair yl yh⟩, ⟨some 10, none, 174, pPair (min4 xl xh yl yh) (max4 xl xh yl yh)⟩, ⟨some 11, none, 175, pRPair xl xh⟩, ⟨some 12, none, 176, pRPair yl yh⟩, ⟨some 13, none, 177, pRPair (min4 xl xh yl yh) (max4 xl xh yl yh)⟩, ⟨some 14, none, 178, pB true⟩, ⟨some 15, none, 179, pB true⟩, ⟨some 16, none, 180, pB true⟩, ⟨some 17, none, 181, pPair xl xh⟩, ⟨some 18, none, 182, pPair yl yh⟩, ⟨some 19, none, 183, pB ((decide (yl ≤ xl) && decide (xl ≤ yh)) && (decide (yl ≤ xh) && decide (xh ≤ yh)))⟩, ⟨some 20, none, 184, pRPair xl xh⟩, ⟨some 21, none, 185, pRPair yl yh⟩, ⟨some 22, none, 186, pB ((decide (yl ≤ xl) && decide (xl ≤ yh)) && (decide (yl ≤ xh) && decide (xh ≤ yh)))⟩, ⟨some 23, none, 187, pB true⟩, ⟨some 24, none, 188, pB true⟩, ⟨some 25, none, 189, pB true⟩, ⟨some 26, none, 190, pPair xl xh⟩, ⟨some 28, none, 192, pFrac n3 d3⟩, ⟨some 29, none, 193, pRat x3⟩, ⟨some 30, none, 194, pB (decide (xl ≤ x3) && decide (x3 ≤ xh))⟩, ⟨some 31, none, 195, pRPair xl xh⟩, ⟨some 33, none, 197, pFrac n3 d3⟩, ⟨some 34, none, 198, pRef x3⟩, ⟨some 35, none, 199, pB (decide (xl ≤ x3) && decide (x3 ≤ xh))⟩, ⟨some 36, none, 200, pB true⟩, ⟨some 37, none, 201, pB true⟩, ⟨some 38, none, 202, pB true⟩, ⟨some 39, none, 203, pPair xl xh⟩, ⟨some 40, none, 204, pPair yl yh⟩, ⟨some 41, none, 205, pB (decide (xh < yl))⟩, ⟨some 42, none, 206, pRPair xl xh⟩, ⟨some 43, none, 207, pRPair yl yh⟩, ⟨some 44, none, 208, pB (decide (xh < yl))⟩, ⟨some 45, none, 209, pB true⟩, ⟨some 46, none, 210, pB true⟩, ⟨some 47, none, 211, pB true⟩, ⟨some 48, none, 212, pB true⟩, ⟨some 49, none, 213, pB true⟩, ⟨some 50, none, 6, pB true⟩]) (V2 := [⟨3, 3, none, none, .ptr, 24, 4, true, pS [⟨true, 2, pFrac n1 d1⟩, ⟨true, 2, pFrac n2 d2⟩], []⟩, ⟨4, 4, none, none, .ptr, 24, 4, true, pS [⟨true, 2, pFrac n3 d3⟩, ⟨true, 2, pFrac n4 d4⟩], []⟩, ⟨7, 7, none, none, .ptr, 30, 6, true, pPair (makeLo x1 x2) (makeHi x1 x2), []⟩, ⟨9, 9, none, none, .ptr, 39, 6, true, pRPair (makeLo x1 x2) (makeHi x1 x2), []⟩, ⟨11, 11, none, none, .ptr, 30, 6, true, pPair xl xh, []⟩, ⟨12, 12, none, none, .ptr, 30, 6, true, pPair yl yh, []⟩, ⟨13, 13, none, none, .ptr, 39, 6, true, pRPair xl xh, []⟩, ⟨14, 14, none, none, .ptr, 39, 6, true, pRPair yl yh, []⟩, ⟨15, 15, none, none, .ptr, 30, 6, true, pPair (meetLo xl xh yl yh) (meetHi xl xh yl yh), []⟩, ⟨16, 16, none, none, .ptr, 39, 6, true, pRPair (meetLo xl xh yl yh) (meetHi xl xh yl yh), []⟩]) (G2 := [⟨none, none, 6, pB true⟩]) hI rfl rfl rfl [0, 0, 3, 0, 0, 31, 63, 127, 255, 255, 1023, 255, 255, 8191, 16383, 32767, 65535, 131071, 131071, 524287, 131071, 131071, 4194303, 8388607, 16777215, 33554431, 67108863, 67108863, 201326591, 469762047, 1073741823, 67108863, 67108863, 4362076159, 15032385535, 34359738367, 68719476735, 137438953471, 274877906943, 549755813887, 549755813887, 2199023255551, 549755813887, 549755813887, 17592186044415, 35184372088831, 70368744177663, 140737488355327, 281474976710655, 562949953421311, 1125899906842623] (by kernel_rfl) (by kernel_rfl) (by kernel_rfl) (by kernel_rfl) ?_ [0, 1, 2, 3, 4, 5, 6, 7, 8, 9] [50] rfl rfl fun a w hI => ?_
  · exact ⟨op_load 4 rfl rfl rfl rfl (by kernel_rfl) ty_Range rfl (.here 3 rfl),
      op_move (.tmp 0 rfl rfl) (.here 4 rfl),
      op_callB2 (fun _ _ => by kernel_rfl) (.tmp 3 rfl rfl) (.tmp 4 rfl rfl) (.here 5 rfl) (cr_round (j := 64) ⟨bxl, bxh⟩ _ (by omega)),
      op_load 6 rfl rfl rfl rfl (by kernel_rfl) ty_S rfl (.here 6 rfl),
      op_move (.tmp 0 rfl rfl) (.here 7 rfl),
      op_callB2 (fun _ _ => by kernel_rfl) (.tmp 6 rfl rfl) (.tmp 7 rfl rfl) (.here 8 rfl) (nr_round (j := 64) ⟨bxl, bxh⟩ _ (by omega)),
      op_callB2 (fun _ _ => by kernel_rfl) (.tmp 5 rfl rfl) (.tmp 8 rfl rfl) (.here 9 rfl) (cl_isrange (j := 364) ⟨B59, B60⟩ (by omega) rfl rfl),
      op_move (.tmp 9 rfl rfl) (.here 10 rfl),
      op_yes 10 rfl rfl (op_load 4 rfl rfl rfl rfl (by kernel_rfl) ty_Range rfl (.here 11 rfl)),
      op_yes 10 rfl rfl (op_load 5 rfl rfl rfl rfl (by kernel_rfl) ty_Range rfl (.here 12 rfl)),
      op_yes 10 rfl rfl (op_callB2 (fun _ _ => by kernel_rfl) (.tmp 11 rfl rfl) (.tmp 12 rfl rfl) (.here 13 rfl) (cr_hull (j := 64) ⟨bxl, bxh⟩ ⟨byl, byh⟩ (by omega))),
      op_yes 10 rfl rfl (op_load 6 rfl rfl rfl rfl (by kernel_rfl) ty_S rfl (.here 14 rfl)),
      op_yes 10 rfl rfl (op_load 7 rfl rfl rfl rfl (by kernel_rfl) ty_S rfl (.here 15 rfl)),
      op_yes 10 rfl rfl (op_callB2 (fun _ _ => by kernel_rfl) (.tmp 14 rfl rfl) (.tmp 15 rfl rfl) (.here 16 rfl) (cb_conv2 (nr_hull (j := 64) ⟨bxl, bxh⟩ ⟨byl, byh⟩ (by omega)) (pRefPair_eq (hull_lo ox oy) (hull_hi ox oy)))),
      op_yes 10 rfl rfl (op_callB2 (fun _ _ => by kernel_rfl) (.tmp 13 rfl rfl) (.tmp 16 rfl rfl) (.here 17 rfl) (cl_isrange (j := 64) ⟨B63, B64⟩ (by omega) rfl rfl)),
      op_pick (b := true) (.tmp 10 rfl rfl) (fun _ => (.tmp 17 rfl rfl)) (fun h => by cases h) (.here 18 rfl),
      op_move (.tmp 18 rfl rfl) (.here 19 rfl),
      op_yes 19 rfl rfl (op_load 4 rfl rfl rfl rfl (by kernel_rfl) ty_Range rfl (.here 20 rfl)),
      op_yes 19 rfl rfl (op_load 5 rfl rfl rfl rfl (by kernel_rfl) ty_Range rfl (.here 21 rfl)),
      op_yes 19 rfl rfl (op_callB2 (fun _ _ => by kernel_rfl) (.tmp 20 rfl rfl) (.tmp 21 rfl rfl) (.here 22 rfl) (cr_in (j := 64) (k := 64) ⟨bxl, bxh⟩ ⟨byl, byh⟩ (by omega))),
      op_yes 19 rfl rfl (op_load 6 rfl rfl rfl rfl (by kernel_rfl) ty_S rfl (.here 23 rfl)),
      op_yes 19 rfl rfl (op_load 7 rfl rfl rfl rfl (by kernel_rfl) ty_S rfl (.here 24 rfl)),
      op_yes 19 rfl rfl (op_callB2 (fun _ _ => by kernel_rfl) (.tmp 23 rfl rfl) (.tmp 24 rfl rfl) (.here 25 rfl) (nr_in (j := 64) (k := 64) ⟨bxl, bxh⟩ ⟨byl, byh⟩ (by omega))),
      op_yes 19 rfl rfl (op_bin_bool (v := .bool (((decide (yl ≤ xl) && decide (xl ≤ yh)) && (decide (yl ≤ xh) && decide (xh ≤ yh))) == ((decide (yl ≤ xl) && decide (xl ≤ yh)) && (decide (yl ≤ xh) && decide (xh ≤ yh))))) (.tmp 22 rfl rfl) (.tmp 25 rfl rfl) (fun _ => by kernel_rfl) (.at_ 26 _ _ rfl (pB_eq (beq_self_eq_true _)))),
      op_pick (b := true) (.tmp 19 rfl rfl) (fun _ => (.tmp 26 rfl rfl)) (fun h => by cases h) (.here 27 rfl),
      op_move (.tmp 27 rfl rfl) (.here 28 rfl),
      op_yes 28 rfl rfl (op_load 4 rfl rfl rfl rfl (by kernel_rfl) ty_Range rfl (.here 29 rfl)),
      op_yes 28 rfl rfl (op_index 1 rfl rfl rfl 0 rfl rfl rfl rfl (.inl ⟨rfl, rfl⟩) rfl (by kernel_rfl) (.const _) (fun _ _ => by kernel_rfl)),
      op_yes 28 rfl rfl (op_loadAl 1 rfl 0 rfl rfl rfl rfl rfl trivial rfl rfl (by kernel_rfl) ty_Frac rfl rfl (fd_get (fs := [⟨true, 2, pFrac n3 d3⟩, ⟨true, 2, pFrac n4 d4⟩]) 0 (f := ⟨true, 2, pFrac n3 d3⟩) rfl (off := 0) rfl) (.here 30 rfl)),
      op_yes 28 rfl rfl (op_call1 (fun _ _ => by kernel_rfl) (numlike_rat _) (.tmp 30 rfl rfl) (.here 31 rfl) (c_of e3 f3)),
      op_yes 28 rfl rfl (op_callB2 (fun _ _ => by kernel_rfl) (.tmp 29 rfl rfl) (.tmp 31 rfl rfl) (.here 32 rfl) (cr_has (j := 64) (k := 64) ⟨bxl, bxh⟩ B67 (by omega))),
      op_yes 28 rfl rfl (op_load 6 rfl rfl rfl rfl (by kernel_rfl) ty_S rfl (.here 33 rfl)),
      op_yes 28 rfl rfl (op_index 1 rfl rfl rfl 1 rfl rfl rfl rfl (.inl ⟨rfl, rfl⟩) rfl (by kernel_rfl) (.const _) (fun _ _ => by kernel_rfl)),
      op_yes 28 rfl rfl (op_loadAl 1 rfl 1 rfl rfl rfl rfl rfl trivial rfl rfl (by kernel_rfl) ty_Frac rfl rfl (fd_get (fs := [⟨true, 2, pFrac n3 d3⟩, ⟨true, 2, pFrac n4 d4⟩]) 0 (f := ⟨true, 2, pFrac n3 d3⟩) rfl (off := 0) rfl) (.here 34 rfl)),
      op_yes 28 rfl rfl (op_call1 (fun _ _ => by kernel_rfl) (numlike_ref _) (.tmp 34 rfl rfl) (.here 35 rfl) (cn_of e3 f3)),
      op_yes 28 rfl rfl (op_callB2 (fun _ _ => by kernel_rfl) (.tmp 33 rfl rfl) (.tmp 35 rfl rfl) (.here 36 rfl) (nr_has (j := 64) (k := 64) ⟨bxl, bxh⟩ B68 (by omega))),
      op_yes 28 rfl rfl (op_bin_bool (v := .bool ((decide (xl ≤ x3) && decide (x3 ≤ xh)) == (decide (xl ≤ x3) && decide (x3 ≤ xh)))) (.tmp 32 rfl rfl) (.tmp 36 rfl rfl) (fun _ => by kernel_rfl) (.at_ 37 _ _ rfl (pB_eq (beq_self_eq_true _)))),
      op_pick (b := true) (.tmp 28 rfl rfl) (fun _ => (.tmp 37 rfl rfl)) (fun h => by cases h) (.here 38 rfl),
      op_move (.tmp 38 rfl rfl) (.here 39 rfl),
      op_yes 39 rfl rfl (op_load 4 rfl rfl rfl rfl (by kernel_rfl) ty_Range rfl (.here 40 rfl)),
      op_yes 39 rfl rfl (op_load 5 rfl rfl rfl rfl (by kernel_rfl) ty_Range rfl (.here 41 rfl)),
      op_yes 39 rfl rfl (op_callB2 (fun _ _ => by kernel_rfl) (.tmp 40 rfl rfl) (.tmp 41 rfl rfl) (.here 42 rfl) (cr_before (j := 64) (k := 64) ⟨bxl, bxh⟩ ⟨byl, byh⟩ (by omega))),
      op_yes 39 rfl rfl (op_load 6 rfl rfl rfl rfl (by kernel_rfl) ty_S rfl (.here 43 rfl)),
      op_yes 39 rfl rfl (op_load 7 rfl rfl rfl rfl (by kernel_rfl) ty_S rfl (.here 44 rfl)),
      op_yes 39 rfl rfl (op_callB2 (fun _ _ => by kernel_rfl) (.tmp 43 rfl rfl) (.tmp 44 rfl rfl) (.here 45 rfl) (nr_before (j := 64) (k := 64) ⟨bxl, bxh⟩ ⟨byl, byh⟩ (by omega))),
      op_yes 39 rfl rfl (op_bin_bool (v := .bool ((decide (xh < yl)) == (decide (xh < yl)))) (.tmp 42 rfl rfl) (.tmp 45 rfl rfl) (fun _ => by kernel_rfl) (.at_ 46 _ _ rfl (pB_eq (beq_self_eq_true _)))),
      op_pick (b := true) (.tmp 39 rfl rfl) (fun _ => (.tmp 46 rfl rfl)) (fun h => by cases h) (.here 47 rfl),
      op_move (.tmp 47 rfl rfl) (.here 48 rfl),
      op_yes 48 rfl rfl (op_call0 (fun _ _ => by kernel_rfl) (numlike_eq _)  (.here 49 rfl) (c_awake)),
      op_pick (b := true) (.tmp 48 rfl rfl) (fun _ => (.tmp 49 rfl rfl)) (fun h => by cases h) (.here 50 rfl),
      op_assign (.tmp 50 rfl rfl) (.here 51 rfl),
      trivial⟩
  refine wp_ret ?_
  exact fin1 hI rfl (.tmp 0 rfl)
theorem ranges_law (W : World) (n1 d1 n2 d2 n3 d3 n4 d4 k : Int) (h : FracOk n1 d1 ∧ FracOk n2 d2 ∧ FracOk n3 d3 ∧ FracOk n4 d4) :
    Calls Tryz.prog 3 #[.agg #[.int .i64 n1, .int .i64 d1, .int .i64 n2, .int .i64 d2], .agg #[.int .i64 n3, .int .i64 d3, .int .i64 n4, .int .i64 d4], .int .i64 k] W fun e w' => e = .returned (.bool true) ∧ Below W.heap.size W w' := by
  obtain ⟨f1, f2, f3, f4⟩ := h
  have b1 := bd_ok f1
  have b2 := bd_ok f2
  have b3 := bd_ok f3
  have b4 := bd_ok f4
  exact law_true (ranges_sem rfl f1 rfl f2 rfl f3 rfl f4 rfl rfl rfl rfl (bd_min4 b1 b1 b2 b2) (bd_max4 b1 b1 b2 b2) (bd_min4 b3 b3 b4 b4) (bd_max4 b3 b3 b4 b4) (min4_le_max4 _ _ _ _) (min4_le_max4 _ _ _ _)
    _ W _ _ _ (mid_none W) (fun w' _ => frac2_of n1 d1 n2 d2 w') (fun w' _ => frac2_of n3 d3 n4 d4 w') (fun _ _ => rfl))
end Wx
