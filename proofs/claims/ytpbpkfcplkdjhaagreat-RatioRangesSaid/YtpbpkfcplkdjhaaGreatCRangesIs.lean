import Derived.Handy
import Derived.KernelRfl
import Derived.Test.YtpbpkfcplkdjhaaGreatProg
import Derived.Test.YtpbpkfcplkdjhaaGreatJRanges0
import Derived.Test.YtpbpkfcplkdjhaaGreatJRanges1
import Derived.Test.YtpbpkfcplkdjhaaGreatCRat1
import Derived.Test.YtpbpkfcplkdjhaaGreatJRanges10
import Derived.Test.YtpbpkfcplkdjhaaGreatInv
import Derived.Test.YtpbpkfcplkdjhaaGreatJRanges15
import Derived.Test.YtpbpkfcplkdjhaaGreatJRanges22
import Derived.Test.YtpbpkfcplkdjhaaGreatCSem
import Derived.Test.YtpbpkfcplkdjhaaGreatCSemOps
import Derived.Test.YtpbpkfcplkdjhaaGreatCSemMem
import Derived.Test.YtpbpkfcplkdjhaaGreatCSemCode
import Derived.Test.YtpbpkfcplkdjhaaGreatJRanges27
import Derived.Test.YtpbpkfcplkdjhaaGreatCSemRow
import Derived.Test.YtpbpkfcplkdjhaaGreatJRanges29
import Derived.Test.YtpbpkfcplkdjhaaGreatJRanges40
import Derived.Test.YtpbpkfcplkdjhaaGreatJRanges41
import Derived.Test.YtpbpkfcplkdjhaaGreatCRanges
import Derived.Test.YtpbpkfcplkdjhaaGreatJRanges43
import Derived.Test.YtpbpkfcplkdjhaaGreatCNRanges
namespace Wx
open Go Go.RowKit Go.Proofs
set_option linter.unusedVariables false

def makeLo (x y : Rat) : Rat := if y < x then 0 else x
def makeHi (x y : Rat) : Rat := if y < x then 0 else y
def makeE (x y : Rat) : Int := if y < x then 7 else 0
theorem bd_make {x y : Rat} {j : Nat} (hx : BdR j x) (hy : BdR j y) (hj : 1 ≤ j) : BdR j (makeLo x y) ∧ BdR j (makeHi x y) := by
  unfold makeLo makeHi; split
  · exact ⟨bd_zero.mono hj, bd_zero.mono hj⟩
  · exact ⟨hx, hy⟩
theorem cr_make {x y : Rat} {j : Nat} (hx : BdR j x) (hy : BdR j y) (hj : j + j + j + j + 1 ≤ 10000000) : ∀ (M : Nat → Nat → Prop) (w : World) (v0 v1 : Value), Mid M w → Box M (fun w => pRat x w v0) w → Box M (fun w => pRat y w v1) w → Calls Tryz.prog 6 #[v0, v1] w (RetB M (pTup2 (pPair (makeLo x y) (makeHi x y)) (pI (makeE x y))) w) := by
  unfold makeLo makeHi makeE
  by_cases h : y < x
  · rw [if_pos h, if_pos h, if_pos h]; exact cr_make_no hx hy (by omega) h
  · rw [if_neg h, if_neg h, if_neg h]; exact cr_make_ok hx hy (by omega) h
theorem nr_make {x y : Rat} {j : Nat} (hx : BdR j x) (hy : BdR j y) (hj : j + j + j + j + 1 ≤ 10000000) : ∀ (M : Nat → Nat → Prop) (w : World) (v0 v1 : Value), Mid M w → Box M (fun w => pRef x w v0) w → Box M (fun w => pRef y w v1) w → Calls Tryz.prog 8 #[v0, v1] w (RetB M (pTup2 (pRPair (makeLo x y) (makeHi x y)) (pI (makeE x y))) w) := by
  unfold makeLo makeHi makeE
  by_cases h : y < x
  · rw [if_pos h, if_pos h, if_pos h]; exact nr_make_no hx hy (by omega) h
  · rw [if_neg h, if_neg h, if_neg h]; exact nr_make_ok hx hy (by omega) h
theorem nr_square {a1 a2 : Rat} {j : Nat} (ha : BdR j a1 ∧ BdR j a2) (hj : (j + j) + (j + j) + (j + j) + (j + j) + 1 ≤ 10000000) (h64 : 64 ≤ j) : ∀ (M : Nat → Nat → Prop) (w : World) (v0 : Value), Mid M w → Box M (fun w => pRPair a1 a2 w v0) w → Calls Tryz.prog 27 #[v0] w (RetB M (pRPair (sqLo a1 a2) (max2 (a1 * a1) (a2 * a2))) w) := by
  unfold sqLo
  by_cases h : a1 ≤ 0 ∧ 0 ≤ a2
  · rw [if_pos h]; exact nr_square_in ha hj h64 h
  · rw [if_neg h]; exact nr_square_out ha hj h64 h
theorem nr_div {a1 a2 b1 b2 : Rat} {j k : Nat} (ha : BdR j a1 ∧ BdR j a2) (hb : BdR k b1 ∧ BdR k b2) (hj : (j + (64 + k)) + (j + (64 + k)) + (j + (64 + k)) + (j + (64 + k)) + 1 ≤ 10000000) (hb12 : b1 ≤ b2) : ∀ (M : Nat → Nat → Prop) (w : World) (v0 v1 : Value), Mid M w → Box M (fun w => pRPair a1 a2 w v0) w → Box M (fun w => pRPair b1 b2 w v1) w → Calls Tryz.prog 29 #[v0, v1] w (RetB M (pTup2 (pRPair (divLo a1 a2 b1 b2) (divHi a1 a2 b1 b2)) (pI (divE b1 b2))) w) := by
  unfold divLo divHi divE
  by_cases h : b1 ≤ 0 ∧ 0 ≤ b2
  · rw [if_pos h, if_pos h, if_pos h]; exact nr_div_zero ha hb hj h
  · rw [if_neg h, if_neg h, if_neg h]; exact nr_div_ok ha hb hj h (by rintro rfl; exact h ⟨Rat.le_refl, hb12⟩) (by rintro rfl; exact h ⟨hb12, Rat.le_refl⟩)
theorem nr_meet {a1 a2 b1 b2 : Rat} {j : Nat} (ha : BdR j a1 ∧ BdR j a2) (hb : BdR j b1 ∧ BdR j b2) (hj : j + j + j + j + 1 ≤ 10000000) : ∀ (M : Nat → Nat → Prop) (w : World) (v0 v1 : Value), Mid M w → Box M (fun w => pRPair a1 a2 w v0) w → Box M (fun w => pRPair b1 b2 w v1) w → Calls Tryz.prog 31 #[v0, v1] w (RetB M (pTup2 (pRPair (meetLo a1 a2 b1 b2) (meetHi a1 a2 b1 b2)) (pI (meetE a1 a2 b1 b2))) w) := by
  unfold meetLo meetHi meetE
  by_cases h : min2 a2 b2 < max2 a1 b1
  · rw [if_pos h, if_pos h, if_pos h]; exact nr_meet_none ha hb hj h
  · rw [if_neg h, if_neg h, if_neg h]; exact nr_meet_ok ha hb hj h
set_option maxRecDepth 100000 in
theorem cl_isrange {a1 a2 c1 c2 : Rat} {j : Nat} (ha : BdR j a1 ∧ BdR j a2) (hj : j ≤ 100000000) (e1 : a1 = c1) (e2 : a2 = c2) : ∀ (M : Nat → Nat → Prop) (w : World) (v0 v1 : Value), Mid M w → Box M (fun w => (pPair a1 a2) w v0) w → Box M (fun w => (pRPair c1 c2) w v1) w → Calls Tryz.prog 10 #[v0, v1] w (RetB M (pB true) w) := by
  intro M w0 v0 v1 hM hv0 hv1
  refine calls_start (N := 17) Tryz.func10 rfl rfl rfl hM (show EntsA M w0 [v0, v1] [⟨none, none, 0, pPair a1 a2⟩, ⟨none, none, 1, pRPair c1 c2⟩] from ⟨⟨rfl, _, rfl, hv0⟩, ⟨rfl, _, rfl, hv1⟩, trivial⟩) fun a hI => ?_
  refine seq_text (V1 := [⟨2, 2, some 0, none, .ptr, 30, 6, true, pPair a1 a2, []⟩, ⟨3, 3, some 1, none, .ptr, 39, 6, true, pRPair c1 c2, []⟩]) (A1 := []) (G1 := [⟨none, none, 0, pPair a1 a2⟩, ⟨none, none, 1, pRPair c1 c2⟩, ⟨some 2, none, 4, pB false⟩]) (V2 := [⟨2, 2, none, none, .ptr, 30, 6, true, pPair a1 a2, []⟩, ⟨3, 3, none, none, .ptr, 39, 6, true, pRPair c1 c2, []⟩]) (G2 := [⟨none, none, 4, pB false⟩]) hI rfl rfl rfl [0, 1, 3] (by kernel_rfl) (by kernel_rfl) ?_ [0, 1] [2] rfl rfl fun a w hI => ?_
  · exact ⟨op_box 0 rfl rfl (by kernel_rfl) (by kernel_rfl) rfl rfl rfl (.tmp 0 rfl rfl) (fits_pair _ _) rfl,
      op_box 1 rfl rfl (by kernel_rfl) (by kernel_rfl) rfl rfl rfl (.tmp 1 rfl rfl) (fits_rpair _ _) rfl,
      op_assign (.const _) (.here 2 rfl),
      trivial⟩
  refine seq_drawn (V1 := [⟨2, 2, none, none, .ptr, 30, 6, true, pPair a1 a2, []⟩, ⟨3, 3, none, none, .ptr, 39, 6, true, pRPair c1 c2, []⟩]) (A1 := [⟨some 2, 7, 3, 0, True⟩, ⟨some 8, 13, 3, 3, True⟩]) (G1 := [⟨none, some 12, 4, pB false⟩, ⟨some 0, none, 5, pPair a1 a2⟩, ⟨some 1, none, 6, pRat a1⟩, ⟨some 3, none, 8, pRef c1⟩, ⟨some 4, none, 9, pB true⟩, ⟨some 5, none, 10, pB true⟩, ⟨some 6, none, 11, pPair a1 a2⟩, ⟨some 7, none, 12, pRat a2⟩, ⟨some 9, none, 14, pRef c2⟩, ⟨some 10, none, 15, pB true⟩, ⟨some 11, none, 16, pB true⟩, ⟨some 12, none, 4, pB true⟩]) (V2 := [⟨2, 2, none, none, .ptr, 30, 6, true, pPair a1 a2, []⟩, ⟨3, 3, none, none, .ptr, 39, 6, true, pRPair c1 c2, []⟩]) (G2 := [⟨none, none, 4, pB true⟩]) hI rfl rfl rfl [0, 1, 0, 4, 15, 31, 63, 127, 63, 319, 1023, 2047, 4095] (by kernel_rfl) (by kernel_rfl) (by kernel_rfl) (by kernel_rfl) ?_ [0, 1] [10] rfl rfl fun a w hI => ?_
  · exact ⟨op_load 0 rfl rfl rfl rfl (by kernel_rfl) ty_Range rfl (.here 1 rfl),
      op_callB1 (fun _ _ => by kernel_rfl) (.tmp 1 rfl rfl) (.here 2 rfl) (cr_lo _ _),
      op_field 1 rfl rfl rfl 0 rfl rfl rfl rfl (.inl ⟨rfl, rfl⟩) rfl (by kernel_rfl) (fun b w => fa_S_0 b 0 w),
      op_loadAl 1 rfl 0 rfl rfl rfl rfl rfl trivial rfl rfl (by kernel_rfl) ty_R rfl rfl (fd_get (fs := [⟨true, 3, pRef c1⟩, ⟨true, 3, pRef c2⟩]) 0 (f := ⟨true, 3, pRef c1⟩) rfl (off := 0) rfl) (.here 3 rfl),
      op_call2 (fun _ _ => by kernel_rfl) (numlike_eq _) (.tmp 2 rfl rfl) (.tmp 3 rfl rfl) (.here 4 rfl) (c_is ha.1 (by omega) (e1)),
      op_move (.tmp 4 rfl rfl) (.here 5 rfl),
      op_yes 5 rfl rfl (op_load 0 rfl rfl rfl rfl (by kernel_rfl) ty_Range rfl (.here 6 rfl)),
      op_yes 5 rfl rfl (op_callB1 (fun _ _ => by kernel_rfl) (.tmp 6 rfl rfl) (.here 7 rfl) (cr_hi _ _)),
      op_yes 5 rfl rfl (op_field 1 rfl rfl rfl 1 rfl rfl rfl rfl (.inl ⟨rfl, rfl⟩) rfl (by kernel_rfl) (fun b w => fa_S_1 b 0 w)),
      op_yes 5 rfl rfl (op_loadAl 1 rfl 1 rfl rfl rfl rfl rfl trivial rfl rfl (by kernel_rfl) ty_R rfl rfl (fd_get (fs := [⟨true, 3, pRef c1⟩, ⟨true, 3, pRef c2⟩]) 1 (f := ⟨true, 3, pRef c2⟩) rfl (off := 3) rfl) (.here 8 rfl)),
      op_yes 5 rfl rfl (op_call2 (fun _ _ => by kernel_rfl) (numlike_eq _) (.tmp 7 rfl rfl) (.tmp 8 rfl rfl) (.here 9 rfl) (c_is ha.2 (by omega) (e2))),
      op_pick (b := true) (.tmp 5 rfl rfl) (fun _ => (.tmp 9 rfl rfl)) (fun h => by cases h) (.here 10 rfl),
      op_assign (.tmp 10 rfl rfl) (.here 11 rfl),
      trivial⟩
  refine wp_ret ?_
  exact fin1 hI rfl (.tmp 0 rfl)
set_option maxRecDepth 100000 in
theorem cl_refrange {n1 d1 n2 d2 : Int} {x1 x2 : Rat} (e1 : x1 = ofR n1 d1) (f1 : FracOk n1 d1) (e2 : x2 = ofR n2 d2) (f2 : FracOk n2 d2) {xl xh : Rat} (el : xl = min4 x1 x1 x2 x2) (eh : xh = max4 x1 x1 x2 x2) : ∀ (M : Nat → Nat → Prop) (w : World) (v0 : Value), Mid M w → Box M (fun w => (pS [⟨true, 2, pFrac n1 d1⟩, ⟨true, 2, pFrac n2 d2⟩]) w v0) w → Calls Tryz.prog 12 #[v0] w (RetB M (pRPair xl xh) w) := by
  intro M w0 v0 hM hv0
  have B1 : BdR 64 x1 := e1 ▸ bd_ok f1
  have B2 : BdR 64 x2 := e2 ▸ bd_ok f2
  refine calls_start (N := 12) Tryz.func12 rfl rfl rfl hM (show EntsA M w0 [v0] [⟨none, none, 0, pS [⟨true, 2, pFrac n1 d1⟩, ⟨true, 2, pFrac n2 d2⟩]⟩] from ⟨⟨rfl, _, rfl, hv0⟩, trivial⟩) fun a hI => ?_
  refine seq_text (V1 := [⟨1, 1, some 0, none, .ptr, 24, 4, true, pS [⟨true, 2, pFrac n1 d1⟩, ⟨true, 2, pFrac n2 d2⟩], []⟩, ⟨2, 2, some 1, none, .ptr, 39, 6, true, pAny, []⟩]) (A1 := []) (G1 := [⟨none, none, 0, pS [⟨true, 2, pFrac n1 d1⟩, ⟨true, 2, pFrac n2 d2⟩]⟩]) (V2 := [⟨1, 1, none, none, .ptr, 24, 4, true, pS [⟨true, 2, pFrac n1 d1⟩, ⟨true, 2, pFrac n2 d2⟩], []⟩, ⟨2, 2, none, none, .ptr, 39, 6, true, pAny, []⟩]) (G2 := []) hI rfl rfl rfl [0, 1] (by kernel_rfl) (by kernel_rfl) ?_ [0, 1] [] rfl rfl fun a w hI => ?_
  · exact ⟨op_box 0 rfl rfl (by kernel_rfl) (by kernel_rfl) rfl rfl rfl (.tmp 0 rfl rfl) (fits_s (fs := [⟨true, 2, pFrac n1 d1⟩, ⟨true, 2, pFrac n2 d2⟩]) ⟨fits_frac _ _, fits_frac _ _, trivial⟩ rfl) rfl,
      op_alloc 1 rfl rfl (by kernel_rfl) (by kernel_rfl) rfl rfl rfl zv_S rfl rfl (by simp [NoU]) (fun _ => trivial),
      trivial⟩
  refine seq_drawn (V1 := [⟨1, 1, none, none, .ptr, 24, 4, true, pS [⟨true, 2, pFrac n1 d1⟩, ⟨true, 2, pFrac n2 d2⟩], []⟩, ⟨2, 2, none, none, .ptr, 39, 6, true, pAny, [(9, pRPair (min2 x1 x2) (max2 x1 x2))]⟩]) (A1 := [⟨some 0, 3, 1, 0, True⟩, ⟨some 4, 7, 1, 2, True⟩]) (G1 := [⟨some 1, none, 4, pFrac n1 d1⟩, ⟨some 2, none, 5, pRef x1⟩, ⟨some 3, none, 6, pRPair x1 x1⟩, ⟨some 5, none, 8, pFrac n2 d2⟩, ⟨some 6, none, 9, pRef x2⟩, ⟨some 7, none, 10, pRPair x2 x2⟩, ⟨some 8, none, 11, pRPair (min2 x1 x2) (max2 x1 x2)⟩]) (V2 := [⟨1, 1, none, none, .ptr, 24, 4, true, pS [⟨true, 2, pFrac n1 d1⟩, ⟨true, 2, pFrac n2 d2⟩], []⟩, ⟨2, 2, none, none, .ptr, 39, 6, true, pRPair (min2 x1 x2) (max2 x1 x2), []⟩]) (G2 := []) hI rfl rfl rfl [0, 1, 3, 7, 0, 16, 63, 127, 255, 511] (by kernel_rfl) (by kernel_rfl) (by kernel_rfl) (by kernel_rfl) ?_ [0, 1] [] rfl rfl fun a w hI => ?_
  · exact ⟨op_index 0 rfl rfl rfl 0 rfl rfl rfl rfl (.inl ⟨rfl, rfl⟩) rfl (by kernel_rfl) (.const _) (fun _ _ => by kernel_rfl),
      op_loadAl 0 rfl 0 rfl rfl rfl rfl rfl trivial rfl rfl (by kernel_rfl) ty_Frac rfl rfl (fd_get (fs := [⟨true, 2, pFrac n1 d1⟩, ⟨true, 2, pFrac n2 d2⟩]) 0 (f := ⟨true, 2, pFrac n1 d1⟩) rfl (off := 0) rfl) (.here 0 rfl),
      op_call1 (fun _ _ => by kernel_rfl) (numlike_ref _) (.tmp 0 rfl rfl) (.here 1 rfl) (cn_of e1 f1),
      op_callB1 (fun _ _ => by kernel_rfl) (.tmp 1 rfl rfl) (.here 2 rfl) (nr_only _),
      op_index 0 rfl rfl rfl 1 rfl rfl rfl rfl (.inl ⟨rfl, rfl⟩) rfl (by kernel_rfl) (.const _) (fun _ _ => by kernel_rfl),
      op_loadAl 0 rfl 1 rfl rfl rfl rfl rfl trivial rfl rfl (by kernel_rfl) ty_Frac rfl rfl (fd_get (fs := [⟨true, 2, pFrac n1 d1⟩, ⟨true, 2, pFrac n2 d2⟩]) 1 (f := ⟨true, 2, pFrac n2 d2⟩) rfl (off := 2) rfl) (.here 3 rfl),
      op_call1 (fun _ _ => by kernel_rfl) (numlike_ref _) (.tmp 3 rfl rfl) (.here 4 rfl) (cn_of e2 f2),
      op_callB1 (fun _ _ => by kernel_rfl) (.tmp 4 rfl rfl) (.here 5 rfl) (nr_only _),
      op_callB2 (fun _ _ => by kernel_rfl) (.tmp 2 rfl rfl) (.tmp 5 rfl rfl) (.here 6 rfl) (nr_hull ⟨B1, B1⟩ ⟨B2, B2⟩ (by omega)),
      op_store 1 rfl rfl rfl rfl 0 rfl (by kernel_rfl) (by kernel_rfl) ty_S (.tmp 6 rfl rfl) (fits_rpair _ _),
      trivial⟩
  refine wp_ret ?_
  exact fin1 hI rfl (.imp (.cell 1 rfl rfl rfl rfl ty_S rfl) (pRefPair_eq (by rw [el, min4_two]) (by rw [eh, max4_two])))
end Wx
