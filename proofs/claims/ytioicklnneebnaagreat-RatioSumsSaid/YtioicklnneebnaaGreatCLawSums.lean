import Derived.Test.YtioicklnneebnaaGreatProg
import Derived.Handy
import Derived.Deep.RegionHeld3
import Derived.Deep.DeepCutAuto
import Derived.Test.YtioicklnneebnaaGreatPlain1
import Derived.Test.YtioicklnneebnaaGreatMem
import Derived.Test.YtioicklnneebnaaGreatJSums3
import Derived.Test.YtioicklnneebnaaGreatCRat1
import Derived.Test.YtioicklnneebnaaGreatCRat2
import Derived.Test.YtioicklnneebnaaGreatJSums19
import Derived.Test.YtioicklnneebnaaGreatJSums17
import Derived.Test.YtioicklnneebnaaGreatCRat3
import Derived.Test.YtioicklnneebnaaGreatCLess
import Derived.Test.YtioicklnneebnaaGreatCSame
import Derived.Test.YtioicklnneebnaaGreatCCmp
import Derived.Test.YtioicklnneebnaaGreatCPlainOrd
import Derived.Test.YtioicklnneebnaaGreatJSums24
import Derived.Test.YtioicklnneebnaaGreatInv
import Derived.Test.YtioicklnneebnaaGreatJSums26
import Derived.Test.YtioicklnneebnaaGreatJSums33
import Derived.Test.YtioicklnneebnaaGreatJSums40
import Derived.Test.YtioicklnneebnaaGreatCNRat2
import Derived.Test.YtioicklnneebnaaGreatJSums42
import Derived.Test.YtioicklnneebnaaGreatCNAdd
import Derived.Test.YtioicklnneebnaaGreatJSums44
import Derived.Test.YtioicklnneebnaaGreatCIs
namespace Wx
open Go Go.RowKit Go.Proofs

theorem dec_cmpT (x y : Rat) : decide (x = y) = (cmpT x y == 0) := by
  by_cases h : x = y
  · rw [decide_eq_true h, cmpT_eq h]; rfl
  · rw [decide_eq_false h]
    exact (beq_eq_false_iff_ne.2 (mt cmpT_zero.1 h)).symm
theorem bd_sub' {j k : Nat} {x y : Rat} (h : BdR j x) (g : BdR k y) : BdR (j + k + j + k + 1) (x - y) := by rw [Rat.sub_eq_add_neg]; exact h.add g.neg
def JS (i : Nat) : Nat := 64 * (1 + i + i * i)
theorem JS_le {i : Nat} (h : i < 2) : JS i ≤ 200 ∧ JS i + JS i ≤ JS (i + 1) := by
  have : i = 0 ∨ i = 1 := by omega
  rcases this with rfl | rfl <;> decide
set_option maxRecDepth 100000 in
def SumI (w0 : World) (x y : Rat) (n1 d1 n2 d2 : Int) (u0 u1 u2 u3 u4 u17 u18 u19 u20 u21 u22 u23 u24 u25 u26 u27 u28 u29 u30 u31 u32 u33 u34 u35 u36 u37 u38 u39 u40 u41 u42 u43 u44 u45 u46 u47 u48 u49 u50 u51 u52 u53 u54 u55 u56 u57 u58 u59 u60 u61 u62 u63 u64 u65 u66 u67 u68 u69 u70 u71 u72 u73 u74 u75 u76 u77 u78 : Value) (L : Nat → Bool) (a : Act) (w : World) : Prop :=
  ∃ x5 x6 x7 x8 x9 x10 x11 x12 x13 x14 x15 x16 : Value, a = ⟨(List.toArray (u0 :: u1 :: u2 :: u3 :: u4 :: x5 :: x6 :: x7 :: x8 :: x9 :: x10 :: x11 :: x12 :: x13 :: x14 :: x15 :: x16 :: u17 :: u18 :: u19 :: u20 :: u21 :: u22 :: u23 :: u24 :: u25 :: u26 :: u27 :: u28 :: u29 :: u30 :: u31 :: u32 :: u33 :: u34 :: u35 :: u36 :: u37 :: u38 :: u39 :: u40 :: u41 :: u42 :: u43 :: u44 :: u45 :: u46 :: u47 :: u48 :: u49 :: u50 :: u51 :: u52 :: u53 :: u54 :: u55 :: u56 :: u57 :: u58 :: u59 :: u60 :: u61 :: u62 :: u63 :: u64 :: u65 :: u66 :: u67 :: u68 :: u69 :: u70 :: u71 :: u72 :: u73 :: u74 :: u75 :: u76 :: u77 :: u78 :: [])), []⟩ ∧ Below w0.heap.size w0 w ∧ (ObjA w (w0.heap.size) [.int .i64 n1, .int .i64 d1] 23 ∧ ObjA w (w0.heap.size + 1) [.int .i64 n2, .int .i64 d2] 23) ∧
    (L 0 = true → x9 = .agg #[.int .i64 n1, .int .i64 d1]) ∧
    (L 1 = true → IsRat w x10 x) ∧
    (L 2 = true → x11 = .agg #[.int .i64 n2, .int .i64 d2]) ∧
    (L 3 = true → IsRat w x12 y) ∧
    (L 4 = true → x13 = .agg #[.int .i64 n1, .int .i64 d1]) ∧
    (L 5 = true → IsRef w x14 x) ∧
    (L 6 = true → x15 = .agg #[.int .i64 n2, .int .i64 d2]) ∧
    (L 7 = true → IsRef w x16 y) ∧
    (L 8 = true → NewA (w0.heap.size + 2) w x5 [.bool false, .slice none 0 0, .slice none 0 0] 27) ∧
    (L 9 = true → NewA (w0.heap.size + 2) w x6 [.bool false, .slice none 0 0, .slice none 0 0] 27) ∧
    (L 10 = true → NewA (w0.heap.size + 2) w x7 [.bool false, .slice none 0 0, .slice none 0 0] 31) ∧
    (L 11 = true → NewA (w0.heap.size + 2) w x8 [.bool false, .slice none 0 0, .slice none 0 0] 31) ∧
    (L 8 = true → L 9 = true → x5 ≠ x6) ∧
    (L 8 = true → L 10 = true → x5 ≠ x7) ∧
    (L 8 = true → L 11 = true → x5 ≠ x8) ∧
    (L 9 = true → L 10 = true → x6 ≠ x7) ∧
    (L 9 = true → L 11 = true → x6 ≠ x8) ∧
    (L 10 = true → L 11 = true → x7 ≠ x8)
set_option maxRecDepth 100000 in
def SumJ (w0 : World) (x y : Rat) (g5 g6 g7 g8 : Nat) (Ax1 Ax2 : Option Addr) (cx1 cx2 : Nat) (Ay1 Ay2 : Option Addr) (cy1 cy2 : Nat) (Ap1 Ap2 : Option Addr) (cp1 cp2 : Nat) (Aq1 Aq2 : Option Addr) (cq1 cq2 : Nat) (u0 u1 u2 u3 u4 u5 u6 u7 u8 u9 u10 u11 u12 u13 u14 u15 u16 u17 u18 u19 u20 u21 u22 u23 u24 u25 u26 u27 u28 u29 u30 u31 u32 u33 u34 u35 u36 u37 u38 u39 u40 u41 u42 u43 u44 u45 u46 u47 u48 u49 u50 u51 u52 u53 u54 u55 u56 u57 u58 u59 u60 u61 u62 u63 u64 u77 u78 : Value) (L : Nat → Bool) (a : Act) (w : World) : Prop :=
  ∃ x65 x66 x67 x68 x69 x70 x71 x72 x73 x74 x75 x76 : Value, a = ⟨(List.toArray (u0 :: u1 :: u2 :: u3 :: u4 :: u5 :: u6 :: u7 :: u8 :: u9 :: u10 :: u11 :: u12 :: u13 :: u14 :: u15 :: u16 :: u17 :: u18 :: u19 :: u20 :: u21 :: u22 :: u23 :: u24 :: u25 :: u26 :: u27 :: u28 :: u29 :: u30 :: u31 :: u32 :: u33 :: u34 :: u35 :: u36 :: u37 :: u38 :: u39 :: u40 :: u41 :: u42 :: u43 :: u44 :: u45 :: u46 :: u47 :: u48 :: u49 :: u50 :: u51 :: u52 :: u53 :: u54 :: u55 :: u56 :: u57 :: u58 :: u59 :: u60 :: u61 :: u62 :: u63 :: u64 :: x65 :: x66 :: x67 :: x68 :: x69 :: x70 :: x71 :: x72 :: x73 :: x74 :: x75 :: x76 :: u77 :: u78 :: [])), []⟩ ∧ Below w0.heap.size w0 w ∧ (ObjA w g5 [.bool (decide (x.num < 0)), .slice Ax1 (digs b64 x.num.natAbs).length cx1, .slice Ax2 (digs b64 (denOf x.den)).length cx2] 27 ∧ ObjA w g6 [.bool (decide (y.num < 0)), .slice Ay1 (digs b64 y.num.natAbs).length cy1, .slice Ay2 (digs b64 (denOf y.den)).length cy2] 27 ∧ ObjA w g7 [.bool (decide (x.num < 0)), .slice Ap1 (digs b32 x.num.natAbs).length cp1, .slice Ap2 (digs b32 x.den).length cp2] 31 ∧ ObjA w g8 [.bool (decide (y.num < 0)), .slice Aq1 (digs b32 y.num.natAbs).length cq1, .slice Aq2 (digs b32 y.den).length cq2] 31 ∧ IsRat w (.agg #[.bool (decide (x.num < 0)), .slice Ax1 (digs b64 x.num.natAbs).length cx1, .slice Ax2 (digs b64 (denOf x.den)).length cx2]) x ∧ IsRat w (.agg #[.bool (decide (y.num < 0)), .slice Ay1 (digs b64 y.num.natAbs).length cy1, .slice Ay2 (digs b64 (denOf y.den)).length cy2]) y ∧ IsRef w (.agg #[.bool (decide (x.num < 0)), .slice Ap1 (digs b32 x.num.natAbs).length cp1, .slice Ap2 (digs b32 x.den).length cp2]) x ∧ IsRef w (.agg #[.bool (decide (y.num < 0)), .slice Aq1 (digs b32 y.num.natAbs).length cq1, .slice Aq2 (digs b32 y.den).length cq2]) y) ∧
    (L 0 = true → x65 = .agg #[.bool (decide (x.num < 0)), .slice Ax1 (digs b64 x.num.natAbs).length cx1, .slice Ax2 (digs b64 (denOf x.den)).length cx2]) ∧
    (L 1 = true → x66 = .agg #[.bool (decide (y.num < 0)), .slice Ay1 (digs b64 y.num.natAbs).length cy1, .slice Ay2 (digs b64 (denOf y.den)).length cy2]) ∧
    (L 2 = true → IsRat w x67 (x * y)) ∧
    (L 3 = true → x68 = .agg #[.bool (decide (y.num < 0)), .slice Ay1 (digs b64 y.num.natAbs).length cy1, .slice Ay2 (digs b64 (denOf y.den)).length cy2]) ∧
    (L 4 = true → x69 = .agg #[.bool (decide (y.num < 0)), .slice Ay1 (digs b64 y.num.natAbs).length cy1, .slice Ay2 (digs b64 (denOf y.den)).length cy2]) ∧
    (L 5 = true → IsRat w x70 (y * y)) ∧
    (L 6 = true → x71 = .agg #[.bool (decide (x.num < 0)), .slice Ap1 (digs b32 x.num.natAbs).length cp1, .slice Ap2 (digs b32 x.den).length cp2]) ∧
    (L 7 = true → x72 = .agg #[.bool (decide (y.num < 0)), .slice Aq1 (digs b32 y.num.natAbs).length cq1, .slice Aq2 (digs b32 y.den).length cq2]) ∧
    (L 8 = true → IsRef w x73 (x * y)) ∧
    (L 9 = true → x74 = .agg #[.bool (decide (y.num < 0)), .slice Aq1 (digs b32 y.num.natAbs).length cq1, .slice Aq2 (digs b32 y.den).length cq2]) ∧
    (L 10 = true → x75 = .agg #[.bool (decide (y.num < 0)), .slice Aq1 (digs b32 y.num.natAbs).length cq1, .slice Aq2 (digs b32 y.den).length cq2]) ∧
    (L 11 = true → IsRef w x76 (y * y))

set_option maxRecDepth 100000 in
set_option maxHeartbeats 40000000 in
theorem sums_walk (w0 : World) (n1 d1 n2 d2 : Int) (x y : Rat)
    (HO1R : Bx (∀ w, Calls Tryz.prog 5 #[.agg #[.int .i64 n1, .int .i64 d1]] w (RetRat w x))) (HO2R : Bx (∀ w, Calls Tryz.prog 5 #[.agg #[.int .i64 n2, .int .i64 d2]] w (RetRat w y)))
    (HO1F : Bx (∀ w, Calls Tryz.prog 6 #[.agg #[.int .i64 n1, .int .i64 d1]] w (RetRef w x))) (HO2F : Bx (∀ w, Calls Tryz.prog 6 #[.agg #[.int .i64 n2, .int .i64 d2]] w (RetRef w y)))
    (HX : Bx (BdR 64 x)) (HY : Bx (BdR 64 y)) : Calls Tryz.prog 4 #[.agg #[.int .i64 n1, .int .i64 d1], .agg #[.int .i64 n2, .int .i64 d2]] w0 (RetIs w0 (.bool true)) := by
  go_enter Tryz.func4, Tryz.ntmps4
  go_wp2_with fail
  obtain ⟨w1, e1, o1, b1, s1⟩ := layA w0 [.int .i64 n1, .int .i64 d1] 23
  obtain ⟨w2, e2, o2, b2, s2⟩ := layA w1 [.int .i64 n2, .int .i64 d2] 23
  rw [e1, e2]
  rw [s1] at o2
  have B := b1.trans (b2.mono b1.size)
  have o1 := o1.gone b2
  clear b1 b2 s1 s2 e1 e2
  refine region_inv_lit 12 (by kernel_rfl) (by kernel_rfl) (SumI w0 x y n1 d1 n2 d2 _ _ _ _ _ _ _ _ _ _ _ _ _ _ _ _ _ _ _ _ _ _ _ _ _ _ _ _ _ _ _ _ _ _ _ _ _ _ _ _ _ _ _ _ _ _ _ _ _ _ _ _ _ _ _ _ _ _ _ _ _ _ _ _ _ _ _) ⟨_, _, _, _, _, _, _, _, _, _, _, _, rfl, B.drew, ⟨o1, o2⟩, by simp, by simp, by simp, by simp, by simp, by simp, by simp, by simp, by simp, by simp, by simp, by simp, by simp, by simp, by simp, by simp, by simp, by simp⟩ ?_ ?_
  · simp only [List.take_succ_cons, List.take_zero]
    refine ⟨?_, ?_, ?_, ?_, ?_, ?_, ?_, ?_, ?_, ?_, ?_, ?_, trivial⟩
    · rintro L a wz ⟨x5, x6, x7, x8, x9, x10, x11, x12, x13, x14, x15, x16, rfl, HB, ⟨p1, p2⟩, h0, h1, h2, h3, h4, h5, h6, h7, h8, h9, h10, h11, n8_9, n8_10, n8_11, n9_10, n9_11, n10_11⟩ hpre
      have c0 := p1.cell (i := 0) rfl
      have c1 := p1.cell (i := 1) rfl
      go_wp2
      exact ⟨_, _, _, _, _, _, _, _, _, _, _, _, rfl, HB, ⟨p1, p2⟩, fun _ => rfl, fun h => h1 (upd_of h (by decide)), fun h => (by first | exact h2 (upd_of h (by decide)) | rfl), fun h => h3 (upd_of h (by decide)), fun h => (by first | exact h4 (upd_of h (by decide)) | rfl), fun h => h5 (upd_of h (by decide)), fun h => (by first | exact h6 (upd_of h (by decide)) | rfl), fun h => h7 (upd_of h (by decide)), fun h => h8 (upd_of h (by decide)), fun h => h9 (upd_of h (by decide)), fun h => h10 (upd_of h (by decide)), fun h => h11 (upd_of h (by decide)), fun h h' => n8_9 (upd_of h (by decide)) (upd_of h' (by decide)), fun h h' => n8_10 (upd_of h (by decide)) (upd_of h' (by decide)), fun h h' => n8_11 (upd_of h (by decide)) (upd_of h' (by decide)), fun h h' => n9_10 (upd_of h (by decide)) (upd_of h' (by decide)), fun h h' => n9_11 (upd_of h (by decide)) (upd_of h' (by decide)), fun h h' => n10_11 (upd_of h (by decide)) (upd_of h' (by decide))⟩
    · rintro L a wz ⟨x5, x6, x7, x8, x9, x10, x11, x12, x13, x14, x15, x16, rfl, HB, ⟨p1, p2⟩, h0, h1, h2, h3, h4, h5, h6, h7, h8, h9, h10, h11, n8_9, n8_10, n8_11, n9_10, n9_11, n10_11⟩ hpre
      have q := h0 (hpre 0 (by decide))
      subst q
      go_wp2_with fail
      refine Calls.mono (HO1R.out wz) ?_
      rintro e wy ⟨v, rfl, hv, hb⟩
      go_wp2
      exact ⟨_, _, _, _, _, _, _, _, _, _, _, _, rfl, HB.trans (hb.mono HB.size), ⟨(p1).gone hb, (p2).gone hb⟩, fun h => (by first | exact h0 (upd_of h (by decide)) | rfl), fun _ => hv, fun h => (by first | exact h2 (upd_of h (by decide)) | rfl), fun h => (h3 (upd_of h (by decide))).below hb, fun h => (by first | exact h4 (upd_of h (by decide)) | rfl), fun h => (h5 (upd_of h (by decide))).below hb, fun h => (by first | exact h6 (upd_of h (by decide)) | rfl), fun h => (h7 (upd_of h (by decide))).below hb, fun h => (h8 (upd_of h (by decide))).gone hb, fun h => (h9 (upd_of h (by decide))).gone hb, fun h => (h10 (upd_of h (by decide))).gone hb, fun h => (h11 (upd_of h (by decide))).gone hb, fun h h' => n8_9 (upd_of h (by decide)) (upd_of h' (by decide)), fun h h' => n8_10 (upd_of h (by decide)) (upd_of h' (by decide)), fun h h' => n8_11 (upd_of h (by decide)) (upd_of h' (by decide)), fun h h' => n9_10 (upd_of h (by decide)) (upd_of h' (by decide)), fun h h' => n9_11 (upd_of h (by decide)) (upd_of h' (by decide)), fun h h' => n10_11 (upd_of h (by decide)) (upd_of h' (by decide))⟩
    · rintro L a wz ⟨x5, x6, x7, x8, x9, x10, x11, x12, x13, x14, x15, x16, rfl, HB, ⟨p1, p2⟩, h0, h1, h2, h3, h4, h5, h6, h7, h8, h9, h10, h11, n8_9, n8_10, n8_11, n9_10, n9_11, n10_11⟩ hpre
      have c0 := p2.cell (i := 0) rfl
      have c1 := p2.cell (i := 1) rfl
      go_wp2
      exact ⟨_, _, _, _, _, _, _, _, _, _, _, _, rfl, HB, ⟨p1, p2⟩, fun h => (by first | exact h0 (upd_of h (by decide)) | rfl), fun h => h1 (upd_of h (by decide)), fun _ => rfl, fun h => h3 (upd_of h (by decide)), fun h => (by first | exact h4 (upd_of h (by decide)) | rfl), fun h => h5 (upd_of h (by decide)), fun h => (by first | exact h6 (upd_of h (by decide)) | rfl), fun h => h7 (upd_of h (by decide)), fun h => h8 (upd_of h (by decide)), fun h => h9 (upd_of h (by decide)), fun h => h10 (upd_of h (by decide)), fun h => h11 (upd_of h (by decide)), fun h h' => n8_9 (upd_of h (by decide)) (upd_of h' (by decide)), fun h h' => n8_10 (upd_of h (by decide)) (upd_of h' (by decide)), fun h h' => n8_11 (upd_of h (by decide)) (upd_of h' (by decide)), fun h h' => n9_10 (upd_of h (by decide)) (upd_of h' (by decide)), fun h h' => n9_11 (upd_of h (by decide)) (upd_of h' (by decide)), fun h h' => n10_11 (upd_of h (by decide)) (upd_of h' (by decide))⟩
    · rintro L a wz ⟨x5, x6, x7, x8, x9, x10, x11, x12, x13, x14, x15, x16, rfl, HB, ⟨p1, p2⟩, h0, h1, h2, h3, h4, h5, h6, h7, h8, h9, h10, h11, n8_9, n8_10, n8_11, n9_10, n9_11, n10_11⟩ hpre
      have q := h2 (hpre 2 (by decide))
      subst q
      go_wp2_with fail
      refine Calls.mono (HO2R.out wz) ?_
      rintro e wy ⟨v, rfl, hv, hb⟩
      go_wp2
      exact ⟨_, _, _, _, _, _, _, _, _, _, _, _, rfl, HB.trans (hb.mono HB.size), ⟨(p1).gone hb, (p2).gone hb⟩, fun h => (by first | exact h0 (upd_of h (by decide)) | rfl), fun h => (h1 (upd_of h (by decide))).below hb, fun h => (by first | exact h2 (upd_of h (by decide)) | rfl), fun _ => hv, fun h => (by first | exact h4 (upd_of h (by decide)) | rfl), fun h => (h5 (upd_of h (by decide))).below hb, fun h => (by first | exact h6 (upd_of h (by decide)) | rfl), fun h => (h7 (upd_of h (by decide))).below hb, fun h => (h8 (upd_of h (by decide))).gone hb, fun h => (h9 (upd_of h (by decide))).gone hb, fun h => (h10 (upd_of h (by decide))).gone hb, fun h => (h11 (upd_of h (by decide))).gone hb, fun h h' => n8_9 (upd_of h (by decide)) (upd_of h' (by decide)), fun h h' => n8_10 (upd_of h (by decide)) (upd_of h' (by decide)), fun h h' => n8_11 (upd_of h (by decide)) (upd_of h' (by decide)), fun h h' => n9_10 (upd_of h (by decide)) (upd_of h' (by decide)), fun h h' => n9_11 (upd_of h (by decide)) (upd_of h' (by decide)), fun h h' => n10_11 (upd_of h (by decide)) (upd_of h' (by decide))⟩
    · rintro L a wz ⟨x5, x6, x7, x8, x9, x10, x11, x12, x13, x14, x15, x16, rfl, HB, ⟨p1, p2⟩, h0, h1, h2, h3, h4, h5, h6, h7, h8, h9, h10, h11, n8_9, n8_10, n8_11, n9_10, n9_11, n10_11⟩ hpre
      have c0 := p1.cell (i := 0) rfl
      have c1 := p1.cell (i := 1) rfl
      go_wp2
      exact ⟨_, _, _, _, _, _, _, _, _, _, _, _, rfl, HB, ⟨p1, p2⟩, fun h => (by first | exact h0 (upd_of h (by decide)) | rfl), fun h => h1 (upd_of h (by decide)), fun h => (by first | exact h2 (upd_of h (by decide)) | rfl), fun h => h3 (upd_of h (by decide)), fun _ => rfl, fun h => h5 (upd_of h (by decide)), fun h => (by first | exact h6 (upd_of h (by decide)) | rfl), fun h => h7 (upd_of h (by decide)), fun h => h8 (upd_of h (by decide)), fun h => h9 (upd_of h (by decide)), fun h => h10 (upd_of h (by decide)), fun h => h11 (upd_of h (by decide)), fun h h' => n8_9 (upd_of h (by decide)) (upd_of h' (by decide)), fun h h' => n8_10 (upd_of h (by decide)) (upd_of h' (by decide)), fun h h' => n8_11 (upd_of h (by decide)) (upd_of h' (by decide)), fun h h' => n9_10 (upd_of h (by decide)) (upd_of h' (by decide)), fun h h' => n9_11 (upd_of h (by decide)) (upd_of h' (by decide)), fun h h' => n10_11 (upd_of h (by decide)) (upd_of h' (by decide))⟩
    · rintro L a wz ⟨x5, x6, x7, x8, x9, x10, x11, x12, x13, x14, x15, x16, rfl, HB, ⟨p1, p2⟩, h0, h1, h2, h3, h4, h5, h6, h7, h8, h9, h10, h11, n8_9, n8_10, n8_11, n9_10, n9_11, n10_11⟩ hpre
      have q := h4 (hpre 4 (by decide))
      subst q
      go_wp2_with fail
      refine Calls.mono (HO1F.out wz) ?_
      rintro e wy ⟨v, rfl, hv, hb⟩
      go_wp2
      exact ⟨_, _, _, _, _, _, _, _, _, _, _, _, rfl, HB.trans (hb.mono HB.size), ⟨(p1).gone hb, (p2).gone hb⟩, fun h => (by first | exact h0 (upd_of h (by decide)) | rfl), fun h => (h1 (upd_of h (by decide))).below hb, fun h => (by first | exact h2 (upd_of h (by decide)) | rfl), fun h => (h3 (upd_of h (by decide))).below hb, fun h => (by first | exact h4 (upd_of h (by decide)) | rfl), fun _ => hv, fun h => (by first | exact h6 (upd_of h (by decide)) | rfl), fun h => (h7 (upd_of h (by decide))).below hb, fun h => (h8 (upd_of h (by decide))).gone hb, fun h => (h9 (upd_of h (by decide))).gone hb, fun h => (h10 (upd_of h (by decide))).gone hb, fun h => (h11 (upd_of h (by decide))).gone hb, fun h h' => n8_9 (upd_of h (by decide)) (upd_of h' (by decide)), fun h h' => n8_10 (upd_of h (by decide)) (upd_of h' (by decide)), fun h h' => n8_11 (upd_of h (by decide)) (upd_of h' (by decide)), fun h h' => n9_10 (upd_of h (by decide)) (upd_of h' (by decide)), fun h h' => n9_11 (upd_of h (by decide)) (upd_of h' (by decide)), fun h h' => n10_11 (upd_of h (by decide)) (upd_of h' (by decide))⟩
    · rintro L a wz ⟨x5, x6, x7, x8, x9, x10, x11, x12, x13, x14, x15, x16, rfl, HB, ⟨p1, p2⟩, h0, h1, h2, h3, h4, h5, h6, h7, h8, h9, h10, h11, n8_9, n8_10, n8_11, n9_10, n9_11, n10_11⟩ hpre
      have c0 := p2.cell (i := 0) rfl
      have c1 := p2.cell (i := 1) rfl
      go_wp2
      exact ⟨_, _, _, _, _, _, _, _, _, _, _, _, rfl, HB, ⟨p1, p2⟩, fun h => (by first | exact h0 (upd_of h (by decide)) | rfl), fun h => h1 (upd_of h (by decide)), fun h => (by first | exact h2 (upd_of h (by decide)) | rfl), fun h => h3 (upd_of h (by decide)), fun h => (by first | exact h4 (upd_of h (by decide)) | rfl), fun h => h5 (upd_of h (by decide)), fun _ => rfl, fun h => h7 (upd_of h (by decide)), fun h => h8 (upd_of h (by decide)), fun h => h9 (upd_of h (by decide)), fun h => h10 (upd_of h (by decide)), fun h => h11 (upd_of h (by decide)), fun h h' => n8_9 (upd_of h (by decide)) (upd_of h' (by decide)), fun h h' => n8_10 (upd_of h (by decide)) (upd_of h' (by decide)), fun h h' => n8_11 (upd_of h (by decide)) (upd_of h' (by decide)), fun h h' => n9_10 (upd_of h (by decide)) (upd_of h' (by decide)), fun h h' => n9_11 (upd_of h (by decide)) (upd_of h' (by decide)), fun h h' => n10_11 (upd_of h (by decide)) (upd_of h' (by decide))⟩
    · rintro L a wz ⟨x5, x6, x7, x8, x9, x10, x11, x12, x13, x14, x15, x16, rfl, HB, ⟨p1, p2⟩, h0, h1, h2, h3, h4, h5, h6, h7, h8, h9, h10, h11, n8_9, n8_10, n8_11, n9_10, n9_11, n10_11⟩ hpre
      have q := h6 (hpre 6 (by decide))
      subst q
      go_wp2_with fail
      refine Calls.mono (HO2F.out wz) ?_
      rintro e wy ⟨v, rfl, hv, hb⟩
      go_wp2
      exact ⟨_, _, _, _, _, _, _, _, _, _, _, _, rfl, HB.trans (hb.mono HB.size), ⟨(p1).gone hb, (p2).gone hb⟩, fun h => (by first | exact h0 (upd_of h (by decide)) | rfl), fun h => (h1 (upd_of h (by decide))).below hb, fun h => (by first | exact h2 (upd_of h (by decide)) | rfl), fun h => (h3 (upd_of h (by decide))).below hb, fun h => (by first | exact h4 (upd_of h (by decide)) | rfl), fun h => (h5 (upd_of h (by decide))).below hb, fun h => (by first | exact h6 (upd_of h (by decide)) | rfl), fun _ => hv, fun h => (h8 (upd_of h (by decide))).gone hb, fun h => (h9 (upd_of h (by decide))).gone hb, fun h => (h10 (upd_of h (by decide))).gone hb, fun h => (h11 (upd_of h (by decide))).gone hb, fun h h' => n8_9 (upd_of h (by decide)) (upd_of h' (by decide)), fun h h' => n8_10 (upd_of h (by decide)) (upd_of h' (by decide)), fun h h' => n8_11 (upd_of h (by decide)) (upd_of h' (by decide)), fun h h' => n9_10 (upd_of h (by decide)) (upd_of h' (by decide)), fun h h' => n9_11 (upd_of h (by decide)) (upd_of h' (by decide)), fun h h' => n10_11 (upd_of h (by decide)) (upd_of h' (by decide))⟩
    · rintro L a wz ⟨x5, x6, x7, x8, x9, x10, x11, x12, x13, x14, x15, x16, rfl, HB, ⟨p1, p2⟩, h0, h1, h2, h3, h4, h5, h6, h7, h8, h9, h10, h11, n8_9, n8_10, n8_11, n9_10, n9_11, n10_11⟩ hpre
      have hb := below_alloc wz #[.bool false, .slice none 0 0, .slice none 0 0] 27
      have hlt := p2.lt
      go_wp2
      exact ⟨_, _, _, _, _, _, _, _, _, _, _, _, rfl, HB.trans (hb.mono HB.size), ⟨(p1).gone hb, (p2).gone hb⟩, fun h => (by first | exact h0 (upd_of h (by decide)) | rfl), fun h => (h1 (upd_of h (by decide))).below hb, fun h => (by first | exact h2 (upd_of h (by decide)) | rfl), fun h => (h3 (upd_of h (by decide))).below hb, fun h => (by first | exact h4 (upd_of h (by decide)) | rfl), fun h => (h5 (upd_of h (by decide))).below hb, fun h => (by first | exact h6 (upd_of h (by decide)) | rfl), fun h => (h7 (upd_of h (by decide))).below hb, fun _ => NewA.new (by omega), fun h => (h9 (upd_of h (by decide))).gone hb, fun h => (h10 (upd_of h (by decide))).gone hb, fun h => (h11 (upd_of h (by decide))).gone hb, fun _ h => ((h9 (upd_of h (by decide))).ne).symm, fun _ h => ((h10 (upd_of h (by decide))).ne).symm, fun _ h => ((h11 (upd_of h (by decide))).ne).symm, fun h h' => n9_10 (upd_of h (by decide)) (upd_of h' (by decide)), fun h h' => n9_11 (upd_of h (by decide)) (upd_of h' (by decide)), fun h h' => n10_11 (upd_of h (by decide)) (upd_of h' (by decide))⟩
    · rintro L a wz ⟨x5, x6, x7, x8, x9, x10, x11, x12, x13, x14, x15, x16, rfl, HB, ⟨p1, p2⟩, h0, h1, h2, h3, h4, h5, h6, h7, h8, h9, h10, h11, n8_9, n8_10, n8_11, n9_10, n9_11, n10_11⟩ hpre
      have hb := below_alloc wz #[.bool false, .slice none 0 0, .slice none 0 0] 27
      have hlt := p2.lt
      go_wp2
      exact ⟨_, _, _, _, _, _, _, _, _, _, _, _, rfl, HB.trans (hb.mono HB.size), ⟨(p1).gone hb, (p2).gone hb⟩, fun h => (by first | exact h0 (upd_of h (by decide)) | rfl), fun h => (h1 (upd_of h (by decide))).below hb, fun h => (by first | exact h2 (upd_of h (by decide)) | rfl), fun h => (h3 (upd_of h (by decide))).below hb, fun h => (by first | exact h4 (upd_of h (by decide)) | rfl), fun h => (h5 (upd_of h (by decide))).below hb, fun h => (by first | exact h6 (upd_of h (by decide)) | rfl), fun h => (h7 (upd_of h (by decide))).below hb, fun h => (h8 (upd_of h (by decide))).gone hb, fun _ => NewA.new (by omega), fun h => (h10 (upd_of h (by decide))).gone hb, fun h => (h11 (upd_of h (by decide))).gone hb, fun h _ => (h8 (upd_of h (by decide))).ne, fun h h' => n8_10 (upd_of h (by decide)) (upd_of h' (by decide)), fun h h' => n8_11 (upd_of h (by decide)) (upd_of h' (by decide)), fun _ h => ((h10 (upd_of h (by decide))).ne).symm, fun _ h => ((h11 (upd_of h (by decide))).ne).symm, fun h h' => n10_11 (upd_of h (by decide)) (upd_of h' (by decide))⟩
    · rintro L a wz ⟨x5, x6, x7, x8, x9, x10, x11, x12, x13, x14, x15, x16, rfl, HB, ⟨p1, p2⟩, h0, h1, h2, h3, h4, h5, h6, h7, h8, h9, h10, h11, n8_9, n8_10, n8_11, n9_10, n9_11, n10_11⟩ hpre
      have hb := below_alloc wz #[.bool false, .slice none 0 0, .slice none 0 0] 31
      have hlt := p2.lt
      go_wp2
      exact ⟨_, _, _, _, _, _, _, _, _, _, _, _, rfl, HB.trans (hb.mono HB.size), ⟨(p1).gone hb, (p2).gone hb⟩, fun h => (by first | exact h0 (upd_of h (by decide)) | rfl), fun h => (h1 (upd_of h (by decide))).below hb, fun h => (by first | exact h2 (upd_of h (by decide)) | rfl), fun h => (h3 (upd_of h (by decide))).below hb, fun h => (by first | exact h4 (upd_of h (by decide)) | rfl), fun h => (h5 (upd_of h (by decide))).below hb, fun h => (by first | exact h6 (upd_of h (by decide)) | rfl), fun h => (h7 (upd_of h (by decide))).below hb, fun h => (h8 (upd_of h (by decide))).gone hb, fun h => (h9 (upd_of h (by decide))).gone hb, fun _ => NewA.new (by omega), fun h => (h11 (upd_of h (by decide))).gone hb, fun h h' => n8_9 (upd_of h (by decide)) (upd_of h' (by decide)), fun h _ => (h8 (upd_of h (by decide))).ne, fun h h' => n8_11 (upd_of h (by decide)) (upd_of h' (by decide)), fun h _ => (h9 (upd_of h (by decide))).ne, fun h h' => n9_11 (upd_of h (by decide)) (upd_of h' (by decide)), fun _ h => ((h11 (upd_of h (by decide))).ne).symm⟩
    · rintro L a wz ⟨x5, x6, x7, x8, x9, x10, x11, x12, x13, x14, x15, x16, rfl, HB, ⟨p1, p2⟩, h0, h1, h2, h3, h4, h5, h6, h7, h8, h9, h10, h11, n8_9, n8_10, n8_11, n9_10, n9_11, n10_11⟩ hpre
      have hb := below_alloc wz #[.bool false, .slice none 0 0, .slice none 0 0] 31
      have hlt := p2.lt
      go_wp2
      exact ⟨_, _, _, _, _, _, _, _, _, _, _, _, rfl, HB.trans (hb.mono HB.size), ⟨(p1).gone hb, (p2).gone hb⟩, fun h => (by first | exact h0 (upd_of h (by decide)) | rfl), fun h => (h1 (upd_of h (by decide))).below hb, fun h => (by first | exact h2 (upd_of h (by decide)) | rfl), fun h => (h3 (upd_of h (by decide))).below hb, fun h => (by first | exact h4 (upd_of h (by decide)) | rfl), fun h => (h5 (upd_of h (by decide))).below hb, fun h => (by first | exact h6 (upd_of h (by decide)) | rfl), fun h => (h7 (upd_of h (by decide))).below hb, fun h => (h8 (upd_of h (by decide))).gone hb, fun h => (h9 (upd_of h (by decide))).gone hb, fun h => (h10 (upd_of h (by decide))).gone hb, fun _ => NewA.new (by omega), fun h h' => n8_9 (upd_of h (by decide)) (upd_of h' (by decide)), fun h h' => n8_10 (upd_of h (by decide)) (upd_of h' (by decide)), fun h _ => (h8 (upd_of h (by decide))).ne, fun h h' => n9_10 (upd_of h (by decide)) (upd_of h' (by decide)), fun h _ => (h9 (upd_of h (by decide))).ne, fun h _ => (h10 (upd_of h (by decide))).ne⟩
  · intro L a wz hI hall
    simp only [List.drop_succ_cons, List.drop_zero]
    obtain ⟨x5, x6, x7, x8, x9, x10, x11, x12, x13, x14, x15, x16, rfl, HB, ⟨p1, p2⟩, h0, h1, h2, h3, h4, h5, h6, h7, h8, h9, h10, h11, n8_9, n8_10, n8_11, n9_10, n9_11, n10_11⟩ := hI
    clear o1 o2 B
    obtain ⟨g5, rfl, hg5, ox⟩ := h8 (hall 8 (by omega))
    obtain ⟨g6, rfl, hg6, oy⟩ := h9 (hall 9 (by omega))
    obtain ⟨g7, rfl, hg7, op⟩ := h10 (hall 10 (by omega))
    obtain ⟨g8, rfl, hg8, oq⟩ := h11 (hall 11 (by omega))
    have m56 := ptr_ne (n8_9 (hall 8 (by omega)) (hall 9 (by omega)))
    have m57 := ptr_ne (n8_10 (hall 8 (by omega)) (hall 10 (by omega)))
    have m58 := ptr_ne (n8_11 (hall 8 (by omega)) (hall 11 (by omega)))
    have m67 := ptr_ne (n9_10 (hall 9 (by omega)) (hall 10 (by omega)))
    have m68 := ptr_ne (n9_11 (hall 9 (by omega)) (hall 11 (by omega)))
    have m78 := ptr_ne (n10_11 (hall 10 (by omega)) (hall 11 (by omega)))
    have hx := h1 (hall 1 (by omega))
    have hy := h3 (hall 3 (by omega))
    have hp := h5 (hall 5 (by omega))
    have hq := h7 (hall 7 (by omega))
    clear h0 h1 h2 h3 h4 h5 h6 h7 h8 h9 h10 h11 n8_9 n8_10 n8_11 n9_10 n9_11 n10_11 hall p1 p2
    have m65 := m56.symm
    have m75 := m57.symm
    have m85 := m58.symm
    have m76 := m67.symm
    have m86 := m68.symm
    have m87 := m78.symm
    obtain ⟨vx1, vx2, rfl, hxa, hxb⟩ := id hx
    obtain ⟨Ax1, cx1, rfl, _⟩ := id hxa
    obtain ⟨Ax2, cx2, rfl, _⟩ := id hxb
    obtain ⟨vy1, vy2, rfl, hya, hyb⟩ := id hy
    obtain ⟨Ay1, cy1, rfl, _⟩ := id hya
    obtain ⟨Ay2, cy2, rfl, _⟩ := id hyb
    obtain ⟨vp1, vp2, rfl, hpa, hpb⟩ := id hp
    obtain ⟨Ap1, cp1, rfl, _⟩ := id hpa
    obtain ⟨Ap2, cp2, rfl, _⟩ := id hpb
    obtain ⟨vq1, vq2, rfl, hqa, hqb⟩ := id hq
    obtain ⟨Aq1, cq1, rfl, _⟩ := id hqa
    obtain ⟨Aq2, cq2, rfl, _⟩ := id hqb
    clear hxa hxb hya hyb hpa hpb hqa hqb
    have kx0 := ox.cell (i := 0) rfl
    have fx0 := ox.fz 0
    have kx1 := ox.cell (i := 1) rfl
    have fx1 := ox.fz 1
    have kx2 := ox.cell (i := 2) rfl
    have fx2 := ox.fz 2
    have ky0 := oy.cell (i := 0) rfl
    have fy0 := oy.fz 0
    have ky1 := oy.cell (i := 1) rfl
    have fy1 := oy.fz 1
    have ky2 := oy.cell (i := 2) rfl
    have fy2 := oy.fz 2
    have kp0 := op.cell (i := 0) rfl
    have fp0 := op.fz 0
    have kp1 := op.cell (i := 1) rfl
    have fp1 := op.fz 1
    have kp2 := op.cell (i := 2) rfl
    have fp2 := op.fz 2
    have kq0 := oq.cell (i := 0) rfl
    have fq0 := oq.fz 0
    have kq1 := oq.cell (i := 1) rfl
    have fq1 := oq.fz 1
    have kq2 := oq.cell (i := 2) rfl
    have fq2 := oq.fz 2
    go_wp2_with fail
    obtain ⟨wx, ex, nx, fA, hNx, hBx, _⟩ := ox.put notInt_z3 [.bool (decide (x.num < 0)), .slice Ax1 (digs b64 x.num.natAbs).length cx1, .slice Ax2 (digs b64 (denOf x.den)).length cx2] rfl notInt3
    simp only [setAll, Nat.reduceAdd] at ex
    rw [ex]
    have oy := fA _ _ _ m65 oy
    have op := fA _ _ _ m75 op
    have oq := fA _ _ _ m85 oq
    have ox := nx
    have HB := hBx _ (by omega) HB
    clear nx fA hBx ex
    obtain ⟨wy, ey, ny, fA, hNy, hBy, _⟩ := oy.put notInt_z3 [.bool (decide (y.num < 0)), .slice Ay1 (digs b64 y.num.natAbs).length cy1, .slice Ay2 (digs b64 (denOf y.den)).length cy2] rfl notInt3
    simp only [setAll, Nat.reduceAdd] at ey
    rw [ey]
    have ox := fA _ _ _ m56 ox
    have op := fA _ _ _ m76 op
    have oq := fA _ _ _ m86 oq
    have oy := ny
    have HB := hBy _ (by omega) HB
    clear ny fA hBy ey
    obtain ⟨wp, ep, np, fA, hNp, hBp, _⟩ := op.put notInt_z3 [.bool (decide (x.num < 0)), .slice Ap1 (digs b32 x.num.natAbs).length cp1, .slice Ap2 (digs b32 x.den).length cp2] rfl notInt3
    simp only [setAll, Nat.reduceAdd] at ep
    rw [ep]
    have ox := fA _ _ _ m57 ox
    have oy := fA _ _ _ m67 oy
    have oq := fA _ _ _ m87 oq
    have op := np
    have HB := hBp _ (by omega) HB
    clear np fA hBp ep
    obtain ⟨wq, eq, nq, fA, hNq, hBq, _⟩ := oq.put notInt_z3 [.bool (decide (y.num < 0)), .slice Aq1 (digs b32 y.num.natAbs).length cq1, .slice Aq2 (digs b32 y.den).length cq2] rfl notInt3
    simp only [setAll, Nat.reduceAdd] at eq
    rw [eq]
    have ox := fA _ _ _ m58 ox
    have oy := fA _ _ _ m68 oy
    have op := fA _ _ _ m78 op
    have oq := nq
    have HB := hBq _ (by omega) HB
    clear nq fA hBq eq
    have hx := (((hx.into hNx).into hNy).into hNp).into hNq
    have hy := (((hy.into hNx).into hNy).into hNp).into hNq
    have hp := (((hp.into hNx).into hNy).into hNp).into hNq
    have hq := (((hq.into hNx).into hNy).into hNp).into hNq
    clear hNx hNy hNp hNq kx0 fx0 kx1 fx1 kx2 fx2 ky0 fy0 ky1 fy1 ky2 fy2 kp0 fp0 kp1 fp1 kp2 fp2 kq0 fq0 kq1 fq1 kq2 fq2
    have hb5 : w0.heap.size ≤ g5 := by omega
    have hb6 : w0.heap.size ≤ g6 := by omega
    have hb7 : w0.heap.size ≤ g7 := by omega
    have hb8 : w0.heap.size ≤ g8 := by omega
    clear hg5 hg6 hg7 hg8 HO1R HO2R HO1F HO2F
    have HI : Bx (BdR (JS 0) x ∧ BdR (JS 0) y) := bx ⟨HX.out.mono (by decide), HY.out.mono (by decide)⟩
    clear HX HY
    obtain ⟨ws, rfl⟩ : ∃ ws : World, ws = wq := ⟨_, rfl⟩
    go_loopw [17] (fun s17 wr => ∃ (i : Nat) (x y : Rat) (Ax1 Ax2 : Option Addr) (cx1 cx2 : Nat) (Ay1 Ay2 : Option Addr) (cy1 cy2 : Nat) (Ap1 Ap2 : Option Addr) (cp1 cp2 : Nat) (Aq1 Aq2 : Option Addr) (cq1 cq2 : Nat), i ≤ 2 ∧ s17 = .int .i64 (i : Int) ∧ Bx (BdR (JS i) x ∧ BdR (JS i) y) ∧ Below w0.heap.size w0 wr ∧ ObjA wr g5 [.bool (decide (x.num < 0)), .slice Ax1 (digs b64 x.num.natAbs).length cx1, .slice Ax2 (digs b64 (denOf x.den)).length cx2] 27 ∧ ObjA wr g6 [.bool (decide (y.num < 0)), .slice Ay1 (digs b64 y.num.natAbs).length cy1, .slice Ay2 (digs b64 (denOf y.den)).length cy2] 27 ∧ ObjA wr g7 [.bool (decide (x.num < 0)), .slice Ap1 (digs b32 x.num.natAbs).length cp1, .slice Ap2 (digs b32 x.den).length cp2] 31 ∧ ObjA wr g8 [.bool (decide (y.num < 0)), .slice Aq1 (digs b32 y.num.natAbs).length cq1, .slice Aq2 (digs b32 y.den).length cq2] 31 ∧ IsRat wr (.agg #[.bool (decide (x.num < 0)), .slice Ax1 (digs b64 x.num.natAbs).length cx1, .slice Ax2 (digs b64 (denOf x.den)).length cx2]) x ∧ IsRat wr (.agg #[.bool (decide (y.num < 0)), .slice Ay1 (digs b64 y.num.natAbs).length cy1, .slice Ay2 (digs b64 (denOf y.den)).length cy2]) y ∧ IsRef wr (.agg #[.bool (decide (x.num < 0)), .slice Ap1 (digs b32 x.num.natAbs).length cp1, .slice Ap2 (digs b32 x.den).length cp2]) x ∧ IsRef wr (.agg #[.bool (decide (y.num < 0)), .slice Aq1 (digs b32 y.num.natAbs).length cq1, .slice Aq2 (digs b32 y.den).length cq2]) y)
      (fun s17 _ => 2 - (intOf s17).toNat)
    case atStart => exact ⟨0, x, y, _, _, _, _, _, _, _, _, _, _, _, _, _, _, _, _, by omega, rfl, HI, HB, ox, oy, op, oq, hx, hy, hp, hq⟩
    case round =>
      clear ox oy op oq hx hy hp hq HB HI
      obtain ⟨i, x, y, Ax1, Ax2, cx1, cx2, Ay1, Ay2, cy1, cy2, Ap1, Ap2, cp1, cp2, Aq1, Aq2, cq1, cq2, hi, rfl, HI, HB, ox, oy, op, oq, hx, hy, hp, hq⟩ := hrel
      by_cases hlt : i < 2
      · have BX : Bx (BdR 200 x ∧ BdR 200 y) := bx ⟨HI.out.1.mono (JS_le hlt).1, HI.out.2.mono (JS_le hlt).1⟩
        have HNX : Bx (BdR (JS (i + 1)) (x * y) ∧ BdR (JS (i + 1)) (y * y)) := bx (by
          have h1 := HI.out.1.mul HI.out.2
          have h2 := HI.out.2.mul HI.out.2
          have e := (JS_le hlt).2
          exact ⟨h1.mono e, h2.mono e⟩)
        have HCM : Bx (∀ w vx vy, IsRat w vx x → IsRat w vy y → Calls Tryz.prog 14 #[vx, vy] w (RetIs w (.int .i64 (cmpT x y)))) := bx (fun w vx vy h1 h2 => by
          have := cmp_rat w vx vy x y h1 h2 BX.out.1 BX.out.2 (by omega)
          rwa [cmpF_eq] at this)
        have HSM : Bx (∀ w vx vy, IsRat w vx x → IsRat w vy y → Calls Tryz.prog 25 #[vx, vy] w (RetIs w (.bool (cmpT x y == 0)))) := bx (fun w vx vy h1 h2 => by
          have := same_num w vx vy x y h1 h2
          rwa [dec_cmpT] at this)
        have HNC : Bx (∀ w vx vy, IsRef w vx x → IsRef w vy y → Calls Tryz.prog 24 #[vx, vy] w (RetIs w (.int .i64 (cmpT x y)))) := bx (fun w vx vy h1 h2 => ncmp_num w vx vy x y h1 h2 BX.out.1 BX.out.2 (by omega))
        have HNS : Bx (∀ w vx vy, IsRef w vx x → IsRef w vy y → Calls Tryz.prog 26 #[vx, vy] w (RetIs w (.bool (cmpT x y == 0)))) := bx (fun w vx vy h1 h2 => nsame_num w vx vy x y h1 h2 BX.out.1 BX.out.2 (by omega))
        have HBA := bx (BX.out.1.add BX.out.2)
        have HBS := bx (bd_sub' BX.out.1 BX.out.2)
        have HBM := bx (BX.out.1.mul BX.out.2)
        generalize cmpT x y = z at *
        go_wp2_with fail
        go_cut [64] (fun v64 wx => v64 = .bool false ∧ HeldQ w0 [(g5, [.bool (decide (x.num < 0)), .slice Ax1 (digs b64 x.num.natAbs).length cx1, .slice Ax2 (digs b64 (denOf x.den)).length cx2], 27), (g6, [.bool (decide (y.num < 0)), .slice Ay1 (digs b64 y.num.natAbs).length cy1, .slice Ay2 (digs b64 (denOf y.den)).length cy2], 27), (g7, [.bool (decide (x.num < 0)), .slice Ap1 (digs b32 x.num.natAbs).length cp1, .slice Ap2 (digs b32 x.den).length cp2], 31), (g8, [.bool (decide (y.num < 0)), .slice Aq1 (digs b32 y.num.natAbs).length cq1, .slice Aq2 (digs b32 y.den).length cq2], 31)] wx ∧ IsRat wx (.agg #[.bool (decide (x.num < 0)), .slice Ax1 (digs b64 x.num.natAbs).length cx1, .slice Ax2 (digs b64 (denOf x.den)).length cx2]) x ∧ IsRat wx (.agg #[.bool (decide (y.num < 0)), .slice Ay1 (digs b64 y.num.natAbs).length cy1, .slice Ay2 (digs b64 (denOf y.den)).length cy2]) y ∧ IsRef wx (.agg #[.bool (decide (x.num < 0)), .slice Ap1 (digs b32 x.num.natAbs).length cp1, .slice Ap2 (digs b32 x.den).length cp2]) x ∧ IsRef wx (.agg #[.bool (decide (y.num < 0)), .slice Aq1 (digs b32 y.num.natAbs).length cq1, .slice Aq2 (digs b32 y.den).length cq2]) y)
        case first =>
          have B := HB
          have hS : ∀ w', HeldQ w0 [(g5, [.bool (decide (x.num < 0)), .slice Ax1 (digs b64 x.num.natAbs).length cx1, .slice Ax2 (digs b64 (denOf x.den)).length cx2], 27), (g6, [.bool (decide (y.num < 0)), .slice Ay1 (digs b64 y.num.natAbs).length cy1, .slice Ay2 (digs b64 (denOf y.den)).length cy2], 27), (g7, [.bool (decide (x.num < 0)), .slice Ap1 (digs b32 x.num.natAbs).length cp1, .slice Ap2 (digs b32 x.den).length cp2], 31), (g8, [.bool (decide (y.num < 0)), .slice Aq1 (digs b32 y.num.natAbs).length cq1, .slice Aq2 (digs b32 y.den).length cq2], 31)] w' → HeldQ w0 [(g5, [.bool (decide (x.num < 0)), .slice Ax1 (digs b64 x.num.natAbs).length cx1, .slice Ax2 (digs b64 (denOf x.den)).length cx2], 27), (g6, [.bool (decide (y.num < 0)), .slice Ay1 (digs b64 y.num.natAbs).length cy1, .slice Ay2 (digs b64 (denOf y.den)).length cy2], 27), (g7, [.bool (decide (x.num < 0)), .slice Ap1 (digs b32 x.num.natAbs).length cp1, .slice Ap2 (digs b32 x.den).length cp2], 31), (g8, [.bool (decide (y.num < 0)), .slice Aq1 (digs b32 y.num.natAbs).length cq1, .slice Aq2 (digs b32 y.den).length cq2], 31)] w' ∧ w'.cell? ⟨g5, 0, none⟩ = some (.bool (decide (x.num < 0))) ∧ w'.cell? ⟨g5, 1, none⟩ = some (.slice Ax1 (digs b64 x.num.natAbs).length cx1) ∧ w'.cell? ⟨g5, 2, none⟩ = some (.slice Ax2 (digs b64 (denOf x.den)).length cx2) ∧ w'.cell? ⟨g6, 0, none⟩ = some (.bool (decide (y.num < 0))) ∧ w'.cell? ⟨g6, 1, none⟩ = some (.slice Ay1 (digs b64 y.num.natAbs).length cy1) ∧ w'.cell? ⟨g6, 2, none⟩ = some (.slice Ay2 (digs b64 (denOf y.den)).length cy2) ∧ w'.cell? ⟨g7, 0, none⟩ = some (.bool (decide (x.num < 0))) ∧ w'.cell? ⟨g7, 1, none⟩ = some (.slice Ap1 (digs b32 x.num.natAbs).length cp1) ∧ w'.cell? ⟨g7, 2, none⟩ = some (.slice Ap2 (digs b32 x.den).length cp2) ∧ w'.cell? ⟨g8, 0, none⟩ = some (.bool (decide (y.num < 0))) ∧ w'.cell? ⟨g8, 1, none⟩ = some (.slice Aq1 (digs b32 y.num.natAbs).length cq1) ∧ w'.cell? ⟨g8, 2, none⟩ = some (.slice Aq2 (digs b32 y.den).length cq2) := fun w' hh => by
            have r0 := hh.at_ (p := (g5, [.bool (decide (x.num < 0)), .slice Ax1 (digs b64 x.num.natAbs).length cx1, .slice Ax2 (digs b64 (denOf x.den)).length cx2], 27)) (by simp)
            have r1 := hh.at_ (p := (g6, [.bool (decide (y.num < 0)), .slice Ay1 (digs b64 y.num.natAbs).length cy1, .slice Ay2 (digs b64 (denOf y.den)).length cy2], 27)) (by simp)
            have r2 := hh.at_ (p := (g7, [.bool (decide (x.num < 0)), .slice Ap1 (digs b32 x.num.natAbs).length cp1, .slice Ap2 (digs b32 x.den).length cp2], 31)) (by simp)
            have r3 := hh.at_ (p := (g8, [.bool (decide (y.num < 0)), .slice Aq1 (digs b32 y.num.natAbs).length cq1, .slice Aq2 (digs b32 y.den).length cq2], 31)) (by simp)
            exact ⟨hh, r0.cell (i := 0) rfl, r0.cell (i := 1) rfl, r0.cell (i := 2) rfl, r1.cell (i := 0) rfl, r1.cell (i := 1) rfl, r1.cell (i := 2) rfl, r2.cell (i := 0) rfl, r2.cell (i := 1) rfl, r2.cell (i := 2) rfl, r3.cell (i := 0) rfl, r3.cell (i := 1) rfl, r3.cell (i := 2) rfl⟩
          have hz : HeldQ w0 [(g5, [.bool (decide (x.num < 0)), .slice Ax1 (digs b64 x.num.natAbs).length cx1, .slice Ax2 (digs b64 (denOf x.den)).length cx2], 27), (g6, [.bool (decide (y.num < 0)), .slice Ay1 (digs b64 y.num.natAbs).length cy1, .slice Ay2 (digs b64 (denOf y.den)).length cy2], 27), (g7, [.bool (decide (x.num < 0)), .slice Ap1 (digs b32 x.num.natAbs).length cp1, .slice Ap2 (digs b32 x.den).length cp2], 31), (g8, [.bool (decide (y.num < 0)), .slice Aq1 (digs b32 y.num.natAbs).length cq1, .slice Aq2 (digs b32 y.den).length cq2], 31)] wr := ⟨B, by intro p hp; simp at hp; rcases hp with rfl | rfl | rfl | rfl; exact ox; exact oy; exact op; exact oq⟩
          have hz := hz.drew
          have hx := hx.drew
          have hy := hy.drew
          have hp := hp.drew
          have hq := hq.drew
          have tk0 : True := trivial
          go_region_held3 (fun w' => HeldQ w0 [(g5, [.bool (decide (x.num < 0)), .slice Ax1 (digs b64 x.num.natAbs).length cx1, .slice Ax2 (digs b64 (denOf x.den)).length cx2], 27), (g6, [.bool (decide (y.num < 0)), .slice Ay1 (digs b64 y.num.natAbs).length cy1, .slice Ay2 (digs b64 (denOf y.den)).length cy2], 27), (g7, [.bool (decide (x.num < 0)), .slice Ap1 (digs b32 x.num.natAbs).length cp1, .slice Ap2 (digs b32 x.den).length cp2], 31), (g8, [.bool (decide (y.num < 0)), .slice Aq1 (digs b32 y.num.natAbs).length cq1, .slice Aq2 (digs b32 y.den).length cq2], 31)] w' ∧ w'.cell? ⟨g5, 0, none⟩ = some (.bool (decide (x.num < 0))) ∧ w'.cell? ⟨g5, 1, none⟩ = some (.slice Ax1 (digs b64 x.num.natAbs).length cx1) ∧ w'.cell? ⟨g5, 2, none⟩ = some (.slice Ax2 (digs b64 (denOf x.den)).length cx2) ∧ w'.cell? ⟨g6, 0, none⟩ = some (.bool (decide (y.num < 0))) ∧ w'.cell? ⟨g6, 1, none⟩ = some (.slice Ay1 (digs b64 y.num.natAbs).length cy1) ∧ w'.cell? ⟨g6, 2, none⟩ = some (.slice Ay2 (digs b64 (denOf y.den)).length cy2) ∧ w'.cell? ⟨g7, 0, none⟩ = some (.bool (decide (x.num < 0))) ∧ w'.cell? ⟨g7, 1, none⟩ = some (.slice Ap1 (digs b32 x.num.natAbs).length cp1) ∧ w'.cell? ⟨g7, 2, none⟩ = some (.slice Ap2 (digs b32 x.den).length cp2) ∧ w'.cell? ⟨g8, 0, none⟩ = some (.bool (decide (y.num < 0))) ∧ w'.cell? ⟨g8, 1, none⟩ = some (.slice Aq1 (digs b32 y.num.natAbs).length cq1) ∧ w'.cell? ⟨g8, 2, none⟩ = some (.slice Aq2 (digs b32 y.den).length cq2))
            (exact hS _ hz)
            (first
              | (go_at_call 15; have _t := tk0; (with_reducible refine Calls.mono (add_num _ _ _ x y hx hy BX.out.1 BX.out.2 (by omega)) ?_); rintro e wk ⟨va, rfl, ha1, hb⟩; have hx := hx.below hb; have hy := hy.below hb; have hp := hp.below hb; have hq := hq.below hb; have hz := HeldQ.call (And.intro hz trivial) hb; clear tk0; have tk1 : True := trivial)
              | (go_at_call 21; have _t := tk1; (with_reducible refine Calls.mono (nadd_num _ _ _ x y hp hq BX.out.1 BX.out.2 (by omega)) ?_); rintro e wk ⟨vb, rfl, ha2, hb⟩; have hx := hx.below hb; have hy := hy.below hb; have hp := hp.below hb; have hq := hq.below hb; have ha1 := ha1.below hb; have hz := HeldQ.call (And.intro hz trivial) hb; clear tk1; have tk2 : True := trivial)
              | (go_at_call 10; have _t := tk2; (with_reducible refine Calls.mono (is_yes _ _ _ (x + y) ha1 ha2 HBA.out (by omega)) ?_); rintro e wk ⟨rfl, hb⟩; have hx := hx.below hb; have hy := hy.below hb; have hp := hp.below hb; have hq := hq.below hb; have hz := HeldQ.call (And.intro hz trivial) hb; clear tk2; have tk3 : True := trivial)
              | (go_at_call 19; have _t := tk3; (with_reducible refine Calls.mono (sub_num _ _ _ x y hx hy BX.out.1 BX.out.2 (by omega)) ?_); rintro e wk ⟨vc, rfl, hs1, hb⟩; have hx := hx.below hb; have hy := hy.below hb; have hp := hp.below hb; have hq := hq.below hb; have hz := HeldQ.call (And.intro hz trivial) hb; clear tk3; have tk4 : True := trivial)
              | (go_at_call 22; have _t := tk4; (with_reducible refine Calls.mono (nsub_num _ _ _ x y hp hq BX.out.1 BX.out.2 (by omega)) ?_); rintro e wk ⟨vd, rfl, hs2, hb⟩; have hx := hx.below hb; have hy := hy.below hb; have hp := hp.below hb; have hq := hq.below hb; have hs1 := hs1.below hb; have hz := HeldQ.call (And.intro hz trivial) hb; clear tk4; have tk5 : True := trivial)
              | (go_at_call 10; have _t := tk5; (with_reducible refine Calls.mono (is_yes _ _ _ (x - y) hs1 hs2 HBS.out (by omega)) ?_); rintro e wk ⟨rfl, hb⟩; have hx := hx.below hb; have hy := hy.below hb; have hp := hp.below hb; have hq := hq.below hb; have hz := HeldQ.call (And.intro hz trivial) hb; clear tk5; have tk6 : True := trivial)
              | (go_at_call 18; have _t := tk6; (with_reducible refine Calls.mono (mul_num _ _ _ x y hx hy BX.out.1 BX.out.2 (by omega)) ?_); rintro e wk ⟨ve, rfl, hm1, hb⟩; have hx := hx.below hb; have hy := hy.below hb; have hp := hp.below hb; have hq := hq.below hb; have hz := HeldQ.call (And.intro hz trivial) hb; clear tk6; have tk7 : True := trivial)
              | (go_at_call 23; have _t := tk7; (with_reducible refine Calls.mono (nmul_num _ _ _ x y hp hq BX.out.1 BX.out.2 (by omega)) ?_); rintro e wk ⟨vf, rfl, hm2, hb⟩; have hx := hx.below hb; have hy := hy.below hb; have hp := hp.below hb; have hq := hq.below hb; have hm1 := hm1.below hb; have hz := HeldQ.call (And.intro hz trivial) hb; clear tk7; have tk8 : True := trivial)
              | (go_at_call 10; have _t := tk8; (with_reducible refine Calls.mono (is_yes _ _ _ (x * y) hm1 hm2 HBM.out (by omega)) ?_); rintro e wk ⟨rfl, hb⟩; have hx := hx.below hb; have hy := hy.below hb; have hp := hp.below hb; have hq := hq.below hb; have hz := HeldQ.call (And.intro hz trivial) hb; clear tk8; have tk9 : True := trivial)
              | (go_at_call 14; have _t := tk9; (with_reducible refine Calls.mono (HCM.out _ _ _ hx hy) ?_); rintro e wk ⟨rfl, hb⟩; have hx := hx.below hb; have hy := hy.below hb; have hp := hp.below hb; have hq := hq.below hb; have hz := HeldQ.call (And.intro hz trivial) hb; clear tk9; have tk10 : True := trivial)
              | (go_at_call 24; have _t := tk10; (with_reducible refine Calls.mono (HNC.out _ _ _ hp hq) ?_); rintro e wk ⟨rfl, hb⟩; have hx := hx.below hb; have hy := hy.below hb; have hp := hp.below hb; have hq := hq.below hb; have hz := HeldQ.call (And.intro hz trivial) hb; clear tk10; have tk11 : True := trivial)
              | (go_at_call 25; have _t := tk11; (with_reducible refine Calls.mono (HSM.out _ _ _ hx hy) ?_); rintro e wk ⟨rfl, hb⟩; have hx := hx.below hb; have hy := hy.below hb; have hp := hp.below hb; have hq := hq.below hb; have hz := HeldQ.call (And.intro hz trivial) hb; clear tk11; have tk12 : True := trivial)
              | (go_at_call 26; have _t := tk12; (with_reducible refine Calls.mono (HNS.out _ _ _ hp hq) ?_); rintro e wk ⟨rfl, hb⟩; have hx := hx.below hb; have hy := hy.below hb; have hp := hp.below hb; have hq := hq.below hb; have hz := HeldQ.call (And.intro hz trivial) hb; clear tk12; have tk13 : True := trivial))
          all_goals (
            go_wp2
            go_meet
            case rel => exact ⟨rfl, hz, hx, hy, hp, hq⟩)
        case rest =>
          obtain ⟨rfl, hz, hx, hy, hp, hq⟩ := hcut
          clear ox oy op oq HB HCM HSM HNC HNS HBA HBS HBM
          have HB := hz.b
          have ox := hz.at_ (p := (g5, [.bool (decide (x.num < 0)), .slice Ax1 (digs b64 x.num.natAbs).length cx1, .slice Ax2 (digs b64 (denOf x.den)).length cx2], 27)) (by simp)
          have oy := hz.at_ (p := (g6, [.bool (decide (y.num < 0)), .slice Ay1 (digs b64 y.num.natAbs).length cy1, .slice Ay2 (digs b64 (denOf y.den)).length cy2], 27)) (by simp)
          have op := hz.at_ (p := (g7, [.bool (decide (x.num < 0)), .slice Ap1 (digs b32 x.num.natAbs).length cp1, .slice Ap2 (digs b32 x.den).length cp2], 31)) (by simp)
          have oq := hz.at_ (p := (g8, [.bool (decide (y.num < 0)), .slice Aq1 (digs b32 y.num.natAbs).length cq1, .slice Aq2 (digs b32 y.den).length cq2], 31)) (by simp)
          clear hz
          go_wp2_with fail
          refine region_inv_lit 12 (by kernel_rfl) (by kernel_rfl) (SumJ w0 x y g5 g6 g7 g8 Ax1 Ax2 cx1 cx2 Ay1 Ay2 cy1 cy2 Ap1 Ap2 cp1 cp2 Aq1 Aq2 cq1 cq2 _ _ _ _ _ _ _ _ _ _ _ _ _ _ _ _ _ _ _ _ _ _ _ _ _ _ _ _ _ _ _ _ _ _ _ _ _ _ _ _ _ _ _ _ _ _ _ _ _ _ _ _ _ _ _ _ _ _ _ _ _ _ _ _ _ _ _) ⟨_, _, _, _, _, _, _, _, _, _, _, _, rfl, HB.drew, ⟨ox, oy, op, oq, hx.drew, hy.drew, hp.drew, hq.drew⟩, by simp, by simp, by simp, by simp, by simp, by simp, by simp, by simp, by simp, by simp, by simp, by simp⟩ ?_ ?_
          · simp only [List.take_succ_cons, List.take_zero]
            refine ⟨?_, ?_, ?_, ?_, ?_, ?_, ?_, ?_, ?_, ?_, ?_, ?_, trivial⟩
            · rintro L a wz ⟨x65, x66, x67, x68, x69, x70, x71, x72, x73, x74, x75, x76, rfl, HB, ⟨ox, oy, op, oq, hx, hy, hp, hq⟩, h0, h1, h2, h3, h4, h5, h6, h7, h8, h9, h10, h11⟩ hpre
              have c0 := ox.cell (i := 0) rfl
              have c1 := ox.cell (i := 1) rfl
              have c2 := ox.cell (i := 2) rfl
              go_wp2
              exact ⟨_, _, _, _, _, _, _, _, _, _, _, _, rfl, HB, ⟨ox, oy, op, oq, hx, hy, hp, hq⟩, fun _ => rfl, fun h => (by first | exact h1 (upd_of h (by decide)) | rfl), fun h => h2 (upd_of h (by decide)), fun h => (by first | exact h3 (upd_of h (by decide)) | rfl), fun h => (by first | exact h4 (upd_of h (by decide)) | rfl), fun h => h5 (upd_of h (by decide)), fun h => (by first | exact h6 (upd_of h (by decide)) | rfl), fun h => (by first | exact h7 (upd_of h (by decide)) | rfl), fun h => h8 (upd_of h (by decide)), fun h => (by first | exact h9 (upd_of h (by decide)) | rfl), fun h => (by first | exact h10 (upd_of h (by decide)) | rfl), fun h => h11 (upd_of h (by decide))⟩
            · rintro L a wz ⟨x65, x66, x67, x68, x69, x70, x71, x72, x73, x74, x75, x76, rfl, HB, ⟨ox, oy, op, oq, hx, hy, hp, hq⟩, h0, h1, h2, h3, h4, h5, h6, h7, h8, h9, h10, h11⟩ hpre
              have c0 := oy.cell (i := 0) rfl
              have c1 := oy.cell (i := 1) rfl
              have c2 := oy.cell (i := 2) rfl
              go_wp2
              exact ⟨_, _, _, _, _, _, _, _, _, _, _, _, rfl, HB, ⟨ox, oy, op, oq, hx, hy, hp, hq⟩, fun h => (by first | exact h0 (upd_of h (by decide)) | rfl), fun _ => rfl, fun h => h2 (upd_of h (by decide)), fun h => (by first | exact h3 (upd_of h (by decide)) | rfl), fun h => (by first | exact h4 (upd_of h (by decide)) | rfl), fun h => h5 (upd_of h (by decide)), fun h => (by first | exact h6 (upd_of h (by decide)) | rfl), fun h => (by first | exact h7 (upd_of h (by decide)) | rfl), fun h => h8 (upd_of h (by decide)), fun h => (by first | exact h9 (upd_of h (by decide)) | rfl), fun h => (by first | exact h10 (upd_of h (by decide)) | rfl), fun h => h11 (upd_of h (by decide))⟩
            · rintro L a wz ⟨x65, x66, x67, x68, x69, x70, x71, x72, x73, x74, x75, x76, rfl, HB, ⟨ox, oy, op, oq, hx, hy, hp, hq⟩, h0, h1, h2, h3, h4, h5, h6, h7, h8, h9, h10, h11⟩ hpre
              have q0 := h0 (hpre 0 (by decide))
              subst q0
              have q1 := h1 (hpre 1 (by decide))
              subst q1
              go_wp2_with fail
              refine Calls.mono (mul_num _ _ _ x y hx hy BX.out.1 BX.out.2 (by omega)) ?_
              rintro e wy ⟨v, rfl, hv, hb⟩
              go_wp2
              exact ⟨_, _, _, _, _, _, _, _, _, _, _, _, rfl, HB.trans (hb.mono HB.size), ⟨(ox).gone hb, (oy).gone hb, (op).gone hb, (oq).gone hb, (hx).below hb, (hy).below hb, (hp).below hb, (hq).below hb⟩, fun h => (by first | exact h0 (upd_of h (by decide)) | rfl), fun h => (by first | exact h1 (upd_of h (by decide)) | rfl), fun _ => hv, fun h => (by first | exact h3 (upd_of h (by decide)) | rfl), fun h => (by first | exact h4 (upd_of h (by decide)) | rfl), fun h => (h5 (upd_of h (by decide))).below hb, fun h => (by first | exact h6 (upd_of h (by decide)) | rfl), fun h => (by first | exact h7 (upd_of h (by decide)) | rfl), fun h => (h8 (upd_of h (by decide))).below hb, fun h => (by first | exact h9 (upd_of h (by decide)) | rfl), fun h => (by first | exact h10 (upd_of h (by decide)) | rfl), fun h => (h11 (upd_of h (by decide))).below hb⟩
            · rintro L a wz ⟨x65, x66, x67, x68, x69, x70, x71, x72, x73, x74, x75, x76, rfl, HB, ⟨ox, oy, op, oq, hx, hy, hp, hq⟩, h0, h1, h2, h3, h4, h5, h6, h7, h8, h9, h10, h11⟩ hpre
              have c0 := oy.cell (i := 0) rfl
              have c1 := oy.cell (i := 1) rfl
              have c2 := oy.cell (i := 2) rfl
              go_wp2
              exact ⟨_, _, _, _, _, _, _, _, _, _, _, _, rfl, HB, ⟨ox, oy, op, oq, hx, hy, hp, hq⟩, fun h => (by first | exact h0 (upd_of h (by decide)) | rfl), fun h => (by first | exact h1 (upd_of h (by decide)) | rfl), fun h => h2 (upd_of h (by decide)), fun _ => rfl, fun h => (by first | exact h4 (upd_of h (by decide)) | rfl), fun h => h5 (upd_of h (by decide)), fun h => (by first | exact h6 (upd_of h (by decide)) | rfl), fun h => (by first | exact h7 (upd_of h (by decide)) | rfl), fun h => h8 (upd_of h (by decide)), fun h => (by first | exact h9 (upd_of h (by decide)) | rfl), fun h => (by first | exact h10 (upd_of h (by decide)) | rfl), fun h => h11 (upd_of h (by decide))⟩
            · rintro L a wz ⟨x65, x66, x67, x68, x69, x70, x71, x72, x73, x74, x75, x76, rfl, HB, ⟨ox, oy, op, oq, hx, hy, hp, hq⟩, h0, h1, h2, h3, h4, h5, h6, h7, h8, h9, h10, h11⟩ hpre
              have c0 := oy.cell (i := 0) rfl
              have c1 := oy.cell (i := 1) rfl
              have c2 := oy.cell (i := 2) rfl
              go_wp2
              exact ⟨_, _, _, _, _, _, _, _, _, _, _, _, rfl, HB, ⟨ox, oy, op, oq, hx, hy, hp, hq⟩, fun h => (by first | exact h0 (upd_of h (by decide)) | rfl), fun h => (by first | exact h1 (upd_of h (by decide)) | rfl), fun h => h2 (upd_of h (by decide)), fun h => (by first | exact h3 (upd_of h (by decide)) | rfl), fun _ => rfl, fun h => h5 (upd_of h (by decide)), fun h => (by first | exact h6 (upd_of h (by decide)) | rfl), fun h => (by first | exact h7 (upd_of h (by decide)) | rfl), fun h => h8 (upd_of h (by decide)), fun h => (by first | exact h9 (upd_of h (by decide)) | rfl), fun h => (by first | exact h10 (upd_of h (by decide)) | rfl), fun h => h11 (upd_of h (by decide))⟩
            · rintro L a wz ⟨x65, x66, x67, x68, x69, x70, x71, x72, x73, x74, x75, x76, rfl, HB, ⟨ox, oy, op, oq, hx, hy, hp, hq⟩, h0, h1, h2, h3, h4, h5, h6, h7, h8, h9, h10, h11⟩ hpre
              have q0 := h3 (hpre 3 (by decide))
              subst q0
              have q1 := h4 (hpre 4 (by decide))
              subst q1
              go_wp2_with fail
              refine Calls.mono (mul_num _ _ _ y y hy hy BX.out.2 BX.out.2 (by omega)) ?_
              rintro e wy ⟨v, rfl, hv, hb⟩
              go_wp2
              exact ⟨_, _, _, _, _, _, _, _, _, _, _, _, rfl, HB.trans (hb.mono HB.size), ⟨(ox).gone hb, (oy).gone hb, (op).gone hb, (oq).gone hb, (hx).below hb, (hy).below hb, (hp).below hb, (hq).below hb⟩, fun h => (by first | exact h0 (upd_of h (by decide)) | rfl), fun h => (by first | exact h1 (upd_of h (by decide)) | rfl), fun h => (h2 (upd_of h (by decide))).below hb, fun h => (by first | exact h3 (upd_of h (by decide)) | rfl), fun h => (by first | exact h4 (upd_of h (by decide)) | rfl), fun _ => hv, fun h => (by first | exact h6 (upd_of h (by decide)) | rfl), fun h => (by first | exact h7 (upd_of h (by decide)) | rfl), fun h => (h8 (upd_of h (by decide))).below hb, fun h => (by first | exact h9 (upd_of h (by decide)) | rfl), fun h => (by first | exact h10 (upd_of h (by decide)) | rfl), fun h => (h11 (upd_of h (by decide))).below hb⟩
            · rintro L a wz ⟨x65, x66, x67, x68, x69, x70, x71, x72, x73, x74, x75, x76, rfl, HB, ⟨ox, oy, op, oq, hx, hy, hp, hq⟩, h0, h1, h2, h3, h4, h5, h6, h7, h8, h9, h10, h11⟩ hpre
              have c0 := op.cell (i := 0) rfl
              have c1 := op.cell (i := 1) rfl
              have c2 := op.cell (i := 2) rfl
              go_wp2
              exact ⟨_, _, _, _, _, _, _, _, _, _, _, _, rfl, HB, ⟨ox, oy, op, oq, hx, hy, hp, hq⟩, fun h => (by first | exact h0 (upd_of h (by decide)) | rfl), fun h => (by first | exact h1 (upd_of h (by decide)) | rfl), fun h => h2 (upd_of h (by decide)), fun h => (by first | exact h3 (upd_of h (by decide)) | rfl), fun h => (by first | exact h4 (upd_of h (by decide)) | rfl), fun h => h5 (upd_of h (by decide)), fun _ => rfl, fun h => (by first | exact h7 (upd_of h (by decide)) | rfl), fun h => h8 (upd_of h (by decide)), fun h => (by first | exact h9 (upd_of h (by decide)) | rfl), fun h => (by first | exact h10 (upd_of h (by decide)) | rfl), fun h => h11 (upd_of h (by decide))⟩
            · rintro L a wz ⟨x65, x66, x67, x68, x69, x70, x71, x72, x73, x74, x75, x76, rfl, HB, ⟨ox, oy, op, oq, hx, hy, hp, hq⟩, h0, h1, h2, h3, h4, h5, h6, h7, h8, h9, h10, h11⟩ hpre
              have c0 := oq.cell (i := 0) rfl
              have c1 := oq.cell (i := 1) rfl
              have c2 := oq.cell (i := 2) rfl
              go_wp2
              exact ⟨_, _, _, _, _, _, _, _, _, _, _, _, rfl, HB, ⟨ox, oy, op, oq, hx, hy, hp, hq⟩, fun h => (by first | exact h0 (upd_of h (by decide)) | rfl), fun h => (by first | exact h1 (upd_of h (by decide)) | rfl), fun h => h2 (upd_of h (by decide)), fun h => (by first | exact h3 (upd_of h (by decide)) | rfl), fun h => (by first | exact h4 (upd_of h (by decide)) | rfl), fun h => h5 (upd_of h (by decide)), fun h => (by first | exact h6 (upd_of h (by decide)) | rfl), fun _ => rfl, fun h => h8 (upd_of h (by decide)), fun h => (by first | exact h9 (upd_of h (by decide)) | rfl), fun h => (by first | exact h10 (upd_of h (by decide)) | rfl), fun h => h11 (upd_of h (by decide))⟩
            · rintro L a wz ⟨x65, x66, x67, x68, x69, x70, x71, x72, x73, x74, x75, x76, rfl, HB, ⟨ox, oy, op, oq, hx, hy, hp, hq⟩, h0, h1, h2, h3, h4, h5, h6, h7, h8, h9, h10, h11⟩ hpre
              have q0 := h6 (hpre 6 (by decide))
              subst q0
              have q1 := h7 (hpre 7 (by decide))
              subst q1
              go_wp2_with fail
              refine Calls.mono (nmul_num _ _ _ x y hp hq BX.out.1 BX.out.2 (by omega)) ?_
              rintro e wy ⟨v, rfl, hv, hb⟩
              go_wp2
              exact ⟨_, _, _, _, _, _, _, _, _, _, _, _, rfl, HB.trans (hb.mono HB.size), ⟨(ox).gone hb, (oy).gone hb, (op).gone hb, (oq).gone hb, (hx).below hb, (hy).below hb, (hp).below hb, (hq).below hb⟩, fun h => (by first | exact h0 (upd_of h (by decide)) | rfl), fun h => (by first | exact h1 (upd_of h (by decide)) | rfl), fun h => (h2 (upd_of h (by decide))).below hb, fun h => (by first | exact h3 (upd_of h (by decide)) | rfl), fun h => (by first | exact h4 (upd_of h (by decide)) | rfl), fun h => (h5 (upd_of h (by decide))).below hb, fun h => (by first | exact h6 (upd_of h (by decide)) | rfl), fun h => (by first | exact h7 (upd_of h (by decide)) | rfl), fun _ => hv, fun h => (by first | exact h9 (upd_of h (by decide)) | rfl), fun h => (by first | exact h10 (upd_of h (by decide)) | rfl), fun h => (h11 (upd_of h (by decide))).below hb⟩
            · rintro L a wz ⟨x65, x66, x67, x68, x69, x70, x71, x72, x73, x74, x75, x76, rfl, HB, ⟨ox, oy, op, oq, hx, hy, hp, hq⟩, h0, h1, h2, h3, h4, h5, h6, h7, h8, h9, h10, h11⟩ hpre
              have c0 := oq.cell (i := 0) rfl
              have c1 := oq.cell (i := 1) rfl
              have c2 := oq.cell (i := 2) rfl
              go_wp2
              exact ⟨_, _, _, _, _, _, _, _, _, _, _, _, rfl, HB, ⟨ox, oy, op, oq, hx, hy, hp, hq⟩, fun h => (by first | exact h0 (upd_of h (by decide)) | rfl), fun h => (by first | exact h1 (upd_of h (by decide)) | rfl), fun h => h2 (upd_of h (by decide)), fun h => (by first | exact h3 (upd_of h (by decide)) | rfl), fun h => (by first | exact h4 (upd_of h (by decide)) | rfl), fun h => h5 (upd_of h (by decide)), fun h => (by first | exact h6 (upd_of h (by decide)) | rfl), fun h => (by first | exact h7 (upd_of h (by decide)) | rfl), fun h => h8 (upd_of h (by decide)), fun _ => rfl, fun h => (by first | exact h10 (upd_of h (by decide)) | rfl), fun h => h11 (upd_of h (by decide))⟩
            · rintro L a wz ⟨x65, x66, x67, x68, x69, x70, x71, x72, x73, x74, x75, x76, rfl, HB, ⟨ox, oy, op, oq, hx, hy, hp, hq⟩, h0, h1, h2, h3, h4, h5, h6, h7, h8, h9, h10, h11⟩ hpre
              have c0 := oq.cell (i := 0) rfl
              have c1 := oq.cell (i := 1) rfl
              have c2 := oq.cell (i := 2) rfl
              go_wp2
              exact ⟨_, _, _, _, _, _, _, _, _, _, _, _, rfl, HB, ⟨ox, oy, op, oq, hx, hy, hp, hq⟩, fun h => (by first | exact h0 (upd_of h (by decide)) | rfl), fun h => (by first | exact h1 (upd_of h (by decide)) | rfl), fun h => h2 (upd_of h (by decide)), fun h => (by first | exact h3 (upd_of h (by decide)) | rfl), fun h => (by first | exact h4 (upd_of h (by decide)) | rfl), fun h => h5 (upd_of h (by decide)), fun h => (by first | exact h6 (upd_of h (by decide)) | rfl), fun h => (by first | exact h7 (upd_of h (by decide)) | rfl), fun h => h8 (upd_of h (by decide)), fun h => (by first | exact h9 (upd_of h (by decide)) | rfl), fun _ => rfl, fun h => h11 (upd_of h (by decide))⟩
            · rintro L a wz ⟨x65, x66, x67, x68, x69, x70, x71, x72, x73, x74, x75, x76, rfl, HB, ⟨ox, oy, op, oq, hx, hy, hp, hq⟩, h0, h1, h2, h3, h4, h5, h6, h7, h8, h9, h10, h11⟩ hpre
              have q0 := h9 (hpre 9 (by decide))
              subst q0
              have q1 := h10 (hpre 10 (by decide))
              subst q1
              go_wp2_with fail
              refine Calls.mono (nmul_num _ _ _ y y hq hq BX.out.2 BX.out.2 (by omega)) ?_
              rintro e wy ⟨v, rfl, hv, hb⟩
              go_wp2
              exact ⟨_, _, _, _, _, _, _, _, _, _, _, _, rfl, HB.trans (hb.mono HB.size), ⟨(ox).gone hb, (oy).gone hb, (op).gone hb, (oq).gone hb, (hx).below hb, (hy).below hb, (hp).below hb, (hq).below hb⟩, fun h => (by first | exact h0 (upd_of h (by decide)) | rfl), fun h => (by first | exact h1 (upd_of h (by decide)) | rfl), fun h => (h2 (upd_of h (by decide))).below hb, fun h => (by first | exact h3 (upd_of h (by decide)) | rfl), fun h => (by first | exact h4 (upd_of h (by decide)) | rfl), fun h => (h5 (upd_of h (by decide))).below hb, fun h => (by first | exact h6 (upd_of h (by decide)) | rfl), fun h => (by first | exact h7 (upd_of h (by decide)) | rfl), fun h => (h8 (upd_of h (by decide))).below hb, fun h => (by first | exact h9 (upd_of h (by decide)) | rfl), fun h => (by first | exact h10 (upd_of h (by decide)) | rfl), fun _ => hv⟩
          · intro L a wz hI hall
            simp only [List.drop_succ_cons, List.drop_zero]
            clear ox oy op oq HB hx hy hp hq
            obtain ⟨x65, x66, x67, x68, x69, x70, x71, x72, x73, x74, x75, x76, rfl, HB, ⟨ox, oy, op, oq, hx, hy, hp, hq⟩, h0, h1, h2, h3, h4, h5, h6, h7, h8, h9, h10, h11⟩ := hI
            have rx := h2 (hall 2 (by omega))
            have ry := h5 (hall 5 (by omega))
            have rp := h8 (hall 8 (by omega))
            have rq := h11 (hall 11 (by omega))
            clear h0 h1 h2 h3 h4 h5 h6 h7 h8 h9 h10 h11 hall hx hy hp hq
            obtain ⟨x2, hx2⟩ : ∃ x2, x * y = x2 := ⟨_, rfl⟩
            obtain ⟨y2, hy2⟩ : ∃ y2, y * y = y2 := ⟨_, rfl⟩
            rw [hx2] at rx rp HNX
            rw [hy2] at ry rq HNX
            clear hx2 hy2
            obtain ⟨vx21, vx22, rfl, hx2a, hx2b⟩ := id rx
            obtain ⟨Ax21, cx21, rfl, _⟩ := id hx2a
            obtain ⟨Ax22, cx22, rfl, _⟩ := id hx2b
            obtain ⟨vy21, vy22, rfl, hy2a, hy2b⟩ := id ry
            obtain ⟨Ay21, cy21, rfl, _⟩ := id hy2a
            obtain ⟨Ay22, cy22, rfl, _⟩ := id hy2b
            obtain ⟨vp21, vp22, rfl, hp2a, hp2b⟩ := id rp
            obtain ⟨Ap21, cp21, rfl, _⟩ := id hp2a
            obtain ⟨Ap22, cp22, rfl, _⟩ := id hp2b
            obtain ⟨vq21, vq22, rfl, hq2a, hq2b⟩ := id rq
            obtain ⟨Aq21, cq21, rfl, _⟩ := id hq2a
            obtain ⟨Aq22, cq22, rfl, _⟩ := id hq2b
            clear hx2a hx2b hy2a hy2b hp2a hp2b hq2a hq2b
            have kx0 := ox.cell (i := 0) rfl
            have fx0 := ox.fz 0
            have kx1 := ox.cell (i := 1) rfl
            have fx1 := ox.fz 1
            have kx2 := ox.cell (i := 2) rfl
            have fx2 := ox.fz 2
            have ky0 := oy.cell (i := 0) rfl
            have fy0 := oy.fz 0
            have ky1 := oy.cell (i := 1) rfl
            have fy1 := oy.fz 1
            have ky2 := oy.cell (i := 2) rfl
            have fy2 := oy.fz 2
            have kp0 := op.cell (i := 0) rfl
            have fp0 := op.fz 0
            have kp1 := op.cell (i := 1) rfl
            have fp1 := op.fz 1
            have kp2 := op.cell (i := 2) rfl
            have fp2 := op.fz 2
            have kq0 := oq.cell (i := 0) rfl
            have fq0 := oq.fz 0
            have kq1 := oq.cell (i := 1) rfl
            have fq1 := oq.fz 1
            have kq2 := oq.cell (i := 2) rfl
            have fq2 := oq.fz 2
            go_wp2_with fail
            obtain ⟨wx, ex, nx, fA, hNx, hBx, _⟩ := ox.put notInt3 [.bool (decide (x2.num < 0)), .slice Ax21 (digs b64 x2.num.natAbs).length cx21, .slice Ax22 (digs b64 (denOf x2.den)).length cx22] rfl notInt3
            simp only [setAll, Nat.reduceAdd] at ex
            rw [ex]
            have oy := fA _ _ _ m65 oy
            have op := fA _ _ _ m75 op
            have oq := fA _ _ _ m85 oq
            have ox := nx
            have HB := hBx _ (by omega) HB
            clear nx fA hBx ex
            obtain ⟨wy, ey, ny, fA, hNy, hBy, _⟩ := oy.put notInt3 [.bool (decide (y2.num < 0)), .slice Ay21 (digs b64 y2.num.natAbs).length cy21, .slice Ay22 (digs b64 (denOf y2.den)).length cy22] rfl notInt3
            simp only [setAll, Nat.reduceAdd] at ey
            rw [ey]
            have ox := fA _ _ _ m56 ox
            have op := fA _ _ _ m76 op
            have oq := fA _ _ _ m86 oq
            have oy := ny
            have HB := hBy _ (by omega) HB
            clear ny fA hBy ey
            obtain ⟨wp, ep, np, fA, hNp, hBp, _⟩ := op.put notInt3 [.bool (decide (x2.num < 0)), .slice Ap21 (digs b32 x2.num.natAbs).length cp21, .slice Ap22 (digs b32 x2.den).length cp22] rfl notInt3
            simp only [setAll, Nat.reduceAdd] at ep
            rw [ep]
            have ox := fA _ _ _ m57 ox
            have oy := fA _ _ _ m67 oy
            have oq := fA _ _ _ m87 oq
            have op := np
            have HB := hBp _ (by omega) HB
            clear np fA hBp ep
            obtain ⟨wq, eq, nq, fA, hNq, hBq, _⟩ := oq.put notInt3 [.bool (decide (y2.num < 0)), .slice Aq21 (digs b32 y2.num.natAbs).length cq21, .slice Aq22 (digs b32 y2.den).length cq22] rfl notInt3
            simp only [setAll, Nat.reduceAdd] at eq
            rw [eq]
            have ox := fA _ _ _ m58 ox
            have oy := fA _ _ _ m68 oy
            have op := fA _ _ _ m78 op
            have oq := nq
            have HB := hBq _ (by omega) HB
            clear nq fA hBq eq
            have rx := (((rx.into hNx).into hNy).into hNp).into hNq
            have ry := (((ry.into hNx).into hNy).into hNp).into hNq
            have rp := (((rp.into hNx).into hNy).into hNp).into hNq
            have rq := (((rq.into hNx).into hNy).into hNp).into hNq
            go_roundw
            case rel => exact ⟨i + 1, x2, y2, _, _, _, _, _, _, _, _, _, _, _, _, _, _, _, _, by omega, by go_num, HNX, HB, ox, oy, op, oq, rx, ry, rp, rq⟩
            case measure => (simp [intOf]; try omega)
      · obtain rfl : i = 2 := by omega
        go_wp2_with fail
        refine Calls.mono (awake_num _) ?_
        rintro e wf ⟨rfl, hb⟩
        go_wp2
        go_ret
        exact ⟨rfl, HB.trans (hb.mono HB.size)⟩

theorem sums_law (w0 : World) (n1 d1 n2 d2 : Int) (h1 : -9223372036854775808 ≤ n1 ∧ n1 ≤ 9223372036854775807) (h2 : d1 ≤ 9223372036854775807) (h3 : -9223372036854775808 ≤ n2 ∧ n2 ≤ 9223372036854775807) (h4 : d2 ≤ 9223372036854775807) :
    Calls Tryz.prog 4 #[.agg #[.int .i64 n1, .int .i64 d1], .agg #[.int .i64 n2, .int .i64 d2]] w0 (RetIs w0 (.bool true)) :=
  sums_walk w0 n1 d1 n2 d2 _ _ (bx (fun w => of_num w n1 d1 h1.1 h1.2 h2)) (bx (fun w => of_num w n2 d2 h3.1 h3.2 h4)) (bx (fun w => nof_num w n1 d1 h1.1 h1.2 h2)) (bx (fun w => nof_num w n2 d2 h3.1 h3.2 h4)) (bx (bd_ofR h1.1 h1.2 h2)) (bx (bd_ofR h3.1 h3.2 h4))
end Wx
