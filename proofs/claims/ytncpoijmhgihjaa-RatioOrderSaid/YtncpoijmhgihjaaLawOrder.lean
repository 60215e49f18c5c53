import Derived.Test.YtncpoijmhgihjaaProg
import Derived.Handy
import Derived.Deep.RegionHeld3
import Derived.Test.YtncpoijmhgihjaaPlain1
import Derived.Test.YtncpoijmhgihjaaMem
import Derived.Test.YtncpoijmhgihjaaLimbs1
import Derived.Test.YtncpoijmhgihjaaRat1
import Derived.Test.YtncpoijmhgihjaaRat2
import Derived.Test.YtncpoijmhgihjaaPlainRat
import Derived.Test.YtncpoijmhgihjaaRat3
import Derived.Test.YtncpoijmhgihjaaRat4
import Derived.Test.YtncpoijmhgihjaaInt
import Derived.Test.YtncpoijmhgihjaaLess
import Derived.Test.YtncpoijmhgihjaaSame
import Derived.Test.YtncpoijmhgihjaaCmp
import Derived.Test.YtncpoijmhgihjaaDown
import Derived.Test.YtncpoijmhgihjaaFloor
import Derived.Test.YtncpoijmhgihjaaStr
import Derived.Test.YtncpoijmhgihjaaText
import Derived.Test.YtncpoijmhgihjaaRText
import Derived.Test.YtncpoijmhgihjaaParse
import Derived.Test.YtncpoijmhgihjaaHeld
import Derived.Test.YtncpoijmhgihjaaOf
import Derived.Test.YtncpoijmhgihjaaInv
import Derived.Test.YtncpoijmhgihjaaInvR
import Derived.Test.YtncpoijmhgihjaaAwake
import Derived.Test.YtncpoijmhgihjaaPlainOrd
import Derived.Test.YtncpoijmhgihjaaPlainText
import Derived.Test.YtncpoijmhgihjaaPlainOrder
namespace Wx
open Go Go.RowKit Go.Proofs

def OrdI (w0 : World) (n1 d1 : Int) (n2 d2 : Int) (n3 d3 : Int) (L : Nat → Bool) (a : Act) (w : World) : Prop :=
  ∃ x7 x8 x9 x12 x13 x14 x15 x16 x17 : Value, a = ⟨(List.toArray ((.agg #[.int .i64 n1, .int .i64 d1]) :: (.agg #[.int .i64 n2, .int .i64 d2]) :: (.agg #[.int .i64 n3, .int .i64 d3]) :: (.pointer (some ⟨w0.heap.size, 0, none⟩)) :: (.pointer (some ⟨w0.heap.size + 1, 0, none⟩)) :: (.pointer (some ⟨w0.heap.size + 1 + 1, 0, none⟩)) :: (.bool false) :: x7 :: x8 :: x9 :: undef :: undef :: x12 :: x13 :: x14 :: x15 :: x16 :: x17 :: undef :: undef :: undef :: undef :: undef :: undef :: undef :: undef :: undef :: undef :: undef :: undef :: undef :: undef :: undef :: undef :: undef :: undef :: undef :: undef :: undef :: undef :: undef :: undef :: undef :: undef :: undef :: undef :: undef :: undef :: undef :: undef :: undef :: undef :: undef :: undef :: undef :: undef :: undef :: undef :: undef :: undef :: undef :: undef :: undef :: undef :: undef :: undef :: undef :: undef :: undef :: undef :: undef :: undef :: undef :: undef :: undef :: undef :: undef :: undef :: undef :: undef :: undef :: undef :: undef :: undef :: undef :: undef :: undef :: undef :: undef :: undef :: undef :: undef :: undef :: undef :: undef :: undef :: undef :: undef :: undef :: undef :: undef :: undef :: undef :: undef :: undef :: undef :: undef :: undef :: undef :: undef :: undef :: undef :: undef :: undef :: undef :: undef :: undef :: undef :: undef :: undef :: undef :: undef :: undef :: undef :: undef :: [])), []⟩ ∧ Below w0.heap.size w0 w ∧ (ObjA w w0.heap.size [.int .i64 n1, .int .i64 d1] 23 ∧ ObjA w (w0.heap.size + 1) [.int .i64 n2, .int .i64 d2] 23 ∧ ObjA w (w0.heap.size + 1 + 1) [.int .i64 n3, .int .i64 d3] 23) ∧
    (L 0 = true → x12 = .agg #[.int .i64 n1, .int .i64 d1]) ∧
    (L 1 = true → IsRat w x13 (ofR n1 d1)) ∧
    (L 2 = true → x14 = .agg #[.int .i64 n2, .int .i64 d2]) ∧
    (L 3 = true → IsRat w x15 (ofR n2 d2)) ∧
    (L 4 = true → x16 = .agg #[.int .i64 n3, .int .i64 d3]) ∧
    (L 5 = true → IsRat w x17 (ofR n3 d3)) ∧
    (L 6 = true → NewR w0.heap.size w x7) ∧
    (L 7 = true → NewR w0.heap.size w x8) ∧
    (L 8 = true → NewR w0.heap.size w x9) ∧
    (L 6 = true → L 7 = true → x7 ≠ x8) ∧
    (L 6 = true → L 8 = true → x7 ≠ x9) ∧
    (L 7 = true → L 8 = true → x8 ≠ x9)

set_option maxRecDepth 100000 in
set_option maxHeartbeats 40000000 in
theorem order_law (w0 : World) (n1 d1 n2 d2 n3 d3 : Int) (HH : Bx ((-9223372036854775808 ≤ n1 ∧ n1 ≤ 9223372036854775807 ∧ d1 ≤ 9223372036854775807) ∧ (-9223372036854775808 ≤ n2 ∧ n2 ≤ 9223372036854775807 ∧ d2 ≤ 9223372036854775807) ∧ (-9223372036854775808 ≤ n3 ∧ n3 ≤ 9223372036854775807 ∧ d3 ≤ 9223372036854775807))) : Calls Try.prog 3 #[.agg #[.int .i64 n1, .int .i64 d1], .agg #[.int .i64 n2, .int .i64 d2], .agg #[.int .i64 n3, .int .i64 d3]] w0 (RetIs w0 (.bool true)) := by
  obtain ⟨HX, HY, HZ⟩ := (And.intro (bx (bd_ofR HH.out.1.1 HH.out.1.2.1 HH.out.1.2.2)) (And.intro (bx (bd_ofR HH.out.2.1.1 HH.out.2.1.2.1 HH.out.2.1.2.2)) (bx (bd_ofR HH.out.2.2.1 HH.out.2.2.2.1 HH.out.2.2.2.2))))
  go_enter Try.func3, Try.ntmps3
  go_wp2_with fail
  obtain ⟨w1, e1, o1, b1, s1⟩ := layA w0 [.int .i64 n1, .int .i64 d1] 23
  obtain ⟨w2, e2, o2, b2, s2⟩ := layA w1 [.int .i64 n2, .int .i64 d2] 23
  obtain ⟨w3, e3, o3, b3, s3⟩ := layA w2 [.int .i64 n3, .int .i64 d3] 23
  rw [e1, e2, e3]
  rw [s1] at o2
  rw [s2, s1] at o3
  have B := (b1.trans (b2.mono b1.size)).trans (b3.mono (by omega))
  have o1 := (o1.gone b2).gone b3
  have o2 := o2.gone b3
  refine region_inv_lit 9 (by kernel_rfl) (by kernel_rfl) (OrdI w0 n1 d1 n2 d2 n3 d3) ?_ ?_ ?_
  · exact ⟨_, _, _, _, _, _, _, _, _, rfl, B.drew, ⟨o1, o2, o3⟩, by simp, by simp, by simp, by simp, by simp, by simp, by simp, by simp, by simp, by simp, by simp, by simp⟩
  · simp only [List.take_succ_cons, List.take_zero]
    refine ⟨?_, ?_, ?_, ?_, ?_, ?_, ?_, ?_, ?_, trivial⟩
    · rintro L a wz ⟨x7, x8, x9, x12, x13, x14, x15, x16, x17, rfl, HB, ⟨p1, p2, p3⟩, h0, h1, h2, h3, h4, h5, h6, h7, h8, n6_7, n6_8, n7_8⟩ hpre
      have c0 := p1.cell (i := 0) rfl
      have c1 := p1.cell (i := 1) rfl
      go_wp2
      exact ⟨_, _, _, _, _, _, _, _, _, rfl, HB, ⟨p1, p2, p3⟩, fun _ => rfl, fun h => h1 (upd_of h (by decide)), fun h => (by first | exact h2 (upd_of h (by decide)) | rfl), fun h => h3 (upd_of h (by decide)), fun h => (by first | exact h4 (upd_of h (by decide)) | rfl), fun h => h5 (upd_of h (by decide)), fun h => h6 (upd_of h (by decide)), fun h => h7 (upd_of h (by decide)), fun h => h8 (upd_of h (by decide)), fun h h' => n6_7 (upd_of h (by decide)) (upd_of h' (by decide)), fun h h' => n6_8 (upd_of h (by decide)) (upd_of h' (by decide)), fun h h' => n7_8 (upd_of h (by decide)) (upd_of h' (by decide))⟩
    · rintro L a wz ⟨x7, x8, x9, x12, x13, x14, x15, x16, x17, rfl, HB, ⟨p1, p2, p3⟩, h0, h1, h2, h3, h4, h5, h6, h7, h8, n6_7, n6_8, n7_8⟩ hpre
      have q := h0 (hpre 0 (by decide))
      subst q
      go_wp2_with fail
      refine Calls.mono (of_num wz n1 d1 HH.out.1.1 HH.out.1.2.1 HH.out.1.2.2) ?_
      rintro e wy ⟨v, rfl, hv, hb⟩
      go_wp2
      exact ⟨_, _, _, _, _, _, _, _, _, rfl, HB.trans (hb.mono HB.size), ⟨(p1).gone hb, (p2).gone hb, (p3).gone hb⟩, fun h => (by first | exact h0 (upd_of h (by decide)) | rfl), fun _ => hv, fun h => (by first | exact h2 (upd_of h (by decide)) | rfl), fun h => (h3 (upd_of h (by decide))).below hb, fun h => (by first | exact h4 (upd_of h (by decide)) | rfl), fun h => (h5 (upd_of h (by decide))).below hb, fun h => (h6 (upd_of h (by decide))).gone hb, fun h => (h7 (upd_of h (by decide))).gone hb, fun h => (h8 (upd_of h (by decide))).gone hb, fun h h' => n6_7 (upd_of h (by decide)) (upd_of h' (by decide)), fun h h' => n6_8 (upd_of h (by decide)) (upd_of h' (by decide)), fun h h' => n7_8 (upd_of h (by decide)) (upd_of h' (by decide))⟩
    · rintro L a wz ⟨x7, x8, x9, x12, x13, x14, x15, x16, x17, rfl, HB, ⟨p1, p2, p3⟩, h0, h1, h2, h3, h4, h5, h6, h7, h8, n6_7, n6_8, n7_8⟩ hpre
      have c0 := p2.cell (i := 0) rfl
      have c1 := p2.cell (i := 1) rfl
      go_wp2
      exact ⟨_, _, _, _, _, _, _, _, _, rfl, HB, ⟨p1, p2, p3⟩, fun h => (by first | exact h0 (upd_of h (by decide)) | rfl), fun h => h1 (upd_of h (by decide)), fun _ => rfl, fun h => h3 (upd_of h (by decide)), fun h => (by first | exact h4 (upd_of h (by decide)) | rfl), fun h => h5 (upd_of h (by decide)), fun h => h6 (upd_of h (by decide)), fun h => h7 (upd_of h (by decide)), fun h => h8 (upd_of h (by decide)), fun h h' => n6_7 (upd_of h (by decide)) (upd_of h' (by decide)), fun h h' => n6_8 (upd_of h (by decide)) (upd_of h' (by decide)), fun h h' => n7_8 (upd_of h (by decide)) (upd_of h' (by decide))⟩
    · rintro L a wz ⟨x7, x8, x9, x12, x13, x14, x15, x16, x17, rfl, HB, ⟨p1, p2, p3⟩, h0, h1, h2, h3, h4, h5, h6, h7, h8, n6_7, n6_8, n7_8⟩ hpre
      have q := h2 (hpre 2 (by decide))
      subst q
      go_wp2_with fail
      refine Calls.mono (of_num wz n2 d2 HH.out.2.1.1 HH.out.2.1.2.1 HH.out.2.1.2.2) ?_
      rintro e wy ⟨v, rfl, hv, hb⟩
      go_wp2
      exact ⟨_, _, _, _, _, _, _, _, _, rfl, HB.trans (hb.mono HB.size), ⟨(p1).gone hb, (p2).gone hb, (p3).gone hb⟩, fun h => (by first | exact h0 (upd_of h (by decide)) | rfl), fun h => (h1 (upd_of h (by decide))).below hb, fun h => (by first | exact h2 (upd_of h (by decide)) | rfl), fun _ => hv, fun h => (by first | exact h4 (upd_of h (by decide)) | rfl), fun h => (h5 (upd_of h (by decide))).below hb, fun h => (h6 (upd_of h (by decide))).gone hb, fun h => (h7 (upd_of h (by decide))).gone hb, fun h => (h8 (upd_of h (by decide))).gone hb, fun h h' => n6_7 (upd_of h (by decide)) (upd_of h' (by decide)), fun h h' => n6_8 (upd_of h (by decide)) (upd_of h' (by decide)), fun h h' => n7_8 (upd_of h (by decide)) (upd_of h' (by decide))⟩
    · rintro L a wz ⟨x7, x8, x9, x12, x13, x14, x15, x16, x17, rfl, HB, ⟨p1, p2, p3⟩, h0, h1, h2, h3, h4, h5, h6, h7, h8, n6_7, n6_8, n7_8⟩ hpre
      have c0 := p3.cell (i := 0) rfl
      have c1 := p3.cell (i := 1) rfl
      go_wp2
      exact ⟨_, _, _, _, _, _, _, _, _, rfl, HB, ⟨p1, p2, p3⟩, fun h => (by first | exact h0 (upd_of h (by decide)) | rfl), fun h => h1 (upd_of h (by decide)), fun h => (by first | exact h2 (upd_of h (by decide)) | rfl), fun h => h3 (upd_of h (by decide)), fun _ => rfl, fun h => h5 (upd_of h (by decide)), fun h => h6 (upd_of h (by decide)), fun h => h7 (upd_of h (by decide)), fun h => h8 (upd_of h (by decide)), fun h h' => n6_7 (upd_of h (by decide)) (upd_of h' (by decide)), fun h h' => n6_8 (upd_of h (by decide)) (upd_of h' (by decide)), fun h h' => n7_8 (upd_of h (by decide)) (upd_of h' (by decide))⟩
    · rintro L a wz ⟨x7, x8, x9, x12, x13, x14, x15, x16, x17, rfl, HB, ⟨p1, p2, p3⟩, h0, h1, h2, h3, h4, h5, h6, h7, h8, n6_7, n6_8, n7_8⟩ hpre
      have q := h4 (hpre 4 (by decide))
      subst q
      go_wp2_with fail
      refine Calls.mono (of_num wz n3 d3 HH.out.2.2.1 HH.out.2.2.2.1 HH.out.2.2.2.2) ?_
      rintro e wy ⟨v, rfl, hv, hb⟩
      go_wp2
      exact ⟨_, _, _, _, _, _, _, _, _, rfl, HB.trans (hb.mono HB.size), ⟨(p1).gone hb, (p2).gone hb, (p3).gone hb⟩, fun h => (by first | exact h0 (upd_of h (by decide)) | rfl), fun h => (h1 (upd_of h (by decide))).below hb, fun h => (by first | exact h2 (upd_of h (by decide)) | rfl), fun h => (h3 (upd_of h (by decide))).below hb, fun h => (by first | exact h4 (upd_of h (by decide)) | rfl), fun _ => hv, fun h => (h6 (upd_of h (by decide))).gone hb, fun h => (h7 (upd_of h (by decide))).gone hb, fun h => (h8 (upd_of h (by decide))).gone hb, fun h h' => n6_7 (upd_of h (by decide)) (upd_of h' (by decide)), fun h h' => n6_8 (upd_of h (by decide)) (upd_of h' (by decide)), fun h h' => n7_8 (upd_of h (by decide)) (upd_of h' (by decide))⟩
    · rintro L a wz ⟨x7, x8, x9, x12, x13, x14, x15, x16, x17, rfl, HB, ⟨p1, p2, p3⟩, h0, h1, h2, h3, h4, h5, h6, h7, h8, n6_7, n6_8, n7_8⟩ hpre
      have hb : Below wz.heap.size wz (wz.alloc (.cells #[.bool false, .slice none 0 0, .slice none 0 0] 27)) := Below.alloc (Below.refl _ _) (Nat.le_refl _) _
      go_wp2
      exact ⟨_, _, _, _, _, _, _, _, _, rfl, HB.trans (hb.mono HB.size), ⟨(p1).gone hb, (p2).gone hb, (p3).gone hb⟩, fun h => (by first | exact h0 (upd_of h (by decide)) | rfl), fun h => (h1 (upd_of h (by decide))).below hb, fun h => (by first | exact h2 (upd_of h (by decide)) | rfl), fun h => (h3 (upd_of h (by decide))).below hb, fun h => (by first | exact h4 (upd_of h (by decide)) | rfl), fun h => (h5 (upd_of h (by decide))).below hb, fun _ => NewR.new HB, fun h => (h7 (upd_of h (by decide))).gone hb, fun h => (h8 (upd_of h (by decide))).gone hb, fun _ h => ((h7 (upd_of h (by decide))).ne).symm, fun _ h => ((h8 (upd_of h (by decide))).ne).symm, fun h h' => n7_8 (upd_of h (by decide)) (upd_of h' (by decide))⟩
    · rintro L a wz ⟨x7, x8, x9, x12, x13, x14, x15, x16, x17, rfl, HB, ⟨p1, p2, p3⟩, h0, h1, h2, h3, h4, h5, h6, h7, h8, n6_7, n6_8, n7_8⟩ hpre
      have hb : Below wz.heap.size wz (wz.alloc (.cells #[.bool false, .slice none 0 0, .slice none 0 0] 27)) := Below.alloc (Below.refl _ _) (Nat.le_refl _) _
      go_wp2
      exact ⟨_, _, _, _, _, _, _, _, _, rfl, HB.trans (hb.mono HB.size), ⟨(p1).gone hb, (p2).gone hb, (p3).gone hb⟩, fun h => (by first | exact h0 (upd_of h (by decide)) | rfl), fun h => (h1 (upd_of h (by decide))).below hb, fun h => (by first | exact h2 (upd_of h (by decide)) | rfl), fun h => (h3 (upd_of h (by decide))).below hb, fun h => (by first | exact h4 (upd_of h (by decide)) | rfl), fun h => (h5 (upd_of h (by decide))).below hb, fun h => (h6 (upd_of h (by decide))).gone hb, fun _ => NewR.new HB, fun h => (h8 (upd_of h (by decide))).gone hb, fun h _ => (h6 (upd_of h (by decide))).ne, fun h h' => n6_8 (upd_of h (by decide)) (upd_of h' (by decide)), fun _ h => ((h8 (upd_of h (by decide))).ne).symm⟩
    · rintro L a wz ⟨x7, x8, x9, x12, x13, x14, x15, x16, x17, rfl, HB, ⟨p1, p2, p3⟩, h0, h1, h2, h3, h4, h5, h6, h7, h8, n6_7, n6_8, n7_8⟩ hpre
      have hb : Below wz.heap.size wz (wz.alloc (.cells #[.bool false, .slice none 0 0, .slice none 0 0] 27)) := Below.alloc (Below.refl _ _) (Nat.le_refl _) _
      go_wp2
      exact ⟨_, _, _, _, _, _, _, _, _, rfl, HB.trans (hb.mono HB.size), ⟨(p1).gone hb, (p2).gone hb, (p3).gone hb⟩, fun h => (by first | exact h0 (upd_of h (by decide)) | rfl), fun h => (h1 (upd_of h (by decide))).below hb, fun h => (by first | exact h2 (upd_of h (by decide)) | rfl), fun h => (h3 (upd_of h (by decide))).below hb, fun h => (by first | exact h4 (upd_of h (by decide)) | rfl), fun h => (h5 (upd_of h (by decide))).below hb, fun h => (h6 (upd_of h (by decide))).gone hb, fun h => (h7 (upd_of h (by decide))).gone hb, fun _ => NewR.new HB, fun h h' => n6_7 (upd_of h (by decide)) (upd_of h' (by decide)), fun h _ => (h6 (upd_of h (by decide))).ne, fun h _ => (h7 (upd_of h (by decide))).ne⟩
  · intro L a wz hI hall
    simp only [List.drop_succ_cons, List.drop_zero]
    obtain ⟨x7, x8, x9, x12, x13, x14, x15, x16, x17, rfl, HB, ⟨p1, p2, p3⟩, h0, h1, h2, h3, h4, h5, h6, h7, h8, n6_7, n6_8, n7_8⟩ := hI
    clear e1 e2 e3 o1 o2 o3 b1 b2 b3 s1 s2 s3 B p1 p2 p3
    obtain ⟨g7, rfl, hg7, o7⟩ := h6 (hall 6 (by omega))
    obtain ⟨g8, rfl, hg8, o8⟩ := h7 (hall 7 (by omega))
    obtain ⟨g9, rfl, hg9, o9⟩ := h8 (hall 8 (by omega))
    have m1 := ptr_ne (n6_7 (hall 6 (by omega)) (hall 7 (by omega)))
    have m2 := ptr_ne (n6_8 (hall 6 (by omega)) (hall 8 (by omega)))
    have m3 := ptr_ne (n7_8 (hall 7 (by omega)) (hall 8 (by omega)))
    have hx := h1 (hall 1 (by omega))
    have hy := h3 (hall 3 (by omega))
    have hz := h5 (hall 5 (by omega))
    clear h0 h1 h2 h3 h4 h5 h6 h7 h8 n6_7 n6_8 n7_8 hall HH
    generalize ofR n1 d1 = x at *
    generalize ofR n2 d2 = y at *
    generalize ofR n3 d3 = z at *
    obtain ⟨vxn, vxd, rfl, hxn, hxd⟩ := id hx
    obtain ⟨Ax1, cx1, rfl, _⟩ := id hxn
    obtain ⟨Ax2, cx2, rfl, _⟩ := id hxd
    obtain ⟨vyn, vyd, rfl, hyn, hyd⟩ := id hy
    obtain ⟨Ay1, cy1, rfl, _⟩ := id hyn
    obtain ⟨Ay2, cy2, rfl, _⟩ := id hyd
    obtain ⟨vzn, vzd, rfl, hzn, hzd⟩ := id hz
    obtain ⟨Az1, cz1, rfl, _⟩ := id hzn
    obtain ⟨Az2, cz2, rfl, _⟩ := id hzd
    have k70 := o7.cell (i := 0) rfl
    have k71 := o7.cell (i := 1) rfl
    have k72 := o7.cell (i := 2) rfl
    have f70 := o7.fz 0
    have f71 := o7.fz 1
    have f72 := o7.fz 2
    have k80 := o8.cell (i := 0) rfl
    have k81 := o8.cell (i := 1) rfl
    have k82 := o8.cell (i := 2) rfl
    have f80 := o8.fz 0
    have f81 := o8.fz 1
    have f82 := o8.fz 2
    have k90 := o9.cell (i := 0) rfl
    have k91 := o9.cell (i := 1) rfl
    have k92 := o9.cell (i := 2) rfl
    have f90 := o9.fz 0
    have f91 := o9.fz 1
    have f92 := o9.fz 2
    have m4 := m1.symm
    have m5 := m2.symm
    have m6 := m3.symm
    go_wp2_with fail
    obtain ⟨wA, eA, oA, fA, nA, bA, sA⟩ := o7.put notInt3 [.bool (decide (x.num < 0)), .slice Ax1 (digs b64 x.num.natAbs).length cx1, .slice Ax2 (digs b64 (denOf x.den)).length cx2] rfl notInt3
    simp only [setAll, Nat.reduceAdd] at eA
    rw [eA]
    have o8 := fA _ _ _ m4 o8
    have o9 := fA _ _ _ m5 o9
    obtain ⟨wB, eB, oB, fB, nB, bB, sB⟩ := o8.put notInt3 [.bool (decide (y.num < 0)), .slice Ay1 (digs b64 y.num.natAbs).length cy1, .slice Ay2 (digs b64 (denOf y.den)).length cy2] rfl notInt3
    simp only [setAll, Nat.reduceAdd] at eB
    rw [eB]
    have o7 := fB _ _ _ m1 oA
    have o9 := fB _ _ _ m6 o9
    obtain ⟨wC, eC, oC, fC, nC, bC, sC⟩ := o9.put notInt3 [.bool (decide (z.num < 0)), .slice Az1 (digs b64 z.num.natAbs).length cz1, .slice Az2 (digs b64 (denOf z.den)).length cz2] rfl notInt3
    simp only [setAll, Nat.reduceAdd] at eC
    rw [eC]
    have o7 := fC _ _ _ m2 o7
    have o8 := fC _ _ _ m3 oB
    have hx := ((hx.into nA).into nB).into nC
    have hy := ((hy.into nA).into nB).into nC
    have hz := ((hz.into nA).into nB).into nC
    have HB := bC _ hg9 (bB _ hg8 (bA _ hg7 HB))
    have hq : HeldQ w0 [(g7, [.bool (decide (x.num < 0)), .slice Ax1 (digs b64 x.num.natAbs).length cx1, .slice Ax2 (digs b64 (denOf x.den)).length cx2], 27), (g8, [.bool (decide (y.num < 0)), .slice Ay1 (digs b64 y.num.natAbs).length cy1, .slice Ay2 (digs b64 (denOf y.den)).length cy2], 27), (g9, [.bool (decide (z.num < 0)), .slice Az1 (digs b64 z.num.natAbs).length cz1, .slice Az2 (digs b64 (denOf z.den)).length cz2], 27)] wC := ⟨HB, by intro p hp; simp at hp; rcases hp with rfl | rfl | rfl; exact o7; exact o8; exact oC⟩
    clear oA oB oC eA eB eC fA fB fC nA nB nC bA bB bC sA sB sC k70 k71 k72 k80 k81 k82 k90 k91 k92 f70 f71 f72 f80 f81 f82 f90 f91 f92 o7 o8 o9 HB hxn hxd hyn hyd hzn hzd
    obtain ⟨c, e, f, s, t, F1, F2, F3, F4, F5, F6, F7, F8, F9, F10, F11, F12, F13, F14, F15, F16, F17⟩ := ord_facts x y z
    have HXY : Bx (∀ w vx vy, IsRat w vx x → IsRat w vy y → Calls Try.prog 7 #[vx, vy] w (RetIs w (.int .i64 c))) := bx (fun w vx vy hx hy => by rw [← F1]; exact cmp_rat w vx vy x y hx hy HX.out HY.out (by omega))
    have HYX : Bx (∀ w vx vy, IsRat w vx y → IsRat w vy x → Calls Try.prog 7 #[vx, vy] w (RetIs w (.int .i64 (-c)))) := bx (fun w vx vy hx hy => by rw [← F2]; exact cmp_rat w vx vy y x hx hy HY.out HX.out (by omega))
    have HYZ : Bx (∀ w vx vy, IsRat w vx y → IsRat w vy z → Calls Try.prog 7 #[vx, vy] w (RetIs w (.int .i64 e))) := bx (fun w vx vy hx hy => by rw [← F8]; exact cmp_rat w vx vy y z hx hy HY.out HZ.out (by omega))
    have HXZ : Bx (∀ w vx vy, IsRat w vx x → IsRat w vy z → Calls Try.prog 7 #[vx, vy] w (RetIs w (.int .i64 f))) := bx (fun w vx vy hx hy => by rw [← F9]; exact cmp_rat w vx vy x z hx hy HX.out HZ.out (by omega))
    have HSA : Bx (∀ w vx vy, IsRat w vx x → IsRat w vy y → Calls Try.prog 8 #[vx, vy] w (RetIs w (.bool (c == 0)))) := bx (fun w vx vy hx hy => by rw [← F3]; exact same_num w vx vy x y hx hy)
    have HSX : Bx (∀ w vx vy, IsRat w vx x → IsRat w vy x → Calls Try.prog 8 #[vx, vy] w (RetIs w (.bool true))) := bx (fun w vx vy hx hy => by have := same_num w vx vy x x hx hy; rwa [decide_eq_true rfl] at this)
    have HSD : Bx (∀ w vx, IsRat w vx (x - y) → Calls Try.prog 10 #[vx] w (RetIs w (.int .i64 c))) := bx (fun w vx hx => by rw [← F4]; exact sign_num w vx _ hx)
    have HSQ : Bx (∀ w vx, IsRat w vx (x * x) → Calls Try.prog 10 #[vx] w (RetIs w (.int .i64 t))) := bx (fun w vx hx => by rw [← F5]; exact sign_num w vx _ hx)
    have HSZ : Bx (∀ w vx, IsRat w vx z → Calls Try.prog 10 #[vx] w (RetIs w (.int .i64 s))) := bx (fun w vx hx => by rw [← F10]; exact sign_num w vx _ hx)
    have HAD : Bx (∀ w vx vy, IsRat w vx (x + z) → IsRat w vy (y + z) → Calls Try.prog 7 #[vx, vy] w (RetIs w (.int .i64 c))) := bx (fun w vx vy hx hy => by rw [← F7]; exact cmp_rat w vx vy _ _ hx hy (HX.out.add HZ.out) (HY.out.add HZ.out) (by omega))
    have HMU : Bx (∀ w vx vy, IsRat w vx (x * z) → IsRat w vy (y * z) → Calls Try.prog 7 #[vx, vy] w (RetIs w (.int .i64 (s * c)))) := bx (fun w vx vy hx hy => by rw [← F11]; exact cmp_rat w vx vy _ _ hx hy (HX.out.mul HZ.out) (HY.out.mul HZ.out) (by omega))
    have HTX := bx F17
    have HTR := bx F16
    obtain ⟨a1, a2⟩ := F6
    obtain ⟨a3, a4⟩ := F12
    obtain ⟨a5, a6⟩ := F13
    obtain ⟨a7, a8⟩ := F14
    obtain ⟨a9, a10⟩ := F15
    have SC : Bx (-9223372036854775808 ≤ s * c ∧ s * c ≤ 9223372036854775807) := bx (by
      have h1 : s = -1 ∨ s = 0 ∨ s = 1 := by omega
      rcases h1 with rfl | rfl | rfl <;> omega)
    have hd1 : decide (t < 0) = false := decide_eq_false (by omega)
    have w1 : IntKind.i64.wrap c = c := IntWalk.i64_in _ (by omega)
    clear F1 F2 F3 F4 F5 F7 F8 F9 F10 F11 F16 F17
    have hS : ∀ w', HeldQ w0 [(g7, [.bool (decide (x.num < 0)), .slice Ax1 (digs b64 x.num.natAbs).length cx1, .slice Ax2 (digs b64 (denOf x.den)).length cx2], 27), (g8, [.bool (decide (y.num < 0)), .slice Ay1 (digs b64 y.num.natAbs).length cy1, .slice Ay2 (digs b64 (denOf y.den)).length cy2], 27), (g9, [.bool (decide (z.num < 0)), .slice Az1 (digs b64 z.num.natAbs).length cz1, .slice Az2 (digs b64 (denOf z.den)).length cz2], 27)] w' → HeldQ w0 [(g7, [.bool (decide (x.num < 0)), .slice Ax1 (digs b64 x.num.natAbs).length cx1, .slice Ax2 (digs b64 (denOf x.den)).length cx2], 27), (g8, [.bool (decide (y.num < 0)), .slice Ay1 (digs b64 y.num.natAbs).length cy1, .slice Ay2 (digs b64 (denOf y.den)).length cy2], 27), (g9, [.bool (decide (z.num < 0)), .slice Az1 (digs b64 z.num.natAbs).length cz1, .slice Az2 (digs b64 (denOf z.den)).length cz2], 27)] w' ∧ w'.cell? ⟨g7, 0, none⟩ = some (.bool (decide (x.num < 0))) ∧ w'.cell? ⟨g7, 1, none⟩ = some (.slice Ax1 (digs b64 x.num.natAbs).length cx1) ∧ w'.cell? ⟨g7, 2, none⟩ = some (.slice Ax2 (digs b64 (denOf x.den)).length cx2) ∧ w'.cell? ⟨g8, 0, none⟩ = some (.bool (decide (y.num < 0))) ∧ w'.cell? ⟨g8, 1, none⟩ = some (.slice Ay1 (digs b64 y.num.natAbs).length cy1) ∧ w'.cell? ⟨g8, 2, none⟩ = some (.slice Ay2 (digs b64 (denOf y.den)).length cy2) ∧ w'.cell? ⟨g9, 0, none⟩ = some (.bool (decide (z.num < 0))) ∧ w'.cell? ⟨g9, 1, none⟩ = some (.slice Az1 (digs b64 z.num.natAbs).length cz1) ∧ w'.cell? ⟨g9, 2, none⟩ = some (.slice Az2 (digs b64 (denOf z.den)).length cz2) := fun w' hh => by
      have r7 := hh.at_ (p := (g7, [.bool (decide (x.num < 0)), .slice Ax1 (digs b64 x.num.natAbs).length cx1, .slice Ax2 (digs b64 (denOf x.den)).length cx2], 27)) (by simp)
      have r8 := hh.at_ (p := (g8, [.bool (decide (y.num < 0)), .slice Ay1 (digs b64 y.num.natAbs).length cy1, .slice Ay2 (digs b64 (denOf y.den)).length cy2], 27)) (by simp)
      have r9 := hh.at_ (p := (g9, [.bool (decide (z.num < 0)), .slice Az1 (digs b64 z.num.natAbs).length cz1, .slice Az2 (digs b64 (denOf z.den)).length cz2], 27)) (by simp)
      exact ⟨hh, r7.cell (i := 0) rfl, r7.cell (i := 1) rfl, r7.cell (i := 2) rfl, r8.cell (i := 0) rfl, r8.cell (i := 1) rfl, r8.cell (i := 2) rfl, r9.cell (i := 0) rfl, r9.cell (i := 1) rfl, r9.cell (i := 2) rfl⟩
    have hq := hq.drew
    have hx := hx.drew
    have hy := hy.drew
    have hz := hz.drew
    go_region_held3 (fun w' => HeldQ w0 [(g7, [.bool (decide (x.num < 0)), .slice Ax1 (digs b64 x.num.natAbs).length cx1, .slice Ax2 (digs b64 (denOf x.den)).length cx2], 27), (g8, [.bool (decide (y.num < 0)), .slice Ay1 (digs b64 y.num.natAbs).length cy1, .slice Ay2 (digs b64 (denOf y.den)).length cy2], 27), (g9, [.bool (decide (z.num < 0)), .slice Az1 (digs b64 z.num.natAbs).length cz1, .slice Az2 (digs b64 (denOf z.den)).length cz2], 27)] w' ∧ w'.cell? ⟨g7, 0, none⟩ = some (.bool (decide (x.num < 0))) ∧ w'.cell? ⟨g7, 1, none⟩ = some (.slice Ax1 (digs b64 x.num.natAbs).length cx1) ∧ w'.cell? ⟨g7, 2, none⟩ = some (.slice Ax2 (digs b64 (denOf x.den)).length cx2) ∧ w'.cell? ⟨g8, 0, none⟩ = some (.bool (decide (y.num < 0))) ∧ w'.cell? ⟨g8, 1, none⟩ = some (.slice Ay1 (digs b64 y.num.natAbs).length cy1) ∧ w'.cell? ⟨g8, 2, none⟩ = some (.slice Ay2 (digs b64 (denOf y.den)).length cy2) ∧ w'.cell? ⟨g9, 0, none⟩ = some (.bool (decide (z.num < 0))) ∧ w'.cell? ⟨g9, 1, none⟩ = some (.slice Az1 (digs b64 z.num.natAbs).length cz1) ∧ w'.cell? ⟨g9, 2, none⟩ = some (.slice Az2 (digs b64 (denOf z.den)).length cz2))
      (exact hS _ hq)
      (first
        | (go_at_call 7; (with_reducible refine Calls.mono (HXY.out _ _ _ hx hy) ?_); rintro e wk ⟨rfl, hb⟩; (try have hx := hx.below hb); (try have hy := hy.below hb); (try have hz := hz.below hb); (try have ht1 := ht1.below hb); (try have ht2 := ht2.below hb); have hq := HeldQ.call (And.intro hq trivial) hb)
        | (go_at_call 7; (with_reducible refine Calls.mono (HYX.out _ _ _ hy hx) ?_); rintro e wk ⟨rfl, hb⟩; (try have hx := hx.below hb); (try have hy := hy.below hb); (try have hz := hz.below hb); (try have ht1 := ht1.below hb); (try have ht2 := ht2.below hb); have hq := HeldQ.call (And.intro hq trivial) hb)
        | (go_at_call 8; (with_reducible refine Calls.mono (HSA.out _ _ _ hx hy) ?_); rintro e wk ⟨rfl, hb⟩; (try have hx := hx.below hb); (try have hy := hy.below hb); (try have hz := hz.below hb); (try have ht1 := ht1.below hb); (try have ht2 := ht2.below hb); have hq := HeldQ.call (And.intro hq trivial) hb)
        | (go_at_call 9; (with_reducible refine Calls.mono (sub_num _ _ _ x y hx hy HX.out HY.out (by omega)) ?_); rintro e wk ⟨vht1, rfl, ht10, hb⟩; (try have hx := hx.below hb); (try have hy := hy.below hb); (try have hz := hz.below hb); (try have ht1 := ht1.below hb); (try have ht2 := ht2.below hb); have hq := HeldQ.call (And.intro hq trivial) hb; have ht1 := ht10)
        | (go_at_call 10; (with_reducible refine Calls.mono (HSD.out _ _ ht1) ?_); rintro e wk ⟨rfl, hb⟩; (try have hx := hx.below hb); (try have hy := hy.below hb); (try have hz := hz.below hb); (try have ht1 := ht1.below hb); (try have ht2 := ht2.below hb); have hq := HeldQ.call (And.intro hq trivial) hb)
        | (go_at_call 11; (with_reducible refine Calls.mono (mul_num _ _ _ x x hx hx HX.out HX.out (by omega)) ?_); rintro e wk ⟨vht1, rfl, ht10, hb⟩; (try have hx := hx.below hb); (try have hy := hy.below hb); (try have hz := hz.below hb); (try have ht1 := ht1.below hb); (try have ht2 := ht2.below hb); have hq := HeldQ.call (And.intro hq trivial) hb; have ht1 := ht10)
        | (go_at_call 10; (with_reducible refine Calls.mono (HSQ.out _ _ ht1) ?_); rintro e wk ⟨rfl, hb⟩; (try have hx := hx.below hb); (try have hy := hy.below hb); (try have hz := hz.below hb); (try have ht1 := ht1.below hb); (try have ht2 := ht2.below hb); have hq := HeldQ.call (And.intro hq trivial) hb)
        | (go_at_call 12; (with_reducible refine Calls.mono (add_num _ _ _ x z hx hz HX.out HZ.out (by omega)) ?_); rintro e wk ⟨vht1, rfl, ht10, hb⟩; (try have hx := hx.below hb); (try have hy := hy.below hb); (try have hz := hz.below hb); (try have ht1 := ht1.below hb); (try have ht2 := ht2.below hb); have hq := HeldQ.call (And.intro hq trivial) hb; have ht1 := ht10)
        | (go_at_call 12; (with_reducible refine Calls.mono (add_num _ _ _ y z hy hz HY.out HZ.out (by omega)) ?_); rintro e wk ⟨vht2, rfl, ht20, hb⟩; (try have hx := hx.below hb); (try have hy := hy.below hb); (try have hz := hz.below hb); (try have ht1 := ht1.below hb); (try have ht2 := ht2.below hb); have hq := HeldQ.call (And.intro hq trivial) hb; have ht2 := ht20)
        | (go_at_call 7; (with_reducible refine Calls.mono (HAD.out _ _ _ ht1 ht2) ?_); rintro e wk ⟨rfl, hb⟩; (try have hx := hx.below hb); (try have hy := hy.below hb); (try have hz := hz.below hb); (try have ht1 := ht1.below hb); (try have ht2 := ht2.below hb); have hq := HeldQ.call (And.intro hq trivial) hb))
    all_goals
      obtain ⟨_, k0, k1, k2, k3, k4, k5, k6, k7, k8⟩ := hS _ hq
      rcases Int.lt_or_le 0 c with hc1 | hc1
      · have dc : decide (c ≤ 0) = false := decide_eq_false (by omega)
        go_wp2_with fail
        refine Calls.mono (HXY.out _ _ _ hx hy) ?_
        rintro e wk ⟨rfl, hb⟩
        have hx := hx.below hb
        have hy := hy.below hb
        have hz := hz.below hb
        have hq := HeldQ.call (And.intro hq trivial) hb
        clear k0 k1 k2 k3 k4 k5 k6 k7 k8
        obtain ⟨_, k0, k1, k2, k3, k4, k5, k6, k7, k8⟩ := hS _ hq
        go_wp2_with fail
        have ⟨PT1, PT2⟩ := parse_text x
        have HPT : Bx (∀ w, Calls Try.prog 13 #[.string (strOf (textR x))] w (RetRE w x 0)) := bx (fun w => by
          have := parse_ok w (textR x) (textR_wf x) (by have := textR_len HX.out; omega) PT1 (by rw [PT2])
          rwa [PT2] at this)
        clear PT1 PT2
        refine Calls.mono (rtext_num _ _ x hx HX.out (by omega)) ?_
        rintro e wk ⟨rfl, hb⟩
        have hx := hx.below hb
        have hy := hy.below hb
        have hz := hz.below hb
        have hq := HeldQ.call (And.intro hq trivial) hb
        clear k0 k1 k2 k3 k4 k5 k6 k7 k8
        go_wp2_with fail
        refine Calls.mono (HPT.out _) ?_
        rintro e wl ⟨vp, rfl, hp, hb⟩
        have hx := hx.below hb
        have hy := hy.below hb
        have hz := hz.below hb
        have hq := HeldQ.call (And.intro hq trivial) hb
        obtain ⟨vpn, vpd, rfl, hpn, hpd⟩ := id hp
        obtain ⟨Ap1, cp1, rfl, _⟩ := id hpn
        obtain ⟨Ap2, cp2, rfl, _⟩ := id hpd
        go_wp2_with fail
        obtain ⟨wm, em, om, bm, sm⟩ := layA wl [.bool (decide (x.num < 0)), .slice Ap1 (digs b64 x.num.natAbs).length cp1, .slice Ap2 (digs b64 (denOf x.den)).length cp2] 27
        rw [em]
        have hx := hx.below bm
        have hy := hy.below bm
        have hz := hz.below bm
        have hp := hp.below bm
        have hq := HeldQ.call (And.intro hq trivial) bm
        obtain ⟨gp, hgp⟩ : ∃ gp, gp = wl.heap.size := ⟨_, rfl⟩
        rw [← hgp] at om ⊢
        have hq : HeldQ w0 [(gp, [.bool (decide (x.num < 0)), .slice Ap1 (digs b64 x.num.natAbs).length cp1, .slice Ap2 (digs b64 (denOf x.den)).length cp2], 27), (g7, [.bool (decide (x.num < 0)), .slice Ax1 (digs b64 x.num.natAbs).length cx1, .slice Ax2 (digs b64 (denOf x.den)).length cx2], 27), (g8, [.bool (decide (y.num < 0)), .slice Ay1 (digs b64 y.num.natAbs).length cy1, .slice Ay2 (digs b64 (denOf y.den)).length cy2], 27), (g9, [.bool (decide (z.num < 0)), .slice Az1 (digs b64 z.num.natAbs).length cz1, .slice Az2 (digs b64 (denOf z.den)).length cz2], 27)] wm := ⟨hq.1, by
          intro r hr
          rcases List.mem_cons.1 hr with rfl | hr
          · exact om
          · exact hq.2 r hr⟩
        clear em om bm sm hgp hpn hpd
        have hS4 : ∀ w', HeldQ w0 [(gp, [.bool (decide (x.num < 0)), .slice Ap1 (digs b64 x.num.natAbs).length cp1, .slice Ap2 (digs b64 (denOf x.den)).length cp2], 27), (g7, [.bool (decide (x.num < 0)), .slice Ax1 (digs b64 x.num.natAbs).length cx1, .slice Ax2 (digs b64 (denOf x.den)).length cx2], 27), (g8, [.bool (decide (y.num < 0)), .slice Ay1 (digs b64 y.num.natAbs).length cy1, .slice Ay2 (digs b64 (denOf y.den)).length cy2], 27), (g9, [.bool (decide (z.num < 0)), .slice Az1 (digs b64 z.num.natAbs).length cz1, .slice Az2 (digs b64 (denOf z.den)).length cz2], 27)] w' → HeldQ w0 [(gp, [.bool (decide (x.num < 0)), .slice Ap1 (digs b64 x.num.natAbs).length cp1, .slice Ap2 (digs b64 (denOf x.den)).length cp2], 27), (g7, [.bool (decide (x.num < 0)), .slice Ax1 (digs b64 x.num.natAbs).length cx1, .slice Ax2 (digs b64 (denOf x.den)).length cx2], 27), (g8, [.bool (decide (y.num < 0)), .slice Ay1 (digs b64 y.num.natAbs).length cy1, .slice Ay2 (digs b64 (denOf y.den)).length cy2], 27), (g9, [.bool (decide (z.num < 0)), .slice Az1 (digs b64 z.num.natAbs).length cz1, .slice Az2 (digs b64 (denOf z.den)).length cz2], 27)] w' ∧ w'.cell? ⟨gp, 0, none⟩ = some (.bool (decide (x.num < 0))) ∧ w'.cell? ⟨gp, 1, none⟩ = some (.slice Ap1 (digs b64 x.num.natAbs).length cp1) ∧ w'.cell? ⟨gp, 2, none⟩ = some (.slice Ap2 (digs b64 (denOf x.den)).length cp2) ∧ w'.cell? ⟨g7, 0, none⟩ = some (.bool (decide (x.num < 0))) ∧ w'.cell? ⟨g7, 1, none⟩ = some (.slice Ax1 (digs b64 x.num.natAbs).length cx1) ∧ w'.cell? ⟨g7, 2, none⟩ = some (.slice Ax2 (digs b64 (denOf x.den)).length cx2) ∧ w'.cell? ⟨g8, 0, none⟩ = some (.bool (decide (y.num < 0))) ∧ w'.cell? ⟨g8, 1, none⟩ = some (.slice Ay1 (digs b64 y.num.natAbs).length cy1) ∧ w'.cell? ⟨g8, 2, none⟩ = some (.slice Ay2 (digs b64 (denOf y.den)).length cy2) ∧ w'.cell? ⟨g9, 0, none⟩ = some (.bool (decide (z.num < 0))) ∧ w'.cell? ⟨g9, 1, none⟩ = some (.slice Az1 (digs b64 z.num.natAbs).length cz1) ∧ w'.cell? ⟨g9, 2, none⟩ = some (.slice Az2 (digs b64 (denOf z.den)).length cz2) := fun w' hh => by
          have r6 := hh.at_ (p := (gp, [.bool (decide (x.num < 0)), .slice Ap1 (digs b64 x.num.natAbs).length cp1, .slice Ap2 (digs b64 (denOf x.den)).length cp2], 27)) (by simp)
          have r7 := hh.at_ (p := (g7, [.bool (decide (x.num < 0)), .slice Ax1 (digs b64 x.num.natAbs).length cx1, .slice Ax2 (digs b64 (denOf x.den)).length cx2], 27)) (by simp)
          have r8 := hh.at_ (p := (g8, [.bool (decide (y.num < 0)), .slice Ay1 (digs b64 y.num.natAbs).length cy1, .slice Ay2 (digs b64 (denOf y.den)).length cy2], 27)) (by simp)
          have r9 := hh.at_ (p := (g9, [.bool (decide (z.num < 0)), .slice Az1 (digs b64 z.num.natAbs).length cz1, .slice Az2 (digs b64 (denOf z.den)).length cz2], 27)) (by simp)
          exact ⟨hh, r6.cell (i := 0) rfl, r6.cell (i := 1) rfl, r6.cell (i := 2) rfl, r7.cell (i := 0) rfl, r7.cell (i := 1) rfl, r7.cell (i := 2) rfl, r8.cell (i := 0) rfl, r8.cell (i := 1) rfl, r8.cell (i := 2) rfl, r9.cell (i := 0) rfl, r9.cell (i := 1) rfl, r9.cell (i := 2) rfl⟩
        have hq := hq.drew
        have hx := hx.drew
        have hy := hy.drew
        have hz := hz.drew
        have hp := hp.drew
        have w2 : IntKind.i64.wrap (s * c) = s * c := IntWalk.i64_in _ SC.out
        have HTX2 := HTX.out
        go_region_held3 (fun w' => HeldQ w0 [(gp, [.bool (decide (x.num < 0)), .slice Ap1 (digs b64 x.num.natAbs).length cp1, .slice Ap2 (digs b64 (denOf x.den)).length cp2], 27), (g7, [.bool (decide (x.num < 0)), .slice Ax1 (digs b64 x.num.natAbs).length cx1, .slice Ax2 (digs b64 (denOf x.den)).length cx2], 27), (g8, [.bool (decide (y.num < 0)), .slice Ay1 (digs b64 y.num.natAbs).length cy1, .slice Ay2 (digs b64 (denOf y.den)).length cy2], 27), (g9, [.bool (decide (z.num < 0)), .slice Az1 (digs b64 z.num.natAbs).length cz1, .slice Az2 (digs b64 (denOf z.den)).length cz2], 27)] w' ∧ w'.cell? ⟨gp, 0, none⟩ = some (.bool (decide (x.num < 0))) ∧ w'.cell? ⟨gp, 1, none⟩ = some (.slice Ap1 (digs b64 x.num.natAbs).length cp1) ∧ w'.cell? ⟨gp, 2, none⟩ = some (.slice Ap2 (digs b64 (denOf x.den)).length cp2) ∧ w'.cell? ⟨g7, 0, none⟩ = some (.bool (decide (x.num < 0))) ∧ w'.cell? ⟨g7, 1, none⟩ = some (.slice Ax1 (digs b64 x.num.natAbs).length cx1) ∧ w'.cell? ⟨g7, 2, none⟩ = some (.slice Ax2 (digs b64 (denOf x.den)).length cx2) ∧ w'.cell? ⟨g8, 0, none⟩ = some (.bool (decide (y.num < 0))) ∧ w'.cell? ⟨g8, 1, none⟩ = some (.slice Ay1 (digs b64 y.num.natAbs).length cy1) ∧ w'.cell? ⟨g8, 2, none⟩ = some (.slice Ay2 (digs b64 (denOf y.den)).length cy2) ∧ w'.cell? ⟨g9, 0, none⟩ = some (.bool (decide (z.num < 0))) ∧ w'.cell? ⟨g9, 1, none⟩ = some (.slice Az1 (digs b64 z.num.natAbs).length cz1) ∧ w'.cell? ⟨g9, 2, none⟩ = some (.slice Az2 (digs b64 (denOf z.den)).length cz2))
          (exact hS4 _ hq)
          (first
            | (go_at_call 11; (with_reducible refine Calls.mono (mul_num _ _ _ x z hx hz HX.out HZ.out (by omega)) ?_); rintro e wk ⟨vht1, rfl, ht10, hb⟩; (try have hx := hx.below hb); (try have hy := hy.below hb); (try have hz := hz.below hb); (try have hp := hp.below hb); (try have ht1 := ht1.below hb); (try have ht2 := ht2.below hb); have hq := HeldQ.call (And.intro hq trivial) hb; have ht1 := ht10)
            | (go_at_call 11; (with_reducible refine Calls.mono (mul_num _ _ _ y z hy hz HY.out HZ.out (by omega)) ?_); rintro e wk ⟨vht2, rfl, ht20, hb⟩; (try have hx := hx.below hb); (try have hy := hy.below hb); (try have hz := hz.below hb); (try have hp := hp.below hb); (try have ht1 := ht1.below hb); (try have ht2 := ht2.below hb); have hq := HeldQ.call (And.intro hq trivial) hb; have ht2 := ht20)
            | (go_at_call 7; (with_reducible refine Calls.mono (HMU.out _ _ _ ht1 ht2) ?_); rintro e wk ⟨rfl, hb⟩; (try have hx := hx.below hb); (try have hy := hy.below hb); (try have hz := hz.below hb); (try have hp := hp.below hb); (try have ht1 := ht1.below hb); (try have ht2 := ht2.below hb); have hq := HeldQ.call (And.intro hq trivial) hb)
            | (go_at_call 10; (with_reducible refine Calls.mono (HSZ.out _ _ hz) ?_); rintro e wk ⟨rfl, hb⟩; (try have hx := hx.below hb); (try have hy := hy.below hb); (try have hz := hz.below hb); (try have hp := hp.below hb); (try have ht1 := ht1.below hb); (try have ht2 := ht2.below hb); have hq := HeldQ.call (And.intro hq trivial) hb)
            | (go_at_call 7; (with_reducible refine Calls.mono (HXY.out _ _ _ hx hy) ?_); rintro e wk ⟨rfl, hb⟩; (try have hx := hx.below hb); (try have hy := hy.below hb); (try have hz := hz.below hb); (try have hp := hp.below hb); (try have ht1 := ht1.below hb); (try have ht2 := ht2.below hb); have hq := HeldQ.call (And.intro hq trivial) hb)
            | (go_at_call 14; (with_reducible refine Calls.mono (rtext_num _ _ x hx HX.out (by omega)) ?_); rintro e wk ⟨rfl, hb⟩; (try have hx := hx.below hb); (try have hy := hy.below hb); (try have hz := hz.below hb); (try have hp := hp.below hb); (try have ht1 := ht1.below hb); (try have ht2 := ht2.below hb); have hq := HeldQ.call (And.intro hq trivial) hb)
            | (go_at_call 14; (with_reducible refine Calls.mono (rtext_num _ _ y hy HY.out (by omega)) ?_); rintro e wk ⟨rfl, hb⟩; (try have hx := hx.below hb); (try have hy := hy.below hb); (try have hz := hz.below hb); (try have hp := hp.below hb); (try have ht1 := ht1.below hb); (try have ht2 := ht2.below hb); have hq := HeldQ.call (And.intro hq trivial) hb)
            | (go_at_call 8; (with_reducible refine Calls.mono (HSA.out _ _ _ hx hy) ?_); rintro e wk ⟨rfl, hb⟩; (try have hx := hx.below hb); (try have hy := hy.below hb); (try have hz := hz.below hb); (try have hp := hp.below hb); (try have ht1 := ht1.below hb); (try have ht2 := ht2.below hb); have hq := HeldQ.call (And.intro hq trivial) hb)
            | (go_at_call 8; (with_reducible refine Calls.mono (HSX.out _ _ _ hp hx) ?_); rintro e wk ⟨rfl, hb⟩; (try have hx := hx.below hb); (try have hy := hy.below hb); (try have hz := hz.below hb); (try have hp := hp.below hb); (try have ht1 := ht1.below hb); (try have ht2 := ht2.below hb); have hq := HeldQ.call (And.intro hq trivial) hb)
            | (go_at_call 15; (with_reducible refine Calls.mono (awake_num _) ?_); rintro e wk ⟨rfl, hb⟩; (try have hx := hx.below hb); (try have hy := hy.below hb); (try have hz := hz.below hb); (try have hp := hp.below hb); (try have ht1 := ht1.below hb); (try have ht2 := ht2.below hb); have hq := HeldQ.call (And.intro hq trivial) hb))
        all_goals
          go_wp2
          go_ret
          exact ⟨rfl, hq.1⟩
      · have dc : decide (c ≤ 0) = true := decide_eq_true (by omega)
        rcases Int.lt_or_le 0 e with he1 | he1
        · have de : decide (e ≤ 0) = false := decide_eq_false (by omega)
          go_wp2_with fail
          refine Calls.mono (HXY.out _ _ _ hx hy) ?_
          rintro e wk ⟨rfl, hb⟩
          have hx := hx.below hb
          have hy := hy.below hb
          have hz := hz.below hb
          have hq := HeldQ.call (And.intro hq trivial) hb
          clear k0 k1 k2 k3 k4 k5 k6 k7 k8
          obtain ⟨_, k0, k1, k2, k3, k4, k5, k6, k7, k8⟩ := hS _ hq
          go_wp2_with fail
          refine Calls.mono (HYZ.out _ _ _ hy hz) ?_
          rintro e wk ⟨rfl, hb⟩
          have hx := hx.below hb
          have hy := hy.below hb
          have hz := hz.below hb
          have hq := HeldQ.call (And.intro hq trivial) hb
          clear k0 k1 k2 k3 k4 k5 k6 k7 k8
          obtain ⟨_, k0, k1, k2, k3, k4, k5, k6, k7, k8⟩ := hS _ hq
          go_wp2_with fail
          have ⟨PT1, PT2⟩ := parse_text x
          have HPT : Bx (∀ w, Calls Try.prog 13 #[.string (strOf (textR x))] w (RetRE w x 0)) := bx (fun w => by
            have := parse_ok w (textR x) (textR_wf x) (by have := textR_len HX.out; omega) PT1 (by rw [PT2])
            rwa [PT2] at this)
          clear PT1 PT2
          refine Calls.mono (rtext_num _ _ x hx HX.out (by omega)) ?_
          rintro e wk ⟨rfl, hb⟩
          have hx := hx.below hb
          have hy := hy.below hb
          have hz := hz.below hb
          have hq := HeldQ.call (And.intro hq trivial) hb
          clear k0 k1 k2 k3 k4 k5 k6 k7 k8
          go_wp2_with fail
          refine Calls.mono (HPT.out _) ?_
          rintro e wl ⟨vp, rfl, hp, hb⟩
          have hx := hx.below hb
          have hy := hy.below hb
          have hz := hz.below hb
          have hq := HeldQ.call (And.intro hq trivial) hb
          obtain ⟨vpn, vpd, rfl, hpn, hpd⟩ := id hp
          obtain ⟨Ap1, cp1, rfl, _⟩ := id hpn
          obtain ⟨Ap2, cp2, rfl, _⟩ := id hpd
          go_wp2_with fail
          obtain ⟨wm, em, om, bm, sm⟩ := layA wl [.bool (decide (x.num < 0)), .slice Ap1 (digs b64 x.num.natAbs).length cp1, .slice Ap2 (digs b64 (denOf x.den)).length cp2] 27
          rw [em]
          have hx := hx.below bm
          have hy := hy.below bm
          have hz := hz.below bm
          have hp := hp.below bm
          have hq := HeldQ.call (And.intro hq trivial) bm
          obtain ⟨gp, hgp⟩ : ∃ gp, gp = wl.heap.size := ⟨_, rfl⟩
          rw [← hgp] at om ⊢
          have hq : HeldQ w0 [(gp, [.bool (decide (x.num < 0)), .slice Ap1 (digs b64 x.num.natAbs).length cp1, .slice Ap2 (digs b64 (denOf x.den)).length cp2], 27), (g7, [.bool (decide (x.num < 0)), .slice Ax1 (digs b64 x.num.natAbs).length cx1, .slice Ax2 (digs b64 (denOf x.den)).length cx2], 27), (g8, [.bool (decide (y.num < 0)), .slice Ay1 (digs b64 y.num.natAbs).length cy1, .slice Ay2 (digs b64 (denOf y.den)).length cy2], 27), (g9, [.bool (decide (z.num < 0)), .slice Az1 (digs b64 z.num.natAbs).length cz1, .slice Az2 (digs b64 (denOf z.den)).length cz2], 27)] wm := ⟨hq.1, by
            intro r hr
            rcases List.mem_cons.1 hr with rfl | hr
            · exact om
            · exact hq.2 r hr⟩
          clear em om bm sm hgp hpn hpd
          have hS4 : ∀ w', HeldQ w0 [(gp, [.bool (decide (x.num < 0)), .slice Ap1 (digs b64 x.num.natAbs).length cp1, .slice Ap2 (digs b64 (denOf x.den)).length cp2], 27), (g7, [.bool (decide (x.num < 0)), .slice Ax1 (digs b64 x.num.natAbs).length cx1, .slice Ax2 (digs b64 (denOf x.den)).length cx2], 27), (g8, [.bool (decide (y.num < 0)), .slice Ay1 (digs b64 y.num.natAbs).length cy1, .slice Ay2 (digs b64 (denOf y.den)).length cy2], 27), (g9, [.bool (decide (z.num < 0)), .slice Az1 (digs b64 z.num.natAbs).length cz1, .slice Az2 (digs b64 (denOf z.den)).length cz2], 27)] w' → HeldQ w0 [(gp, [.bool (decide (x.num < 0)), .slice Ap1 (digs b64 x.num.natAbs).length cp1, .slice Ap2 (digs b64 (denOf x.den)).length cp2], 27), (g7, [.bool (decide (x.num < 0)), .slice Ax1 (digs b64 x.num.natAbs).length cx1, .slice Ax2 (digs b64 (denOf x.den)).length cx2], 27), (g8, [.bool (decide (y.num < 0)), .slice Ay1 (digs b64 y.num.natAbs).length cy1, .slice Ay2 (digs b64 (denOf y.den)).length cy2], 27), (g9, [.bool (decide (z.num < 0)), .slice Az1 (digs b64 z.num.natAbs).length cz1, .slice Az2 (digs b64 (denOf z.den)).length cz2], 27)] w' ∧ w'.cell? ⟨gp, 0, none⟩ = some (.bool (decide (x.num < 0))) ∧ w'.cell? ⟨gp, 1, none⟩ = some (.slice Ap1 (digs b64 x.num.natAbs).length cp1) ∧ w'.cell? ⟨gp, 2, none⟩ = some (.slice Ap2 (digs b64 (denOf x.den)).length cp2) ∧ w'.cell? ⟨g7, 0, none⟩ = some (.bool (decide (x.num < 0))) ∧ w'.cell? ⟨g7, 1, none⟩ = some (.slice Ax1 (digs b64 x.num.natAbs).length cx1) ∧ w'.cell? ⟨g7, 2, none⟩ = some (.slice Ax2 (digs b64 (denOf x.den)).length cx2) ∧ w'.cell? ⟨g8, 0, none⟩ = some (.bool (decide (y.num < 0))) ∧ w'.cell? ⟨g8, 1, none⟩ = some (.slice Ay1 (digs b64 y.num.natAbs).length cy1) ∧ w'.cell? ⟨g8, 2, none⟩ = some (.slice Ay2 (digs b64 (denOf y.den)).length cy2) ∧ w'.cell? ⟨g9, 0, none⟩ = some (.bool (decide (z.num < 0))) ∧ w'.cell? ⟨g9, 1, none⟩ = some (.slice Az1 (digs b64 z.num.natAbs).length cz1) ∧ w'.cell? ⟨g9, 2, none⟩ = some (.slice Az2 (digs b64 (denOf z.den)).length cz2) := fun w' hh => by
            have r6 := hh.at_ (p := (gp, [.bool (decide (x.num < 0)), .slice Ap1 (digs b64 x.num.natAbs).length cp1, .slice Ap2 (digs b64 (denOf x.den)).length cp2], 27)) (by simp)
            have r7 := hh.at_ (p := (g7, [.bool (decide (x.num < 0)), .slice Ax1 (digs b64 x.num.natAbs).length cx1, .slice Ax2 (digs b64 (denOf x.den)).length cx2], 27)) (by simp)
            have r8 := hh.at_ (p := (g8, [.bool (decide (y.num < 0)), .slice Ay1 (digs b64 y.num.natAbs).length cy1, .slice Ay2 (digs b64 (denOf y.den)).length cy2], 27)) (by simp)
            have r9 := hh.at_ (p := (g9, [.bool (decide (z.num < 0)), .slice Az1 (digs b64 z.num.natAbs).length cz1, .slice Az2 (digs b64 (denOf z.den)).length cz2], 27)) (by simp)
            exact ⟨hh, r6.cell (i := 0) rfl, r6.cell (i := 1) rfl, r6.cell (i := 2) rfl, r7.cell (i := 0) rfl, r7.cell (i := 1) rfl, r7.cell (i := 2) rfl, r8.cell (i := 0) rfl, r8.cell (i := 1) rfl, r8.cell (i := 2) rfl, r9.cell (i := 0) rfl, r9.cell (i := 1) rfl, r9.cell (i := 2) rfl⟩
          have hq := hq.drew
          have hx := hx.drew
          have hy := hy.drew
          have hz := hz.drew
          have hp := hp.drew
          have w2 : IntKind.i64.wrap (s * c) = s * c := IntWalk.i64_in _ SC.out
          have HTX2 := HTX.out
          go_region_held3 (fun w' => HeldQ w0 [(gp, [.bool (decide (x.num < 0)), .slice Ap1 (digs b64 x.num.natAbs).length cp1, .slice Ap2 (digs b64 (denOf x.den)).length cp2], 27), (g7, [.bool (decide (x.num < 0)), .slice Ax1 (digs b64 x.num.natAbs).length cx1, .slice Ax2 (digs b64 (denOf x.den)).length cx2], 27), (g8, [.bool (decide (y.num < 0)), .slice Ay1 (digs b64 y.num.natAbs).length cy1, .slice Ay2 (digs b64 (denOf y.den)).length cy2], 27), (g9, [.bool (decide (z.num < 0)), .slice Az1 (digs b64 z.num.natAbs).length cz1, .slice Az2 (digs b64 (denOf z.den)).length cz2], 27)] w' ∧ w'.cell? ⟨gp, 0, none⟩ = some (.bool (decide (x.num < 0))) ∧ w'.cell? ⟨gp, 1, none⟩ = some (.slice Ap1 (digs b64 x.num.natAbs).length cp1) ∧ w'.cell? ⟨gp, 2, none⟩ = some (.slice Ap2 (digs b64 (denOf x.den)).length cp2) ∧ w'.cell? ⟨g7, 0, none⟩ = some (.bool (decide (x.num < 0))) ∧ w'.cell? ⟨g7, 1, none⟩ = some (.slice Ax1 (digs b64 x.num.natAbs).length cx1) ∧ w'.cell? ⟨g7, 2, none⟩ = some (.slice Ax2 (digs b64 (denOf x.den)).length cx2) ∧ w'.cell? ⟨g8, 0, none⟩ = some (.bool (decide (y.num < 0))) ∧ w'.cell? ⟨g8, 1, none⟩ = some (.slice Ay1 (digs b64 y.num.natAbs).length cy1) ∧ w'.cell? ⟨g8, 2, none⟩ = some (.slice Ay2 (digs b64 (denOf y.den)).length cy2) ∧ w'.cell? ⟨g9, 0, none⟩ = some (.bool (decide (z.num < 0))) ∧ w'.cell? ⟨g9, 1, none⟩ = some (.slice Az1 (digs b64 z.num.natAbs).length cz1) ∧ w'.cell? ⟨g9, 2, none⟩ = some (.slice Az2 (digs b64 (denOf z.den)).length cz2))
            (exact hS4 _ hq)
            (first
              | (go_at_call 11; (with_reducible refine Calls.mono (mul_num _ _ _ x z hx hz HX.out HZ.out (by omega)) ?_); rintro e wk ⟨vht1, rfl, ht10, hb⟩; (try have hx := hx.below hb); (try have hy := hy.below hb); (try have hz := hz.below hb); (try have hp := hp.below hb); (try have ht1 := ht1.below hb); (try have ht2 := ht2.below hb); have hq := HeldQ.call (And.intro hq trivial) hb; have ht1 := ht10)
              | (go_at_call 11; (with_reducible refine Calls.mono (mul_num _ _ _ y z hy hz HY.out HZ.out (by omega)) ?_); rintro e wk ⟨vht2, rfl, ht20, hb⟩; (try have hx := hx.below hb); (try have hy := hy.below hb); (try have hz := hz.below hb); (try have hp := hp.below hb); (try have ht1 := ht1.below hb); (try have ht2 := ht2.below hb); have hq := HeldQ.call (And.intro hq trivial) hb; have ht2 := ht20)
              | (go_at_call 7; (with_reducible refine Calls.mono (HMU.out _ _ _ ht1 ht2) ?_); rintro e wk ⟨rfl, hb⟩; (try have hx := hx.below hb); (try have hy := hy.below hb); (try have hz := hz.below hb); (try have hp := hp.below hb); (try have ht1 := ht1.below hb); (try have ht2 := ht2.below hb); have hq := HeldQ.call (And.intro hq trivial) hb)
              | (go_at_call 10; (with_reducible refine Calls.mono (HSZ.out _ _ hz) ?_); rintro e wk ⟨rfl, hb⟩; (try have hx := hx.below hb); (try have hy := hy.below hb); (try have hz := hz.below hb); (try have hp := hp.below hb); (try have ht1 := ht1.below hb); (try have ht2 := ht2.below hb); have hq := HeldQ.call (And.intro hq trivial) hb)
              | (go_at_call 7; (with_reducible refine Calls.mono (HXY.out _ _ _ hx hy) ?_); rintro e wk ⟨rfl, hb⟩; (try have hx := hx.below hb); (try have hy := hy.below hb); (try have hz := hz.below hb); (try have hp := hp.below hb); (try have ht1 := ht1.below hb); (try have ht2 := ht2.below hb); have hq := HeldQ.call (And.intro hq trivial) hb)
              | (go_at_call 14; (with_reducible refine Calls.mono (rtext_num _ _ x hx HX.out (by omega)) ?_); rintro e wk ⟨rfl, hb⟩; (try have hx := hx.below hb); (try have hy := hy.below hb); (try have hz := hz.below hb); (try have hp := hp.below hb); (try have ht1 := ht1.below hb); (try have ht2 := ht2.below hb); have hq := HeldQ.call (And.intro hq trivial) hb)
              | (go_at_call 14; (with_reducible refine Calls.mono (rtext_num _ _ y hy HY.out (by omega)) ?_); rintro e wk ⟨rfl, hb⟩; (try have hx := hx.below hb); (try have hy := hy.below hb); (try have hz := hz.below hb); (try have hp := hp.below hb); (try have ht1 := ht1.below hb); (try have ht2 := ht2.below hb); have hq := HeldQ.call (And.intro hq trivial) hb)
              | (go_at_call 8; (with_reducible refine Calls.mono (HSA.out _ _ _ hx hy) ?_); rintro e wk ⟨rfl, hb⟩; (try have hx := hx.below hb); (try have hy := hy.below hb); (try have hz := hz.below hb); (try have hp := hp.below hb); (try have ht1 := ht1.below hb); (try have ht2 := ht2.below hb); have hq := HeldQ.call (And.intro hq trivial) hb)
              | (go_at_call 8; (with_reducible refine Calls.mono (HSX.out _ _ _ hp hx) ?_); rintro e wk ⟨rfl, hb⟩; (try have hx := hx.below hb); (try have hy := hy.below hb); (try have hz := hz.below hb); (try have hp := hp.below hb); (try have ht1 := ht1.below hb); (try have ht2 := ht2.below hb); have hq := HeldQ.call (And.intro hq trivial) hb)
              | (go_at_call 15; (with_reducible refine Calls.mono (awake_num _) ?_); rintro e wk ⟨rfl, hb⟩; (try have hx := hx.below hb); (try have hy := hy.below hb); (try have hz := hz.below hb); (try have hp := hp.below hb); (try have ht1 := ht1.below hb); (try have ht2 := ht2.below hb); have hq := HeldQ.call (And.intro hq trivial) hb))
          all_goals
            go_wp2
            go_ret
            exact ⟨rfl, hq.1⟩
        · have de : decide (e ≤ 0) = true := decide_eq_true (by omega)
          have df : decide (0 < f) = false := decide_eq_false (by have := HTR.out hc1 he1; omega)
          go_wp2_with fail
          refine Calls.mono (HXY.out _ _ _ hx hy) ?_
          rintro e wk ⟨rfl, hb⟩
          have hx := hx.below hb
          have hy := hy.below hb
          have hz := hz.below hb
          have hq := HeldQ.call (And.intro hq trivial) hb
          clear k0 k1 k2 k3 k4 k5 k6 k7 k8
          obtain ⟨_, k0, k1, k2, k3, k4, k5, k6, k7, k8⟩ := hS _ hq
          go_wp2_with fail
          refine Calls.mono (HYZ.out _ _ _ hy hz) ?_
          rintro e wk ⟨rfl, hb⟩
          have hx := hx.below hb
          have hy := hy.below hb
          have hz := hz.below hb
          have hq := HeldQ.call (And.intro hq trivial) hb
          clear k0 k1 k2 k3 k4 k5 k6 k7 k8
          obtain ⟨_, k0, k1, k2, k3, k4, k5, k6, k7, k8⟩ := hS _ hq
          go_wp2_with fail
          refine Calls.mono (HXZ.out _ _ _ hx hz) ?_
          rintro e wk ⟨rfl, hb⟩
          have hx := hx.below hb
          have hy := hy.below hb
          have hz := hz.below hb
          have hq := HeldQ.call (And.intro hq trivial) hb
          clear k0 k1 k2 k3 k4 k5 k6 k7 k8
          obtain ⟨_, k0, k1, k2, k3, k4, k5, k6, k7, k8⟩ := hS _ hq
          go_wp2_with fail
          have ⟨PT1, PT2⟩ := parse_text x
          have HPT : Bx (∀ w, Calls Try.prog 13 #[.string (strOf (textR x))] w (RetRE w x 0)) := bx (fun w => by
            have := parse_ok w (textR x) (textR_wf x) (by have := textR_len HX.out; omega) PT1 (by rw [PT2])
            rwa [PT2] at this)
          clear PT1 PT2
          refine Calls.mono (rtext_num _ _ x hx HX.out (by omega)) ?_
          rintro e wk ⟨rfl, hb⟩
          have hx := hx.below hb
          have hy := hy.below hb
          have hz := hz.below hb
          have hq := HeldQ.call (And.intro hq trivial) hb
          clear k0 k1 k2 k3 k4 k5 k6 k7 k8
          go_wp2_with fail
          refine Calls.mono (HPT.out _) ?_
          rintro e wl ⟨vp, rfl, hp, hb⟩
          have hx := hx.below hb
          have hy := hy.below hb
          have hz := hz.below hb
          have hq := HeldQ.call (And.intro hq trivial) hb
          obtain ⟨vpn, vpd, rfl, hpn, hpd⟩ := id hp
          obtain ⟨Ap1, cp1, rfl, _⟩ := id hpn
          obtain ⟨Ap2, cp2, rfl, _⟩ := id hpd
          go_wp2_with fail
          obtain ⟨wm, em, om, bm, sm⟩ := layA wl [.bool (decide (x.num < 0)), .slice Ap1 (digs b64 x.num.natAbs).length cp1, .slice Ap2 (digs b64 (denOf x.den)).length cp2] 27
          rw [em]
          have hx := hx.below bm
          have hy := hy.below bm
          have hz := hz.below bm
          have hp := hp.below bm
          have hq := HeldQ.call (And.intro hq trivial) bm
          obtain ⟨gp, hgp⟩ : ∃ gp, gp = wl.heap.size := ⟨_, rfl⟩
          rw [← hgp] at om ⊢
          have hq : HeldQ w0 [(gp, [.bool (decide (x.num < 0)), .slice Ap1 (digs b64 x.num.natAbs).length cp1, .slice Ap2 (digs b64 (denOf x.den)).length cp2], 27), (g7, [.bool (decide (x.num < 0)), .slice Ax1 (digs b64 x.num.natAbs).length cx1, .slice Ax2 (digs b64 (denOf x.den)).length cx2], 27), (g8, [.bool (decide (y.num < 0)), .slice Ay1 (digs b64 y.num.natAbs).length cy1, .slice Ay2 (digs b64 (denOf y.den)).length cy2], 27), (g9, [.bool (decide (z.num < 0)), .slice Az1 (digs b64 z.num.natAbs).length cz1, .slice Az2 (digs b64 (denOf z.den)).length cz2], 27)] wm := ⟨hq.1, by
            intro r hr
            rcases List.mem_cons.1 hr with rfl | hr
            · exact om
            · exact hq.2 r hr⟩
          clear em om bm sm hgp hpn hpd
          have hS4 : ∀ w', HeldQ w0 [(gp, [.bool (decide (x.num < 0)), .slice Ap1 (digs b64 x.num.natAbs).length cp1, .slice Ap2 (digs b64 (denOf x.den)).length cp2], 27), (g7, [.bool (decide (x.num < 0)), .slice Ax1 (digs b64 x.num.natAbs).length cx1, .slice Ax2 (digs b64 (denOf x.den)).length cx2], 27), (g8, [.bool (decide (y.num < 0)), .slice Ay1 (digs b64 y.num.natAbs).length cy1, .slice Ay2 (digs b64 (denOf y.den)).length cy2], 27), (g9, [.bool (decide (z.num < 0)), .slice Az1 (digs b64 z.num.natAbs).length cz1, .slice Az2 (digs b64 (denOf z.den)).length cz2], 27)] w' → HeldQ w0 [(gp, [.bool (decide (x.num < 0)), .slice Ap1 (digs b64 x.num.natAbs).length cp1, .slice Ap2 (digs b64 (denOf x.den)).length cp2], 27), (g7, [.bool (decide (x.num < 0)), .slice Ax1 (digs b64 x.num.natAbs).length cx1, .slice Ax2 (digs b64 (denOf x.den)).length cx2], 27), (g8, [.bool (decide (y.num < 0)), .slice Ay1 (digs b64 y.num.natAbs).length cy1, .slice Ay2 (digs b64 (denOf y.den)).length cy2], 27), (g9, [.bool (decide (z.num < 0)), .slice Az1 (digs b64 z.num.natAbs).length cz1, .slice Az2 (digs b64 (denOf z.den)).length cz2], 27)] w' ∧ w'.cell? ⟨gp, 0, none⟩ = some (.bool (decide (x.num < 0))) ∧ w'.cell? ⟨gp, 1, none⟩ = some (.slice Ap1 (digs b64 x.num.natAbs).length cp1) ∧ w'.cell? ⟨gp, 2, none⟩ = some (.slice Ap2 (digs b64 (denOf x.den)).length cp2) ∧ w'.cell? ⟨g7, 0, none⟩ = some (.bool (decide (x.num < 0))) ∧ w'.cell? ⟨g7, 1, none⟩ = some (.slice Ax1 (digs b64 x.num.natAbs).length cx1) ∧ w'.cell? ⟨g7, 2, none⟩ = some (.slice Ax2 (digs b64 (denOf x.den)).length cx2) ∧ w'.cell? ⟨g8, 0, none⟩ = some (.bool (decide (y.num < 0))) ∧ w'.cell? ⟨g8, 1, none⟩ = some (.slice Ay1 (digs b64 y.num.natAbs).length cy1) ∧ w'.cell? ⟨g8, 2, none⟩ = some (.slice Ay2 (digs b64 (denOf y.den)).length cy2) ∧ w'.cell? ⟨g9, 0, none⟩ = some (.bool (decide (z.num < 0))) ∧ w'.cell? ⟨g9, 1, none⟩ = some (.slice Az1 (digs b64 z.num.natAbs).length cz1) ∧ w'.cell? ⟨g9, 2, none⟩ = some (.slice Az2 (digs b64 (denOf z.den)).length cz2) := fun w' hh => by
            have r6 := hh.at_ (p := (gp, [.bool (decide (x.num < 0)), .slice Ap1 (digs b64 x.num.natAbs).length cp1, .slice Ap2 (digs b64 (denOf x.den)).length cp2], 27)) (by simp)
            have r7 := hh.at_ (p := (g7, [.bool (decide (x.num < 0)), .slice Ax1 (digs b64 x.num.natAbs).length cx1, .slice Ax2 (digs b64 (denOf x.den)).length cx2], 27)) (by simp)
            have r8 := hh.at_ (p := (g8, [.bool (decide (y.num < 0)), .slice Ay1 (digs b64 y.num.natAbs).length cy1, .slice Ay2 (digs b64 (denOf y.den)).length cy2], 27)) (by simp)
            have r9 := hh.at_ (p := (g9, [.bool (decide (z.num < 0)), .slice Az1 (digs b64 z.num.natAbs).length cz1, .slice Az2 (digs b64 (denOf z.den)).length cz2], 27)) (by simp)
            exact ⟨hh, r6.cell (i := 0) rfl, r6.cell (i := 1) rfl, r6.cell (i := 2) rfl, r7.cell (i := 0) rfl, r7.cell (i := 1) rfl, r7.cell (i := 2) rfl, r8.cell (i := 0) rfl, r8.cell (i := 1) rfl, r8.cell (i := 2) rfl, r9.cell (i := 0) rfl, r9.cell (i := 1) rfl, r9.cell (i := 2) rfl⟩
          have hq := hq.drew
          have hx := hx.drew
          have hy := hy.drew
          have hz := hz.drew
          have hp := hp.drew
          have w2 : IntKind.i64.wrap (s * c) = s * c := IntWalk.i64_in _ SC.out
          have HTX2 := HTX.out
          go_region_held3 (fun w' => HeldQ w0 [(gp, [.bool (decide (x.num < 0)), .slice Ap1 (digs b64 x.num.natAbs).length cp1, .slice Ap2 (digs b64 (denOf x.den)).length cp2], 27), (g7, [.bool (decide (x.num < 0)), .slice Ax1 (digs b64 x.num.natAbs).length cx1, .slice Ax2 (digs b64 (denOf x.den)).length cx2], 27), (g8, [.bool (decide (y.num < 0)), .slice Ay1 (digs b64 y.num.natAbs).length cy1, .slice Ay2 (digs b64 (denOf y.den)).length cy2], 27), (g9, [.bool (decide (z.num < 0)), .slice Az1 (digs b64 z.num.natAbs).length cz1, .slice Az2 (digs b64 (denOf z.den)).length cz2], 27)] w' ∧ w'.cell? ⟨gp, 0, none⟩ = some (.bool (decide (x.num < 0))) ∧ w'.cell? ⟨gp, 1, none⟩ = some (.slice Ap1 (digs b64 x.num.natAbs).length cp1) ∧ w'.cell? ⟨gp, 2, none⟩ = some (.slice Ap2 (digs b64 (denOf x.den)).length cp2) ∧ w'.cell? ⟨g7, 0, none⟩ = some (.bool (decide (x.num < 0))) ∧ w'.cell? ⟨g7, 1, none⟩ = some (.slice Ax1 (digs b64 x.num.natAbs).length cx1) ∧ w'.cell? ⟨g7, 2, none⟩ = some (.slice Ax2 (digs b64 (denOf x.den)).length cx2) ∧ w'.cell? ⟨g8, 0, none⟩ = some (.bool (decide (y.num < 0))) ∧ w'.cell? ⟨g8, 1, none⟩ = some (.slice Ay1 (digs b64 y.num.natAbs).length cy1) ∧ w'.cell? ⟨g8, 2, none⟩ = some (.slice Ay2 (digs b64 (denOf y.den)).length cy2) ∧ w'.cell? ⟨g9, 0, none⟩ = some (.bool (decide (z.num < 0))) ∧ w'.cell? ⟨g9, 1, none⟩ = some (.slice Az1 (digs b64 z.num.natAbs).length cz1) ∧ w'.cell? ⟨g9, 2, none⟩ = some (.slice Az2 (digs b64 (denOf z.den)).length cz2))
            (exact hS4 _ hq)
            (first
              | (go_at_call 11; (with_reducible refine Calls.mono (mul_num _ _ _ x z hx hz HX.out HZ.out (by omega)) ?_); rintro e wk ⟨vht1, rfl, ht10, hb⟩; (try have hx := hx.below hb); (try have hy := hy.below hb); (try have hz := hz.below hb); (try have hp := hp.below hb); (try have ht1 := ht1.below hb); (try have ht2 := ht2.below hb); have hq := HeldQ.call (And.intro hq trivial) hb; have ht1 := ht10)
              | (go_at_call 11; (with_reducible refine Calls.mono (mul_num _ _ _ y z hy hz HY.out HZ.out (by omega)) ?_); rintro e wk ⟨vht2, rfl, ht20, hb⟩; (try have hx := hx.below hb); (try have hy := hy.below hb); (try have hz := hz.below hb); (try have hp := hp.below hb); (try have ht1 := ht1.below hb); (try have ht2 := ht2.below hb); have hq := HeldQ.call (And.intro hq trivial) hb; have ht2 := ht20)
              | (go_at_call 7; (with_reducible refine Calls.mono (HMU.out _ _ _ ht1 ht2) ?_); rintro e wk ⟨rfl, hb⟩; (try have hx := hx.below hb); (try have hy := hy.below hb); (try have hz := hz.below hb); (try have hp := hp.below hb); (try have ht1 := ht1.below hb); (try have ht2 := ht2.below hb); have hq := HeldQ.call (And.intro hq trivial) hb)
              | (go_at_call 10; (with_reducible refine Calls.mono (HSZ.out _ _ hz) ?_); rintro e wk ⟨rfl, hb⟩; (try have hx := hx.below hb); (try have hy := hy.below hb); (try have hz := hz.below hb); (try have hp := hp.below hb); (try have ht1 := ht1.below hb); (try have ht2 := ht2.below hb); have hq := HeldQ.call (And.intro hq trivial) hb)
              | (go_at_call 7; (with_reducible refine Calls.mono (HXY.out _ _ _ hx hy) ?_); rintro e wk ⟨rfl, hb⟩; (try have hx := hx.below hb); (try have hy := hy.below hb); (try have hz := hz.below hb); (try have hp := hp.below hb); (try have ht1 := ht1.below hb); (try have ht2 := ht2.below hb); have hq := HeldQ.call (And.intro hq trivial) hb)
              | (go_at_call 14; (with_reducible refine Calls.mono (rtext_num _ _ x hx HX.out (by omega)) ?_); rintro e wk ⟨rfl, hb⟩; (try have hx := hx.below hb); (try have hy := hy.below hb); (try have hz := hz.below hb); (try have hp := hp.below hb); (try have ht1 := ht1.below hb); (try have ht2 := ht2.below hb); have hq := HeldQ.call (And.intro hq trivial) hb)
              | (go_at_call 14; (with_reducible refine Calls.mono (rtext_num _ _ y hy HY.out (by omega)) ?_); rintro e wk ⟨rfl, hb⟩; (try have hx := hx.below hb); (try have hy := hy.below hb); (try have hz := hz.below hb); (try have hp := hp.below hb); (try have ht1 := ht1.below hb); (try have ht2 := ht2.below hb); have hq := HeldQ.call (And.intro hq trivial) hb)
              | (go_at_call 8; (with_reducible refine Calls.mono (HSA.out _ _ _ hx hy) ?_); rintro e wk ⟨rfl, hb⟩; (try have hx := hx.below hb); (try have hy := hy.below hb); (try have hz := hz.below hb); (try have hp := hp.below hb); (try have ht1 := ht1.below hb); (try have ht2 := ht2.below hb); have hq := HeldQ.call (And.intro hq trivial) hb)
              | (go_at_call 8; (with_reducible refine Calls.mono (HSX.out _ _ _ hp hx) ?_); rintro e wk ⟨rfl, hb⟩; (try have hx := hx.below hb); (try have hy := hy.below hb); (try have hz := hz.below hb); (try have hp := hp.below hb); (try have ht1 := ht1.below hb); (try have ht2 := ht2.below hb); have hq := HeldQ.call (And.intro hq trivial) hb)
              | (go_at_call 15; (with_reducible refine Calls.mono (awake_num _) ?_); rintro e wk ⟨rfl, hb⟩; (try have hx := hx.below hb); (try have hy := hy.below hb); (try have hz := hz.below hb); (try have hp := hp.below hb); (try have ht1 := ht1.below hb); (try have ht2 := ht2.below hb); have hq := HeldQ.call (And.intro hq trivial) hb))
          all_goals
            go_wp2
            go_ret
            exact ⟨rfl, hq.1⟩
end Wx
