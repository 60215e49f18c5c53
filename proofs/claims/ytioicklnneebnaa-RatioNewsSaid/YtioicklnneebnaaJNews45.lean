import Derived.Test.YtioicklnneebnaaProg
import Derived.Handy
import Derived.Laws.IdiomStrings
import Derived.Deep.RegionHeld3
import Derived.Test.YtioicklnneebnaaPlain1
import Derived.Test.YtioicklnneebnaaMem
import Derived.Test.YtioicklnneebnaaJNews3
import Derived.Test.YtioicklnneebnaaCRat1
import Derived.Test.YtioicklnneebnaaCRat2
import Derived.Test.YtioicklnneebnaaCHeld
import Derived.Test.YtioicklnneebnaaJNews22
import Derived.Test.YtioicklnneebnaaJNews32
import Derived.Test.YtioicklnneebnaaCNRat1
import Derived.Test.YtioicklnneebnaaCNText
import Derived.Test.YtioicklnneebnaaJNews25
import Derived.Test.YtioicklnneebnaaCText
import Derived.Test.YtioicklnneebnaaCRText
namespace Wx
open Go Go.RowKit Go.Proofs

set_option maxRecDepth 100000 in
set_option maxHeartbeats 1000000 in
/-- The program's fraction is the reference's one. -/
theorem is_yes (w : World) (vx vy : Value) (x : Rat) (hx : IsRat w vx x) (hy : IsRef w vy x) {j : Nat} (hj : BdR j x) (hj1 : j ≤ 100000000) : Calls Try.prog 9 #[vx, vy] w (RetIs w (.bool true)) := by
  obtain ⟨vx1, vx2, rfl, hxa, hxb⟩ := id hx
  obtain ⟨Ax1, cx1, rfl, _⟩ := id hxa
  obtain ⟨Ax2, cx2, rfl, _⟩ := id hxb
  obtain ⟨vy1, vy2, rfl, hya, hyb⟩ := id hy
  obtain ⟨Ay1, cy1, rfl, _⟩ := id hya
  obtain ⟨Ay2, cy2, rfl, _⟩ := id hyb
  have HB := bx hj
  have hx0 := hx
  have hy0 := hy

  clear hj hx hy
  go_enter Try.func9, Try.ntmps9
  go_wp2_with fail
  obtain ⟨w1, e1, o1, b1, s1⟩ := layA w [.bool (decide (x.num < 0)), .slice Ax1 (digs b64 x.num.natAbs).length cx1, .slice Ax2 (digs b64 (denOf x.den)).length cx2] 26
  obtain ⟨w2, e2, o2, b2, s2⟩ := layA w1 [.bool (decide (x.num < 0)), .slice Ay1 (digs b32 x.num.natAbs).length cy1, .slice Ay2 (digs b32 x.den).length cy2] 32
  rw [e1, e2]
  rw [s1] at o2
  have p1 := (o1.gone b2)
  have p2 := o2
  have B0 := (b1.trans (b2.mono b1.size))
  have hS : ∀ w', HeldQ w [(w.heap.size, [.bool (decide (x.num < 0)), .slice Ax1 (digs b64 x.num.natAbs).length cx1, .slice Ax2 (digs b64 (denOf x.den)).length cx2], 26), (w.heap.size + 1, [.bool (decide (x.num < 0)), .slice Ay1 (digs b32 x.num.natAbs).length cy1, .slice Ay2 (digs b32 x.den).length cy2], 32)] w' → HeldQ w [(w.heap.size, [.bool (decide (x.num < 0)), .slice Ax1 (digs b64 x.num.natAbs).length cx1, .slice Ax2 (digs b64 (denOf x.den)).length cx2], 26), (w.heap.size + 1, [.bool (decide (x.num < 0)), .slice Ay1 (digs b32 x.num.natAbs).length cy1, .slice Ay2 (digs b32 x.den).length cy2], 32)] w' ∧ w'.cell? ⟨w.heap.size, 0, none⟩ = some (.bool (decide (x.num < 0))) ∧ w'.cell? ⟨w.heap.size, 1, none⟩ = some (.slice Ax1 (digs b64 x.num.natAbs).length cx1) ∧ w'.cell? ⟨w.heap.size, 2, none⟩ = some (.slice Ax2 (digs b64 (denOf x.den)).length cx2) ∧ w'.cell? ⟨w.heap.size + 1, 0, none⟩ = some (.bool (decide (x.num < 0))) ∧ w'.cell? ⟨w.heap.size + 1, 1, none⟩ = some (.slice Ay1 (digs b32 x.num.natAbs).length cy1) ∧ w'.cell? ⟨w.heap.size + 1, 2, none⟩ = some (.slice Ay2 (digs b32 x.den).length cy2) := fun w' hh => by
    have r1 := hh.at_ (p := (w.heap.size, [.bool (decide (x.num < 0)), .slice Ax1 (digs b64 x.num.natAbs).length cx1, .slice Ax2 (digs b64 (denOf x.den)).length cx2], 26)) (by simp)
    have r2 := hh.at_ (p := (w.heap.size + 1, [.bool (decide (x.num < 0)), .slice Ay1 (digs b32 x.num.natAbs).length cy1, .slice Ay2 (digs b32 x.den).length cy2], 32)) (by simp)
    exact ⟨hh, r1.cell (i := 0) rfl, r1.cell (i := 1) rfl, r1.cell (i := 2) rfl, r2.cell (i := 0) rfl, r2.cell (i := 1) rfl, r2.cell (i := 2) rfl⟩
  have hz : HeldQ w [(w.heap.size, [.bool (decide (x.num < 0)), .slice Ax1 (digs b64 x.num.natAbs).length cx1, .slice Ax2 (digs b64 (denOf x.den)).length cx2], 26), (w.heap.size + 1, [.bool (decide (x.num < 0)), .slice Ay1 (digs b32 x.num.natAbs).length cy1, .slice Ay2 (digs b32 x.den).length cy2], 32)] w2 := ⟨B0, by intro q hq; simp at hq; rcases hq with rfl | rfl; exact p1; exact p2⟩
  clear e1 e2 o1 b1 s1 p1 o2 b2 s2 p2
  clear B0
  have hz := hz.drew
  go_region_held3 (fun w' => HeldQ w [(w.heap.size, [.bool (decide (x.num < 0)), .slice Ax1 (digs b64 x.num.natAbs).length cx1, .slice Ax2 (digs b64 (denOf x.den)).length cx2], 26), (w.heap.size + 1, [.bool (decide (x.num < 0)), .slice Ay1 (digs b32 x.num.natAbs).length cy1, .slice Ay2 (digs b32 x.den).length cy2], 32)] w' ∧ w'.cell? ⟨w.heap.size, 0, none⟩ = some (.bool (decide (x.num < 0))) ∧ w'.cell? ⟨w.heap.size, 1, none⟩ = some (.slice Ax1 (digs b64 x.num.natAbs).length cx1) ∧ w'.cell? ⟨w.heap.size, 2, none⟩ = some (.slice Ax2 (digs b64 (denOf x.den)).length cx2) ∧ w'.cell? ⟨w.heap.size + 1, 0, none⟩ = some (.bool (decide (x.num < 0))) ∧ w'.cell? ⟨w.heap.size + 1, 1, none⟩ = some (.slice Ay1 (digs b32 x.num.natAbs).length cy1) ∧ w'.cell? ⟨w.heap.size + 1, 2, none⟩ = some (.slice Ay2 (digs b32 x.den).length cy2))
    (exact hS _ hz)
    (first
      | (go_at_call 10; (with_reducible refine Calls.mono (rtext_num _ _ x (hx0.below hz.b) HB.out hj1) ?_); rintro e wz ⟨rfl, hb⟩; have hz := HeldQ.call (And.intro hz trivial) hb)
      | (go_at_call 42; (with_reducible refine Calls.mono (ntext_num _ _ x (hy0.below hz.b) HB.out hj1) ?_); rintro e wz ⟨rfl, hb⟩; have hz := HeldQ.call (And.intro hz trivial) hb))
  all_goals (
    go_wp2
    go_ret
    exact ⟨rfl, hz.b⟩)
end Wx

namespace Wx
open Go

/-- Whole: the number and whether it is one. -/
def wholeB (q : Rat) : Bool := decide (q.den = 1) && decide (-9223372036854775808 ≤ q.num ∧ q.num ≤ 9223372036854775807)
def wholeZ (q : Rat) : Int := if wholeB q then q.num else 0
theorem whole_int {z : Int} (h1 : -9223372036854775808 ≤ z) (h2 : z ≤ 9223372036854775807) : wholeB (z : Rat) = true ∧ wholeZ (z : Rat) = z := by
  have h : wholeB (z : Rat) = true := by
    unfold wholeB
    rw [Rat.num_intCast, Rat.den_intCast, decide_eq_true rfl, decide_eq_true ⟨h1, h2⟩]; rfl
  refine ⟨h, ?_⟩
  unfold wholeZ
  rw [if_pos h, Rat.num_intCast]
theorem whole_yes {q : Rat} (hd : q.den = 1) (h1 : -9223372036854775808 ≤ q.num) (h2 : q.num ≤ 9223372036854775807) : wholeB q = true ∧ wholeZ q = q.num := by
  have h : wholeB q = true := by
    unfold wholeB
    rw [decide_eq_true hd, decide_eq_true ⟨h1, h2⟩]; rfl
  exact ⟨h, by unfold wholeZ; rw [if_pos h]⟩
theorem whole_den {q : Rat} (hd : q.den ≠ 1) : wholeB q = false ∧ wholeZ q = 0 := by
  have h : wholeB q = false := by unfold wholeB; rw [decide_eq_false hd]; rfl
  exact ⟨h, by unfold wholeZ; rw [h]; rfl⟩
theorem whole_big {q : Rat} (h' : q.num < -9223372036854775808 ∨ 9223372036854775807 < q.num) : wholeB q = false ∧ wholeZ q = 0 := by
  have h : wholeB q = false := by
    unfold wholeB
    rw [decide_eq_false (p := _ ∧ _) (by omega), Bool.and_false]
  exact ⟨h, by unfold wholeZ; rw [h]; rfl⟩
end Wx
