import Derived.Test.YtioicklnneebnaaGreatProg
import Derived.Handy
import Derived.Laws.IdiomStrings
import Derived.Deep.RegionHeld3
import Derived.Test.YtioicklnneebnaaGreatPlain1
import Derived.Test.YtioicklnneebnaaGreatMem
import Derived.Test.YtioicklnneebnaaGreatJRounds3
import Derived.Test.YtioicklnneebnaaGreatCRat1
import Derived.Test.YtioicklnneebnaaGreatCRat2
import Derived.Test.YtioicklnneebnaaGreatJRounds23
import Derived.Test.YtioicklnneebnaaGreatJRounds25
import Derived.Test.YtioicklnneebnaaGreatJRounds31
import Derived.Test.YtioicklnneebnaaGreatJRounds38
import Derived.Test.YtioicklnneebnaaGreatCNText
import Derived.Test.YtioicklnneebnaaGreatJRounds26
import Derived.Test.YtioicklnneebnaaGreatCText
import Derived.Test.YtioicklnneebnaaGreatJRounds29
import Derived.Test.YtioicklnneebnaaGreatJRounds16
import Derived.Test.YtioicklnneebnaaGreatJRounds18
import Derived.Test.YtioicklnneebnaaGreatCCmp
import Derived.Test.YtioicklnneebnaaGreatCPlainOrd
import Derived.Test.YtioicklnneebnaaGreatCDown
import Derived.Test.YtioicklnneebnaaGreatJRounds43
namespace Wx
open Go Go.RowKit Go.Proofs

set_option maxRecDepth 100000 in
set_option maxHeartbeats 1000000 in
/-- The program's fraction is the reference's one. -/
theorem is_yes (w : World) (vx vy : Value) (x : Rat) (hx : IsRat w vx x) (hy : IsRef w vy x) {j : Nat} (hj : BdR j x) (hj1 : j ≤ 100000000) : Calls Tryz.prog 10 #[vx, vy] w (RetIs w (.bool true)) := by
  obtain ⟨vx1, vx2, rfl, hxa, hxb⟩ := id hx
  obtain ⟨Ax1, cx1, rfl, _⟩ := id hxa
  obtain ⟨Ax2, cx2, rfl, _⟩ := id hxb
  obtain ⟨vy1, vy2, rfl, hya, hyb⟩ := id hy
  obtain ⟨Ay1, cy1, rfl, _⟩ := id hya
  obtain ⟨Ay2, cy2, rfl, _⟩ := id hyb
  have HB := bx hj
  have hx0 := hx
  have hy0 := hy

  clear hj hx hy
  go_enter Tryz.func10, Tryz.ntmps10
  go_wp2_with fail
  obtain ⟨w1, e1, o1, b1, s1⟩ := layA w [.bool (decide (x.num < 0)), .slice Ax1 (digs b64 x.num.natAbs).length cx1, .slice Ax2 (digs b64 (denOf x.den)).length cx2] 27
  obtain ⟨w2, e2, o2, b2, s2⟩ := layA w1 [.bool (decide (x.num < 0)), .slice Ay1 (digs b32 x.num.natAbs).length cy1, .slice Ay2 (digs b32 x.den).length cy2] 31
  rw [e1, e2]
  rw [s1] at o2
  have p1 := (o1.gone b2)
  have p2 := o2
  have B0 := (b1.trans (b2.mono b1.size))
  have hS : ∀ w', HeldQ w [(w.heap.size, [.bool (decide (x.num < 0)), .slice Ax1 (digs b64 x.num.natAbs).length cx1, .slice Ax2 (digs b64 (denOf x.den)).length cx2], 27), (w.heap.size + 1, [.bool (decide (x.num < 0)), .slice Ay1 (digs b32 x.num.natAbs).length cy1, .slice Ay2 (digs b32 x.den).length cy2], 31)] w' → HeldQ w [(w.heap.size, [.bool (decide (x.num < 0)), .slice Ax1 (digs b64 x.num.natAbs).length cx1, .slice Ax2 (digs b64 (denOf x.den)).length cx2], 27), (w.heap.size + 1, [.bool (decide (x.num < 0)), .slice Ay1 (digs b32 x.num.natAbs).length cy1, .slice Ay2 (digs b32 x.den).length cy2], 31)] w' ∧ w'.cell? ⟨w.heap.size, 0, none⟩ = some (.bool (decide (x.num < 0))) ∧ w'.cell? ⟨w.heap.size, 1, none⟩ = some (.slice Ax1 (digs b64 x.num.natAbs).length cx1) ∧ w'.cell? ⟨w.heap.size, 2, none⟩ = some (.slice Ax2 (digs b64 (denOf x.den)).length cx2) ∧ w'.cell? ⟨w.heap.size + 1, 0, none⟩ = some (.bool (decide (x.num < 0))) ∧ w'.cell? ⟨w.heap.size + 1, 1, none⟩ = some (.slice Ay1 (digs b32 x.num.natAbs).length cy1) ∧ w'.cell? ⟨w.heap.size + 1, 2, none⟩ = some (.slice Ay2 (digs b32 x.den).length cy2) := fun w' hh => by
    have r1 := hh.at_ (p := (w.heap.size, [.bool (decide (x.num < 0)), .slice Ax1 (digs b64 x.num.natAbs).length cx1, .slice Ax2 (digs b64 (denOf x.den)).length cx2], 27)) (by simp)
    have r2 := hh.at_ (p := (w.heap.size + 1, [.bool (decide (x.num < 0)), .slice Ay1 (digs b32 x.num.natAbs).length cy1, .slice Ay2 (digs b32 x.den).length cy2], 31)) (by simp)
    exact ⟨hh, r1.cell (i := 0) rfl, r1.cell (i := 1) rfl, r1.cell (i := 2) rfl, r2.cell (i := 0) rfl, r2.cell (i := 1) rfl, r2.cell (i := 2) rfl⟩
  have hz : HeldQ w [(w.heap.size, [.bool (decide (x.num < 0)), .slice Ax1 (digs b64 x.num.natAbs).length cx1, .slice Ax2 (digs b64 (denOf x.den)).length cx2], 27), (w.heap.size + 1, [.bool (decide (x.num < 0)), .slice Ay1 (digs b32 x.num.natAbs).length cy1, .slice Ay2 (digs b32 x.den).length cy2], 31)] w2 := ⟨B0, by intro q hq; simp at hq; rcases hq with rfl | rfl; exact p1; exact p2⟩
  clear e1 e2 o1 b1 s1 p1 o2 b2 s2 p2
  clear B0
  have hz := hz.drew
  go_region_held3 (fun w' => HeldQ w [(w.heap.size, [.bool (decide (x.num < 0)), .slice Ax1 (digs b64 x.num.natAbs).length cx1, .slice Ax2 (digs b64 (denOf x.den)).length cx2], 27), (w.heap.size + 1, [.bool (decide (x.num < 0)), .slice Ay1 (digs b32 x.num.natAbs).length cy1, .slice Ay2 (digs b32 x.den).length cy2], 31)] w' ∧ w'.cell? ⟨w.heap.size, 0, none⟩ = some (.bool (decide (x.num < 0))) ∧ w'.cell? ⟨w.heap.size, 1, none⟩ = some (.slice Ax1 (digs b64 x.num.natAbs).length cx1) ∧ w'.cell? ⟨w.heap.size, 2, none⟩ = some (.slice Ax2 (digs b64 (denOf x.den)).length cx2) ∧ w'.cell? ⟨w.heap.size + 1, 0, none⟩ = some (.bool (decide (x.num < 0))) ∧ w'.cell? ⟨w.heap.size + 1, 1, none⟩ = some (.slice Ay1 (digs b32 x.num.natAbs).length cy1) ∧ w'.cell? ⟨w.heap.size + 1, 2, none⟩ = some (.slice Ay2 (digs b32 x.den).length cy2))
    (exact hS _ hz)
    (first
      | (go_at_call 36; (with_reducible refine Calls.mono (rtext_num _ _ x (hx0.below hz.b) HB.out hj1) ?_); rintro e wz ⟨rfl, hb⟩; have hz := HeldQ.call (And.intro hz trivial) hb)
      | (go_at_call 37; (with_reducible refine Calls.mono (ntext_num _ _ x (hy0.below hz.b) HB.out hj1) ?_); rintro e wz ⟨rfl, hb⟩; have hz := HeldQ.call (And.intro hz trivial) hb))
  all_goals (
    go_wp2
    go_ret
    exact ⟨rfl, hz.b⟩)
end Wx

namespace Wx
def powR (x : Rat) : Nat → Rat
  | 0 => 1
  | n + 1 => powR x n * x
theorem bd_pow {j : Nat} {x : Rat} (h : BdR j x) : ∀ n, BdR (j * n + 1) (powR x n)
  | 0 => ⟨by show Bd _ 1; unfold Bd; simp, by show Bd _ 1; unfold Bd; simp⟩
  | n + 1 => ((bd_pow h n).mul h).mono (by rw [Nat.mul_add]; omega)
end Wx

namespace Wx

theorem half_eq : newR 1 2 = 1 / 2 := by decide +kernel
theorem pw_succ (n : Nat) : pw (n + 1) = pw n * 2 := by
  unfold pw
  rw [Nat.pow_succ, Rat.natCast_mul]
  rfl
theorem pow_half (n : Nat) : powR (newR 1 2) n = 1 / pw n := by
  rw [half_eq]
  induction n with
  | zero => show (1 : Rat) = 1 / pw 0; decide +kernel
  | succ n ih =>
    show powR (1 / 2) n * (1 / 2) = _
    rw [ih, pw_succ]
    have := pw_pos n
    generalize pw n = p at *
    have hp : p ≠ 0 := by grind
    rw [Rat.div_def, Rat.div_def, Rat.div_def]
    grind
theorem floor_zero (x : Rat) : downR x 0 = floorR x := by
  rw [downR_eq, floorR_eq]
  have e : pw (bitsOf 0) = 1 := by decide +kernel
  rw [e, Rat.mul_one, Rat.div_def]
  grind
theorem down_le (x : Rat) (k : Int) : downR x k ≤ x ∧ x - downR x k < 1 / pw (bitsOf k) := by
  rw [downR_eq]
  have hp := pw_pos (bitsOf k)
  have h1 := Rat.floor_le (x * pw (bitsOf k))
  have h2 := Rat.lt_floor_add_one (x * pw (bitsOf k))
  rw [Rat.intCast_add] at h2
  generalize pw (bitsOf k) = p at *
  generalize ((x * p).floor : Rat) = f at *
  have hp0 : p ≠ 0 := by grind
  have e : f / p * p = f := by rw [Rat.div_def, Rat.mul_assoc, Rat.inv_mul_cancel _ hp0, Rat.mul_one]
  have e1 : 1 / p * p = 1 := by rw [Rat.div_def, Rat.one_mul, Rat.inv_mul_cancel _ hp0]
  generalize f / p = a at *
  generalize 1 / p = b at *
  constructor
  · rw [← Rat.not_lt]
    intro h
    have := Rat.mul_lt_mul_of_pos_right h hp
    grind
  · rw [← Rat.not_le]
    intro h
    have := Rat.mul_le_mul_of_nonneg_right h (Rat.le_of_lt hp)
    have h3 : ((1 : Int) : Rat) = 1 := rfl
    rw [h3] at h2
    grind
theorem floor_facts (x : Rat) : floorR x ≤ x ∧ x < floorR x + 1 := by
  rw [floorR_eq]
  have h1 := Rat.floor_le x
  have h2 := Rat.lt_floor_add_one x
  rw [Rat.intCast_add] at h2
  exact ⟨h1, h2⟩
/-- All that RatioRounds compares. -/
theorem round_facts (x : Rat) (k : Int) : ∃ c1 c2 c3 c4 c5 c6 : Int, cmpT (floorR x) x = c1 ∧ c1 ≤ 0 ∧ cmpT x (floorR x + 1) = c2 ∧ c2 < 0 ∧ cmpT (downR x k) x = c3 ∧ c3 ≤ 0 ∧ cmpT (-(downR (-x) k)) x = c4 ∧ 0 ≤ c4 ∧
    cmpT (x - downR x k) (1 / pw (bitsOf k)) = c5 ∧ c5 < 0 ∧ cmpT (-(downR (-x) k) - x) (1 / pw (bitsOf k)) = c6 ∧ c6 < 0 := by
  obtain ⟨a1, a2⟩ := floor_facts x
  obtain ⟨b1, b2⟩ := down_le x k
  obtain ⟨d1, d2⟩ := down_le (-x) k
  have key : ∀ u v : Rat, u < v → cmpT u v < 0 := fun u v h => by rw [cmpT_lt h]; omega
  have kle : ∀ u v : Rat, u ≤ v → cmpT u v ≤ 0 := fun u v h => by rw [cmpT_le]; exact h
  refine ⟨_, _, _, _, _, _, rfl, kle _ _ a1, rfl, key _ _ a2, rfl, kle _ _ b1, rfl, ?_, rfl, key _ _ b2, rfl, key _ _ ?_⟩
  · rcases tri (-(downR (-x) k)) x with h | h | h
    · exfalso; grind
    · rw [cmpT_eq h]; omega
    · rw [cmpT_gt h]; omega
  · have e : -(downR (-x) k) - x = -x - downR (-x) k := by grind
    rw [e]; exact d2
end Wx
