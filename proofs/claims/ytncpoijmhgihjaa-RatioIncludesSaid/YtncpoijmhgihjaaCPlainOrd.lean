import Derived.Test.YtncpoijmhgihjaaProg
import Derived.Test.YtncpoijmhgihjaaPlain1
import Derived.Test.YtncpoijmhgihjaaMem
import Derived.Test.YtncpoijmhgihjaaCRat1
import Derived.Test.YtncpoijmhgihjaaCRat2
import Derived.Test.YtncpoijmhgihjaaJIncludes18
import Derived.Test.YtncpoijmhgihjaaJIncludes16
import Derived.Test.YtncpoijmhgihjaaCCmp
namespace Wx
open Go Go.RowKit Go.Proofs

/-- The three-way comparison of fractions. -/
def cmpT (x y : Rat) : Int := if x < y then -1 else if x = y then 0 else 1
theorem num_lt_zero (q : Rat) : q.num < 0 ↔ q < 0 := by
  rw [Rat.lt_iff]
  simp
theorem sgnI_eq (q : Rat) : sgnI q = cmpT q 0 := by
  unfold sgnI cmpT
  by_cases h : q < 0
  · rw [if_pos ((num_lt_zero q).2 h), if_pos h]
  · rw [if_neg (fun h' => h ((num_lt_zero q).1 h')), if_neg h]
theorem cmpT_lt {x y : Rat} (h : x < y) : cmpT x y = -1 := if_pos h
theorem cmpT_eq {x y : Rat} (h : x = y) : cmpT x y = 0 := by unfold cmpT; rw [if_neg (by grind), if_pos h]
theorem cmpT_gt {x y : Rat} (h : y < x) : cmpT x y = 1 := by unfold cmpT; rw [if_neg (by grind), if_neg (by grind)]
theorem tri (x y : Rat) : x < y ∨ x = y ∨ y < x := by grind
theorem cross_eq {x y : Rat} (h : x.num * y.den = y.num * x.den) : x = y := by
  rcases tri x y with h1 | h1 | h1
  · rw [Rat.lt_iff] at h1; omega
  · exact h1
  · rw [Rat.lt_iff] at h1; omega
theorem cmpI_val (m n : Nat) : (m < n ∧ cmpI m n = -1) ∨ (m = n ∧ cmpI m n = 0) ∨ (n < m ∧ cmpI m n = 1) := by
  unfold cmpI
  rcases Nat.lt_trichotomy m n with h | h | h
  · left; exact ⟨h, if_pos h⟩
  · right; left; exact ⟨h, by rw [if_neg (by omega), if_neg (by omega)]⟩
  · right; right; exact ⟨h, by rw [if_neg (by omega), if_pos h]⟩
/-- What Cmp says. -/
theorem cmpF_eq (x y : Rat) : cmpF x y = cmpT x y := by
  have hdx : (0 : Int) < x.den := by have := x.den_pos; omega
  have hdy : (0 : Int) < y.den := by have := y.den_pos; omega
  have ax : ((x.num.natAbs * y.den : Nat) : Int) = (x.num.natAbs : Int) * y.den := by simp
  have ay : ((y.num.natAbs * x.den : Nat) : Int) = (y.num.natAbs : Int) * x.den := by simp
  unfold cmpF
  rw [sgnI_eq, sgnI_eq]
  rcases tri x 0 with hx | hx | hx
  · have nx : x.num < 0 := (num_lt_zero x).2 hx
    have bx' : (x.num.natAbs : Int) = -x.num := by omega
    rw [cmpT_lt hx]
    rcases tri y 0 with hy | hy | hy
    · have ny : y.num < 0 := (num_lt_zero y).2 hy
      have by' : (y.num.natAbs : Int) = -y.num := by omega
      rw [cmpT_lt hy, if_pos rfl]
      rw [bx', Int.neg_mul] at ax
      rw [by', Int.neg_mul] at ay
      rcases cmpI_val (x.num.natAbs * y.den) (y.num.natAbs * x.den) with ⟨h, e⟩ | ⟨h, e⟩ | ⟨h, e⟩
      · rw [e, cmpT_gt (by rw [Rat.lt_iff]; omega)]; rfl
      · rw [e, cmpT_eq (cross_eq (by omega))]; rfl
      · rw [e, cmpT_lt (by rw [Rat.lt_iff]; omega)]; rfl
    · rw [cmpT_eq hy, if_neg (by omega), if_pos (by omega), cmpT_lt (by grind)]
    · rw [cmpT_gt hy, if_neg (by omega), if_pos (by omega), cmpT_lt (by grind)]
  · rw [cmpT_eq hx]
    rcases tri y 0 with hy | hy | hy
    · rw [cmpT_lt hy, if_neg (by omega), if_neg (by omega), cmpT_gt (by grind)]
    · rw [cmpT_eq hy, if_pos rfl, cmpT_eq (by grind), Int.mul_zero]
    · rw [cmpT_gt hy, if_neg (by omega), if_pos (by omega), cmpT_lt (by grind)]
  · have nx : 0 < x.num := by
      have h1 := mt (num_lt_zero x).1 (by grind)
      have h2 : x.num ≠ 0 := fun h => by have := Rat.num_eq_zero.1 h; grind
      omega
    have bx' : (x.num.natAbs : Int) = x.num := by omega
    rw [cmpT_gt hx]
    rcases tri y 0 with hy | hy | hy
    · rw [cmpT_lt hy, if_neg (by omega), if_neg (by omega), cmpT_gt (by grind)]
    · rw [cmpT_eq hy, if_neg (by omega), if_neg (by omega), cmpT_gt (by grind)]
    · have ny : 0 < y.num := by
        have h1 := mt (num_lt_zero y).1 (by grind)
        have h2 : y.num ≠ 0 := fun h => by have := Rat.num_eq_zero.1 h; grind
        omega
      have by' : (y.num.natAbs : Int) = y.num := by omega
      rw [cmpT_gt hy, if_pos rfl, Int.mul_one]
      rw [bx'] at ax
      rw [by'] at ay
      rcases cmpI_val (x.num.natAbs * y.den) (y.num.natAbs * x.den) with ⟨h, e⟩ | ⟨h, e⟩ | ⟨h, e⟩
      · rw [e, cmpT_lt (by rw [Rat.lt_iff]; omega)]
      · rw [e, cmpT_eq (cross_eq (by omega))]
      · rw [e, cmpT_gt (by rw [Rat.lt_iff]; omega)]
theorem cmpT_range (x y : Rat) : -1 ≤ cmpT x y ∧ cmpT x y ≤ 1 := by
  unfold cmpT
  split
  · omega
  · split <;> omega
theorem cmpT_swap (x y : Rat) : cmpT y x = -cmpT x y := by
  rcases tri x y with h | h | h
  · rw [cmpT_lt h, cmpT_gt h]; rfl
  · rw [cmpT_eq h, cmpT_eq h.symm]; rfl
  · rw [cmpT_gt h, cmpT_lt h]
theorem cmpT_zero {x y : Rat} : cmpT x y = 0 ↔ x = y := by
  rcases tri x y with h | h | h
  · rw [cmpT_lt h]; constructor
    · intro h'; omega
    · intro h'; grind
  · rw [cmpT_eq h]; exact ⟨fun _ => h, fun _ => rfl⟩
  · rw [cmpT_gt h]; constructor
    · intro h'; omega
    · intro h'; grind
theorem cmpT_le {x y : Rat} : cmpT x y ≤ 0 ↔ x ≤ y := by
  rcases tri x y with h | h | h
  · rw [cmpT_lt h]; constructor
    · intro _; grind
    · intro _; omega
  · rw [cmpT_eq h]; exact ⟨fun _ => by grind, fun _ => by omega⟩
  · rw [cmpT_gt h]; constructor
    · intro h'; omega
    · intro h'; grind
theorem cmpT_sub (x y : Rat) : cmpT (x - y) 0 = cmpT x y := by
  rcases tri x y with h | h | h
  · rw [cmpT_lt h, cmpT_lt (by grind)]
  · rw [cmpT_eq h, cmpT_eq (by grind)]
  · rw [cmpT_gt h, cmpT_gt (by grind)]
theorem cmpT_add (x y z : Rat) : cmpT (x + z) (y + z) = cmpT x y := by
  rcases tri x y with h | h | h
  · rw [cmpT_lt h, cmpT_lt (by grind)]
  · rw [cmpT_eq h, cmpT_eq (by grind)]
  · rw [cmpT_gt h, cmpT_gt (by grind)]
theorem cmpT_mul (x y z : Rat) : cmpT (x * z) (y * z) = cmpT z 0 * cmpT x y := by
  rcases tri z 0 with hz | hz | hz
  · have hn : 0 < -z := by grind
    rcases tri x y with h | h | h
    · have h1 := Rat.mul_lt_mul_of_pos_right h hn
      rw [cmpT_lt hz, cmpT_lt h, cmpT_gt (by grind)]; rfl
    · rw [cmpT_lt hz, cmpT_eq h, cmpT_eq (by rw [h])]; rfl
    · have h1 := Rat.mul_lt_mul_of_pos_right h hn
      rw [cmpT_lt hz, cmpT_gt h, cmpT_lt (by grind)]; rfl
  · rw [cmpT_eq hz, Int.zero_mul, hz, cmpT_eq (by grind)]
  · rcases tri x y with h | h | h
    · rw [cmpT_gt hz, cmpT_lt h, cmpT_lt (Rat.mul_lt_mul_of_pos_right h hz)]; rfl
    · rw [cmpT_gt hz, cmpT_eq h, cmpT_eq (by rw [h])]; rfl
    · rw [cmpT_gt hz, cmpT_gt h, cmpT_gt (Rat.mul_lt_mul_of_pos_right h hz)]; rfl
theorem sq_nonneg (x : Rat) : 0 ≤ x * x := by
  rcases tri x 0 with h | h | h
  · have h1 : 0 < -x := by grind
    have := Rat.mul_pos h1 h1
    grind
  · rw [h]; grind
  · have := Rat.mul_pos h h
    grind
theorem sgnI_sq (x : Rat) : 0 ≤ sgnI (x * x) := by
  rw [sgnI_eq]
  have := sq_nonneg x
  rcases tri (x * x) 0 with h | h | h
  · grind
  · rw [cmpT_eq h]; omega
  · rw [cmpT_gt h]; omega
end Wx
