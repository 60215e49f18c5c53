import Derived.Handy
import Derived.Test.YtncpoijmhgihjaaPlain1
import Derived.Test.YtncpoijmhgihjaaMem
import Derived.Test.YtncpoijmhgihjaaCRat1
import Derived.Test.YtncpoijmhgihjaaCRat2
import Derived.Test.YtncpoijmhgihjaaJIncludes16
import Derived.Test.YtncpoijmhgihjaaSem
import Derived.Test.YtncpoijmhgihjaaSemOps
import Derived.Test.YtncpoijmhgihjaaJIncludes39
import Derived.Test.YtncpoijmhgihjaaCPairs
import Derived.Test.YtncpoijmhgihjaaJIncludes18
import Derived.Test.YtncpoijmhgihjaaCCmp
import Derived.Test.YtncpoijmhgihjaaCPlainOrd
import Derived.Test.YtncpoijmhgihjaaCDown
import Derived.Test.YtncpoijmhgihjaaJIncludes26
import Derived.Test.YtncpoijmhgihjaaJIncludes42
import Derived.Test.YtncpoijmhgihjaaCInt
import Derived.Test.YtncpoijmhgihjaaCRangePlain
import Derived.Test.YtncpoijmhgihjaaCIncPlain
import Derived.Test.YtncpoijmhgihjaaCRanges
namespace Wx
open Go Go.RowKit

theorem fl_assoc (x y z : Rat) : x + y + z = x + (y + z) := by grind
theorem fl_massoc (x y z : Rat) : x * y * z = x * (y * z) := by grind
theorem fl_dist (x y z : Rat) : (x + y) * z = x * z + y * z := by grind
theorem fl_sub (x y : Rat) : x - y + y = x := by grind
theorem fl_neg (x : Rat) : -x + x = 0 := by grind
theorem decide2 {p q : Prop} [Decidable p] [Decidable q] (h : p ∧ q) : (decide p && decide q) = true := by simp [h.1, h.2]
theorem fp_mcomm (a b c d : Rat) : a * c - b * d = c * a - d * b ∧ a * d + b * c = c * b + d * a := ⟨by grind, by grind⟩
theorem fp_massoc (a b c d e f : Rat) : (a * c - b * d) * e - (a * d + b * c) * f = a * (c * e - d * f) - b * (c * f + d * e) ∧ (a * c - b * d) * f + (a * d + b * c) * e = a * (c * f + d * e) + b * (c * e - d * f) := ⟨by grind, by grind⟩
theorem fp_dist (a b c d e f : Rat) : (a + c) * e - (b + d) * f = a * e - b * f + (c * e - d * f) ∧ (a + c) * f + (b + d) * e = a * f + b * e + (c * f + d * e) := ⟨by grind, by grind⟩
theorem fp_norm (a b c d : Rat) : (a * c - b * d) * (a * c - b * d) + (a * d + b * c) * (a * d + b * c) = (a * a + b * b) * (c * c + d * d) := by grind
theorem fp_conj (a b : Rat) : a * a - b * (-b) = a * a + b * b ∧ a * (-b) + b * a = ((0 : Int) : Rat) := ⟨by grind, by grind⟩
theorem mul_div_ (x : Rat) {n : Rat} (h : n ≠ 0) : x * n / n = x := by grind
theorem ft_a (y : Rat) : (decide (y = 0) != ((if y = 0 then (3 : Int) else 0) == (3 : Int))) = false := by by_cases h : y = 0 <;> simp [h]
theorem ft_b (y : Rat) : (((if y = 0 then (3 : Int) else 0) != (0 : Int)) && ((if y = 0 then (3 : Int) else 0) != (3 : Int))) = false := by by_cases h : y = 0 <;> simp [h]
theorem ft_c (x y : Rat) : (((if y = 0 then (3 : Int) else 0) == (0 : Int)) && !decide (x * y / y = x)) = false := by
  by_cases h : y = 0
  · simp [h]
  · simp [h, mul_div_ x h]
theorem ft_d (a b : Rat) : ((decide (a = 0) && decide (b = 0)) == ((if a = 0 ∧ b = 0 then (3 : Int) else 0) == (3 : Int))) = true := by by_cases h : a = 0 <;> by_cases g : b = 0 <;> simp [h, g]
theorem ft_e (a b : Rat) : (((if a = 0 ∧ b = 0 then (3 : Int) else 0) == (0 : Int)) || ((if a = 0 ∧ b = 0 then (3 : Int) else 0) == (3 : Int))) = true := by by_cases h : a = 0 ∧ b = 0 <;> simp [h]
theorem ft_f (a b c d : Rat) : (((if c = 0 ∧ d = 0 then (3 : Int) else 0) != (0 : Int)) || (decide (((a * c - b * d) * c - (a * d + b * c) * (-d)) / (c * c + d * d) = a) && decide (((a * c - b * d) * (-d) + (a * d + b * c) * c) / (c * c + d * d) = b))) = true := by
  by_cases h : c = 0 ∧ d = 0
  · simp [h]
  · have hn : c * c + d * d ≠ 0 := fun hn => h (sq_zero2 hn)
    have e1 : (a * c - b * d) * c - (a * d + b * c) * (-d) = a * (c * c + d * d) := by grind
    have e2 : (a * c - b * d) * (-d) + (a * d + b * c) * c = b * (c * c + d * d) := by grind
    rw [e1, e2, mul_div_ a hn, mul_div_ b hn]
    simp
end Wx

namespace Wx
open Go Go.RowKit

theorem i_sqp {a b u : Rat} (h : a ≤ u ∧ u ≤ b) : (sqLo a b ≤ sqLo u u ∧ sqLo u u ≤ max2 (a * a) (b * b)) ∧ (sqLo a b ≤ max2 (u * u) (u * u) ∧ max2 (u * u) (u * u) ≤ max2 (a * a) (b * b)) := by
  have k := sq_in h.1 h.2
  have e : sqLo u u = u * u := by
    unfold sqLo
    split
    · have : u = 0 := by grind
      rw [this]; grind
    · exact min2_self _
  rw [e, max2_self]
  exact ⟨k, k⟩
theorem divE_ok {c d : Rat} (h : c ≤ 0 ∧ 0 ≤ d) : divE c d = 3 := if_pos h
theorem divE_no {c d : Rat} (h : ¬ (c ≤ 0 ∧ 0 ≤ d)) : divE c d = 0 := if_neg h
theorem i_div {a b c d u v : Rat} (h : a ≤ u ∧ u ≤ b) (g : c ≤ v ∧ v ≤ d) (hz : ¬ (c ≤ 0 ∧ 0 ≤ d)) : ¬ (v ≤ 0 ∧ 0 ≤ v) ∧ (divLo a b c d ≤ divLo u u v v ∧ divLo u u v v ≤ divHi a b c d) ∧ (divLo a b c d ≤ divHi u u v v ∧ divHi u u v v ≤ divHi a b c d) := by
  have hv : ¬ (v ≤ 0 ∧ 0 ≤ v) := fun hv => hz ⟨Rat.le_trans g.1 hv.1, Rat.le_trans hv.2 g.2⟩
  have hi := inv_in g hz
  have k := mul_in h.1 h.2 hi.1 hi.2
  refine ⟨hv, ?_⟩
  unfold divLo divHi
  rw [if_neg hz, if_neg hv, if_neg hz, if_neg hv, min4_self, max4_self]
  simp only [Rat.div_def]
  have e1 : min4 (a * c⁻¹) (a * d⁻¹) (b * c⁻¹) (b * d⁻¹) ≤ u * v⁻¹ := by
    obtain ⟨m1, m2, m3, m4⟩ := min4_le (a * c⁻¹) (a * d⁻¹) (b * c⁻¹) (b * d⁻¹)
    exact Rat.le_trans (min4_ge m2 m1 m4 m3) k.1
  have e2 : u * v⁻¹ ≤ max4 (a * c⁻¹) (a * d⁻¹) (b * c⁻¹) (b * d⁻¹) := by
    obtain ⟨m1, m2, m3, m4⟩ := le_max4 (a * c⁻¹) (a * d⁻¹) (b * c⁻¹) (b * d⁻¹)
    exact Rat.le_trans k.2 (max4_ge m2 m1 m4 m3)
  exact ⟨⟨e1, e2⟩, ⟨e1, e2⟩⟩
theorem i_div1 {a b c d u v : Rat} (h : a ≤ u ∧ u ≤ b) (g : c ≤ v ∧ v ≤ d) :
    ((divE c d == (0 : Int)) && ((divE v v != (0 : Int)) || !((decide (divLo a b c d ≤ divLo u u v v) && decide (divLo u u v v ≤ divHi a b c d)) && (decide (divLo a b c d ≤ divHi u u v v) && decide (divHi u u v v ≤ divHi a b c d))))) = false := by
  by_cases hz : c ≤ 0 ∧ 0 ≤ d
  · rw [divE_ok hz]; simp
  · obtain ⟨h1, h2, h3⟩ := i_div h g hz
    rw [divE_no hz, divE_no h1, decide4 h2 h3]
    rfl
theorem i_div2 (c d : Rat) : ((divE c d != (0 : Int)) && ((divE c d != (3 : Int)) || !(decide (c ≤ ((0 : Int) : Rat)) && decide (((0 : Int) : Rat) ≤ d)))) = false := by
  rw [show ((0 : Int) : Rat) = 0 by rfl]
  by_cases hz : c ≤ 0 ∧ 0 ≤ d
  · rw [divE_ok hz]; simp [hz.1, hz.2]
  · rw [divE_no hz]; simp
theorem i_meet {a b c d u v : Rat} (h : a ≤ u ∧ u ≤ b) (g : c ≤ v ∧ v ≤ d) :
    ((((meetE a b c d == (0 : Int)) && ((decide (a ≤ meetLo a b c d) && decide (meetLo a b c d ≤ b)) && (decide (a ≤ meetHi a b c d) && decide (meetHi a b c d ≤ b)))) && ((decide (c ≤ meetLo a b c d) && decide (meetLo a b c d ≤ d)) && (decide (c ≤ meetHi a b c d) && decide (meetHi a b c d ≤ d)))) ||
      (((meetE a b c d == (5 : Int)) && !(decide (a ≤ v) && decide (v ≤ b))) && !(decide (c ≤ u) && decide (u ≤ d)))) = true := by
  unfold meetE meetLo meetHi
  obtain ⟨m1, m2⟩ := min2_le b d
  obtain ⟨x1, x2⟩ := le_max2 a c
  have hab := Rat.le_trans h.1 h.2
  have hcd := Rat.le_trans g.1 g.2
  have mm := min2_mem b d
  have mx := max2_mem a c
  generalize min2 b d = m at *
  generalize max2 a c = x at *
  obtain ⟨h1, h2⟩ := h
  obtain ⟨g1, g2⟩ := g
  by_cases hz : m < x
  · simp only [if_pos hz]
    have n1 : ¬ (a ≤ v ∧ v ≤ b) := by
      rintro ⟨k1, k2⟩
      rcases mm with e | e <;> rcases mx with e' | e' <;> rw [e, e'] at hz <;> grind
    have n2 : ¬ (c ≤ u ∧ u ≤ d) := by
      rintro ⟨k1, k2⟩
      rcases mm with e | e <;> rcases mx with e' | e' <;> rw [e, e'] at hz <;> grind
    have n1' : (decide (a ≤ v) && decide (v ≤ b)) = false := by rw [← Bool.decide_and]; exact decide_eq_false n1
    have n2' : (decide (c ≤ u) && decide (u ≤ d)) = false := by rw [← Bool.decide_and]; exact decide_eq_false n2
    rw [n1', n2']
    simp
  · simp only [if_neg hz]
    have hxm : x ≤ m := by grind
    rw [decide4 ⟨x1, Rat.le_trans hxm m1⟩ ⟨Rat.le_trans x1 hxm, m1⟩, decide4 ⟨x2, Rat.le_trans hxm m2⟩ ⟨Rat.le_trans x2 hxm, m2⟩]
    rfl
end Wx
