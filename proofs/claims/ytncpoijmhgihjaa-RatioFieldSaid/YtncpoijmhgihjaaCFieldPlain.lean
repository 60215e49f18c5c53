import Derived.Handy
import Derived.Test.YtncpoijmhgihjaaPlain1
import Derived.Test.YtncpoijmhgihjaaMem
import Derived.Test.YtncpoijmhgihjaaCRat1
import Derived.Test.YtncpoijmhgihjaaCRat2
import Derived.Test.YtncpoijmhgihjaaCPlainRat
import Derived.Test.YtncpoijmhgihjaaSem
import Derived.Test.YtncpoijmhgihjaaSemOps
import Derived.Test.YtncpoijmhgihjaaCKit
import Derived.Test.YtncpoijmhgihjaaCPairs
namespace Wx
open Go Go.RowKit

theorem fl_assoc (x y z : Rat) : x + y + z = x + (y + z) := by grind
theorem fl_massoc (x y z : Rat) : x * y * z = x * (y * z) := by grind
theorem fl_dist (x y z : Rat) : (x + y) * z = x * z + y * z := by grind
theorem fl_sub (x y : Rat) : x - y + y = x := by grind
theorem fl_neg (x : Rat) : -x + x = 0 := by grind
theorem decide2 {p q : Prop} [Decidable p] [Decidable q] (h : p ∧ q) : (decide p && decide q) = true := by simp [h.1, h.2]
theorem fp_mcomm (a b c d : Rat) : a * c - b * d = c * a - d * b ∧ a * d + b * c = c * b + d * a := ⟨by grind, by grind⟩
theorem fp_massoc (a b c d e f : Rat) : (a * c - b * d) * e - (a * d + b * c) * f = a * (c * e - d * f) - b * (c * f + d * e) ∧ (a * c - b * d) * f + (a * d + b * c) * e = a * (c * f + d * e) + b * (c * e - d * f) := ⟨by grind, by grind⟩
theorem fp_dist (a b c d e f : Rat) : (a + c) * e - (b + d) * f = a * e - b * f + (c * e - d * f) ∧ (a + c) * f + (b + d) * e = a * f + b * e + (c * f + d * e) := ⟨by grind, by grind⟩
theorem fp_norm (a b c d : Rat) : (a * c - b * d) * (a * c - b * d) + (a * d + b * c) * (a * d + b * c) = (a * a + b * b) * (c * c + d * d) := by grind
theorem fp_conj (a b : Rat) : a * a - b * (-b) = a * a + b * b ∧ a * (-b) + b * a = ((0 : Int) : Rat) := ⟨by grind, by grind⟩
theorem mul_div_ (x : Rat) {n : Rat} (h : n ≠ 0) : x * n / n = x := by grind
theorem ft_a (y : Rat) : (decide (y = 0) != ((if y = 0 then (3 : Int) else 0) == (3 : Int))) = false := by by_cases h : y = 0 <;> simp [h]
theorem ft_b (y : Rat) : (((if y = 0 then (3 : Int) else 0) != (0 : Int)) && ((if y = 0 then (3 : Int) else 0) != (3 : Int))) = false := by by_cases h : y = 0 <;> simp [h]
theorem ft_c (x y : Rat) : (((if y = 0 then (3 : Int) else 0) == (0 : Int)) && !decide (x * y / y = x)) = false := by
  by_cases h : y = 0
  · simp [h]
  · simp [h, mul_div_ x h]
theorem ft_d (a b : Rat) : ((decide (a = 0) && decide (b = 0)) == ((if a = 0 ∧ b = 0 then (3 : Int) else 0) == (3 : Int))) = true := by by_cases h : a = 0 <;> by_cases g : b = 0 <;> simp [h, g]
theorem ft_e (a b : Rat) : (((if a = 0 ∧ b = 0 then (3 : Int) else 0) == (0 : Int)) || ((if a = 0 ∧ b = 0 then (3 : Int) else 0) == (3 : Int))) = true := by by_cases h : a = 0 ∧ b = 0 <;> simp [h]
theorem ft_f (a b c d : Rat) : (((if c = 0 ∧ d = 0 then (3 : Int) else 0) != (0 : Int)) || (decide (((a * c - b * d) * c - (a * d + b * c) * (-d)) / (c * c + d * d) = a) && decide (((a * c - b * d) * (-d) + (a * d + b * c) * c) / (c * c + d * d) = b))) = true := by
  by_cases h : c = 0 ∧ d = 0
  · simp [h]
  · have hn : c * c + d * d ≠ 0 := fun hn => h (sq_zero2 hn)
    have e1 : (a * c - b * d) * c - (a * d + b * c) * (-d) = a * (c * c + d * d) := by grind
    have e2 : (a * c - b * d) * (-d) + (a * d + b * c) * c = b * (c * c + d * d) := by grind
    rw [e1, e2, mul_div_ a hn, mul_div_ b hn]
    simp
end Wx
