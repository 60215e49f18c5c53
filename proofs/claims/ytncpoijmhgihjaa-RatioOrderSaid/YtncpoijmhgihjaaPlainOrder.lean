import Derived.Test.YtncpoijmhgihjaaProg
import Derived.Test.YtncpoijmhgihjaaPlain1
import Derived.Test.YtncpoijmhgihjaaMem
import Derived.Test.YtncpoijmhgihjaaRat1
import Derived.Test.YtncpoijmhgihjaaRat2
import Derived.Test.YtncpoijmhgihjaaRat4
import Derived.Test.YtncpoijmhgihjaaPlainRat
import Derived.Test.YtncpoijmhgihjaaCmp
import Derived.Test.YtncpoijmhgihjaaStr
import Derived.Test.YtncpoijmhgihjaaDigits
import Derived.Test.YtncpoijmhgihjaaText
import Derived.Test.YtncpoijmhgihjaaRText
import Derived.Test.YtncpoijmhgihjaaParse
import Derived.Test.YtncpoijmhgihjaaPlainOrd
import Derived.Test.YtncpoijmhgihjaaPlainText
namespace Wx
open Go Go.RowKit Go.Proofs

theorem text_eq (x y : Rat) : ((strOf (textR x)).toList == (strOf (textR y)).toList) = decide (x = y) := by
  by_cases h : x = y
  · rw [decide_eq_true h, h]; simp
  · rw [decide_eq_false h, beq_eq_false_iff_ne]
    exact fun e => h (textR_inj (strOf_inj (textR_wf x) (textR_wf y) e))
theorem zero_dec (x y : Rat) : decide (x = y) = (cmpT x y == 0) := by
  by_cases h : x = y
  · rw [decide_eq_true h, cmpT_eq h]; rfl
  · rw [decide_eq_false h]
    exact (beq_eq_false_iff_ne.2 (mt cmpT_zero.1 h)).symm
/-- The numbers of RatioOrder. -/
theorem ord_facts (x y z : Rat) : ∃ c e f s t : Int, cmpF x y = c ∧ cmpF y x = -c ∧ decide (x = y) = (c == 0) ∧ sgnI (x - y) = c ∧ sgnI (x * x) = t ∧ (0 ≤ t ∧ t ≤ 1) ∧ cmpF (x + z) (y + z) = c ∧ cmpF y z = e ∧ cmpF x z = f ∧ sgnI z = s ∧
    cmpF (x * z) (y * z) = s * c ∧ (-1 ≤ c ∧ c ≤ 1) ∧ (-1 ≤ e ∧ e ≤ 1) ∧ (-1 ≤ f ∧ f ≤ 1) ∧ (-1 ≤ s ∧ s ≤ 1) ∧ (c ≤ 0 → e ≤ 0 → f ≤ 0) ∧ ((strOf (textR x)).toList == (strOf (textR y)).toList) = (c == 0) := by
  refine ⟨cmpT x y, cmpT y z, cmpT x z, cmpT z 0, sgnI (x * x), cmpF_eq _ _, by rw [cmpF_eq]; exact cmpT_swap x y, zero_dec x y, by rw [sgnI_eq]; exact cmpT_sub x y, rfl, ⟨sgnI_sq x, by rw [sgnI_eq]; exact (cmpT_range _ _).2⟩, by rw [cmpF_eq]; exact cmpT_add x y z, cmpF_eq _ _, cmpF_eq _ _, sgnI_eq z,
    by rw [cmpF_eq]; exact cmpT_mul x y z, cmpT_range _ _, cmpT_range _ _, cmpT_range _ _, cmpT_range _ _, fun h1 h2 => ?_, by rw [text_eq]; exact zero_dec x y⟩
  rw [cmpT_le] at *
  grind
end Wx
