import Derived.Handy
import Derived.Test.YtncpoijmhgihjaaPlain1
import Derived.Test.YtncpoijmhgihjaaMem
import Derived.Test.YtncpoijmhgihjaaCRat1
import Derived.Test.YtncpoijmhgihjaaCRat2
import Derived.Test.YtncpoijmhgihjaaJIncludes18
import Derived.Test.YtncpoijmhgihjaaJIncludes16
import Derived.Test.YtncpoijmhgihjaaCCmp
import Derived.Test.YtncpoijmhgihjaaCPlainOrd
import Derived.Test.YtncpoijmhgihjaaCDown
import Derived.Test.YtncpoijmhgihjaaJIncludes26
import Derived.Test.YtncpoijmhgihjaaJIncludes42
import Derived.Test.YtncpoijmhgihjaaCInt
import Derived.Test.YtncpoijmhgihjaaCRangePlain
namespace Wx
open Go Go.RowKit

theorem getD4 (a b c d : Rat) (i : Nat) (h : i < 4) : [a, b, c, d].getD i 0 = a ∨ [a, b, c, d].getD i 0 = b ∨ [a, b, c, d].getD i 0 = c ∨ [a, b, c, d].getD i 0 = d := by
  match i, h with
  | 0, _ => exact .inl rfl
  | 1, _ => exact .inr (.inl rfl)
  | 2, _ => exact .inr (.inr (.inl rfl))
  | 3, _ => exact .inr (.inr (.inr rfl))
theorem min4_le (a b c d : Rat) : min4 a b c d ≤ a ∧ min4 a b c d ≤ b ∧ min4 a b c d ≤ c ∧ min4 a b c d ≤ d :=
  ⟨minTo_le [a, b, c, d] 4 0 (by omega), minTo_le [a, b, c, d] 4 1 (by omega), minTo_le [a, b, c, d] 4 2 (by omega), minTo_le [a, b, c, d] 4 3 (by omega)⟩
theorem le_max4 (a b c d : Rat) : a ≤ max4 a b c d ∧ b ≤ max4 a b c d ∧ c ≤ max4 a b c d ∧ d ≤ max4 a b c d :=
  ⟨le_maxTo [a, b, c, d] 4 0 (by omega), le_maxTo [a, b, c, d] 4 1 (by omega), le_maxTo [a, b, c, d] 4 2 (by omega), le_maxTo [a, b, c, d] 4 3 (by omega)⟩
theorem min4_mem (a b c d : Rat) : min4 a b c d = a ∨ min4 a b c d = b ∨ min4 a b c d = c ∨ min4 a b c d = d := by
  obtain ⟨i, _, h2, h3⟩ := minTo_mem [a, b, c, d] 4
  unfold min4
  rw [h3]
  exact getD4 a b c d i (h2 (by omega))
theorem max4_mem (a b c d : Rat) : max4 a b c d = a ∨ max4 a b c d = b ∨ max4 a b c d = c ∨ max4 a b c d = d := by
  obtain ⟨i, _, h2, h3⟩ := maxTo_mem [a, b, c, d] 4
  unfold max4
  rw [h3]
  exact getD4 a b c d i (h2 (by omega))
theorem getD2 (a b : Rat) (i : Nat) (h : i < 2) : [a, b].getD i 0 = a ∨ [a, b].getD i 0 = b := by
  match i, h with
  | 0, _ => exact .inl rfl
  | 1, _ => exact .inr rfl
theorem min2_le (a b : Rat) : min2 a b ≤ a ∧ min2 a b ≤ b := ⟨minTo_le [a, b] 2 0 (by omega), minTo_le [a, b] 2 1 (by omega)⟩
theorem le_max2 (a b : Rat) : a ≤ max2 a b ∧ b ≤ max2 a b := ⟨le_maxTo [a, b] 2 0 (by omega), le_maxTo [a, b] 2 1 (by omega)⟩
theorem min2_mem (a b : Rat) : min2 a b = a ∨ min2 a b = b := by
  obtain ⟨i, _, h2, h3⟩ := minTo_mem [a, b] 2
  unfold min2
  rw [h3]
  exact getD2 a b i (h2 (by omega))
theorem max2_mem (a b : Rat) : max2 a b = a ∨ max2 a b = b := by
  obtain ⟨i, _, h2, h3⟩ := maxTo_mem [a, b] 2
  unfold max2
  rw [h3]
  exact getD2 a b i (h2 (by omega))
/-- A product lies between those of the ends of one factor. -/
theorem mul_btw {l u h : Rat} (w : Rat) (h1 : l ≤ u) (h2 : u ≤ h) : (l * w ≤ u * w ∧ u * w ≤ h * w) ∨ (h * w ≤ u * w ∧ u * w ≤ l * w) := by
  rcases Rat.le_total (a := 0) (b := w) with hw | hw
  · left
    have a1 : 0 ≤ (u - l) * w := Rat.mul_nonneg (by grind) hw
    have a2 : 0 ≤ (h - u) * w := Rat.mul_nonneg (by grind) hw
    exact ⟨by grind, by grind⟩
  · right
    have a1 : 0 ≤ (u - l) * (-w) := Rat.mul_nonneg (by grind) (by grind)
    have a2 : 0 ≤ (h - u) * (-w) := Rat.mul_nonneg (by grind) (by grind)
    exact ⟨by grind, by grind⟩
theorem mul_in {a b c d u v : Rat} (h1 : a ≤ u) (h2 : u ≤ b) (h3 : c ≤ v) (h4 : v ≤ d) : min4 (a * c) (a * d) (b * c) (b * d) ≤ u * v ∧ u * v ≤ max4 (a * c) (a * d) (b * c) (b * d) := by
  obtain ⟨m1, m2, m3, m4⟩ := min4_le (a * c) (a * d) (b * c) (b * d)
  obtain ⟨x1, x2, x3, x4⟩ := le_max4 (a * c) (a * d) (b * c) (b * d)
  generalize min4 (a * c) (a * d) (b * c) (b * d) = m at *
  generalize max4 (a * c) (a * d) (b * c) (b * d) = x at *
  have k1 := mul_btw v h1 h2
  have k2 := mul_btw a h3 h4
  have k3 := mul_btw b h3 h4
  rw [Rat.mul_comm c a, Rat.mul_comm v a, Rat.mul_comm d a] at k2
  rw [Rat.mul_comm c b, Rat.mul_comm v b, Rat.mul_comm d b] at k3
  generalize a * c = p at *
  generalize a * d = q at *
  generalize b * c = r at *
  generalize b * d = s at *
  generalize a * v = t at *
  generalize b * v = z at *
  generalize u * v = y at *
  clear h1 h2 h3 h4
  rcases k1 with k1 | k1 <;> rcases k2 with k2 | k2 <;> rcases k3 with k3 | k3 <;> constructor <;> grind
theorem sq_in {a b u : Rat} (h1 : a ≤ u) (h2 : u ≤ b) : (if a ≤ 0 ∧ 0 ≤ b then 0 else min2 (a * a) (b * b)) ≤ u * u ∧ u * u ≤ max2 (a * a) (b * b) := by
  obtain ⟨m1, m2⟩ := min2_le (a * a) (b * b)
  obtain ⟨x1, x2⟩ := le_max2 (a * a) (b * b)
  have k1 := mul_btw u h1 h2
  have k2 := mul_btw a h1 h2
  have k3 := mul_btw b h1 h2
  have hsq : 0 ≤ u * u := by
    rcases Rat.le_total (a := 0) (b := u) with h | h
    · exact Rat.mul_nonneg h h
    · have := Rat.mul_nonneg (a := -u) (b := -u) (by grind) (by grind); grind
  have cu : u * a = a * u := Rat.mul_comm _ _
  have cb : u * b = b * u := Rat.mul_comm _ _
  have ca : b * a = a * b := Rat.mul_comm _ _
  refine ⟨?_, ?_⟩
  · split
    · exact hsq
    · rename_i hn
      by_cases ha : a ≤ 0
      · have hb : b < 0 := by grind
        have s1 : 0 ≤ (-b) * (b - u) := Rat.mul_nonneg (by grind) (by grind)
        have s2 : 0 ≤ (b - u) * (-u) := Rat.mul_nonneg (by grind) (by grind)
        grind
      · have s1 : 0 ≤ a * (u - a) := Rat.mul_nonneg (by grind) (by grind)
        have s2 : 0 ≤ (u - a) * u := Rat.mul_nonneg (by grind) (by grind)
        grind
  · rcases Rat.le_total (a := 0) (b := u) with h | h
    · have s1 : 0 ≤ u * (b - u) := Rat.mul_nonneg h (by grind)
      have s2 : 0 ≤ (b - u) * b := Rat.mul_nonneg (by grind) (by grind)
      grind
    · have s1 : 0 ≤ (-u) * (u - a) := Rat.mul_nonneg (by grind) (by grind)
      have s2 : 0 ≤ (u - a) * (-a) := Rat.mul_nonneg (by grind) (by grind)
      grind
theorem decide4 {p q r t : Prop} [Decidable p] [Decidable q] [Decidable r] [Decidable t] (h : p ∧ q) (g : r ∧ t) : ((decide p && decide q) && (decide r && decide t)) = true := by simp [h.1, h.2, g.1, g.2]
theorem i_add {a b c d u v : Rat} (h : a ≤ u ∧ u ≤ b) (g : c ≤ v ∧ v ≤ d) : a + c ≤ u + v ∧ u + v ≤ b + d := by obtain ⟨h1, h2⟩ := h; obtain ⟨g1, g2⟩ := g; exact ⟨by grind, by grind⟩
theorem i_sub {a b c d u v : Rat} (h : a ≤ u ∧ u ≤ b) (g : c ≤ v ∧ v ≤ d) : a - d ≤ u - v ∧ u - v ≤ b - c := by obtain ⟨h1, h2⟩ := h; obtain ⟨g1, g2⟩ := g; exact ⟨by grind, by grind⟩
theorem i_neg {a b u : Rat} (h : a ≤ u ∧ u ≤ b) : -b ≤ -u ∧ -u ≤ -a := by obtain ⟨h1, h2⟩ := h; exact ⟨by grind, by grind⟩
theorem i_round {a b u : Rat} (h : a ≤ u ∧ u ≤ b) (k : Int) : downR a k ≤ u ∧ u ≤ -(downR (-b) k) := by
  have h1 := (down_le a k).1
  have h2 := (down_le (-b) k).1
  obtain ⟨g1, g2⟩ := h
  exact ⟨by grind, by grind⟩
theorem i_hull {a b c d v : Rat} (g : c ≤ v ∧ v ≤ d) : min4 a b c d ≤ v ∧ v ≤ max4 a b c d := by
  obtain ⟨_, _, m, _⟩ := min4_le a b c d
  obtain ⟨_, _, _, x⟩ := le_max4 a b c d
  exact ⟨Rat.le_trans m g.1, Rat.le_trans g.2 x⟩
theorem min4_ge {a b c d e : Rat} (h1 : e ≤ a) (h2 : e ≤ b) (h3 : e ≤ c) (h4 : e ≤ d) : e ≤ min4 a b c d := by
  rcases min4_mem a b c d with h | h | h | h <;> rw [h] <;> assumption
theorem max4_ge {a b c d e : Rat} (h1 : a ≤ e) (h2 : b ≤ e) (h3 : c ≤ e) (h4 : d ≤ e) : max4 a b c d ≤ e := by
  rcases max4_mem a b c d with h | h | h | h <;> rw [h] <;> assumption
theorem min4_le_max4 (a b c d : Rat) : min4 a b c d ≤ max4 a b c d := Rat.le_trans (min4_le a b c d).1 (le_max4 a b c d).1
theorem i_mulp {a b c d u v : Rat} (h : a ≤ u ∧ u ≤ b) (g : c ≤ v ∧ v ≤ d) :
    (min4 (a * c) (a * d) (b * c) (b * d) ≤ min4 (u * c) (u * d) (u * c) (u * d) ∧ min4 (u * c) (u * d) (u * c) (u * d) ≤ max4 (a * c) (a * d) (b * c) (b * d)) ∧
    (min4 (a * c) (a * d) (b * c) (b * d) ≤ max4 (u * c) (u * d) (u * c) (u * d) ∧ max4 (u * c) (u * d) (u * c) (u * d) ≤ max4 (a * c) (a * d) (b * c) (b * d)) := by
  have hcd := Rat.le_trans g.1 g.2
  have k1 := mul_in h.1 h.2 (Rat.le_refl (a := c)) hcd
  have k2 := mul_in h.1 h.2 hcd (Rat.le_refl (a := d))
  have m1 := min4_ge k1.1 k2.1 k1.1 k2.1
  have m2 := max4_ge k1.2 k2.2 k1.2 k2.2
  have m3 := min4_le_max4 (u * c) (u * d) (u * c) (u * d)
  exact ⟨⟨m1, Rat.le_trans m3 m2⟩, ⟨Rat.le_trans m1 m3, m2⟩⟩
theorem min2_self (a : Rat) : min2 a a = a := by rcases min2_mem a a with h | h <;> exact h
theorem max2_self (a : Rat) : max2 a a = a := by rcases max2_mem a a with h | h <;> exact h
theorem min4_self (a : Rat) : min4 a a a a = a := by rcases min4_mem a a a a with h | h | h | h <;> exact h
theorem max4_self (a : Rat) : max4 a a a a = a := by rcases max4_mem a a a a with h | h | h | h <;> exact h
theorem i_before {a b c d u v : Rat} (h : a ≤ u ∧ u ≤ b) (g : c ≤ v ∧ v ≤ d) : (decide (b < c) && decide (cmpT u v ≥ (0 : Int))) = false := by
  by_cases hbc : b < c
  · have : u < v := by obtain ⟨_, h2⟩ := h; obtain ⟨g1, _⟩ := g; grind
    rw [cmpT_lt this]
    simp
  · simp [hbc]
/-- What lies between the inverses. -/
theorem inv_in {c d v : Rat} (g : c ≤ v ∧ v ≤ d) (h : ¬ (c ≤ 0 ∧ 0 ≤ d)) : d⁻¹ ≤ v⁻¹ ∧ v⁻¹ ≤ c⁻¹ := by
  obtain ⟨g1, g2⟩ := g
  have key : ∀ x y : Rat, x ≤ y → (0 < x ∨ y < 0) → y⁻¹ ≤ x⁻¹ := by
    intro x y hxy hs
    have hx : x ≠ 0 := by rcases hs with hs | hs <;> grind
    have hy : y ≠ 0 := by rcases hs with hs | hs <;> grind
    have e1 : x * x⁻¹ = 1 := Rat.mul_inv_cancel _ hx
    have e2 : y * y⁻¹ = 1 := Rat.mul_inv_cancel _ hy
    have hp : 0 < x⁻¹ * y⁻¹ := by
      rcases hs with hs | hs
      · exact Rat.mul_pos (Rat.inv_pos.2 hs) (Rat.inv_pos.2 (by grind))
      · have neg : ∀ z : Rat, z < 0 → z * z⁻¹ = 1 → z⁻¹ < 0 := by
          intro z hz e
          generalize z⁻¹ = p at *
          rcases Rat.le_total (a := 0) (b := p) with h | h
          · have := Rat.mul_nonneg (a := -z) (b := p) (by grind) h
            grind
          · grind
        have p1 := neg x (by grind) e1
        have p2 := neg y hs e2
        have := Rat.mul_pos (a := -x⁻¹) (b := -y⁻¹) (by grind) (by grind)
        grind
    have h0 : 0 ≤ (y - x) * (x⁻¹ * y⁻¹) := Rat.mul_nonneg (by grind) (by grind)
    generalize x⁻¹ = p at *
    generalize y⁻¹ = q at *
    have e3 : (y - x) * (p * q) = p * (y * q) - q * (x * p) := by grind
    rw [e3, e1, e2] at h0
    grind
  by_cases hc : 0 < c
  · exact ⟨key v d g2 (.inl (by grind)), key c v g1 (.inl hc)⟩
  · have hd : d < 0 := by grind
    exact ⟨key v d g2 (.inr hd), key c v g1 (.inr (by grind))⟩
end Wx
