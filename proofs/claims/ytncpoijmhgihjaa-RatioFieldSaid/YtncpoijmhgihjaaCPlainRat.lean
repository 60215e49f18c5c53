import Derived.Test.YtncpoijmhgihjaaProg
import Derived.Test.YtncpoijmhgihjaaPlain1
import Derived.Test.YtncpoijmhgihjaaMem
import Derived.Test.YtncpoijmhgihjaaJField3
import Derived.Test.YtncpoijmhgihjaaCDivide
import Derived.Test.YtncpoijmhgihjaaCGcd
import Derived.Test.YtncpoijmhgihjaaCRat1
namespace Wx
open Go Go.RowKit Go.Proofs

theorem sg_mul (a b : Bool) (m n : Nat) : sg (a != b) (m * n) = sg a m * sg b n := by
  cases a <;> cases b <;> simp [sg, Int.mul_neg, Int.neg_mul]
theorem mul_red (x y : Rat) : x * y = redR (decide (x.num < 0) != decide (y.num < 0)) (x.num.natAbs * y.num.natAbs) (x.den * y.den) := by
  unfold redR
  rw [Rat.mul_def', sg_mul, sg_mk, sg_mk]
theorem inv_red (y : Rat) (hy : y.num ≠ 0) : y⁻¹ = redR (decide (y.num < 0)) y.den y.num.natAbs := by
  rw [Rat.inv_def]
  generalize y.num = z at *
  generalize y.den = d
  unfold redR
  match z, hy with
  | Int.ofNat k, hy =>
    have : ¬ ((Int.ofNat k) < 0) := by have := Int.natCast_nonneg k; exact Int.not_lt.2 this
    rw [decide_eq_false this]
    exact Rat.divInt_ofNat _ _
  | Int.negSucc k, hy =>
    have : (Int.negSucc k) < 0 := Int.negSucc_lt_zero k
    rw [decide_eq_true this]
    show Rat.normalize (-(d : Int)) (k + 1) (by omega) = mkRat (-(d : Int)) (k + 1)
    rw [Rat.mkRat_def, dif_neg (by omega)]
theorem div_red (x y : Rat) (hy : y.num ≠ 0) : x / y = redR (decide (x.num < 0) != decide (y.num < 0)) (x.num.natAbs * y.den) (x.den * y.num.natAbs) := by
  rw [Rat.div_def, inv_red y hy]
  conv => lhs; rw [← Rat.mkRat_self x]
  unfold redR
  rw [Rat.mkRat_mul_mkRat, sg_mul, sg_mk]
theorem sg_den (z : Int) (d : Nat) : z * d = sg (decide (z < 0)) (z.natAbs * d) := by
  have h := sg_mul (decide (z < 0)) false z.natAbs d
  rw [show (decide (z < 0) != false) = decide (z < 0) by cases decide (z < 0) <;> rfl, sg_mk] at h
  rw [h]; rfl
theorem add_red (x y : Rat) : x + y = mkRat (sg (decide (x.num < 0)) (x.num.natAbs * y.den) + sg (decide (y.num < 0)) (y.num.natAbs * x.den)) (x.den * y.den) := by
  rw [Rat.add_def', sg_den, sg_den]
theorem sg_add (a : Bool) (m n : Nat) : sg a m + sg a n = sg a (m + n) := by cases a <;> simp [sg]; omega
theorem sg_sub1 (a : Bool) {m n : Nat} (h : n ≤ m) : sg a m + sg (!a) n = sg a (m - n) := by cases a <;> simp [sg] <;> omega
theorem sg_sub2 (a : Bool) {m n : Nat} (h : m ≤ n) : sg a m + sg (!a) n = sg (!a) (n - m) := by cases a <;> simp [sg] <;> omega
theorem bne_of_ne {a b : Bool} (h : ¬ a = b) : b = !a := by cases a <;> cases b <;> simp_all
theorem add_same (x y : Rat) (h : decide (x.num < 0) = decide (y.num < 0)) : x + y = redR (decide (x.num < 0)) (x.num.natAbs * y.den + y.num.natAbs * x.den) (x.den * y.den) := by
  rw [add_red, ← h, sg_add]; rfl
theorem add_ge (x y : Rat) (h : ¬ decide (x.num < 0) = decide (y.num < 0)) (hge : y.num.natAbs * x.den ≤ x.num.natAbs * y.den) : x + y = redR (decide (x.num < 0)) (x.num.natAbs * y.den - y.num.natAbs * x.den) (x.den * y.den) := by
  rw [add_red, bne_of_ne h, sg_sub1 _ hge]; rfl
theorem add_lt (x y : Rat) (h : ¬ decide (x.num < 0) = decide (y.num < 0)) (hge : x.num.natAbs * y.den ≤ y.num.natAbs * x.den) : x + y = redR (decide (y.num < 0)) (y.num.natAbs * x.den - x.num.natAbs * y.den) (x.den * y.den) := by
  rw [add_red, bne_of_ne h, sg_sub2 _ hge]; rfl
theorem BdR.mul {j k : Nat} {x y : Rat} (h : BdR j x) (g : BdR k y) : BdR (j + k) (x * y) := by
  rw [mul_red]
  exact redR_bd (Nat.mul_pos x.den_pos y.den_pos) (h.1.mul g.1) (h.2.mul g.2)
theorem BdR.div {j k : Nat} {x y : Rat} (h : BdR j x) (g : BdR k y) (hy : y.num ≠ 0) : BdR (j + k) (x / y) := by
  rw [div_red _ _ hy]
  exact redR_bd (Nat.mul_pos x.den_pos (by omega)) (h.1.mul g.2) (h.2.mul g.1)
theorem BdR.neg {j : Nat} {x : Rat} (h : BdR j x) : BdR j (-x) := ⟨by rw [Rat.neg_num, Int.natAbs_neg]; exact h.1, h.2⟩
theorem BdR.add {j k : Nat} {x y : Rat} (h : BdR j x) (g : BdR k y) : BdR (j + k + j + k + 1) (x + y) := by
  have a := h.1.mul g.2
  have b := g.1.mul h.2
  have d := h.2.mul g.2
  have hd := Nat.mul_pos x.den_pos y.den_pos
  have ab : Bd (j + k + j + k + 1) (x.num.natAbs * y.den + y.num.natAbs * x.den) := (a.add b).mono (by omega)
  have d' : Bd (j + k + j + k + 1) (x.den * y.den) := d.mono (by omega)
  by_cases hs : decide (x.num < 0) = decide (y.num < 0)
  · rw [add_same x y hs]; exact redR_bd hd ab d'
  · by_cases hge : y.num.natAbs * x.den ≤ x.num.natAbs * y.den
    · rw [add_ge x y hs hge]; exact redR_bd hd (ab.le (by omega)) d'
    · rw [add_lt x y hs (by omega)]; exact redR_bd hd (ab.le (by omega)) d'
end Wx
