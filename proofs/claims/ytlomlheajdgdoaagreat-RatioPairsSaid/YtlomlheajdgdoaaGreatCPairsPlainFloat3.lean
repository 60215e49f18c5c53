import Derived.Handy
import Derived.Test.YtlomlheajdgdoaaGreatJPairs27
import Derived.Test.YtlomlheajdgdoaaGreatJPairs28
namespace Wx
open Ieee

theorem signed_false (m u : Nat) : Ieee.signed false m u = ((m * 2 ^ u : Nat) : Int) := by simp [Ieee.signed, Nat.shiftLeft_eq]
theorem compare_nat (x y : Nat) : compare ((x : Nat) : Int) ((y : Nat) : Int) = compare x y := by
  rcases Nat.lt_trichotomy x y with h | h | h
  · rw [Nat.compare_eq_lt.2 h, Int.compare_eq_lt.2 (Int.ofNat_lt.2 h)]
  · subst h; rw [Nat.compare_eq_eq.2 rfl, Int.compare_eq_eq.2 rfl]
  · rw [Nat.compare_eq_gt.2 h, Int.compare_eq_gt.2 (Int.ofNat_lt.2 h)]
theorem order_fl {f : Format} {x y m n : Nat} {i j : Int} (hx : f.read x = .number false m i) (hy : f.read y = .number false n j) : f.order x y = some (compare (m * 2 ^ (i - min i j).toNat) (n * 2 ^ (j - min i j).toNat)) := by
  unfold Format.order
  rw [hx, hy]
  simp only [Datum.order, signed_false, compare_nat]
theorem read_zero : double.read 0 = .number false 0 (-1074) := by decide +kernel
theorem read_most : double.read 9218868437227405311 = .number false (2 ^ 53 - 1) 971 := by decide +kernel
theorem read_normal : double.read 4503599627370496 = .number false (2 ^ 52) (-1074) := by decide +kernel
theorem order_self {m : Nat} {e : Int} (h : InDouble m e) : double.order (double.nearest false m e) (double.nearest false m e) = some .eq := by
  obtain ⟨k, h1, _⟩ := h.read false
  rw [order_fl h1 h1, Nat.compare_eq_eq.2 rfl]
theorem order_zero {m : Nat} {e : Int} (h : InDouble m e) : double.order (double.nearest false m e) 0 = some .gt := by
  obtain ⟨k, h1, _⟩ := h.read false
  rw [order_fl h1 read_zero]
  congr 1
  refine Nat.compare_eq_gt.2 ?_
  rw [Nat.zero_mul]
  exact Nat.mul_pos (Nat.mul_pos (Nat.pos_of_ne_zero h.pos) (Nat.two_pow_pos _)) (Nat.two_pow_pos _)
theorem whole_in {m : Nat} (h0 : m ≠ 0) (h1 : m.log2 ≤ 52) : InDouble m 0 := ⟨h0, h1, by omega, by omega⟩
theorem lt_of_log2 {m : Nat} (h0 : m ≠ 0) (h1 : m.log2 ≤ 52) : m < 2 ^ 53 := (Nat.log2_lt h0).1 (by omega)
theorem most_aux {n : Nat} (h : 1 ≤ n) : 2 ^ 53 ≤ (2 ^ 53 - 1) * 2 ^ n := by
  have h1 : 2 ^ 1 ≤ 2 ^ n := Nat.pow_le_pow_right (by omega) h
  calc 2 ^ 53 ≤ (2 ^ 53 - 1) * 2 ^ 1 := by decide
    _ ≤ (2 ^ 53 - 1) * 2 ^ n := Nat.mul_le_mul_left _ h1
theorem normal_aux {m n : Nat} (h0 : m ≠ 0) (h : 52 < n) : 2 ^ 52 < m * 2 ^ n := by
  have h1 : 2 ^ 52 < 2 ^ n := Nat.pow_lt_pow_right (by omega) h
  have h2 : 1 * 2 ^ n ≤ m * 2 ^ n := Nat.mul_le_mul_right _ (Nat.pos_of_ne_zero h0)
  rw [Nat.one_mul] at h2
  exact Nat.lt_of_lt_of_le h1 h2
theorem order_most {m : Nat} {e : Int} (h : InDouble m e) (he : 0 ≤ e ∧ e ≤ 100) : double.order (double.nearest false m e) 9218868437227405311 = some .lt := by
  obtain ⟨k, h2, h5⟩ := h.read false
  have hk : k ≤ 52 := by rw [log2_pow h.pos] at h5; omega
  rw [order_fl h2 read_most]
  congr 1
  refine Nat.compare_eq_lt.2 ?_
  obtain ⟨E, hE⟩ : ∃ E : Nat, E = 971 := ⟨_, rfl⟩
  obtain ⟨q, hq⟩ : ∃ q : Nat, e = q := ⟨e.toNat, by omega⟩
  have a1 : (e - k - min (e - k) 971).toNat = 0 := by omega
  have a2 : ((971 : Int) - min (e - k) 971).toNat = (E - q) + k := by omega
  rw [a1, a2, Nat.pow_zero, Nat.mul_one, Nat.pow_add, ← Nat.mul_assoc]
  refine Nat.mul_lt_mul_of_pos_right ?_ (Nat.two_pow_pos k)
  exact Nat.lt_of_lt_of_le (lt_of_log2 h.pos h.bits) (most_aux (by omega))
theorem order_normal {m : Nat} {e : Int} (h : InDouble m e) (he : 0 ≤ e) : double.order (double.nearest false m e) 4503599627370496 = some .gt := by
  obtain ⟨k, h2, h3⟩ := h.read false
  have hk : k ≤ 52 := by rw [log2_pow h.pos] at h3; omega
  rw [order_fl h2 read_normal]
  congr 1
  refine Nat.compare_eq_gt.2 ?_
  obtain ⟨E, hE⟩ : ∃ E : Nat, E = 1074 := ⟨_, rfl⟩
  obtain ⟨q, hq⟩ : ∃ q : Nat, e = q := ⟨e.toNat, by omega⟩
  have a1 : (e - k - min (e - k) (-1074)).toNat = E + q - k := by omega
  have a2 : ((-1074 : Int) - min (e - k) (-1074)).toNat = 0 := by omega
  rw [a1, a2, Nat.pow_zero, Nat.mul_one, Nat.mul_assoc, ← Nat.pow_add]
  have a3 : k + (E + q - k) = E + q := by omega
  rw [a3]
  exact normal_aux h.pos (by omega)
theorem lt_aux {t r B : Nat} (h1 : t ≤ 2045) (h2 : r < 2 * B) : t * B + r < 2048 * B := by have := Nat.mul_le_mul_right B h1; omega
theorem nearest_lt {m : Nat} {e : Int} (h : InDouble m e) (hn : -1022 ≤ e + m.log2) : double.nearest false m e < 2 ^ 63 := by
  rw [nearest_normal h hn]
  simp only [Format.word, Bool.false_eq_true, if_false]
  have h1 := (frac_bounds h.pos h.bits).2
  have h2 : (e + m.log2 + 1022).toNat ≤ 2045 := by have := h.top; omega
  have e1 : (2 : Nat) ^ 63 = 2048 * 2 ^ 52 := by decide
  have e2 : (2 : Nat) ^ 53 = 2 * 2 ^ 52 := by decide
  rw [e2] at h1
  rw [e1]
  exact lt_aux h2 h1
end Wx
