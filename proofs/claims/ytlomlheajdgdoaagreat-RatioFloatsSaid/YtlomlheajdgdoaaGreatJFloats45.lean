import Derived.Handy
import Derived.Test.YtlomlheajdgdoaaGreatJFloats0
import Derived.Test.YtlomlheajdgdoaaGreatCFloatsMem
import Derived.Test.YtlomlheajdgdoaaGreatJFloats2
import Derived.Test.YtlomlheajdgdoaaGreatCFloatsRat1
import Derived.Test.YtlomlheajdgdoaaGreatJFloats12
import Derived.Test.YtlomlheajdgdoaaGreatJFloats36
import Derived.Test.YtlomlheajdgdoaaGreatJFloats14
import Derived.Test.YtlomlheajdgdoaaGreatJFloats38
import Derived.Test.YtlomlheajdgdoaaGreatCFloatsNums
import Derived.Test.YtlomlheajdgdoaaGreatJFloats42
import Derived.Test.YtlomlheajdgdoaaGreatJFloats35
import Derived.Test.YtlomlheajdgdoaaGreatCFloatsPlainFloat3
import Derived.Test.YtlomlheajdgdoaaGreatJFloats44
namespace Wx
open Go Ieee

def manW (f : Format) (c : Nat) : Nat := if c % f.signWeight < f.binade then c % f.signWeight else f.binade + c % f.signWeight % f.binade
def placeW (f : Format) (c : Nat) : Int := if c % f.signWeight < f.binade then f.leastPlace else f.leastPlace + ((c % f.signWeight / f.binade - 1 : Nat) : Int)
def negW (f : Format) (c : Nat) : Bool := c / f.signWeight % 2 == 1
def FinW (f : Format) (c : Nat) : Prop := c % f.signWeight < f.infRung
theorem read_fin {f : Format} {c : Nat} (h : FinW f c) : f.read c = .number (negW f c) (manW f c) (placeW f c) := by
  unfold Format.read manW placeW negW
  dsimp only
  by_cases h1 : c % f.signWeight < f.binade
  · rw [if_pos h1, if_pos h1, if_pos h1]
  · rw [if_neg h1, if_neg h1, if_neg h1, if_pos (show _ < f.infRung from h)]
theorem word_back {f : Format} {c : Nat} (hc : c < 2 * f.signWeight) : f.word (negW f c) (c % f.signWeight) = c := by
  have hp : 0 < f.signWeight := Nat.two_pow_pos _
  have h1 : c / f.signWeight < 2 := Nat.div_lt_of_lt_mul (by rw [Nat.mul_comm]; exact hc)
  have h2 := Nat.div_add_mod c f.signWeight
  unfold Format.word negW
  rcases (show ∀ q, q < 2 → q = 0 ∨ q = 1 by omega) _ h1 with h | h
  · rw [h] at h2 ⊢
    rw [if_neg (by decide)]
    omega
  · rw [h] at h2 ⊢
    rw [if_pos (by decide)]
    omega
theorem nearest_canon {f : Format} {neg : Bool} {m : Nat} {e : Int} (h0 : m ≠ 0) (hl : max (e + m.log2 - f.fractionBits) f.leastPlace = e) : f.nearest neg m e = f.word neg (min ((e - f.leastPlace).toNat * f.binade + m) f.infRung) := by
  unfold Format.nearest
  rw [if_neg h0]
  dsimp only
  rw [hl, Int.sub_self]
  simp only [Int.toNat_zero, Nat.shiftLeft_zero]
  rw [cut_none]
theorem log2_of {m k : Nat} (h1 : 2 ^ k ≤ m) (h2 : m < 2 ^ (k + 1)) : m.log2 = k := by
  have h0 : m ≠ 0 := by have := Nat.two_pow_pos k; omega
  have a := (Nat.le_log2 h0).2 h1
  have b := (Nat.log2_lt h0).2 h2
  omega
theorem man_log (f : Format) (c : Nat) : (c % f.signWeight < f.binade ∧ (manW f c ≠ 0 → (manW f c).log2 < f.fractionBits)) ∨ (¬ c % f.signWeight < f.binade ∧ (manW f c).log2 = f.fractionBits ∧ 1 ≤ c % f.signWeight / f.binade) := by
  have hb : 0 < f.binade := Nat.two_pow_pos _
  by_cases h1 : c % f.signWeight < f.binade
  · refine .inl ⟨h1, ?_⟩
    unfold manW
    rw [if_pos h1]
    exact fun h0 => (Nat.log2_lt h0).2 h1
  · refine .inr ⟨h1, ?_, (Nat.le_div_iff_mul_le hb).2 (by omega)⟩
    unfold manW
    rw [if_neg h1]
    have h2 := Nat.mod_lt (c % f.signWeight) hb
    refine log2_of (show f.binade ≤ _ by omega) ?_
    rw [Nat.pow_succ]
    show _ < f.binade * 2
    omega
theorem place_max (f : Format) (c : Nat) (h0 : manW f c ≠ 0) : max (placeW f c + (manW f c).log2 - f.fractionBits) f.leastPlace = placeW f c := by
  rcases man_log f c with ⟨h1, h2⟩ | ⟨h1, h2, h3⟩
  · have h2 := h2 h0
    unfold placeW
    rw [if_pos h1]
    omega
  · rw [h2]
    unfold placeW
    rw [if_neg h1]
    omega
theorem rung_back (f : Format) (c : Nat) : (placeW f c - f.leastPlace).toNat * f.binade + manW f c = c % f.signWeight := by
  have hb : 0 < f.binade := Nat.two_pow_pos _
  unfold placeW manW
  by_cases h1 : c % f.signWeight < f.binade
  · rw [if_pos h1, if_pos h1, Int.sub_self]
    simp
  · rw [if_neg h1, if_neg h1]
    have h3 : 1 ≤ c % f.signWeight / f.binade := (Nat.le_div_iff_mul_le hb).2 (by omega)
    have h4 := Nat.div_add_mod (c % f.signWeight) f.binade
    generalize c % f.signWeight % f.binade = r at *
    generalize hq : c % f.signWeight / f.binade = q at *
    have e : (f.leastPlace + ((q - 1 : Nat) : Int) - f.leastPlace).toNat = q - 1 := by omega
    rw [e]
    obtain ⟨p, rfl⟩ : ∃ p, q = p + 1 := ⟨q - 1, by omega⟩
    rw [Nat.mul_add, Nat.mul_one] at h4
    rw [Nat.add_sub_cancel, Nat.mul_comm p]
    omega
theorem nearest_back {f : Format} {c : Nat} (h0 : manW f c ≠ 0) (hf : FinW f c) (hc : c < 2 * f.signWeight) : f.nearest (negW f c) (manW f c) (placeW f c) = c := by
  rw [nearest_canon h0 (place_max f c h0), rung_back, Nat.min_eq_left (Nat.le_of_lt hf), word_back hc]
theorem order_fin {f : Format} {c : Nat} (h : FinW f c) : f.order c c = some .eq := by
  unfold Format.order
  rw [read_fin h]
  simp only [Datum.order, Option.some.injEq]
  exact Std.ReflCmp.compare_self
theorem order_nil {f : Format} {c : Nat} (h : FinW f c) (h0 : manW f c = 0) (hz : f.read 0 = .number false 0 f.leastPlace) : f.order c 0 = some .eq ∧ f.order 0 c = some .eq := by
  unfold Format.order
  rw [read_fin h, hz, h0]
  constructor
  · simp only [Datum.order, Option.some.injEq]
    cases negW f c <;> simp [signed]
  · simp only [Datum.order, Option.some.injEq]
    cases negW f c <;> simp [signed]
theorem order_sign {f : Format} {c : Nat} (h : FinW f c) (h0 : manW f c ≠ 0) (hz : f.read 0 = .number false 0 f.leastPlace) : f.order c 0 = some (if negW f c then .lt else .gt) := by
  unfold Format.order
  rw [read_fin h, hz]
  simp only [Datum.order, Option.some.injEq]
  have hp : 0 < manW f c * 2 ^ (placeW f c - min (placeW f c) f.leastPlace).toNat := Nat.mul_pos (by omega) (Nat.two_pow_pos _)
  cases negW f c
  · simp only [signed, Nat.shiftLeft_eq, Nat.zero_mul, Bool.false_eq_true, if_false]
    exact Int.compare_eq_gt.2 (by omega)
  · simp only [signed, Nat.shiftLeft_eq, Nat.zero_mul, Bool.false_eq_true, if_false, if_true]
    exact Int.compare_eq_lt.2 (by omega)
end Wx

namespace Wx
open Go Ieee

def IsMag (x : Rat) (m : Nat) (e : Int) : Prop := shN x.num.natAbs e = m * shD x.den e
theorem nbits_log {m : Nat} (h : m ≠ 0) : nbits m = m.log2 + 1 := if_neg h
section
variable {x : Rat} {m : Nat} {e : Int}
theorem IsMag.quo (h : IsMag x m e) : shN x.num.natAbs e / shD x.den e = m := by
  rw [show shN x.num.natAbs e = m * shD x.den e from h, Nat.mul_div_cancel _ (shD_gt x.den_pos e)]
theorem IsMag.below (h : IsMag x m e) (t : Nat) : belowR x (e + t) ↔ nbits m ≤ t := by rw [below_iff, h.quo]
theorem IsMag.num (h : IsMag x m e) (h0 : m ≠ 0) : x.num.natAbs ≠ 0 := by
  intro hz
  have h1 : shN x.num.natAbs e = m * shD x.den e := h
  have h2 : 0 < m * shD x.den e := Nat.mul_pos (by omega) (shD_gt x.den_pos e)
  rw [← h1, hz] at h2
  unfold shN at h2
  rw [Nat.zero_mul] at h2
  exact absurd h2 (Nat.lt_irrefl 0)
theorem IsMag.exp (h : IsMag x m e) (h0 : m ≠ 0) : expR x = e + nbits m - 1 := by
  have hn := h.num h0
  have hb := nbits_log h0
  have a1 : belowR x (e + (nbits m : Nat)) := (h.below _).2 (Nat.le_refl _)
  have a2 : ¬ belowR x (e + ((nbits m - 1 : Nat))) := fun k => by have := (h.below _).1 k; omega
  have b1 := exp_le hn
  have b2 : belowR x (expR x + 1) := by
    by_cases hc : belowR x ((nbits x.num.natAbs : Int) - nbits x.den)
    · have : expR x = (nbits x.num.natAbs : Int) - nbits x.den - 1 := if_pos hc
      rw [this, Int.sub_add_cancel]
      exact hc
    · have : expR x = (nbits x.num.natAbs : Int) - nbits x.den := if_neg hc
      rw [this]
      exact below_succ x
  rcases Int.lt_trichotomy (expR x) (e + nbits m - 1) with k | k | k
  · exact absurd (below_mono b2 (by omega)) a2
  · exact k
  · exact absurd (below_mono a1 (by omega)) b1
theorem cmpI_zero {d : Nat} (h : 0 < d) : cmpI (0 * 2 ^ 1) d = -1 := by
  rw [Nat.zero_mul]
  exact if_pos h
theorem rnd_exact {d : Nat} (h : 0 < d) (m : Nat) : rndR (m * d) d = m := by
  unfold rndR rndC
  rw [Nat.mul_mod_left, cmpI_zero h, Nat.mul_div_cancel _ h]
  rfl
theorem near_exact {bits : Nat} {least : Int} (h : IsMag x m e) (h0 : m ≠ 0) (hc : maxZ (e + nbits m - bits) least = e) : lastR x bits least = e ∧ nearM x bits least = m := by
  have hl : lastR x bits least = e := by
    rw [last_ref, h.exp h0]
    rw [show e + (nbits m : Int) - 1 - (bits : Int) + 1 = e + nbits m - bits by omega, hc]
  refine ⟨hl, ?_⟩
  unfold nearM
  rw [hl, show shN x.num.natAbs e = m * shD x.den e from h]
  exact rnd_exact (shD_gt x.den_pos e) m
theorem nearW_exact (h : IsMag x m e) (h0 : m ≠ 0) (hc : maxZ (e + nbits m - (53 : Nat)) (-1074) = e) (ht : (nbits m : Int) + e ≤ 1024) : nearW x 53 (-1074) 1024 = double.nearest (decide (x.num < 0)) m e := by
  obtain ⟨h1, h2⟩ := near_exact (bits := 53) h h0 hc
  have h1 : lastR x 53 (-1074) = e := h1
  have h2 : nearM x 53 (-1074) = m := h2
  unfold nearW
  rw [if_neg (h.num h0), h1, h2, if_neg (by rw [decide_eq_false (by omega)]; decide), if_neg h0, sgn_nearest]
theorem near32W_exact (h : IsMag x m e) (h0 : m ≠ 0) (hc : maxZ (e + nbits m - (24 : Nat)) (-149) = e) (ht : (nbits m : Int) + e ≤ 128) : near32W x = single.nearest (decide (x.num < 0)) m e := by
  obtain ⟨h1, h2⟩ := near_exact (bits := 24) h h0 hc
  have h1 : lastR x 24 (-149) = e := h1
  have h2 : nearM x 24 (-149) = m := h2
  unfold near32W
  rw [if_neg (h.num h0), h1, h2, if_neg (by rw [decide_eq_false (by omega)]; decide), if_neg h0]
theorem IsMag.scale {k : Nat} (h : IsMag x (m * 2 ^ k) (e - k)) : IsMag x m e := by
  have h : shN x.num.natAbs (e - k) = m * 2 ^ k * shD x.den (e - k) := h
  show shN x.num.natAbs e = m * shD x.den e
  unfold shN shD at h ⊢
  have a1 := maxZ_spec (-e) (0 : Int)
  have a2 := maxZ_spec e (0 : Int)
  have a3 := maxZ_spec (-(e - (k : Int))) (0 : Int)
  have a4 := maxZ_spec (e - (k : Int)) (0 : Int)
  generalize maxZ (-e) (0 : Int) = P at *
  generalize maxZ e (0 : Int) = Q at *
  generalize maxZ (-(e - (k : Int))) (0 : Int) = P' at *
  generalize maxZ (e - (k : Int)) (0 : Int) = Q' at *
  have hs : P.toNat + Q'.toNat + k = P'.toNat + Q.toNat := by omega
  apply Nat.eq_of_mul_eq_mul_right (Nat.two_pow_pos (Q'.toNat + k))
  calc x.num.natAbs * 2 ^ P.toNat * 2 ^ (Q'.toNat + k) = x.num.natAbs * 2 ^ (P.toNat + Q'.toNat + k) := by rw [Nat.mul_assoc, ← Nat.pow_add, Nat.add_assoc]
    _ = x.num.natAbs * 2 ^ P'.toNat * 2 ^ Q.toNat := by rw [hs, Nat.pow_add, Nat.mul_assoc]
    _ = m * 2 ^ k * (x.den * 2 ^ Q'.toNat) * 2 ^ Q.toNat := by rw [h]
    _ = m * (x.den * 2 ^ Q.toNat) * 2 ^ (Q'.toNat + k) := by rw [Nat.pow_add]; ac_rfl
end
def floatR (neg : Bool) (m : Nat) (e : Int) : Rat := redR neg (m * 2 ^ (maxZ e (0 : Int)).toNat) (2 ^ (maxZ (-e) (0 : Int)).toNat)
section
variable {neg : Bool} {m : Nat} {e : Int}
theorem floatR_mag : IsMag (floatR neg m e) m e := by
  have hd : 0 < 2 ^ (maxZ (-e) (0 : Int)).toNat := Nat.two_pow_pos _
  show shN (floatR neg m e).num.natAbs e = m * shD (floatR neg m e).den e
  unfold floatR shN shD
  rw [redR_natAbs hd, redR_den hd]
  generalize 2 ^ (maxZ (-e) (0 : Int)).toNat = D at *
  generalize 2 ^ (maxZ e (0 : Int)).toNat = N
  have h1 : (m * N).gcd D ∣ m * N := Nat.gcd_dvd_left _ _
  have h2 : (m * N).gcd D ∣ D := Nat.gcd_dvd_right _ _
  have h3 : 0 < (m * N).gcd D := Nat.gcd_pos_of_pos_right _ hd
  generalize (m * N).gcd D = g at *
  obtain ⟨a, ha⟩ := h1
  obtain ⟨b, hb⟩ := h2
  rw [ha, hb, Nat.mul_div_cancel_left _ h3, Nat.mul_div_cancel_left _ h3]
  calc a * (g * b) = g * a * b := by ac_rfl
    _ = m * (b * N) := by rw [← ha]; ac_rfl
theorem floatR_neg (h0 : m ≠ 0) : decide ((floatR neg m e).num < 0) = neg := redR_neg (Nat.two_pow_pos _) (Nat.mul_pos (by omega) (Nat.two_pow_pos _))
theorem floatR_zero : floatR neg 0 e = 0 := by
  unfold floatR
  rw [Nat.zero_mul, redR_zero]
theorem floatR_hi (h : 0 ≤ e) : redR neg (m * 2 ^ e.toNat) 1 = floatR neg m e := by
  unfold floatR
  have h1 : maxZ e (0 : Int) = e := by unfold maxZ; split <;> omega
  have h2 : (maxZ (-e) (0 : Int)).toNat = 0 := by unfold maxZ; split <;> omega
  rw [h1, h2]
theorem floatR_lo (h : ¬ 0 ≤ e) : redR neg m (1 * 2 ^ (-e).toNat) = floatR neg m e := by
  unfold floatR
  have h1 : (maxZ e (0 : Int)).toNat = 0 := by unfold maxZ; split <;> omega
  have h2 : (maxZ (-e) (0 : Int)) = -e := by unfold maxZ; split <;> omega
  rw [h1, h2, Nat.pow_zero, Nat.mul_one, Nat.one_mul]
theorem floatR_ref : redR false m 1 * twoR e = floatR false m e := by
  unfold floatR redR
  rw [twoR_eq]
  unfold pw
  rw [Rat.mkRat_eq_div, Rat.mkRat_eq_div]
  show ((m : Int) : Rat) / ((1 : Nat) : Rat) * _ = (((m * 2 ^ (maxZ e (0 : Int)).toNat : Nat) : Int) : Rat) / _
  rw [Rat.intCast_natCast, Rat.intCast_natCast, Rat.natCast_mul]
  generalize ((2 ^ (maxZ e (0 : Int)).toNat : Nat) : Rat) = a
  generalize ((2 ^ (maxZ (-e) (0 : Int)).toNat : Nat) : Rat) = b
  have : ((1 : Nat) : Rat) = 1 := rfl
  rw [this]
  grind
theorem floatR_opp : -floatR false m e = floatR true m e := by
  unfold floatR redR
  rw [Rat.mkRat_eq_div, Rat.mkRat_eq_div]
  show -((((m * 2 ^ (maxZ e (0 : Int)).toNat : Nat) : Int) : Rat) / _) = ((-((m * 2 ^ (maxZ e (0 : Int)).toNat : Nat) : Int) : Int) : Rat) / _
  rw [Rat.intCast_neg]
  grind
theorem bd_shl {m a j : Nat} (h : m < 2 ^ 53) (ha : 53 + a ≤ j) : Bd j (m * 2 ^ a) := by
  show m * 2 ^ a < 2 ^ j
  calc m * 2 ^ a < 2 ^ 53 * 2 ^ a := (Nat.mul_lt_mul_right (Nat.two_pow_pos _)).2 h
    _ = 2 ^ (53 + a) := (Nat.pow_add _ _ _).symm
    _ ≤ 2 ^ j := Nat.pow_le_pow_right (by omega) ha
theorem bd_pw {a j : Nat} (ha : a < j) : Bd j (2 ^ a) := Nat.pow_lt_pow_right (by omega) ha
theorem bd_floatR (h : m < 2 ^ 53) (h1 : -1074 ≤ e) (h2 : e ≤ 1074) : BdR 2200 (floatR neg m e) := by
  have a1 : (maxZ e (0 : Int)).toNat ≤ 1074 := by unfold maxZ; split <;> omega
  have a2 : (maxZ (-e) (0 : Int)).toNat ≤ 1074 := by unfold maxZ; split <;> omega
  refine redR_bd (Nat.two_pow_pos _) ?_ ?_
  · exact bd_shl h (by omega)
  · exact bd_pw (by omega)
end
end Wx
