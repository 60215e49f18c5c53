import Derived.Handy
import Derived.Test.YtlomlheajdgdoaaGreatJNears0
import Derived.Test.YtlomlheajdgdoaaGreatJNears1
import Derived.Test.YtlomlheajdgdoaaGreatJNears20
import Derived.Test.YtlomlheajdgdoaaGreatJNears32
import Derived.Test.YtlomlheajdgdoaaGreatCNums
import Derived.Test.YtlomlheajdgdoaaGreatJNears31
import Derived.Test.YtlomlheajdgdoaaGreatCPlainFloat3
import Derived.Test.YtlomlheajdgdoaaGreatCMathF
import Derived.Test.YtlomlheajdgdoaaGreatCNearest
import Derived.Test.YtlomlheajdgdoaaGreatJNears42
import Derived.Test.YtlomlheajdgdoaaGreatCRat1
import Derived.Test.YtlomlheajdgdoaaGreatJNears10
import Derived.Test.YtlomlheajdgdoaaGreatJNears33
import Derived.Test.YtlomlheajdgdoaaGreatJNears35
import Derived.Test.YtlomlheajdgdoaaGreatCNFloor
namespace Wx
open Go

theorem not_below {x : Rat} (h0 : x.num.natAbs ≠ 0) : ¬ belowR x ((nbits x.num.natAbs : Int) - nbits x.den - 1) := by
  have h1 := nbits_le (Nat.pos_of_ne_zero h0)
  have h2 := nbits_lt x.den
  have h3 := nbits_pos (Nat.pos_of_ne_zero h0)
  unfold belowR
  refine Nat.not_lt.2 ?_
  rcases Int.le_total 0 ((nbits x.num.natAbs : Int) - nbits x.den - 1) with h | h
  · rw [shN_pos h, shD_pos h]
    calc x.den * 2 ^ ((nbits x.num.natAbs : Int) - nbits x.den - 1).toNat ≤ 2 ^ nbits x.den * 2 ^ ((nbits x.num.natAbs : Int) - nbits x.den - 1).toNat := Nat.mul_le_mul_right _ (Nat.le_of_lt h2)
      _ = 2 ^ (nbits x.num.natAbs - 1) := by rw [← Nat.pow_add]; congr 1; omega
      _ ≤ x.num.natAbs := h1
  · rw [shN_neg h, shD_neg h]
    calc x.den ≤ 2 ^ nbits x.den := Nat.le_of_lt h2
      _ = 2 ^ (nbits x.num.natAbs - 1) * 2 ^ (-((nbits x.num.natAbs : Int) - nbits x.den - 1)).toNat := by rw [← Nat.pow_add]; congr 1; omega
      _ ≤ x.num.natAbs * 2 ^ (-((nbits x.num.natAbs : Int) - nbits x.den - 1)).toNat := Nat.mul_le_mul_right _ h1
theorem exp_le {x : Rat} (h0 : x.num.natAbs ≠ 0) : ¬ belowR x (expR x) := by
  unfold expR
  split
  · exact not_below h0
  · assumption
/-- Both tests for what is too great. -/
theorem over_ref {x : Rat} {bits : Nat} {least beyond : Int} (h0 : x.num.natAbs ≠ 0) (hb : 1 ≤ bits) (hl : least + bits + 1 ≤ beyond) :
    (nbits (nearM x bits least) : Int) + lastR x bits least > beyond ↔ expR x > beyond - 1 ∨ (nearM x bits least = 2 ^ bits ∧ lastR x bits least = beyond - bits) := by
  have hle := nearM_le x bits least
  have hr := last_ref x bits least
  have hn : nbits (nearM x bits least) ≤ bits + 1 := nbits_le_iff.2 (by rw [Nat.pow_succ]; have := Nat.two_pow_pos bits; omega)
  have hlo : expR x - bits + 1 = lastR x bits least → 2 ^ (bits - 1) ≤ nearM x bits least := by
    intro he
    have h1 := exp_le h0
    have e : expR x = lastR x bits least + ((bits - 1 : Nat) : Int) := by omega
    rw [e, below_iff, nbits_le_iff] at h1
    unfold nearM rndR
    split <;> omega
  have hnb : nearM x bits least < 2 ^ bits → nbits (nearM x bits least) ≤ bits := fun h => nbits_le_iff.2 h
  have hnl : 2 ^ (bits - 1) ≤ nearM x bits least → bits ≤ nbits (nearM x bits least) := by
    intro h
    rcases Nat.lt_or_ge (nbits (nearM x bits least)) bits with h1 | h1
    · have := nbits_le_iff.1 (show nbits (nearM x bits least) ≤ bits - 1 by omega)
      omega
    · exact h1
  have hnt : nearM x bits least = 2 ^ bits → nbits (nearM x bits least) = bits + 1 := by
    intro h
    rw [h]
    exact nbits_unique (Nat.le_refl _) (by rw [Nat.pow_succ]; have := Nat.two_pow_pos bits; omega)
  unfold maxZ at hr
  split at hr
  · -- the least place
    rcases Nat.lt_or_ge (nearM x bits least) (2 ^ bits) with h | h
    · have := hnb h
      constructor
      · intro h'; omega
      · rintro (h' | ⟨h', _⟩) <;> omega
    · have h := Nat.le_antisymm hle h
      have := hnt h
      constructor
      · intro h'; omega
      · rintro (h' | ⟨_, h'⟩) <;> omega
  · have h5 := hlo hr.symm
    have h6 := hnl h5
    rcases Nat.lt_or_ge (nearM x bits least) (2 ^ bits) with h | h
    · have := hnb h
      constructor
      · intro h'; exact .inl (by omega)
      · rintro (h' | ⟨h', _⟩) <;> omega
    · have h := Nat.le_antisymm hle h
      have := hnt h
      constructor
      · intro h'
        rcases Int.lt_or_le (beyond - 1) (expR x) with h7 | h7
        · exact .inl h7
        · exact .inr ⟨h, by omega⟩
      · rintro (h' | ⟨_, h'⟩) <;> omega
end Wx

namespace Wx
open Go

theorem pw_ne (K : Nat) : pw K ≠ 0 := fun h => by have := pw_pos K; rw [h] at this; exact absurd this (by decide)
theorem twoR_eq (z : Int) : twoR z = pw (maxZ z (0 : Int)).toNat / pw (maxZ (-z) (0 : Int)).toNat := by
  unfold twoR
  have p0 : pw 0 = 1 := rfl
  split
  · have e1 : (maxZ z (0 : Int)).toNat = 0 := by unfold maxZ; split <;> omega
    have e2 : (maxZ (-z) (0 : Int)).toNat = z.natAbs := by unfold maxZ; split <;> omega
    rw [e1, e2, p0]
  · have e1 : (maxZ z (0 : Int)).toNat = z.natAbs := by unfold maxZ; split <;> omega
    have e2 : (maxZ (-z) (0 : Int)).toNat = 0 := by unfold maxZ; split <;> omega
    rw [e1, e2, p0, Rat.div_def, show (1 : Rat)⁻¹ = 1 by decide +kernel, Rat.mul_one]
theorem abs_div (x : Rat) : absR x = ((x.num.natAbs : Nat) : Rat) / ((x.den : Nat) : Rat) := by
  obtain ⟨h1, h2, h3⟩ := absR_num x
  have h3 := of_decide_eq_false h3
  have e := num_div_den (absR x)
  have e2 : (absR x).num = ((x.num.natAbs : Nat) : Int) := by omega
  rw [e2, h2] at e
  rw [← e]
  rfl
theorem val_two (x : Rat) (l : Int) : absR x * twoR (-l) = ((shN x.num.natAbs l : Nat) : Rat) / ((shD x.den l : Nat) : Rat) := by
  rw [abs_div, twoR_eq, Int.neg_neg]
  have e1 : ((shN x.num.natAbs l : Nat) : Rat) = ((x.num.natAbs : Nat) : Rat) * pw (maxZ (-l) (0 : Int)).toNat := by unfold shN pw; rw [Rat.natCast_mul]
  have e2 : ((shD x.den l : Nat) : Rat) = ((x.den : Nat) : Rat) * pw (maxZ l (0 : Int)).toNat := by unfold shD pw; rw [Rat.natCast_mul]
  rw [e1, e2, Rat.div_def, Rat.div_def, Rat.div_def, Rat.inv_mul_rev]
  grind
theorem two_inv (z : Int) : twoR z * twoR (-z) = 1 := by
  rw [twoR_eq, twoR_eq, Int.neg_neg]
  have h1 := pw_ne (maxZ z (0 : Int)).toNat
  have h2 := pw_ne (maxZ (-z) (0 : Int)).toNat
  grind
theorem twoR_pos (z : Int) : 0 < twoR z := by
  unfold twoR
  split
  · have := pw_pos z.natAbs
    rw [Rat.div_def, Rat.one_mul]
    exact Rat.inv_pos.2 this
  · exact pw_pos _
theorem below_twoR (x : Rat) (z : Int) : absR x < twoR z ↔ belowR x z := by
  have h1 := val_two x z
  have h2 := two_inv z
  have h3 := twoR_pos z
  have h4 := twoR_pos (-z)
  have hd : (0 : Rat) < ((shD x.den z : Nat) : Rat) := Rat.natCast_pos.2 (shD_gt x.den_pos z)
  unfold belowR
  rw [← Rat.natCast_lt_natCast]
  have e : ((shN x.num.natAbs z : Nat) : Rat) = absR x * twoR (-z) * ((shD x.den z : Nat) : Rat) := by
    rw [h1, Rat.div_mul_cancel]
    intro h; rw [h] at hd; exact absurd hd (by decide)
  rw [e]
  constructor
  · intro h
    have k1 : absR x * twoR (-z) < twoR z * twoR (-z) := Rat.mul_lt_mul_of_pos_right h h4
    rw [h2] at k1
    have k2 := Rat.mul_lt_mul_of_pos_right k1 hd
    rwa [Rat.one_mul] at k2
  · intro h
    rcases tri (absR x) (twoR z) with k | k | k
    · exact k
    · rw [k, h2, Rat.one_mul] at h; exact absurd h (Rat.lt_irrefl)
    · have k1 : twoR z * twoR (-z) < absR x * twoR (-z) := Rat.mul_lt_mul_of_pos_right k h4
      rw [h2] at k1
      have k2 := Rat.mul_lt_mul_of_pos_right k1 hd
      rw [Rat.one_mul] at k2
      exact absurd (Std.lt_trans h k2) Rat.lt_irrefl
end Wx

namespace Wx
open Go

theorem floor_near (x : Rat) (l : Int) : floorR (absR x * twoR (-l)) = (((shN x.num.natAbs l / shD x.den l : Nat) : Int) : Rat) := by
  rw [floorR_eq, val_two]
  have := floor_div ((shN x.num.natAbs l : Nat) : Int) (shD x.den l) (shD_gt x.den_pos l)
  rw [Rat.intCast_natCast] at this
  rw [this, Int.natCast_ediv]
theorem rem_near {n d : Nat} (hd : 0 < d) : ((n : Nat) : Rat) / ((d : Nat) : Rat) - (((n / d : Nat) : Int) : Rat) = ((n % d : Nat) : Rat) / ((d : Nat) : Rat) := by
  have h0 : ((d : Nat) : Rat) ≠ 0 := by
    intro h
    have := Rat.natCast_pos.2 hd
    rw [h] at this; exact absurd this (by decide)
  have e : ((n : Nat) : Rat) = ((d : Nat) : Rat) * ((n / d : Nat) : Rat) + ((n % d : Nat) : Rat) := by
    rw [← Rat.natCast_mul, ← Rat.natCast_add, Nat.div_add_mod]
  rw [Rat.intCast_natCast]
  generalize ((n / d : Nat) : Rat) = q at e ⊢
  generalize ((n % d : Nat) : Rat) = r at e ⊢
  rw [e]
  generalize ((d : Nat) : Rat) = D at h0 ⊢
  grind
theorem cmpT_nat (m n : Nat) : cmpT ((m : Nat) : Rat) ((n : Nat) : Rat) = cmpI m n := by
  rcases cmpI_val m n with ⟨h, e⟩ | ⟨h, e⟩ | ⟨h, e⟩
  · rw [e, cmpT_lt (Rat.natCast_lt_natCast.2 h)]
  · rw [e, cmpT_eq (by rw [h])]
  · rw [e, cmpT_gt (Rat.natCast_lt_natCast.2 h)]
theorem cmp_near (x : Rat) (l : Int) : cmpT (absR x * twoR (-l) - (((shN x.num.natAbs l / shD x.den l : Nat) : Int) : Rat)) (twoR (-1)) = cmpI (shN x.num.natAbs l % shD x.den l * 2 ^ 1) (shD x.den l) := by
  have hd := shD_gt x.den_pos l
  rw [val_two, rem_near hd]
  generalize shN x.num.natAbs l % shD x.den l = r
  generalize shD x.den l = d at hd
  have hp : (0 : Rat) < ((d : Nat) : Rat) := Rat.natCast_pos.2 hd
  have h0 : ((d : Nat) : Rat) ≠ 0 := by intro h; rw [h] at hp; exact absurd hp (by decide)
  have e2 : twoR (-1) = 1 / 2 := by decide +kernel
  have k := cmpT_mul (((r : Nat) : Rat) / ((d : Nat) : Rat)) (1 / 2) (2 * ((d : Nat) : Rat))
  rw [cmpT_gt (show (0 : Rat) < 2 * ((d : Nat) : Rat) by grind), Int.one_mul] at k
  rw [e2, ← k, ← cmpT_nat]
  congr 1
  · rw [Rat.natCast_mul]
    have : ((2 ^ 1 : Nat) : Rat) = 2 := by decide +kernel
    rw [this]
    grind
  · grind
theorem whole_nat {n : Nat} (h : n ≤ 9223372036854775807) : wholeB (((n : Nat) : Int) : Rat) = true ∧ wholeZ (((n : Nat) : Int) : Rat) = ((n : Nat) : Int) := whole_int (by omega) (by omega)
theorem quo_near (x : Rat) (bits : Nat) (least : Int) : shN x.num.natAbs (lastR x bits least) / shD x.den (lastR x bits least) ≤ 2 ^ bits := by
  have := nearM_le x bits least
  unfold nearM rndR at this
  split at this <;> omega
end Wx
