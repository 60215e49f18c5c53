import Derived.Test.YtpbpkfcplkdjhaaGreatProg
import Derived.Handy
import Derived.Test.YtpbpkfcplkdjhaaGreatJRanges0
import Derived.Test.YtpbpkfcplkdjhaaGreatJRanges1
import Derived.Test.YtpbpkfcplkdjhaaGreatCRat1
import Derived.Test.YtpbpkfcplkdjhaaGreatJRanges10
import Derived.Test.YtpbpkfcplkdjhaaGreatJRanges14
import Derived.Test.YtpbpkfcplkdjhaaGreatCLess
import Derived.Test.YtpbpkfcplkdjhaaGreatCDown
import Derived.Test.YtpbpkfcplkdjhaaGreatJRanges18
import Derived.Test.YtpbpkfcplkdjhaaGreatCText
import Derived.Test.YtpbpkfcplkdjhaaGreatJRanges20
import Derived.Test.YtpbpkfcplkdjhaaGreatCParse
import Derived.Test.YtpbpkfcplkdjhaaGreatJRanges15
namespace Wx
open Go Go.RowKit Go.Proofs

def awX : Rat := newR 2 3
def awY : Rat := newR 1 6
def awZ : Rat := parseQ [45, 55, 47, 50]
def awD : Rat := awX - awY
def awF : Rat := downR awZ 0
theorem aw1 : parseOk [45, 55, 47, 50] = true := by decide +kernel
theorem aw2 : textR awZ = [45, 55, 47, 50] := by decide +kernel
theorem aw3 : textR awD = [49, 47, 50] := by decide +kernel
theorem aw4 : textR awF = [45, 52] := by decide +kernel
theorem aw5 : Bd 10 awD.num.natAbs ∧ Bd 10 awD.den := by unfold Bd; decide +kernel
theorem aw6 : Bd 10 awF.num.natAbs ∧ Bd 10 awF.den := by unfold Bd; decide +kernel
theorem aw7 : Bd 10 awX.num.natAbs ∧ Bd 10 awX.den := by unfold Bd; decide +kernel
theorem aw8 : Bd 10 awY.num.natAbs ∧ Bd 10 awY.den := by unfold Bd; decide +kernel
theorem aw9 : Bd 10 awZ.num.natAbs ∧ Bd 10 awZ.den := by unfold Bd; decide +kernel

set_option maxRecDepth 100000 in
set_option maxHeartbeats 1000000 in
/-- The examples of the chapter. -/
theorem awake_num (w : World) : Calls Tryz.prog 42 #[] w (RetIs w (.bool true)) := by
  have hc1 : ∀ w, Calls Tryz.prog 65 #[.int .i64 2, .int .i64 3] w (RetRE w awX 0) := fun w => new_num w 2 3 (by omega) (by omega) (by omega) (by omega) (by omega)
  have hc2 : ∀ w, Calls Tryz.prog 65 #[.int .i64 1, .int .i64 6] w (RetRE w awY 0) := fun w => new_num w 1 6 (by omega) (by omega) (by omega) (by omega) (by omega)
  have hc3 : ∀ w, Calls Tryz.prog 92 #[.string ⟨#[45, 55, 47, 50]⟩] w (RetRE w awZ 0) := fun w => parse_ok w [45, 55, 47, 50] (by intro x hx; simp at hx; omega) (by simp) aw1 aw2
  have HC1 := bx hc1
  have HC2 := bx hc2
  have HC3 := bx hc3
  have HB := bx (And.intro (show BdR 10 awX from aw7) (And.intro (show BdR 10 awY from aw8) (And.intro (show BdR 10 awZ from aw9) (And.intro (show BdR 10 awD from aw5) (show BdR 10 awF from aw6)))))
  have hd1 : awX - awY = awD := rfl
  have hf1 : downR awZ 0 = awF := rfl
  have HD := bx hd1
  have HF := bx hf1
  have ht1 : ((strOf (textR awD)).toList == [49, 47, 50]) = true := by rw [aw3, strOf_toList]; decide
  have ht2 : ((strOf (textR awF)).toList == [45, 52]) = true := by rw [aw4, strOf_toList]; decide
  clear hc1 hc2 hc3 hd1 hf1
  generalize awX = x at *
  generalize awY = y at *
  generalize awZ = z at *
  generalize awD = d at *
  generalize awF = f at *
  go_enter Tryz.func42, Tryz.ntmps42
  go_wp2_with fail
  refine Calls.mono (HC1.out _) ?_
  rintro e w1 ⟨vx, rfl, hx, b1⟩
  obtain ⟨vxn, vxd, rfl, hxn, hxd⟩ := id hx
  obtain ⟨Ax1, cx1, rfl, _⟩ := id hxn
  obtain ⟨Ax2, cx2, rfl, _⟩ := id hxd
  go_wp2_with fail
  obtain ⟨w2, e2, o2, b2, s2⟩ := layA w1 [.bool (decide (x.num < 0)), .slice Ax1 (digs b64 x.num.natAbs).length cx1, .slice Ax2 (digs b64 (denOf x.den)).length cx2] 28
  rw [e2]
  clear e2
  have B2 := b1.trans (b2.mono b1.size)
  have hx := hx.below b2
  refine Calls.mono (HC2.out _) ?_
  rintro e w3 ⟨vy, rfl, hy, b3⟩
  obtain ⟨vyn, vyd, rfl, hyn, hyd⟩ := id hy
  obtain ⟨Ay1, cy1, rfl, _⟩ := id hyn
  obtain ⟨Ay2, cy2, rfl, _⟩ := id hyd
  have B3 := B2.trans (b3.mono B2.size)
  go_wp2_with fail
  obtain ⟨w4, e4, o4, b4, s4⟩ := layA w3 [.bool (decide (y.num < 0)), .slice Ay1 (digs b64 y.num.natAbs).length cy1, .slice Ay2 (digs b64 (denOf y.den)).length cy2] 28
  rw [e4]
  clear e4
  have B4 := B3.trans (b4.mono B3.size)
  have hx := (hx.below b3).below b4
  have hy := hy.below b4
  have o2 := (o2.gone b3).gone b4
  refine Calls.mono (HC3.out _) ?_
  rintro e w5 ⟨vz, rfl, hz, b5⟩
  obtain ⟨vzn, vzd, rfl, hzn, hzd⟩ := id hz
  obtain ⟨Az1, cz1, rfl, _⟩ := id hzn
  obtain ⟨Az2, cz2, rfl, _⟩ := id hzd
  have B5 := B4.trans (b5.mono B4.size)
  obtain ⟨w6, e6, o6, b6, s6⟩ := layA w5 [.bool (decide (z.num < 0)), .slice Az1 (digs b64 z.num.natAbs).length cz1, .slice Az2 (digs b64 (denOf z.den)).length cz2] 28
  have B6 := B5.trans (b6.mono B5.size)
  have hx := (hx.below b5).below b6
  have hy := (hy.below b5).below b6
  have hz := hz.below b6
  have o2 := (o2.gone b5).gone b6
  have o4 := (o4.gone b5).gone b6
  have j0 := o2.cell (i := 0) rfl
  have j1 := o2.cell (i := 1) rfl
  have j2 := o2.cell (i := 2) rfl
  have k0 := o4.cell (i := 0) rfl
  have k1 := o4.cell (i := 1) rfl
  have k2 := o4.cell (i := 2) rfl
  have l0 := o6.cell (i := 0) rfl
  have l1 := o6.cell (i := 1) rfl
  have l2 := o6.cell (i := 2) rfl
  go_wp2_with fail
  have hc := sub_num w6 _ _ x y hx hy HB.out.1 HB.out.2.1 (by omega)
  rw [HD.out] at hc
  refine Calls.mono hc ?_
  clear hc j0 j1 j2 k0 k1 k2 l0 l1 l2
  rintro e w7 ⟨vd, rfl, hd, b7⟩
  have B7 := B6.trans (b7.mono B6.size)
  have hz := hz.below b7
  have o6 := o6.gone b7
  go_wp2_with fail
  refine Calls.mono (rtext_num w7 _ d hd HB.out.2.2.2.1 (by omega)) ?_
  rintro e w8 ⟨rfl, b8⟩
  have B8 := B7.trans (b8.mono B7.size)
  have hz := hz.below b8
  have o6 := o6.gone b8
  have l0 := o6.cell (i := 0) rfl
  have l1 := o6.cell (i := 1) rfl
  have l2 := o6.cell (i := 2) rfl
  go_wp2_with fail
  have hc := floor_num w8 _ z hz HB.out.2.2.1 (by omega)
  rw [HF.out] at hc
  refine Calls.mono hc ?_
  clear hc
  rintro e w9 ⟨vf, rfl, hf, b9⟩
  have B9 := B8.trans (b9.mono B8.size)
  go_wp2_with fail
  refine Calls.mono (rtext_num w9 _ f hf HB.out.2.2.2.2 (by omega)) ?_
  rintro e wa ⟨rfl, ba⟩
  go_wp2
  go_ret
  exact ⟨rfl, B9.trans (ba.mono B9.size)⟩
end Wx

namespace Wx

/-- The greatest whole number not above q. -/
def floorR (q : Rat) : Rat := redR (decide (q.num < 0)) (q.num.natAbs / q.den + (if q.num < 0 ∧ 0 < q.num.natAbs % q.den then 1 else 0)) 1
theorem sg_floor (z : Int) (d : Nat) (hd : 0 < d) : sg (decide (z < 0)) (z.natAbs / d + (if z < 0 ∧ 0 < z.natAbs % d then 1 else 0)) = z / (d : Int) := by
  have h1 := Nat.div_add_mod z.natAbs d
  have h2 := Nat.mod_lt z.natAbs hd
  have h3 := Int.mul_ediv_add_emod z (d : Int)
  have h4 := Int.emod_nonneg z (show (d : Int) ≠ 0 by omega)
  have h5 := Int.emod_lt_of_pos z (show (0 : Int) < (d : Int) by omega)
  by_cases hz : z < 0
  · rw [decide_eq_true hz]
    simp only [sg, if_true]
    have e : z = -((z.natAbs : Nat) : Int) := by omega
    generalize z.natAbs = m at *
    subst e
    rcases Nat.eq_zero_or_pos (m % d) with h0 | h0
    · rw [if_neg (by omega), Nat.add_zero]
      symm
      have e2 : -((m : Nat) : Int) = (d : Int) * (-((m / d : Nat) : Int)) := by
        have : (m : Int) = (d : Int) * ((m / d : Nat) : Int) := by rw [← Int.natCast_mul]; omega
        rw [Int.mul_neg, ← this]
      rw [e2, Int.mul_ediv_cancel_left _ (by omega)]
    · rw [if_pos ⟨hz, h0⟩]
      symm
      have e2 : -((m : Nat) : Int) = (d : Int) * (-((m / d + 1 : Nat) : Int)) + ((d - m % d : Nat) : Int) := by
        have h6 : (m : Int) = (d : Int) * ((m / d : Nat) : Int) + ((m % d : Nat) : Int) := by rw [← Int.natCast_mul]; omega
        rw [Int.natCast_add, Int.neg_add, Int.mul_add, Int.mul_neg]
        omega
      rw [e2, Int.add_comm, Int.add_mul_ediv_left _ _ (by omega), Int.ediv_eq_zero_of_lt (by omega) (by omega)]
      omega
  · rw [decide_eq_false hz, if_neg (by omega), Nat.add_zero]
    simp only [sg, Bool.false_eq_true, if_false]
    have e : z = ((z.natAbs : Nat) : Int) := by omega
    generalize z.natAbs = m at *
    subst e
    exact Int.natCast_ediv m d
theorem floor_div (n : Int) (d : Nat) (hd : 0 < d) : ((n : Rat) / (d : Rat)).floor = n / (d : Int) := by
  have hd' : (0 : Rat) < ((d : Nat) : Rat) := by exact_mod_cast hd
  have key : ∀ z : Int, z ≤ ((n : Rat) / (d : Rat)).floor ↔ z ≤ n / (d : Int) := by
    intro z
    rw [Rat.le_floor_iff, Int.le_ediv_iff_mul_le (by omega)]
    rw [← Rat.not_lt, Rat.div_lt_iff hd']
    have e : (z : Rat) * ((d : Nat) : Rat) = ((z * (d : Int) : Int) : Rat) := by rw [Rat.intCast_mul, Rat.intCast_natCast]
    rw [e, Rat.intCast_lt_intCast]
    omega
  exact Int.le_antisymm ((key _).1 (Int.le_refl _)) ((key _).2 (Int.le_refl _))
theorem num_div_den (q : Rat) : (q.num : Rat) / ((q.den : Nat) : Rat) = q := by rw [← Rat.mkRat_eq_div, Rat.mkRat_self]
theorem floor_num_den (q : Rat) : q.floor = q.num / (q.den : Int) := by
  have := floor_div q.num q.den q.den_pos
  rwa [num_div_den] at this
theorem floorR_eq (q : Rat) : floorR q = (q.floor : Rat) := by
  unfold floorR redR
  rw [sg_floor _ _ q.den_pos, Rat.mkRat_one, floor_num_den]
end Wx

namespace Wx

/-- 2^k as a fraction. -/
def pw (k : Nat) : Rat := ((2 ^ k : Nat) : Rat)
theorem pw_pos (k : Nat) : 0 < pw k := by
  unfold pw
  exact_mod_cast Nat.two_pow_pos k
theorem floor_pw (x : Rat) (k : Nat) : (x * pw k).floor = (x.num * 2 ^ k) / (x.den : Int) := by
  rw [← floor_div _ _ x.den_pos]
  congr 1
  have h := num_div_den x
  have hd : ((x.den : Nat) : Rat) ≠ 0 := by have := x.den_pos; exact_mod_cast (show x.den ≠ 0 by omega)
  have e : ((x.num * 2 ^ k : Int) : Rat) = (x.num : Rat) * pw k := by
    unfold pw
    rw [Rat.intCast_mul]
    congr 1
  rw [e]
  generalize pw k = p
  conv => lhs; rw [← h]
  rw [Rat.div_def, Rat.div_def]
  grind
theorem downR_eq (x : Rat) (k : Int) : downR x k = ((x * pw (bitsOf k)).floor : Rat) / pw (bitsOf k) := by
  rw [floor_pw]
  unfold downR downQ redR
  generalize bitsOf k = K
  have e1 : (x.num * 2 ^ K).natAbs = x.num.natAbs * 2 ^ K := by rw [Int.natAbs_mul, Int.natAbs_pow]; rfl
  have hp : (0 : Int) < 2 ^ K := Int.pow_pos (by omega)
  have e2 : x.num * 2 ^ K < 0 ↔ x.num < 0 := by
    constructor
    · intro h
      rcases Int.lt_or_le x.num 0 with h' | h'
      · exact h'
      · have := Int.mul_nonneg h' (Int.le_of_lt hp); omega
    · intro h; exact Int.mul_neg_of_neg_of_pos h hp
  have h := sg_floor (x.num * 2 ^ K) x.den x.den_pos
  rw [e1] at h
  simp only [e2] at h
  rw [h, Rat.mkRat_eq_div]
  rfl
end Wx
