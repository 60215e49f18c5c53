import Derived.Test.YtioicklnneebnaaGreatProg
import Derived.Handy
import Derived.Deep.RegionHeld3
import Derived.Test.YtioicklnneebnaaGreatPlain1
import Derived.Test.YtioicklnneebnaaGreatMem
import Derived.Test.YtioicklnneebnaaGreatJRounds3
import Derived.Test.YtioicklnneebnaaGreatJRounds31
import Derived.Test.YtioicklnneebnaaGreatJRounds38
import Derived.Test.YtioicklnneebnaaGreatCNRat2
import Derived.Test.YtioicklnneebnaaGreatCRat2
import Derived.Test.YtioicklnneebnaaGreatJRounds18
import Derived.Test.YtioicklnneebnaaGreatJRounds23
import Derived.Test.YtioicklnneebnaaGreatJRounds25
import Derived.Test.YtioicklnneebnaaGreatCRat1
import Derived.Test.YtioicklnneebnaaGreatJRounds16
import Derived.Test.YtioicklnneebnaaGreatCPlainOrd
import Derived.Test.YtioicklnneebnaaGreatCNAdd
import Derived.Test.YtioicklnneebnaaGreatCNSub
import Derived.Test.YtioicklnneebnaaGreatCDown
namespace Wx
open Go Go.RowKit Go.Proofs

set_option maxRecDepth 100000 in
set_option maxHeartbeats 1000000 in
theorem nsign_num (w : World) (vx : Value) (x : Rat) (hx : IsRef w vx x) : Calls Tryz.prog 56 #[vx] w (RetIs w (.int .i64 (sgnI x))) := by
  obtain ⟨vx1, vx2, rfl, hxa, hxb⟩ := id hx
  obtain ⟨Ax1, cx1, rfl, _⟩ := id hxa
  obtain ⟨Ax2, cx2, rfl, _⟩ := id hxb
  have hS : sgnI x = if x = 0 then 0 else if x.num < 0 then -1 else 1 := by
    unfold sgnI
    by_cases h : x = 0
    · subst h; rfl
    · rw [if_neg h, if_neg h]
  have hx0 := hx
  clear hx
  generalize sgnI x = z at *
  by_cases h2 : x = 0
  · rw [if_pos h2] at hS
    subst hS
    have HD := bx (decide_eq_true h2)
    clear h2
    go_enter Tryz.func56, Tryz.ntmps56
    go_wp2_with fail
    obtain ⟨w1, e1, oP, b1, s1⟩ := layA w [.bool (decide (x.num < 0)), .slice Ax1 (digs b32 x.num.natAbs).length cx1, .slice Ax2 (digs b32 x.den).length cx2] 31
    rw [e1]
    clear e1
    replace hx0 := hx0.below b1
    have B := b1
    clear b1
    have hc := nzero_num _ _ x hx0
    rw [HD.out] at hc
    refine Calls.mono (hc) ?_
    rintro e w2 ⟨rfl, b2⟩
    replace hx0 := hx0.below b2
    replace oP := oP.gone b2
    replace B := B.trans (b2.mono B.size)
    clear b2
    clear hc
    have k1 := oP.cell (i := 0) rfl
    have k2 := oP.cell (i := 1) rfl
    have k3 := oP.cell (i := 2) rfl
    go_wp2
    go_ret
    exact ⟨rfl, B⟩
  · rw [if_neg h2] at hS
    have HD := bx (decide_eq_false h2)
    clear h2
    by_cases h1 : x.num < 0
    · rw [if_pos h1] at hS
      subst hS
      rw [decide_eq_true h1] at *
      go_enter Tryz.func56, Tryz.ntmps56
      go_wp2_with fail
      obtain ⟨w1, e1, oP, b1, s1⟩ := layA w [.bool true, .slice Ax1 (digs b32 x.num.natAbs).length cx1, .slice Ax2 (digs b32 x.den).length cx2] 31
      rw [e1]
      clear e1
      replace hx0 := hx0.below b1
      have B := b1
      clear b1
      have hc := nzero_num _ _ x hx0
      rw [HD.out] at hc
      refine Calls.mono (hc) ?_
      rintro e w2 ⟨rfl, b2⟩
      replace hx0 := hx0.below b2
      replace oP := oP.gone b2
      replace B := B.trans (b2.mono B.size)
      clear b2
      clear hc
      have k1 := oP.cell (i := 0) rfl
      have k2 := oP.cell (i := 1) rfl
      have k3 := oP.cell (i := 2) rfl
      go_wp2
      go_ret
      exact ⟨rfl, B⟩
    · rw [if_neg h1] at hS
      subst hS
      rw [decide_eq_false h1] at *
      go_enter Tryz.func56, Tryz.ntmps56
      go_wp2_with fail
      obtain ⟨w1, e1, oP, b1, s1⟩ := layA w [.bool false, .slice Ax1 (digs b32 x.num.natAbs).length cx1, .slice Ax2 (digs b32 x.den).length cx2] 31
      rw [e1]
      clear e1
      replace hx0 := hx0.below b1
      have B := b1
      clear b1
      have hc := nzero_num _ _ x hx0
      rw [HD.out] at hc
      refine Calls.mono (hc) ?_
      rintro e w2 ⟨rfl, b2⟩
      replace hx0 := hx0.below b2
      replace oP := oP.gone b2
      replace B := B.trans (b2.mono B.size)
      clear b2
      clear hc
      have k1 := oP.cell (i := 0) rfl
      have k2 := oP.cell (i := 1) rfl
      have k3 := oP.cell (i := 2) rfl
      go_wp2
      go_ret
      exact ⟨rfl, B⟩
end Wx

namespace Wx
open Go Go.RowKit Go.Proofs

theorem sgn_sub (x y : Rat) : sgnI (x - y) = cmpT x y := by rw [sgnI_eq]; exact cmpT_sub x y
set_option maxRecDepth 100000 in
set_option maxHeartbeats 1000000 in
theorem ncmp_num (w : World) (vx vy : Value) (x y : Rat) (hx : IsRef w vx x) (hy : IsRef w vy y) {j k : Nat} (hj : BdR j x) (hk : BdR k y) (hjk : j + k + j + k + 1 ≤ 10000000) : Calls Tryz.prog 24 #[vx, vy] w (RetIs w (.int .i64 (cmpT x y))) := by
  obtain ⟨vx1, vx2, rfl, hxa, hxb⟩ := id hx
  obtain ⟨Ax1, cx1, rfl, _⟩ := id hxa
  obtain ⟨Ax2, cx2, rfl, _⟩ := id hxb
  obtain ⟨vy1, vy2, rfl, hya, hyb⟩ := id hy
  obtain ⟨Ay1, cy1, rfl, _⟩ := id hya
  obtain ⟨Ay2, cy2, rfl, _⟩ := id hyb
  have hx0 := hx
  have hy0 := hy
  clear hx hy hxa hxb hya hyb
  have HB := bx (And.intro hj hk)
  clear hj hk
  go_enter Tryz.func24, Tryz.ntmps24
  go_wp2_with fail
  obtain ⟨w1, e1, oX, b1, s1⟩ := layA w [.bool (decide (x.num < 0)), .slice Ax1 (digs b32 x.num.natAbs).length cx1, .slice Ax2 (digs b32 x.den).length cx2] 31
  rw [e1]
  clear e1
  replace hx0 := hx0.below b1
  replace hy0 := hy0.below b1
  have B := b1
  clear b1
  obtain ⟨w2, e2, oY, b2, s2⟩ := layA w1 [.bool (decide (y.num < 0)), .slice Ay1 (digs b32 y.num.natAbs).length cy1, .slice Ay2 (digs b32 y.den).length cy2] 31
  rw [e2]
  rw [s1] at oY
  clear e2
  replace hx0 := hx0.below b2
  replace hy0 := hy0.below b2
  replace oX := oX.gone b2
  replace B := B.trans (b2.mono B.size)
  clear b2
  refine Calls.mono (nsub_num _ _ _ x y hx0 hy0 HB.out.1 HB.out.2 hjk) ?_
  rintro e w3 ⟨vr, rfl, hr, b3⟩
  replace hx0 := hx0.below b3
  replace hy0 := hy0.below b3
  replace oX := oX.gone b3
  replace oY := oY.gone b3
  replace B := B.trans (b3.mono B.size)
  clear b3
  go_wp2_with fail
  have hc := nsign_num _ _ (x - y) hr
  rw [sgn_sub] at hc
  refine Calls.mono (hc) ?_
  rintro e w4 ⟨rfl, b4⟩
  replace hx0 := hx0.below b4
  replace hy0 := hy0.below b4
  replace oX := oX.gone b4
  replace oY := oY.gone b4
  replace hr := hr.below b4
  replace B := B.trans (b4.mono B.size)
  clear b4
  clear hc
  go_wp2
  go_ret
  exact ⟨rfl, B⟩
set_option maxRecDepth 100000 in
set_option maxHeartbeats 1000000 in
theorem nsame_num (w : World) (vx vy : Value) (x y : Rat) (hx : IsRef w vx x) (hy : IsRef w vy y) {j k : Nat} (hj : BdR j x) (hk : BdR k y) (hjk : j + k + j + k + 1 ≤ 10000000) : Calls Tryz.prog 26 #[vx, vy] w (RetIs w (.bool (cmpT x y == 0))) := by
  obtain ⟨vx1, vx2, rfl, hxa, hxb⟩ := id hx
  obtain ⟨Ax1, cx1, rfl, _⟩ := id hxa
  obtain ⟨Ax2, cx2, rfl, _⟩ := id hxb
  obtain ⟨vy1, vy2, rfl, hya, hyb⟩ := id hy
  obtain ⟨Ay1, cy1, rfl, _⟩ := id hya
  obtain ⟨Ay2, cy2, rfl, _⟩ := id hyb
  have hx0 := hx
  have hy0 := hy
  clear hx hy hxa hxb hya hyb
  have HB := bx (And.intro hj hk)
  clear hj hk
  go_enter Tryz.func26, Tryz.ntmps26
  go_wp2_with fail
  obtain ⟨w1, e1, oX, b1, s1⟩ := layA w [.bool (decide (x.num < 0)), .slice Ax1 (digs b32 x.num.natAbs).length cx1, .slice Ax2 (digs b32 x.den).length cx2] 31
  rw [e1]
  clear e1
  replace hx0 := hx0.below b1
  replace hy0 := hy0.below b1
  have B := b1
  clear b1
  obtain ⟨w2, e2, oY, b2, s2⟩ := layA w1 [.bool (decide (y.num < 0)), .slice Ay1 (digs b32 y.num.natAbs).length cy1, .slice Ay2 (digs b32 y.den).length cy2] 31
  rw [e2]
  rw [s1] at oY
  clear e2
  replace hx0 := hx0.below b2
  replace hy0 := hy0.below b2
  replace oX := oX.gone b2
  replace B := B.trans (b2.mono B.size)
  clear b2
  refine Calls.mono (ncmp_num _ _ _ x y hx0 hy0 HB.out.1 HB.out.2 hjk) ?_
  rintro e w3 ⟨rfl, b3⟩
  replace hx0 := hx0.below b3
  replace hy0 := hy0.below b3
  replace oX := oX.gone b3
  replace oY := oY.gone b3
  replace B := B.trans (b3.mono B.size)
  clear b3
  generalize cmpT x y = z at *
  go_wp2
  go_ret
  exact ⟨rfl, B⟩
end Wx

namespace Wx

/-- The greatest whole number not above q. -/
def floorR (q : Rat) : Rat := redR (decide (q.num < 0)) (q.num.natAbs / q.den + (if q.num < 0 ∧ 0 < q.num.natAbs % q.den then 1 else 0)) 1
theorem sg_floor (z : Int) (d : Nat) (hd : 0 < d) : sg (decide (z < 0)) (z.natAbs / d + (if z < 0 ∧ 0 < z.natAbs % d then 1 else 0)) = z / (d : Int) := by
  have h1 := Nat.div_add_mod z.natAbs d
  have h2 := Nat.mod_lt z.natAbs hd
  have h3 := Int.mul_ediv_add_emod z (d : Int)
  have h4 := Int.emod_nonneg z (show (d : Int) ≠ 0 by omega)
  have h5 := Int.emod_lt_of_pos z (show (0 : Int) < (d : Int) by omega)
  by_cases hz : z < 0
  · rw [decide_eq_true hz]
    simp only [sg, if_true]
    have e : z = -((z.natAbs : Nat) : Int) := by omega
    generalize z.natAbs = m at *
    subst e
    rcases Nat.eq_zero_or_pos (m % d) with h0 | h0
    · rw [if_neg (by omega), Nat.add_zero]
      symm
      have e2 : -((m : Nat) : Int) = (d : Int) * (-((m / d : Nat) : Int)) := by
        have : (m : Int) = (d : Int) * ((m / d : Nat) : Int) := by rw [← Int.natCast_mul]; omega
        rw [Int.mul_neg, ← this]
      rw [e2, Int.mul_ediv_cancel_left _ (by omega)]
    · rw [if_pos ⟨hz, h0⟩]
      symm
      have e2 : -((m : Nat) : Int) = (d : Int) * (-((m / d + 1 : Nat) : Int)) + ((d - m % d : Nat) : Int) := by
        have h6 : (m : Int) = (d : Int) * ((m / d : Nat) : Int) + ((m % d : Nat) : Int) := by rw [← Int.natCast_mul]; omega
        rw [Int.natCast_add, Int.neg_add, Int.mul_add, Int.mul_neg]
        omega
      rw [e2, Int.add_comm, Int.add_mul_ediv_left _ _ (by omega), Int.ediv_eq_zero_of_lt (by omega) (by omega)]
      omega
  · rw [decide_eq_false hz, if_neg (by omega), Nat.add_zero]
    simp only [sg, Bool.false_eq_true, if_false]
    have e : z = ((z.natAbs : Nat) : Int) := by omega
    generalize z.natAbs = m at *
    subst e
    exact Int.natCast_ediv m d
theorem floor_div (n : Int) (d : Nat) (hd : 0 < d) : ((n : Rat) / (d : Rat)).floor = n / (d : Int) := by
  have hd' : (0 : Rat) < ((d : Nat) : Rat) := by exact_mod_cast hd
  have key : ∀ z : Int, z ≤ ((n : Rat) / (d : Rat)).floor ↔ z ≤ n / (d : Int) := by
    intro z
    rw [Rat.le_floor_iff, Int.le_ediv_iff_mul_le (by omega)]
    rw [← Rat.not_lt, Rat.div_lt_iff hd']
    have e : (z : Rat) * ((d : Nat) : Rat) = ((z * (d : Int) : Int) : Rat) := by rw [Rat.intCast_mul, Rat.intCast_natCast]
    rw [e, Rat.intCast_lt_intCast]
    omega
  exact Int.le_antisymm ((key _).1 (Int.le_refl _)) ((key _).2 (Int.le_refl _))
theorem num_div_den (q : Rat) : (q.num : Rat) / ((q.den : Nat) : Rat) = q := by rw [← Rat.mkRat_eq_div, Rat.mkRat_self]
theorem floor_num_den (q : Rat) : q.floor = q.num / (q.den : Int) := by
  have := floor_div q.num q.den q.den_pos
  rwa [num_div_den] at this
theorem floorR_eq (q : Rat) : floorR q = (q.floor : Rat) := by
  unfold floorR redR
  rw [sg_floor _ _ q.den_pos, Rat.mkRat_one, floor_num_den]
end Wx

namespace Wx

/-- 2^k as a fraction. -/
def pw (k : Nat) : Rat := ((2 ^ k : Nat) : Rat)
theorem pw_pos (k : Nat) : 0 < pw k := by
  unfold pw
  exact_mod_cast Nat.two_pow_pos k
theorem floor_pw (x : Rat) (k : Nat) : (x * pw k).floor = (x.num * 2 ^ k) / (x.den : Int) := by
  rw [← floor_div _ _ x.den_pos]
  congr 1
  have h := num_div_den x
  have hd : ((x.den : Nat) : Rat) ≠ 0 := by have := x.den_pos; exact_mod_cast (show x.den ≠ 0 by omega)
  have e : ((x.num * 2 ^ k : Int) : Rat) = (x.num : Rat) * pw k := by
    unfold pw
    rw [Rat.intCast_mul]
    congr 1
  rw [e]
  generalize pw k = p
  conv => lhs; rw [← h]
  rw [Rat.div_def, Rat.div_def]
  grind
theorem downR_eq (x : Rat) (k : Int) : downR x k = ((x * pw (bitsOf k)).floor : Rat) / pw (bitsOf k) := by
  rw [floor_pw]
  unfold downR downQ redR
  generalize bitsOf k = K
  have e1 : (x.num * 2 ^ K).natAbs = x.num.natAbs * 2 ^ K := by rw [Int.natAbs_mul, Int.natAbs_pow]; rfl
  have hp : (0 : Int) < 2 ^ K := Int.pow_pos (by omega)
  have e2 : x.num * 2 ^ K < 0 ↔ x.num < 0 := by
    constructor
    · intro h
      rcases Int.lt_or_le x.num 0 with h' | h'
      · exact h'
      · have := Int.mul_nonneg h' (Int.le_of_lt hp); omega
    · intro h; exact Int.mul_neg_of_neg_of_pos h hp
  have h := sg_floor (x.num * 2 ^ K) x.den x.den_pos
  rw [e1] at h
  simp only [e2] at h
  rw [h, Rat.mkRat_eq_div]
  rfl
end Wx
