import Derived.Test.YtncpoijmhgihjaaProg
import Derived.Handy
import Derived.Test.YtncpoijmhgihjaaPlain1
import Derived.Test.YtncpoijmhgihjaaMem
import Derived.Test.YtncpoijmhgihjaaJIncludes3
import Derived.Test.YtncpoijmhgihjaaCDivide
import Derived.Test.YtncpoijmhgihjaaCGcd
import Derived.Test.YtncpoijmhgihjaaCRat1
import Derived.Test.YtncpoijmhgihjaaCRat2
import Derived.Test.YtncpoijmhgihjaaJIncludes16
import Derived.Test.YtncpoijmhgihjaaCRat3
import Derived.Test.YtncpoijmhgihjaaJIncludes18
import Derived.Test.YtncpoijmhgihjaaCInt
import Derived.Test.YtncpoijmhgihjaaCDown
import Derived.Test.YtncpoijmhgihjaaCCmp
import Derived.Test.YtncpoijmhgihjaaCPlainOrd
namespace Wx
open Go Go.RowKit Go.Proofs

theorem up_num (w : World) (vx : Value) (x : Rat) (k : Int) (hx : IsRat w vx x) {j : Nat} (hj : BdR j x) (hjk : j ≤ 10000000) : Calls Try.prog 67 #[vx, .int .i64 k] w (RetRat w (-(downR (-x) k))) := by
  obtain ⟨vx1, vx2, rfl, hxa, hxb⟩ := id hx
  obtain ⟨Ax1, cx1, rfl, _⟩ := id hxa
  obtain ⟨Ax2, cx2, rfl, _⟩ := id hxb
  go_enter Try.func67, Try.ntmps67
  go_wp2_with fail
  obtain ⟨w1, e1, o1, b1, s1⟩ := lay3 w (.bool (decide (x.num < 0))) (.slice Ax1 (digs b64 x.num.natAbs).length cx1) (.slice Ax2 (digs b64 (denOf x.den)).length cx2) 27
  obtain ⟨w2, e2, o2, b2, s2⟩ := lay3 w1 (.bool false) (.slice none 0 0) (.slice none 0 0) 27
  rw [e1, e2]
  rw [s1] at o2
  have p1 := (o1.gone b2)
  have p2 := o2
  have B0 := (b1.trans (b2.mono b1.size))
  have hS : ∀ w', HeldR w (w.heap.size + 1) 27 [(w.heap.size, .bool (decide (x.num < 0)), .slice Ax1 (digs b64 x.num.natAbs).length cx1, .slice Ax2 (digs b64 (denOf x.den)).length cx2)] w' → HeldR w (w.heap.size + 1) 27 [(w.heap.size, .bool (decide (x.num < 0)), .slice Ax1 (digs b64 x.num.natAbs).length cx1, .slice Ax2 (digs b64 (denOf x.den)).length cx2)] w' ∧ w'.cell? ⟨w.heap.size, 0, none⟩ = some (.bool (decide (x.num < 0))) ∧ w'.cell? ⟨w.heap.size, 1, none⟩ = some (.slice Ax1 (digs b64 x.num.natAbs).length cx1) ∧ w'.cell? ⟨w.heap.size, 2, none⟩ = some (.slice Ax2 (digs b64 (denOf x.den)).length cx2) ∧ w'.cell? ⟨w.heap.size + 1, 0, none⟩ = some (cv w' ⟨w.heap.size + 1, 0, none⟩) ∧ w'.cell? ⟨w.heap.size + 1, 1, none⟩ = some (cv w' ⟨w.heap.size + 1, 1, none⟩) ∧ w'.cell? ⟨w.heap.size + 1, 2, none⟩ = some (cv w' ⟨w.heap.size + 1, 2, none⟩) ∧ w'.frozen? ⟨w.heap.size + 1, 0, none⟩ = false ∧ w'.frozen? ⟨w.heap.size + 1, 1, none⟩ = false ∧ w'.frozen? ⟨w.heap.size + 1, 2, none⟩ = false := fun w' hh => by
    obtain ⟨f0, f1, f2, f3, f4, f5⟩ := hh.cells
    have q1 := (hh.2.2.1 (w.heap.size, .bool (decide (x.num < 0)), .slice Ax1 (digs b64 x.num.natAbs).length cx1, .slice Ax2 (digs b64 (denOf x.den)).length cx2) (by simp)).2
    exact ⟨hh, q1.c0, q1.c1, q1.c2, f0, f1, f2, f3, f4, f5⟩
  have H0 : HeldR w (w.heap.size + 1) 27 [(w.heap.size, .bool (decide (x.num < 0)), .slice Ax1 (digs b64 x.num.natAbs).length cx1, .slice Ax2 (digs b64 (denOf x.den)).length cx2)] w2 := ⟨B0, by omega, by intro p hp; simp at hp; subst hp; exact ⟨by simp, p1⟩, _, _, _, p2, notInt_bool _, notInt_slice _ _ _, notInt_slice _ _ _⟩
  clear e1 e2
  have hz := H0
  obtain ⟨_, k0, k1, k2, k3, k4, k5⟩ := hS _ hz
  refine (neg_num _ _ x (hx.below hz.1)).mono ?_
  rintro e wy ⟨vr, rfl, hrr, hb⟩
  have hz := HeldR.call (And.intro hz trivial) hb
  clear k0 k1 k2 k3 k4 k5
  obtain ⟨_, k0, k1, k2, k3, k4, k5⟩ := hS _ hz
  go_wp2_with fail
  refine (down_num _ _ (-x) k hrr hj.neg hjk).mono ?_
  rintro e wy ⟨vr, rfl, hrr, hb⟩
  have hz := HeldR.call (And.intro hz trivial) hb
  clear k0 k1 k2 k3 k4 k5
  obtain ⟨_, k0, k1, k2, k3, k4, k5⟩ := hS _ hz
  go_wp2_with fail
  refine (neg_num _ _ _ hrr).mono ?_
  rintro e wy ⟨vr, rfl, hrr, hb⟩
  have hz := HeldR.call (And.intro hz trivial) hb
  clear k0 k1 k2 k3 k4 k5
  generalize -(downR (-x) k) = qq at *
  obtain ⟨vrn, vrd, rfl, hrn, hrd⟩ := id hrr
  obtain ⟨Ar1, cr1, rfl, _⟩ := id hrn
  obtain ⟨Ar2, cr2, rfl, _⟩ := id hrd
  obtain ⟨_, k0, k1, k2, k3, k4, k5, k6, k7, k8⟩ := hS _ hz
  go_wp2
  obtain ⟨wf, HW, f0, f1, f2, hfin⟩ := hz.fin rfl hrn hrd
  rw [HW]
  (try simp only [Exit.inBlock, Exit.then])
  refine bodyPost_ret (by simp [results, Try.results67, go_sem, f0, f1, f2]; try rfl) rfl ?_
  exact hfin
end Wx

namespace Wx

/-- The greatest whole number not above q. -/
def floorR (q : Rat) : Rat := redR (decide (q.num < 0)) (q.num.natAbs / q.den + (if q.num < 0 ∧ 0 < q.num.natAbs % q.den then 1 else 0)) 1
theorem sg_floor (z : Int) (d : Nat) (hd : 0 < d) : sg (decide (z < 0)) (z.natAbs / d + (if z < 0 ∧ 0 < z.natAbs % d then 1 else 0)) = z / (d : Int) := by
  have h1 := Nat.div_add_mod z.natAbs d
  have h2 := Nat.mod_lt z.natAbs hd
  have h3 := Int.mul_ediv_add_emod z (d : Int)
  have h4 := Int.emod_nonneg z (show (d : Int) ≠ 0 by omega)
  have h5 := Int.emod_lt_of_pos z (show (0 : Int) < (d : Int) by omega)
  by_cases hz : z < 0
  · rw [decide_eq_true hz]
    simp only [sg, if_true]
    have e : z = -((z.natAbs : Nat) : Int) := by omega
    generalize z.natAbs = m at *
    subst e
    rcases Nat.eq_zero_or_pos (m % d) with h0 | h0
    · rw [if_neg (by omega), Nat.add_zero]
      symm
      have e2 : -((m : Nat) : Int) = (d : Int) * (-((m / d : Nat) : Int)) := by
        have : (m : Int) = (d : Int) * ((m / d : Nat) : Int) := by rw [← Int.natCast_mul]; omega
        rw [Int.mul_neg, ← this]
      rw [e2, Int.mul_ediv_cancel_left _ (by omega)]
    · rw [if_pos ⟨hz, h0⟩]
      symm
      have e2 : -((m : Nat) : Int) = (d : Int) * (-((m / d + 1 : Nat) : Int)) + ((d - m % d : Nat) : Int) := by
        have h6 : (m : Int) = (d : Int) * ((m / d : Nat) : Int) + ((m % d : Nat) : Int) := by rw [← Int.natCast_mul]; omega
        rw [Int.natCast_add, Int.neg_add, Int.mul_add, Int.mul_neg]
        omega
      rw [e2, Int.add_comm, Int.add_mul_ediv_left _ _ (by omega), Int.ediv_eq_zero_of_lt (by omega) (by omega)]
      omega
  · rw [decide_eq_false hz, if_neg (by omega), Nat.add_zero]
    simp only [sg, Bool.false_eq_true, if_false]
    have e : z = ((z.natAbs : Nat) : Int) := by omega
    generalize z.natAbs = m at *
    subst e
    exact Int.natCast_ediv m d
theorem floor_div (n : Int) (d : Nat) (hd : 0 < d) : ((n : Rat) / (d : Rat)).floor = n / (d : Int) := by
  have hd' : (0 : Rat) < ((d : Nat) : Rat) := by exact_mod_cast hd
  have key : ∀ z : Int, z ≤ ((n : Rat) / (d : Rat)).floor ↔ z ≤ n / (d : Int) := by
    intro z
    rw [Rat.le_floor_iff, Int.le_ediv_iff_mul_le (by omega)]
    rw [← Rat.not_lt, Rat.div_lt_iff hd']
    have e : (z : Rat) * ((d : Nat) : Rat) = ((z * (d : Int) : Int) : Rat) := by rw [Rat.intCast_mul, Rat.intCast_natCast]
    rw [e, Rat.intCast_lt_intCast]
    omega
  exact Int.le_antisymm ((key _).1 (Int.le_refl _)) ((key _).2 (Int.le_refl _))
theorem num_div_den (q : Rat) : (q.num : Rat) / ((q.den : Nat) : Rat) = q := by rw [← Rat.mkRat_eq_div, Rat.mkRat_self]
theorem floor_num_den (q : Rat) : q.floor = q.num / (q.den : Int) := by
  have := floor_div q.num q.den q.den_pos
  rwa [num_div_den] at this
theorem floorR_eq (q : Rat) : floorR q = (q.floor : Rat) := by
  unfold floorR redR
  rw [sg_floor _ _ q.den_pos, Rat.mkRat_one, floor_num_den]
end Wx

namespace Wx

/-- 2^k as a fraction. -/
def pw (k : Nat) : Rat := ((2 ^ k : Nat) : Rat)
theorem pw_pos (k : Nat) : 0 < pw k := by
  unfold pw
  exact_mod_cast Nat.two_pow_pos k
theorem floor_pw (x : Rat) (k : Nat) : (x * pw k).floor = (x.num * 2 ^ k) / (x.den : Int) := by
  rw [← floor_div _ _ x.den_pos]
  congr 1
  have h := num_div_den x
  have hd : ((x.den : Nat) : Rat) ≠ 0 := by have := x.den_pos; exact_mod_cast (show x.den ≠ 0 by omega)
  have e : ((x.num * 2 ^ k : Int) : Rat) = (x.num : Rat) * pw k := by
    unfold pw
    rw [Rat.intCast_mul]
    congr 1
  rw [e]
  generalize pw k = p
  conv => lhs; rw [← h]
  rw [Rat.div_def, Rat.div_def]
  grind
theorem downR_eq (x : Rat) (k : Int) : downR x k = ((x * pw (bitsOf k)).floor : Rat) / pw (bitsOf k) := by
  rw [floor_pw]
  unfold downR downQ redR
  generalize bitsOf k = K
  have e1 : (x.num * 2 ^ K).natAbs = x.num.natAbs * 2 ^ K := by rw [Int.natAbs_mul, Int.natAbs_pow]; rfl
  have hp : (0 : Int) < 2 ^ K := Int.pow_pos (by omega)
  have e2 : x.num * 2 ^ K < 0 ↔ x.num < 0 := by
    constructor
    · intro h
      rcases Int.lt_or_le x.num 0 with h' | h'
      · exact h'
      · have := Int.mul_nonneg h' (Int.le_of_lt hp); omega
    · intro h; exact Int.mul_neg_of_neg_of_pos h hp
  have h := sg_floor (x.num * 2 ^ K) x.den x.den_pos
  rw [e1] at h
  simp only [e2] at h
  rw [h, Rat.mkRat_eq_div]
  rfl
end Wx

namespace Wx
def powR (x : Rat) : Nat → Rat
  | 0 => 1
  | n + 1 => powR x n * x
theorem bd_pow {j : Nat} {x : Rat} (h : BdR j x) : ∀ n, BdR (j * n + 1) (powR x n)
  | 0 => ⟨by show Bd _ 1; unfold Bd; simp, by show Bd _ 1; unfold Bd; simp⟩
  | n + 1 => ((bd_pow h n).mul h).mono (by rw [Nat.mul_add]; omega)
end Wx

namespace Wx

theorem half_eq : newR 1 2 = 1 / 2 := by decide +kernel
theorem pw_succ (n : Nat) : pw (n + 1) = pw n * 2 := by
  unfold pw
  rw [Nat.pow_succ, Rat.natCast_mul]
  rfl
theorem pow_half (n : Nat) : powR (newR 1 2) n = 1 / pw n := by
  rw [half_eq]
  induction n with
  | zero => show (1 : Rat) = 1 / pw 0; decide +kernel
  | succ n ih =>
    show powR (1 / 2) n * (1 / 2) = _
    rw [ih, pw_succ]
    have := pw_pos n
    generalize pw n = p at *
    have hp : p ≠ 0 := by grind
    rw [Rat.div_def, Rat.div_def, Rat.div_def]
    grind
theorem floor_zero (x : Rat) : downR x 0 = floorR x := by
  rw [downR_eq, floorR_eq]
  have e : pw (bitsOf 0) = 1 := by decide +kernel
  rw [e, Rat.mul_one, Rat.div_def]
  grind
theorem down_le (x : Rat) (k : Int) : downR x k ≤ x ∧ x - downR x k < 1 / pw (bitsOf k) := by
  rw [downR_eq]
  have hp := pw_pos (bitsOf k)
  have h1 := Rat.floor_le (x * pw (bitsOf k))
  have h2 := Rat.lt_floor_add_one (x * pw (bitsOf k))
  rw [Rat.intCast_add] at h2
  generalize pw (bitsOf k) = p at *
  generalize ((x * p).floor : Rat) = f at *
  have hp0 : p ≠ 0 := by grind
  have e : f / p * p = f := by rw [Rat.div_def, Rat.mul_assoc, Rat.inv_mul_cancel _ hp0, Rat.mul_one]
  have e1 : 1 / p * p = 1 := by rw [Rat.div_def, Rat.one_mul, Rat.inv_mul_cancel _ hp0]
  generalize f / p = a at *
  generalize 1 / p = b at *
  constructor
  · rw [← Rat.not_lt]
    intro h
    have := Rat.mul_lt_mul_of_pos_right h hp
    grind
  · rw [← Rat.not_le]
    intro h
    have := Rat.mul_le_mul_of_nonneg_right h (Rat.le_of_lt hp)
    have h3 : ((1 : Int) : Rat) = 1 := rfl
    rw [h3] at h2
    grind
theorem floor_facts (x : Rat) : floorR x ≤ x ∧ x < floorR x + 1 := by
  rw [floorR_eq]
  have h1 := Rat.floor_le x
  have h2 := Rat.lt_floor_add_one x
  rw [Rat.intCast_add] at h2
  exact ⟨h1, h2⟩
/-- All that RatioRounds compares. -/
theorem round_facts (x : Rat) (k : Int) : ∃ c1 c2 c3 c4 c5 c6 : Int, cmpT (floorR x) x = c1 ∧ c1 ≤ 0 ∧ cmpT x (floorR x + 1) = c2 ∧ c2 < 0 ∧ cmpT (downR x k) x = c3 ∧ c3 ≤ 0 ∧ cmpT (-(downR (-x) k)) x = c4 ∧ 0 ≤ c4 ∧
    cmpT (x - downR x k) (1 / pw (bitsOf k)) = c5 ∧ c5 < 0 ∧ cmpT (-(downR (-x) k) - x) (1 / pw (bitsOf k)) = c6 ∧ c6 < 0 := by
  obtain ⟨a1, a2⟩ := floor_facts x
  obtain ⟨b1, b2⟩ := down_le x k
  obtain ⟨d1, d2⟩ := down_le (-x) k
  have key : ∀ u v : Rat, u < v → cmpT u v < 0 := fun u v h => by rw [cmpT_lt h]; omega
  have kle : ∀ u v : Rat, u ≤ v → cmpT u v ≤ 0 := fun u v h => by rw [cmpT_le]; exact h
  refine ⟨_, _, _, _, _, _, rfl, kle _ _ a1, rfl, key _ _ a2, rfl, kle _ _ b1, rfl, ?_, rfl, key _ _ b2, rfl, key _ _ ?_⟩
  · rcases tri (-(downR (-x) k)) x with h | h | h
    · exfalso; grind
    · rw [cmpT_eq h]; omega
    · rw [cmpT_gt h]; omega
  · have e : -(downR (-x) k) - x = -x - downR (-x) k := by grind
    rw [e]; exact d2
end Wx
