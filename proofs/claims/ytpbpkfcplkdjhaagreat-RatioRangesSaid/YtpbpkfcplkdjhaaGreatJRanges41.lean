import Derived.Test.YtpbpkfcplkdjhaaGreatProg
import Derived.Handy
import Derived.Test.YtpbpkfcplkdjhaaGreatJRanges0
import Derived.Test.YtpbpkfcplkdjhaaGreatJRanges1
import Derived.Test.YtpbpkfcplkdjhaaGreatJRanges8
import Derived.Test.YtpbpkfcplkdjhaaGreatCRat1
import Derived.Test.YtpbpkfcplkdjhaaGreatJRanges10
import Derived.Test.YtpbpkfcplkdjhaaGreatCRat3
import Derived.Test.YtpbpkfcplkdjhaaGreatJRanges14
import Derived.Test.YtpbpkfcplkdjhaaGreatCDown
import Derived.Test.YtpbpkfcplkdjhaaGreatJRanges15
import Derived.Test.YtpbpkfcplkdjhaaGreatJRanges22
import Derived.Test.YtpbpkfcplkdjhaaGreatJRanges18
import Derived.Test.YtpbpkfcplkdjhaaGreatCSem
import Derived.Test.YtpbpkfcplkdjhaaGreatCSemOps
import Derived.Test.YtpbpkfcplkdjhaaGreatCSemMem
import Derived.Test.YtpbpkfcplkdjhaaGreatCSemCode
import Derived.Test.YtpbpkfcplkdjhaaGreatJRanges27
import Derived.Test.YtpbpkfcplkdjhaaGreatCSemRow
import Derived.Test.YtpbpkfcplkdjhaaGreatJRanges29
import Derived.KernelRfl
import Derived.Test.YtpbpkfcplkdjhaaGreatInv
namespace Wx
open Go Go.RowKit Go.Proofs

theorem up_num (w : World) (vx : Value) (x : Rat) (k : Int) (hx : IsRat w vx x) {j : Nat} (hj : BdR j x) (hjk : j ≤ 10000000) : Calls Tryz.prog 89 #[vx, .int .i64 k] w (RetRat w (-(downR (-x) k))) := by
  obtain ⟨vx1, vx2, rfl, hxa, hxb⟩ := id hx
  obtain ⟨Ax1, cx1, rfl, _⟩ := id hxa
  obtain ⟨Ax2, cx2, rfl, _⟩ := id hxb
  go_enter Tryz.func89, Tryz.ntmps89
  go_wp2_with fail
  obtain ⟨w1, e1, o1, b1, s1⟩ := lay3 w (.bool (decide (x.num < 0))) (.slice Ax1 (digs b64 x.num.natAbs).length cx1) (.slice Ax2 (digs b64 (denOf x.den)).length cx2) 28
  obtain ⟨w2, e2, o2, b2, s2⟩ := lay3 w1 (.bool false) (.slice none 0 0) (.slice none 0 0) 28
  rw [e1, e2]
  rw [s1] at o2
  have p1 := (o1.gone b2)
  have p2 := o2
  have B0 := (b1.trans (b2.mono b1.size))
  have hS : ∀ w', HeldR w (w.heap.size + 1) 28 [(w.heap.size, .bool (decide (x.num < 0)), .slice Ax1 (digs b64 x.num.natAbs).length cx1, .slice Ax2 (digs b64 (denOf x.den)).length cx2)] w' → HeldR w (w.heap.size + 1) 28 [(w.heap.size, .bool (decide (x.num < 0)), .slice Ax1 (digs b64 x.num.natAbs).length cx1, .slice Ax2 (digs b64 (denOf x.den)).length cx2)] w' ∧ w'.cell? ⟨w.heap.size, 0, none⟩ = some (.bool (decide (x.num < 0))) ∧ w'.cell? ⟨w.heap.size, 1, none⟩ = some (.slice Ax1 (digs b64 x.num.natAbs).length cx1) ∧ w'.cell? ⟨w.heap.size, 2, none⟩ = some (.slice Ax2 (digs b64 (denOf x.den)).length cx2) ∧ w'.cell? ⟨w.heap.size + 1, 0, none⟩ = some (cv w' ⟨w.heap.size + 1, 0, none⟩) ∧ w'.cell? ⟨w.heap.size + 1, 1, none⟩ = some (cv w' ⟨w.heap.size + 1, 1, none⟩) ∧ w'.cell? ⟨w.heap.size + 1, 2, none⟩ = some (cv w' ⟨w.heap.size + 1, 2, none⟩) ∧ w'.frozen? ⟨w.heap.size + 1, 0, none⟩ = false ∧ w'.frozen? ⟨w.heap.size + 1, 1, none⟩ = false ∧ w'.frozen? ⟨w.heap.size + 1, 2, none⟩ = false := fun w' hh => by
    obtain ⟨f0, f1, f2, f3, f4, f5⟩ := hh.cells
    have q1 := (hh.2.2.1 (w.heap.size, .bool (decide (x.num < 0)), .slice Ax1 (digs b64 x.num.natAbs).length cx1, .slice Ax2 (digs b64 (denOf x.den)).length cx2) (by simp)).2
    exact ⟨hh, q1.c0, q1.c1, q1.c2, f0, f1, f2, f3, f4, f5⟩
  have H0 : HeldR w (w.heap.size + 1) 28 [(w.heap.size, .bool (decide (x.num < 0)), .slice Ax1 (digs b64 x.num.natAbs).length cx1, .slice Ax2 (digs b64 (denOf x.den)).length cx2)] w2 := ⟨B0, by omega, by intro p hp; simp at hp; subst hp; exact ⟨by simp, p1⟩, _, _, _, p2, notInt_bool _, notInt_slice _ _ _, notInt_slice _ _ _⟩
  clear e1 e2
  have hz := H0
  obtain ⟨_, k0, k1, k2, k3, k4, k5⟩ := hS _ hz
  refine (neg_num _ _ x (hx.below hz.1)).mono ?_
  rintro e wy ⟨vr, rfl, hrr, hb⟩
  have hz := HeldR.call (And.intro hz trivial) hb
  clear k0 k1 k2 k3 k4 k5
  obtain ⟨_, k0, k1, k2, k3, k4, k5⟩ := hS _ hz
  go_wp2_with fail
  refine (down_num _ _ (-x) k hrr hj.neg hjk).mono ?_
  rintro e wy ⟨vr, rfl, hrr, hb⟩
  have hz := HeldR.call (And.intro hz trivial) hb
  clear k0 k1 k2 k3 k4 k5
  obtain ⟨_, k0, k1, k2, k3, k4, k5⟩ := hS _ hz
  go_wp2_with fail
  refine (neg_num _ _ _ hrr).mono ?_
  rintro e wy ⟨vr, rfl, hrr, hb⟩
  have hz := HeldR.call (And.intro hz trivial) hb
  clear k0 k1 k2 k3 k4 k5
  generalize -(downR (-x) k) = qq at *
  obtain ⟨vrn, vrd, rfl, hrn, hrd⟩ := id hrr
  obtain ⟨Ar1, cr1, rfl, _⟩ := id hrn
  obtain ⟨Ar2, cr2, rfl, _⟩ := id hrd
  obtain ⟨_, k0, k1, k2, k3, k4, k5, k6, k7, k8⟩ := hS _ hz
  go_wp2
  obtain ⟨wf, HW, f0, f1, f2, hfin⟩ := hz.fin rfl hrn hrd
  rw [HW]
  (try simp only [Exit.inBlock, Exit.then])
  refine bodyPost_ret (by simp [results, Tryz.results89, go_sem, f0, f1, f2]; try rfl) rfl ?_
  exact hfin
end Wx

namespace Wx
def powR (x : Rat) : Nat → Rat
  | 0 => 1
  | n + 1 => powR x n * x
theorem bd_pow {j : Nat} {x : Rat} (h : BdR j x) : ∀ n, BdR (j * n + 1) (powR x n)
  | 0 => ⟨by show Bd _ 1; unfold Bd; simp, by show Bd _ 1; unfold Bd; simp⟩
  | n + 1 => ((bd_pow h n).mul h).mono (by rw [Nat.mul_add]; omega)
end Wx

namespace Wx

theorem half_eq : newR 1 2 = 1 / 2 := by decide +kernel
theorem pw_succ (n : Nat) : pw (n + 1) = pw n * 2 := by
  unfold pw
  rw [Nat.pow_succ, Rat.natCast_mul]
  rfl
theorem pow_half (n : Nat) : powR (newR 1 2) n = 1 / pw n := by
  rw [half_eq]
  induction n with
  | zero => show (1 : Rat) = 1 / pw 0; decide +kernel
  | succ n ih =>
    show powR (1 / 2) n * (1 / 2) = _
    rw [ih, pw_succ]
    have := pw_pos n
    generalize pw n = p at *
    have hp : p ≠ 0 := by grind
    rw [Rat.div_def, Rat.div_def, Rat.div_def]
    grind
theorem floor_zero (x : Rat) : downR x 0 = floorR x := by
  rw [downR_eq, floorR_eq]
  have e : pw (bitsOf 0) = 1 := by decide +kernel
  rw [e, Rat.mul_one, Rat.div_def]
  grind
theorem down_le (x : Rat) (k : Int) : downR x k ≤ x ∧ x - downR x k < 1 / pw (bitsOf k) := by
  rw [downR_eq]
  have hp := pw_pos (bitsOf k)
  have h1 := Rat.floor_le (x * pw (bitsOf k))
  have h2 := Rat.lt_floor_add_one (x * pw (bitsOf k))
  rw [Rat.intCast_add] at h2
  generalize pw (bitsOf k) = p at *
  generalize ((x * p).floor : Rat) = f at *
  have hp0 : p ≠ 0 := by grind
  have e : f / p * p = f := by rw [Rat.div_def, Rat.mul_assoc, Rat.inv_mul_cancel _ hp0, Rat.mul_one]
  have e1 : 1 / p * p = 1 := by rw [Rat.div_def, Rat.one_mul, Rat.inv_mul_cancel _ hp0]
  generalize f / p = a at *
  generalize 1 / p = b at *
  constructor
  · rw [← Rat.not_lt]
    intro h
    have := Rat.mul_lt_mul_of_pos_right h hp
    grind
  · rw [← Rat.not_le]
    intro h
    have := Rat.mul_le_mul_of_nonneg_right h (Rat.le_of_lt hp)
    have h3 : ((1 : Int) : Rat) = 1 := rfl
    rw [h3] at h2
    grind
theorem floor_facts (x : Rat) : floorR x ≤ x ∧ x < floorR x + 1 := by
  rw [floorR_eq]
  have h1 := Rat.floor_le x
  have h2 := Rat.lt_floor_add_one x
  rw [Rat.intCast_add] at h2
  exact ⟨h1, h2⟩
/-- All that RatioRounds compares. -/
theorem round_facts (x : Rat) (k : Int) : ∃ c1 c2 c3 c4 c5 c6 : Int, cmpT (floorR x) x = c1 ∧ c1 ≤ 0 ∧ cmpT x (floorR x + 1) = c2 ∧ c2 < 0 ∧ cmpT (downR x k) x = c3 ∧ c3 ≤ 0 ∧ cmpT (-(downR (-x) k)) x = c4 ∧ 0 ≤ c4 ∧
    cmpT (x - downR x k) (1 / pw (bitsOf k)) = c5 ∧ c5 < 0 ∧ cmpT (-(downR (-x) k) - x) (1 / pw (bitsOf k)) = c6 ∧ c6 < 0 := by
  obtain ⟨a1, a2⟩ := floor_facts x
  obtain ⟨b1, b2⟩ := down_le x k
  obtain ⟨d1, d2⟩ := down_le (-x) k
  have key : ∀ u v : Rat, u < v → cmpT u v < 0 := fun u v h => by rw [cmpT_lt h]; omega
  have kle : ∀ u v : Rat, u ≤ v → cmpT u v ≤ 0 := fun u v h => by rw [cmpT_le]; exact h
  refine ⟨_, _, _, _, _, _, rfl, kle _ _ a1, rfl, key _ _ a2, rfl, kle _ _ b1, rfl, ?_, rfl, key _ _ b2, rfl, key _ _ ?_⟩
  · rcases tri (-(downR (-x) k)) x with h | h | h
    · exfalso; grind
    · rw [cmpT_eq h]; omega
    · rw [cmpT_gt h]; omega
  · have e : -(downR (-x) k) - x = -x - downR (-x) k := by grind
    rw [e]; exact d2
end Wx

namespace Wx
open Go Go.RowKit Go.Proofs

/-- The least, and the greatest, of the first k. -/
def minTo (l : List Rat) : Nat → Rat
  | 0 => l.getD 0 0
  | k + 1 => if cmpT (l.getD k 0) (minTo l k) < 0 then l.getD k 0 else minTo l k
def maxTo (l : List Rat) : Nat → Rat
  | 0 => l.getD 0 0
  | k + 1 => if cmpT (l.getD k 0) (maxTo l k) > 0 then l.getD k 0 else maxTo l k
theorem cmpT_self (x : Rat) : cmpT x x = 0 := cmpT_eq rfl
theorem minTo_one (l : List Rat) : minTo l 1 = l.getD 0 0 := by unfold minTo; rw [minTo, cmpT_self]; rfl
theorem maxTo_one (l : List Rat) : maxTo l 1 = l.getD 0 0 := by unfold maxTo; rw [maxTo, cmpT_self]; rfl
theorem bd_get {l : List Rat} {j : Nat} (hb : ∀ x ∈ l, BdR j x) {k : Nat} (hk : k < l.length) : BdR j (l.getD k 0) := by
  rw [List.getD_eq_getElem?_getD, List.getElem?_eq_getElem hk]
  exact hb _ (List.getElem_mem hk)
theorem bd_minTo {l : List Rat} {j : Nat} (hb : ∀ x ∈ l, BdR j x) (h0 : 0 < l.length) : ∀ k, k ≤ l.length → BdR j (minTo l k) := by
  intro k
  induction k with
  | zero => intro _; exact bd_get hb h0
  | succ k ih =>
    intro hk
    unfold minTo
    split
    · exact bd_get hb (by omega)
    · exact ih (by omega)
theorem bd_maxTo {l : List Rat} {j : Nat} (hb : ∀ x ∈ l, BdR j x) (h0 : 0 < l.length) : ∀ k, k ≤ l.length → BdR j (maxTo l k) := by
  intro k
  induction k with
  | zero => intro _; exact bd_get hb h0
  | succ k ih =>
    intro hk
    unfold maxTo
    split
    · exact bd_get hb (by omega)
    · exact ih (by omega)
theorem minTo_le (l : List Rat) : ∀ k i, i < k → minTo l k ≤ l.getD i 0 := by
  intro k
  induction k with
  | zero => intro i h; omega
  | succ k ih =>
    intro i hi
    unfold minTo
    by_cases h : cmpT (l.getD k 0) (minTo l k) < 0
    · rw [if_pos h]
      have h1 : l.getD k 0 < minTo l k := by
        rcases tri (l.getD k 0) (minTo l k) with h2 | h2 | h2
        · exact h2
        · rw [cmpT_eq h2] at h; omega
        · rw [cmpT_gt h2] at h; omega
      by_cases hik : i = k
      · rw [hik]; exact Rat.le_refl
      · have := ih i (by omega); grind
    · rw [if_neg h]
      by_cases hik : i = k
      · rw [hik]
        rcases tri (l.getD k 0) (minTo l k) with h2 | h2 | h2
        · rw [cmpT_lt h2] at h; omega
        · rw [h2]; exact Rat.le_refl
        · grind
      · exact ih i (by omega)
theorem le_maxTo (l : List Rat) : ∀ k i, i < k → l.getD i 0 ≤ maxTo l k := by
  intro k
  induction k with
  | zero => intro i h; omega
  | succ k ih =>
    intro i hi
    unfold maxTo
    by_cases h : cmpT (l.getD k 0) (maxTo l k) > 0
    · rw [if_pos h]
      have h1 : maxTo l k < l.getD k 0 := by
        rcases tri (l.getD k 0) (maxTo l k) with h2 | h2 | h2
        · rw [cmpT_lt h2] at h; omega
        · rw [cmpT_eq h2] at h; omega
        · exact h2
      by_cases hik : i = k
      · rw [hik]; exact Rat.le_refl
      · have := ih i (by omega); grind
    · rw [if_neg h]
      by_cases hik : i = k
      · rw [hik]
        rcases tri (l.getD k 0) (maxTo l k) with h2 | h2 | h2
        · grind
        · rw [h2]; exact Rat.le_refl
        · rw [cmpT_gt h2] at h; omega
      · exact ih i (by omega)
theorem minTo_mem (l : List Rat) : ∀ k, ∃ i, i ≤ k ∧ (0 < k → i < k) ∧ minTo l k = l.getD i 0 := by
  intro k
  induction k with
  | zero => exact ⟨0, by omega, by omega, rfl⟩
  | succ k ih =>
    unfold minTo
    split
    · exact ⟨k, by omega, by omega, rfl⟩
    · obtain ⟨i, h1, h2, h3⟩ := ih
      exact ⟨i, by omega, by omega, h3⟩
theorem maxTo_mem (l : List Rat) : ∀ k, ∃ i, i ≤ k ∧ (0 < k → i < k) ∧ maxTo l k = l.getD i 0 := by
  intro k
  induction k with
  | zero => exact ⟨0, by omega, by omega, rfl⟩
  | succ k ih =>
    unfold maxTo
    split
    · exact ⟨k, by omega, by omega, rfl⟩
    · obtain ⟨i, h1, h2, h3⟩ := ih
      exact ⟨i, by omega, by omega, h3⟩
def min4 (a b c d : Rat) : Rat := minTo [a, b, c, d] 4
def max4 (a b c d : Rat) : Rat := maxTo [a, b, c, d] 4
def min2 (a b : Rat) : Rat := minTo [a, b] 2
def max2 (a b : Rat) : Rat := maxTo [a, b] 2
theorem c_cmp {x y : Rat} {j k : Nat} (hx : BdR j x) (hy : BdR k y) (h : j + k ≤ 100000000) : ∀ w v1 v2, pRat x w v1 → pRat y w v2 → Calls Tryz.prog 63 #[v1, v2] w (Ret (pI (cmpT x y)) w) :=
  fun w v1 v2 h1 h2 => (cmp_rat w v1 v2 x y h1 h2 hx hy h).mono fun _ _ h => by rw [cmpF_eq] at h; exact ret_is h
theorem pRat_eq {x y : Rat} (h : x = y) : ∀ w v, pRat x w v → pRat y w v := fun _ _ k => h ▸ k
theorem bd4 {a b c d : Rat} {j : Nat} (ha : BdR j a) (hb : BdR j b) (hc : BdR j c) (hd : BdR j d) : ∀ x ∈ [a, b, c, d], BdR j x := by
  intro x hx
  simp only [List.mem_cons, List.not_mem_nil, or_false] at hx
  rcases hx with h | h | h | h <;> rw [h] <;> assumption
theorem bd2 {a b : Rat} {j : Nat} (ha : BdR j a) (hb : BdR j b) : ∀ x ∈ [a, b], BdR j x := by
  intro x hx
  simp only [List.mem_cons, List.not_mem_nil, or_false] at hx
  rcases hx with h | h <;> rw [h] <;> assumption
theorem bd_min4 {a b c d : Rat} {j : Nat} (ha : BdR j a) (hb : BdR j b) (hc : BdR j c) (hd : BdR j d) : BdR j (min4 a b c d) := bd_minTo (bd4 ha hb hc hd) (by simp) 4 (by simp)
theorem bd_max4 {a b c d : Rat} {j : Nat} (ha : BdR j a) (hb : BdR j b) (hc : BdR j c) (hd : BdR j d) : BdR j (max4 a b c d) := bd_maxTo (bd4 ha hb hc hd) (by simp) 4 (by simp)
theorem bd_min2 {a b : Rat} {j : Nat} (ha : BdR j a) (hb : BdR j b) : BdR j (min2 a b) := bd_minTo (bd2 ha hb) (by simp) 2 (by simp)
theorem bd_max2 {a b : Rat} {j : Nat} (ha : BdR j a) (hb : BdR j b) : BdR j (max2 a b) := bd_maxTo (bd2 ha hb) (by simp) 2 (by simp)
theorem bd_downR {j : Nat} {x : Rat} (h : BdR j x) (k : Int) : BdR (j + 300) (downR x k) := by
  have h2 := (bitsOf_spec k).2
  unfold downR downQ
  refine redR_bd (Nat.two_pow_pos _) ?_ ((Bd.pow2 (K := bitsOf k) (k := 257) (by omega)).mono (by omega))
  have a1 : Bd (j + 257) (x.num.natAbs * 2 ^ bitsOf k) := h.1.mul (Bd.pow2 (by omega))
  have a2 := a1.le (Nat.div_le_self _ x.den)
  exact ((a2.add (show Bd 1 1 by unfold Bd; omega)).mono (by omega)).le (by split <;> omega)
theorem bd_upR {j : Nat} {x : Rat} (h : BdR j x) (k : Int) : BdR (j + 300) (-(downR (-x) k)) := (bd_downR h.neg k).neg
theorem c_down {x : Rat} {j : Nat} (hx : BdR j x) (hj : j ≤ 10000000) (k : Int) : ∀ w v1 v2, pRat x w v1 → pI k w v2 → Calls Tryz.prog 88 #[v1, v2] w (Ret (pRat (downR x k)) w) := fun w v1 v2 h1 h2 => by
  have h2 : v2 = .int .i64 k := h2
  rw [h2]
  exact down_num w v1 x k h1 hx hj
theorem c_up {x : Rat} {j : Nat} (hx : BdR j x) (hj : j ≤ 10000000) (k : Int) : ∀ w v1 v2, pRat x w v1 → pI k w v2 → Calls Tryz.prog 89 #[v1, v2] w (Ret (pRat (-(downR (-x) k))) w) := fun w v1 v2 h1 h2 => by
  have h2 : v2 = .int .i64 k := h2
  rw [h2]
  exact up_num w v1 x k h1 hx hj
theorem dec_le (x y : Rat) : decide (cmpT x y ≤ 0) = decide (x ≤ y) := decide_eq_decide.2 cmpT_le
theorem dec_lt (x y : Rat) : decide (cmpT x y < 0) = decide (x < y) := by
  rw [decide_eq_decide]
  rcases tri x y with h | h | h
  · rw [cmpT_lt h]; simp [h]
  · rw [cmpT_eq h]; constructor
    · intro h'; omega
    · intro h'; grind
  · rw [cmpT_gt h]; constructor
    · intro h'; omega
    · intro h'; grind
theorem dec_gt (x y : Rat) : decide (cmpT x y > 0) = decide (y < x) := by
  rw [decide_eq_decide]
  rcases tri x y with h | h | h
  · rw [cmpT_lt h]; constructor
    · intro h'; omega
    · intro h'; grind
  · rw [cmpT_eq h]; constructor
    · intro h'; omega
    · intro h'; grind
  · rw [cmpT_gt h]; simp [h]
theorem newR_eq {n d : Int} (hd : d ≠ 0) : newR n d = (n : Rat) / (d : Rat) := by
  unfold newR redR
  rw [Rat.mkRat_eq_div]
  have key : ∀ z : Int, ((z.natAbs : Nat) : Rat) = if z < 0 then -(z : Rat) else (z : Rat) := by
    intro z
    split
    · rename_i h
      have : ((z.natAbs : Nat) : Int) = -z := by omega
      have e : (((z.natAbs : Nat) : Int) : Rat) = ((-z : Int) : Rat) := by rw [this]
      rw [Rat.intCast_neg] at e
      exact e
    · rename_i h
      have : ((z.natAbs : Nat) : Int) = z := by omega
      have e : (((z.natAbs : Nat) : Int) : Rat) = ((z : Int) : Rat) := by rw [this]
      exact e
  have hd' : (d : Rat) ≠ 0 := by exact_mod_cast hd
  have e0 : (((n.natAbs : Nat) : Int) : Rat) = ((n.natAbs : Nat) : Rat) := rfl
  unfold sg
  by_cases hn : n < 0 <;> by_cases hdn : d < 0 <;> simp only [hn, hdn, decide_true, decide_false, beq_self_eq_true, Bool.not_true, Bool.not_false, if_true, if_false, Bool.false_eq_true, Rat.intCast_neg, e0, key, Bool.true_beq, Bool.false_beq] <;> rw [Rat.div_def, Rat.div_def] <;> grind
/-- The number n divides 250. -/
def withinR (lo hi : Rat) (n : Int) : Rat := lo + (hi - lo) * newR (n.tmod 251) 250
end Wx

namespace Wx
open Go Go.RowKit

theorem getD4 (a b c d : Rat) (i : Nat) (h : i < 4) : [a, b, c, d].getD i 0 = a ∨ [a, b, c, d].getD i 0 = b ∨ [a, b, c, d].getD i 0 = c ∨ [a, b, c, d].getD i 0 = d := by
  match i, h with
  | 0, _ => exact .inl rfl
  | 1, _ => exact .inr (.inl rfl)
  | 2, _ => exact .inr (.inr (.inl rfl))
  | 3, _ => exact .inr (.inr (.inr rfl))
theorem min4_le (a b c d : Rat) : min4 a b c d ≤ a ∧ min4 a b c d ≤ b ∧ min4 a b c d ≤ c ∧ min4 a b c d ≤ d :=
  ⟨minTo_le [a, b, c, d] 4 0 (by omega), minTo_le [a, b, c, d] 4 1 (by omega), minTo_le [a, b, c, d] 4 2 (by omega), minTo_le [a, b, c, d] 4 3 (by omega)⟩
theorem le_max4 (a b c d : Rat) : a ≤ max4 a b c d ∧ b ≤ max4 a b c d ∧ c ≤ max4 a b c d ∧ d ≤ max4 a b c d :=
  ⟨le_maxTo [a, b, c, d] 4 0 (by omega), le_maxTo [a, b, c, d] 4 1 (by omega), le_maxTo [a, b, c, d] 4 2 (by omega), le_maxTo [a, b, c, d] 4 3 (by omega)⟩
theorem min4_mem (a b c d : Rat) : min4 a b c d = a ∨ min4 a b c d = b ∨ min4 a b c d = c ∨ min4 a b c d = d := by
  obtain ⟨i, _, h2, h3⟩ := minTo_mem [a, b, c, d] 4
  unfold min4
  rw [h3]
  exact getD4 a b c d i (h2 (by omega))
theorem max4_mem (a b c d : Rat) : max4 a b c d = a ∨ max4 a b c d = b ∨ max4 a b c d = c ∨ max4 a b c d = d := by
  obtain ⟨i, _, h2, h3⟩ := maxTo_mem [a, b, c, d] 4
  unfold max4
  rw [h3]
  exact getD4 a b c d i (h2 (by omega))
theorem getD2 (a b : Rat) (i : Nat) (h : i < 2) : [a, b].getD i 0 = a ∨ [a, b].getD i 0 = b := by
  match i, h with
  | 0, _ => exact .inl rfl
  | 1, _ => exact .inr rfl
theorem min2_le (a b : Rat) : min2 a b ≤ a ∧ min2 a b ≤ b := ⟨minTo_le [a, b] 2 0 (by omega), minTo_le [a, b] 2 1 (by omega)⟩
theorem le_max2 (a b : Rat) : a ≤ max2 a b ∧ b ≤ max2 a b := ⟨le_maxTo [a, b] 2 0 (by omega), le_maxTo [a, b] 2 1 (by omega)⟩
theorem min2_mem (a b : Rat) : min2 a b = a ∨ min2 a b = b := by
  obtain ⟨i, _, h2, h3⟩ := minTo_mem [a, b] 2
  unfold min2
  rw [h3]
  exact getD2 a b i (h2 (by omega))
theorem max2_mem (a b : Rat) : max2 a b = a ∨ max2 a b = b := by
  obtain ⟨i, _, h2, h3⟩ := maxTo_mem [a, b] 2
  unfold max2
  rw [h3]
  exact getD2 a b i (h2 (by omega))
/-- A product lies between those of the ends of one factor. -/
theorem mul_btw {l u h : Rat} (w : Rat) (h1 : l ≤ u) (h2 : u ≤ h) : (l * w ≤ u * w ∧ u * w ≤ h * w) ∨ (h * w ≤ u * w ∧ u * w ≤ l * w) := by
  rcases Rat.le_total (a := 0) (b := w) with hw | hw
  · left
    have a1 : 0 ≤ (u - l) * w := Rat.mul_nonneg (by grind) hw
    have a2 : 0 ≤ (h - u) * w := Rat.mul_nonneg (by grind) hw
    exact ⟨by grind, by grind⟩
  · right
    have a1 : 0 ≤ (u - l) * (-w) := Rat.mul_nonneg (by grind) (by grind)
    have a2 : 0 ≤ (h - u) * (-w) := Rat.mul_nonneg (by grind) (by grind)
    exact ⟨by grind, by grind⟩
theorem mul_in {a b c d u v : Rat} (h1 : a ≤ u) (h2 : u ≤ b) (h3 : c ≤ v) (h4 : v ≤ d) : min4 (a * c) (a * d) (b * c) (b * d) ≤ u * v ∧ u * v ≤ max4 (a * c) (a * d) (b * c) (b * d) := by
  obtain ⟨m1, m2, m3, m4⟩ := min4_le (a * c) (a * d) (b * c) (b * d)
  obtain ⟨x1, x2, x3, x4⟩ := le_max4 (a * c) (a * d) (b * c) (b * d)
  generalize min4 (a * c) (a * d) (b * c) (b * d) = m at *
  generalize max4 (a * c) (a * d) (b * c) (b * d) = x at *
  have k1 := mul_btw v h1 h2
  have k2 := mul_btw a h3 h4
  have k3 := mul_btw b h3 h4
  rw [Rat.mul_comm c a, Rat.mul_comm v a, Rat.mul_comm d a] at k2
  rw [Rat.mul_comm c b, Rat.mul_comm v b, Rat.mul_comm d b] at k3
  generalize a * c = p at *
  generalize a * d = q at *
  generalize b * c = r at *
  generalize b * d = s at *
  generalize a * v = t at *
  generalize b * v = z at *
  generalize u * v = y at *
  clear h1 h2 h3 h4
  rcases k1 with k1 | k1 <;> rcases k2 with k2 | k2 <;> rcases k3 with k3 | k3 <;> constructor <;> grind
theorem sq_in {a b u : Rat} (h1 : a ≤ u) (h2 : u ≤ b) : (if a ≤ 0 ∧ 0 ≤ b then 0 else min2 (a * a) (b * b)) ≤ u * u ∧ u * u ≤ max2 (a * a) (b * b) := by
  obtain ⟨m1, m2⟩ := min2_le (a * a) (b * b)
  obtain ⟨x1, x2⟩ := le_max2 (a * a) (b * b)
  have k1 := mul_btw u h1 h2
  have k2 := mul_btw a h1 h2
  have k3 := mul_btw b h1 h2
  have hsq : 0 ≤ u * u := by
    rcases Rat.le_total (a := 0) (b := u) with h | h
    · exact Rat.mul_nonneg h h
    · have := Rat.mul_nonneg (a := -u) (b := -u) (by grind) (by grind); grind
  have cu : u * a = a * u := Rat.mul_comm _ _
  have cb : u * b = b * u := Rat.mul_comm _ _
  have ca : b * a = a * b := Rat.mul_comm _ _
  refine ⟨?_, ?_⟩
  · split
    · exact hsq
    · rename_i hn
      by_cases ha : a ≤ 0
      · have hb : b < 0 := by grind
        have s1 : 0 ≤ (-b) * (b - u) := Rat.mul_nonneg (by grind) (by grind)
        have s2 : 0 ≤ (b - u) * (-u) := Rat.mul_nonneg (by grind) (by grind)
        grind
      · have s1 : 0 ≤ a * (u - a) := Rat.mul_nonneg (by grind) (by grind)
        have s2 : 0 ≤ (u - a) * u := Rat.mul_nonneg (by grind) (by grind)
        grind
  · rcases Rat.le_total (a := 0) (b := u) with h | h
    · have s1 : 0 ≤ u * (b - u) := Rat.mul_nonneg h (by grind)
      have s2 : 0 ≤ (b - u) * b := Rat.mul_nonneg (by grind) (by grind)
      grind
    · have s1 : 0 ≤ (-u) * (u - a) := Rat.mul_nonneg (by grind) (by grind)
      have s2 : 0 ≤ (u - a) * (-a) := Rat.mul_nonneg (by grind) (by grind)
      grind
theorem decide4 {p q r t : Prop} [Decidable p] [Decidable q] [Decidable r] [Decidable t] (h : p ∧ q) (g : r ∧ t) : ((decide p && decide q) && (decide r && decide t)) = true := by simp [h.1, h.2, g.1, g.2]
theorem i_add {a b c d u v : Rat} (h : a ≤ u ∧ u ≤ b) (g : c ≤ v ∧ v ≤ d) : a + c ≤ u + v ∧ u + v ≤ b + d := by obtain ⟨h1, h2⟩ := h; obtain ⟨g1, g2⟩ := g; exact ⟨by grind, by grind⟩
theorem i_sub {a b c d u v : Rat} (h : a ≤ u ∧ u ≤ b) (g : c ≤ v ∧ v ≤ d) : a - d ≤ u - v ∧ u - v ≤ b - c := by obtain ⟨h1, h2⟩ := h; obtain ⟨g1, g2⟩ := g; exact ⟨by grind, by grind⟩
theorem i_neg {a b u : Rat} (h : a ≤ u ∧ u ≤ b) : -b ≤ -u ∧ -u ≤ -a := by obtain ⟨h1, h2⟩ := h; exact ⟨by grind, by grind⟩
theorem i_round {a b u : Rat} (h : a ≤ u ∧ u ≤ b) (k : Int) : downR a k ≤ u ∧ u ≤ -(downR (-b) k) := by
  have h1 := (down_le a k).1
  have h2 := (down_le (-b) k).1
  obtain ⟨g1, g2⟩ := h
  exact ⟨by grind, by grind⟩
theorem i_hull {a b c d v : Rat} (g : c ≤ v ∧ v ≤ d) : min4 a b c d ≤ v ∧ v ≤ max4 a b c d := by
  obtain ⟨_, _, m, _⟩ := min4_le a b c d
  obtain ⟨_, _, _, x⟩ := le_max4 a b c d
  exact ⟨Rat.le_trans m g.1, Rat.le_trans g.2 x⟩
theorem min4_ge {a b c d e : Rat} (h1 : e ≤ a) (h2 : e ≤ b) (h3 : e ≤ c) (h4 : e ≤ d) : e ≤ min4 a b c d := by
  rcases min4_mem a b c d with h | h | h | h <;> rw [h] <;> assumption
theorem max4_ge {a b c d e : Rat} (h1 : a ≤ e) (h2 : b ≤ e) (h3 : c ≤ e) (h4 : d ≤ e) : max4 a b c d ≤ e := by
  rcases max4_mem a b c d with h | h | h | h <;> rw [h] <;> assumption
theorem min4_le_max4 (a b c d : Rat) : min4 a b c d ≤ max4 a b c d := Rat.le_trans (min4_le a b c d).1 (le_max4 a b c d).1
theorem i_mulp {a b c d u v : Rat} (h : a ≤ u ∧ u ≤ b) (g : c ≤ v ∧ v ≤ d) :
    (min4 (a * c) (a * d) (b * c) (b * d) ≤ min4 (u * c) (u * d) (u * c) (u * d) ∧ min4 (u * c) (u * d) (u * c) (u * d) ≤ max4 (a * c) (a * d) (b * c) (b * d)) ∧
    (min4 (a * c) (a * d) (b * c) (b * d) ≤ max4 (u * c) (u * d) (u * c) (u * d) ∧ max4 (u * c) (u * d) (u * c) (u * d) ≤ max4 (a * c) (a * d) (b * c) (b * d)) := by
  have hcd := Rat.le_trans g.1 g.2
  have k1 := mul_in h.1 h.2 (Rat.le_refl (a := c)) hcd
  have k2 := mul_in h.1 h.2 hcd (Rat.le_refl (a := d))
  have m1 := min4_ge k1.1 k2.1 k1.1 k2.1
  have m2 := max4_ge k1.2 k2.2 k1.2 k2.2
  have m3 := min4_le_max4 (u * c) (u * d) (u * c) (u * d)
  exact ⟨⟨m1, Rat.le_trans m3 m2⟩, ⟨Rat.le_trans m1 m3, m2⟩⟩
theorem min2_self (a : Rat) : min2 a a = a := by rcases min2_mem a a with h | h <;> exact h
theorem max2_self (a : Rat) : max2 a a = a := by rcases max2_mem a a with h | h <;> exact h
theorem min4_self (a : Rat) : min4 a a a a = a := by rcases min4_mem a a a a with h | h | h | h <;> exact h
theorem max4_self (a : Rat) : max4 a a a a = a := by rcases max4_mem a a a a with h | h | h | h <;> exact h
theorem i_before {a b c d u v : Rat} (h : a ≤ u ∧ u ≤ b) (g : c ≤ v ∧ v ≤ d) : (decide (b < c) && decide (cmpT u v ≥ (0 : Int))) = false := by
  by_cases hbc : b < c
  · have : u < v := by obtain ⟨_, h2⟩ := h; obtain ⟨g1, _⟩ := g; grind
    rw [cmpT_lt this]
    simp
  · simp [hbc]
/-- What lies between the inverses. -/
theorem inv_in {c d v : Rat} (g : c ≤ v ∧ v ≤ d) (h : ¬ (c ≤ 0 ∧ 0 ≤ d)) : d⁻¹ ≤ v⁻¹ ∧ v⁻¹ ≤ c⁻¹ := by
  obtain ⟨g1, g2⟩ := g
  have key : ∀ x y : Rat, x ≤ y → (0 < x ∨ y < 0) → y⁻¹ ≤ x⁻¹ := by
    intro x y hxy hs
    have hx : x ≠ 0 := by rcases hs with hs | hs <;> grind
    have hy : y ≠ 0 := by rcases hs with hs | hs <;> grind
    have e1 : x * x⁻¹ = 1 := Rat.mul_inv_cancel _ hx
    have e2 : y * y⁻¹ = 1 := Rat.mul_inv_cancel _ hy
    have hp : 0 < x⁻¹ * y⁻¹ := by
      rcases hs with hs | hs
      · exact Rat.mul_pos (Rat.inv_pos.2 hs) (Rat.inv_pos.2 (by grind))
      · have neg : ∀ z : Rat, z < 0 → z * z⁻¹ = 1 → z⁻¹ < 0 := by
          intro z hz e
          generalize z⁻¹ = p at *
          rcases Rat.le_total (a := 0) (b := p) with h | h
          · have := Rat.mul_nonneg (a := -z) (b := p) (by grind) h
            grind
          · grind
        have p1 := neg x (by grind) e1
        have p2 := neg y hs e2
        have := Rat.mul_pos (a := -x⁻¹) (b := -y⁻¹) (by grind) (by grind)
        grind
    have h0 : 0 ≤ (y - x) * (x⁻¹ * y⁻¹) := Rat.mul_nonneg (by grind) (by grind)
    generalize x⁻¹ = p at *
    generalize y⁻¹ = q at *
    have e3 : (y - x) * (p * q) = p * (y * q) - q * (x * p) := by grind
    rw [e3, e1, e2] at h0
    grind
  by_cases hc : 0 < c
  · exact ⟨key v d g2 (.inl (by grind)), key c v g1 (.inl hc)⟩
  · have hd : d < 0 := by grind
    exact ⟨key v d g2 (.inr hd), key c v g1 (.inr (by grind))⟩
end Wx

namespace Wx
open Go Go.RowKit Go.Proofs
set_option linter.unusedVariables false

/-- A fraction's data fit their kind. -/
def FracOk (n d : Int) : Prop := -9223372036854775808 ≤ n ∧ n ≤ 9223372036854775807 ∧ d ≤ 9223372036854775807
theorem bd_ok {n d : Int} (h : FracOk n d) : BdR 64 (ofR n d) := bd_ofR h.1 h.2.1 h.2.2
theorem c_of {n d : Int} {x : Rat} (e : x = ofR n d) (h : FracOk n d) : ∀ w v1, pFrac n d w v1 → Calls Tryz.prog 7 #[v1] w (Ret (pRat x) w) := fun w v1 h1 => by
  rw [pFrac_eq h1, e]
  exact of_num w n d h.1 h.2.1 h.2.2
theorem c_awake : ∀ w, Calls Tryz.prog 42 #[] w (Ret (pB true) w) := fun w => (awake_num w).mono fun _ _ => ret_is
theorem bd_int {z : Int} (h1 : -9223372036854775808 ≤ z) (h2 : z ≤ 9223372036854775807) : BdR 64 (z : Rat) := ⟨by unfold Bd; rw [Rat.num_intCast]; omega, by unfold Bd; rw [Rat.den_intCast]; omega⟩
theorem frac2_of (n1 d1 n2 d2 : Int) (w : World) : pS [⟨true, 2, pFrac n1 d1⟩, ⟨true, 2, pFrac n2 d2⟩] w (.agg #[.int .i64 n1, .int .i64 d1, .int .i64 n2, .int .i64 d2]) := pS_of (show pCells [⟨true, 2, pFrac n1 d1⟩, ⟨true, 2, pFrac n2 d2⟩] w [.int .i64 n1, .int .i64 d1, .int .i64 n2, .int .i64 d2] from ⟨by simp, pFrac_of n1 d1 w, by simp, pFrac_of n2 d2 w, rfl⟩)
/-- A law's answer. -/
theorem law_true {f : FuncId} {P : Program} {args : Array Value} {W : World} (h : Calls P f args W (RetB (fun _ _ => False) (pB true) W)) : Calls P f args W fun e w' => e = .returned (.bool true) ∧ Below W.heap.size W w' :=
  h.mono fun e w' h => by
    obtain ⟨v, rfl, hv, hb⟩ := h
    have : v = .bool true := hv.out
    exact ⟨by rw [this], hb⟩
end Wx
