import Derived.Handy
import Derived.Test.YtncpoijmhgihjaaPlain1
import Derived.Test.YtncpoijmhgihjaaMem
import Derived.Test.YtncpoijmhgihjaaCRat1
import Derived.Test.YtncpoijmhgihjaaCRat2
import Derived.Test.YtncpoijmhgihjaaJIncludes18
import Derived.Test.YtncpoijmhgihjaaJIncludes16
import Derived.Test.YtncpoijmhgihjaaCCmp
import Derived.Test.YtncpoijmhgihjaaCPlainOrd
import Derived.Test.YtncpoijmhgihjaaCDown
import Derived.Test.YtncpoijmhgihjaaJIncludes26
import Derived.Test.YtncpoijmhgihjaaJIncludes42
import Derived.Test.YtncpoijmhgihjaaCInt
import Derived.Test.YtncpoijmhgihjaaSem
import Derived.Test.YtncpoijmhgihjaaSemOps
import Derived.Test.YtncpoijmhgihjaaSemMem
import Derived.Test.YtncpoijmhgihjaaSemCode
import Derived.Test.YtncpoijmhgihjaaCSemData
import Derived.Test.YtncpoijmhgihjaaCSemBuild
import Derived.Test.YtncpoijmhgihjaaCSemRow
import Derived.Test.YtncpoijmhgihjaaJIncludes39
namespace Wx
open Go Go.RowKit Go.Proofs

/-- The least, and the greatest, of the first k. -/
def minTo (l : List Rat) : Nat → Rat
  | 0 => l.getD 0 0
  | k + 1 => if cmpT (l.getD k 0) (minTo l k) < 0 then l.getD k 0 else minTo l k
def maxTo (l : List Rat) : Nat → Rat
  | 0 => l.getD 0 0
  | k + 1 => if cmpT (l.getD k 0) (maxTo l k) > 0 then l.getD k 0 else maxTo l k
theorem cmpT_self (x : Rat) : cmpT x x = 0 := cmpT_eq rfl
theorem minTo_one (l : List Rat) : minTo l 1 = l.getD 0 0 := by unfold minTo; rw [minTo, cmpT_self]; rfl
theorem maxTo_one (l : List Rat) : maxTo l 1 = l.getD 0 0 := by unfold maxTo; rw [maxTo, cmpT_self]; rfl
theorem bd_get {l : List Rat} {j : Nat} (hb : ∀ x ∈ l, BdR j x) {k : Nat} (hk : k < l.length) : BdR j (l.getD k 0) := by
  rw [List.getD_eq_getElem?_getD, List.getElem?_eq_getElem hk]
  exact hb _ (List.getElem_mem hk)
theorem bd_minTo {l : List Rat} {j : Nat} (hb : ∀ x ∈ l, BdR j x) (h0 : 0 < l.length) : ∀ k, k ≤ l.length → BdR j (minTo l k) := by
  intro k
  induction k with
  | zero => intro _; exact bd_get hb h0
  | succ k ih =>
    intro hk
    unfold minTo
    split
    · exact bd_get hb (by omega)
    · exact ih (by omega)
theorem bd_maxTo {l : List Rat} {j : Nat} (hb : ∀ x ∈ l, BdR j x) (h0 : 0 < l.length) : ∀ k, k ≤ l.length → BdR j (maxTo l k) := by
  intro k
  induction k with
  | zero => intro _; exact bd_get hb h0
  | succ k ih =>
    intro hk
    unfold maxTo
    split
    · exact bd_get hb (by omega)
    · exact ih (by omega)
theorem minTo_le (l : List Rat) : ∀ k i, i < k → minTo l k ≤ l.getD i 0 := by
  intro k
  induction k with
  | zero => intro i h; omega
  | succ k ih =>
    intro i hi
    unfold minTo
    by_cases h : cmpT (l.getD k 0) (minTo l k) < 0
    · rw [if_pos h]
      have h1 : l.getD k 0 < minTo l k := by
        rcases tri (l.getD k 0) (minTo l k) with h2 | h2 | h2
        · exact h2
        · rw [cmpT_eq h2] at h; omega
        · rw [cmpT_gt h2] at h; omega
      by_cases hik : i = k
      · rw [hik]; exact Rat.le_refl
      · have := ih i (by omega); grind
    · rw [if_neg h]
      by_cases hik : i = k
      · rw [hik]
        rcases tri (l.getD k 0) (minTo l k) with h2 | h2 | h2
        · rw [cmpT_lt h2] at h; omega
        · rw [h2]; exact Rat.le_refl
        · grind
      · exact ih i (by omega)
theorem le_maxTo (l : List Rat) : ∀ k i, i < k → l.getD i 0 ≤ maxTo l k := by
  intro k
  induction k with
  | zero => intro i h; omega
  | succ k ih =>
    intro i hi
    unfold maxTo
    by_cases h : cmpT (l.getD k 0) (maxTo l k) > 0
    · rw [if_pos h]
      have h1 : maxTo l k < l.getD k 0 := by
        rcases tri (l.getD k 0) (maxTo l k) with h2 | h2 | h2
        · rw [cmpT_lt h2] at h; omega
        · rw [cmpT_eq h2] at h; omega
        · exact h2
      by_cases hik : i = k
      · rw [hik]; exact Rat.le_refl
      · have := ih i (by omega); grind
    · rw [if_neg h]
      by_cases hik : i = k
      · rw [hik]
        rcases tri (l.getD k 0) (maxTo l k) with h2 | h2 | h2
        · grind
        · rw [h2]; exact Rat.le_refl
        · rw [cmpT_gt h2] at h; omega
      · exact ih i (by omega)
theorem minTo_mem (l : List Rat) : ∀ k, ∃ i, i ≤ k ∧ (0 < k → i < k) ∧ minTo l k = l.getD i 0 := by
  intro k
  induction k with
  | zero => exact ⟨0, by omega, by omega, rfl⟩
  | succ k ih =>
    unfold minTo
    split
    · exact ⟨k, by omega, by omega, rfl⟩
    · obtain ⟨i, h1, h2, h3⟩ := ih
      exact ⟨i, by omega, by omega, h3⟩
theorem maxTo_mem (l : List Rat) : ∀ k, ∃ i, i ≤ k ∧ (0 < k → i < k) ∧ maxTo l k = l.getD i 0 := by
  intro k
  induction k with
  | zero => exact ⟨0, by omega, by omega, rfl⟩
  | succ k ih =>
    unfold maxTo
    split
    · exact ⟨k, by omega, by omega, rfl⟩
    · obtain ⟨i, h1, h2, h3⟩ := ih
      exact ⟨i, by omega, by omega, h3⟩
def min4 (a b c d : Rat) : Rat := minTo [a, b, c, d] 4
def max4 (a b c d : Rat) : Rat := maxTo [a, b, c, d] 4
def min2 (a b : Rat) : Rat := minTo [a, b] 2
def max2 (a b : Rat) : Rat := maxTo [a, b] 2
theorem c_cmp {x y : Rat} {j k : Nat} (hx : BdR j x) (hy : BdR k y) (h : j + k ≤ 100000000) : ∀ w v1 v2, pRat x w v1 → pRat y w v2 → Calls Try.prog 7 #[v1, v2] w (Ret (pI (cmpT x y)) w) :=
  fun w v1 v2 h1 h2 => (cmp_rat w v1 v2 x y h1 h2 hx hy h).mono fun _ _ h => by rw [cmpF_eq] at h; exact ret_is h
theorem pRat_eq {x y : Rat} (h : x = y) : ∀ w v, pRat x w v → pRat y w v := fun _ _ k => h ▸ k
theorem bd4 {a b c d : Rat} {j : Nat} (ha : BdR j a) (hb : BdR j b) (hc : BdR j c) (hd : BdR j d) : ∀ x ∈ [a, b, c, d], BdR j x := by
  intro x hx
  simp only [List.mem_cons, List.not_mem_nil, or_false] at hx
  rcases hx with h | h | h | h <;> rw [h] <;> assumption
theorem bd2 {a b : Rat} {j : Nat} (ha : BdR j a) (hb : BdR j b) : ∀ x ∈ [a, b], BdR j x := by
  intro x hx
  simp only [List.mem_cons, List.not_mem_nil, or_false] at hx
  rcases hx with h | h <;> rw [h] <;> assumption
theorem bd_min4 {a b c d : Rat} {j : Nat} (ha : BdR j a) (hb : BdR j b) (hc : BdR j c) (hd : BdR j d) : BdR j (min4 a b c d) := bd_minTo (bd4 ha hb hc hd) (by simp) 4 (by simp)
theorem bd_max4 {a b c d : Rat} {j : Nat} (ha : BdR j a) (hb : BdR j b) (hc : BdR j c) (hd : BdR j d) : BdR j (max4 a b c d) := bd_maxTo (bd4 ha hb hc hd) (by simp) 4 (by simp)
theorem bd_min2 {a b : Rat} {j : Nat} (ha : BdR j a) (hb : BdR j b) : BdR j (min2 a b) := bd_minTo (bd2 ha hb) (by simp) 2 (by simp)
theorem bd_max2 {a b : Rat} {j : Nat} (ha : BdR j a) (hb : BdR j b) : BdR j (max2 a b) := bd_maxTo (bd2 ha hb) (by simp) 2 (by simp)
theorem bd_downR {j : Nat} {x : Rat} (h : BdR j x) (k : Int) : BdR (j + 300) (downR x k) := by
  have h2 := (bitsOf_spec k).2
  unfold downR downQ
  refine redR_bd (Nat.two_pow_pos _) ?_ ((Bd.pow2 (K := bitsOf k) (k := 257) (by omega)).mono (by omega))
  have a1 : Bd (j + 257) (x.num.natAbs * 2 ^ bitsOf k) := h.1.mul (Bd.pow2 (by omega))
  have a2 := a1.le (Nat.div_le_self _ x.den)
  exact ((a2.add (show Bd 1 1 by unfold Bd; omega)).mono (by omega)).le (by split <;> omega)
theorem bd_upR {j : Nat} {x : Rat} (h : BdR j x) (k : Int) : BdR (j + 300) (-(downR (-x) k)) := (bd_downR h.neg k).neg
theorem c_down {x : Rat} {j : Nat} (hx : BdR j x) (hj : j ≤ 10000000) (k : Int) : ∀ w v1 v2, pRat x w v1 → pI k w v2 → Calls Try.prog 66 #[v1, v2] w (Ret (pRat (downR x k)) w) := fun w v1 v2 h1 h2 => by
  have h2 : v2 = .int .i64 k := h2
  rw [h2]
  exact down_num w v1 x k h1 hx hj
theorem c_up {x : Rat} {j : Nat} (hx : BdR j x) (hj : j ≤ 10000000) (k : Int) : ∀ w v1 v2, pRat x w v1 → pI k w v2 → Calls Try.prog 67 #[v1, v2] w (Ret (pRat (-(downR (-x) k))) w) := fun w v1 v2 h1 h2 => by
  have h2 : v2 = .int .i64 k := h2
  rw [h2]
  exact up_num w v1 x k h1 hx hj
theorem dec_le (x y : Rat) : decide (cmpT x y ≤ 0) = decide (x ≤ y) := decide_eq_decide.2 cmpT_le
theorem dec_lt (x y : Rat) : decide (cmpT x y < 0) = decide (x < y) := by
  rw [decide_eq_decide]
  rcases tri x y with h | h | h
  · rw [cmpT_lt h]; simp [h]
  · rw [cmpT_eq h]; constructor
    · intro h'; omega
    · intro h'; grind
  · rw [cmpT_gt h]; constructor
    · intro h'; omega
    · intro h'; grind
theorem dec_gt (x y : Rat) : decide (cmpT x y > 0) = decide (y < x) := by
  rw [decide_eq_decide]
  rcases tri x y with h | h | h
  · rw [cmpT_lt h]; constructor
    · intro h'; omega
    · intro h'; grind
  · rw [cmpT_eq h]; constructor
    · intro h'; omega
    · intro h'; grind
  · rw [cmpT_gt h]; simp [h]
theorem newR_eq {n d : Int} (hd : d ≠ 0) : newR n d = (n : Rat) / (d : Rat) := by
  unfold newR redR
  rw [Rat.mkRat_eq_div]
  have key : ∀ z : Int, ((z.natAbs : Nat) : Rat) = if z < 0 then -(z : Rat) else (z : Rat) := by
    intro z
    split
    · rename_i h
      have : ((z.natAbs : Nat) : Int) = -z := by omega
      have e : (((z.natAbs : Nat) : Int) : Rat) = ((-z : Int) : Rat) := by rw [this]
      rw [Rat.intCast_neg] at e
      exact e
    · rename_i h
      have : ((z.natAbs : Nat) : Int) = z := by omega
      have e : (((z.natAbs : Nat) : Int) : Rat) = ((z : Int) : Rat) := by rw [this]
      exact e
  have hd' : (d : Rat) ≠ 0 := by exact_mod_cast hd
  have e0 : (((n.natAbs : Nat) : Int) : Rat) = ((n.natAbs : Nat) : Rat) := rfl
  unfold sg
  by_cases hn : n < 0 <;> by_cases hdn : d < 0 <;> simp only [hn, hdn, decide_true, decide_false, beq_self_eq_true, Bool.not_true, Bool.not_false, if_true, if_false, Bool.false_eq_true, Rat.intCast_neg, e0, key, Bool.true_beq, Bool.false_beq] <;> rw [Rat.div_def, Rat.div_def] <;> grind
/-- The number n divides 250. -/
def withinR (lo hi : Rat) (n : Int) : Rat := lo + (hi - lo) * newR (n.tmod 251) 250
end Wx
