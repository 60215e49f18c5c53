import Derived.Test.YtpiniclogfefjaaProg
import Derived.Test.YtpiniclogfefjaaJResidual0
import Derived.Test.YtpiniclogfefjaaCResidualMem
import Derived.Test.YtpiniclogfefjaaCResidualRat1
import Derived.Test.YtpiniclogfefjaaJResidual14
import Derived.Test.YtpiniclogfefjaaJResidual19
import Derived.Test.YtpiniclogfefjaaJResidual16
import Derived.Test.YtpiniclogfefjaaCResidualCmp
import Derived.Handy
import Derived.Test.YtpiniclogfefjaaCResidualInv
import Derived.Test.YtpiniclogfefjaaCResidualSem
import Derived.Test.YtpiniclogfefjaaCResidualSemOps
import Derived.Test.YtpiniclogfefjaaCResidualSemMem
import Derived.Test.YtpiniclogfefjaaJResidual6
import Derived.Test.YtpiniclogfefjaaCResidualSemRow
import Derived.Test.YtpiniclogfefjaaJResidual26
import Derived.Test.YtpiniclogfefjaaCResidualSemAppend
import Derived.Test.YtpiniclogfefjaaJResidual24
import Derived.Test.YtpiniclogfefjaaCResidualSemObj
import Derived.Test.YtpiniclogfefjaaJResidual29
import Derived.Test.YtpiniclogfefjaaJResidual30
import Derived.Test.YtpiniclogfefjaaCResidualSemCopy
import Derived.Test.YtpiniclogfefjaaCResidualSemApp
import Derived.Test.YtpiniclogfefjaaJResidual34
import Derived.Test.YtpiniclogfefjaaJResidual35
import Derived.Test.YtpiniclogfefjaaJResidual38
import Derived.Test.YtpiniclogfefjaaCResidualDetList
import Derived.Test.YtpiniclogfefjaaJResidual40
import Derived.Test.YtpiniclogfefjaaJResidual37
import Derived.Test.YtpiniclogfefjaaJResidual33
import Derived.KernelRfl
namespace Wx
open Go Go.RowKit Go.Proofs

def cmpT (x y : Rat) : Int := if x < y then -1 else if x = y then 0 else 1
theorem num_lt_zero (q : Rat) : q.num < 0 ↔ q < 0 := by
  rw [Rat.lt_iff]
  simp
theorem sgnI_eq (q : Rat) : sgnI q = cmpT q 0 := by
  unfold sgnI cmpT
  by_cases h : q < 0
  · rw [if_pos ((num_lt_zero q).2 h), if_pos h]
  · rw [if_neg (fun h' => h ((num_lt_zero q).1 h')), if_neg h]
theorem cmpT_lt {x y : Rat} (h : x < y) : cmpT x y = -1 := if_pos h
theorem cmpT_eq {x y : Rat} (h : x = y) : cmpT x y = 0 := by unfold cmpT; rw [if_neg (by grind), if_pos h]
theorem cmpT_gt {x y : Rat} (h : y < x) : cmpT x y = 1 := by unfold cmpT; rw [if_neg (by grind), if_neg (by grind)]
theorem tri (x y : Rat) : x < y ∨ x = y ∨ y < x := by grind
theorem cross_eq {x y : Rat} (h : x.num * y.den = y.num * x.den) : x = y := by
  rcases tri x y with h1 | h1 | h1
  · rw [Rat.lt_iff] at h1; omega
  · exact h1
  · rw [Rat.lt_iff] at h1; omega
theorem cmpI_val (m n : Nat) : (m < n ∧ cmpI m n = -1) ∨ (m = n ∧ cmpI m n = 0) ∨ (n < m ∧ cmpI m n = 1) := by
  unfold cmpI
  rcases Nat.lt_trichotomy m n with h | h | h
  · left; exact ⟨h, if_pos h⟩
  · right; left; exact ⟨h, by rw [if_neg (by omega), if_neg (by omega)]⟩
  · right; right; exact ⟨h, by rw [if_neg (by omega), if_pos h]⟩
theorem cmpF_eq (x y : Rat) : cmpF x y = cmpT x y := by
  have hdx : (0 : Int) < x.den := by have := x.den_pos; omega
  have hdy : (0 : Int) < y.den := by have := y.den_pos; omega
  have ax : ((x.num.natAbs * y.den : Nat) : Int) = (x.num.natAbs : Int) * y.den := by simp
  have ay : ((y.num.natAbs * x.den : Nat) : Int) = (y.num.natAbs : Int) * x.den := by simp
  unfold cmpF
  rw [sgnI_eq, sgnI_eq]
  rcases tri x 0 with hx | hx | hx
  · have nx : x.num < 0 := (num_lt_zero x).2 hx
    have bx' : (x.num.natAbs : Int) = -x.num := by omega
    rw [cmpT_lt hx]
    rcases tri y 0 with hy | hy | hy
    · have ny : y.num < 0 := (num_lt_zero y).2 hy
      have by' : (y.num.natAbs : Int) = -y.num := by omega
      rw [cmpT_lt hy, if_pos rfl]
      rw [bx', Int.neg_mul] at ax
      rw [by', Int.neg_mul] at ay
      rcases cmpI_val (x.num.natAbs * y.den) (y.num.natAbs * x.den) with ⟨h, e⟩ | ⟨h, e⟩ | ⟨h, e⟩
      · rw [e, cmpT_gt (by rw [Rat.lt_iff]; omega)]; rfl
      · rw [e, cmpT_eq (cross_eq (by omega))]; rfl
      · rw [e, cmpT_lt (by rw [Rat.lt_iff]; omega)]; rfl
    · rw [cmpT_eq hy, if_neg (by omega), if_pos (by omega), cmpT_lt (by grind)]
    · rw [cmpT_gt hy, if_neg (by omega), if_pos (by omega), cmpT_lt (by grind)]
  · rw [cmpT_eq hx]
    rcases tri y 0 with hy | hy | hy
    · rw [cmpT_lt hy, if_neg (by omega), if_neg (by omega), cmpT_gt (by grind)]
    · rw [cmpT_eq hy, if_pos rfl, cmpT_eq (by grind), Int.mul_zero]
    · rw [cmpT_gt hy, if_neg (by omega), if_pos (by omega), cmpT_lt (by grind)]
  · have nx : 0 < x.num := by
      have h1 := mt (num_lt_zero x).1 (by grind)
      have h2 : x.num ≠ 0 := fun h => by have := Rat.num_eq_zero.1 h; grind
      omega
    have bx' : (x.num.natAbs : Int) = x.num := by omega
    rw [cmpT_gt hx]
    rcases tri y 0 with hy | hy | hy
    · rw [cmpT_lt hy, if_neg (by omega), if_neg (by omega), cmpT_gt (by grind)]
    · rw [cmpT_eq hy, if_neg (by omega), if_neg (by omega), cmpT_gt (by grind)]
    · have ny : 0 < y.num := by
        have h1 := mt (num_lt_zero y).1 (by grind)
        have h2 : y.num ≠ 0 := fun h => by have := Rat.num_eq_zero.1 h; grind
        omega
      have by' : (y.num.natAbs : Int) = y.num := by omega
      rw [cmpT_gt hy, if_pos rfl, Int.mul_one]
      rw [bx'] at ax
      rw [by'] at ay
      rcases cmpI_val (x.num.natAbs * y.den) (y.num.natAbs * x.den) with ⟨h, e⟩ | ⟨h, e⟩ | ⟨h, e⟩
      · rw [e, cmpT_lt (by rw [Rat.lt_iff]; omega)]
      · rw [e, cmpT_eq (cross_eq (by omega))]
      · rw [e, cmpT_gt (by rw [Rat.lt_iff]; omega)]
end Wx

namespace Wx

def subN (b0 : Rat) (x y : List Rat) : Nat → Rat
  | 0 => b0
  | k + 1 => subN b0 x y k - x.getD k 0 * y.getD k 0
def resid (M : List (List Rat)) (b x : List Rat) (c i : Nat) : Rat := subN (b.getD i 0) (M.getD i []) x c
def gN (M : List (List Rat)) (b x : List Rat) (c k : Nat) : Nat → Rat
  | 0 => 0
  | i + 1 => gN M b x c k i + (M.getD i []).getD k 0 * resid M b x c i
def sqN (M : List (List Rat)) (b x : List Rat) (c : Nat) : Nat → Rat
  | 0 => 0
  | i + 1 => sqN M b x c i + resid M b x c i * resid M b x c i
theorem subN_eq (b0 : Rat) (x y : List Rat) : ∀ k, subN b0 x y k = b0 - sumN k fun q => x.getD q 0 * y.getD q 0
  | 0 => by show b0 = b0 - 0; grind
  | k + 1 => by
    show subN b0 x y k - _ = b0 - (sumN k _ + _)
    rw [subN_eq b0 x y k]
    grind
theorem gN_eq (M : List (List Rat)) (b x : List Rat) (c k : Nat) : ∀ n, gN M b x c k n = sumN n fun i => ent M i k * resid M b x c i
  | 0 => rfl
  | n + 1 => by
    show gN M b x c k n + _ = sumN n _ + _
    rw [gN_eq M b x c k n]
    rfl
theorem sqN_eq (M : List (List Rat)) (b x : List Rat) (c : Nat) : ∀ n, sqN M b x c n = sumN n fun i => resid M b x c i * resid M b x c i
  | 0 => rfl
  | n + 1 => by
    show sqN M b x c n + _ = sumN n _ + _
    rw [sqN_eq M b x c n]
theorem sq_nn (x : Rat) : 0 ≤ x * x := by
  rcases Rat.le_total (a := 0) (b := x) with h | h
  · exact Rat.mul_nonneg h h
  · have h' : 0 ≤ -x := by grind
    have := Rat.mul_nonneg h' h'
    grind
theorem sumN_nn {n : Nat} {f : Nat → Rat} (h : ∀ i, i < n → 0 ≤ f i) : 0 ≤ sumN n f := by
  induction n with
  | zero => exact Rat.le_refl
  | succ n ih =>
    have h1 := ih fun i hi => h i (by omega)
    have h2 := h n (by omega)
    show 0 ≤ sumN n f + f n
    grind
theorem sumN_null {n : Nat} {f : Nat → Rat} (h : ∀ i, i < n → 0 ≤ f i) (h0 : sumN n f = 0) : ∀ i, i < n → f i = 0 := by
  induction n with
  | zero => intro i hi; omega
  | succ n ih =>
    have h1 := sumN_nn fun i (hi : i < n) => h i (by omega)
    have h2 := h n (by omega)
    have h0 : sumN n f + f n = 0 := h0
    intro i hi
    rcases Nat.lt_or_ge i n with h' | h'
    · exact ih (fun i hi => h i (by omega)) (by grind) i h'
    · rw [show i = n by omega]
      grind
theorem sq_null {x : Rat} (h : x * x = 0) : x = 0 := (Rat.mul_eq_zero.1 h).elim id id
theorem sumN_sub (n : Nat) (f g : Nat → Rat) : sumN n (fun i => f i - g i) = sumN n f - sumN n g := by
  induction n with
  | zero => show (0 : Rat) = 0 - 0; grind
  | succ n ih =>
    show sumN n _ + _ = sumN n f + f n - (sumN n g + g n)
    rw [ih]
    grind
section
variable {M : List (List Rat)} {b x o : List Rat} {n c : Nat}
theorem ls_len (hM : M.length = n) (h0 : 0 < n) (hr : Rect c M) : (lsM M).length = c ∧ Rect c (lsM M) ∧ (lsB M b).length = c := by
  have ht : (turnM M).length = c := by rw [turnM_len, hr 0 (by omega)]
  refine ⟨by unfold lsM; rw [mulT_len, ht], ?_, by unfold lsB; rw [colAt_len, mulT_len, ht]⟩
  have h := mulT_rect (A := turnM M) (C := turnM M)
  rw [ht] at h
  exact h
theorem ls_ent (hM : M.length = n) (h0 : 0 < n) (hr : Rect c M) {k j : Nat} (hk : k < c) (hj : j < c) : ent (lsM M) k j = sumN n fun q => ent M q k * ent M q j := by
  have ht : (turnM M).length = c := by rw [turnM_len, hr 0 (by omega)]
  have hc : (M.getD 0 []).length = c := hr 0 (by omega)
  show ((mulT (turnM M) (turnM M)).getD k []).getD j 0 = _
  rw [mulT_get (by omega), mulRow_get (by omega), turnM_get (by omega), turnM_get (by omega), colAt_len, hM, dot_sum]
  exact sumN_congr fun q hq => by rw [colAt_get (by omega), colAt_get (by omega)]; rfl
theorem ls_b (hM : M.length = n) (hb : b.length = n) (h0 : 0 < n) (hr : Rect c M) {k : Nat} (hk : k < c) : (lsB M b).getD k 0 = sumN n fun q => ent M q k * b.getD q 0 := by
  have ht : (turnM M).length = c := by rw [turnM_len, hr 0 (by omega)]
  have hc : (M.getD 0 []).length = c := hr 0 (by omega)
  have h1 : ((colM b).getD 0 []).length = 1 := colM_rect (by omega)
  unfold lsB
  rw [colAt_get (by rw [mulT_len]; omega), mulT_get (by omega), mulRow_get (by rw [turnM_len]; omega), turnM_get (by omega), turnM_get (by omega), colAt_len, hM, dot_sum]
  exact sumN_congr fun q hq => by
    rw [colAt_get (by omega), colAt_get (by rw [colM_len]; omega), colM_get (by omega)]
    rfl
theorem resid_eq (i : Nat) : resid M b x c i = b.getD i 0 - sumN c fun j => ent M i j * x.getD j 0 := subN_eq _ _ _ _
theorem ls_orth (hM : M.length = n) (hb : b.length = n) (h0 : 0 < n) (hr : Rect c M) (hd : detG (lsM M) ≠ 0) (hx : x = sol1 (lsM M) (lsB M b)) {k : Nat} (hk : k < c) : gN M b x c k n = 0 := by
  obtain ⟨l1, l2, l3⟩ := ls_len (b := b) hM h0 hr
  have key := sol_ok l1 l2 l3 hd hk
  rw [← hx, dot_sum, ls_b hM hb h0 hr hk] at key
  rw [gN_eq]
  have e1 : ∀ i, i < n → ent M i k * resid M b x c i = ent M i k * b.getD i 0 - sumN c fun j => ent M i k * (ent M i j * x.getD j 0) := fun i _ => by
    rw [resid_eq, sumN_mul]
    grind
  rw [sumN_congr e1, sumN_sub, sumN_swap, ← key]
  have e2 : ∀ j, j < c → ((lsM M).getD k []).getD j 0 * x.getD j 0 = sumN n fun i => ent M i k * (ent M i j * x.getD j 0) := fun j hj => by
    show ent (lsM M) k j * _ = _
    rw [ls_ent hM h0 hr hk hj]
    have : ∀ i, i < n → ent M i k * (ent M i j * x.getD j 0) = x.getD j 0 * (ent M i k * ent M i j) := fun i _ => by grind
    rw [sumN_congr this, sumN_mul]
    grind
  rw [sumN_congr e2]
  grind
theorem ls_least (h : ∀ k, k < c → gN M b x c k n = 0) : sqN M b x c n ≤ sqN M b o c n := by
  rw [sqN_eq, sqN_eq]
  let t : Nat → Rat := fun i => sumN c fun j => ent M i j * (x.getD j 0 - o.getD j 0)
  have hv : ∀ i, resid M b o c i = resid M b x c i + t i := fun i => by
    have : t i = (sumN c fun j => ent M i j * x.getD j 0) - sumN c fun j => ent M i j * o.getD j 0 := by
      rw [← sumN_sub]
      exact sumN_congr fun j _ => by grind
    rw [resid_eq, resid_eq, this]
    grind
  have e1 : ∀ i, i < n → resid M b o c i * resid M b o c i = (resid M b x c i * resid M b x c i + (2 * (resid M b x c i * t i))) + t i * t i := fun i _ => by
    rw [hv]
    grind
  rw [sumN_congr e1, sumN_add, sumN_add, sumN_mul]
  have e2 : sumN n (fun i => resid M b x c i * t i) = 0 := by
    have : ∀ i, i < n → resid M b x c i * t i = sumN c fun j => (x.getD j 0 - o.getD j 0) * (ent M i j * resid M b x c i) := fun i _ => by
      show resid M b x c i * sumN c _ = _
      rw [← sumN_mul]
      exact sumN_congr fun j _ => by grind
    rw [sumN_congr this, sumN_swap]
    refine sumN_zero fun j hj => ?_
    rw [sumN_mul]
    have := h j hj
    rw [gN_eq] at this
    rw [this]
    grind
  have e3 : 0 ≤ sumN n fun i => t i * t i := sumN_nn fun i _ => sq_nn _
  rw [e2]
  grind
theorem det_one (m : Mat) : det 1 m = m 0 0 := by
  show sumN 1 _ = _
  simp [sumN, sgn, det]
  grind
theorem det_two (m : Mat) : det 2 m = m 0 0 * m 1 1 - m 1 0 * m 0 1 := by
  show sumN 2 _ = _
  simp [sumN, sgn, det, minor, skp]
  grind
theorem ls_dep1 (hM : M.length = n) (h0 : 0 < n) (hr : Rect 1 M) (hd : detG (lsM M) = 0) : ∀ i, i < n → ent M i 0 = 0 := by
  obtain ⟨l1, l2, _⟩ := ls_len (b := []) hM h0 hr
  rw [(detG_det l1 l2).1, det_one, ls_ent hM h0 hr (by omega) (by omega)] at hd
  exact fun i hi => sq_null (sumN_null (fun i _ => sq_nn _) hd i hi)
theorem ls_dep2 (hM : M.length = n) (h0 : 0 < n) (hr : Rect 2 M) (hd : detG (lsM M) = 0) : ∀ i k, i < n → k < n → ent M i 0 * ent M k 1 - ent M i 1 * ent M k 0 = 0 := by
  obtain ⟨l1, l2, _⟩ := ls_len (b := []) hM h0 hr
  rw [(detG_det l1 l2).1, det_two, ls_ent hM h0 hr (by omega) (by omega), ls_ent hM h0 hr (by omega) (by omega), ls_ent hM h0 hr (by omega) (by omega), ls_ent hM h0 hr (by omega) (by omega)] at hd
  have key : sumN n (fun i => sumN n fun k => (ent M i 0 * ent M k 1 - ent M i 1 * ent M k 0) * (ent M i 0 * ent M k 1 - ent M i 1 * ent M k 0)) = 0 := by
    have e : ∀ i, i < n → (sumN n fun k => (ent M i 0 * ent M k 1 - ent M i 1 * ent M k 0) * (ent M i 0 * ent M k 1 - ent M i 1 * ent M k 0)) = (sumN n fun k => ent M k 1 * ent M k 1) * (ent M i 0 * ent M i 0) + (sumN n fun k => ent M k 0 * ent M k 0) * (ent M i 1 * ent M i 1) + (-2 * sumN n fun k => ent M k 0 * ent M k 1) * (ent M i 0 * ent M i 1) := fun i _ => by
      have e1 : ∀ k, k < n → (ent M i 0 * ent M k 1 - ent M i 1 * ent M k 0) * (ent M i 0 * ent M k 1 - ent M i 1 * ent M k 0) = (ent M i 0 * ent M i 0) * (ent M k 1 * ent M k 1) + (ent M i 1 * ent M i 1) * (ent M k 0 * ent M k 0) + (-2 * (ent M i 0 * ent M i 1)) * (ent M k 0 * ent M k 1) := fun k _ => by grind
      rw [sumN_congr e1, sumN_add, sumN_add, sumN_mul, sumN_mul, sumN_mul]
      grind
    rw [sumN_congr e, sumN_add, sumN_add, sumN_mul, sumN_mul, sumN_mul]
    have s1 : (sumN n fun k => ent M k 1 * ent M k 0) = sumN n fun k => ent M k 0 * ent M k 1 := sumN_congr fun k _ => by grind
    rw [s1] at hd
    grind
  intro i k hi hk
  have h1 := sumN_null (fun i _ => sumN_nn fun k _ => sq_nn _) key i hi
  exact sq_null (sumN_null (fun k _ => sq_nn _) h1 k hk)
end
end Wx

namespace Wx
open Go Go.RowKit Go.Proofs

theorem c_cmp {x y : Rat} {j k : Nat} (hx : BdR j x) (hy : BdR k y) (h : j + k ≤ 100000000) : ∀ w v1 v2, pRat x w v1 → pRat y w v2 → Calls Try.prog 14 #[v1, v2] w (Ret (pI (cmpT x y)) w) :=
  fun w v1 v2 h1 h2 => (cmp_rat w v1 v2 x y h1 h2 hx hy h).mono fun _ _ h => by rw [cmpF_eq] at h; exact ret_is h
end Wx

namespace Wx

theorem bd_sum1 {j k : Nat} {a b c d : Nat} (ha : Bd j a) (hb : Bd k b) (hc : Bd k c) (hd : Bd j d) : Bd (j + k + 1) (a * b + c * d) := by
  have h1 := ha.mul hb
  have h2 := hc.mul hd
  unfold Bd at *
  rw [Nat.add_comm k j] at h2
  rw [Nat.pow_succ]
  omega
theorem BdR.add_t {j k : Nat} {x y : Rat} (h : BdR j x) (g : BdR k y) : BdR (j + k + 1) (x + y) := by
  have d := h.2.mul g.2
  have hd := Nat.mul_pos x.den_pos y.den_pos
  have ab : Bd (j + k + 1) (x.num.natAbs * y.den + y.num.natAbs * x.den) := bd_sum1 h.1 g.2 g.1 h.2
  have d' : Bd (j + k + 1) (x.den * y.den) := d.mono (by omega)
  by_cases hs : decide (x.num < 0) = decide (y.num < 0)
  · rw [add_same x y hs]; exact redR_bd hd ab d'
  · by_cases hge : y.num.natAbs * x.den ≤ x.num.natAbs * y.den
    · rw [add_ge x y hs hge]; exact redR_bd hd (ab.le (by omega)) d'
    · rw [add_lt x y hs (by omega)]; exact redR_bd hd (ab.le (by omega)) d'
theorem BdR.sub_t {j k : Nat} {x y : Rat} (h : BdR j x) (g : BdR k y) : BdR (j + k + 1) (x - y) := by rw [Rat.sub_eq_add_neg]; exact h.add_t g.neg
theorem bd_sub_t {b0 : Rat} {x y : List Rat} {j0 j1 j2 : Nat} (h0 : BdR j0 b0) (hx : ∀ k, BdR j1 (x.getD k 0)) (hy : ∀ k, BdR j2 (y.getD k 0)) : ∀ k, BdR (j0 + k * (j1 + j2 + 1)) (subN b0 x y k)
  | 0 => h0.mono (by omega)
  | k + 1 => ((bd_sub_t h0 hx hy k).sub_t ((hx k).mul (hy k))).mono (by rw [Nat.succ_mul]; omega)
theorem bd_gN_t {M : List (List Rat)} {b x : List Rat} {c k j1 j2 : Nat} (hM : ∀ i, BdR j1 ((M.getD i []).getD k 0)) (hu : ∀ i, BdR j2 (resid M b x c i)) : ∀ n, BdR (1 + n * (j1 + j2 + 1)) (gN M b x c k n)
  | 0 => by rw [Nat.zero_mul]; exact bd_zero
  | n + 1 => ((bd_gN_t hM hu n).add_t ((hM n).mul (hu n))).mono (by rw [Nat.succ_mul]; omega)
theorem bd_sqN_t {M : List (List Rat)} {b x : List Rat} {c j : Nat} (hu : ∀ i, BdR j (resid M b x c i)) : ∀ n, BdR (1 + n * (j + j + 1)) (sqN M b x c n)
  | 0 => by rw [Nat.zero_mul]; exact bd_zero
  | n + 1 => ((bd_sqN_t hu n).add_t ((hu n).mul (hu n))).mono (by rw [Nat.succ_mul]; omega)
theorem bd_i8 {z : Int} (h : -128 ≤ z ∧ z ≤ 127) : BdR 8 (z : Rat) := ⟨by unfold Bd; rw [Rat.num_intCast]; omega, by unfold Bd; rw [Rat.den_intCast]; omega⟩

def resM (n c : Nat) (a0 a1 : Nat → Int) : List (List Rat) := (List.range n).map fun i => ([(a0 i : Rat), (a1 i : Rat)] : List Rat).take c
def resR (n : Nat) (b : Nat → Int) : List Rat := (List.range n).map fun i => (b i : Rat)
structure ReOk (n c : Nat) (a0 a1 b : Nat → Int) (o0 o1 : Int) (M : List (List Rat)) (R : List Rat) : Prop where
  hn : 2 ≤ n ∧ n ≤ 6
  hc : 1 ≤ c ∧ c ≤ 2
  h8 : ∀ i, (-128 ≤ a0 i ∧ a0 i ≤ 127) ∧ (-128 ≤ a1 i ∧ a1 i ≤ 127) ∧ (-128 ≤ b i ∧ b i ≤ 127)
  ho : (-128 ≤ o0 ∧ o0 ≤ 127) ∧ (-128 ≤ o1 ∧ o1 ≤ 127)
  eM : M = resM n c a0 a1
  eR : R = resR n b
section
variable {n c : Nat} {a0 a1 b : Nat → Int} {o0 o1 : Int} {M : List (List Rat)} {R : List Rat} (h : ReOk n c a0 a1 b o0 o1 M R)
include h
theorem ReOk.hM : M.length = n := by rw [h.eM]; simp [resM]
theorem ReOk.hR : R.length = n := by rw [h.eR]; simp [resR]
theorem ReOk.row {i : Nat} (hi : i < n) : M.getD i [] = ([(a0 i : Rat), (a1 i : Rat)] : List Rat).take c := by
  rw [h.eM, resM, List.getD_eq_getElem?_getD, List.getElem?_map, List.getElem?_range hi]; rfl
theorem ReOk.item {i : Nat} (hi : i < n) : R.getD i 0 = (b i : Rat) := by
  rw [h.eR, resR, List.getD_eq_getElem?_getD, List.getElem?_map, List.getElem?_range hi]; rfl
theorem ReOk.rowLen {i : Nat} (hi : i < n) : (M.getD i []).length = c := by
  rw [h.row hi, List.length_take]
  have := h.hc
  show min c 2 = c
  omega
theorem ReOk.hMr : Rect c M := fun i hi => h.rowLen (by rw [h.hM] at hi; exact hi)
theorem ReOk.hRb : ∀ k, BdR 8 (R.getD k 0) := fun k => by
  rcases Nat.lt_or_ge k n with hk | hk
  · rw [h.item hk]; exact bd_i8 (h.h8 k).2.2
  · rw [getD_out (by rw [h.hR]; exact hk)]; exact bd_zero.mono (by omega)
theorem ReOk.hMb : BdX 8 M := fun i k => by
  rcases Nat.lt_or_ge i n with hi | hi
  · rcases Nat.lt_or_ge k c with hk | hk
    · rw [h.row hi, List.getD_eq_getElem?_getD, List.getElem?_take_of_lt hk]
      have h2 := h.hc
      rcases (by omega : k = 0 ∨ k = 1) with rfl | rfl
      · exact bd_i8 (h.h8 i).1
      · exact bd_i8 (h.h8 i).2.1
    · rw [getD_out (by rw [h.rowLen hi]; exact hk)]; exact bd_zero.mono (by omega)
  · rw [show M.getD i [] = [] from getD_out (by rw [h.hM]; exact hi)]
    exact bd_zero.mono (by omega)
theorem ReOk.right : Right M := by
  have h1 := h.hn
  have h2 := h.hc
  refine ⟨by rw [h.hM]; omega, by rw [h.rowLen (i := 0) (by omega)]; omega, fun i hi => ?_⟩
  rw [h.hM] at hi
  rw [h.rowLen hi, h.rowLen (i := 0) (by omega)]
theorem ReOk.r0 : (M.getD 0 []).length = c := h.rowLen (by have := h.hn; omega)
theorem ReOk.bo (k : Nat) : BdR 8 (([(o0 : Rat), (o1 : Rat)] : List Rat).getD k 0) := by
  match k with
  | 0 => exact bd_i8 h.ho.1
  | 1 => exact bd_i8 h.ho.2
  | k + 2 => exact bd_zero.mono (by omega)
theorem ReOk.oget {k : Nat} (hk : k < c) : ([(o0 : Rat), (o1 : Rat)] : List Rat).getD k 0 = ((([o0, o1] : List Int).getD k 0 : Int) : Rat) := by
  have := h.hc
  rcases (by omega : k = 0 ∨ k = 1) with rfl | rfl <;> rfl
theorem ReOk.obd (k : Nat) : -128 ≤ ([o0, o1] : List Int).getD k 0 ∧ ([o0, o1] : List Int).getD k 0 ≤ 127 := by
  match k with
  | 0 => exact h.ho.1
  | 1 => exact h.ho.2
  | k + 2 => exact ⟨by show (-128 : Int) ≤ 0; omega, by show (0 : Int) ≤ 127; omega⟩
end
theorem resid_bits : ∀ n, n < 7 → ∀ c, c < 3 → gjJ (dotJ (8 + 8) n) c ≤ 137161 := by decide
structure ReReg (n c : Nat) (a0 a1 b : Nat → Int) (o0 o1 : Int) (M : List (List Rat)) (R S1 O : List Rat) : Prop extends ReOk n c a0 a1 b o0 o1 M R where
  hd : detG (lsM M) ≠ 0
  eS : S1 = sol1 (lsM M) (lsB M R)
  eO : O = [(o0 : Rat), (o1 : Rat)]
theorem ReOk.bits {n c : Nat} {a0 a1 b : Nat → Int} {o0 o1 : Int} {M : List (List Rat)} {R : List Rat} (h : ReOk n c a0 a1 b o0 o1 M R) : gjJ (dotJ (8 + 8) n) c ≤ 137161 := resid_bits n (by have := h.hn; omega) c (by have := h.hc; omega)
theorem ReOk.sing {n c : Nat} {a0 a1 b : Nat → Int} {o0 o1 : Int} {M : List (List Rat)} {R : List Rat} (h : ReOk n c a0 a1 b o0 o1 M R) : Sing (lsM M) (lsB M R) ↔ detG (lsM M) = 0 := by
  obtain ⟨l1, l2, l3⟩ := ls_len (b := R) h.hM (by have := h.hn; omega) h.hMr
  exact sing_det (m := 1) l1 l2 fun i hi => colM_rect (by rw [l3]; exact hi)
section
variable {n c : Nat} {a0 a1 b : Nat → Int} {o0 o1 : Int} {M : List (List Rat)} {R S1 O : List Rat} (h : ReReg n c a0 a1 b o0 o1 M R S1 O)
include h
theorem ReReg.hS : S1.length = c := by rw [h.eS, sol1_len]; exact (ls_len (b := R) h.hM (by have := h.hn; omega) h.hMr).1
theorem ReReg.bX : ∀ k, BdR 137161 (S1.getD k 0) := fun k => by
  obtain ⟨l1, l2, l3⟩ := ls_len (b := R) h.hM (by have := h.hn; omega) h.hMr
  have hT : (turnM M).length = c := by rw [turnM_len, h.r0]
  have hTb := turnM_bd h.hMb (by omega)
  have hTr : ∀ i, i < (turnM M).length → ((turnM M).getD i []).length = n := fun i hi => by have := turnM_rect (A := M) i hi; rw [this, h.hM]
  have hMb : BdX (dotJ (8 + 8) n) (lsM M) := mulT_bd hTb hTb fun i hi => Nat.le_of_eq (hTr i hi)
  have hPb : BdX (dotJ (8 + 8) n) (mulT (turnM M) (turnM (colM R))) := mulT_bd hTb (turnM_bd (colM_bd h.hRb (by omega)) (by omega)) fun i hi => Nat.le_of_eq (hTr i hi)
  have hBb : ∀ k, BdR (dotJ (8 + 8) n) ((lsB M R).getD k 0) := bd_col hPb (dotJ_pos _ _) 0
  have q := bd_col (solX_bd hMb (colM_bd hBb (dotJ_pos _ _)) (dotJ_pos _ _)) (gjJ_pos (dotJ_pos _ _) _) 0 k
  rw [l1] at q
  rw [h.eS]
  exact q.mono h.bits
theorem ReReg.bU {k k2 : Nat} (hk : k2 ≤ c) : BdR 274348 (subN (R.getD k 0) (M.getD k []) S1 k2) := by
  refine (bd_sub_t (h.hRb k) (h.hMb k) h.bX k2).mono ?_
  have := h.hc
  rcases (by omega : k2 = 0 ∨ k2 = 1 ∨ k2 = 2) with rfl | rfl | rfl <;> omega
theorem ReReg.bV {k k2 : Nat} (hk : k2 ≤ c) : BdR 274348 (subN (R.getD k 0) (M.getD k []) O k2) := by
  refine (bd_sub_t (j2 := 8) (h.hRb k) (h.hMb k) (fun k => by rw [h.eO]; exact h.bo k) k2).mono ?_
  have := h.hc
  rcases (by omega : k2 = 0 ∨ k2 = 1 ∨ k2 = 2) with rfl | rfl | rfl <;> omega
theorem ReReg.bG {q i : Nat} (hi : i ≤ n) : BdR 1646143 (gN M R S1 c q i) := by
  refine (bd_gN_t (fun i => h.hMb i q) (fun i => h.bU (k := i) (Nat.le_refl _)) i).mono ?_
  have := h.hn
  have := Nat.mul_le_mul_right (8 + 274348 + 1) (show i ≤ 6 by omega)
  omega
theorem ReReg.bS {i : Nat} (hi : i ≤ n) : BdR 3292183 (sqN M R S1 c i) := by
  refine (bd_sqN_t (fun i => h.bU (k := i) (Nat.le_refl _)) i).mono ?_
  have := h.hn
  have := Nat.mul_le_mul_right (274348 + 274348 + 1) (show i ≤ 6 by omega)
  omega
theorem ReReg.bT {i : Nat} (hi : i ≤ n) : BdR 3292183 (sqN M R O c i) := by
  refine (bd_sqN_t (fun i => h.bV (k := i) (Nat.le_refl _)) i).mono ?_
  have := h.hn
  have := Nat.mul_le_mul_right (274348 + 274348 + 1) (show i ≤ 6 by omega)
  omega
theorem ReReg.orth {k : Nat} (hk : k < c) : gN M R S1 c k n = 0 := ls_orth h.hM h.hR (by have := h.hn; omega) h.hMr h.hd h.eS hk
theorem ReReg.least : decide (cmpT (sqN M R S1 c n) (sqN M R O c n) ≤ 0) = true := by
  refine decide_eq_true ?_
  have := ls_least (o := O) fun k hk => h.orth (k := k) hk
  rcases tri (sqN M R S1 c n) (sqN M R O c n) with h1 | h1 | h1
  · rw [cmpT_lt h1]; omega
  · rw [cmpT_eq h1]; omega
  · exfalso; grind
end
def sumC (M : List (List Rat)) (R S : List Rat) (c k k3 q : Nat) : Rat := if q < k3 then gN M R S c q (k + 1) else gN M R S c q k
theorem sumC_at {M : List (List Rat)} {R S : List Rat} {c k k3 : Nat} : sumC M R S c k k3 k3 = gN M R S c k3 k := if_neg (Nat.lt_irrefl _)
theorem sumC_step {M : List (List Rat)} {R S : List Rat} {c k k3 : Nat} : ∀ i, i < c → ∀ w v, setP (fun q => pRat (sumC M R S c k k3 q)) k3 (pRat (sumC M R S c k k3 k3 + (M.getD k []).getD k3 0 * resid M R S c k)) i w v → pRat (sumC M R S c k (k3 + 1) i) w v := fun i _ w v h => by
  unfold setP at h
  by_cases hi : i = k3
  · subst hi
    rw [if_pos rfl, sumC_at] at h
    rw [show sumC M R S c k (i + 1) i = gN M R S c i (k + 1) from if_pos (Nat.lt_succ_self _)]
    exact h
  · rw [if_neg hi] at h
    have e : sumC M R S c k (k3 + 1) i = sumC M R S c k k3 i := by
      unfold sumC
      by_cases h1 : i < k3
      · rw [if_pos h1, if_pos (by omega)]
      · rw [if_neg h1, if_neg (by omega)]
    rw [e]
    exact h
theorem sumC_end {M : List (List Rat)} {R S : List Rat} {c k : Nat} : ∀ i, i < c → ∀ w v, pRat (sumC M R S c k c i) w v → pRat (gN M R S c i (k + 1)) w v := fun i hi w v h => by
  rw [show sumC M R S c k c i = gN M R S c i (k + 1) from if_pos hi] at h
  exact h
def filP (k : Nat) (f : Nat → Pred) (z : Pred) : Nat → Pred := fun i => if i < k then f i else z
theorem filP_step {k n : Nat} {f : Nat → Pred} {z p : Pred} (hp : ∀ w v, p w v → f k w v) : ∀ i, i < n → ∀ w v, setP (filP k f z) k p i w v → filP (k + 1) f z i w v := fun i _ w v h => by
  unfold setP at h
  unfold filP at h ⊢
  by_cases hi : i = k
  · subst hi
    rw [if_pos rfl] at h
    rw [if_pos (Nat.lt_succ_self _)]
    exact hp w v h
  · rw [if_neg hi] at h
    by_cases h1 : i < k
    · rw [if_pos h1] at h; rw [if_pos (by omega)]; exact h
    · rw [if_neg h1] at h; rw [if_neg (by omega)]; exact h
theorem filP_zero {f : Nat → Pred} {z : Pred} {n : Nat} : ∀ i, i < n → ∀ w v, (fun _ => z) i w v → filP 0 f z i w v := fun _ _ _ _ h => h
theorem filP_end {n : Nat} {f : Nat → Pred} {z : Pred} : ∀ i, i < n → ∀ w v, filP n f z i w v → f i w v := fun i hi w v h => by
  have e : filP n f z i = f i := if_pos hi
  rw [e] at h
  exact h
end Wx

namespace Wx
open Go Go.RowKit Go.Proofs
set_option linter.unusedVariables false

theorem c_awake : ∀ w, Calls Try.prog 6 #[] w (Ret (pB true) w) := fun w => (awake_num w).mono fun _ _ => ret_is
theorem law_true {f : FuncId} {P : Program} {args : Array Value} {W : World} (h : Calls P f args W (RetB (fun _ _ => False) (pB true) W)) : Calls P f args W fun e w' => e = .returned (.bool true) ∧ Below W.heap.size W w' :=
  h.mono fun e w' h => by
    obtain ⟨v, rfl, hv, hb⟩ := h
    have : v = .bool true := hv.out
    exact ⟨by rw [this], hb⟩
end Wx

namespace Wx
open Go Go.RowKit Go.Proofs

theorem ty_int8 : Ty Try.prog 24 false 1 := ⟨fun _ => by kernel_rfl, fun _ => by kernel_rfl, by decide⟩
theorem sl_i8s : SlTy Try.prog 23 24 1 := ⟨by kernel_rfl, fun _ => by kernel_rfl⟩
end Wx

namespace Wx
open Go Go.RowKit Go.Proofs

theorem ty_I2 : Ty Try.prog 25 true 2 := ⟨fun _ => by kernel_rfl, fun _ => by kernel_rfl, by decide⟩
theorem zv_I2 : ∀ w, (zeroValue 25).run Try.prog w = .ok (.agg #[.int .i8 0, .int .i8 0]) w := fun _ => by kernel_rfl
theorem sl_I2s : SlTy Try.prog 22 25 2 := ⟨by kernel_rfl, fun _ => by kernel_rfl⟩
end Wx
