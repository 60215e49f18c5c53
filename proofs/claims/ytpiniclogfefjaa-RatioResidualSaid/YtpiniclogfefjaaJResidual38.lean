import Derived.Handy
import Derived.Test.YtpiniclogfefjaaJResidual0
import Derived.Test.YtpiniclogfefjaaCResidualRat1
import Derived.Test.YtpiniclogfefjaaJResidual14
import Derived.Test.YtpiniclogfefjaaJResidual16
import Derived.Test.YtpiniclogfefjaaCResidualInv
import Derived.Test.YtpiniclogfefjaaCResidualSem
import Derived.Test.YtpiniclogfefjaaCResidualSemOps
import Derived.Test.YtpiniclogfefjaaCResidualSemMem
import Derived.Test.YtpiniclogfefjaaJResidual6
import Derived.Test.YtpiniclogfefjaaCResidualSemRow
import Derived.Test.YtpiniclogfefjaaJResidual26
import Derived.Test.YtpiniclogfefjaaCResidualSemAppend
import Derived.Test.YtpiniclogfefjaaJResidual24
import Derived.Test.YtpiniclogfefjaaCResidualSemObj
import Derived.Test.YtpiniclogfefjaaJResidual29
import Derived.Test.YtpiniclogfefjaaJResidual30
import Derived.Test.YtpiniclogfefjaaCResidualSemCopy
import Derived.Test.YtpiniclogfefjaaCResidualSemApp
import Derived.Test.YtpiniclogfefjaaJResidual34
import Derived.Test.YtpiniclogfefjaaJResidual35
namespace Wx

def sumN : Nat → (Nat → Rat) → Rat
  | 0, _ => 0
  | n + 1, f => sumN n f + f n
theorem sumN_congr {n : Nat} {f g : Nat → Rat} (h : ∀ i, i < n → f i = g i) : sumN n f = sumN n g := by
  induction n with
  | zero => rfl
  | succ n ih =>
    show sumN n f + f n = sumN n g + g n
    rw [ih fun i hi => h i (by omega), h n (by omega)]
theorem sumN_add (n : Nat) (f g : Nat → Rat) : sumN n (fun i => f i + g i) = sumN n f + sumN n g := by
  induction n with
  | zero => show (0 : Rat) = 0 + 0; rw [Rat.add_zero]
  | succ n ih =>
    show sumN n (fun i => f i + g i) + (f n + g n) = (sumN n f + f n) + (sumN n g + g n)
    rw [ih]
    grind
theorem sumN_mul (n : Nat) (a : Rat) (f : Nat → Rat) : sumN n (fun i => a * f i) = a * sumN n f := by
  induction n with
  | zero => show (0 : Rat) = a * 0; rw [Rat.mul_zero]
  | succ n ih =>
    show sumN n (fun i => a * f i) + a * f n = a * (sumN n f + f n)
    rw [ih]
    grind
theorem sumN_zero {n : Nat} {f : Nat → Rat} (h : ∀ i, i < n → f i = 0) : sumN n f = 0 := by
  induction n with
  | zero => rfl
  | succ n ih =>
    show sumN n f + f n = 0
    rw [ih fun i hi => h i (by omega), h n (by omega), Rat.add_zero]
theorem sumN_one {n p : Nat} {f : Nat → Rat} (hp : p < n) (h : ∀ i, i < n → i ≠ p → f i = 0) : sumN n f = f p := by
  induction n with
  | zero => omega
  | succ n ih =>
    show sumN n f + f n = f p
    by_cases e : p = n
    · subst e
      rw [sumN_zero fun i hi => h i (by omega) (by omega), Rat.zero_add]
    · rw [ih (by omega) fun i hi hne => h i (by omega) hne, h n (by omega) (fun h => e h.symm), Rat.add_zero]
theorem sumN_two {n p : Nat} {f : Nat → Rat} (hp : p + 1 < n) (h : ∀ i, i < n → i ≠ p → i ≠ p + 1 → f i = 0) (h2 : f p + f (p + 1) = 0) : sumN n f = 0 := by
  induction n with
  | zero => omega
  | succ n ih =>
    show sumN n f + f n = 0
    by_cases e : p + 1 = n
    · subst e
      rw [sumN_one (p := p) (by omega) fun i hi hne => h i (by omega) hne (by omega)]
      exact h2
    · rw [ih (by omega) fun i hi h3 h4 => h i (by omega) h3 h4, h n (by omega) (by omega) (fun h => e h.symm), Rat.add_zero]
theorem sumN_swap (n m : Nat) (f : Nat → Nat → Rat) : sumN n (fun i => sumN m (f i)) = sumN m (fun k => sumN n fun i => f i k) := by
  induction n with
  | zero => exact (sumN_zero fun _ _ => rfl).symm
  | succ n ih =>
    show sumN n (fun i => sumN m (f i)) + sumN m (f n) = sumN m (fun k => sumN n (fun i => f i k) + f n k)
    rw [ih, sumN_add]
abbrev Mat := Nat → Nat → Rat
def sgn : Nat → Rat
  | 0 => 1
  | i + 1 => -(sgn i)
def skp (i r : Nat) : Nat := if r < i then r else r + 1
def minor (M : Mat) (i : Nat) : Mat := fun r c => M (skp i r) (c + 1)
def det : Nat → Mat → Rat
  | 0, _ => 1
  | n + 1, M => sumN (n + 1) fun i => sgn i * M i 0 * det n (minor M i)
theorem det_congr : ∀ {n : Nat} {M N : Mat}, (∀ r c, r < n → c < n → M r c = N r c) → det n M = det n N
  | 0, _, _, _ => rfl
  | n + 1, M, N, h => sumN_congr fun i hi => by
    rw [h i 0 hi (by omega), det_congr (n := n) (M := minor M i) (N := minor N i) fun r c hr hc => ?_]
    unfold minor skp
    split
    · exact h _ _ (by omega) (by omega)
    · exact h _ _ (by omega) (by omega)
def setR (M : Mat) (p : Nat) (v : Nat → Rat) : Mat := fun r c => if r = p then v c else M r c
theorem minor_setR_self (M : Mat) (p : Nat) (v : Nat → Rat) : minor (setR M p v) p = minor M p := by
  funext r c
  unfold minor setR skp
  rw [if_neg (by split <;> omega)]
def dwn (i p : Nat) : Nat := if p < i then p else p - 1
theorem minor_setR (M : Mat) {i p : Nat} (v : Nat → Rat) (h : i ≠ p) : minor (setR M p v) i = setR (minor M i) (dwn i p) fun c => v (c + 1) := by
  funext r c
  unfold minor setR skp dwn
  dsimp only
  by_cases h1 : p < i
  · rw [if_pos h1]
    by_cases h2 : r < i
    · rw [if_pos h2]
    · rw [if_neg h2, if_neg (by omega), if_neg (by omega)]
  · rw [if_neg h1]
    by_cases h2 : r < i
    · rw [if_pos h2, if_neg (by omega), if_neg (by omega)]
    · rw [if_neg h2]
      by_cases h3 : r + 1 = p
      · rw [if_pos h3, if_pos (by omega)]
      · rw [if_neg h3, if_neg (by omega)]
theorem dwn_lt {n i p : Nat} (hi : i < n + 1) (hp : p < n + 1) (h : i ≠ p) : dwn i p < n := by
  unfold dwn
  split <;> omega
theorem det_add : ∀ {n : Nat} {M : Mat} {p : Nat} {u v : Nat → Rat}, p < n → det n (setR M p fun c => u c + v c) = det n (setR M p u) + det n (setR M p v)
  | 0, _, _, _, _, h => absurd h (Nat.not_lt_zero _)
  | n + 1, M, p, u, v, hp => by
    show sumN (n + 1) _ = sumN (n + 1) _ + sumN (n + 1) _
    rw [← sumN_add]
    refine sumN_congr fun i hi => ?_
    by_cases h : i = p
    · subst h
      rw [minor_setR_self, minor_setR_self, minor_setR_self]
      unfold setR
      rw [if_pos rfl, if_pos rfl, if_pos rfl]
      grind
    · rw [minor_setR _ _ h, minor_setR _ _ h, minor_setR _ _ h, det_add (dwn_lt hi hp h)]
      unfold setR
      rw [if_neg h, if_neg h, if_neg h]
      grind
theorem det_smul : ∀ {n : Nat} {M : Mat} {p : Nat} {a : Rat} {u : Nat → Rat}, p < n → det n (setR M p fun c => a * u c) = a * det n (setR M p u)
  | 0, _, _, _, _, h => absurd h (Nat.not_lt_zero _)
  | n + 1, M, p, a, u, hp => by
    show sumN (n + 1) _ = a * sumN (n + 1) _
    rw [← sumN_mul]
    refine sumN_congr fun i hi => ?_
    by_cases h : i = p
    · subst h
      rw [minor_setR_self, minor_setR_self]
      unfold setR
      rw [if_pos rfl, if_pos rfl]
      grind
    · rw [minor_setR _ _ h, minor_setR _ _ h, det_smul (dwn_lt hi hp h)]
      unfold setR
      rw [if_neg h, if_neg h]
      grind
theorem det_next : ∀ {n : Nat} {M : Mat} {p : Nat}, p + 1 < n → (∀ c, c < n → M p c = M (p + 1) c) → det n M = 0
  | 0, _, _, h, _ => absurd h (Nat.not_lt_zero _)
  | n + 1, M, p, hp, he => by
    refine sumN_two (p := p) hp (fun i hi h1 h2 => ?_) ?_
    · rw [det_next (n := n) (M := minor M i) (p := dwn i p) ?_ fun c hc => ?_, Rat.mul_zero]
      · unfold dwn
        split <;> omega
      · unfold minor skp dwn
        by_cases h : p < i
        · rw [if_pos h, if_pos h, if_pos (by omega)]
          exact he _ (by omega)
        · rw [if_neg h, if_neg (by omega), if_neg (by omega), show p - 1 + 1 = p by omega]
          exact he _ (by omega)
    · have e : det n (minor M p) = det n (minor M (p + 1)) := det_congr fun r c hr hc => by
        unfold minor skp
        by_cases h1 : r < p
        · rw [if_pos h1, if_pos (by omega)]
        · rw [if_neg h1]
          by_cases h2 : r = p
          · subst h2
            rw [if_pos (by omega)]
            exact (he _ (by omega)).symm
          · rw [if_neg (by omega)]
      show sgn p * M p 0 * _ + -(sgn p) * M (p + 1) 0 * _ = 0
      rw [e, he 0 (by omega)]
      grind
theorem setR_self (M : Mat) (p : Nat) : setR M p (M p) = M := by
  funext r c
  unfold setR
  split
  · rename_i h; rw [h]
  · rfl
theorem setR_comm (M : Mat) {p q : Nat} (u v : Nat → Rat) (h : p ≠ q) : setR (setR M p u) q v = setR (setR M q v) p u := by
  funext r c
  unfold setR
  by_cases h1 : r = q
  · rw [if_pos h1, if_neg (by omega), if_pos h1]
  · rw [if_neg h1]
    by_cases h2 : r = p
    · rw [if_pos h2, if_pos h2]
    · rw [if_neg h2, if_neg h2, if_neg h1]
theorem det_swap_of {n p q : Nat} (hp : p < n) (hq : q < n) (hne : p ≠ q) (h0 : ∀ (M : Mat) (u : Nat → Rat), det n (setR (setR M p u) q u) = 0) (M : Mat) (u v : Nat → Rat) : det n (setR (setR M p u) q v) = -(det n (setR (setR M p v) q u)) := by
  have h := h0 M fun c => u c + v c
  rw [det_add hq, setR_comm M _ u hne, setR_comm M _ v hne, det_add hp, det_add hp, setR_comm _ _ _ (Ne.symm hne), setR_comm _ _ _ (Ne.symm hne), setR_comm _ _ _ (Ne.symm hne), setR_comm _ _ _ (Ne.symm hne), h0, h0] at h
  grind
theorem det_next_setR {n p : Nat} (hp : p + 1 < n) (M : Mat) (u : Nat → Rat) : det n (setR (setR M p u) (p + 1) u) = 0 := by
  refine det_next hp fun c _ => ?_
  unfold setR
  rw [if_neg (by omega), if_pos rfl, if_pos rfl]
theorem det_eq_rows {n p : Nat} : ∀ (d : Nat), p + d + 1 < n → ∀ (M : Mat) (u : Nat → Rat), det n (setR (setR M p u) (p + d + 1) u) = 0
  | 0, h, M, u => det_next_setR h M u
  | d + 1, h, M, u => by
    have ih := det_eq_rows (n := n) (p := p) d (by omega)
    -- rows p + d + 1 and p + d + 2 are exchanged
    have hs := det_swap_of (n := n) (p := p + d + 1) (q := p + d + 1 + 1) (by omega) h (by omega) (det_next_setR (by omega)) (setR M p u) (M (p + d + 1)) u
    rw [show p + (d + 1) + 1 = p + d + 1 + 1 by omega]
    have e : setR (setR (setR M p u) (p + d + 1) (M (p + d + 1))) (p + d + 1 + 1) u = setR (setR M p u) (p + d + 1 + 1) u := by
      congr 1
      funext r c
      unfold setR
      by_cases h1 : r = p + d + 1
      · rw [if_pos h1, if_neg (by omega), h1]
      · rw [if_neg h1]
    rw [e] at hs
    rw [hs]
    have e2 : setR (setR (setR M p u) (p + d + 1) u) (p + d + 1 + 1) (M (p + d + 1)) = setR (setR (setR M (p + d + 1 + 1) (M (p + d + 1))) p u) (p + d + 1) u := by
      rw [setR_comm _ _ _ (show p + d + 1 ≠ p + d + 1 + 1 by omega), setR_comm M u _ (show p ≠ p + d + 1 + 1 by omega)]
    rw [e2, ih]
    grind
theorem det_same {n p q : Nat} (hp : p < n) (hq : q < n) (hne : p ≠ q) (M : Mat) (u : Nat → Rat) : det n (setR (setR M p u) q u) = 0 := by
  rcases Nat.lt_or_ge p q with h | h
  · have := det_eq_rows (n := n) (p := p) (q - p - 1) (by omega) M u
    rwa [show p + (q - p - 1) + 1 = q by omega] at this
  · have := det_eq_rows (n := n) (p := q) (p - q - 1) (by omega) M u
    rw [show q + (p - q - 1) + 1 = p by omega] at this
    rw [setR_comm _ _ _ hne]
    exact this
theorem det_swap {n p q : Nat} (hp : p < n) (hq : q < n) (hne : p ≠ q) (M : Mat) : det n (setR (setR M p (M q)) q (M p)) = -(det n M) := by
  have h := det_swap_of hp hq hne (det_same hp hq hne) M (M q) (M p)
  rw [h, setR_self]
  congr 2
  rw [setR_self]
theorem det_rowadd {n p q : Nat} (hp : p < n) (hq : q < n) (hne : p ≠ q) (M : Mat) (a : Rat) : det n (setR M p fun c => M p c + a * M q c) = det n M := by
  rw [det_add hp, setR_self, det_smul hp]
  have h := det_same hq hp (Ne.symm hne) M (M q)
  rw [setR_self] at h
  rw [h, Rat.mul_zero, Rat.add_zero]
theorem det_zero_row {n p : Nat} (hp : p < n) {M : Mat} (h : ∀ c, c < n → M p c = 0) : det n M = 0 := by
  have h1 := det_smul (n := n) (M := M) (a := 0) (u := M p) hp
  rw [Rat.zero_mul] at h1
  rw [← h1]
  exact det_congr fun r c _ hc => by
    unfold setR
    split
    · rename_i e
      rw [e, h c hc]
      show (0 : Rat) = 0 * M p c
      rw [Rat.zero_mul]
    · rfl
end Wx

namespace Wx

def ent (X : List (List Rat)) : Mat := fun r c => (X.getD r []).getD c 0
def mulF (n : Nat) (A B : Mat) : Mat := fun r c => sumN n fun k => A r k * B k c
def prodN : Nat → (Nat → Rat) → Rat
  | 0, _ => 1
  | n + 1, f => prodN n f * f n
theorem prodN_congr {n : Nat} {f g : Nat → Rat} (h : ∀ i, i < n → f i = g i) : prodN n f = prodN n g := by
  induction n with
  | zero => rfl
  | succ n ih =>
    show prodN n f * f n = prodN n g * g n
    rw [ih fun i hi => h i (by omega), h n (by omega)]
theorem prodN_head (n : Nat) (f : Nat → Rat) : prodN (n + 1) f = f 0 * prodN n fun i => f (i + 1) := by
  induction n with
  | zero => show (1 : Rat) * f 0 = f 0 * 1; grind
  | succ n ih =>
    show prodN (n + 1) f * f (n + 1) = f 0 * (prodN n (fun i => f (i + 1)) * f (n + 1))
    rw [ih]
    grind
theorem det_head {n : Nat} {M : Mat} (h : ∀ r, 0 < r → r < n + 1 → M r 0 = 0) : det (n + 1) M = M 0 0 * det n fun r c => M (r + 1) (c + 1) := by
  have h1 : det (n + 1) M = sgn 0 * M 0 0 * det n (minor M 0) := sumN_one (p := 0) (by omega) fun i hi hne => by
    rw [h i (by omega) hi, Rat.mul_zero, Rat.zero_mul]
  rw [h1]
  have h2 : minor M 0 = fun r c => M (r + 1) (c + 1) := by
    funext r c
    unfold minor skp
    rw [if_neg (Nat.not_lt_zero _)]
  rw [h2]
  show 1 * M 0 0 * _ = _
  rw [Rat.one_mul]
theorem det_upper : ∀ {n : Nat} {M : Mat}, (∀ r c, c < r → r < n → M r c = 0) → det n M = prodN n fun i => M i i
  | 0, _, _ => rfl
  | n + 1, M, h => by
    rw [det_head fun r h1 h2 => h r 0 h1 h2, prodN_head, det_upper fun r c h1 h2 => h (r + 1) (c + 1) (by omega) (by omega)]
theorem det_sing : ∀ {k n : Nat} {M : Mat}, k < n → (∀ r c, c < k → c < r → r < n → M r c = 0) → (∀ r, k ≤ r → r < n → M r k = 0) → det n M = 0
  | _, 0, _, h, _, _ => absurd h (Nat.not_lt_zero _)
  | 0, n + 1, M, _, _, h2 => sumN_zero fun i hi => by rw [h2 i (Nat.zero_le _) hi, Rat.mul_zero, Rat.zero_mul]
  | k + 1, n + 1, M, hk, h1, h2 => by
    rw [det_head fun r h3 h4 => h1 r 0 (by omega) h3 h4, det_sing (k := k) (n := n) (by omega) (fun r c h3 h4 h5 => h1 (r + 1) (c + 1) (by omega) (by omega) (by omega)) (fun r h3 h4 => h2 (r + 1) (by omega) (by omega)), Rat.mul_zero]
theorem mulF_setR {n : Nat} (A B : Mat) (p : Nat) (v : Nat → Rat) : mulF n (setR A p v) B = setR (mulF n A B) p fun c => sumN n fun k => v k * B k c := by
  funext r c
  unfold mulF setR
  by_cases h : r = p
  · rw [if_pos h]
    exact sumN_congr fun k _ => by rw [if_pos h]
  · rw [if_neg h]
    exact sumN_congr fun k _ => by rw [if_neg h]
theorem mulF_congr {n : Nat} {A A' B : Mat} (h : ∀ r c, r < n → c < n → A r c = A' r c) : ∀ r c, r < n → c < n → mulF n A B r c = mulF n A' B r c := fun r c hr _ => sumN_congr fun k hk => by rw [h r k hr hk]
theorem mul_rowadd {n p q : Nat} (hp : p < n) (hq : q < n) (hne : p ≠ q) (A B : Mat) (a : Rat) : det n (mulF n (setR A p fun c => A p c + a * A q c) B) = det n (mulF n A B) := by
  rw [mulF_setR]
  have e : (fun c => sumN n fun k => (A p k + a * A q k) * B k c) = fun c => mulF n A B p c + a * mulF n A B q c := by
    funext c
    unfold mulF
    rw [← sumN_mul, ← sumN_add]
    exact sumN_congr fun k _ => by grind
  rw [e]
  exact det_rowadd hp hq hne _ _
theorem mul_swap {n p q : Nat} (hp : p < n) (hq : q < n) (hne : p ≠ q) (A B : Mat) : det n (mulF n (setR (setR A p (A q)) q (A p)) B) = -(det n (mulF n A B)) := by
  rw [mulF_setR, mulF_setR]
  exact det_swap hp hq hne _
theorem det_lin {n p : Nat} (hp : p < n) (M : Mat) (x : Nat → Rat) : ∀ m, m ≤ n → det n (setR M p fun c => sumN m fun i => x i * M i c) = if p < m then x p * det n M else 0
  | 0, _ => by
    rw [if_neg (Nat.not_lt_zero _)]
    exact det_zero_row hp fun c _ => by unfold setR; rw [if_pos rfl]; rfl
  | m + 1, hm => by
    have e : (fun c => sumN (m + 1) fun i => x i * M i c) = fun c => (sumN m fun i => x i * M i c) + x m * M m c := rfl
    rw [e, det_add hp, det_lin hp M x m (by omega), det_smul hp]
    by_cases h : p = m
    · subst h
      rw [if_neg (Nat.lt_irrefl _), if_pos (by omega), setR_self, Rat.zero_add]
    · have h0 := det_same (n := n) (p := m) (q := p) (by omega) hp (fun e => h e.symm) M (M m)
      rw [setR_self] at h0
      rw [h0, Rat.mul_zero, Rat.add_zero]
      by_cases h2 : p < m
      · rw [if_pos h2, if_pos (by omega)]
      · rw [if_neg h2, if_neg (by omega)]
theorem det_dep {n p : Nat} (hp : p < n) {M : Mat} {x : Nat → Rat} (hx : x p ≠ 0) (h : ∀ c, c < n → sumN n (fun i => x i * M i c) = 0) : det n M = 0 := by
  have h1 := det_lin hp M x n (Nat.le_refl _)
  rw [if_pos hp, det_zero_row hp fun c hc => ?_] at h1
  · rcases Rat.mul_eq_zero.1 h1.symm with h2 | h2
    · exact absurd h2 hx
    · exact h2
  · unfold setR
    rw [if_pos rfl]
    exact h c hc
theorem sumN_skp {m p : Nat} (hp : p < m + 1) (f : Nat → Rat) : sumN (m + 1) f = f p + sumN m fun i => f (skp p i) := by
  induction m with
  | zero =>
    have : p = 0 := by omega
    subst this
    show 0 + f 0 = f 0 + 0
    grind
  | succ m ih =>
    by_cases h : p = m + 1
    · subst h
      show sumN (m + 1) f + f (m + 1) = f (m + 1) + sumN (m + 1) fun i => f (skp (m + 1) i)
      rw [sumN_congr (g := fun i => f (skp (m + 1) i)) fun i hi => by unfold skp; rw [if_pos hi]]
      grind
    · show sumN (m + 1) f + f (m + 1) = f p + (sumN m (fun i => f (skp p i)) + f (skp p m))
      rw [ih (by omega), show skp p m = m + 1 by unfold skp; rw [if_neg (by omega)]]
      grind
theorem dep : ∀ (t m : Nat) (V : Mat), t < m → ∃ x : Nat → Rat, (∃ p, p < m ∧ x p ≠ 0) ∧ ∀ c, c < t → sumN m (fun i => x i * V i c) = 0
  | 0, m, V, h => ⟨fun _ => 1, ⟨0, h, by decide⟩, fun c hc => absurd hc (Nat.not_lt_zero _)⟩
  | t + 1, 0, V, h => absurd h (Nat.not_lt_zero _)
  | t + 1, m + 1, V, h => by
    by_cases hz : ∀ i, i < m + 1 → V i t = 0
    · obtain ⟨x, hx, h1⟩ := dep t (m + 1) V (by omega)
      refine ⟨x, hx, fun c hc => ?_⟩
      by_cases e : c = t
      · subst e
        exact sumN_zero fun i hi => by rw [hz i hi, Rat.mul_zero]
      · exact h1 c (by omega)
    · have : ∃ p, p < m + 1 ∧ V p t ≠ 0 := Classical.byContradiction fun hn => hz fun i hi => Classical.byContradiction fun h0 => hn ⟨i, hi, h0⟩
      obtain ⟨p, hp, hv⟩ := this
      obtain ⟨x, ⟨q, hq, hxq⟩, h1⟩ := dep t m (fun i c => V (skp p i) c - V (skp p i) t / V p t * V p c) (by omega)
      -- the numbers for all vectors
      let s := sumN m fun i => x i * (V (skp p i) t / V p t)
      let y : Nat → Rat := fun i => if i = p then -s else x (dwn p i)
      have hyp : y p = -s := if_pos rfl
      have hys : ∀ i, y (skp p i) = x i := fun i => by
        show (if skp p i = p then -s else x (dwn p (skp p i))) = x i
        unfold skp dwn
        by_cases h2 : i < p
        · rw [if_pos h2, if_neg (by omega), if_pos h2]
        · rw [if_neg h2, if_neg (by omega), if_neg (by omega), show i + 1 - 1 = i by omega]
      refine ⟨y, ⟨skp p q, by unfold skp; split <;> omega, by rw [hys]; exact hxq⟩, fun c hc => ?_⟩
      have key : ∀ c, sumN m (fun i => x i * (V (skp p i) c - V (skp p i) t / V p t * V p c)) = sumN m (fun i => x i * V (skp p i) c) + -s * V p c := fun c => by
        have e : ∀ i, x i * (V (skp p i) c - V (skp p i) t / V p t * V p c) = x i * V (skp p i) c + -(V p c) * (x i * (V (skp p i) t / V p t)) := fun i => by grind
        rw [sumN_congr fun i _ => e i, sumN_add, sumN_mul]
        show _ + -(V p c) * s = _
        grind
      rw [sumN_skp hp, hyp, sumN_congr fun i _ => by rw [hys i], Rat.add_comm]
      by_cases e : c = t
      · subst e
        have e2 : sumN m (fun i => x i * V (skp p i) c) = s * V p c := by
          show _ = sumN m (fun i => x i * (V (skp p i) c / V p c)) * V p c
          rw [Rat.mul_comm, ← sumN_mul]
          refine sumN_congr fun i _ => ?_
          rw [Rat.div_def]
          have := Rat.mul_inv_cancel _ hv
          grind
        rw [e2]
        grind
      · rw [← key c]
        exact h1 c (by omega)
theorem mul_upper {n : Nat} {U B : Mat} (hU : ∀ r c, c < r → r < n → U r c = 0) : det n (mulF n U B) = (prodN n fun i => U i i) * det n B := by
  have key : ∀ t, t ≤ n → det n (fun r c => if r < t then mulF n U B r c else B r c) = (prodN t fun i => U i i) * det n B := by
    intro t
    induction t with
    | zero =>
      intro _
      show _ = 1 * det n B
      rw [Rat.one_mul]
      exact det_congr fun r c _ _ => by rw [if_neg (Nat.not_lt_zero _)]
    | succ t ih =>
      intro ht
      have ih := ih (by omega)
      let W : Mat := fun r c => if r < t then mulF n U B r c else B r c
      have e : ∀ r c, r < n → c < n → (if r < t + 1 then mulF n U B r c else B r c) = setR W t (fun c => sumN n fun i => (if t ≤ i then U t i else 0) * W i c) r c := by
        intro r c hr _
        unfold setR
        by_cases h : r = t
        · subst h
          rw [if_pos (by omega), if_pos rfl]
          show sumN n _ = _
          refine sumN_congr fun i hi => ?_
          by_cases h2 : r ≤ i
          · rw [if_pos h2]
            show U r i * B i c = U r i * (if i < r then _ else B i c)
            rw [if_neg (by omega)]
          · rw [if_neg h2, hU r i (by omega) hr, Rat.zero_mul, Rat.zero_mul]
        · rw [if_neg h]
          show _ = if r < t then mulF n U B r c else B r c
          by_cases h2 : r < t
          · rw [if_pos (by omega), if_pos h2]
          · rw [if_neg (by omega), if_neg h2]
      rw [det_congr e, det_lin (by omega) W _ n (Nat.le_refl _), if_pos (by omega), if_pos (Nat.le_refl _), ih]
      show U t t * _ = prodN t (fun i => U i i) * U t t * _
      grind
  rw [← key n (Nat.le_refl _)]
  exact det_congr fun r c hr _ => by rw [if_pos hr]
end Wx
