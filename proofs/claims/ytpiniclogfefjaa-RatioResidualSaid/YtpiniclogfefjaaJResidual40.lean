import Derived.Handy
import Derived.Test.YtpiniclogfefjaaJResidual0
import Derived.Test.YtpiniclogfefjaaCResidualRat1
import Derived.Test.YtpiniclogfefjaaJResidual14
import Derived.Test.YtpiniclogfefjaaJResidual16
import Derived.Test.YtpiniclogfefjaaCResidualInv
import Derived.Test.YtpiniclogfefjaaCResidualSem
import Derived.Test.YtpiniclogfefjaaCResidualSemOps
import Derived.Test.YtpiniclogfefjaaCResidualSemMem
import Derived.Test.YtpiniclogfefjaaJResidual6
import Derived.Test.YtpiniclogfefjaaCResidualSemRow
import Derived.Test.YtpiniclogfefjaaJResidual26
import Derived.Test.YtpiniclogfefjaaCResidualSemAppend
import Derived.Test.YtpiniclogfefjaaJResidual24
import Derived.Test.YtpiniclogfefjaaCResidualSemObj
import Derived.Test.YtpiniclogfefjaaJResidual29
import Derived.Test.YtpiniclogfefjaaJResidual30
import Derived.Test.YtpiniclogfefjaaCResidualSemCopy
import Derived.Test.YtpiniclogfefjaaCResidualSemApp
import Derived.Test.YtpiniclogfefjaaJResidual34
import Derived.Test.YtpiniclogfefjaaJResidual35
import Derived.Test.YtpiniclogfefjaaJResidual38
import Derived.Test.YtpiniclogfefjaaCResidualDetList
import Derived.Test.YtpiniclogfefjaaJResidual37
namespace Wx

def Sat (X : List (List Rat)) (n q : Nat) (x : Nat → Rat) : Prop := ∀ i, i < n → sumN n (fun k => ent X i k * x k) = ent X i (n + q)
theorem firstI_congr {p p' : Nat → Bool} {n : Nat} (h : ∀ i, i < n → p i = p' i) : firstI p n = firstI p' n := by
  unfold firstI
  have : (List.range n).find? p = (List.range n).find? p' := by
    have key : ∀ l : List Nat, (∀ i, i ∈ l → p i = p' i) → l.find? p = l.find? p' := by
      intro l
      induction l with
      | nil => intro _; rfl
      | cons a l ih =>
        intro hl
        rw [List.find?_cons, List.find?_cons, hl a (List.mem_cons_self ..), ih fun i hi => hl i (List.mem_cons_of_mem _ hi)]
    exact key _ fun i hi => h i (List.mem_range.1 hi)
  rw [this]
section
variable {X : List (List Rat)} {n m k : Nat}
theorem gj_ent (hl : X.length = n) (hr : Rect (n + m) X) (hk : k < n) {r q : Nat} (hrn : r < n) (hq : q < n + m) : ent (gjStep X k) r q = if r = k then ent (pivL X X k) k q / ent (pivL X X k) k k else ent (pivL X X k) r q - ent (pivL X X k) r k * (ent (pivL X X k) k q / ent (pivL X X k) k k) := by
  have hPl : (pivL X X k).length = n := by rw [pivL_len]; exact hl
  have hPr : Rect (n + m) (pivL X X k) := hr.piv (by omega)
  have hrow : ∀ t, t < n + m → ent (normX (pivL X X k) k) k t = ent (pivL X X k) k t / ent (pivL X X k) k k := fun t ht => by
    unfold ent normX
    rw [getD_set (by omega), if_pos rfl, divAt_get (by rw [hPr k (by omega)]; exact ht), if_pos (by rw [hPr k (by omega)]; exact ht)]
  have hoth : ∀ r, r ≠ k → (normX (pivL X X k) k).getD r [] = (pivL X X k).getD r [] := fun r h => normX_other h (by omega)
  have hNr : Rect (n + m) (normX (pivL X X k) k) := hPr.norm (by omega)
  unfold gjStep
  by_cases h : r = k
  · subst h
    rw [if_pos rfl]
    unfold ent
    rw [elimX_get (by rw [normX_len]; omega), if_neg (by omega)]
    exact hrow q hq
  · rw [if_neg h]
    have e : ent (elimX (normX (pivL X X k) k) k X.length) r q = (redRow ((pivL X X k).getD r []) ((normX (pivL X X k) k).getD k []) k).getD q 0 := by
      unfold ent
      rw [elimX_get (by rw [normX_len]; omega), if_pos (by omega), hoth r h]
    rw [e]
    have hk2 := hrow q hq
    have hlen1 : q < ((pivL X X k).getD r []).length := by rw [hPr r (by omega)]; exact hq
    have hlen2 : q < ((normX (pivL X X k) k).getD k []).length := by rw [hNr k (by rw [normX_len]; omega)]; exact hq
    unfold redRow
    split
    · rename_i h0
      show ((pivL X X k).getD r []).getD q 0 = ((pivL X X k).getD r []).getD q 0 - ((pivL X X k).getD r []).getD k 0 * _
      rw [h0, Rat.zero_mul]
      grind
    · rw [redAt_ent hlen1 hlen2]
      show _ - ((pivL X X k).getD r []).getD k 0 * ent (normX (pivL X X k) k) k q = _
      rw [hk2]
      rfl
theorem sat_pivL (hl : X.length = n) (hk : k < n) (q : Nat) (x : Nat → Rat) : Sat X n q x ↔ Sat (pivL X X k) n q x := by
  have hr := pivI_range (X := X) (c := k) (by omega)
  unfold pivL
  split
  · exact Iff.rfl
  · have hb : k + (pivI X k).toNat < n := by omega
    have hs := swap_row (X := X) (a := k) (b := k + (pivI X k).toNat) hl hk hb
    have row : ∀ i j, (∀ t, ent (swapL X k (k + (pivI X k).toNat)) i t = ent X j t) → (sumN n (fun t => ent (swapL X k (k + (pivI X k).toNat)) i t * x t) = ent (swapL X k (k + (pivI X k).toNat)) i (n + q) ↔ sumN n (fun t => ent X j t * x t) = ent X j (n + q)) := fun i j h => by
      rw [sumN_congr fun t _ => by rw [h t], h]
    have r1 : ∀ t, ent (swapL X k (k + (pivI X k).toNat)) (k + (pivI X k).toNat) t = ent X k t := fun t => by rw [hs]; unfold setR; rw [if_pos rfl]
    have r2 : ∀ t, ent (swapL X k (k + (pivI X k).toNat)) k t = ent X (k + (pivI X k).toNat) t := fun t => by
      rw [hs]
      unfold setR
      by_cases h : k = k + (pivI X k).toNat
      · rw [if_pos h, ← h]
      · rw [if_neg h, if_pos rfl]
    have r3 : ∀ i, i ≠ k → i ≠ k + (pivI X k).toNat → ∀ t, ent (swapL X k (k + (pivI X k).toNat)) i t = ent X i t := fun i h1 h2 t => by
      rw [hs]
      unfold setR
      rw [if_neg h2, if_neg h1]
    constructor
    · intro h i hi
      by_cases h1 : i = k
      · subst h1
        exact (row _ _ r2).2 (h _ hb)
      · by_cases h2 : i = k + (pivI X k).toNat
        · rw [h2]
          exact (row _ _ r1).2 (h _ hk)
        · exact (row _ _ (r3 i h1 h2)).2 (h i hi)
    · intro h i hi
      by_cases h1 : i = k
      · rw [h1]
        exact (row _ _ r1).1 (h _ hb)
      · by_cases h2 : i = k + (pivI X k).toNat
        · rw [h2]
          exact (row _ _ r2).1 (h _ hk)
        · exact (row _ _ (r3 i h1 h2)).1 (h i hi)
theorem sat_step (hl : X.length = n) (hr : Rect (n + m) X) (hk : k < n) (hp : ent (pivL X X k) k k ≠ 0) {q : Nat} (hq : q < m) (x : Nat → Rat) : Sat X n q x ↔ Sat (gjStep X k) n q x := by
  rw [sat_pivL hl hk]
  have e := fun {r t : Nat} (h1 : r < n) (h2 : t < n + m) => gj_ent (r := r) (q := t) hl hr hk h1 h2
  have hinv := Rat.mul_inv_cancel _ hp
  -- the sums of a row
  have s1 : ∀ i, i < n → sumN n (fun t => ent (gjStep X k) i t * x t) = if i = k then (ent (pivL X X k) k k)⁻¹ * sumN n (fun t => ent (pivL X X k) k t * x t) else sumN n (fun t => ent (pivL X X k) i t * x t) + -(ent (pivL X X k) i k * (ent (pivL X X k) k k)⁻¹) * sumN n (fun t => ent (pivL X X k) k t * x t) := fun i hi => by
    by_cases h : i = k
    · subst h
      rw [if_pos rfl, ← sumN_mul]
      refine sumN_congr fun t ht => ?_
      rw [e hi (by omega), if_pos rfl, Rat.div_def]
      grind
    · rw [if_neg h, ← sumN_mul, ← sumN_add]
      refine sumN_congr fun t ht => ?_
      rw [e hi (by omega), if_neg h, Rat.div_def]
      grind
  have s2 : ∀ i, i < n → ent (gjStep X k) i (n + q) = if i = k then (ent (pivL X X k) k k)⁻¹ * ent (pivL X X k) k (n + q) else ent (pivL X X k) i (n + q) + -(ent (pivL X X k) i k * (ent (pivL X X k) k k)⁻¹) * ent (pivL X X k) k (n + q) := fun i hi => by
    rw [e hi (by omega), Rat.div_def]
    split <;> grind
  constructor
  · intro h i hi
    rw [s1 i hi, s2 i hi, h k hk]
    split
    · rfl
    · rw [h i hi]
  · intro h
    have hkk : sumN n (fun t => ent (pivL X X k) k t * x t) = ent (pivL X X k) k (n + q) := by
      have := h k hk
      rw [s1 k hk, s2 k hk, if_pos rfl, if_pos rfl] at this
      have h2 : ent (pivL X X k) k k * ((ent (pivL X X k) k k)⁻¹ * sumN n (fun t => ent (pivL X X k) k t * x t)) = ent (pivL X X k) k k * ((ent (pivL X X k) k k)⁻¹ * ent (pivL X X k) k (n + q)) := by rw [this]
      rw [← Rat.mul_assoc, ← Rat.mul_assoc, hinv, Rat.one_mul, Rat.one_mul] at h2
      exact h2
    intro i hi
    by_cases hik : i = k
    · subst hik
      exact hkk
    · have := h i hi
      rw [s1 i hi, s2 i hi, if_neg hik, if_neg hik, hkk] at this
      grind
end
structure GjInv (A B : List (List Rat)) (n m k : Nat) : Prop where
  unit : ∀ r q, q < k → r < n → ent (gjX (augX A B) k) r q = if r = q then 1 else 0
  sat : ∀ q x, q < m → (Sat (augX A B) n q x ↔ Sat (gjX (augX A B) k) n q x)
  same : ∀ r q, k ≤ r → r < n → q < n → ent (gjX (augX A B) k) r q = ent (dX A k) r q
theorem piv_same {X Y : List (List Rat)} {n k : Nat} (hX : X.length = n) (hY : Y.length = n) (h : ∀ r, k ≤ r → r < n → ent X r k = ent Y r k) : pivI X k = pivI Y k := by
  unfold pivI
  rw [hX, hY]
  refine firstI_congr fun i hi => ?_
  have := h (k + i) (by omega) (by omega)
  unfold ent at this
  rw [this]
theorem pivL_same {X Y : List (List Rat)} {n k : Nat} (hX : X.length = n) (hY : Y.length = n) (hk : k < n) (h : ∀ r q, k ≤ r → r < n → q < n → ent X r q = ent Y r q) : ∀ r q, k ≤ r → r < n → q < n → ent (pivL X X k) r q = ent (pivL Y Y k) r q := by
  intro r q hkr hr hq
  have hp := piv_same hX hY fun r h1 h2 => h r k h1 h2 hk
  have hrg := pivI_range (X := Y) (c := k) (by omega)
  unfold pivL
  rw [hp]
  split
  · exact h r q hkr hr hq
  · have hb : k + (pivI Y k).toNat < n := by omega
    rw [swap_row hX hk hb, swap_row hY hk hb]
    unfold setR
    by_cases h1 : r = k + (pivI Y k).toNat
    · rw [if_pos h1, if_pos h1]
      exact h k q (Nat.le_refl _) hk hq
    · rw [if_neg h1, if_neg h1]
      by_cases h2 : r = k
      · rw [if_pos h2, if_pos h2]
        exact h _ q (by omega) hb hq
      · rw [if_neg h2, if_neg h2]
        exact h r q hkr hr hq
theorem aug_ent {A B : List (List Rat)} {n : Nat} (hl : A.length = n) (hA : Rect n A) {r q : Nat} (hr : r < n) (hq : q < n) : ent (augX A B) r q = ent A r q := by
  unfold ent
  rw [augX_get (by omega), getD_opt, List.getElem?_append_left (by rw [hA r (by omega)]; exact hq), ← getD_opt]
theorem aug_entB {A B : List (List Rat)} {n : Nat} (hl : A.length = n) (hA : Rect n A) {r q : Nat} (hr : r < n) : ent (augX A B) r (n + q) = ent B r q := by
  unfold ent
  rw [augX_get (by omega), getD_opt, List.getElem?_append_right (by rw [hA r (by omega)]; omega), ← getD_opt, hA r (by omega), show n + q - n = q by omega]
theorem gjInv {A B : List (List Rat)} {n m : Nat} (hl : A.length = n) (hA : Rect n A) (hB : ∀ i, i < n → (B.getD i []).length = m) : ∀ k, k ≤ n → (∀ c, c < k → 0 ≤ pivI (dX A c) c) → GjInv A B n m k
  | 0, _, _ => ⟨fun _ q h => absurd h (Nat.not_lt_zero _), fun _ _ _ => Iff.rfl, fun r q _ hr hq => aug_ent hl hA hr hq⟩
  | k + 1, hk, hp => by
    obtain ⟨h1, h2, h3⟩ := gjInv hl hA hB k (by omega) fun c hc => hp c (by omega)
    have hXl : (gjX (augX A B) k).length = n := by rw [gjX_len, augX_len]; exact hl
    have hXr : Rect (n + m) (gjX (augX A B) k) := (augX_rect (A := A) (B := B) hA (fun i hi => hB i (by omega))).gj k (by rw [augX_len]; omega)
    have hDl : (dX A k).length = n := by rw [dX_len]; exact hl
    have hDr : Rect n (dX A k) := hA.dX k (by omega)
    have hkn : k < n := by omega
    have hpe := piv_same hXl hDl fun r a b => h3 r k a b hkn
    have hpl := pivL_same hXl hDl hkn h3
    have hpv : 0 ≤ pivI (gjX (augX A B) k) k := by rw [hpe]; exact hp k (by omega)
    have hne : ent (pivL (gjX (augX A B) k) (gjX (augX A B) k) k) k k ≠ 0 := piv_ne (by omega) hpv
    have e := fun {r t : Nat} (a : r < n) (b : t < n + m) => gj_ent (r := r) (q := t) hXl hXr hkn a b
    have hinv := Rat.mul_inv_cancel _ hne
    -- the first columns behind the exchange
    have hu : ∀ r q, q < k → r < n → ent (pivL (gjX (augX A B) k) (gjX (augX A B) k) k) r q = if r = q then 1 else 0 := fun r q hq hr => by
      rcases Nat.lt_or_ge r k with h | h
      · unfold ent
        rw [pivL_above hXl hkn h]
        exact h1 r q hq hr
      · obtain ⟨t, ht1, ht2, et⟩ := pivL_below hXl hkn h hr
        unfold ent
        rw [et]
        have := h1 t q hq ht2
        rw [if_neg (by omega)] at this
        rw [if_neg (by omega)]
        exact this
    refine ⟨fun r q hq hr => ?_, fun q x hq => (h2 q x hq).trans (sat_step hXl hXr hkn hne hq x), fun r q hkr hr hq => ?_⟩
    · show ent (gjStep (gjX (augX A B) k) k) r q = _
      rw [e hr (by omega), Rat.div_def]
      rcases Nat.lt_or_ge q k with h | h
      · have z := hu k q h hkn
        rw [if_neg (by omega)] at z
        rw [z, hu r q h hr]
        by_cases hrk : r = k
        · subst hrk
          rw [if_pos rfl, if_neg (by omega), Rat.zero_mul]
        · rw [if_neg hrk]
          grind
      · have : q = k := by omega
        subst this
        by_cases hrk : r = q
        · rw [if_pos hrk, if_pos hrk]
          exact hinv
        · rw [if_neg hrk, if_neg hrk, hinv]
          grind
    · show ent (gjStep (gjX (augX A B) k) k) r q = ent (elimD (pivL (dX A k) (dX A k) k) k A.length) r q
      rw [e hr (by omega), if_neg (by omega)]
      have hPr : Rect n (pivL (dX A k) (dX A k) k) := hDr.piv (by omega)
      have hPl : (pivL (dX A k) (dX A k) k).length = n := by rw [pivL_len]; exact hDl
      have e2 : ent (elimD (pivL (dX A k) (dX A k) k) k A.length) r q = ent (pivL (dX A k) (dX A k) k) r q + -(ent (pivL (dX A k) (dX A k) k) r k / ent (pivL (dX A k) (dX A k) k) k k) * ent (pivL (dX A k) (dX A k) k) k q := by
        unfold ent
        rw [elimD_get (by omega), if_pos (by omega), redD_ent (by rw [hPr r (by omega)]; exact hq) (by rw [hPr k (by omega)]; exact hq)]
      rw [e2, hpl r q (by omega) hr hq, hpl r k (by omega) hr hkn, hpl k q (Nat.le_refl _) hkn hq, hpl k k (Nat.le_refl _) hkn hkn, Rat.div_def, Rat.div_def]
      grind
theorem gjSing_iff {A B : List (List Rat)} {n m : Nat} (hl : A.length = n) (hA : Rect n A) (hB : ∀ i, i < n → (B.getD i []).length = m) : gjSing (augX A B) n ↔ dSing A n := by
  have key : ∀ c, c < n → (∀ q, q < c → 0 ≤ pivI (dX A q) q) → pivI (gjX (augX A B) c) c = pivI (dX A c) c := fun c hc h => by
    have g := gjInv hl hA hB c (by omega) h
    exact piv_same (by rw [gjX_len, augX_len]; exact hl) (by rw [dX_len]; exact hl) fun r a b => g.same r c a b hc
  constructor
  · rintro ⟨c, hc, h⟩
    refine Classical.byContradiction fun hn => ?_
    have hp : ∀ q, q < n → 0 ≤ pivI (dX A q) q := fun q hq => by
      rcases Int.lt_or_le (pivI (dX A q) q) 0 with h | h
      · exact absurd ⟨q, hq, h⟩ hn
      · exact h
    rw [key c hc fun q hq => hp q (by omega)] at h
    have := hp c hc
    omega
  · intro h
    obtain ⟨c, hc, h1, h2⟩ := first_sing h
    refine ⟨c, hc, ?_⟩
    rw [key c hc fun q hq => by have := h2 q hq; omega]
    exact h1
theorem sol_iff {A B : List (List Rat)} {n m : Nat} (hl : A.length = n) (hA : Rect n A) (hB : ∀ i, i < n → (B.getD i []).length = m) (hs : ¬ dSing A n) {q : Nat} (hq : q < m) (x : Nat → Rat) : (∀ i, i < n → sumN n (fun k => ent A i k * x k) = ent B i q) ↔ ∀ i, i < n → x i = ent (solX A B) i q := by
  have hp : ∀ c, c < n → 0 ≤ pivI (dX A c) c := fun c hc => by
    rcases Int.lt_or_le (pivI (dX A c) c) 0 with h | h
    · exact absurd ⟨c, hc, h⟩ hs
    · exact h
  have g := gjInv hl hA hB n (Nat.le_refl _) hp
  have e1 : (∀ i, i < n → sumN n (fun k => ent A i k * x k) = ent B i q) ↔ Sat (augX A B) n q x := by
    constructor
    · intro h i hi
      rw [aug_entB hl hA hi, ← h i hi]
      exact sumN_congr fun k hk => by rw [aug_ent hl hA hi hk]
    · intro h i hi
      have := h i hi
      rw [aug_entB hl hA hi] at this
      rw [← this]
      exact sumN_congr fun k hk => by rw [aug_ent hl hA hi hk]
  have e2 : ∀ i, i < n → ent (gjX (augX A B) n) i (n + q) = ent (solX A B) i q := fun i hi => by
    unfold ent
    rw [solX_get (by omega), hl, getD_opt (List.drop _ _), List.getElem?_drop, ← getD_opt]
  have e3 : ∀ i, i < n → sumN n (fun k => ent (gjX (augX A B) n) i k * x k) = x i := fun i hi => by
    rw [sumN_one hi fun k hk hne => ?_]
    · rw [g.unit i i hi hi, if_pos rfl, Rat.one_mul]
    · rw [g.unit i k hk hi, if_neg (fun e => hne e.symm), Rat.zero_mul]
  rw [e1, g.sat q x hq]
  constructor
  · intro h i hi
    rw [← e2 i hi, ← h i hi, e3 i hi]
  · intro h i hi
    rw [e3 i hi, e2 i hi]
    exact h i hi
end Wx

namespace Wx

theorem dot_sum (x y : List Rat) : ∀ n, dotN x y n = sumN n fun k => x.getD k 0 * y.getD k 0
  | 0 => rfl
  | n + 1 => by
    show dotN x y n + _ = sumN n _ + _
    rw [dot_sum x y n]
section
variable {X Y V : List (List Rat)} {n : Nat}
theorem sing_det (hX : X.length = n) (hXr : Rect n X) {B : List (List Rat)} {m : Nat} (hB : ∀ i, i < n → (B.getD i []).length = m) : gjSing (augX X B) X.length ↔ detG X = 0 := by
  rw [hX, gjSing_iff hX hXr hB, (detG_det hX hXr).2.1, (detG_det hX hXr).1]
theorem reg_det (hX : X.length = n) (hXr : Rect n X) (h : detG X ≠ 0) : ¬ dSing X n := fun hs => h (by rw [(detG_det hX hXr).1]; exact (detG_det hX hXr).2.1.1 hs)
theorem sol_ok (hX : X.length = n) (hXr : Rect n X) {b : List Rat} (hb : b.length = n) (h : detG X ≠ 0) {r : Nat} (hr : r < n) : dotN (X.getD r []) (sol1 X b) n = b.getD r 0 := by
  have hB : ∀ i, i < n → ((colM b).getD i []).length = 1 := fun i hi => colM_rect (by omega)
  have key := (sol_iff hX hXr hB (reg_det hX hXr h) (q := 0) (by omega) (fun k => (sol1 X b).getD k 0)).2 (fun i hi => by
    unfold sol1
    rw [colAt_get (by rw [solX_len]; omega)]
    rfl) r hr
  rw [dot_sum]
  have e : ent (colM b) r 0 = b.getD r 0 := by
    show ((colM b).getD r []).getD 0 0 = _
    rw [colM_get (by omega)]
    rfl
  rw [← e, ← key]
  rfl
end
end Wx
