import Derived.Handy
import Derived.Test.YtpiniclogfefjaaJResidual0
import Derived.Test.YtpiniclogfefjaaCResidualRat1
import Derived.Test.YtpiniclogfefjaaJResidual14
import Derived.Test.YtpiniclogfefjaaJResidual16
import Derived.Test.YtpiniclogfefjaaCResidualInv
import Derived.Test.YtpiniclogfefjaaCResidualSem
import Derived.Test.YtpiniclogfefjaaCResidualSemOps
import Derived.Test.YtpiniclogfefjaaCResidualSemMem
import Derived.Test.YtpiniclogfefjaaJResidual6
import Derived.Test.YtpiniclogfefjaaCResidualSemRow
import Derived.Test.YtpiniclogfefjaaJResidual26
import Derived.Test.YtpiniclogfefjaaCResidualSemAppend
import Derived.Test.YtpiniclogfefjaaJResidual24
import Derived.Test.YtpiniclogfefjaaCResidualSemObj
import Derived.Test.YtpiniclogfefjaaJResidual29
import Derived.Test.YtpiniclogfefjaaJResidual30
import Derived.Test.YtpiniclogfefjaaCResidualSemCopy
import Derived.Test.YtpiniclogfefjaaCResidualSemApp
import Derived.Test.YtpiniclogfefjaaJResidual34
import Derived.Test.YtpiniclogfefjaaJResidual35
import Derived.Test.YtpiniclogfefjaaJResidual38
namespace Wx

section
variable {X : List (List Rat)} {n c k : Nat}
theorem redAt_ent {x y : List Rat} {f : Rat} {m q : Nat} (h1 : q < x.length) (h2 : q < m) : (redAt x 0 y 0 f m).getD q 0 = x.getD q 0 - f * y.getD q 0 := by
  unfold redAt
  rw [getD_opt, List.getElem?_mapIdx, List.getElem?_eq_getElem h1, getD_opt x, List.getElem?_eq_getElem h1]
  show (if 0 ≤ q ∧ q < 0 + m then x[q] - f * y.getD (0 + (q - 0)) 0 else x[q]) = _
  rw [if_pos (by omega), show 0 + (q - 0) = q by omega]
  rfl
theorem redD_ent {x y : List Rat} {q : Nat} (h1 : q < x.length) (h2 : q < y.length) : (redD x y c).getD q 0 = x.getD q 0 + -(x.getD c 0 / y.getD c 0) * y.getD q 0 := by
  unfold redD
  split
  · rename_i h
    rw [h]
    grind
  · rw [redAt_ent h1 h2]
    grind
theorem elimD_row (hl : X.length = n) (hr : Rect n X) (hc : c < n) (hk : k < n) (hck : c < k) : ∀ r q, r < n → q < n → ent (elimD X c (k + 1)) r q = setR (ent (elimD X c k)) k (fun q => ent (elimD X c k) k q + -(ent X k c / ent X c c) * ent (elimD X c k) c q) r q := by
  intro r q hrn hq
  unfold setR
  by_cases h : r = k
  · subst h
    rw [if_pos rfl]
    unfold ent
    rw [elimD_get (by omega), if_pos (by omega), elimD_at (by omega) (Nat.le_refl _), elimD_own (by omega), redD_ent (by rw [hr _ (by omega)]; exact hq) (by rw [hr _ (by omega)]; exact hq)]
  · rw [if_neg h]
    unfold ent
    rw [elimD_get (by omega), elimD_get (by omega)]
    by_cases h1 : c < r ∧ r < k
    · rw [if_pos (by omega), if_pos h1]
    · rw [if_neg (by omega), if_neg h1]
theorem det_elimD (hl : X.length = n) (hr : Rect n X) (hc : c < n) (B : Mat) : ∀ k, k ≤ n → c < k → det n (ent (elimD X c k)) = det n (ent X) ∧ det n (mulF n (ent (elimD X c k)) B) = det n (mulF n (ent X) B) := by
  intro k hk hck
  induction k with
  | zero => omega
  | succ k ih =>
    by_cases h : c = k
    · subst h
      rw [elimD_start]
      exact ⟨rfl, rfl⟩
    · obtain ⟨h1, h2⟩ := ih (by omega) (by omega)
      have e := elimD_row hl hr hc (show k < n by omega) (by omega)
      refine ⟨?_, ?_⟩
      · rw [det_congr e, det_rowadd (by omega) hc (fun e => h e.symm), h1]
      · rw [det_congr (mulF_congr e), mul_rowadd (by omega) hc (fun e => h e.symm), h2]
theorem swap_row {a b : Nat} (hl : X.length = n) (ha : a < n) (hb : b < n) : ∀ r q, ent (swapL X a b) r q = setR (setR (ent X) a (ent X b)) b (ent X a) r q := by
  intro r q
  have hx : X[a]? = some (X.getD a []) := by rw [getD_opt, List.getElem?_eq_getElem (by omega)]; rfl
  have hy : X[b]? = some (X.getD b []) := by rw [getD_opt, List.getElem?_eq_getElem (by omega)]; rfl
  have h := swapL_get hx hy r
  unfold setR ent
  rw [getD_opt (swapL X a b), h]
  by_cases h1 : r = b
  · rw [if_pos h1, if_pos h1]; rfl
  · rw [if_neg h1, if_neg h1]
    by_cases h2 : r = a
    · rw [if_pos h2, if_pos h2]; rfl
    · rw [if_neg h2, if_neg h2, getD_opt X]
def sg1 (X : List (List Rat)) (c : Nat) : Rat := if pivI X c > 0 then -1 else 1
theorem det_pivL (hl : X.length = n) (hc : c < n) (B : Mat) : det n (ent X) = sg1 X c * det n (ent (pivL X X c)) ∧ det n (mulF n (ent X) B) = sg1 X c * det n (mulF n (ent (pivL X X c)) B) := by
  unfold sg1
  have hr := pivI_range (X := X) (c := c) (by omega)
  by_cases h : pivI X c > 0
  · rw [if_pos h]
    have e : pivL X X c = swapL X c (c + (pivI X c).toNat) := by unfold pivL; rw [if_neg (by omega)]
    have hs := swap_row (a := c) (b := c + (pivI X c).toNat) hl hc (by omega)
    rw [e]
    refine ⟨?_, ?_⟩
    · rw [det_congr fun r q _ _ => hs r q, det_swap hc (by omega) (by omega)]
      grind
    · rw [det_congr (mulF_congr fun r q _ _ => hs r q), mul_swap hc (by omega) (by omega)]
      grind
  · rw [if_neg h]
    have e : pivL X X c = X := by
      unfold pivL
      split
      · rfl
      · have h0 : (pivI X c).toNat = 0 := by omega
        rw [h0, Nat.add_zero]
        have hx : X[c]? = some (X.getD c []) := by rw [getD_opt, List.getElem?_eq_getElem (by omega)]; rfl
        rw [swapL_of hx hx]
        apply List.ext_getElem?
        intro i
        by_cases hi : i = c
        · subst hi
          rw [List.getElem?_set_self (by rw [List.length_set]; omega), hx]
        · rw [List.getElem?_set_ne (Ne.symm hi), List.getElem?_set_ne (Ne.symm hi)]
    rw [e]
    exact ⟨(Rat.one_mul _).symm, (Rat.one_mul _).symm⟩
theorem pivL_above (hl : X.length = n) (hc : c < n) {r : Nat} (h : r < c) : (pivL X X c).getD r [] = X.getD r [] := by
  have hr := pivI_range (X := X) (c := c) (by omega)
  unfold pivL
  split
  · rfl
  · have hx : X[c]? = some (X.getD c []) := by rw [getD_opt, List.getElem?_eq_getElem (by omega)]; rfl
    have hb : c + (pivI X c).toNat < X.length := by omega
    have hy : X[c + (pivI X c).toNat]? = some (X.getD (c + (pivI X c).toNat) []) := by rw [getD_opt, List.getElem?_eq_getElem hb]; rfl
    rw [getD_opt (swapL _ _ _), swapL_get hx hy, if_neg (by omega), if_neg (by omega), getD_opt]
theorem pivL_below (hl : X.length = n) (hc : c < n) {r : Nat} (h : c ≤ r) (hrn : r < n) : ∃ q, c ≤ q ∧ q < n ∧ (pivL X X c).getD r [] = X.getD q [] := by
  have hr := pivI_range (X := X) (c := c) (by omega)
  unfold pivL
  split
  · exact ⟨r, h, hrn, rfl⟩
  · have hx : X[c]? = some (X.getD c []) := by rw [getD_opt, List.getElem?_eq_getElem (by omega)]; rfl
    have hb : c + (pivI X c).toNat < X.length := by omega
    have hy : X[c + (pivI X c).toNat]? = some (X.getD (c + (pivI X c).toNat) []) := by rw [getD_opt, List.getElem?_eq_getElem hb]; rfl
    rw [getD_opt (swapL _ _ _), swapL_get hx hy]
    split
    · exact ⟨c, Nat.le_refl _, hc, rfl⟩
    · split
      · exact ⟨_, by omega, by omega, rfl⟩
      · exact ⟨r, h, hrn, by rw [getD_opt]⟩
theorem firstI_none {p : Nat → Bool} {n : Nat} (h : firstI p n < 0) : ∀ j, j < n → p j = false := by
  intro j hj
  unfold firstI at h
  split at h
  · rename_i i hi
    omega
  · rename_i hi
    have := List.find?_eq_none.1 hi j (List.mem_range.2 hj)
    simpa using this
theorem piv_none (hl : X.length = n) (h : pivI X c < 0) : ∀ r, c ≤ r → r < n → ent X r c = 0 := by
  intro r h1 h2
  have := firstI_none (p := fun i => !(decide ((X.getD (c + i) []).getD c 0 = 0))) h (r - c) (by omega)
  have this : (!(decide ((X.getD (c + (r - c)) []).getD c 0 = 0))) = false := this
  rw [show c + (r - c) = r by omega] at this
  unfold ent
  simpa using this
end
structure DetInv (X : List (List Rat)) (n k : Nat) : Prop where
  zero : ∀ r q, q < k → q < r → r < n → ent (dX X k) r q = 0
  diag : ∀ q, q < k → ent (dX X k) q q ≠ 0
  sign : ∃ s : Rat, s ≠ 0 ∧ dD X k = s * prodN k (fun q => ent (dX X k) q q) ∧ det n (ent X) = s * det n (ent (dX X k)) ∧ ∀ B, det n (mulF n (ent X) B) = s * det n (mulF n (ent (dX X k)) B)
theorem detInv {X : List (List Rat)} {n : Nat} (hl : X.length = n) (hr : Rect n X) : ∀ k, k ≤ n → (∀ c, c < k → 0 ≤ pivI (dX X c) c) → DetInv X n k
  | 0, _, _ => ⟨fun _ q h => absurd h (Nat.not_lt_zero _), fun q h => absurd h (Nat.not_lt_zero _), 1, by decide, by show (1 : Rat) = 1 * 1; rw [Rat.one_mul], (Rat.one_mul _).symm, fun _ => (Rat.one_mul _).symm⟩
  | k + 1, hk, hp => by
    obtain ⟨h1, h2, s, hs0, h3, h4, h5⟩ := detInv hl hr k (by omega) fun c hc => hp c (by omega)
    have hXl : (dX X k).length = n := by rw [dX_len]; exact hl
    have hXr : Rect n (dX X k) := hr.dX k (by omega)
    have hPl : (pivL (dX X k) (dX X k) k).length = n := by rw [pivL_len]; exact hXl
    have hPr : Rect n (pivL (dX X k) (dX X k) k) := hXr.piv (by omega)
    have hpk := hp k (by omega)
    have hne : ent (pivL (dX X k) (dX X k) k) k k ≠ 0 := piv_ne (by omega) hpk
    have eE : dX X (k + 1) = elimD (pivL (dX X k) (dX X k) k) k n := by show elimD _ k X.length = _; rw [hl]
    -- rows up to k
    have row : ∀ r, r ≤ k → (dX X (k + 1)).getD r [] = (pivL (dX X k) (dX X k) k).getD r [] := fun r h => by rw [eE, elimD_get (by omega), if_neg (by omega)]
    have above : ∀ r, r < k → (dX X (k + 1)).getD r [] = (dX X k).getD r [] := fun r h => by rw [row r (by omega), pivL_above hXl (by omega) h]
    have zb : ∀ r q, q < k → k ≤ r → r < n → ent (pivL (dX X k) (dX X k) k) r q = 0 := fun r q hq h hrn => by
      obtain ⟨t, ht1, ht2, e⟩ := pivL_below hXl (show k < n by omega) h hrn
      unfold ent
      rw [e]
      exact h1 t q hq (by omega) ht2
    refine ⟨fun r q hq hqr hrn => ?_, fun q hq => ?_, s * sg1 (dX X k) k, ?_, ?_, ?_, fun B => ?_⟩
    · rcases Nat.lt_or_ge r k with h | h
      · unfold ent
        rw [above r h]
        exact h1 r q (by omega) hqr hrn
      · by_cases e : r = k
        · subst e
          unfold ent
          rw [row r (Nat.le_refl _)]
          exact zb r q (by omega) (Nat.le_refl _) hrn
        · unfold ent
          rw [eE, elimD_get (by omega), if_pos (by omega), redD_ent (by rw [hPr r (by omega)]; omega) (by rw [hPr k (by omega)]; omega)]
          rcases Nat.lt_or_ge q k with h6 | h6
          · have z1 := zb r q h6 h hrn
            have z2 := zb k q h6 (Nat.le_refl _) (by omega)
            unfold ent at z1 z2
            rw [z1, z2]
            grind
          · have : q = k := by omega
            subst this
            unfold ent at hne
            rw [Rat.div_def]
            have := Rat.mul_inv_cancel _ hne
            grind
    · rcases Nat.lt_or_ge q k with h | h
      · unfold ent
        rw [above q h]
        exact h2 q h
      · have : q = k := by omega
        subst this
        unfold ent
        rw [row q (Nat.le_refl _)]
        exact hne
    · intro h
      rcases Rat.mul_eq_zero.1 h with h | h
      · exact hs0 h
      · unfold sg1 at h
        split at h
        · revert h; decide
        · revert h; decide
    · have e1 : ent (dX X (k + 1)) k k = ent (pivL (dX X k) (dX X k) k) k k := by unfold ent; rw [row k (Nat.le_refl _)]
      show (if pivI (dX X k) k > 0 then -(dD X k) else dD X k) * ent (pivL (dX X k) (dX X k) k) k k = s * sg1 (dX X k) k * (prodN k (fun q => ent (dX X (k + 1)) q q) * ent (dX X (k + 1)) k k)
      rw [e1, prodN_congr (g := fun q => ent (dX X k) q q) fun q hq => by unfold ent; rw [above q hq], h3]
      unfold sg1
      split <;> grind
    · rw [h4, (det_pivL hXl (show k < n by omega) (fun _ _ => 0)).1, eE, (det_elimD hPl hPr (show k < n by omega) (fun _ _ => 0) n (Nat.le_refl _) (by omega)).1]
      grind
    · rw [h5 B, (det_pivL hXl (show k < n by omega) B).2, eE, (det_elimD hPl hPr (show k < n by omega) B n (Nat.le_refl _) (by omega)).2]
      grind
theorem first_sing {P : Nat → Prop} {n : Nat} (h : ∃ c, c < n ∧ P c) : ∃ c, c < n ∧ P c ∧ ∀ q, q < c → ¬ P q := by
  induction n with
  | zero => obtain ⟨c, hc, _⟩ := h; omega
  | succ n ih =>
    by_cases h1 : ∃ c, c < n ∧ P c
    · obtain ⟨c, hc, h2, h3⟩ := ih h1
      exact ⟨c, by omega, h2, h3⟩
    · obtain ⟨c, hc, h2⟩ := h
      refine ⟨c, hc, h2, fun q hq h3 => h1 ⟨q, by omega, h3⟩⟩
theorem detG_det {X : List (List Rat)} {n : Nat} (hl : X.length = n) (hr : Rect n X) : detG X = det n (ent X) ∧ (dSing X n ↔ det n (ent X) = 0) ∧ ∀ B, det n (mulF n (ent X) B) = det n (ent X) * det n B := by
  by_cases hs : dSing X n
  · obtain ⟨c, hc, h1, h2⟩ := first_sing hs
    obtain ⟨g1, _, s, _, _, g4, g5⟩ := detInv hl hr c (by omega) fun q hq => by have := h2 q hq; omega
    have hXl : (dX X c).length = n := by rw [dX_len]; exact hl
    have hz := piv_none hXl h1
    have h0 : det n (ent X) = 0 := by
      rw [g4, det_sing hc (fun r q hq hqr hrn => g1 r q hq hqr hrn) hz, Rat.mul_zero]
    refine ⟨by rw [h0, detG_sing (by rw [hl]; exact hs)], ⟨fun _ => h0, fun _ => hs⟩, fun B => ?_⟩
    rw [h0, Rat.zero_mul, g5 B]
    -- the rows from c on lean on each other
    obtain ⟨x, ⟨p, hp, hxp⟩, hx⟩ := dep (n - c - 1) (n - c) (fun i k => ent (dX X c) (c + i) (c + 1 + k)) (by omega)
    let y : Nat → Rat := fun i => if c ≤ i then x (i - c) else 0
    have hall : ∀ k, k < n → sumN n (fun i => y i * ent (dX X c) i k) = 0 := by
      intro k hk
      have split : ∀ m, c + m ≤ n → sumN (c + m) (fun i => y i * ent (dX X c) i k) = sumN m fun i => x i * ent (dX X c) (c + i) k := by
        intro m
        induction m with
        | zero =>
          intro _
          exact sumN_zero fun i hi => by
            show (if c ≤ i then _ else (0 : Rat)) * _ = 0
            rw [if_neg (by omega), Rat.zero_mul]
        | succ m ih =>
          intro hm
          show sumN (c + m) _ + y (c + m) * _ = sumN m _ + x m * _
          rw [ih (by omega)]
          have : y (c + m) = x m := by
            show (if c ≤ c + m then x (c + m - c) else 0) = x m
            rw [if_pos (by omega), show c + m - c = m by omega]
          rw [this]
          rfl
      have := split (n - c) (by omega)
      rw [show c + (n - c) = n by omega] at this
      rw [this]
      rcases Nat.lt_or_ge c k with h | h
      · have := hx (k - c - 1) (by omega)
        rw [← this]
        refine sumN_congr fun i _ => ?_
        show _ = x i * ent (dX X c) (c + i) (c + 1 + (k - c - 1))
        rw [show c + 1 + (k - c - 1) = k by omega]
      · refine sumN_zero fun i hi => ?_
        by_cases e : k = c
        · subst e
          rw [hz (k + i) (by omega) (by omega), Rat.mul_zero]
        · rw [g1 (c + i) k (by omega) (by omega) (by omega), Rat.mul_zero]
    have : det n (mulF n (ent (dX X c)) B) = 0 := by
      refine det_dep (p := c + p) (x := y) (by omega) ?_ fun q hq => ?_
      · show (if c ≤ c + p then x (c + p - c) else 0) ≠ 0
        rw [if_pos (by omega), show c + p - c = p by omega]
        exact hxp
      · have e : ∀ i, y i * mulF n (ent (dX X c)) B i q = sumN n fun k => B k q * (y i * ent (dX X c) i k) := fun i => by
          unfold mulF
          rw [← sumN_mul]
          exact sumN_congr fun k _ => by grind
        rw [sumN_congr fun i _ => e i, sumN_swap]
        exact sumN_zero fun k hk => by rw [sumN_mul, hall k hk, Rat.mul_zero]
    rw [this, Rat.mul_zero]
  · have hp : ∀ c, c < n → 0 ≤ pivI (dX X c) c := fun c hc => by
      rcases Int.lt_or_le (pivI (dX X c) c) 0 with h | h
      · exact absurd ⟨c, hc, h⟩ hs
      · exact h
    obtain ⟨g1, g2, s, hs0, g3, g4, g5⟩ := detInv hl hr n (Nat.le_refl _) hp
    have hU : det n (ent (dX X n)) = prodN n fun q => ent (dX X n) q q := det_upper fun r q h1 h2 => g1 r q (by omega) h1 h2
    have e : detG X = det n (ent X) := by rw [detG_reg (by rw [hl]; exact hs), hl, g3, g4, hU]
    have hnz : ∀ m, m ≤ n → prodN m (fun q => ent (dX X n) q q) ≠ 0 := by
      intro m
      induction m with
      | zero => intro _; show (1 : Rat) ≠ 0; decide
      | succ m ih =>
        intro hm h
        rcases Rat.mul_eq_zero.1 h with h | h
        · exact ih (by omega) h
        · exact g2 m (by omega) h
    refine ⟨e, ⟨fun h => absurd h hs, fun h => ?_⟩, fun B => ?_⟩
    · rw [g4, hU] at h
      rcases Rat.mul_eq_zero.1 h with h | h
      · exact absurd h hs0
      · exact absurd h (hnz n (Nat.le_refl _))
    · rw [g5 B, mul_upper fun r q h1 h2 => g1 r q (by omega) h1 h2, g4, hU]
      grind
end Wx
