import Derived.Handy
import Derived.Test.YtpiniclogfefjaaJResidual0
import Derived.Test.YtpiniclogfefjaaCResidualRat1
import Derived.Test.YtpiniclogfefjaaJResidual14
import Derived.Test.YtpiniclogfefjaaJResidual16
import Derived.Test.YtpiniclogfefjaaCResidualInv
import Derived.Test.YtpiniclogfefjaaCResidualSem
import Derived.Test.YtpiniclogfefjaaCResidualSemOps
import Derived.Test.YtpiniclogfefjaaCResidualSemMem
import Derived.Test.YtpiniclogfefjaaJResidual6
import Derived.Test.YtpiniclogfefjaaCResidualSemRow
import Derived.Test.YtpiniclogfefjaaJResidual26
import Derived.Test.YtpiniclogfefjaaCResidualSemAppend
import Derived.Test.YtpiniclogfefjaaJResidual24
import Derived.Test.YtpiniclogfefjaaCResidualSemObj
import Derived.Test.YtpiniclogfefjaaJResidual29
import Derived.Test.YtpiniclogfefjaaJResidual30
import Derived.Test.YtpiniclogfefjaaCResidualSemCopy
import Derived.Test.YtpiniclogfefjaaCResidualSemApp
import Derived.Test.YtpiniclogfefjaaJResidual34
import Derived.Test.YtpiniclogfefjaaCResidualMem
import Derived.KernelRfl
import Derived.Test.YtpiniclogfefjaaProg
namespace Wx

theorem getD_opt {α : Type} (X : List α) (i : Nat) (d : α) : X.getD i d = X[i]?.getD d := List.getD_eq_getElem?_getD
theorem getD_out {α : Type} {X : List α} {i : Nat} {d : α} (h : X.length ≤ i) : X.getD i d = d := by rw [getD_opt, List.getElem?_eq_none h]; rfl
def joinX (A B : List (List Rat)) (n k : Nat) : List (List Rat) := (List.range n).map fun i => if i < k then A.getD i [] ++ B.getD i [] else A.getD i []
section
variable {A B : List (List Rat)} {n k : Nat}
theorem joinX_len : (joinX A B n k).length = n := by unfold joinX; rw [List.length_map, List.length_range]
theorem joinX_get {i : Nat} (h : i < n) : (joinX A B n k).getD i [] = if i < k then A.getD i [] ++ B.getD i [] else A.getD i [] := by
  unfold joinX
  rw [List.getD_eq_getElem?_getD, List.getElem?_map, List.getElem?_range h]
  rfl
theorem list_ext {α : Type} {X Y : List α} {d : α} (hl : X.length = Y.length) (h : ∀ i, i < X.length → X.getD i d = Y.getD i d) : X = Y := by
  apply List.ext_getElem hl
  intro i h1 h2
  have := h i h1
  rwa [List.getD_eq_getElem?_getD, List.getD_eq_getElem?_getD, List.getElem?_eq_getElem h1, List.getElem?_eq_getElem h2] at this
theorem joinX_zero : joinX A B A.length 0 = A := list_ext (d := []) joinX_len fun i hi => by
  rw [joinX_len] at hi
  rw [joinX_get hi, if_neg (Nat.not_lt_zero _)]
theorem joinX_step (hk : k < n) : (joinX A B n k).set k ((joinX A B n k).getD k [] ++ B.getD k []) = joinX A B n (k + 1) := by
  refine list_ext (d := []) (by rw [List.length_set, joinX_len, joinX_len]) fun i hi => ?_
  rw [List.length_set, joinX_len] at hi
  rw [getD_set (by rw [joinX_len]; exact hk), joinX_get hi, joinX_get hi, joinX_get hk, if_neg (Nat.lt_irrefl _)]
  by_cases h : i = k
  · subst h
    rw [if_pos rfl, if_pos (by omega)]
  · rw [if_neg h]
    by_cases h1 : i < k
    · rw [if_pos h1, if_pos (by omega)]
    · rw [if_neg h1, if_neg (by omega)]
end
def divAt (L : List Rat) (p : Rat) (k : Nat) : List Rat := L.mapIdx fun i x => if i < k then x / p else x
section
variable {L : List Rat} {p : Rat} {k : Nat}
theorem divAt_len : (divAt L p k).length = L.length := by unfold divAt; exact List.length_mapIdx
theorem divAt_get {i : Nat} (hi : i < L.length) : (divAt L p k).getD i 0 = if i < k then L.getD i 0 / p else L.getD i 0 := by
  unfold divAt
  rw [List.getD_eq_getElem?_getD, List.getElem?_mapIdx, List.getElem?_eq_getElem hi, List.getD_eq_getElem?_getD, List.getElem?_eq_getElem hi]
  rfl
theorem divAt_zero : divAt L p 0 = L := list_ext (d := 0) divAt_len fun i hi => by
  rw [divAt_len] at hi
  rw [divAt_get hi, if_neg (Nat.not_lt_zero _)]
theorem divAt_step (hk : k < L.length) : (divAt L p k).set k (L.getD k 0 / p) = divAt L p (k + 1) := by
  refine list_ext (d := 0) (by rw [List.length_set, divAt_len, divAt_len]) fun i hi => ?_
  rw [List.length_set, divAt_len] at hi
  rw [getD_set (by rw [divAt_len]; exact hk), divAt_get hi, divAt_get hi]
  by_cases h : i = k
  · subst h
    rw [if_pos rfl, if_pos (by omega)]
  · rw [if_neg h]
    by_cases h1 : i < k
    · rw [if_pos h1, if_pos (by omega)]
    · rw [if_neg h1, if_neg (by omega)]
end
def redRow (x y : List Rat) (c : Nat) : List Rat := if x.getD c 0 = 0 then x else redAt x 0 y 0 (x.getD c 0) y.length
def elimX (X : List (List Rat)) (c k : Nat) : List (List Rat) := X.mapIdx fun i row => if i < k ∧ i ≠ c then redRow row (X.getD c []) c else row
theorem redRow_len (x y : List Rat) (c : Nat) : (redRow x y c).length = x.length := by
  unfold redRow
  split
  · rfl
  · exact redAt_len
section
variable {X : List (List Rat)} {c k : Nat}
theorem elimX_len : (elimX X c k).length = X.length := by unfold elimX; exact List.length_mapIdx
theorem elimX_get {i : Nat} (hi : i < X.length) : (elimX X c k).getD i [] = if i < k ∧ i ≠ c then redRow (X.getD i []) (X.getD c []) c else X.getD i [] := by
  unfold elimX
  rw [List.getD_eq_getElem?_getD, List.getElem?_mapIdx, List.getElem?_eq_getElem hi, List.getD_eq_getElem?_getD, List.getD_eq_getElem?_getD, List.getElem?_eq_getElem hi]
  rfl
theorem elimX_zero : elimX X c 0 = X := list_ext (d := []) elimX_len fun i hi => by
  rw [elimX_len] at hi
  rw [elimX_get hi, if_neg (by omega)]
theorem elimX_skip : elimX X k (k + 1) = elimX X k k := list_ext (d := []) (by rw [elimX_len, elimX_len]) fun i hi => by
  rw [elimX_len] at hi
  rw [elimX_get hi, elimX_get hi]
  by_cases h : i < k
  · rw [if_pos (by omega), if_pos (by omega)]
  · rw [if_neg (by omega), if_neg (by omega)]
theorem elimX_own (hc : c < X.length) : (elimX X c k).getD c [] = X.getD c [] := by rw [elimX_get hc, if_neg (by omega)]
theorem elimX_at {i : Nat} (hi : i < X.length) (h : k ≤ i) : (elimX X c k).getD i [] = X.getD i [] := by rw [elimX_get hi, if_neg (by omega)]
theorem elimX_step (hk : k < X.length) (hne : k ≠ c) : (elimX X c k).set k (redRow (X.getD k []) (X.getD c []) c) = elimX X c (k + 1) := by
  refine list_ext (d := []) (by rw [List.length_set, elimX_len, elimX_len]) fun i hi => ?_
  rw [List.length_set, elimX_len] at hi
  rw [getD_set (by rw [elimX_len]; exact hk), elimX_get hi, elimX_get hi]
  by_cases h : i = k
  · subst h
    rw [if_pos rfl, if_pos (by omega)]
  · rw [if_neg h]
    by_cases h1 : i < k ∧ i ≠ c
    · rw [if_pos h1, if_pos (by omega)]
    · rw [if_neg h1, if_neg (by omega)]
end
def normX (X : List (List Rat)) (c : Nat) : List (List Rat) := X.set c (divAt (X.getD c []) ((X.getD c []).getD c 0) (X.getD c []).length)
def gjStep (X : List (List Rat)) (c : Nat) : List (List Rat) := elimX (normX (pivL X X c) c) c X.length
def gjX (X : List (List Rat)) : Nat → List (List Rat)
  | 0 => X
  | c + 1 => gjStep (gjX X c) c
def gjSing (X : List (List Rat)) (k : Nat) : Prop := ∃ c, c < k ∧ pivI (gjX X c) c < 0
def Rect (m : Nat) (X : List (List Rat)) : Prop := ∀ i, i < X.length → (X.getD i []).length = m
def BdX (j : Nat) (X : List (List Rat)) : Prop := ∀ i k, BdR j ((X.getD i []).getD k 0)
theorem bd_mem {j : Nat} {l : List Rat} (h : ∀ k, BdR j (l.getD k 0)) : ∀ x, x ∈ l → BdR j x := by
  intro x hx
  obtain ⟨k, hk⟩ := List.mem_iff_getElem?.1 hx
  have := h k
  rwa [List.getD_eq_getElem?_getD, hk] at this
theorem pivL_len {α : Type} (X : List (List Rat)) (l : List α) (c : Nat) : (pivL X l c).length = l.length := by
  unfold pivL
  split
  · rfl
  · exact swapL_len _ _ _
theorem pivL_get (X : List (List Rat)) {c i : Nat} (hc : c < X.length) (hi : i < X.length) : ∃ j, j < X.length ∧ (pivL X X c).getD i [] = X.getD j [] := by
  unfold pivL
  split
  · exact ⟨i, hi, rfl⟩
  · have hr := pivI_range hc
    have h2 : c + (pivI X c).toNat < X.length := by omega
    have e := swapL_get (List.getElem?_eq_getElem hc) (List.getElem?_eq_getElem h2) i
    rw [List.getD_eq_getElem?_getD, e]
    split
    · exact ⟨c, hc, by rw [List.getD_eq_getElem?_getD, List.getElem?_eq_getElem hc]⟩
    · split
      · exact ⟨_, h2, by rw [List.getD_eq_getElem?_getD, List.getElem?_eq_getElem h2]⟩
      · exact ⟨i, hi, by rw [List.getD_eq_getElem?_getD]⟩
theorem firstI_at {p : Nat → Bool} {n : Nat} (h : 0 ≤ firstI p n) : p (firstI p n).toNat = true := by
  unfold firstI at *
  split at h
  · rename_i i hi
    have := List.find?_some hi
    rw [Int.toNat_natCast]
    exact this
  · omega
theorem piv_ne {X : List (List Rat)} {c : Nat} (hc : c < X.length) (h : 0 ≤ pivI X c) : ((pivL X X c).getD c []).getD c 0 ≠ 0 := by
  have h1 := firstI_at (p := fun i => !(decide ((X.getD (c + i) []).getD c 0 = 0))) h
  have h1 : (!(decide ((X.getD (c + (pivI X c).toNat) []).getD c 0 = 0))) = true := h1
  have h2 : (X.getD (c + (pivI X c).toNat) []).getD c 0 ≠ 0 := by simpa using h1
  have hr := pivI_range hc
  have hlt : c + (pivI X c).toNat < X.length := by omega
  have e : (pivL X X c).getD c [] = X.getD (c + (pivI X c).toNat) [] := by
    unfold pivL
    rw [if_neg (by omega), getD_opt (swapL _ _ _), swapL_get (List.getElem?_eq_getElem hc) (List.getElem?_eq_getElem hlt) c]
    by_cases h0 : c = c + (pivI X c).toNat
    · rw [if_pos h0, ← h0, getD_opt, List.getElem?_eq_getElem hc]
    · rw [if_neg h0, if_pos rfl, getD_opt, List.getElem?_eq_getElem hlt]
  rw [e]
  exact h2
section
variable {X : List (List Rat)} {m j c : Nat}
theorem Rect.piv (h : Rect m X) (hc : c < X.length) : Rect m (pivL X X c) := fun i hi => by
  rw [pivL_len] at hi
  obtain ⟨q, hq, e⟩ := pivL_get X hc hi
  rw [e]
  exact h q hq
theorem normX_len : (normX X c).length = X.length := List.length_set ..
theorem Rect.norm (h : Rect m X) (hc : c < X.length) : Rect m (normX X c) := fun i hi => by
  rw [normX_len] at hi
  unfold normX
  rw [getD_set hc]
  split
  · rw [divAt_len]; exact h c hc
  · exact h i hi
theorem Rect.elim {k : Nat} (h : Rect m X) : Rect m (elimX X c k) := fun i hi => by
  rw [elimX_len] at hi
  rw [elimX_get hi]
  split
  · rw [redRow_len]; exact h i hi
  · exact h i hi
theorem gjStep_len : (gjStep X c).length = X.length := by unfold gjStep; rw [elimX_len, normX_len, pivL_len]
theorem Rect.step (h : Rect m X) (hc : c < X.length) : Rect m (gjStep X c) := ((h.piv hc).norm (by rw [pivL_len]; exact hc)).elim
theorem gjX_len : ∀ k, (gjX X k).length = X.length
  | 0 => rfl
  | k + 1 => by show (gjStep (gjX X k) k).length = _; rw [gjStep_len, gjX_len k]
theorem Rect.gj (h : Rect m X) : ∀ k, k ≤ X.length → Rect m (gjX X k)
  | 0, _ => h
  | k + 1, hk => (Rect.gj h k (by omega)).step (by rw [gjX_len]; omega)
theorem BdX.piv (h : BdX j X) (hc : c < X.length) (h1 : 1 ≤ j) : BdX j (pivL X X c) := fun i k => by
  rcases Nat.lt_or_ge i X.length with hi | hi
  · obtain ⟨q, _, e⟩ := pivL_get X hc hi
    rw [e]
    exact h q k
  · rw [getD_out (X := pivL X X c) (by rw [pivL_len]; exact hi)]
    exact bd_zero.mono h1
theorem bd_divAt {L : List Rat} {p : Rat} {k jp : Nat} (h : ∀ k, BdR j (L.getD k 0)) (hp : BdR jp p) (h1 : 1 ≤ j) : ∀ q, BdR (j + jp) ((divAt L p k).getD q 0) := fun q => by
  rcases Nat.lt_or_ge q L.length with hq | hq
  · rw [divAt_get hq]
    split
    · exact (h q).quo hp
    · exact (h q).mono (by omega)
  · rw [List.getD_eq_getElem?_getD, List.getElem?_eq_none (by rw [divAt_len]; exact hq)]
    exact bd_zero.mono (by omega)
theorem bd_redAt {x y : List Rat} {f : Rat} {s1 s2 k jy jf : Nat} (hx : ∀ k, BdR j (x.getD k 0)) (hy : ∀ k, BdR jy (y.getD k 0)) (hf : BdR jf f) (h1 : 1 ≤ j) : ∀ q, BdR (j + (jf + jy) + j + (jf + jy) + 1) ((redAt x s1 y s2 f k).getD q 0) := fun q => by
  rcases Nat.lt_or_ge q x.length with hq | hq
  · unfold redAt
    rw [List.getD_eq_getElem?_getD, List.getElem?_mapIdx, List.getElem?_eq_getElem hq]
    have hx := hx q
    rw [List.getD_eq_getElem?_getD, List.getElem?_eq_getElem hq] at hx
    show BdR _ (if s1 ≤ q ∧ q < s1 + k then x[q] - f * y.getD (s2 + (q - s1)) 0 else x[q])
    split
    · exact hx.sub_ (hf.mul (hy _))
    · exact hx.mono (by omega)
  · rw [List.getD_eq_getElem?_getD, List.getElem?_eq_none (by rw [redAt_len]; exact hq)]
    exact bd_zero.mono (by omega)
theorem BdX.norm (h : BdX j X) (h1 : 1 ≤ j) (hc : c < X.length) : ∀ k, BdR (j + j) (((normX X c).getD c []).getD k 0) := fun k => by
  unfold normX
  rw [getD_set hc, if_pos rfl]
  exact bd_divAt (h c) (h c c) h1 k
theorem normX_other {i : Nat} (hi : i ≠ c) (hc : c < X.length) : (normX X c).getD i [] = X.getD i [] := by
  unfold normX
  rw [getD_set hc, if_neg hi]
theorem BdX.step (h : BdX j X) (h1 : 1 ≤ j) (hc : c < X.length) : BdX (8 * j + 1) (gjStep X c) := fun i k => by
  have hp := h.piv hc h1
  have hc' : c < (pivL X X c).length := by rw [pivL_len]; exact hc
  have hn := hp.norm h1 hc'
  unfold gjStep
  rcases Nat.lt_or_ge i X.length with hi | hi
  · rw [elimX_get (by rw [normX_len, pivL_len]; exact hi)]
    split
    · rename_i hh
      rw [normX_other hh.2 hc']
      unfold redRow
      split
      · exact (hp i k).mono (by omega)
      · exact (bd_redAt (hp i) hn (hp i c) h1 k).mono (by omega)
    · rename_i hh
      have e : i = c := by
        rcases Nat.lt_or_ge i X.length with h' | h'
        · exact Classical.not_not.1 fun h'' => hh ⟨h', h''⟩
        · omega
      subst e
      exact (hn k).mono (by omega)
  · rw [getD_out (X := elimX _ _ _) (by rw [elimX_len, normX_len, pivL_len]; exact hi)]
    exact bd_zero.mono (by omega)
def gjJ (j : Nat) : Nat → Nat
  | 0 => j
  | k + 1 => 8 * gjJ j k + 1
theorem gjJ_mono {k n : Nat} (h : k ≤ n) : gjJ j k ≤ gjJ j n := by
  induction n with
  | zero => rw [Nat.le_zero.1 h]; exact Nat.le_refl _
  | succ n ih =>
    rcases Nat.lt_or_ge k (n + 1) with h' | h'
    · have := ih (by omega)
      show gjJ j k ≤ 8 * gjJ j n + 1
      omega
    · rw [show k = n + 1 by omega]
      exact Nat.le_refl _
theorem gjJ_pos (h1 : 1 ≤ j) : ∀ k, 1 ≤ gjJ j k
  | 0 => h1
  | k + 1 => by show 1 ≤ 8 * gjJ j k + 1; omega
theorem BdX.gj (h : BdX j X) (h1 : 1 ≤ j) : ∀ k, k ≤ X.length → BdX (gjJ j k) (gjX X k)
  | 0, _ => h
  | k + 1, hk => (BdX.gj h h1 k (by omega)).step (gjJ_pos h1 k) (by rw [gjX_len]; omega)
end
open Go Go.RowKit
theorem divAt_item {L : List Rat} {p : Rat} {k q : Nat} (h : k < L.length) : (rowIt (divAt L p k) q)[k]? = some (itR (L.getD k 0)) := by
  rw [rowIt_get (by rw [divAt_len]; exact h), divAt_get h, if_neg (Nat.lt_irrefl _)]
def dropX (X : List (List Rat)) (n k : Nat) : List (List Rat) := X.mapIdx fun i row => if i < k then row.drop n else row
section
variable {X : List (List Rat)} {n k : Nat}
theorem dropX_len : (dropX X n k).length = X.length := by unfold dropX; exact List.length_mapIdx
theorem dropX_get {i : Nat} (hi : i < X.length) : (dropX X n k).getD i [] = if i < k then (X.getD i []).drop n else X.getD i [] := by
  unfold dropX
  rw [getD_opt, List.getElem?_mapIdx, List.getElem?_eq_getElem hi, getD_opt, List.getElem?_eq_getElem hi]
  rfl
theorem dropX_zero : dropX X n 0 = X := list_ext (d := []) dropX_len fun i hi => by
  rw [dropX_len] at hi
  rw [dropX_get hi, if_neg (Nat.not_lt_zero _)]
theorem dropX_step (hk : k < X.length) : (dropX X n k).set k ((X.getD k []).drop n) = dropX X n (k + 1) := by
  refine list_ext (d := []) (by rw [List.length_set, dropX_len, dropX_len]) fun i hi => ?_
  rw [List.length_set, dropX_len] at hi
  rw [getD_set (by rw [dropX_len]; exact hk), dropX_get hi, dropX_get hi]
  by_cases h : i = k
  · subst h
    rw [if_pos rfl, if_pos (by omega)]
  · rw [if_neg h]
    by_cases h1 : i < k
    · rw [if_pos h1, if_pos (by omega)]
    · rw [if_neg h1, if_neg (by omega)]
end
def augX (A B : List (List Rat)) : List (List Rat) := joinX A B A.length A.length
def solX (A B : List (List Rat)) : List (List Rat) := dropX (gjX (augX A B) A.length) A.length A.length
theorem augX_len {A B : List (List Rat)} : (augX A B).length = A.length := joinX_len
theorem augX_get {A B : List (List Rat)} {i : Nat} (h : i < A.length) : (augX A B).getD i [] = A.getD i [] ++ B.getD i [] := by
  unfold augX
  rw [joinX_get h, if_pos h]
theorem augX_rect {A B : List (List Rat)} {n m : Nat} (hA : Rect n A) (hB : ∀ i, i < A.length → (B.getD i []).length = m) : Rect (n + m) (augX A B) := fun i hi => by
  rw [augX_len] at hi
  rw [augX_get hi, List.length_append, hA i hi, hB i hi]
theorem augX_bd {A B : List (List Rat)} {j : Nat} (hA : BdX j A) (hB : BdX j B) (h1 : 1 ≤ j) : BdX j (augX A B) := fun i k => by
  rcases Nat.lt_or_ge i A.length with hi | hi
  · rw [augX_get hi, getD_opt]
    rcases Nat.lt_or_ge k (A.getD i []).length with hk | hk
    · rw [List.getElem?_append_left hk, ← getD_opt]
      exact hA i k
    · rw [List.getElem?_append_right hk, ← getD_opt]
      exact hB i _
  · rw [getD_out (X := augX A B) (by rw [augX_len]; exact hi)]
    exact bd_zero.mono h1
theorem heap_rats_drop {B : Nat → Prop} {w : World} {H : List Bk} {b n cap p s : Nat} {l : List Rat} (h : HpOk B w H) (he : (⟨b, 3, true, rowIt l p⟩ : Bk) ∈ H) (hn : n = l.length) (hc : n ≤ cap) (hm : cap ≤ maxLen) (hs : s ≤ n) : pRats (l.drop s) w (.slice (some ⟨b, s * 3, none⟩) (n - s) (cap - s)) := by
  subst hn
  obtain ⟨cs, T, h1, h2, _, h4⟩ := h.2.2 _ he
  have h1 : w.heap[b]? = some (.cells cs.toArray T (0, 0)) := h1
  have h2 : (rowIt l p).length * 3 ≤ cs.length := h2
  rw [rowIt_len] at h2
  have hl : (l.drop s).length = l.length - s := List.length_drop ..
  unfold pRats
  rw [hl]
  refine ⟨_, _, rfl, by omega, by omega, fun _ => ⟨b, s * 3, rfl, fun i hi => ⟨(cs.drop ((s + i) * 3)).take 3, ?_, fun j v hj => ?_, ?_⟩⟩⟩
  · rw [List.length_take, List.length_drop]
    omega
  · rw [show s * 3 + i * 3 = (s + i) * 3 by omega]
    exact cells_at h1 _ _ j v hj
  · have e : (l.drop s).getD i 0 = l.getD (s + i) 0 := by rw [getD_opt, getD_opt, List.getElem?_drop]
    show pRat ((l.drop s).getD i 0) w _
    rw [e]
    exact h4 (s + i) _ (rowIt_get (by omega))
theorem tops0_hdr {R : List RowL} {i : Nat} (h : i < R.length) (h0 : (rowAt R i).n ≠ 0) : (tops0 R)[i]? = some (itV (rowAt R i).hdr) := by
  rw [tops0_get h, hdr0_hdr h0]
theorem Inv.uniq {c : Cfg} {V : List Vr} {G : List Ent} {a : Act} {w : World} {id s : Nat} {H : List Bk} (hI : Inv c V [] G none_ a w) (n0 : Nat) (hk : V[n0]? = some (objV id s H)) : ∀ e x, e ∈ H → x ∈ H → e.b = x.b → e.items = x.items := by
  obtain ⟨β, hI⟩ := hI
  intro e x he hx hb
  rw [pair_uniq (hI.obj hk).1.2.1 he hx hb]
theorem post_mono {P : Program} {fn : Func} {R R' : Ending → World → Prop} {a : Act} {w : World} (h : bodyPost P fn R .ret a w) (hm : ∀ e w', R e w' → R' e w') : bodyPost P fn R' .ret a w := by
  obtain ⟨h1, v, h2, h3⟩ := h
  exact ⟨h1, v, h2, hm _ _ h3⟩
def pSol (S : Prop) (n : Nat) (f : Nat → List Rat) : Pred := fun w v => (¬ S → pTup2 (pRow 1 false n fun i => pRats (f i)) (pB true) w v) ∧ (S → pTup2 (pEq (.slice none 0 0)) (pB false) w v)
theorem retB_mono {M : Nat → Nat → Prop} {p q : Pred} {w w' : World} {e : Ending} (h : RetB M p w e w') (hm : ∀ w v, p w v → q w v) : RetB M q w e w' := by
  obtain ⟨v, h1, h2, h3⟩ := h
  exact ⟨v, h1, h2.imp fun w => hm w v, h3⟩
end Wx

namespace Wx

def colM (b : List Rat) : List (List Rat) := b.map fun x => [x]
theorem colM_len (b : List Rat) : (colM b).length = b.length := List.length_map ..
theorem colM_get {b : List Rat} {i : Nat} (h : i < b.length) : (colM b).getD i [] = [b.getD i 0] := by
  unfold colM
  rw [getD_opt, List.getElem?_map, List.getElem?_eq_getElem h, getD_opt, List.getElem?_eq_getElem h]
  rfl
def mulRow (r : List Rat) (C : List (List Rat)) : List Rat := C.map fun c => dotN r c r.length
def mulT (A C : List (List Rat)) : List (List Rat) := A.map fun r => mulRow r C
theorem mulRow_len (r : List Rat) (C : List (List Rat)) : (mulRow r C).length = C.length := List.length_map ..
theorem mulRow_get {r : List Rat} {C : List (List Rat)} {k : Nat} (h : k < C.length) : (mulRow r C).getD k 0 = dotN r (C.getD k []) r.length := by
  unfold mulRow
  rw [getD_opt, List.getElem?_map, List.getElem?_eq_getElem h, getD_opt, List.getElem?_eq_getElem h]
  rfl
theorem mulT_len (A C : List (List Rat)) : (mulT A C).length = A.length := List.length_map ..
theorem mulT_get {A C : List (List Rat)} {i : Nat} (h : i < A.length) : (mulT A C).getD i [] = mulRow (A.getD i []) C := by
  unfold mulT
  rw [getD_opt, List.getElem?_map, List.getElem?_eq_getElem h, getD_opt, List.getElem?_eq_getElem h]
  rfl
end Wx

namespace Wx

def redD (x y : List Rat) (c : Nat) : List Rat := if x.getD c 0 / y.getD c 0 = 0 then x else redAt x 0 y 0 (x.getD c 0 / y.getD c 0) y.length
theorem redD_len (x y : List Rat) (c : Nat) : (redD x y c).length = x.length := by
  unfold redD
  split
  · rfl
  · exact redAt_len
def elimD (X : List (List Rat)) (c k : Nat) : List (List Rat) := X.mapIdx fun i row => if c < i ∧ i < k then redD row (X.getD c []) c else row
section
variable {X : List (List Rat)} {m j c k : Nat}
theorem elimD_len : (elimD X c k).length = X.length := by unfold elimD; exact List.length_mapIdx
theorem elimD_get {i : Nat} (hi : i < X.length) : (elimD X c k).getD i [] = if c < i ∧ i < k then redD (X.getD i []) (X.getD c []) c else X.getD i [] := by
  unfold elimD
  rw [getD_opt, List.getElem?_mapIdx, List.getElem?_eq_getElem hi, getD_opt, getD_opt, List.getElem?_eq_getElem hi]
  rfl
theorem elimD_start : elimD X c (c + 1) = X := list_ext (d := []) elimD_len fun i hi => by
  rw [elimD_len] at hi
  rw [elimD_get hi, if_neg (by omega)]
theorem elimD_at {i : Nat} (hi : i < X.length) (h : k ≤ i) : (elimD X c k).getD i [] = X.getD i [] := by rw [elimD_get hi, if_neg (by omega)]
theorem elimD_own (hc : c < X.length) : (elimD X c k).getD c [] = X.getD c [] := by rw [elimD_get hc, if_neg (by omega)]
def dX (X : List (List Rat)) : Nat → List (List Rat)
  | 0 => X
  | c + 1 => elimD (pivL (dX X c) (dX X c) c) c X.length
def dD (X : List (List Rat)) : Nat → Rat
  | 0 => 1
  | c + 1 => (if pivI (dX X c) c > 0 then -(dD X c) else dD X c) * ((pivL (dX X c) (dX X c) c).getD c []).getD c 0
def dSing (X : List (List Rat)) (k : Nat) : Prop := ∃ c, c < k ∧ pivI (dX X c) c < 0
open Classical in
noncomputable def detG (X : List (List Rat)) : Rat := if dSing X X.length then 0 else dD X X.length
theorem detG_sing (h : dSing X X.length) : detG X = 0 := if_pos h
theorem detG_reg (h : ¬ dSing X X.length) : detG X = dD X X.length := if_neg h
theorem dX_len : ∀ k, (dX X k).length = X.length
  | 0 => rfl
  | k + 1 => by show (elimD (pivL (dX X k) (dX X k) k) k X.length).length = _; rw [elimD_len, pivL_len, dX_len k]
theorem Rect.elimD {k : Nat} (h : Rect m X) : Rect m (Wx.elimD X c k) := fun i hi => by
  rw [elimD_len] at hi
  rw [elimD_get hi]
  split
  · rw [redD_len]; exact h i hi
  · exact h i hi
theorem Rect.dX (h : Rect m X) : ∀ k, k ≤ X.length → Rect m (Wx.dX X k)
  | 0, _ => h
  | k + 1, hk => ((Rect.dX h k (by omega)).piv (by rw [dX_len]; omega)).elimD
end
end Wx

namespace Wx

def sol1 (A : List (List Rat)) (b : List Rat) : List Rat := colAt (solX A (colM b)) 0
def Sing (A : List (List Rat)) (b : List Rat) : Prop := gjSing (augX A (colM b)) A.length
section
variable {A B : List (List Rat)} {b : List Rat} {m j : Nat}
theorem solX_len : (solX A B).length = A.length := by unfold solX; rw [dropX_len, gjX_len, augX_len]
theorem solX_get {i : Nat} (h : i < A.length) : (solX A B).getD i [] = ((gjX (augX A B) A.length).getD i []).drop A.length := by
  unfold solX
  rw [dropX_get (by rw [gjX_len, augX_len]; exact h), if_pos h]
theorem solX_rect (hA : Rect A.length A) (hB : ∀ i, i < A.length → (B.getD i []).length = m) : Rect m (solX A B) := fun i hi => by
  rw [solX_len] at hi
  have h := (augX_rect hA hB).gj A.length (by rw [augX_len]; exact Nat.le_refl _) i (by rw [gjX_len, augX_len]; exact hi)
  rw [solX_get hi, List.length_drop, h]
  omega
theorem solX_bd (hA : BdX j A) (hB : BdX j B) (h1 : 1 ≤ j) : BdX (gjJ j A.length) (solX A B) := fun i k => by
  have h := (augX_bd hA hB h1).gj h1 A.length (by rw [augX_len]; exact Nat.le_refl _)
  rcases Nat.lt_or_ge i A.length with hi | hi
  · rw [solX_get hi, getD_opt, List.getElem?_drop, ← getD_opt]
    exact h i _
  · rw [getD_out (X := solX A B) (by rw [solX_len]; exact hi)]
    exact bd_zero.mono (gjJ_pos h1 _)
theorem colM_rect {i : Nat} (h : i < b.length) : ((colM b).getD i []).length = 1 := by rw [colM_get h]; rfl
theorem colM_bd (hb : ∀ k, BdR j (b.getD k 0)) (h1 : 1 ≤ j) : BdX j (colM b) := fun i k => by
  rcases Nat.lt_or_ge i b.length with hi | hi
  · rw [colM_get hi]
    cases k with
    | zero => exact hb i
    | succ k => exact bd_zero.mono h1
  · rw [getD_out (X := colM b) (by rw [colM_len]; exact hi)]
    exact bd_zero.mono h1
theorem sol1_len : (sol1 A b).length = A.length := by unfold sol1; rw [colAt_len, solX_len]
theorem turnM_rect : Rect A.length (turnM A) := fun i hi => by
  rw [turnM_len] at hi
  rw [turnM_get hi, colAt_len]
theorem bd_col (hb : BdX j B) (h1 : 1 ≤ j) (k : Nat) : ∀ q, BdR j ((colAt B k).getD q 0) := fun q => by
  rcases Nat.lt_or_ge q B.length with h | h
  · rw [colAt_get h]
    exact hb q k
  · rw [getD_out (by rw [colAt_len]; exact h)]
    exact bd_zero.mono h1
theorem turnM_bd (hA : BdX j A) (h1 : 1 ≤ j) : BdX j (turnM A) := fun i k => by
  rcases Nat.lt_or_ge i (A.getD 0 []).length with hi | hi
  · rw [turnM_get hi]
    exact bd_col hA h1 i k
  · rw [getD_out (X := turnM A) (by rw [turnM_len]; exact hi)]
    exact bd_zero.mono h1
theorem mulT_rect {C : List (List Rat)} : Rect C.length (mulT A C) := fun i hi => by
  rw [mulT_len] at hi
  rw [mulT_get hi, mulRow_len]
theorem dotJ_pos (j : Nat) : ∀ k, 1 ≤ dotJ j k
  | 0 => Nat.le_refl _
  | k + 1 => by show 1 ≤ dotJ j k + j + dotJ j k + j + 1; omega
theorem mulT_bd {C : List (List Rat)} {j1 j2 n : Nat} (hA : BdX j1 A) (hC : BdX j2 C) (hn : ∀ i, i < A.length → (A.getD i []).length ≤ n) : BdX (dotJ (j1 + j2) n) (mulT A C) := fun i k => by
  rcases Nat.lt_or_ge i A.length with hi | hi
  · rw [mulT_get hi]
    rcases Nat.lt_or_ge k C.length with hk | hk
    · rw [mulRow_get hk]
      exact (bd_dot (hA i) (hC k) _).mono (dotJ_mono _ (hn i hi))
    · rw [getD_out (by rw [mulRow_len]; exact hk)]
      exact bd_zero.mono (dotJ_pos _ _)
  · rw [getD_out (X := mulT A C) (by rw [mulT_len]; exact hi)]
    exact bd_zero.mono (dotJ_pos _ _)
def lsM (A : List (List Rat)) : List (List Rat) := mulT (turnM A) (turnM A)
def lsB (A : List (List Rat)) (b : List Rat) : List Rat := colAt (mulT (turnM A) (turnM (colM b))) 0
end
end Wx

namespace Wx
open Go Go.RowKit

section
variable {L : List Int} {n f k j : Nat}
end
end Wx

namespace Wx
open Go Go.RowKit

section
variable {n k : Nat}
end
end Wx

namespace Wx
open Go Go.RowKit Go.Proofs

theorem ty_Ratios : Ty Try.prog 28 false 1 := ⟨fun _ => by kernel_rfl, fun _ => by kernel_rfl, by decide⟩
theorem zv_Ratios : ∀ w, (zeroValue 28).run Try.prog w = .ok (.slice none 0 0) w := fun _ => by kernel_rfl
theorem ty_Rows : Ty Try.prog 27 false 1 := ⟨fun _ => by kernel_rfl, fun _ => by kernel_rfl, by decide⟩
theorem app_Ratios : AppTy Try.prog 28 28 32 3 := appTy_of (by kernel_rfl)
theorem app_Rows : AppTy Try.prog 27 27 28 1 := appTy_of (by kernel_rfl)
end Wx
