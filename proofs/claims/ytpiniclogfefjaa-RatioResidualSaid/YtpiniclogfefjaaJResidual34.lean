import Derived.Handy
import Derived.Test.YtpiniclogfefjaaJResidual0
import Derived.Test.YtpiniclogfefjaaCResidualMem
import Derived.Test.YtpiniclogfefjaaCResidualRat1
import Derived.Test.YtpiniclogfefjaaJResidual14
import Derived.Test.YtpiniclogfefjaaJResidual16
import Derived.Test.YtpiniclogfefjaaCResidualInv
import Derived.Test.YtpiniclogfefjaaCResidualSem
import Derived.Test.YtpiniclogfefjaaCResidualSemOps
import Derived.Test.YtpiniclogfefjaaCResidualSemMem
import Derived.Test.YtpiniclogfefjaaJResidual6
import Derived.Test.YtpiniclogfefjaaCResidualSemRow
import Derived.Test.YtpiniclogfefjaaJResidual26
import Derived.Test.YtpiniclogfefjaaCResidualSemAppend
import Derived.Test.YtpiniclogfefjaaJResidual24
import Derived.Test.YtpiniclogfefjaaCResidualSemObj
import Derived.Test.YtpiniclogfefjaaJResidual29
import Derived.Test.YtpiniclogfefjaaJResidual30
import Derived.Test.YtpiniclogfefjaaCResidualSemCopy
import Derived.Test.YtpiniclogfefjaaCResidualSemApp
import Derived.Test.YtpiniclogfefjaaProg
import Derived.Test.YtpiniclogfefjaaJResidual8
import Derived.Test.YtpiniclogfefjaaJResidual12
import Derived.Test.YtpiniclogfefjaaCResidualRat3
import Derived.Test.YtpiniclogfefjaaJResidual19
namespace Wx
open Go Go.RowKit

def hdr0 (r : RowL) : Value := if r.n = 0 then .slice none 0 0 else r.hdr
theorem hdr0_nil {r : RowL} (h : r.n = 0) : hdr0 r = .slice none 0 0 := if_pos h
theorem hdr0_hdr {r : RowL} (h : r.n ≠ 0) : hdr0 r = r.hdr := if_neg h
def tops0 (R : List RowL) : List It := R.map fun r => itV (hdr0 r)
theorem tops0_len (R : List RowL) : (tops0 R).length = R.length := List.length_map ..
theorem tops0_get {R : List RowL} {i : Nat} (h : i < R.length) : (tops0 R)[i]? = some (itV (hdr0 (rowAt R i))) := by
  unfold tops0
  rw [List.getElem?_map, rowAt_get h]
  rfl
theorem tops0_set (R : List RowL) (i : Nat) (r : RowL) : (tops0 R).set i (itV (hdr0 r)) = tops0 (R.set i r) := by
  unfold tops0
  rw [List.map_set]
structure BldOk (g n : Nat) (R : List RowL) (X : List (List Rat)) (H : List Bk) : Prop where
  top : (⟨g, 1, false, tops0 R⟩ : Bk) ∈ H
  len : R.length = n ∧ X.length = n
  num : ∀ i, i < n → (rowAt R i).n = (X.getD i []).length
  rows : ∀ i, i < n → (rowAt R i).n ≠ 0 → (rowAt R i).n ≤ (rowAt R i).cap ∧ (rowAt R i).cap ≤ maxLen ∧ (⟨(rowAt R i).b, 3, true, rowIt (X.getD i []) (rowAt R i).cap⟩ : Bk) ∈ H ∧ (rowAt R i).b ≠ g
  apart : ∀ i j, i < n → j < n → i ≠ j → (rowAt R i).n ≠ 0 → (rowAt R j).n ≠ 0 → (rowAt R i).b ≠ (rowAt R j).b
theorem hset_other {H : List Bk} {b idx : Nat} {it : It} {e : Bk} (he : e ∈ H) (hb : e.b ≠ b) : e ∈ hset H b idx it := List.mem_map.2 ⟨e, he, if_neg hb⟩
theorem rowAt_set {R : List RowL} {i j : Nat} {r : RowL} (hi : i < R.length) : rowAt (R.set i r) j = if j = i then r else rowAt R j := by
  unfold rowAt
  rw [List.getD_eq_getElem?_getD, List.getD_eq_getElem?_getD]
  by_cases h : j = i
  · subst h
    rw [if_pos rfl, List.getElem?_set_self hi]
    rfl
  · rw [if_neg h, List.getElem?_set_ne (Ne.symm h)]
theorem getD_set {α : Type} {X : List α} {i j : Nat} {x d : α} (hi : i < X.length) : (X.set i x).getD j d = if j = i then x else X.getD j d := by
  rw [List.getD_eq_getElem?_getD, List.getD_eq_getElem?_getD]
  by_cases h : j = i
  · subst h
    rw [if_pos rfl, List.getElem?_set_self hi]
    rfl
  · rw [if_neg h, List.getElem?_set_ne (Ne.symm h)]
section
variable {g n : Nat} {R : List RowL} {X : List (List Rat)} {H : List Bk}
theorem BldOk.case (h : BldOk g n R X H) {i : Nat} (hi : i < n) : (hdr0 (rowAt R i) = .slice none 0 0 ∧ X.getD i [] = []) ∨ ∃ r : RowL, hdr0 (rowAt R i) = r.hdr ∧ r.n = (X.getD i []).length ∧ r.n ≤ r.cap ∧ r.cap ≤ maxLen ∧ (⟨r.b, 3, true, rowIt (X.getD i []) r.cap⟩ : Bk) ∈ H := by
  by_cases h0 : (rowAt R i).n = 0
  · exact .inl ⟨hdr0_nil h0, List.eq_nil_of_length_eq_zero (by rw [← h.num i hi]; exact h0)⟩
  · obtain ⟨k1, k2, k3, _⟩ := h.rows i hi h0
    exact .inr ⟨rowAt R i, hdr0_hdr h0, h.num i hi, k1, k2, k3⟩
theorem BldOk.off (h : BldOk g n R X H) {i : Nat} (hi : i < n) {r' : RowL} (hA : (∃ r : RowL, hdr0 (rowAt R i) = r.hdr ∧ r'.b = r.b) ∨ ∀ e, e ∈ H → e.b ≠ r'.b) : g ≠ r'.b := by
  rcases hA with ⟨r, e, e2⟩ | hn
  · by_cases h0 : (rowAt R i).n = 0
    · rw [hdr0_nil h0] at e
      unfold RowL.hdr at e
      cases e
    · rw [hdr0_hdr h0] at e
      have := hdr_inj _ _ e
      subst this
      rw [e2]
      exact Ne.symm (h.rows i hi h0).2.2.2
  · exact hn _ h.top
theorem BldOk.put (h : BldOk g n R X H) {i : Nat} (hi : i < n) {l : List Rat} {r' : RowL} (hl : 0 < l.length) (h1 : r'.n = l.length) (h2 : r'.n ≤ r'.cap) (h3 : r'.cap ≤ maxLen) (hA : (∃ r : RowL, hdr0 (rowAt R i) = r.hdr ∧ r'.b = r.b) ∨ ∀ e, e ∈ H → e.b ≠ r'.b) :
    BldOk g n (R.set i r') (X.set i l) (hset (appH H r'.b (rowIt l r'.cap)) g i (itV r'.hdr)) := by
  have hoff := h.off hi hA
  have hRl := h.len.1
  have hXl := h.len.2
  have hr0 : r'.n ≠ 0 := by rw [h1]; omega
  have hoth : ∀ j, j < n → j ≠ i → (rowAt R j).n ≠ 0 → (rowAt R j).b ≠ r'.b := by
    intro j hj hji hj0
    rcases hA with ⟨r, e, e2⟩ | hn
    · by_cases h0 : (rowAt R i).n = 0
      · rw [hdr0_nil h0] at e
        unfold RowL.hdr at e
        cases e
      · rw [hdr0_hdr h0] at e
        have := hdr_inj _ _ e
        subst this
        rw [e2]
        exact h.apart j i hj hi hji hj0 h0
    · exact hn _ (h.rows j hj hj0).2.2.1
  have eR : ∀ j, rowAt (R.set i r') j = if j = i then r' else rowAt R j := fun j => rowAt_set (by omega)
  have eX : ∀ j, (X.set i l).getD j [] = if j = i then l else X.getD j [] := fun j => getD_set (by omega)
  refine ⟨?_, by rw [List.length_set, List.length_set]; exact h.len, fun j hj => ?_, fun j hj hj0 => ?_, fun j q hj hq hne hj0 hq0 => ?_⟩
  · rw [← tops0_set, hdr0_hdr hr0]
    exact hset_mem (appH_other h.top hoff) rfl
  · rw [eR, eX]
    split
    · exact h1
    · exact h.num j hj
  · rw [eR] at hj0 ⊢
    rw [eX]
    split at hj0
    · rename_i e
      rw [if_pos e, if_pos e]
      exact ⟨h2, h3, hset_other appH_mem (Ne.symm hoff), Ne.symm hoff⟩
    · rename_i e
      rw [if_neg e, if_neg e]
      obtain ⟨k1, k2, k3, k4⟩ := h.rows j hj hj0
      exact ⟨k1, k2, hset_other (appH_other k3 (hoth j hj e hj0)) k4, k4⟩
  · rw [eR] at hj0 ⊢
    rw [eR] at hq0 ⊢
    by_cases e1 : j = i
    · have e2 : q ≠ i := fun e => hne (e1.trans e.symm)
      rw [if_pos e1, if_neg e2]
      rw [if_neg e2] at hq0
      exact Ne.symm (hoth q hq e2 hq0)
    · rw [if_neg e1] at hj0 ⊢
      by_cases e2 : q = i
      · rw [if_pos e2]
        exact hoth j hj e1 hj0
      · rw [if_neg e2] at hq0 ⊢
        exact h.apart j q hj hq hne hj0 hq0
theorem BldOk.append (h : BldOk g n R X H) {i : Nat} (hi : i < n) {l' : List Rat} {r' : RowL} (hl : 0 < l'.length) (hA : AppOk H (hdr0 (rowAt R i)) (X.getD i []) l' r') :
    BldOk g n (R.set i r') (X.set i (X.getD i [] ++ l')) (hset (appH H r'.b (rowIt (X.getD i [] ++ l') r'.cap)) g i (itV r'.hdr)) :=
  h.put hi (by rw [List.length_append]; omega) (by rw [List.length_append]; exact hA.1) hA.2.1 hA.2.2.1 hA.2.2.2
theorem bld_nil (g n : Nat) : BldOk g n (List.replicate n ⟨0, 0, 0⟩) (List.replicate n []) [⟨g, 1, false, List.replicate n (itV (.slice none 0 0))⟩] := by
  have e : ∀ i, rowAt (List.replicate n ⟨0, 0, 0⟩) i = ⟨0, 0, 0⟩ := fun i => by
    unfold rowAt
    rw [List.getD_eq_getElem?_getD, List.getElem?_replicate]
    split <;> rfl
  refine ⟨?_, by simp, fun i hi => ?_, fun i hi h0 => ?_, fun i j _ _ _ h0 => ?_⟩
  · unfold tops0
    rw [List.map_replicate]
    exact List.mem_singleton.2 rfl
  · rw [e, List.getD_eq_getElem?_getD, List.getElem?_replicate]
    split <;> rfl
  · rw [e] at h0
    exact absurd rfl h0
  · rw [e] at h0
    exact absurd rfl h0
theorem BldOk.read {cap : Nat} (h : BldOk g n R X H) (hn : n ≤ cap) (hm : cap ≤ maxLen) (h0 : ∀ i, i < n → 0 < (X.getD i []).length) : ∀ B w, HpOk B w H → pRow 1 false n (fun i => pRats (X.getD i [])) w (.slice (some ⟨g, 0, none⟩) n cap) := by
  intro B w hH
  obtain ⟨cs, T, h1, h2, _, h4⟩ := hH.2.2 _ h.top
  have h1 : w.heap[g]? = some (.cells cs.toArray T (0, 0)) := h1
  have h2 : (tops0 R).length * 1 ≤ cs.length := h2
  rw [tops0_len, h.len.1] at h2
  refine ⟨_, _, rfl, hn, hm, fun _ => ⟨g, 0, rfl, fun i hi => ⟨(cs.drop i).take 1, ?_, fun j v hj => ?_, ?_⟩⟩⟩
  · rw [List.length_take, List.length_drop]
    omega
  · rw [Nat.mul_one, Nat.zero_add]
    exact cells_at h1 _ _ j v hj
  · have h5 := h4 i _ (tops0_get (by rw [h.len.1]; exact hi))
    have h5 : wrapV false ((cs.drop (i * 1)).take 1) = hdr0 (rowAt R i) := h5
    rw [Nat.mul_one] at h5
    have hr0 : (rowAt R i).n ≠ 0 := by
      have := h0 i hi
      rw [h.num i hi]
      omega
    obtain ⟨k1, k2, k3, _⟩ := h.rows i hi hr0
    show pRats (X.getD i []) w (wrapV false ((cs.drop i).take 1))
    rw [h5, hdr0_hdr hr0]
    exact heap_rats hH k3 (h.num i hi) k1 k2
theorem BldOk.mat {cap : Nat} (h : BldOk g n R X H) (hn : n ≤ cap) (hm : cap ≤ maxLen) (h0 : ∀ i, i < n → 0 < (X.getD i []).length) : MatOk g cap R X H := by
  have hr0 : ∀ i, i < n → (rowAt R i).n ≠ 0 := fun i hi => by
    have := h0 i hi
    rw [h.num i hi]
    omega
  have get : ∀ {i : Nat} {r : RowL}, R[i]? = some r → i < n ∧ r = rowAt R i := fun {i r} hr => by
    have hil : i < R.length := by
      rcases Nat.lt_or_ge i R.length with h' | h'
      · exact h'
      · rw [List.getElem?_eq_none h'] at hr; cases hr
    rw [rowAt_get hil] at hr
    exact ⟨h.len.1 ▸ hil, (Option.some.inj hr).symm⟩
  have et : tops0 R = tops R := by
    unfold tops0 tops
    refine List.map_congr_left fun r hr => ?_
    obtain ⟨i, hi⟩ := List.mem_iff_getElem?.1 hr
    obtain ⟨hil, rfl⟩ := get hi
    rw [hdr0_hdr (hr0 i hil)]
  refine ⟨by rw [← et]; exact h.top, fun i r hr => ?_, h.len.1.trans h.len.2.symm, fun i r hr => ?_, fun i j r q hr hq hne => ?_, fun r hr => ?_, by rw [h.len.1]; exact ⟨hn, hm⟩⟩
  · obtain ⟨hi, rfl⟩ := get hr
    exact (h.rows i hi (hr0 i hi)).2.2.1
  · obtain ⟨hi, rfl⟩ := get hr
    exact ⟨h.num i hi, (h.rows i hi (hr0 i hi)).1, (h.rows i hi (hr0 i hi)).2.1⟩
  · obtain ⟨hi, rfl⟩ := get hr
    obtain ⟨hj, rfl⟩ := get hq
    exact h.apart i j hi hj hne (hr0 i hi) (hr0 j hj)
  · obtain ⟨i, hi⟩ := List.mem_iff_getElem?.1 hr
    obtain ⟨hil, rfl⟩ := get hi
    exact (h.rows i hil (hr0 i hil)).2.2.2
theorem MatOk.bld {cap : Nat} (h : MatOk g cap R X H) (h0 : ∀ i, i < X.length → 0 < (X.getD i []).length) : BldOk g X.length R X H := by
  have hr : ∀ i, i < X.length → R[i]? = some (rowAt R i) := fun i hi => rowAt_get (by rw [h.len]; exact hi)
  have et : tops0 R = tops R := by
    unfold tops0 tops
    refine List.map_congr_left fun r hm => ?_
    obtain ⟨i, hi⟩ := List.mem_iff_getElem?.1 hm
    have hil : i < X.length := by
      rw [← h.len]
      rcases Nat.lt_or_ge i R.length with h' | h'
      · exact h'
      · rw [List.getElem?_eq_none h'] at hi; cases hi
    rw [hdr0_hdr]
    rw [(h.fit i r hi).1]
    have := h0 i hil
    omega
  refine ⟨by rw [et]; exact h.top, ⟨h.len, rfl⟩, fun i hi => (h.fit i _ (hr i hi)).1, fun i hi _ => ⟨(h.fit i _ (hr i hi)).2.1, (h.fit i _ (hr i hi)).2.2, h.rows i _ (hr i hi), h.off _ (List.mem_of_getElem? (hr i hi))⟩, fun i j hi hj hne _ _ => h.apart i j _ _ (hr i hi) (hr j hj) hne⟩
end
end Wx

namespace Wx

def colAt (A : List (List Rat)) (k : Nat) : List Rat := A.map fun r => r.getD k 0
theorem colAt_len (A : List (List Rat)) (k : Nat) : (colAt A k).length = A.length := List.length_map ..
theorem colAt_get {A : List (List Rat)} {k i : Nat} (h : i < A.length) : (colAt A k).getD i 0 = (A.getD i []).getD k 0 := by
  unfold colAt
  rw [List.getD_eq_getElem?_getD, List.getElem?_map, List.getElem?_eq_getElem h, List.getD_eq_getElem?_getD, List.getD_eq_getElem?_getD, List.getElem?_eq_getElem h]
  simp [List.getD_eq_getElem?_getD]
def turnM (A : List (List Rat)) : List (List Rat) := (List.range (A.getD 0 []).length).map (colAt A)
theorem turnM_len (A : List (List Rat)) : (turnM A).length = (A.getD 0 []).length := by unfold turnM; rw [List.length_map, List.length_range]
theorem turnM_get {A : List (List Rat)} {k : Nat} (h : k < (A.getD 0 []).length) : (turnM A).getD k [] = colAt A k := by
  unfold turnM
  rw [List.getD_eq_getElem?_getD, List.getElem?_map, List.getElem?_range h]
  rfl
def bldX (A : List (List Rat)) (n k j : Nat) : List (List Rat) := (List.range n).map fun i => if i < k then colAt A i else if i = k then (colAt A i).take j else []
section
variable {A : List (List Rat)} {n k j : Nat}
theorem bldX_len : (bldX A n k j).length = n := by unfold bldX; rw [List.length_map, List.length_range]
theorem bldX_get {i : Nat} (h : i < n) : (bldX A n k j).getD i [] = if i < k then colAt A i else if i = k then (colAt A i).take j else [] := by
  unfold bldX
  rw [List.getD_eq_getElem?_getD, List.getElem?_map, List.getElem?_range h]
  rfl
theorem bldX_zero : bldX A n 0 0 = List.replicate n [] := by
  unfold bldX
  apply List.ext_getElem?
  intro i
  rw [List.getElem?_map, List.getElem?_replicate]
  by_cases h : i < n
  · rw [List.getElem?_range h, if_pos h]
    show some (if i < 0 then _ else if i = 0 then (colAt A i).take 0 else []) = _
    rw [if_neg (Nat.not_lt_zero _), List.take_zero]
    split <;> rfl
  · rw [List.getElem?_eq_none (by simpa using h), if_neg h]
    rfl
theorem bldX_next : bldX A n k A.length = bldX A n (k + 1) 0 := by
  unfold bldX
  refine List.map_congr_left fun i _ => ?_
  by_cases h1 : i < k
  · rw [if_pos h1, if_pos (by omega)]
  · rw [if_neg h1]
    by_cases h2 : i = k
    · rw [if_pos h2, if_pos (by omega), ← colAt_len A i, List.take_length]
    · rw [if_neg h2, if_neg (by omega)]
      split
      · rw [List.take_zero]
      · rfl
theorem bldX_step (hk : k < n) (hj : j < A.length) : (bldX A n k j).set k ((bldX A n k j).getD k [] ++ [(A.getD j []).getD k 0]) = bldX A n k (j + 1) := by
  rw [bldX_get hk, if_neg (Nat.lt_irrefl _), if_pos rfl]
  apply List.ext_getElem?
  intro i
  by_cases h : i = k
  · subst h
    rw [List.getElem?_set_self (by rw [bldX_len]; exact hk)]
    unfold bldX
    rw [List.getElem?_map, List.getElem?_range hk]
    show _ = some (if i < i then _ else if i = i then (colAt A i).take (j + 1) else [])
    rw [if_neg (Nat.lt_irrefl _), if_pos rfl, List.take_add_one]
    congr 2
    have hjl : j < (colAt A i).length := by rw [colAt_len]; exact hj
    rw [← colAt_get hj, List.getElem?_eq_getElem hjl, List.getD_eq_getElem?_getD, List.getElem?_eq_getElem hjl]
    rfl
  · rw [List.getElem?_set_ne (Ne.symm h)]
    unfold bldX
    rw [List.getElem?_map, List.getElem?_map]
    cases hr : (List.range n)[i]? with
    | none => rfl
    | some q =>
      have hq : q = i := by
        have := List.getElem?_eq_some_iff.1 hr
        obtain ⟨_, e⟩ := this
        simpa using e.symm
      subst hq
      show some (if q < k then _ else if q = k then _ else _) = some (if q < k then _ else if q = k then _ else _)
      by_cases h1 : q < k
      · rw [if_pos h1, if_pos h1]
      · rw [if_neg h1, if_neg h, if_neg h1, if_neg h]
theorem bldX_end : bldX A (A.getD 0 []).length (A.getD 0 []).length 0 = turnM A := by
  unfold bldX turnM
  refine List.map_congr_left fun i hi => ?_
  rw [if_pos (List.mem_range.1 hi)]
end
end Wx

namespace Wx
open Go Go.RowKit Go.Proofs

end Wx

namespace Wx
open Go Go.RowKit Go.Proofs

theorem bd_zero : BdR 1 (0 : Rat) := ⟨by show (0 : Rat).num.natAbs < 2 ^ 1; decide, by show (0 : Rat).den < 2 ^ 1; decide⟩
theorem BdR.sub_ {j k : Nat} {x y : Rat} (h : BdR j x) (g : BdR k y) : BdR (j + k + j + k + 1) (x - y) := by rw [Rat.sub_eq_add_neg]; exact h.add g.neg
theorem BdR.quo {j k : Nat} {x y : Rat} (h : BdR j x) (g : BdR k y) : BdR (j + k) (x / y) := by
  by_cases hy : y = 0
  · rw [hy, Rat.div_def, Rat.inv_zero, Rat.mul_zero]
    have h2 : x.den < 2 ^ j := h.2
    have h3 := x.den_pos
    have hj : j ≠ 0 := by rintro rfl; simp at h2; omega
    refine ⟨?_, ?_⟩
    · show (0 : Rat).num.natAbs < 2 ^ (j + k)
      exact Nat.two_pow_pos _
    · show (0 : Rat).den < 2 ^ (j + k)
      show 1 < 2 ^ (j + k)
      exact Nat.one_lt_two_pow (by omega)
  · exact h.div g (fun h => hy ((num_zero_iff y).1 (by omega)))
theorem ret_is {w : World} {v : Value} {e : Ending} {w' : World} (h : RetIs w v e w') : Ret (pEq v) w e w' := ⟨v, h.1, rfl, h.2⟩
theorem c_add {x y : Rat} {j k : Nat} (hx : BdR j x) (hy : BdR k y) (h : j + k + j + k + 1 ≤ 100000000) : ∀ w v1 v2, pRat x w v1 → pRat y w v2 → Calls Try.prog 12 #[v1, v2] w (Ret (pRat (x + y)) w) :=
  fun w v1 v2 h1 h2 => add_num w v1 v2 x y h1 h2 hx hy h
theorem c_sub {x y : Rat} {j k : Nat} (hx : BdR j x) (hy : BdR k y) (h : j + k + j + k + 1 ≤ 100000000) : ∀ w v1 v2, pRat x w v1 → pRat y w v2 → Calls Try.prog 10 #[v1, v2] w (Ret (pRat (x - y)) w) :=
  fun w v1 v2 h1 h2 => sub_num w v1 v2 x y h1 h2 hx hy h
theorem c_mul {x y : Rat} {j k : Nat} (hx : BdR j x) (hy : BdR k y) (h : j + k ≤ 100000000) : ∀ w v1 v2, pRat x w v1 → pRat y w v2 → Calls Try.prog 11 #[v1, v2] w (Ret (pRat (x * y)) w) :=
  fun w v1 v2 h1 h2 => mul_num w v1 v2 x y h1 h2 hx hy h
theorem c_by {x y : Rat} {j k : Nat} (hx : BdR j x) (hy : BdR k y) (h : j + k ≤ 100000000) (h0 : y ≠ 0) : ∀ w v1 v2, pRat x w v1 → pRat y w v2 → Calls Try.prog 48 #[v1, v2] w (Ret (pRat (x / y)) w) :=
  fun w v1 v2 h1 h2 => by_num w v1 v2 x y h1 h2 (fun h => h0 ((num_zero_iff y).1 (by omega))) hx hy h
theorem c_zero (x : Rat) : ∀ w v1, pRat x w v1 → Calls Try.prog 13 #[v1] w (Ret (pB (decide (x = 0))) w) := fun w v1 h1 => (zero_num w v1 x h1).mono fun _ _ => ret_is
theorem c_int (n : Int) (h1 : -9223372036854775808 ≤ n) (h2 : n ≤ 9223372036854775807) : ∀ w v1, pI n w v1 → Calls Try.prog 7 #[v1] w (Ret (pRat (n : Rat)) w) := fun w v1 h => by
  have h : v1 = .int .i64 n := h
  rw [h]
  exact int_num w n h1 h2
theorem c_known1 {f : FuncId} {P : Program} {p1 : Pred} {a b : Bool} (h : ∀ w v1, p1 w v1 → Calls P f #[v1] w (Ret (pB a) w)) (e : a = b) : ∀ w v1, p1 w v1 → Calls P f #[v1] w (Ret (pB b) w) := e ▸ h
end Wx

namespace Wx

def dotN (x y : List Rat) : Nat → Rat
  | 0 => 0
  | k + 1 => dotN x y k + x.getD k 0 * y.getD k 0
def dotJ (j : Nat) : Nat → Nat
  | 0 => 1
  | k + 1 => dotJ j k + j + dotJ j k + j + 1
theorem dotJ_mono (j : Nat) : ∀ {k n : Nat}, k ≤ n → dotJ j k ≤ dotJ j n := by
  intro k n h
  induction n with
  | zero => rw [Nat.le_zero.1 h]; exact Nat.le_refl _
  | succ n ih =>
    rcases Nat.lt_or_ge k (n + 1) with h' | h'
    · have := ih (by omega)
      show dotJ j k ≤ dotJ j n + j + dotJ j n + j + 1
      omega
    · rw [show k = n + 1 by omega]
      exact Nat.le_refl _
theorem bd_dot {x y : List Rat} {j1 j2 : Nat} (hx : ∀ k, BdR j1 (x.getD k 0)) (hy : ∀ k, BdR j2 (y.getD k 0)) : ∀ k, BdR (dotJ (j1 + j2) k) (dotN x y k)
  | 0 => bd_zero
  | k + 1 => (bd_dot hx hy k).add ((hx k).mul (hy k))
theorem dot_skip {x y : List Rat} {k : Nat} (h : (!(decide (x.getD k 0 = 0)) && !(decide (y.getD k 0 = 0))) = false) : dotN x y (k + 1) = dotN x y k := by
  show dotN x y k + _ = _
  have : x.getD k 0 = 0 ∨ y.getD k 0 = 0 := by
    by_cases h1 : x.getD k 0 = 0
    · exact .inl h1
    · by_cases h2 : y.getD k 0 = 0
      · exact .inr h2
      · rw [decide_eq_false h1, decide_eq_false h2] at h
        cases h
  rcases this with h | h <;> rw [h]
  · rw [Rat.zero_mul, Rat.add_zero]
  · rw [Rat.mul_zero, Rat.add_zero]
end Wx
