import Derived.Handy
import Derived.Test.YtpiniclogfefjaaJCramer0
import Derived.Test.YtpiniclogfefjaaCCramerRat1
import Derived.Test.YtpiniclogfefjaaJCramer14
import Derived.Test.YtpiniclogfefjaaJCramer16
import Derived.Test.YtpiniclogfefjaaCCramerInv
import Derived.Test.YtpiniclogfefjaaCCramerSem
import Derived.Test.YtpiniclogfefjaaCCramerSemOps
import Derived.Test.YtpiniclogfefjaaCCramerSemMem
import Derived.Test.YtpiniclogfefjaaJCramer6
import Derived.Test.YtpiniclogfefjaaCCramerSemRow
import Derived.Test.YtpiniclogfefjaaJCramer25
import Derived.Test.YtpiniclogfefjaaCCramerSemAppend
import Derived.Test.YtpiniclogfefjaaJCramer23
import Derived.Test.YtpiniclogfefjaaCCramerSemObj
import Derived.Test.YtpiniclogfefjaaJCramer28
import Derived.Test.YtpiniclogfefjaaJCramer29
import Derived.Test.YtpiniclogfefjaaCCramerSemCopy
import Derived.Test.YtpiniclogfefjaaCCramerSemApp
import Derived.Test.YtpiniclogfefjaaJCramer32
import Derived.Test.YtpiniclogfefjaaCCramerPlainSolve
import Derived.Test.YtpiniclogfefjaaCCramerMem
import Derived.KernelRfl
import Derived.Test.YtpiniclogfefjaaProg
namespace Wx

def colM (b : List Rat) : List (List Rat) := b.map fun x => [x]
theorem colM_len (b : List Rat) : (colM b).length = b.length := List.length_map ..
theorem colM_get {b : List Rat} {i : Nat} (h : i < b.length) : (colM b).getD i [] = [b.getD i 0] := by
  unfold colM
  rw [getD_opt, List.getElem?_map, List.getElem?_eq_getElem h, getD_opt, List.getElem?_eq_getElem h]
  rfl
def mulRow (r : List Rat) (C : List (List Rat)) : List Rat := C.map fun c => dotN r c r.length
def mulT (A C : List (List Rat)) : List (List Rat) := A.map fun r => mulRow r C
theorem mulRow_len (r : List Rat) (C : List (List Rat)) : (mulRow r C).length = C.length := List.length_map ..
theorem mulRow_get {r : List Rat} {C : List (List Rat)} {k : Nat} (h : k < C.length) : (mulRow r C).getD k 0 = dotN r (C.getD k []) r.length := by
  unfold mulRow
  rw [getD_opt, List.getElem?_map, List.getElem?_eq_getElem h, getD_opt, List.getElem?_eq_getElem h]
  rfl
theorem mulT_len (A C : List (List Rat)) : (mulT A C).length = A.length := List.length_map ..
theorem mulT_get {A C : List (List Rat)} {i : Nat} (h : i < A.length) : (mulT A C).getD i [] = mulRow (A.getD i []) C := by
  unfold mulT
  rw [getD_opt, List.getElem?_map, List.getElem?_eq_getElem h, getD_opt, List.getElem?_eq_getElem h]
  rfl
end Wx

namespace Wx

def redD (x y : List Rat) (c : Nat) : List Rat := if x.getD c 0 / y.getD c 0 = 0 then x else redAt x 0 y 0 (x.getD c 0 / y.getD c 0) y.length
theorem redD_len (x y : List Rat) (c : Nat) : (redD x y c).length = x.length := by
  unfold redD
  split
  · rfl
  · exact redAt_len
def elimD (X : List (List Rat)) (c k : Nat) : List (List Rat) := X.mapIdx fun i row => if c < i ∧ i < k then redD row (X.getD c []) c else row
section
variable {X : List (List Rat)} {m j c k : Nat}
theorem elimD_len : (elimD X c k).length = X.length := by unfold elimD; exact List.length_mapIdx
theorem elimD_get {i : Nat} (hi : i < X.length) : (elimD X c k).getD i [] = if c < i ∧ i < k then redD (X.getD i []) (X.getD c []) c else X.getD i [] := by
  unfold elimD
  rw [getD_opt, List.getElem?_mapIdx, List.getElem?_eq_getElem hi, getD_opt, getD_opt, List.getElem?_eq_getElem hi]
  rfl
theorem elimD_start : elimD X c (c + 1) = X := list_ext (d := []) elimD_len fun i hi => by
  rw [elimD_len] at hi
  rw [elimD_get hi, if_neg (by omega)]
theorem elimD_at {i : Nat} (hi : i < X.length) (h : k ≤ i) : (elimD X c k).getD i [] = X.getD i [] := by rw [elimD_get hi, if_neg (by omega)]
theorem elimD_own (hc : c < X.length) : (elimD X c k).getD c [] = X.getD c [] := by rw [elimD_get hc, if_neg (by omega)]
theorem elimD_step (hk : k < X.length) (hck : c < k) : (elimD X c k).set k (redD (X.getD k []) (X.getD c []) c) = elimD X c (k + 1) := by
  refine list_ext (d := []) (by rw [List.length_set, elimD_len, elimD_len]) fun i hi => ?_
  rw [List.length_set, elimD_len] at hi
  rw [getD_set (by rw [elimD_len]; exact hk), elimD_get hi, elimD_get hi]
  by_cases h : i = k
  · subst h
    rw [if_pos rfl, if_pos (by omega)]
  · rw [if_neg h]
    by_cases h1 : c < i ∧ i < k
    · rw [if_pos h1, if_pos (by omega)]
    · rw [if_neg h1, if_neg (by omega)]
def dX (X : List (List Rat)) : Nat → List (List Rat)
  | 0 => X
  | c + 1 => elimD (pivL (dX X c) (dX X c) c) c X.length
def dD (X : List (List Rat)) : Nat → Rat
  | 0 => 1
  | c + 1 => (if pivI (dX X c) c > 0 then -(dD X c) else dD X c) * ((pivL (dX X c) (dX X c) c).getD c []).getD c 0
def dSing (X : List (List Rat)) (k : Nat) : Prop := ∃ c, c < k ∧ pivI (dX X c) c < 0
open Classical in
noncomputable def detG (X : List (List Rat)) : Rat := if dSing X X.length then 0 else dD X X.length
theorem detG_sing (h : dSing X X.length) : detG X = 0 := if_pos h
theorem detG_reg (h : ¬ dSing X X.length) : detG X = dD X X.length := if_neg h
theorem dX_len : ∀ k, (dX X k).length = X.length
  | 0 => rfl
  | k + 1 => by show (elimD (pivL (dX X k) (dX X k) k) k X.length).length = _; rw [elimD_len, pivL_len, dX_len k]
theorem Rect.elimD {k : Nat} (h : Rect m X) : Rect m (Wx.elimD X c k) := fun i hi => by
  rw [elimD_len] at hi
  rw [elimD_get hi]
  split
  · rw [redD_len]; exact h i hi
  · exact h i hi
theorem Rect.dX (h : Rect m X) : ∀ k, k ≤ X.length → Rect m (Wx.dX X k)
  | 0, _ => h
  | k + 1, hk => ((Rect.dX h k (by omega)).piv (by rw [dX_len]; omega)).elimD
theorem BdX.elimD {k : Nat} (h : BdX j X) (h1 : 1 ≤ j) : BdX (8 * j + 1) (Wx.elimD X c k) := fun i q => by
  rcases Nat.lt_or_ge i X.length with hi | hi
  · rw [elimD_get hi]
    split
    · unfold redD
      split
      · exact (h i q).mono (by omega)
      · exact (bd_redAt (h i) (h c) ((h i c).quo (h c c)) h1 q).mono (by omega)
    · exact (h i q).mono (by omega)
  · rw [getD_out (X := Wx.elimD X c k) (by rw [elimD_len]; exact hi)]
    exact bd_zero.mono (by omega)
theorem BdX.dX (h : BdX j X) (h1 : 1 ≤ j) : ∀ k, k ≤ X.length → BdX (gjJ j k) (Wx.dX X k)
  | 0, _ => h
  | k + 1, hk => ((BdX.dX h h1 k (by omega)).piv (by rw [dX_len]; omega) (gjJ_pos h1 k)).elimD (gjJ_pos h1 k)
def dJ (j : Nat) : Nat → Nat
  | 0 => 1
  | k + 1 => dJ j k + gjJ j k
theorem dJ_mono {k n : Nat} (h : k ≤ n) : dJ j k ≤ dJ j n := by
  induction n with
  | zero => rw [Nat.le_zero.1 h]; exact Nat.le_refl _
  | succ n ih =>
    rcases Nat.lt_or_ge k (n + 1) with h' | h'
    · have := ih (by omega)
      show dJ j k ≤ dJ j n + gjJ j n
      omega
    · rw [show k = n + 1 by omega]
      exact Nat.le_refl _
theorem bd_one1 : BdR 1 (1 : Rat) := ⟨by show (1 : Rat).num.natAbs < 2 ^ 1; decide, by show (1 : Rat).den < 2 ^ 1; decide⟩
theorem bd_dD (h : BdX j X) (h1 : 1 ≤ j) : ∀ k, k ≤ X.length → BdR (dJ j k) (dD X k)
  | 0, _ => bd_one1
  | k + 1, hk => by
    have ih := bd_dD h h1 k (by omega)
    have hp := (h.dX h1 k (by omega)).piv (c := k) (by rw [dX_len]; omega) (gjJ_pos h1 k) k k
    refine BdR.mul ?_ hp
    split
    · exact ih.neg
    · exact ih
end
end Wx

namespace Wx

def sol1 (A : List (List Rat)) (b : List Rat) : List Rat := colAt (solX A (colM b)) 0
def Sing (A : List (List Rat)) (b : List Rat) : Prop := gjSing (augX A (colM b)) A.length
section
variable {A B : List (List Rat)} {b : List Rat} {m j : Nat}
theorem solX_len : (solX A B).length = A.length := by unfold solX; rw [dropX_len, gjX_len, augX_len]
theorem solX_get {i : Nat} (h : i < A.length) : (solX A B).getD i [] = ((gjX (augX A B) A.length).getD i []).drop A.length := by
  unfold solX
  rw [dropX_get (by rw [gjX_len, augX_len]; exact h), if_pos h]
theorem solX_rect (hA : Rect A.length A) (hB : ∀ i, i < A.length → (B.getD i []).length = m) : Rect m (solX A B) := fun i hi => by
  rw [solX_len] at hi
  have h := (augX_rect hA hB).gj A.length (by rw [augX_len]; exact Nat.le_refl _) i (by rw [gjX_len, augX_len]; exact hi)
  rw [solX_get hi, List.length_drop, h]
  omega
theorem solX_bd (hA : BdX j A) (hB : BdX j B) (h1 : 1 ≤ j) : BdX (gjJ j A.length) (solX A B) := fun i k => by
  have h := (augX_bd hA hB h1).gj h1 A.length (by rw [augX_len]; exact Nat.le_refl _)
  rcases Nat.lt_or_ge i A.length with hi | hi
  · rw [solX_get hi, getD_opt, List.getElem?_drop, ← getD_opt]
    exact h i _
  · rw [getD_out (X := solX A B) (by rw [solX_len]; exact hi)]
    exact bd_zero.mono (gjJ_pos h1 _)
theorem colM_rect {i : Nat} (h : i < b.length) : ((colM b).getD i []).length = 1 := by rw [colM_get h]; rfl
theorem colM_bd (hb : ∀ k, BdR j (b.getD k 0)) (h1 : 1 ≤ j) : BdX j (colM b) := fun i k => by
  rcases Nat.lt_or_ge i b.length with hi | hi
  · rw [colM_get hi]
    cases k with
    | zero => exact hb i
    | succ k => exact bd_zero.mono h1
  · rw [getD_out (X := colM b) (by rw [colM_len]; exact hi)]
    exact bd_zero.mono h1
theorem sol1_len : (sol1 A b).length = A.length := by unfold sol1; rw [colAt_len, solX_len]
theorem bd_col (hb : BdX j B) (h1 : 1 ≤ j) (k : Nat) : ∀ q, BdR j ((colAt B k).getD q 0) := fun q => by
  rcases Nat.lt_or_ge q B.length with h | h
  · rw [colAt_get h]
    exact hb q k
  · rw [getD_out (by rw [colAt_len]; exact h)]
    exact bd_zero.mono h1
theorem turnM_bd (hA : BdX j A) (h1 : 1 ≤ j) : BdX j (turnM A) := fun i k => by
  rcases Nat.lt_or_ge i (A.getD 0 []).length with hi | hi
  · rw [turnM_get hi]
    exact bd_col hA h1 i k
  · rw [getD_out (X := turnM A) (by rw [turnM_len]; exact hi)]
    exact bd_zero.mono h1
theorem mulT_rect {C : List (List Rat)} : Rect C.length (mulT A C) := fun i hi => by
  rw [mulT_len] at hi
  rw [mulT_get hi, mulRow_len]
theorem dotJ_pos (j : Nat) : ∀ k, 1 ≤ dotJ j k
  | 0 => Nat.le_refl _
  | k + 1 => by show 1 ≤ dotJ j k + j + dotJ j k + j + 1; omega
theorem mulT_bd {C : List (List Rat)} {j1 j2 n : Nat} (hA : BdX j1 A) (hC : BdX j2 C) (hn : ∀ i, i < A.length → (A.getD i []).length ≤ n) : BdX (dotJ (j1 + j2) n) (mulT A C) := fun i k => by
  rcases Nat.lt_or_ge i A.length with hi | hi
  · rw [mulT_get hi]
    rcases Nat.lt_or_ge k C.length with hk | hk
    · rw [mulRow_get hk]
      exact (bd_dot (hA i) (hC k) _).mono (dotJ_mono _ (hn i hi))
    · rw [getD_out (by rw [mulRow_len]; exact hk)]
      exact bd_zero.mono (dotJ_pos _ _)
  · rw [getD_out (X := mulT A C) (by rw [mulT_len]; exact hi)]
    exact bd_zero.mono (dotJ_pos _ _)
end
end Wx

namespace Wx
open Go Go.RowKit

def fillZ (L : List Int) (p : Nat) : Int := if 0 < L.length then (L.getD (p % L.length) 0).tmod 10 else 0
theorem fillZ_bd (L : List Int) (p : Nat) : -10 < fillZ L p ∧ fillZ L p < 10 := by
  unfold fillZ
  split
  · exact ⟨Int.lt_tmod_of_pos _ (by omega), Int.tmod_lt_of_pos _ (by omega)⟩
  · omega
def fillE (L : List Int) (n f i k : Nat) : Rat := ((fillZ L (f + n * i + k) : Int) : Rat)
def fillR (L : List Int) (n f i : Nat) : List Rat := (List.range n).map (fillE L n f i)
def fillM (L : List Int) (n f : Nat) : List (List Rat) := (List.range n).map (fillR L n f)
def fillP (L : List Int) (n f i j : Nat) : List Rat := (List.range n).map fun k => if k < j then fillE L n f i k else 0
def filB (L : List Int) (n f k : Nat) : List (List Rat) := (List.range n).map fun i => if i < k then fillR L n f i else []
def filC (L : List Int) (n f k j : Nat) : List (List Rat) := (List.range n).map fun i => if i < k then fillR L n f i else if i = k then fillP L n f k j else []
section
variable {L : List Int} {n f k j : Nat}
theorem map_range_get {α : Type} {g : Nat → α} {d : α} {i : Nat} (h : i < n) : ((List.range n).map g).getD i d = g i := by
  rw [getD_opt, List.getElem?_map, List.getElem?_range h]
  rfl
theorem filB_len : (filB L n f k).length = n := by unfold filB; rw [List.length_map, List.length_range]
theorem filC_len : (filC L n f k j).length = n := by unfold filC; rw [List.length_map, List.length_range]
theorem fillP_len {i : Nat} : (fillP L n f i j).length = n := by unfold fillP; rw [List.length_map, List.length_range]
theorem fillR_len {i : Nat} : (fillR L n f i).length = n := by unfold fillR; rw [List.length_map, List.length_range]
theorem fillM_len : (fillM L n f).length = n := by unfold fillM; rw [List.length_map, List.length_range]
theorem fillM_get {i : Nat} (h : i < n) : (fillM L n f).getD i [] = fillR L n f i := map_range_get h
theorem fillR_get {i q : Nat} (h : q < n) : (fillR L n f i).getD q 0 = fillE L n f i q := map_range_get h
theorem filB_get {i : Nat} (h : i < n) : (filB L n f k).getD i [] = if i < k then fillR L n f i else [] := map_range_get h
theorem filC_get {i : Nat} (h : i < n) : (filC L n f k j).getD i [] = if i < k then fillR L n f i else if i = k then fillP L n f k j else [] := map_range_get h
theorem filB_zero : filB L n f 0 = List.replicate n [] := by
  refine list_ext (d := []) (by rw [filB_len, List.length_replicate]) fun i hi => ?_
  rw [filB_len] at hi
  rw [filB_get hi, if_neg (Nat.not_lt_zero _), getD_opt, List.getElem?_replicate, if_pos hi]
  rfl
theorem filB_end : filB L n f n = fillM L n f := by
  refine list_ext (d := []) (by rw [filB_len, fillM_len]) fun i hi => ?_
  rw [filB_len] at hi
  rw [filB_get hi, if_pos hi, fillM_get hi]
theorem fillP_zero {i : Nat} : fillP L n f i 0 = List.replicate n 0 := by
  refine list_ext (d := 0) (by rw [fillP_len, List.length_replicate]) fun q hq => ?_
  rw [fillP_len] at hq
  unfold fillP
  rw [map_range_get hq, if_neg (Nat.not_lt_zero _), getD_opt, List.getElem?_replicate, if_pos hq]
  rfl
theorem fillP_end {i : Nat} : fillP L n f i n = fillR L n f i := by
  refine list_ext (d := 0) (by rw [fillP_len, fillR_len]) fun q hq => ?_
  rw [fillP_len] at hq
  unfold fillP
  rw [map_range_get hq, if_pos hq, fillR_get hq]
theorem fillP_step {i : Nat} (hj : j < n) : (fillP L n f i j).set j (fillE L n f i j) = fillP L n f i (j + 1) := by
  refine list_ext (d := 0) (by rw [List.length_set, fillP_len, fillP_len]) fun q hq => ?_
  rw [List.length_set, fillP_len] at hq
  rw [getD_set (by rw [fillP_len]; exact hj)]
  unfold fillP
  rw [map_range_get hq, map_range_get hq]
  split
  · rename_i e
    subst e
    rw [if_pos (Nat.lt_succ_self _)]
  · rename_i e
    by_cases h : q < j
    · rw [if_pos h, if_pos (by omega)]
    · rw [if_neg h, if_neg (by omega)]
theorem filB_start (hk : k < n) : (filB L n f k).set k (List.replicate n 0) = filC L n f k 0 := by
  refine list_ext (d := []) (by rw [List.length_set, filB_len, filC_len]) fun i hi => ?_
  rw [List.length_set, filB_len] at hi
  rw [getD_set (by rw [filB_len]; exact hk), filC_get hi, filB_get hi, fillP_zero]
  by_cases e : i = k
  · rw [if_pos e, if_neg (by omega), if_pos e]
  · rw [if_neg e, if_neg e]
theorem filC_at (hk : k < n) : (filC L n f k j).getD k [] = fillP L n f k j := by rw [filC_get hk, if_neg (Nat.lt_irrefl _), if_pos rfl]
theorem filC_step (hk : k < n) (hj : j < n) : (filC L n f k j).set k (((filC L n f k j).getD k []).set j (fillE L n f k j)) = filC L n f k (j + 1) := by
  refine list_ext (d := []) (by rw [List.length_set, filC_len, filC_len]) fun i hi => ?_
  rw [List.length_set, filC_len] at hi
  rw [getD_set (by rw [filC_len]; exact hk), filC_at hk, fillP_step hj, filC_get hi, filC_get hi]
  by_cases e : i = k
  · rw [if_pos e, if_neg (by omega), if_pos e]
  · rw [if_neg e, if_neg e, if_neg e]
theorem filC_end : filC L n f k n = filB L n f (k + 1) := by
  refine list_ext (d := []) (by rw [filB_len, filC_len]) fun i hi => ?_
  rw [filC_len] at hi
  rw [filC_get hi, filB_get hi, fillP_end]
  by_cases h : i < k
  · rw [if_pos h, if_pos (by omega)]
  · rw [if_neg h]
    by_cases e : i = k
    · subst e
      rw [if_pos rfl, if_pos (Nat.lt_succ_self _)]
    · rw [if_neg e, if_neg (by omega)]
theorem fillM_rect : Rect n (fillM L n f) := fun i hi => by
  rw [fillM_len] at hi
  rw [fillM_get hi, fillR_len]
end
theorem BldOk.setItem {g n : Nat} {R : List RowL} {X : List (List Rat)} {H : List Bk} (h : BldOk g n R X H) {i k : Nat} {q : Rat} (hi : i < n) (hk : k < (X.getD i []).length) :
    BldOk g n R (X.set i ((X.getD i []).set k q)) (hset H (rowAt R i).b k (itR q)) := by
  have hr0 : (rowAt R i).n ≠ 0 := by rw [h.num i hi]; omega
  obtain ⟨c1, c2, hmem, hoff⟩ := h.rows i hi hr0
  have eX : ∀ j, (X.set i ((X.getD i []).set k q)).getD j [] = if j = i then (X.getD i []).set k q else X.getD j [] := fun j => getD_set (by rw [h.len.2]; exact hi)
  refine ⟨hset_other h.top (Ne.symm hoff), ⟨h.len.1, by rw [List.length_set]; exact h.len.2⟩, fun j hj => ?_, fun j hj hj0 => ?_, h.apart⟩
  · rw [eX, h.num j hj]
    split
    · rename_i e
      rw [e, List.length_set]
    · rfl
  · obtain ⟨k1, k2, k3, k4⟩ := h.rows j hj hj0
    refine ⟨k1, k2, ?_, k4⟩
    rw [eX]
    split
    · rename_i e
      subst e
      have := hset_mem (idx := k) (it := itR q) hmem rfl
      rw [← rowIt_set hk]
      exact this
    · rename_i e
      exact hset_other k3 (h.apart j i hj hi e hj0 hr0)
theorem appOk_new {H : List Bk} {l' : List Rat} {r : RowL} (h : AppOk H (.slice none 0 0) [] l' r) : r.n = l'.length ∧ ∀ e, e ∈ H → e.b ≠ r.b := by
  refine ⟨by rw [h.1]; simp, ?_⟩
  rcases h.2.2.2 with ⟨r', e, _⟩ | h'
  · unfold RowL.hdr at e
    cases e
  · exact h'
end Wx

namespace Wx
open Go Go.RowKit

def oneR (n i : Nat) : List Rat := (List.range n).map fun k => if k = i then 1 else 0
def oneM (n : Nat) : List (List Rat) := (List.range n).map (oneR n)
def oneB (n k : Nat) : List (List Rat) := (List.range n).map fun i => if i < k then oneR n i else []
section
variable {n k : Nat}
theorem oneR_len {i : Nat} : (oneR n i).length = n := by unfold oneR; rw [List.length_map, List.length_range]
theorem oneM_len : (oneM n).length = n := by unfold oneM; rw [List.length_map, List.length_range]
theorem oneB_len : (oneB n k).length = n := by unfold oneB; rw [List.length_map, List.length_range]
theorem oneR_get {i q : Nat} (h : q < n) : (oneR n i).getD q 0 = if q = i then 1 else 0 := map_range_get h
theorem oneM_get {i : Nat} (h : i < n) : (oneM n).getD i [] = oneR n i := map_range_get h
theorem oneB_get {i : Nat} (h : i < n) : (oneB n k).getD i [] = if i < k then oneR n i else [] := map_range_get h
theorem oneB_zero : oneB n 0 = List.replicate n [] := by
  refine list_ext (d := []) (by rw [oneB_len, List.length_replicate]) fun i hi => ?_
  rw [oneB_len] at hi
  rw [oneB_get hi, if_neg (Nat.not_lt_zero _), getD_opt, List.getElem?_replicate, if_pos hi]
  rfl
theorem oneB_end : oneB n n = oneM n := by
  refine list_ext (d := []) (by rw [oneB_len, oneM_len]) fun i hi => ?_
  rw [oneB_len] at hi
  rw [oneB_get hi, if_pos hi, oneM_get hi]
theorem oneR_set {i : Nat} (hi : i < n) : (List.replicate n (0 : Rat)).set i 1 = oneR n i := by
  refine list_ext (d := 0) (by rw [List.length_set, List.length_replicate, oneR_len]) fun q hq => ?_
  rw [List.length_set, List.length_replicate] at hq
  rw [getD_set (by rw [List.length_replicate]; exact hi), oneR_get hq]
  split
  · rfl
  · rw [getD_opt, List.getElem?_replicate, if_pos hq]
    rfl
theorem oneB_at (hk : k < n) : ((oneB n k).set k (List.replicate n 0)).getD k [] = List.replicate n 0 := by
  rw [getD_set (by rw [oneB_len]; exact hk), if_pos rfl]
theorem oneB_step (hk : k < n) : ((oneB n k).set k (List.replicate n 0)).set k ((((oneB n k).set k (List.replicate n 0)).getD k []).set k 1) = oneB n (k + 1) := by
  rw [oneB_at hk, List.set_set, oneR_set hk]
  refine list_ext (d := []) (by rw [List.length_set, oneB_len, oneB_len]) fun i hi => ?_
  rw [List.length_set, oneB_len] at hi
  rw [getD_set (by rw [oneB_len]; exact hk), oneB_get hi, oneB_get hi]
  by_cases e : i = k
  · rw [if_pos e, if_pos (by omega), e]
  · rw [if_neg e]
    by_cases h : i < k
    · rw [if_pos h, if_pos (by omega)]
    · rw [if_neg h, if_neg (by omega)]
theorem oneM_rect {i : Nat} (hi : i < n) : ((oneM n).getD i []).length = n := by rw [oneM_get hi, oneR_len]
theorem oneM_bd {j : Nat} (h1 : 1 ≤ j) : BdX j (oneM n) := fun i k => by
  rcases Nat.lt_or_ge i n with h | h
  · rw [oneM_get h]
    rcases Nat.lt_or_ge k n with h2 | h2
    · rw [oneR_get h2]
      split
      · exact bd_one1.mono h1
      · exact bd_zero.mono h1
    · rw [getD_out (by rw [oneR_len]; exact h2)]
      exact bd_zero.mono h1
  · rw [show (oneM n).getD i [] = [] from getD_out (by rw [oneM_len]; exact h)]
    exact bd_zero.mono h1
end
end Wx

namespace Wx
open Go Go.RowKit Go.Proofs

theorem ty_Ratios : Ty Try.prog 28 false 1 := ⟨fun _ => by kernel_rfl, fun _ => by kernel_rfl, by decide⟩
theorem zv_Ratios : ∀ w, (zeroValue 28).run Try.prog w = .ok (.slice none 0 0) w := fun _ => by kernel_rfl
theorem ty_Rows : Ty Try.prog 27 false 1 := ⟨fun _ => by kernel_rfl, fun _ => by kernel_rfl, by decide⟩
theorem app_Ratios : AppTy Try.prog 28 28 32 3 := appTy_of (by kernel_rfl)
theorem app_Rows : AppTy Try.prog 27 27 28 1 := appTy_of (by kernel_rfl)
end Wx
