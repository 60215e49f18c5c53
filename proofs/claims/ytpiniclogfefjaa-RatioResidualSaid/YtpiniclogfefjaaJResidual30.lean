import Derived.Handy
import Derived.Test.YtpiniclogfefjaaJResidual0
import Derived.Test.YtpiniclogfefjaaCResidualMem
import Derived.Test.YtpiniclogfefjaaCResidualRat1
import Derived.Test.YtpiniclogfefjaaJResidual14
import Derived.Test.YtpiniclogfefjaaJResidual16
import Derived.Test.YtpiniclogfefjaaCResidualInv
import Derived.Test.YtpiniclogfefjaaCResidualSem
import Derived.Test.YtpiniclogfefjaaCResidualSemOps
import Derived.Test.YtpiniclogfefjaaCResidualSemMem
import Derived.Test.YtpiniclogfefjaaJResidual6
import Derived.Test.YtpiniclogfefjaaCResidualSemRow
import Derived.Test.YtpiniclogfefjaaJResidual26
import Derived.Test.YtpiniclogfefjaaCResidualSemAppend
import Derived.Test.YtpiniclogfefjaaJResidual24
import Derived.Test.YtpiniclogfefjaaCResidualSemObj
import Derived.Test.YtpiniclogfefjaaJResidual29
import Derived.Test.YtpiniclogfefjaaCResidualSemTab
namespace Wx
open Go Go.RowKit

theorem pHp_eq {H H' : List Bk} {B : Nat → Prop} (h : H = H') : ∀ w v, pHp H B w v → pHp H' B w v := fun _ _ k => h ▸ k
theorem hup_items {B : Nat → Prop} {w : World} {H : List Bk} (hH : HpOk B w H) {e x : Bk} (he : e ∈ H) (hx : x ∈ H) (hb : e.b = x.b) : e.items = x.items := by rw [pair_uniq hH.2.1 he hx hb]
theorem fits_slice (A : Option Addr) (n cap : Nat) : Fits 1 false (pEq (.slice A n cap)) := fits_eq (noU_slice _ _ _) rfl rfl
def redAt (L1 : List Rat) (s1 : Nat) (L2 : List Rat) (s2 : Nat) (f : Rat) (k : Nat) : List Rat := L1.mapIdx fun i x => if s1 ≤ i ∧ i < s1 + k then x - f * L2.getD (s2 + (i - s1)) 0 else x
section
variable {L1 L2 : List Rat} {s1 s2 k : Nat} {f : Rat}
theorem redAt_len : (redAt L1 s1 L2 s2 f k).length = L1.length := by unfold redAt; exact List.length_mapIdx
theorem redAt_zero : redAt L1 s1 L2 s2 f 0 = L1 := by
  unfold redAt
  apply List.ext_getElem?
  intro i
  rw [List.getElem?_mapIdx]
  cases h : L1[i]? with
  | none => rfl
  | some x =>
    show some (if s1 ≤ i ∧ i < s1 + 0 then _ else x) = some x
    rw [if_neg (by omega)]
theorem redAt_getD {i : Nat} (hi : s1 + k ≤ i) : (redAt L1 s1 L2 s2 f k).getD i 0 = L1.getD i 0 := by
  unfold redAt
  rw [List.getD_eq_getElem?_getD, List.getD_eq_getElem?_getD, List.getElem?_mapIdx]
  cases h : L1[i]? with
  | none => rfl
  | some x =>
    show (some (if s1 ≤ i ∧ i < s1 + k then _ else x)).getD 0 = (some x).getD 0
    rw [if_neg (by omega)]
theorem redAt_item {p : Nat} (h : s1 + k < L1.length) : (rowIt (redAt L1 s1 L2 s2 f k) p)[s1 + k]? = some (itR (L1.getD (s1 + k) 0)) := by
  rw [rowIt_get (by rw [redAt_len]; exact h), redAt_getD (Nat.le_refl _)]
theorem redAt_step (h : s1 + k < L1.length) : (redAt L1 s1 L2 s2 f k).set (s1 + k) (L1.getD (s1 + k) 0 - f * L2.getD (s2 + k) 0) = redAt L1 s1 L2 s2 f (k + 1) := by
  unfold redAt
  apply List.ext_getElem?
  intro i
  by_cases hi : i = s1 + k
  · subst hi
    rw [List.getElem?_set_self (by rw [List.length_mapIdx]; exact h), List.getElem?_mapIdx, List.getD_eq_getElem?_getD, List.getElem?_eq_getElem h]
    show some (L1[s1 + k] - f * L2.getD (s2 + k) 0) = some (if s1 ≤ s1 + k ∧ s1 + k < s1 + (k + 1) then L1[s1 + k] - f * L2.getD (s2 + (s1 + k - s1)) 0 else L1[s1 + k])
    rw [if_pos (by omega), show s1 + k - s1 = k by omega]
  · rw [List.getElem?_set_ne (Ne.symm hi), List.getElem?_mapIdx, List.getElem?_mapIdx]
    cases h : L1[i]? with
    | none => rfl
    | some x =>
      show some (if s1 ≤ i ∧ i < s1 + k then _ else x) = some (if s1 ≤ i ∧ i < s1 + (k + 1) then _ else x)
      by_cases hb : s1 ≤ i ∧ i < s1 + k
      · rw [if_pos hb, if_pos (by omega)]
      · rw [if_neg hb, if_neg (by omega)]
end
theorem bd_getD {l : List Rat} {j : Nat} (h : ∀ x, x ∈ l → BdR j x) {k : Nat} (hk : k < l.length) : BdR j (l.getD k 0) := by
  rw [List.getD_eq_getElem?_getD, List.getElem?_eq_getElem hk]
  exact h _ (List.getElem_mem hk)
end Wx

namespace Wx
open Go Go.RowKit

structure RowL where
  b : Nat
  n : Nat
  cap : Nat
def RowL.hdr (r : RowL) : Value := .slice (some ⟨r.b, 0, none⟩) r.n r.cap
def tops (R : List RowL) : List It := R.map fun r => itV r.hdr
structure MatOk (g cap : Nat) (R : List RowL) (M : List (List Rat)) (H : List Bk) : Prop where
  top : (⟨g, 1, false, tops R⟩ : Bk) ∈ H
  rows : ∀ (i : Nat) (r : RowL), R[i]? = some r → (⟨r.b, 3, true, rowIt (M.getD i []) r.cap⟩ : Bk) ∈ H
  len : R.length = M.length
  fit : ∀ (i : Nat) (r : RowL), R[i]? = some r → r.n = (M.getD i []).length ∧ r.n ≤ r.cap ∧ r.cap ≤ maxLen
  apart : ∀ (i j : Nat) (r q : RowL), R[i]? = some r → R[j]? = some q → i ≠ j → r.b ≠ q.b
  off : ∀ r : RowL, r ∈ R → r.b ≠ g
  size : R.length ≤ cap ∧ cap ≤ maxLen
theorem tops_get {R : List RowL} {i : Nat} {r : RowL} (h : R[i]? = some r) : (tops R)[i]? = some (itV r.hdr) := by
  unfold tops
  rw [List.getElem?_map, h]
  rfl
theorem tops_len (R : List RowL) : (tops R).length = R.length := List.length_map ..
theorem tops_set (R : List RowL) (i : Nat) (r : RowL) : (tops R).set i (itV r.hdr) = tops (R.set i r) := by
  unfold tops
  rw [List.map_set]
theorem heap_rats {B : Nat → Prop} {w : World} {H : List Bk} {b n cap p : Nat} {l : List Rat} (h : HpOk B w H) (he : (⟨b, 3, true, rowIt l p⟩ : Bk) ∈ H) (hn : n = l.length) (hc : n ≤ cap) (hm : cap ≤ maxLen) : pRats l w (.slice (some ⟨b, 0, none⟩) n cap) := by
  subst hn
  obtain ⟨cs, T, h1, h2, _, h4⟩ := h.2.2 _ he
  have h1 : w.heap[b]? = some (.cells cs.toArray T (0, 0)) := h1
  have h2 : (rowIt l p).length * 3 ≤ cs.length := h2
  rw [rowIt_len] at h2
  refine ⟨_, _, rfl, hc, hm, fun _ => ⟨b, 0, rfl, fun i hi => ⟨(cs.drop (i * 3)).take 3, ?_, fun j v hj => ?_, ?_⟩⟩⟩
  · rw [List.length_take, List.length_drop]
    omega
  · rw [Nat.zero_add]
    exact cells_at h1 _ _ j v hj
  · exact h4 i _ (rowIt_get hi)
theorem MatOk.get {g cap : Nat} {R : List RowL} {M : List (List Rat)} {H : List Bk} (h : MatOk g cap R M H) {i : Nat} (hi : i < M.length) : ∃ r, R[i]? = some r := ⟨R[i]'(by rw [h.len]; exact hi), List.getElem?_eq_getElem _⟩
theorem heap_rows {B : Nat → Prop} {w : World} {H : List Bk} {g cap c : Nat} {R : List RowL} {M : List (List Rat)} (h : HpOk B w H) (hM : MatOk g cap R M H) (hc : c ≤ M.length) : pRow 1 false (M.length - c) (fun i => pRats (M.getD (c + i) [])) w (.slice (some ⟨g, c, none⟩) (M.length - c) (cap - c)) := by
  obtain ⟨cs, T, h1, h2, _, h4⟩ := h.2.2 _ hM.top
  have h1 : w.heap[g]? = some (.cells cs.toArray T (0, 0)) := h1
  have h2 : (tops R).length * 1 ≤ cs.length := h2
  rw [tops_len, hM.len] at h2
  have hs := hM.size
  rw [hM.len] at hs
  refine ⟨_, _, rfl, by omega, by omega, fun _ => ⟨g, c, rfl, fun i hi => ⟨(cs.drop (c + i)).take 1, ?_, fun j v hj => ?_, ?_⟩⟩⟩
  · rw [List.length_take, List.length_drop]
    omega
  · rw [Nat.mul_one]
    exact cells_at h1 _ _ j v hj
  · obtain ⟨r, hr⟩ := hM.get (i := c + i) (by omega)
    have h5 := h4 (c + i) _ (tops_get hr)
    have h5 : wrapV false ((cs.drop ((c + i) * 1)).take 1) = r.hdr := h5
    rw [Nat.mul_one] at h5
    obtain ⟨f1, f2, f3⟩ := hM.fit _ _ hr
    show pRats (M.getD (c + i) []) w (wrapV false ((cs.drop (c + i)).take 1))
    rw [h5]
    exact heap_rats h (hM.rows _ _ hr) f1 f2 f3
def swapL {α : Type} (l : List α) (a b : Nat) : List α := match l[a]?, l[b]? with
  | some x, some y => (l.set a y).set b x
  | _, _ => l
theorem swapL_of {α : Type} {l : List α} {a b : Nat} {x y : α} (hx : l[a]? = some x) (hy : l[b]? = some y) : swapL l a b = (l.set a y).set b x := by unfold swapL; rw [hx, hy]
theorem swapL_get {α : Type} {l : List α} {a b : Nat} {x y : α} (hx : l[a]? = some x) (hy : l[b]? = some y) (i : Nat) : (swapL l a b)[i]? = if i = b then some x else if i = a then some y else l[i]? := by
  have ha : a < l.length := by
    rcases Nat.lt_or_ge a l.length with h | h
    · exact h
    · rw [List.getElem?_eq_none h] at hx; cases hx
  have hb : b < l.length := by
    rcases Nat.lt_or_ge b l.length with h | h
    · exact h
    · rw [List.getElem?_eq_none h] at hy; cases hy
  rw [swapL_of hx hy]
  by_cases h1 : i = b
  · subst h1
    rw [if_pos rfl, List.getElem?_set_self (by rw [List.length_set]; exact hb)]
  · rw [if_neg h1, List.getElem?_set_ne (Ne.symm h1)]
    by_cases h2 : i = a
    · subst h2
      rw [if_pos rfl, List.getElem?_set_self ha]
    · rw [if_neg h2, List.getElem?_set_ne (Ne.symm h2)]
theorem swapL_len {α : Type} (l : List α) (a b : Nat) : (swapL l a b).length = l.length := by
  unfold swapL
  split <;> simp
theorem MatOk.swap {g cap : Nat} {R : List RowL} {M : List (List Rat)} {H : List Bk} (h : MatOk g cap R M H) {a b : Nat} (ha : a < M.length) (hb : b < M.length) : MatOk g cap (swapL R a b) (swapL M a b) (hup H g (tops (swapL R a b))) := by
  obtain ⟨x, hx⟩ := h.get ha
  obtain ⟨y, hy⟩ := h.get hb
  have mx : M[a]? = some (M.getD a []) := by rw [List.getD_eq_getElem?_getD, List.getElem?_eq_getElem ha]; rfl
  have my : M[b]? = some (M.getD b []) := by rw [List.getD_eq_getElem?_getD, List.getElem?_eq_getElem hb]; rfl
  have gR := swapL_get hx hy
  have gM := swapL_get mx my
  -- row i of the exchanged one is row s i
  have key : ∀ i r, (swapL R a b)[i]? = some r → ∃ j, R[j]? = some r ∧ (swapL M a b).getD i [] = M.getD j [] ∧ ((i = b ∧ j = a) ∨ (i ≠ b ∧ i = a ∧ j = b) ∨ (i ≠ b ∧ i ≠ a ∧ j = i)) := by
    intro i r hr
    rw [gR i] at hr
    have hg : (swapL M a b).getD i [] = (if i = b then some (M.getD a []) else if i = a then some (M.getD b []) else M[i]?).getD [] := by rw [List.getD_eq_getElem?_getD, gM i]
    rw [hg]
    by_cases h1 : i = b
    · rw [if_pos h1] at hr ⊢
      exact ⟨a, hx.trans hr, rfl, .inl ⟨h1, rfl⟩⟩
    · rw [if_neg h1] at hr ⊢
      by_cases h2 : i = a
      · rw [if_pos h2] at hr ⊢
        exact ⟨b, hy.trans hr, rfl, .inr (.inl ⟨h1, h2, rfl⟩)⟩
      · rw [if_neg h2] at hr ⊢
        exact ⟨i, hr, by rw [List.getD_eq_getElem?_getD], .inr (.inr ⟨h1, h2, rfl⟩)⟩
  have off' : ∀ r, r ∈ swapL R a b → r.b ≠ g := fun r hr => by
    obtain ⟨i, hi⟩ := List.mem_iff_getElem?.1 hr
    obtain ⟨j, hj, _⟩ := key i r hi
    exact h.off r (List.mem_of_getElem? hj)
  refine ⟨hup_mem h.top rfl, fun i r hr => ?_, by rw [swapL_len, swapL_len]; exact h.len, fun i r hr => ?_, fun i j r q hr hq hne => ?_, off', by rw [swapL_len]; exact h.size⟩
  · obtain ⟨j, hj, e, _⟩ := key i r hr
    rw [e]
    exact hup_other (h.rows j r hj) (h.off r (List.mem_of_getElem? hj))
  · obtain ⟨j, hj, e, _⟩ := key i r hr
    rw [e]
    exact h.fit j r hj
  · obtain ⟨i', hi', _, e1⟩ := key i r hr
    obtain ⟨j', hj', _, e2⟩ := key j q hq
    exact h.apart i' j' r q hi' hj' (by omega)
theorem hset_mem {H : List Bk} {b idx : Nat} {it : It} {e : Bk} (he : e ∈ H) (hb : e.b = b) : ({ e with items := e.items.set idx it } : Bk) ∈ hset H b idx it := List.mem_map.2 ⟨e, he, if_pos hb⟩
theorem heap_swap {H : List Bk} {g a b : Nat} {R : List RowL} {x y : RowL} (hu : ∀ e, e ∈ H → e.b = g → e.items = tops R) (hx : R[a]? = some x) (hy : R[b]? = some y) : hset (hset H g a (itV y.hdr)) g b (itV x.hdr) = hup H g (tops (swapL R a b)) := by
  have e : hup H g (tops R) = H := hup_self hu
  rw [swapL_of hx hy, ← tops_set, ← tops_set, ← hset_hup, ← hset_hup, e]
theorem firstI_range (p : Nat → Bool) (n : Nat) : -1 ≤ firstI p n ∧ firstI p n < n := by
  unfold firstI
  split
  · rename_i i h
    have := List.mem_of_find?_eq_some h
    have : i < n := by simpa using this
    omega
  · omega
def pivI (X : List (List Rat)) (c : Nat) : Int := firstI (fun i => !(decide ((X.getD (c + i) []).getD c 0 = 0))) (X.length - c)
theorem pivI_range {X : List (List Rat)} {c : Nat} (hc : c < X.length) : -1 ≤ pivI X c ∧ (c : Int) + pivI X c < X.length := by
  have := firstI_range (fun i => !(decide ((X.getD (c + i) []).getD c 0 = 0))) (X.length - c)
  unfold pivI
  omega
def pivL {α : Type} (X : List (List Rat)) (l : List α) (c : Nat) : List α := if pivI X c < 0 then l else swapL l c (c + (pivI X c).toNat)
theorem MatOk.pivot {g cap : Nat} {R : List RowL} {X : List (List Rat)} {H : List Bk} (h : MatOk g cap R X H) {c : Nat} (hc : c < X.length) (hu : ∀ e, e ∈ H → e.b = g → e.items = tops R) : MatOk g cap (pivL X R c) (pivL X X c) (hup H g (tops (pivL X R c))) := by
  unfold pivL
  split
  · rw [hup_self hu]
    exact h
  · have := pivI_range hc
    exact h.swap hc (by omega)
theorem MatOk.setRow {g cap : Nat} {R : List RowL} {M : List (List Rat)} {H : List Bk} (h : MatOk g cap R M H) {a : Nat} {x : RowL} (hx : R[a]? = some x) {l : List Rat} (hl : l.length = (M.getD a []).length) : MatOk g cap R (M.set a l) (hup H x.b (rowIt l x.cap)) := by
  have ha : a < M.length := by
    rw [← h.len]
    rcases Nat.lt_or_ge a R.length with h' | h'
    · exact h'
    · rw [List.getElem?_eq_none h'] at hx; cases hx
  have eq : ∀ i, (M.set a l).getD i [] = if i = a then l else M.getD i [] := fun i => by
    rw [List.getD_eq_getElem?_getD]
    by_cases hi : i = a
    · subst hi
      rw [if_pos rfl, List.getElem?_set_self ha]
      rfl
    · rw [if_neg hi, List.getElem?_set_ne (Ne.symm hi), List.getD_eq_getElem?_getD]
  refine ⟨hup_other h.top (Ne.symm (h.off x (List.mem_of_getElem? hx))), fun i r hr => ?_, by rw [List.length_set]; exact h.len, fun i r hr => ?_, h.apart, h.off, h.size⟩
  · rw [eq]
    by_cases hi : i = a
    · subst hi
      rw [hx] at hr
      injection hr with hr
      subst hr
      rw [if_pos rfl]
      exact hup_mem (h.rows i x hx) rfl
    · rw [if_neg hi]
      exact hup_other (h.rows i r hr) (h.apart i a r x hr hx hi)
  · rw [eq]
    obtain ⟨f1, f2, f3⟩ := h.fit i r hr
    by_cases hi : i = a
    · subst hi
      rw [if_pos rfl, hl]
      exact ⟨f1, f2, f3⟩
    · rw [if_neg hi]
      exact ⟨f1, f2, f3⟩
end Wx

namespace Wx
open Go Go.RowKit

structure MatL where
  g : Nat
  cap : Nat
  R : List RowL
  H : List Bk
def MatL.hd (n : Nat) (l : MatL) : Value := .slice (some ⟨l.g, 0, none⟩) n l.cap
section
variable {P : Program} {Q : Exit → Act → World → Prop} {c : Cfg} {V : List Vr} {A : List Al} {G : List Ent} {a : Act} {w : World} {o : Oper}
variable {d : Nat} {x y z u : Operand} {ty : TypeId} {pos : String} {aft : Array Edge}
theorem DoesG.mono {ops : Array Oper} {K K' : Act → World → Prop} (h : DoesG P ops o a w K) (hK : ∀ a w, K a w → K' a w) : DoesG P ops o a w K' := by
  unfold DoesG at *
  split at h
  · rename_i hw
    rw [if_pos hw]
    exact h.mono hK
  · rename_i hw
    rw [if_neg hw]
    exact hK _ _ h
theorem step_callO1 {Λ : Type} {C : Λ → Prop} {hd : Λ → Value} {H : Λ → List Bk} {p1 : Pred} (id : Nat) {f : FuncId} {ts : Array TypeId} {ops : Array Oper} (hf : CanEnter P f) (h : Inv c V [] G none_ a w) (h1 : Has [0] G 0 x p1)
    (hc : ∀ (M : Nat → Nat → Prop) w v1, Mid M w → Box M (fun w => p1 w v1) w → Calls P f #[v1] w (RetO C hd H w)) (hd' : decide (d < c.N) = true) (hV : (V.all fun y => (y.slot != d && y.id != id) && (y.born.isNone && y.dead.isNone)) = true) (hG : (G.all fun e => e.slot != d) = true) :
    DoesG P ops ⟨some d, .call ⟨.value (.func f), #[x], ts⟩, ty, pos, aft, none⟩ a w (fun a w => ∃ l, C l ∧ Inv c (objV id d (H l) :: V) [] (⟨none, none, d, pEq (hd l)⟩ :: G) none_ a w) :=
  step_callO hf h (fun β hI => by
    rw [show (#[x] : Array Operand).map a.eval = #[a.eval x] by simp]
    exact hc _ w _ (mid_own hI) (h1.spec hI det0)) hd' hV hG
end
end Wx

namespace Wx
open Go Go.RowKit

section
variable {P : Program} {c : Cfg} {V : List Vr} {G : List Ent} {a : Act} {w : World} {o : Oper}
def singB (o : Oper) (N : Nat) (nv : List Vr) (ne : List Ent) (V1 : List Vr) (G1 : List Ent) : Bool := o.guard.isNone && (newB nv [] ne && wfB N [o] V1 [] G1)
theorem sing {ops : Array Oper} {V1 V2 : List Vr} {G1 G2 : List Ent} (h : Inv c V [] G none_ a w) (nv : List Vr) (ne : List Ent) (hV : MkV nv V V1) (hG : MkE ne G G1) (hb : singB o c.N nv ne V1 G1 = true)
    (hs : OpOk P #[o] [0] c V1 [] G1 0 o) (kV : KeepV V1 V2) (kG : KeepE G1 G2) : DoesG P ops o a w (Inv c V2 [] G2 none_) := by
  unfold singB newB at hb
  simp only [Bool.and_eq_true] at hb
  obtain ⟨hg, ⟨hn1, hn2, hn3⟩, hwf⟩ := hb
  obtain ⟨kv, e1⟩ := pick_of_sub kV.sub
  obtain ⟨kg, e2⟩ := pick_of_sub kG.sub
  exact single h (by cases hgg : o.guard with | none => rfl | some x => rw [hgg] at hg; cases hg) (hV.strip hn1) rfl (hG.strip hn3) hwf hs kv kg e1 e2
theorem exL {ops : Array Oper} {Λ : Type} {C : Λ → Prop} {J J' : Λ → Act → World → Prop} (h : ∀ l, C l → ∀ a w, J l a w → DoesG P ops o a w (J' l)) : ∀ a w, (∃ l, C l ∧ J l a w) → DoesG P ops o a w (fun a w => ∃ l, C l ∧ J' l a w) := chain_ex h fun h hm => h.mono hm
theorem DoesG.exC {ops : Array Oper} {Λ : Type} {C C' : Λ → Prop} {J : Λ → Act → World → Prop} (h : DoesG P ops o a w (fun a w => ∃ l, C l ∧ J l a w)) (hc : ∀ l, C l → C' l) : DoesG P ops o a w (fun a w => ∃ l, C' l ∧ J l a w) := h.mono fun _ _ ⟨l, h1, h2⟩ => ⟨l, hc l h1, h2⟩
end
end Wx

namespace Wx
open Go Go.RowKit

def pArr (vs : List Value) : Pred := fun w v => ∃ g, v = .pointer (some ⟨g, 0, none⟩) ∧ ∀ j u, vs[j]? = some u → w.cell? ⟨g, j, none⟩ = some u
theorem own_old {c : Cfg} {V : List Vr} {A : List Al} {G : List Ent} {L : Nat → Bool} {β : Nat → Nat → Prop} {a : Act} {w : World} (hI : InvB c V A G L β a w) {k o : Nat} (h : own c V L β k o) : k < w.heap.size := (mid_own hI k o h).1
section
variable {P : Program} {ops : Array Oper} {ms : List Nat} {c : Cfg} {V : List Vr} {A : List Al} {G : List Ent} {i d : Nat} {x y : Operand} {ty : TypeId} {pos : String} {aft : Array Edge}
theorem op_boxArr {T : TypeId} {vs : List Value} (h : Has ms G i x (pEq (.agg vs.toArray))) (hb : (V.all fun x => x.born != some i && x.dead != some i) = true) (hA : (A.all fun q => q.tag != some i) = true) (hp : Post G i (pArr vs)) : OpOk P ops ms c V A G i ⟨some d, .box T x, ty, pos, aft, none⟩ :=
  op_valN rfl (fun _ x hx => by
      rw [List.all_eq_true] at hb
      have := hb x hx
      rw [Bool.and_eq_true, bne_iff_ne, bne_iff_ne] at this
      exact this) rfl (.inr hA) hp fun L β a w hI hd => by
    have k := (h.spec hI hd).out
    have k : a.eval x = .agg vs.toArray := k
    refine ⟨.pointer (some ⟨w.heap.size, 0, none⟩), w.alloc (.cells vs.toArray T), ?_, (Below.refl _ _).alloc (Nat.le_refl _) _, fun w' he => ⟨w.heap.size, rfl, fun j u hj => ?_⟩⟩
    · show (do pure (Next.value (← Instr.box T (a.eval x)))).run P w = _
      rw [k]
      simp only [Instr.box, newVar, newRow, Value.cells]
      rfl
    · refine he.cell w.heap.size j u (fun ho => Nat.lt_irrefl _ (own_old hI ho)) ?_
      have e : (w.alloc (.cells vs.toArray T)).heap[w.heap.size]? = some (.cells vs.toArray T) := by
        show (w.heap.push _)[w.heap.size]? = _
        exact Array.getElem?_push_size
      simp only [World.cell?, e]
      simpa using hj
theorem op_indexArr {S : TypeId} {vs : List Value} {u : Value} (k : Nat) (hk : vs[k]? = some u) (h : Has ms G i x (pArr vs)) (hf : ∀ b w, (Instr.indexAt S (.pointer (some ⟨b, 0, none⟩)) (.int .i64 (k : Int))).run P w = .ok (.pointer (some ⟨b, k, none⟩)) w) (hy : Has ms G i y (pI (k : Int))) (hA : (A.all fun q => q.tag != some i) = true) (hp : Post G i (pPtr 1 false (pEq u))) : OpOk P ops ms c V A G i ⟨some d, .indexAddr S x y, ty, pos, aft, none⟩ :=
  op_val rfl rfl rfl (.inr hA) hp fun L β a w hI hd => by
    have hr := h.spec hI hd
    have hi : a.eval y = .int .i64 (k : Int) := (hy.spec hI hd).out
    obtain ⟨g, e, _⟩ := hr.out
    refine ⟨.pointer (some ⟨g, k, none⟩), w, ?_, Below.refl _ _, fun w' he => ?_⟩
    · show (do pure (Next.value (← Instr.indexAt S (a.eval x) (a.eval y)))).run P w = _
      rw [e, hi, Sem.run_bind, hf g w]
      rfl
    · obtain ⟨g2, e2, hc⟩ := hr w' he
      rw [e] at e2
      injection e2 with e2
      injection e2 with e2
      injection e2 with e2
      subst e2
      refine ⟨g, k, [u], rfl, rfl, fun j v hj => ?_, rfl⟩
      cases j with
      | zero => simp at hj; subst hj; exact hc k u hk
      | succ j => simp at hj
end
end Wx
