import Derived.Handy
import Derived.Orders
import Derived.Tactics
namespace Wx
open Go

section
variable {P : Program} {ops : Array Oper} {Q : Exit → Act → World → Prop}

def OneQ (K : Act → World → Prop) (Q : Exit → Act → World → Prop) : Exit → Act → World → Prop
  | .normal, a, w => K a w
  | .exit n, a, w => Q (.exit n) a w
  | .goto n, a, w => Q (.goto n) a w
  | .ret, a, w => Q .ret a w
  | .panic c, a, w => Q (.panic c) a w
  | .outgrown, a, w => Q .outgrown a w
theorem wpOp_of_list {i : Nat} {o : Oper} {K : Act → World → Prop} {a : Act} {w : World} (hi : ops[i]? = some o) (h : wpList P ops (OneQ K Q) [o] a w) : wpOp P ops Q i K a w := by
  unfold wpOp
  rw [hi]
  unfold wpList at h
  simp only at h ⊢
  split
  · next hw =>
    rw [if_pos hw] at h
    rcases h with h | ⟨h1, h2⟩
    · refine .inl ?_
      unfold Oper.wp at *
      generalize (execOp a.eval o).run P w = r at *
      cases r with
      | ok n w' =>
        cases n <;> simp only [Oper.upon, wpList] at h ⊢
        case value u => exact h
        case skip => exact h
        case defer d => exact h
        case enter f args =>
          refine Calls.mono h fun e w'' he => ?_
          cases e with
          | returned u => exact he
          | panicked c => exact he
          | outgrown => obtain ⟨a', w', h'⟩ := he; exact ⟨a', w', h'⟩
        case row row args => exact Rows.mono h fun u w'' he => he
      | halt x w' => cases x <;> simp only [Oper.upon] at h ⊢ <;> exact h
    · exact .inr ⟨h1, by obtain ⟨a', w', h'⟩ := h2; exact ⟨a', w', h'⟩⟩
  · next hw =>
    rw [if_neg hw] at h
    exact h

def fwdB (ops : Array Oper) : Bool := (List.range ops.size).all fun i => (ops[i]?).all fun o => o.after.all fun e => !Region.binds .any e || decide (e.on < i)
theorem fwd_spec (h : fwdB ops = true) {i : Nat} {o : Oper} (hi : ops[i]? = some o) {e : Edge} (he : e ∈ o.after) (hb : Region.binds .any e = true) : e.on < i := by
  unfold fwdB at h
  rw [List.all_eq_true] at h
  have hlt : i < ops.size := by
    rcases Nat.lt_or_ge i ops.size with h' | h'
    · exact h'
    · rw [Array.getElem?_eq_none h'] at hi; cases hi
  have := h i (List.mem_range.2 hlt)
  rw [hi] at this
  simp only [Option.all_some] at this
  rw [Array.all_eq_true_iff_forall_mem] at this
  have h2 := this e he
  rw [hb] at h2
  simpa using h2
theorem ready_some (hf : fwdB ops = true) {listed : Array Bool} {i : Nat} (hi : i < ops.size) (hl : listed.getD i true = false) (hsz : listed.size = ops.size) : Region.ready .any ops listed ≠ [] := by
  have key : ∀ n i, i ≤ n → i < ops.size → listed.getD i true = false → ∃ j, j ∈ Region.ready .any ops listed := by
    intro n
    induction n with
    | zero =>
      intro i h0 hi hl
      refine ⟨i, mem_ready.2 ⟨hl, ops[i], Array.getElem?_eq_getElem hi, fun e he hb => ?_⟩⟩
      have := fwd_spec hf (Array.getElem?_eq_getElem hi) he hb
      omega
    | succ n ih =>
      intro i h0 hi hl
      by_cases hall : ∀ e ∈ ops[i].after, Region.binds .any e = true → listed.getD e.on false = true
      · exact ⟨i, mem_ready.2 ⟨hl, ops[i], Array.getElem?_eq_getElem hi, hall⟩⟩
      · simp only [Classical.not_forall] at hall
        obtain ⟨e, he, hb, hn⟩ := hall
        have hlt := fwd_spec hf (Array.getElem?_eq_getElem hi) he hb
        refine ih e.on (by omega) (by omega) ?_
        have hs : e.on < listed.size := by omega
        simp only [Array.getD_eq_getD_getElem?, Array.getElem?_eq_getElem hs, Option.getD_some] at hn ⊢
        simpa using hn
  obtain ⟨j, hj⟩ := key i i (Nat.le_refl _) hi hl
  intro h
  rw [h] at hj
  cases hj
def before (ops : Array Oper) : Nat → Nat → List Nat
  | 0, _ => []
  | n + 1, i => match ops[i]? with
    | none => []
    | some o => (o.after.toList.filter (fun e => Region.binds .any e)).flatMap fun e => e.on :: before ops n e.on
def waitsB (ops : Array Oper) (F : List Nat) : Bool := (F.all fun j => decide (j < ops.size)) && (List.range ops.size).all fun i => F.contains i || F.all fun j => (before ops ops.size i).contains j
def Closed (ops : Array Oper) (listed : Array Bool) : Prop := ∀ i o, ops[i]? = some o → listed.getD i false = true → ∀ e ∈ o.after, Region.binds .any e = true → listed.getD e.on false = true
theorem closed_before {listed : Array Bool} (hc : Closed ops listed) : ∀ (n i : Nat), (∀ o, ops[i]? = some o → ∀ e ∈ o.after, Region.binds .any e = true → listed.getD e.on false = true) → ∀ j ∈ before ops n i, listed.getD j false = true := by
  intro n
  induction n with
  | zero => intro i _ j hj; simp [before] at hj
  | succ n ih =>
    intro i h j hj
    unfold before at hj
    cases ho : ops[i]? with
    | none => rw [ho] at hj; simp at hj
    | some o =>
      rw [ho] at hj
      simp only [List.mem_flatMap, List.mem_filter] at hj
      obtain ⟨e, ⟨he, hb⟩, hj⟩ := hj
      have hl := h o ho e (by simpa using he) hb
      rcases List.mem_cons.1 hj with rfl | hj
      · exact hl
      · exact ih e.on (fun o' ho' e' he' hb' => hc e.on o' ho' hl e' he' hb') j hj
theorem Closed.set {listed : Array Bool} (hc : Closed ops listed) {i : Nat} (hr : i ∈ Region.ready .any ops listed) : Closed ops (listed.setIfInBounds i true) := by
  intro k o ho hk e he hb
  have up : ∀ j, listed.getD j false = true → (listed.setIfInBounds i true).getD j false = true := by
    intro j hj
    by_cases hij : i = j
    · subst hij
      rcases Nat.lt_or_ge i listed.size with h' | h'
      · simp [h']
      · simp [Array.getElem?_eq_none h'] at hj
    · simpa [Array.getElem?_setIfInBounds_ne hij] using hj
  by_cases hik : i = k
  · subst hik
    obtain ⟨_, o', ho', hall⟩ := mem_ready.1 hr
    rw [ho] at ho'
    injection ho' with ho'
    subst ho'
    exact up _ (hall e he hb)
  · refine up _ (hc k o ho ?_ e he hb)
    simpa [Array.getElem?_setIfInBounds_ne hik] using hk
def RestOff (n : Nat) (F : List Nat) (listed : Array Bool) : Prop := listed.size = n ∧ ∀ i, i < n → F.contains i = false → listed.getD i true = false
def listF (n : Nat) (F : List Nat) : Array Bool := ((List.range n).map fun i => F.contains i).toArray
theorem count_step {n : Nat} {l : Array Bool} (hs : l.size = n) {i : Nat} (hi : i < n) (hl : l.getD i true = false) :
    ((List.range n).filter fun j => !((l.setIfInBounds i true).getD j true)).length + 1 = ((List.range n).filter fun j => !(l.getD j true)).length := by
  have key : ∀ m, m ≤ n → ((List.range m).filter fun j => !((l.setIfInBounds i true).getD j true)).length + (if i < m then 1 else 0) = ((List.range m).filter fun j => !(l.getD j true)).length := by
    intro m
    induction m with
    | zero => intro _; simp
    | succ m ih =>
      intro hm
      have := ih (by omega)
      rw [List.range_succ, List.filter_append, List.filter_append, List.length_append, List.length_append]
      by_cases him : i = m
      · subst him
        have e1 : (l.setIfInBounds i true).getD i true = true := by simp [hs, hi]
        have c1 : List.filter (fun j => !((l.setIfInBounds i true).getD j true)) [i] = [] := by rw [List.filter_cons, e1]; rfl
        have c2 : List.filter (fun j => !(l.getD j true)) [i] = [i] := by rw [List.filter_cons, hl]; rfl
        rw [if_neg (Nat.lt_irrefl i)] at this
        rw [c1, c2, if_pos (by omega)]
        simp only [List.length_nil, List.length_cons]
        omega
      · have e1 : (l.setIfInBounds i true).getD m true = l.getD m true := by simp [Array.getElem?_setIfInBounds_ne him]
        simp only [List.filter_cons, List.filter_nil, e1]
        have e2 : (if i < m + 1 then 1 else 0) = (if i < m then 1 else 0) := by
          by_cases h : i < m
          · rw [if_pos h, if_pos (by omega)]
          · rw [if_neg h, if_neg (by omega)]
        rw [e2]
        omega
  have := key n (Nat.le_refl _)
  rw [if_pos hi] at this
  exact this
theorem wpAny_inv (F : List Nat) (hf : fwdB ops = true) (hw : waitsB ops F = true) (I : (Nat → Bool) → Act → World → Prop)
    (hstep : ∀ i ∈ F, ∀ o, ops[i]? = some o → ∀ L a w, I L a w → L i = false → (∀ e ∈ o.after, Region.binds .any e = true → L e.on = true) → wpOp P ops Q i (I (fun j => if j = i then true else L j)) a w)
    (hrest : ∀ L a w, I L a w → (∀ i ∈ F, L i = true) → ∀ fuel, ((List.range ops.size).filter fun j => !((listF ops.size F).getD j true)).length ≤ fuel → wpAny P .any ops Q fuel (listF ops.size F) a w) :
    ∀ (fuel : Nat) (listed : Array Bool) (a : Act) (w : World), RestOff ops.size F listed → Closed ops listed → I (fun j => listed.getD j false) a w →
      ((List.range ops.size).filter fun j => !(listed.getD j true)).length ≤ fuel → wpAny P .any ops Q fuel listed a w := by
  have all : ∀ (fuel : Nat) (listed : Array Bool) (a : Act) (w : World), RestOff ops.size F listed → I (fun j => listed.getD j false) a w →
      ((List.range ops.size).filter fun j => !(listed.getD j true)).length ≤ fuel → (∀ i ∈ F, listed.getD i false = true) → wpAny P .any ops Q fuel listed a w := by
    intro fuel listed a w hr hI hc hall
    have e : listed = listF ops.size F := by
      apply Array.ext
      · rw [hr.1]; simp [listF]
      · intro i h1 h2
        have hi : i < ops.size := by rw [← hr.1]; exact h1
        simp only [listF, List.getElem_toArray, List.getElem_map, List.getElem_range]
        cases hF : F.contains i with
        | true =>
          have := hall i (by simpa using hF)
          simpa [h1] using this
        | false =>
          have := hr.2 i hi hF
          simpa [h1] using this
    have hI' := hrest _ a w hI hall
    rw [← e] at hI'
    exact hI' fuel hc
  have hlt : ∀ j ∈ F, j < ops.size := by
    intro j hj
    simp only [waitsB, Bool.and_eq_true, List.all_eq_true, decide_eq_true_eq] at hw
    exact hw.1 j hj
  have hwv : ∀ i, i < ops.size → i ∈ F ∨ ∀ j ∈ F, j ∈ before ops ops.size i := by
    intro i hi
    simp only [waitsB, Bool.and_eq_true, List.all_eq_true, List.mem_range, Bool.or_eq_true, List.contains_iff_mem] at hw
    exact hw.2 i hi
  intro fuel
  induction fuel with
  | zero =>
    intro listed a w hr hcl hI hc
    refine all 0 listed a w hr hI hc (fun i hi => ?_)
    rcases Nat.lt_or_ge i ops.size with h' | h'
    · have h0 : (List.range ops.size).filter (fun j => !(listed.getD j true)) = [] := List.eq_nil_of_length_eq_zero (by omega)
      have := List.filter_eq_nil_iff.1 h0 i (List.mem_range.2 h')
      have hsz : i < listed.size := by rw [hr.1]; exact h'
      simpa [hsz] using this
    · exfalso
      have := hlt i hi
      omega
  | succ fuel ih =>
    intro listed a w hr hcl hI hc
    by_cases hall : ∀ i ∈ F, listed.getD i false = true
    · exact all _ listed a w hr hI hc hall
    · have hx : ∃ i ∈ F, ¬ listed.getD i false = true := by
        apply Classical.byContradiction
        intro h
        exact hall (fun i hi => Classical.byContradiction fun h' => h ⟨i, hi, h'⟩)
      obtain ⟨k, hk, hkl⟩ := hx
      have hks := hlt k hk
      have hkl' : listed.getD k true = false := by
        have : k < listed.size := by rw [hr.1]; exact hks
        simp [this] at hkl ⊢
        exact hkl
      refine ⟨fun h => absurd h (ready_some hf hks hkl' hr.1), fun i hi => ?_⟩
      obtain ⟨hil, o, ho, hpre⟩ := mem_ready.1 hi
      have hio : i < ops.size := by
        rcases Nat.lt_or_ge i ops.size with h' | h'
        · exact h'
        · rw [Array.getElem?_eq_none h'] at ho; cases ho
      have hiF : i ∈ F := by
        apply Classical.byContradiction
        intro hn
        have hw2 := (hwv i hio).resolve_left hn
        apply hall
        intro j hj
        refine closed_before hcl ops.size i (fun o' ho' e he hb => ?_) j (hw2 j hj)
        rw [ho] at ho'
        injection ho' with ho'
        subst ho'
        exact hpre e he hb
      have hno : listed.getD i false = false := by
        have hs : i < listed.size := by rw [hr.1]; exact hio
        simp [hs] at hil ⊢
        exact hil
      refine wpOp_mono (fun a' w' h' => ih _ a' w' ⟨by rw [Array.size_setIfInBounds]; exact hr.1, fun j hj hF => ?_⟩ (hcl.set hi) ?_ ?_) (hstep i hiF o ho _ a w hI hno (fun e he hb => hpre e he hb))
      · have hij : i ≠ j := by
          rintro rfl
          have : F.contains i = true := by simpa using hiF
          rw [this] at hF; cases hF
        have := hr.2 j hj hF
        simpa [Array.getElem?_setIfInBounds_ne hij] using this
      · have e : (fun j => (listed.setIfInBounds i true).getD j false) = (fun j => if j = i then true else listed.getD j false) := by
          funext j
          by_cases hij : j = i
          · subst hij
            have : j < listed.size := by rw [hr.1]; exact hio
            simp [this]
          · simp [Array.getElem?_setIfInBounds_ne (Ne.symm hij), hij]
        rw [e]; exact h'
      · have := count_step hr.1 hio hil
        omega
def preL (o : Oper) : List Nat := (o.after.toList.filter fun e => Region.binds .any e).map (·.on)
def upd (L : Nat → Bool) (i : Nat) : Nat → Bool := fun j => if j = i then true else L j
theorem upd_self (L : Nat → Bool) (i : Nat) : upd L i i = true := if_pos rfl
theorem upd_of {L : Nat → Bool} {i j : Nat} (h : upd L i j = true) (hne : j ≠ i) : L j = true := by unfold upd at h; rwa [if_neg hne] at h
def StepsN (P : Program) (ops : Array Oper) (Q : Exit → Act → World → Prop) (I : (Nat → Bool) → Act → World → Prop) : Nat → List Oper → Prop
  | _, [] => True
  | i, o :: os => (∀ L a w, I L a w → L i = false → (∀ j ∈ preL o, L j = true) → wpList P ops (OneQ (I (upd L i)) Q) [o] a w) ∧ StepsN P ops Q I (i + 1) os
theorem StepsN.get {I : (Nat → Bool) → Act → World → Prop} : ∀ {os : List Oper} {i : Nat}, StepsN P ops Q I i os → ∀ {j : Nat} {o : Oper}, os[j]? = some o → ∀ L a w, I L a w → L (i + j) = false → (∀ j ∈ preL o, L j = true) → wpList P ops (OneQ (I (upd L (i + j))) Q) [o] a w := by
  intro os
  induction os with
  | nil => intro i _ j o h; simp at h
  | cons o' os ih =>
    intro i hs j o h
    cases j with
    | zero => simp at h; subst h; exact hs.1
    | succ j => have := ih hs.2 (by simpa using h); rwa [show i + 1 + j = i + (j + 1) by omega] at this
def regionA (ops : Array Oper) : Bool := fwdB ops && decide (Region.ready .any ops (Array.replicate ops.size true) = [])
theorem region_inv_all {id : Nat} {l : List Oper} (hm : P.follows .mixedOrders = true) (hok : regionA l.toArray = true) (I : (Nat → Bool) → Act → World → Prop)
    {a : Act} {w : World} (h0 : I (fun _ => false) a w.drew) (hstep : StepsN P l.toArray Q I 0 l)
    (hrest : ∀ L a w, I L a w → (∀ i, i < l.length → L i = true) → wpList P l.toArray Q [] a w) : (Code.region id l.toArray true).wp P Q a w := by
  simp only [regionA, Bool.and_eq_true, decide_eq_true_eq] at hok
  obtain ⟨h1, h3⟩ := hok
  have hF : listF l.toArray.size (List.range l.toArray.size) = Array.replicate l.toArray.size true := by
    apply Array.ext
    · simp [listF]
    · intro i h1 h2
      have hi : i < l.length := by simpa [listF] using h1
      simp [listF, hi]
  refine wp_region_any hm (wpAny_inv (List.range l.toArray.size) h1 ?_ I (fun i hi o ho L a w hI hno hpre => wpOp_of_list ho ?_) (fun L a w hI hall fuel hfl => ?_) l.toArray.size _ a _ ⟨by simp, fun i hi _ => (by have hi' : i < l.length := (by simpa using hi); simp [hi'])⟩ ?_ ?_ ?_)
  · simp only [waitsB, Bool.and_eq_true, List.all_eq_true, decide_eq_true_eq, List.mem_range, Bool.or_eq_true]
    exact ⟨fun j hj => hj, fun i hi => .inl (by simpa using hi)⟩
  · have ho' : l[i]? = some o := by simpa using ho
    have := hstep.get ho' L a w hI (by rw [Nat.zero_add]; exact hno) (fun j hj => by
      simp only [preL, List.mem_map, List.mem_filter] at hj
      obtain ⟨e, ⟨he, hb⟩, rfl⟩ := hj
      exact hpre e (by simpa using he) hb)
    rwa [Nat.zero_add] at this
  · rw [hF]
    have hq := hrest L a w hI (fun i hi => hall i (List.mem_range.2 (by simpa using hi)))
    cases fuel with
    | zero => exact ⟨h3, hq⟩
    | succ n => exact ⟨fun _ => hq, by rw [h3]; simp⟩
  · intro i o ho hl
    exfalso
    rcases Nat.lt_or_ge i l.toArray.size with h' | h'
    · have h2 : i < l.length := by simpa using h'
      simp [h2] at hl
    · have h2 : l.length ≤ i := by simpa using h'
      simp [h2] at hl
  · have e : (fun j => (Array.replicate l.toArray.size false).getD j false) = (fun _ => false) := by
      funext j
      rcases Nat.lt_or_ge j l.length with h' | h'
      · simp [h']
      · simp [h']
    rw [e]; exact h0
  · have := List.length_filter_le (fun j => !((Array.replicate l.toArray.size false).getD j true)) (List.range l.toArray.size)
    rw [List.length_range] at this
    exact this
end
end Wx
