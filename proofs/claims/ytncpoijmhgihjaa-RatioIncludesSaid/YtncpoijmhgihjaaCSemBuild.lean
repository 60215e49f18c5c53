import Derived.Handy
import Derived.Laws.Tables
import Derived.Test.YtncpoijmhgihjaaPlain1
import Derived.Test.YtncpoijmhgihjaaMem
import Derived.Test.YtncpoijmhgihjaaInv
import Derived.Test.YtncpoijmhgihjaaSem
import Derived.Test.YtncpoijmhgihjaaSemOps
import Derived.Test.YtncpoijmhgihjaaSemMem
import Derived.Test.YtncpoijmhgihjaaSemCode
import Derived.Test.YtncpoijmhgihjaaCSemData
namespace Wx
open Go Go.RowKit

/-- How a struct of a type is made: its fields' places, its zero cells. -/
def BuildTy (P : Program) (T : TypeId) (pl : Array (Nat × Nat)) (z : List Value) : Prop :=
  ∀ parts, P.built T parts = Instr.fill (fun i => pl[i]?) z.toArray parts
theorem foldl_set (ds : List Value) : ∀ (k : Nat) (cs : List Value) (off : Nat), off + k + ds.length ≤ cs.length →
    ((ds.zipIdx k).foldl (fun (cs : Array Value) (q : Value × Nat) => cs.setIfInBounds (off + q.2) q.1) cs.toArray) = (cs.take (off + k) ++ ds ++ cs.drop (off + k + ds.length)).toArray := by
  induction ds with
  | nil => intro k cs off _; simp
  | cons d ds ih =>
    intro k cs off h
    simp only [List.zipIdx_cons, List.foldl_cons]
    have e : cs.toArray.setIfInBounds (off + k) d = (cs.set (off + k) d).toArray := by simp
    rw [e, ih (k + 1) (cs.set (off + k) d) off (by simp at h ⊢; omega)]
    congr 1
    have := list_seg_step cs (off + k) d ds (by simp at h; omega)
    simpa [Nat.add_assoc, Nat.add_comm 1, Nat.add_left_comm 1] using this
def Fd.form (g : Fd) : Bool × Nat := (g.agg, g.n)
def setF (fs : List Fd) (k : Nat) (p : Pred) : List Fd := match fs[k]? with
  | some f => fs.set k ⟨f.agg, f.n, p⟩
  | none => fs
def setsF : List Fd → List (Nat × Pred) → List Fd
  | fs, [] => fs
  | fs, (k, p) :: r => setsF (setF fs k p) r
def Parts (fs : List Fd) (w : World) : List (Nat × Value) → List (Nat × Pred) → Prop
  | [], [] => True
  | (i, v) :: vs, (k, p) :: ps => (i = k ∧ p w v ∧ ∃ f, fs[k]? = some f ∧ Fits f.n f.agg p) ∧ Parts fs w vs ps
  | _, _ => False
theorem shape_set {fs : List Fd} {k : Nat} {f : Fd} {p : Pred} (hk : fs[k]? = some f) : ∀ j : Nat, ((fs.set k ⟨f.agg, f.n, p⟩)[j]?).map Fd.form = (fs[j]?).map Fd.form := by
  intro j
  rw [List.getElem?_set]
  by_cases h : k = j
  · subst h
    simp only [if_true]
    split
    · rw [hk]; rfl
    · rename_i hlt
      rw [hk]
      rw [List.getElem?_eq_none (by omega)] at hk
      cases hk
  · rw [if_neg h]
theorem off_set {fs : List Fd} {k : Nat} {f : Fd} {p : Pred} (hk : fs[k]? = some f) : ∀ j, offOf (fs.set k ⟨f.agg, f.n, p⟩) j = offOf fs j := by
  induction fs generalizing k with
  | nil => simp at hk
  | cons g fs ih =>
    intro j
    cases k with
    | zero =>
      simp at hk
      subst hk
      cases j <;> rfl
    | succ k =>
      cases j with
      | zero => rfl
      | succ j => simp only [List.set_cons_succ, offOf]; rw [ih (by simpa using hk)]
theorem Parts.shape {w : World} : ∀ {vs : List (Nat × Value)} {ps : List (Nat × Pred)} {fs gs : List Fd}, (∀ j : Nat, (gs[j]?).map Fd.form = (fs[j]?).map Fd.form) → Parts fs w vs ps → Parts gs w vs ps := by
  intro vs
  induction vs with
  | nil => intro ps fs gs h hp; cases ps <;> exact hp
  | cons v vs ih =>
    intro ps fs gs h hp
    cases ps with
    | nil => exact hp
    | cons q ps =>
      obtain ⟨i, v⟩ := v
      obtain ⟨k, p⟩ := q
      obtain ⟨⟨e, hv, f, hf, hfit⟩, hr⟩ := hp
      refine ⟨⟨e, hv, ?_⟩, ih h hr⟩
      have := h k
      rw [hf] at this
      cases hg : gs[k]? with
      | none => rw [hg] at this; cases this
      | some g =>
        rw [hg] at this
        simp only [Option.map_some, Option.some.injEq, Fd.form, Prod.mk.injEq] at this
        exact ⟨g, rfl, by rw [this.1, this.2]; exact hfit⟩
theorem fits_cells {n : Nat} {agg : Bool} {p : Pred} (hf : Fits n agg p) {w : World} {v : Value} (h : p w v) : ∃ cs : List Value, v = wrapV agg cs ∧ cs.length = n ∧ v.cells = cs.toArray := by
  obtain ⟨cs, h1, h2, h3, _⟩ := hf w v h
  exact ⟨cs, h1, h2, h3⟩
theorem fill_ok {pl : Nat → Option (Nat × Nat)} {w : World} : ∀ (vs : List (Nat × Value)) (ps : List (Nat × Pred)) (fs : List Fd) (cs : List Value), (∀ (k : Nat) (f : Fd), fs[k]? = some f → pl k = some (offOf fs k, f.n)) → pCells fs w cs → Parts fs w vs ps →
    ∃ cs' : List Value, Instr.fill pl cs.toArray vs = some cs'.toArray ∧ pCells (setsF fs ps) w cs' ∧ ∀ w', pCells fs w' cs → Parts fs w' vs ps → pCells (setsF fs ps) w' cs' := by
  intro vs
  induction vs with
  | nil =>
    intro ps fs cs hpl hc hp
    cases ps with
    | nil => exact ⟨cs, rfl, hc, fun _ h _ => h⟩
    | cons q ps => exact hp.elim
  | cons v vs ih =>
    intro ps fs cs hpl hc hp
    cases ps with
    | nil => exact hp.elim
    | cons q ps =>
      obtain ⟨i, v⟩ := v
      obtain ⟨k, p⟩ := q
      obtain ⟨⟨rfl, hv, f, hf, hfit⟩, hr⟩ := hp
      obtain ⟨ds, e, hl, hcells⟩ := fits_cells hfit hv
      have hset : ∀ w', pCells fs w' cs → p w' v → pCells (setF fs i p) w' (cs.take (offOf fs i) ++ ds ++ cs.drop (offOf fs i + f.n)) := fun w' h1 h2 => by
        unfold setF
        rw [hf]
        exact pCells_set h1 hf hl (by rw [← e]; exact h2)
      have hlen := pCells_len hc
      have hoff : offOf fs i + f.n ≤ sizeS fs := by
        clear hpl hr hset hlen ih hc
        induction fs generalizing i with
        | nil => simp at hf
        | cons g fs ih2 =>
          cases i with
          | zero => simp at hf; subst hf; simp [offOf, sizeS]
          | succ i => have := ih2 i (by simpa using hf); simp only [offOf, sizeS]; omega
      have hsh : ∀ j : Nat, ((setF fs i p)[j]?).map Fd.form = (fs[j]?).map Fd.form := by
        unfold setF; rw [hf]; exact shape_set hf
      obtain ⟨cs', h1, h2, h3⟩ := ih ps (setF fs i p) (cs.take (offOf fs i) ++ ds ++ cs.drop (offOf fs i + f.n)) (fun k g hg => by
          have h4 := hsh k
          rw [hg] at h4
          cases hk : fs[k]? with
          | none => rw [hk] at h4; cases h4
          | some g' =>
            rw [hk] at h4
            simp only [Option.map_some, Option.some.injEq, Fd.form, Prod.mk.injEq] at h4
            rw [hpl k g' hk, h4.2]
            have : offOf (setF fs i p) k = offOf fs k := by unfold setF; rw [hf]; exact off_set hf k
            rw [this]) (hset w hc hv) (hr.shape hsh)
      refine ⟨cs', ?_, h2, fun w' k1 k2 => h3 w' (hset w' k1 k2.1.2.1) (k2.2.shape hsh)⟩
      have hsz : v.cells.size = f.n := by rw [hcells]; simpa using hl
      have := foldl_set ds 0 cs (offOf fs i) (by omega)
      simp only [Nat.add_zero, hl] at this
      unfold Instr.fill
      simp only [hpl i f hf, hsz, ne_eq, not_true_eq_false, decide_false, Bool.false_or]
      rw [if_neg (by simp; omega), hcells, show ds.toArray.zipIdx = (ds.zipIdx 0).toArray by simp]
      rw [← h1, ← this]
      congr 1
      simp
section
variable {P : Program} {ops : Array Oper} {ms : List Nat} {c : Cfg} {V : List Vr} {A : List Al} {G : List Ent} {i : Nat}
variable {d : Nat} {x y : Operand} {ty : TypeId} {pos : String} {aft : Array Edge}
/-- What is known of the parts. -/
def HasParts (ms : List Nat) (G : List Ent) (i : Nat) (fs : List Fd) : List (Nat × Operand) → List (Nat × Pred) → Prop
  | [], [] => True
  | (j, x) :: xs, (k, p) :: ps => (j = k ∧ Has ms G i x p ∧ ∃ f, fs[k]? = some f ∧ Fits f.n f.agg p) ∧ HasParts ms G i fs xs ps
  | _, _ => False
theorem op_build {T : TypeId} {parts : Array (Nat × Operand)} {pl : Array (Nat × Nat)} {z : List Value} {fs gs : List Fd} {ps : List (Nat × Pred)} (ht : BuildTy P T pl z) (hpl : ∀ (k : Nat) (f : Fd), fs[k]? = some f → pl[k]? = some (offOf fs k, f.n)) (hz : ∀ w, pCells fs w z)
    (hps : HasParts ms G i fs parts.toList ps) (hg : setsF fs ps = gs) (hp : Post G i (pS gs)) :
    OpOk P ops ms c V A G i ⟨some d, .build T parts, ty, pos, aft, none⟩ :=
  op_val rfl rfl rfl (.inl rfl) hp fun L β a w hI hd => by
    have key : ∀ (xs : List (Nat × Operand)) (ps : List (Nat × Pred)), HasParts ms G i fs xs ps → Box (own c V L β) (fun w => Parts fs w (xs.map fun q => (q.1, a.eval q.2)) ps) w := by
      intro xs
      induction xs with
      | nil => intro ps h; cases ps <;> exact fun _ _ => h
      | cons q xs ih =>
        intro ps h
        obtain ⟨j, x⟩ := q
        cases ps with
        | nil => exact h.elim
        | cons r ps =>
          obtain ⟨k, p⟩ := r
          obtain ⟨⟨e, h1, h2⟩, h3⟩ := h
          exact fun w' he => ⟨⟨e, h1.spec hI hd w' he, h2⟩, ih ps h3 w' he⟩
    have hb := key _ _ hps
    obtain ⟨cs', h1, h2, h3⟩ := fill_ok (pl := fun i => pl[i]?) _ _ fs z hpl (hz w) hb.out
    refine ⟨.agg cs'.toArray, w, ?_, Below.refl _ _, fun w' he => ?_⟩
    · show (do pure (Next.value (← Instr.build T (parts.map fun (i, x) => (i, a.eval x))))).run P w = _
      have e : (parts.map fun (i, x) => (i, a.eval x)).toList = parts.toList.map fun q => (q.1, a.eval q.2) := by simp
      rw [Sem.run_bind, run_build w T _ cs'.toArray (by rw [e, ht]; exact h1)]
      rfl
    · rw [← hg]
      exact pS_of (h3 w' (hz w') (hb w' he))
theorem op_zero {T : TypeId} {pl : Array (Nat × Nat)} {z : List Value} {p : Pred} (ht : BuildTy P T pl z) (hz : ∀ w, p w (.agg z.toArray)) (hp : Post G i p) :
    OpOk P ops ms c V A G i ⟨some d, .build T #[], ty, pos, aft, none⟩ :=
  op_val0 rfl rfl rfl rfl hp fun ρ w => ⟨.agg z.toArray, by
    show (do pure (Next.value (← Instr.build T ((#[] : Array (Nat × Operand)).map fun (i, x) => (i, ρ x))))).run P w = _
    rw [Sem.run_bind, run_build w T _ z.toArray (by rw [ht]; simp [Instr.fill])]
    rfl, hz⟩
end
def plB (fs : List Fd) (pl : Array (Nat × Nat)) : Bool := (List.range fs.length).all fun k => match fs[k]? with
  | some f => pl[k]? == some (offOf fs k, f.n)
  | none => true
theorem places_ok {fs : List Fd} {pl : Array (Nat × Nat)} (h : plB fs pl = true) : ∀ (k : Nat) (f : Fd), fs[k]? = some f → pl[k]? = some (offOf fs k, f.n) := by
  intro k f hk
  unfold plB at h
  rw [List.all_eq_true] at h
  have hlt : k < fs.length := by
    rcases Nat.lt_or_ge k fs.length with h' | h'
    · exact h'
    · rw [List.getElem?_eq_none h'] at hk; cases hk
  have := h k (List.mem_range.2 hlt)
  rw [hk] at this
  simpa using this
end Wx
