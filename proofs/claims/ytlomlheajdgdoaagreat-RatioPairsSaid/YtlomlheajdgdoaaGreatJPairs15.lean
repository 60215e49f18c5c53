import Derived.Handy
import Derived.Test.YtlomlheajdgdoaaGreatJPairs0
import Derived.Test.YtlomlheajdgdoaaGreatJPairs1
import Derived.Test.YtlomlheajdgdoaaGreatCPairsRat1
import Derived.Test.YtlomlheajdgdoaaGreatJPairs9
import Derived.Test.YtlomlheajdgdoaaGreatJPairs10
import Derived.Test.YtlomlheajdgdoaaGreatCPairsSem
import Derived.Test.YtlomlheajdgdoaaGreatCPairsSemOps
import Derived.Test.YtlomlheajdgdoaaGreatCPairsSemMem
import Derived.Test.YtlomlheajdgdoaaGreatCPairsSemCode
import Derived.Laws.Tables
import Derived.IntWalk
import Derived.Deep.MidRow
namespace Wx
open Go Go.RowKit

theorem rd_box {M : Nat → Nat → Prop} {w : World} {k : IntKind} {A : Option Addr} {c : Nat} {l : List Nat} (hM : Mid M w) (hk : k = .u64 ∨ k = .u32) (h : Rd w k A c l) : Box M (fun w => Rd w k A c l) w := by
  intro w' he
  obtain ⟨h1, h2, h3⟩ := h
  refine ⟨h1, h2, fun hne => ?_⟩
  obtain ⟨b, o, e, hc⟩ := h3 hne
  refine ⟨b, o, e, fun i hi => he.cell b (o + i) _ (fun hm => ?_) (hc i hi)⟩
  have := (hM b (o + i) hm).2 _ (hc i hi)
  rcases hk with rfl | rfl
  · exact (this _).1 rfl
  · exact (this _).2 rfl
theorem num_box {M : Nat → Nat → Prop} {w : World} {k : IntKind} {b : Nat} {v : Value} {n : Nat} (hM : Mid M w) (hk : k = .u64 ∨ k = .u32) (h : Num k b w v n) : Box M (fun w => Num k b w v n) w := by
  obtain ⟨A, c, rfl, hr⟩ := h
  exact fun w' he => ⟨A, c, rfl, rd_box hM hk hr w' he⟩
def pRat (q : Rat) : Pred := fun w v => IsRat w v q
theorem numlike_rat (q : Rat) : Numlike (pRat q) := by
  rintro M w v hM ⟨vn, vd, rfl, h1, h2⟩ w' he
  exact ⟨vn, vd, rfl, num_box hM (.inl rfl) h1 w' he, num_box hM (.inl rfl) h2 w' he⟩
theorem noU_bool (b : Bool) : NoU (.bool b) := fun _ => ⟨(by simp), by simp⟩
theorem noU_slice (A : Option Addr) (l c : Nat) : NoU (.slice A l c) := fun _ => ⟨(by simp), by simp⟩
theorem noU_i64 (n : Int) : NoU (.int .i64 n) := fun _ => ⟨(by simp), by simp⟩
theorem fits_rat (q : Rat) : Fits 3 true (pRat q) := by
  rintro w v ⟨vn, vd, rfl, h1, h2⟩
  obtain ⟨A, c, rfl, _⟩ := h1
  obtain ⟨B, d, rfl, _⟩ := h2
  refine ⟨[_, _, _], rfl, rfl, rfl, ?_⟩
  intro u hu
  simp at hu
  rcases hu with rfl | rfl | rfl
  · exact ⟨noU_bool _, rfl⟩
  · exact ⟨noU_slice _ _ _, rfl⟩
  · exact ⟨noU_slice _ _ _, rfl⟩
theorem fits_eq {v : Value} (hn : NoU v) (h1 : v.oneCell' = true) (hc : v.cells = #[v]) : Fits 1 false (pEq v) := by
  intro w u hu
  have hu : u = v := hu
  subst hu
  refine ⟨[u], rfl, rfl, hc, ?_⟩
  intro x hx
  simp at hx
  subst hx
  exact ⟨hn, h1⟩
theorem fits_int (n : Int) : Fits 1 false (pI n) := fits_eq (noU_i64 n) rfl rfl
theorem fits_bool (b : Bool) : Fits 1 false (pB b) := fits_eq (noU_bool b) rfl rfl
structure Fd where
  agg : Bool
  n : Nat
  p : Pred
def pCells : List Fd → World → List Value → Prop
  | [], _, cs => cs = []
  | f :: fs, w, cs => f.n ≤ cs.length ∧ f.p w (wrapV f.agg (cs.take f.n)) ∧ pCells fs w (cs.drop f.n)
def pS (fs : List Fd) : Pred := fun w v => ∃ cs : List Value, v = .agg cs.toArray ∧ pCells fs w cs
def offOf : List Fd → Nat → Nat
  | [], _ => 0
  | _ :: _, 0 => 0
  | f :: fs, k + 1 => f.n + offOf fs k
def sizeS : List Fd → Nat
  | [] => 0
  | f :: fs => f.n + sizeS fs
theorem pCells_len : ∀ {fs : List Fd} {w : World} {cs : List Value}, pCells fs w cs → cs.length = sizeS fs := by
  intro fs
  induction fs with
  | nil => intro w cs h; rw [show cs = [] from h]; rfl
  | cons f fs ih =>
    intro w cs h
    obtain ⟨h1, _, h3⟩ := h
    have := ih h3
    rw [List.length_drop] at this
    simp only [sizeS]
    omega
theorem pCells_get : ∀ {fs : List Fd} {w : World} {cs : List Value} {k : Nat} {f : Fd}, pCells fs w cs → fs[k]? = some f → f.p w (wrapV f.agg ((cs.drop (offOf fs k)).take f.n)) := by
  intro fs
  induction fs with
  | nil => intro w cs k f _ hk; simp at hk
  | cons g fs ih =>
    intro w cs k f h hk
    obtain ⟨h1, h2, h3⟩ := h
    cases k with
    | zero => simp at hk; subst hk; exact h2
    | succ k =>
      have := ih h3 (by simpa using hk)
      rw [List.drop_drop] at this
      exact this
theorem wrapV_inj {cs ds : List Value} (h : wrapV true cs = wrapV true ds) : cs = ds := by
  simp only [wrapV, if_true] at h
  injection h with h
  have := congrArg Array.toList h
  simpa using this
theorem fd_get {fs : List Fd} {N : Nat} (k : Nat) {f : Fd} (hk : fs[k]? = some f) {off : Nat} (ho : offOf fs k = off) : ∀ w cs, cs.length = N → pS fs w (wrapV true cs) → f.p w (wrapV f.agg ((cs.drop off).take f.n)) := by
  rintro w cs _ ⟨ds, e, h⟩
  have := wrapV_inj (show wrapV true cs = wrapV true ds from e)
  subst this
  rw [← ho]
  exact pCells_get h hk
theorem pCells_set : ∀ {fs : List Fd} {w : World} {cs ds : List Value} {k : Nat} {f : Fd} {q : Pred}, pCells fs w cs → fs[k]? = some f → ds.length = f.n → q w (wrapV f.agg ds) → pCells (fs.set k ⟨f.agg, f.n, q⟩) w (cs.take (offOf fs k) ++ ds ++ cs.drop (offOf fs k + f.n)) := by
  intro fs
  induction fs with
  | nil => intro w cs ds k f q _ hk; simp at hk
  | cons g fs ih =>
    intro w cs ds k f q h hk hl hq
    obtain ⟨h1, h2, h3⟩ := h
    cases k with
    | zero =>
      simp at hk
      subst hk
      refine ⟨by simp [offOf, hl], ?_, ?_⟩
      · simp [offOf, ← hl]; exact hq
      · simp [offOf, ← hl]
        rw [hl]
        exact h3
    | succ k =>
      have := ih h3 (by simpa using hk) hl hq
      have hlen := pCells_len h3
      refine ⟨?_, ?_, ?_⟩
      · show g.n ≤ (cs.take (g.n + offOf fs k) ++ ds ++ cs.drop (g.n + offOf fs k + f.n)).length
        simp only [List.length_append, List.length_take, List.length_drop]
        omega
      · have e : ((cs.take (g.n + offOf fs k) ++ ds ++ cs.drop (g.n + offOf fs k + f.n)).take g.n) = cs.take g.n := by
          rw [List.append_assoc, List.take_append_of_le_length (by simp; omega), List.take_take]
          congr 1; omega
        show g.p w (wrapV g.agg ((cs.take (g.n + offOf fs k) ++ ds ++ cs.drop (g.n + offOf fs k + f.n)).take g.n))
        rw [e]; exact h2
      · show pCells _ w ((cs.take (g.n + offOf fs k) ++ ds ++ cs.drop (g.n + offOf fs k + f.n)).drop g.n)
        have e : ((cs.take (g.n + offOf fs k) ++ ds ++ cs.drop (g.n + offOf fs k + f.n)).drop g.n) = (cs.drop g.n).take (offOf fs k) ++ ds ++ (cs.drop g.n).drop (offOf fs k + f.n) := by
          have e1 : g.n + offOf fs k - g.n = offOf fs k := by omega
          have e2 : g.n + (offOf fs k + f.n) = g.n + offOf fs k + f.n := by omega
          rw [List.append_assoc, List.drop_append_of_le_length (by simp; omega), List.drop_take, e1, List.append_assoc, List.drop_drop, e2]
        rw [e]; exact this
def pPair (a b : Rat) : Pred := pS [⟨true, 3, pRat a⟩, ⟨true, 3, pRat b⟩]
def AllFits : List Fd → Prop
  | [] => True
  | f :: fs => Fits f.n f.agg f.p ∧ AllFits fs
theorem fits_s {fs : List Fd} (h : AllFits fs) {n : Nat} (hn : sizeS fs = n) : Fits n true (pS fs) := by
  rintro w v ⟨cs, rfl, hc⟩
  refine ⟨cs, rfl, by rw [← hn]; exact pCells_len hc, rfl, ?_⟩
  have key : ∀ (fs : List Fd), AllFits fs → ∀ cs, pCells fs w cs → ∀ u ∈ cs, NoU u ∧ u.oneCell' = true := by
    intro fs
    induction fs with
    | nil => intro _ cs h u hu; rw [show cs = [] from h] at hu; cases hu
    | cons f fs ih =>
      rintro ⟨h0, h0'⟩ cs ⟨h1, h2, h3⟩ u hu
      rw [← List.take_append_drop f.n cs, List.mem_append] at hu
      rcases hu with hu | hu
      · obtain ⟨ds, e, hl, hcells, h4⟩ := h0 w _ h2
        have : cs.take f.n = ds := by
          cases hagg : f.agg with
          | true => rw [hagg] at e; exact wrapV_inj e
          | false =>
            rw [hagg] at e hcells
            have hc1 := hcells
            rw [e] at hc1
            match ds, hl, h4 with
            | [x], hl, h4 =>
              have hl' : (cs.take f.n).length = 1 := by rw [List.length_take]; simp at hl; omega
              match hct : cs.take f.n, hl' with
              | [y], _ =>
                rw [hct] at e
                simp only [wrapV, Bool.false_eq_true, if_false, List.headD_cons] at e
                rw [e]
            | [], hl, _ =>
              exfalso
              simp only [wrapV, Bool.false_eq_true, if_false, List.headD_nil, undef, Value.cells] at hc1
              exact absurd (congrArg Array.size hc1) (by simp)
            | x :: y :: ds, hl, h4 =>
              exfalso
              have := h4 x (by simp)
              simp only [wrapV, Bool.false_eq_true, if_false, List.headD_cons] at hc1
              cases x <;> simp [Value.oneCell', Value.cells] at this hc1
        rw [this] at hu
        exact h4 u hu
      · exact ih h0' _ h3 u hu
  exact key fs h cs hc
theorem fits_pair (a b : Rat) : Fits 6 true (pPair a b) := fits_s (fs := [⟨true, 3, pRat a⟩, ⟨true, 3, pRat b⟩]) ⟨fits_rat a, fits_rat b, trivial⟩ rfl
theorem pS_of' {fs : List Fd} {w : World} {cs : List Value} (h : pCells fs w cs) : pS fs w (.agg cs.toArray) := ⟨cs, rfl, h⟩
def pFrac (n d : Int) : Pred := pS [⟨false, 1, pI n⟩, ⟨false, 1, pI d⟩]
theorem fits_frac (n d : Int) : Fits 2 true (pFrac n d) := fits_s (fs := [⟨false, 1, pI n⟩, ⟨false, 1, pI d⟩]) ⟨fits_int n, fits_int d, trivial⟩ rfl
theorem pFrac_eq {n d : Int} {w : World} {v : Value} (h : pFrac n d w v) : v = .agg #[.int .i64 n, .int .i64 d] := by
  obtain ⟨cs, rfl, hc⟩ := h
  have hl := pCells_len hc
  match cs, hl, hc with
  | [x, y], _, hc =>
    obtain ⟨_, h1, _, h2, _⟩ := hc
    have e1 : x = .int .i64 n := h1
    have e2 : y = .int .i64 d := h2
    rw [e1, e2]
theorem pFrac_of (n d : Int) (w : World) : pFrac n d w (.agg #[.int .i64 n, .int .i64 d]) := pS_of' ⟨by simp, rfl, by simp, rfl, rfl⟩
theorem pS_of {fs : List Fd} {w : World} {cs : List Value} (h : pCells fs w cs) : pS fs w (.agg cs.toArray) := ⟨cs, rfl, h⟩
theorem cells_any2 (w : World) : pCells [⟨true, 3, pAny⟩, ⟨true, 3, pAny⟩] w [.bool false, .slice none 0 0, .slice none 0 0, .bool false, .slice none 0 0, .slice none 0 0] := ⟨by simp, trivial, by simp, trivial, rfl⟩
theorem cells_pair0 (w : World) : pCells [⟨true, 3, pRat 0⟩, ⟨true, 3, pRat 0⟩] w [.bool false, .slice none 0 0, .slice none 0 0, .bool false, .slice none 0 0, .slice none 0 0] := ⟨by simp, isRat_zero _, by simp, isRat_zero _, rfl⟩
end Wx

namespace Wx
open Go Go.RowKit

def BuildTy (P : Program) (T : TypeId) (pl : Array (Nat × Nat)) (z : List Value) : Prop :=
  ∀ parts, P.built T parts = Instr.fill (fun i => pl[i]?) z.toArray parts
theorem foldl_set (ds : List Value) : ∀ (k : Nat) (cs : List Value) (off : Nat), off + k + ds.length ≤ cs.length →
    ((ds.zipIdx k).foldl (fun (cs : Array Value) (q : Value × Nat) => cs.setIfInBounds (off + q.2) q.1) cs.toArray) = (cs.take (off + k) ++ ds ++ cs.drop (off + k + ds.length)).toArray := by
  induction ds with
  | nil => intro k cs off _; simp
  | cons d ds ih =>
    intro k cs off h
    simp only [List.zipIdx_cons, List.foldl_cons]
    have e : cs.toArray.setIfInBounds (off + k) d = (cs.set (off + k) d).toArray := by simp
    rw [e, ih (k + 1) (cs.set (off + k) d) off (by simp at h ⊢; omega)]
    congr 1
    have := list_seg_step cs (off + k) d ds (by simp at h; omega)
    simpa [Nat.add_assoc, Nat.add_comm 1, Nat.add_left_comm 1] using this
def Fd.form (g : Fd) : Bool × Nat := (g.agg, g.n)
def setF (fs : List Fd) (k : Nat) (p : Pred) : List Fd := match fs[k]? with
  | some f => fs.set k ⟨f.agg, f.n, p⟩
  | none => fs
def setsF : List Fd → List (Nat × Pred) → List Fd
  | fs, [] => fs
  | fs, (k, p) :: r => setsF (setF fs k p) r
def Parts (fs : List Fd) (w : World) : List (Nat × Value) → List (Nat × Pred) → Prop
  | [], [] => True
  | (i, v) :: vs, (k, p) :: ps => (i = k ∧ p w v ∧ ∃ f, fs[k]? = some f ∧ Fits f.n f.agg p) ∧ Parts fs w vs ps
  | _, _ => False
theorem shape_set {fs : List Fd} {k : Nat} {f : Fd} {p : Pred} (hk : fs[k]? = some f) : ∀ j : Nat, ((fs.set k ⟨f.agg, f.n, p⟩)[j]?).map Fd.form = (fs[j]?).map Fd.form := by
  intro j
  rw [List.getElem?_set]
  by_cases h : k = j
  · subst h
    simp only [if_true]
    split
    · rw [hk]; rfl
    · rename_i hlt
      rw [hk]
      rw [List.getElem?_eq_none (by omega)] at hk
      cases hk
  · rw [if_neg h]
theorem off_set {fs : List Fd} {k : Nat} {f : Fd} {p : Pred} (hk : fs[k]? = some f) : ∀ j, offOf (fs.set k ⟨f.agg, f.n, p⟩) j = offOf fs j := by
  induction fs generalizing k with
  | nil => simp at hk
  | cons g fs ih =>
    intro j
    cases k with
    | zero =>
      simp at hk
      subst hk
      cases j <;> rfl
    | succ k =>
      cases j with
      | zero => rfl
      | succ j => simp only [List.set_cons_succ, offOf]; rw [ih (by simpa using hk)]
theorem Parts.shape {w : World} : ∀ {vs : List (Nat × Value)} {ps : List (Nat × Pred)} {fs gs : List Fd}, (∀ j : Nat, (gs[j]?).map Fd.form = (fs[j]?).map Fd.form) → Parts fs w vs ps → Parts gs w vs ps := by
  intro vs
  induction vs with
  | nil => intro ps fs gs h hp; cases ps <;> exact hp
  | cons v vs ih =>
    intro ps fs gs h hp
    cases ps with
    | nil => exact hp
    | cons q ps =>
      obtain ⟨i, v⟩ := v
      obtain ⟨k, p⟩ := q
      obtain ⟨⟨e, hv, f, hf, hfit⟩, hr⟩ := hp
      refine ⟨⟨e, hv, ?_⟩, ih h hr⟩
      have := h k
      rw [hf] at this
      cases hg : gs[k]? with
      | none => rw [hg] at this; cases this
      | some g =>
        rw [hg] at this
        simp only [Option.map_some, Option.some.injEq, Fd.form, Prod.mk.injEq] at this
        exact ⟨g, rfl, by rw [this.1, this.2]; exact hfit⟩
theorem fits_cells {n : Nat} {agg : Bool} {p : Pred} (hf : Fits n agg p) {w : World} {v : Value} (h : p w v) : ∃ cs : List Value, v = wrapV agg cs ∧ cs.length = n ∧ v.cells = cs.toArray := by
  obtain ⟨cs, h1, h2, h3, _⟩ := hf w v h
  exact ⟨cs, h1, h2, h3⟩
theorem fill_ok {pl : Nat → Option (Nat × Nat)} {w : World} : ∀ (vs : List (Nat × Value)) (ps : List (Nat × Pred)) (fs : List Fd) (cs : List Value), (∀ (k : Nat) (f : Fd), fs[k]? = some f → pl k = some (offOf fs k, f.n)) → pCells fs w cs → Parts fs w vs ps →
    ∃ cs' : List Value, Instr.fill pl cs.toArray vs = some cs'.toArray ∧ pCells (setsF fs ps) w cs' ∧ ∀ w', pCells fs w' cs → Parts fs w' vs ps → pCells (setsF fs ps) w' cs' := by
  intro vs
  induction vs with
  | nil =>
    intro ps fs cs hpl hc hp
    cases ps with
    | nil => exact ⟨cs, rfl, hc, fun _ h _ => h⟩
    | cons q ps => exact hp.elim
  | cons v vs ih =>
    intro ps fs cs hpl hc hp
    cases ps with
    | nil => exact hp.elim
    | cons q ps =>
      obtain ⟨i, v⟩ := v
      obtain ⟨k, p⟩ := q
      obtain ⟨⟨rfl, hv, f, hf, hfit⟩, hr⟩ := hp
      obtain ⟨ds, e, hl, hcells⟩ := fits_cells hfit hv
      have hset : ∀ w', pCells fs w' cs → p w' v → pCells (setF fs i p) w' (cs.take (offOf fs i) ++ ds ++ cs.drop (offOf fs i + f.n)) := fun w' h1 h2 => by
        unfold setF
        rw [hf]
        exact pCells_set h1 hf hl (by rw [← e]; exact h2)
      have hlen := pCells_len hc
      have hoff : offOf fs i + f.n ≤ sizeS fs := by
        clear hpl hr hset hlen ih hc
        induction fs generalizing i with
        | nil => simp at hf
        | cons g fs ih2 =>
          cases i with
          | zero => simp at hf; subst hf; simp [offOf, sizeS]
          | succ i => have := ih2 i (by simpa using hf); simp only [offOf, sizeS]; omega
      have hsh : ∀ j : Nat, ((setF fs i p)[j]?).map Fd.form = (fs[j]?).map Fd.form := by
        unfold setF; rw [hf]; exact shape_set hf
      obtain ⟨cs', h1, h2, h3⟩ := ih ps (setF fs i p) (cs.take (offOf fs i) ++ ds ++ cs.drop (offOf fs i + f.n)) (fun k g hg => by
          have h4 := hsh k
          rw [hg] at h4
          cases hk : fs[k]? with
          | none => rw [hk] at h4; cases h4
          | some g' =>
            rw [hk] at h4
            simp only [Option.map_some, Option.some.injEq, Fd.form, Prod.mk.injEq] at h4
            rw [hpl k g' hk, h4.2]
            have : offOf (setF fs i p) k = offOf fs k := by unfold setF; rw [hf]; exact off_set hf k
            rw [this]) (hset w hc hv) (hr.shape hsh)
      refine ⟨cs', ?_, h2, fun w' k1 k2 => h3 w' (hset w' k1 k2.1.2.1) (k2.2.shape hsh)⟩
      have hsz : v.cells.size = f.n := by rw [hcells]; simpa using hl
      have := foldl_set ds 0 cs (offOf fs i) (by omega)
      simp only [Nat.add_zero, hl] at this
      unfold Instr.fill
      simp only [hpl i f hf, hsz, ne_eq, not_true_eq_false, decide_false, Bool.false_or]
      rw [if_neg (by simp; omega), hcells, show ds.toArray.zipIdx = (ds.zipIdx 0).toArray by simp]
      rw [← h1, ← this]
      congr 1
      simp
section
variable {P : Program} {ops : Array Oper} {ms : List Nat} {c : Cfg} {V : List Vr} {A : List Al} {G : List Ent} {i : Nat}
variable {d : Nat} {x y : Operand} {ty : TypeId} {pos : String} {aft : Array Edge}
def HasParts (ms : List Nat) (G : List Ent) (i : Nat) (fs : List Fd) : List (Nat × Operand) → List (Nat × Pred) → Prop
  | [], [] => True
  | (j, x) :: xs, (k, p) :: ps => (j = k ∧ Has ms G i x p ∧ ∃ f, fs[k]? = some f ∧ Fits f.n f.agg p) ∧ HasParts ms G i fs xs ps
  | _, _ => False
theorem op_build {T : TypeId} {parts : Array (Nat × Operand)} {pl : Array (Nat × Nat)} {z : List Value} {fs gs : List Fd} {ps : List (Nat × Pred)} (ht : BuildTy P T pl z) (hpl : ∀ (k : Nat) (f : Fd), fs[k]? = some f → pl[k]? = some (offOf fs k, f.n)) (hz : ∀ w, pCells fs w z)
    (hps : HasParts ms G i fs parts.toList ps) (hg : setsF fs ps = gs) (hp : Post G i (pS gs)) :
    OpOk P ops ms c V A G i ⟨some d, .build T parts, ty, pos, aft, none⟩ :=
  op_val rfl rfl rfl (.inl rfl) hp fun L β a w hI hd => by
    have key : ∀ (xs : List (Nat × Operand)) (ps : List (Nat × Pred)), HasParts ms G i fs xs ps → Box (own c V L β) (fun w => Parts fs w (xs.map fun q => (q.1, a.eval q.2)) ps) w := by
      intro xs
      induction xs with
      | nil => intro ps h; cases ps <;> exact fun _ _ => h
      | cons q xs ih =>
        intro ps h
        obtain ⟨j, x⟩ := q
        cases ps with
        | nil => exact h.elim
        | cons r ps =>
          obtain ⟨k, p⟩ := r
          obtain ⟨⟨e, h1, h2⟩, h3⟩ := h
          exact fun w' he => ⟨⟨e, h1.spec hI hd w' he, h2⟩, ih ps h3 w' he⟩
    have hb := key _ _ hps
    obtain ⟨cs', h1, h2, h3⟩ := fill_ok (pl := fun i => pl[i]?) _ _ fs z hpl (hz w) hb.out
    refine ⟨.agg cs'.toArray, w, ?_, Below.refl _ _, fun w' he => ?_⟩
    · show (do pure (Next.value (← Instr.build T (parts.map fun (i, x) => (i, a.eval x))))).run P w = _
      have e : (parts.map fun (i, x) => (i, a.eval x)).toList = parts.toList.map fun q => (q.1, a.eval q.2) := by simp
      rw [Sem.run_bind, run_build w T _ cs'.toArray (by rw [e, ht]; exact h1)]
      rfl
    · rw [← hg]
      exact pS_of (h3 w' (hz w') (hb w' he))
theorem op_zero {T : TypeId} {pl : Array (Nat × Nat)} {z : List Value} {p : Pred} (ht : BuildTy P T pl z) (hz : ∀ w, p w (.agg z.toArray)) (hp : Post G i p) :
    OpOk P ops ms c V A G i ⟨some d, .build T #[], ty, pos, aft, none⟩ :=
  op_val0 rfl rfl rfl rfl hp fun ρ w => ⟨.agg z.toArray, by
    show (do pure (Next.value (← Instr.build T ((#[] : Array (Nat × Operand)).map fun (i, x) => (i, ρ x))))).run P w = _
    rw [Sem.run_bind, run_build w T _ z.toArray (by rw [ht]; simp [Instr.fill])]
    rfl, hz⟩
end
def plB (fs : List Fd) (pl : Array (Nat × Nat)) : Bool := (List.range fs.length).all fun k => match fs[k]? with
  | some f => pl[k]? == some (offOf fs k, f.n)
  | none => true
theorem places_ok {fs : List Fd} {pl : Array (Nat × Nat)} (h : plB fs pl = true) : ∀ (k : Nat) (f : Fd), fs[k]? = some f → pl[k]? = some (offOf fs k, f.n) := by
  intro k f hk
  unfold plB at h
  rw [List.all_eq_true] at h
  have hlt : k < fs.length := by
    rcases Nat.lt_or_ge k fs.length with h' | h'
    · exact h'
    · rw [List.getElem?_eq_none h'] at hk; cases hk
  have := h k (List.mem_range.2 hlt)
  rw [hk] at this
  simpa using this
end Wx

namespace Wx
open Go Go.RowKit

def pPtr (sz : Nat) (agg : Bool) (p : Pred) : Pred := fun w v => ∃ (b o : Nat) (cs : List Value), v = .pointer (some ⟨b, o, none⟩) ∧ cs.length = sz ∧ (∀ j u, cs[j]? = some u → w.cell? ⟨b, o + j, none⟩ = some u) ∧ p w (wrapV agg cs)
def pRow (sz : Nat) (agg : Bool) (n : Nat) (f : Nat → Pred) : Pred := fun w v => ∃ (A : Option Addr) (cap : Nat), v = .slice A n cap ∧ n ≤ cap ∧ cap ≤ maxLen ∧
  (0 < n → ∃ b o : Nat, A = some ⟨b, o, none⟩ ∧ ∀ i, i < n → ∃ cs : List Value, cs.length = sz ∧ (∀ j u, cs[j]? = some u → w.cell? ⟨b, o + i * sz + j, none⟩ = some u) ∧ f i w (wrapV agg cs))
structure SlTy (P : Program) (T : TypeId) (E : TypeId) (sz : Nat) : Prop where
  under : P.underlying T = some (.slice E)
  size : ∀ w, (Go.sizeOf E).run P w = .ok sz w
section
variable {P : Program} {ops : Array Oper} {ms : List Nat} {c : Cfg} {V : List Vr} {A : List Al} {G : List Ent} {i : Nat} {L : Nat → Bool} {β : Nat → Nat → Prop} {a : Act} {w : World} {o : Oper}
variable {d : Nat} {x y z : Operand} {ty : TypeId} {pos : String} {aft : Array Edge}
theorem run_indexAt {T E : TypeId} {sz b off n cap : Nat} {m : Int} (ht : SlTy P T E sz) (h0 : 0 ≤ m) (h1 : m < n) : (Instr.indexAt T (.slice (some ⟨b, off, none⟩) n cap) (.int .i64 m)).run P w = .ok (.pointer (some ⟨b, off + m.toNat * sz, none⟩)) w := by
  have hu : (underlying T).run P w = .ok (.slice E) w := run_underlying ht.under w
  simp only [Instr.indexAt, asIntOf, pure_bind, Sem.run_bind, hu, Result.andThen_ok]
  rw [if_pos ⟨h0, h1⟩]
  simp only [Sem.run_bind, ht.size, Result.andThen_ok, Sem.run_pure, Addr.add_mid]
theorem op_indexRow {T E : TypeId} {sz n : Nat} {agg : Bool} {f : Nat → Pred} {m : Int} (h : Has ms G i x (pRow sz agg n f)) (hy : Has ms G i y (pI m)) (ht : SlTy P T E sz) (h0 : 0 ≤ m) (h1 : m < n) (hA : (A.all fun q => q.tag != some i) = true) (hp : Post G i (pPtr sz agg (f m.toNat))) :
    OpOk P ops ms c V A G i ⟨some d, .indexAddr T x y, ty, pos, aft, none⟩ :=
  op_val rfl rfl rfl (.inr hA) hp fun L β a w hI hd => by
    have hr := h.spec hI hd
    have hi : a.eval y = .int .i64 m := (hy.spec hI hd).out
    obtain ⟨A', cap, e, hn, hcap, hel⟩ := hr.out
    obtain ⟨b, off, rfl, _⟩ := hel (by omega)
    refine ⟨.pointer (some ⟨b, off + m.toNat * sz, none⟩), w, ?_, Below.refl _ _, fun w' he => ?_⟩
    · show (do pure (Next.value (← Instr.indexAt T (a.eval x) (a.eval y)))).run P w = _
      rw [e, hi, Sem.run_bind, run_indexAt ht h0 h1]
      rfl
    · obtain ⟨A2, cap2, e2, _, _, hel2⟩ := hr w' he
      rw [e] at e2
      injection e2 with e2
      obtain ⟨b2, off2, e3, hel3⟩ := hel2 (by omega)
      rw [← e2] at e3
      injection e3 with e3
      injection e3 with e4 e5
      subst e4 e5
      obtain ⟨cs, h2, h3, h4⟩ := hel3 m.toNat (by omega)
      exact ⟨_, _, cs, rfl, h2, h3, h4⟩
theorem op_len {T E : TypeId} {sz n : Nat} {agg : Bool} {f : Nat → Pred} (h : Has ms G i x (pRow sz agg n f)) (ht : P.underlying T = some (.slice E)) (hp : Post G i (pI (n : Int))) :
    OpOk P ops ms c V A G i ⟨some d, .call ⟨.builtin .len, #[x], #[T]⟩, ty, pos, aft, none⟩ :=
  op_val1 rfl rfl rfl rfl h hp fun ρ w h => ⟨.int .i64 n, by
    obtain ⟨A', cap, e, _⟩ := h
    have hr : (Builtin.len_ #[T] ty #[ρ x]).run P w = .ok (.int .i64 n) w := by
      rw [e]
      unfold Builtin.len_
      simp [run_underlying ht, goInt]
    show (do let d ← resolve ρ ⟨.builtin .len, #[x], #[T]⟩ ty; invoke d.target d.args).run P w = _
    simp only [resolve, invoke, pure_bind, builtin]
    rw [show (#[x] : Array Operand).map ρ = #[ρ x] by simp, Sem.run_bind, hr]
    rfl, fun _ _ => rfl⟩
theorem pI_wrap {n : Int} (h : -9223372036854775808 ≤ n ∧ n ≤ 9223372036854775807) : ∀ w v, pEq (.int .i64 (IntKind.i64.wrap n)) w v → pI n w v := fun _ _ e => by rw [IntWalk.i64_in n h] at e; exact e
end
def GConv (G : List Ent) : List Ent → Prop
  | [] => True
  | e :: es => (e.tag = none ∧ e.till = none ∧ ∃ (k : Nat) (p : Pred), G[k]? = some ⟨none, none, e.slot, p⟩ ∧ ∀ w v, p w v → e.p w v) ∧ GConv G es
def VConv (V : List Vr) : List Vr → Prop
  | [] => True
  | x :: xs => (∃ (k : Nat) (kd : Kd) (p : Rel), V[k]? = some ⟨x.id, x.slot, none, none, kd, x.T, x.n, x.agg, p, []⟩ ∧ (x.born = none ∧ x.dead = none ∧ x.st = []) ∧ kd = x.kd ∧ ∀ F w v, p F w v → x.c0 F w v) ∧ VConv V xs
theorem GConv.get {G : List Ent} : ∀ {G' : List Ent}, GConv G G' → ∀ e, e ∈ G' → e.tag = none ∧ e.till = none ∧ ∃ (k : Nat) (p : Pred), G[k]? = some ⟨none, none, e.slot, p⟩ ∧ ∀ w v, p w v → e.p w v := by
  intro G'
  induction G' with
  | nil => intro _ e he; cases he
  | cons f G' ih =>
    intro h e he
    rcases List.mem_cons.1 he with rfl | he
    · exact h.1
    · exact ih h.2 e he
theorem VConv.get {V : List Vr} : ∀ {V' : List Vr}, VConv V V' → ∀ x, x ∈ V' → ∃ (k : Nat) (kd : Kd) (p : Rel), V[k]? = some ⟨x.id, x.slot, none, none, kd, x.T, x.n, x.agg, p, []⟩ ∧ (x.born = none ∧ x.dead = none ∧ x.st = []) ∧ kd = x.kd ∧ ∀ F w v, p F w v → x.c0 F w v := by
  intro V'
  induction V' with
  | nil => intro _ x hx; cases hx
  | cons f V' ih =>
    intro h x hx
    rcases List.mem_cons.1 hx with rfl | hx
    · exact h.1
    · exact ih h.2 x hx
theorem Inv.conv {c : Cfg} {V V' : List Vr} {A : List Al} {G G' : List Ent} {a : Act} {w : World} (h : Inv c V A G none_ a w) (hV : VConv V V') (hG : GConv G G') : Inv c V' [] G' none_ a w := by
  obtain ⟨β, h⟩ := h
  have eo : ∀ k o, own c V' none_ β k o → own c V none_ β k o := by
    rintro k o (h1 | ⟨x, hx, _, h2, h3⟩)
    · exact .inl h1
    · obtain ⟨j, kd, p, hj, _, hk, _⟩ := hV.get x hx
      subst hk
      exact .inr ⟨_, List.mem_of_getElem? hj, rfl, h2, h3⟩
  refine ⟨β, h.size, h.defers, h.below, h.old, ?_, ?_, (fun p hp => by cases hp), ?_⟩
  · intro x hx _
    obtain ⟨j, kd, p, hj, ⟨hb, hdd, hs⟩, hkd, hp⟩ := hV.get x hx
    subst hkd
    have hv := h.var _ (List.mem_of_getElem? hj) rfl
    rcases kd_cases x.kd with hk | ⟨m, sz, hk⟩ | hk
    · obtain ⟨g, h1, h2, h3⟩ := (vrOk_blk (x := ⟨x.id, x.slot, none, none, x.kd, x.T, x.n, x.agg, p, []⟩) hk).1 hv
      obtain ⟨cs, h4, h5, h6, h7⟩ := h3.held
      refine (vrOk_blk hk).2 ⟨g, h1, h2, h3.new, cs, h4, h5, h6, ?_⟩
      rw [hs]
      exact (h7.sub fun k o _ hk => eo k o hk).imp fun w => hp _ w _
    · exact (vrOk_grow hk).2 ((vrOk_grow (x := ⟨x.id, x.slot, none, none, x.kd, x.T, x.n, x.agg, p, []⟩) hk).1 hv)
    · obtain ⟨h1, h2⟩ := (vrOk_obj (x := ⟨x.id, x.slot, none, none, x.kd, x.T, x.n, x.agg, p, []⟩) hk).1 hv
      refine (vrOk_obj hk).2 ⟨h1, ?_⟩
      rw [hs]
      exact (h2.sub fun k o _ h => ⟨eo k o h.1, h.2⟩).imp fun w => hp _ w _
  · intro x y g hx hy _ _ hne
    obtain ⟨j, kd, p, hj, _⟩ := hV.get x hx
    obtain ⟨j', kd', p', hj', _⟩ := hV.get y hy
    have := h.apart _ _ g (List.mem_of_getElem? hj) (List.mem_of_getElem? hj') rfl rfl hne
    exact this
  · intro e he _ _
    obtain ⟨_, _, k, p, hk, hp⟩ := hG.get e he
    exact ((h.ent _ (List.mem_of_getElem? hk) rfl rfl).sub fun k o _ hk => eo k o hk).imp fun w => hp w _
end Wx
