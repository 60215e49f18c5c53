import Derived.Handy
import Derived.Test.YtncpoijmhgihjaaPlain1
import Derived.Test.YtncpoijmhgihjaaMem
import Derived.Test.YtncpoijmhgihjaaJIncludes3
import Derived.Test.YtncpoijmhgihjaaCRat1
import Derived.Test.YtncpoijmhgihjaaCRat2
import Derived.Test.YtncpoijmhgihjaaInv
import Derived.Test.YtncpoijmhgihjaaSem
import Derived.Test.YtncpoijmhgihjaaSemOps
import Derived.Test.YtncpoijmhgihjaaSemMem
import Derived.Test.YtncpoijmhgihjaaSemCode
namespace Wx
open Go Go.RowKit

theorem rd_box {M : Nat → Prop} {w : World} {k : IntKind} {A : Option Addr} {c : Nat} {l : List Nat} (hM : ∀ g, M g → NoUB w g) (hk : k = .u64 ∨ k = .u32) (h : Rd w k A c l) : Box M (fun w => Rd w k A c l) w := by
  intro w' he
  obtain ⟨h1, h2, h3⟩ := h
  refine ⟨h1, h2, fun hne => ?_⟩
  obtain ⟨b, o, e, hc⟩ := h3 hne
  refine ⟨b, o, e, fun i hi => ?_⟩
  have h4 := hc i hi
  have hb : ¬ M b := by
    intro hm
    have := hM b hm _ _ h4
    rcases hk with rfl | rfl
    · exact (this _).1 rfl
    · exact (this _).2 rfl
  rw [World.cell?_of_block (w := w) (he.block b (World.block_lt_of_cell? w _ h4) hb)]
  exact h4
theorem num_box {M : Nat → Prop} {w : World} {k : IntKind} {b : Nat} {v : Value} {n : Nat} (hM : ∀ g, M g → NoUB w g) (hk : k = .u64 ∨ k = .u32) (h : Num k b w v n) : Box M (fun w => Num k b w v n) w := by
  obtain ⟨A, c, rfl, hr⟩ := h
  exact fun w' he => ⟨A, c, rfl, rd_box hM hk hr w' he⟩
/-- A fraction. -/
def pRat (q : Rat) : Pred := fun w v => IsRat w v q
theorem numlike_rat (q : Rat) : Numlike (pRat q) := by
  rintro M w v hM ⟨vn, vd, rfl, h1, h2⟩ w' he
  exact ⟨vn, vd, rfl, num_box hM (.inl rfl) h1 w' he, num_box hM (.inl rfl) h2 w' he⟩
theorem noU_bool (b : Bool) : NoU (.bool b) := fun _ => ⟨(by simp), by simp⟩
theorem noU_slice (A : Option Addr) (l c : Nat) : NoU (.slice A l c) := fun _ => ⟨(by simp), by simp⟩
theorem noU_i64 (n : Int) : NoU (.int .i64 n) := fun _ => ⟨(by simp), by simp⟩
theorem noU_u8 (n : Int) : NoU (.int .u8 n) := fun _ => ⟨(by simp), by simp⟩
theorem noU_i8 (n : Int) : NoU (.int .i8 n) := fun _ => ⟨(by simp), by simp⟩
theorem noU_string (s : ByteArray) : NoU (.string s) := fun _ => ⟨(by simp), by simp⟩
theorem fits_rat (q : Rat) : Fits 3 true (pRat q) := by
  rintro w v ⟨vn, vd, rfl, h1, h2⟩
  obtain ⟨A, c, rfl, _⟩ := h1
  obtain ⟨B, d, rfl, _⟩ := h2
  refine ⟨[_, _, _], rfl, rfl, rfl, ?_⟩
  intro u hu
  simp at hu
  rcases hu with rfl | rfl | rfl
  · exact ⟨noU_bool _, rfl⟩
  · exact ⟨noU_slice _ _ _, rfl⟩
  · exact ⟨noU_slice _ _ _, rfl⟩
theorem fits_eq {v : Value} (hn : NoU v) (h1 : v.oneCell' = true) (hc : v.cells = #[v]) : Fits 1 false (pEq v) := by
  intro w u hu
  have hu : u = v := hu
  subst hu
  refine ⟨[u], rfl, rfl, hc, ?_⟩
  intro x hx
  simp at hx
  subst hx
  exact ⟨hn, h1⟩
theorem fits_int (n : Int) : Fits 1 false (pI n) := fits_eq (noU_i64 n) rfl rfl
theorem fits_bool (b : Bool) : Fits 1 false (pB b) := fits_eq (noU_bool b) rfl rfl
theorem fits_u8 (n : Int) : Fits 1 false (pEq (.int .u8 n)) := fits_eq (noU_u8 n) rfl rfl
theorem fits_i8 (n : Int) : Fits 1 false (pEq (.int .i8 n)) := fits_eq (noU_i8 n) rfl rfl
theorem fits_str (s : ByteArray) : Fits 1 false (pEq (.string s)) := fits_eq (noU_string s) rfl rfl

/-- A field: is it a struct or an array, how many cells, what it means. -/
structure Fd where
  agg : Bool
  n : Nat
  p : Pred
def pCells : List Fd → World → List Value → Prop
  | [], _, cs => cs = []
  | f :: fs, w, cs => f.n ≤ cs.length ∧ f.p w (wrapV f.agg (cs.take f.n)) ∧ pCells fs w (cs.drop f.n)
/-- A struct or an array, field by field. -/
def pS (fs : List Fd) : Pred := fun w v => ∃ cs : List Value, v = .agg cs.toArray ∧ pCells fs w cs
def offOf : List Fd → Nat → Nat
  | [], _ => 0
  | _ :: _, 0 => 0
  | f :: fs, k + 1 => f.n + offOf fs k
def sizeS : List Fd → Nat
  | [] => 0
  | f :: fs => f.n + sizeS fs
theorem pCells_len : ∀ {fs : List Fd} {w : World} {cs : List Value}, pCells fs w cs → cs.length = sizeS fs := by
  intro fs
  induction fs with
  | nil => intro w cs h; rw [show cs = [] from h]; rfl
  | cons f fs ih =>
    intro w cs h
    obtain ⟨h1, _, h3⟩ := h
    have := ih h3
    rw [List.length_drop] at this
    simp only [sizeS]
    omega
theorem pCells_get : ∀ {fs : List Fd} {w : World} {cs : List Value} {k : Nat} {f : Fd}, pCells fs w cs → fs[k]? = some f → f.p w (wrapV f.agg ((cs.drop (offOf fs k)).take f.n)) := by
  intro fs
  induction fs with
  | nil => intro w cs k f _ hk; simp at hk
  | cons g fs ih =>
    intro w cs k f h hk
    obtain ⟨h1, h2, h3⟩ := h
    cases k with
    | zero => simp at hk; subst hk; exact h2
    | succ k =>
      have := ih h3 (by simpa using hk)
      rw [List.drop_drop] at this
      exact this
theorem wrapV_inj {cs ds : List Value} (h : wrapV true cs = wrapV true ds) : cs = ds := by
  simp only [wrapV, if_true] at h
  injection h with h
  have := congrArg Array.toList h
  simpa using this
/-- A field is read out of a struct's cells. -/
theorem fd_get {fs : List Fd} {N : Nat} (k : Nat) {f : Fd} (hk : fs[k]? = some f) {off : Nat} (ho : offOf fs k = off) : ∀ w cs, cs.length = N → pS fs w (wrapV true cs) → f.p w (wrapV f.agg ((cs.drop off).take f.n)) := by
  rintro w cs _ ⟨ds, e, h⟩
  have := wrapV_inj (show wrapV true cs = wrapV true ds from e)
  subst this
  rw [← ho]
  exact pCells_get h hk
theorem pCells_set : ∀ {fs : List Fd} {w : World} {cs ds : List Value} {k : Nat} {f : Fd} {q : Pred}, pCells fs w cs → fs[k]? = some f → ds.length = f.n → q w (wrapV f.agg ds) → pCells (fs.set k ⟨f.agg, f.n, q⟩) w (cs.take (offOf fs k) ++ ds ++ cs.drop (offOf fs k + f.n)) := by
  intro fs
  induction fs with
  | nil => intro w cs ds k f q _ hk; simp at hk
  | cons g fs ih =>
    intro w cs ds k f q h hk hl hq
    obtain ⟨h1, h2, h3⟩ := h
    cases k with
    | zero =>
      simp at hk
      subst hk
      refine ⟨by simp [offOf, hl], ?_, ?_⟩
      · simp [offOf, ← hl]; exact hq
      · simp [offOf, ← hl]
        rw [hl]
        exact h3
    | succ k =>
      have := ih h3 (by simpa using hk) hl hq
      have hlen := pCells_len h3
      refine ⟨?_, ?_, ?_⟩
      · show g.n ≤ (cs.take (g.n + offOf fs k) ++ ds ++ cs.drop (g.n + offOf fs k + f.n)).length
        simp only [List.length_append, List.length_take, List.length_drop]
        omega
      · have e : ((cs.take (g.n + offOf fs k) ++ ds ++ cs.drop (g.n + offOf fs k + f.n)).take g.n) = cs.take g.n := by
          rw [List.append_assoc, List.take_append_of_le_length (by simp; omega), List.take_take]
          congr 1; omega
        show g.p w (wrapV g.agg ((cs.take (g.n + offOf fs k) ++ ds ++ cs.drop (g.n + offOf fs k + f.n)).take g.n))
        rw [e]; exact h2
      · show pCells _ w ((cs.take (g.n + offOf fs k) ++ ds ++ cs.drop (g.n + offOf fs k + f.n)).drop g.n)
        have e : ((cs.take (g.n + offOf fs k) ++ ds ++ cs.drop (g.n + offOf fs k + f.n)).drop g.n) = (cs.drop g.n).take (offOf fs k) ++ ds ++ (cs.drop g.n).drop (offOf fs k + f.n) := by
          have e1 : g.n + offOf fs k - g.n = offOf fs k := by omega
          have e2 : g.n + (offOf fs k + f.n) = g.n + offOf fs k + f.n := by omega
          rw [List.append_assoc, List.drop_append_of_le_length (by simp; omega), List.drop_take, e1, List.append_assoc, List.drop_drop, e2]
        rw [e]; exact this
/-- A field is written. -/
theorem fd_set {fs : List Fd} {N : Nat} (k : Nat) {f : Fd} {q : Pred} (hk : fs[k]? = some f) {off : Nat} (ho : offOf fs k = off) {gs : List Fd} (hg : fs.set k ⟨f.agg, f.n, q⟩ = gs) :
    ∀ w cs ds, cs.length = N → ds.length = f.n → pS fs w (wrapV true cs) → q w (wrapV f.agg ds) → pS gs w (wrapV true (cs.take off ++ ds ++ cs.drop (off + f.n))) := by
  rintro w cs ds _ hl ⟨es, e, h⟩ hq
  have := wrapV_inj (show wrapV true cs = wrapV true es from e)
  subst this
  rw [← ho, ← hg]
  exact ⟨_, rfl, pCells_set h hk hl hq⟩
/-- Two fractions: a complex fraction, a range. -/
def pPair (a b : Rat) : Pred := pS [⟨true, 3, pRat a⟩, ⟨true, 3, pRat b⟩]
theorem numlike_S {fs : List Fd} (h : ∀ f ∈ fs, Numlike f.p) : Numlike (pS fs) := by
  rintro M w v hM ⟨cs, rfl, hc⟩
  have key : ∀ (fs : List Fd), (∀ f ∈ fs, Numlike f.p) → ∀ cs, pCells fs w cs → Box M (fun w => pCells fs w cs) w := by
    intro fs
    induction fs with
    | nil => intro _ cs h w' _; exact h
    | cons f fs ih =>
      rintro hf cs ⟨h1, h2, h3⟩ w' he
      exact ⟨h1, hf f (by simp) M w _ hM h2 w' he, ih (fun g hg => hf g (List.mem_cons_of_mem _ hg)) _ h3 w' he⟩
  exact fun w' he => ⟨cs, rfl, key fs h cs hc w' he⟩
def AllNumlike : List Fd → Prop
  | [] => True
  | f :: fs => Numlike f.p ∧ AllNumlike fs
theorem AllNumlike.get : ∀ {fs : List Fd}, AllNumlike fs → ∀ f ∈ fs, Numlike f.p := by
  intro fs
  induction fs with
  | nil => intro _ f hf; cases hf
  | cons g fs ih =>
    intro h f hf
    rcases List.mem_cons.1 hf with rfl | hf
    · exact h.1
    · exact ih h.2 f hf
theorem numlike_s {fs : List Fd} (h : AllNumlike fs) : Numlike (pS fs) := numlike_S h.get
def AllFits : List Fd → Prop
  | [] => True
  | f :: fs => Fits f.n f.agg f.p ∧ AllFits fs
theorem fits_s {fs : List Fd} (h : AllFits fs) {n : Nat} (hn : sizeS fs = n) : Fits n true (pS fs) := by
  rintro w v ⟨cs, rfl, hc⟩
  refine ⟨cs, rfl, by rw [← hn]; exact pCells_len hc, rfl, ?_⟩
  have key : ∀ (fs : List Fd), AllFits fs → ∀ cs, pCells fs w cs → ∀ u ∈ cs, NoU u ∧ u.oneCell' = true := by
    intro fs
    induction fs with
    | nil => intro _ cs h u hu; rw [show cs = [] from h] at hu; cases hu
    | cons f fs ih =>
      rintro ⟨h0, h0'⟩ cs ⟨h1, h2, h3⟩ u hu
      rw [← List.take_append_drop f.n cs, List.mem_append] at hu
      rcases hu with hu | hu
      · obtain ⟨ds, e, hl, hcells, h4⟩ := h0 w _ h2
        have : cs.take f.n = ds := by
          cases hagg : f.agg with
          | true => rw [hagg] at e; exact wrapV_inj e
          | false =>
            rw [hagg] at e hcells
            have hc1 := hcells
            rw [e] at hc1
            match ds, hl, h4 with
            | [x], hl, h4 =>
              have hl' : (cs.take f.n).length = 1 := by rw [List.length_take]; simp at hl; omega
              match hct : cs.take f.n, hl' with
              | [y], _ =>
                rw [hct] at e
                simp only [wrapV, Bool.false_eq_true, if_false, List.headD_cons] at e
                rw [e]
            | [], hl, _ =>
              exfalso
              simp only [wrapV, Bool.false_eq_true, if_false, List.headD_nil, undef, Value.cells] at hc1
              exact absurd (congrArg Array.size hc1) (by simp)
            | x :: y :: ds, hl, h4 =>
              exfalso
              have := h4 x (by simp)
              simp only [wrapV, Bool.false_eq_true, if_false, List.headD_cons] at hc1
              cases x <;> simp [Value.oneCell', Value.cells] at this hc1
        rw [this] at hu
        exact h4 u hu
      · exact ih h0' _ h3 u hu
  exact key fs h cs hc
theorem numlike_pair (a b : Rat) : Numlike (pPair a b) := numlike_s ⟨numlike_rat a, numlike_rat b, trivial⟩
theorem fits_pair (a b : Rat) : Fits 6 true (pPair a b) := fits_s (fs := [⟨true, 3, pRat a⟩, ⟨true, 3, pRat b⟩]) ⟨fits_rat a, fits_rat b, trivial⟩ rfl
theorem pS_of' {fs : List Fd} {w : World} {cs : List Value} (h : pCells fs w cs) : pS fs w (.agg cs.toArray) := ⟨cs, rfl, h⟩
/-- A fraction's data. -/
def pFrac (n d : Int) : Pred := pS [⟨false, 1, pI n⟩, ⟨false, 1, pI d⟩]
theorem numlike_frac (n d : Int) : Numlike (pFrac n d) := numlike_s ⟨numlike_eq _, numlike_eq _, trivial⟩
theorem fits_frac (n d : Int) : Fits 2 true (pFrac n d) := fits_s (fs := [⟨false, 1, pI n⟩, ⟨false, 1, pI d⟩]) ⟨fits_int n, fits_int d, trivial⟩ rfl
theorem pFrac_eq {n d : Int} {w : World} {v : Value} (h : pFrac n d w v) : v = .agg #[.int .i64 n, .int .i64 d] := by
  obtain ⟨cs, rfl, hc⟩ := h
  have hl := pCells_len hc
  match cs, hl, hc with
  | [x, y], _, hc =>
    obtain ⟨_, h1, _, h2, _⟩ := hc
    have e1 : x = .int .i64 n := h1
    have e2 : y = .int .i64 d := h2
    rw [e1, e2]
theorem pFrac_of (n d : Int) (w : World) : pFrac n d w (.agg #[.int .i64 n, .int .i64 d]) := pS_of' ⟨by simp, rfl, by simp, rfl, rfl⟩
/-- A struct is made of parts. -/
theorem pS_of {fs : List Fd} {w : World} {cs : List Value} (h : pCells fs w cs) : pS fs w (.agg cs.toArray) := ⟨cs, rfl, h⟩
theorem cells_pair0 (w : World) : pCells [⟨true, 3, pRat 0⟩, ⟨true, 3, pRat 0⟩] w [.bool false, .slice none 0 0, .slice none 0 0, .bool false, .slice none 0 0, .slice none 0 0] := ⟨by simp, isRat_zero _, by simp, isRat_zero _, rfl⟩
end Wx
