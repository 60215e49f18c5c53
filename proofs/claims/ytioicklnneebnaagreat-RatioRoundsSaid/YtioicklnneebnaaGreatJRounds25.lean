import Derived.Test.YtioicklnneebnaaGreatProg
import Derived.Handy
import Derived.Test.YtioicklnneebnaaGreatPlain1
import Derived.Test.YtioicklnneebnaaGreatMem
import Derived.Test.YtioicklnneebnaaGreatJRounds23
import Derived.Test.YtioicklnneebnaaGreatInv
import Derived.Test.YtioicklnneebnaaGreatCRat1
import Derived.Test.YtioicklnneebnaaGreatCRat2
namespace Wx
open Go Go.RowKit Go.Proofs

/-- A new variable of three cells, from block B on. -/
def NewR (B : Nat) (w : World) (v : Value) : Prop := ∃ g, v = .pointer (some ⟨g, 0, none⟩) ∧ B ≤ g ∧ ObjA w g [.bool false, .slice none 0 0, .slice none 0 0] 27
theorem NewR.gone {B : Nat} {w w' : World} {v : Value} (h : NewR B w v) (hb : Below w.heap.size w w') : NewR B w' v := by
  obtain ⟨g, e, h1, h2⟩ := h
  exact ⟨g, e, h1, h2.gone hb⟩
theorem NewR.ne {B : Nat} {w : World} {v : Value} (h : NewR B w v) : v ≠ .pointer (some ⟨w.heap.size, 0, none⟩) := by
  obtain ⟨g, rfl, h1, h2⟩ := h
  intro e
  injection e with e
  injection e with e
  injection e with e
  have := h2.lt
  omega
theorem NewR.new {w0 w : World} (h : Below w0.heap.size w0 w) : NewR w0.heap.size (w.alloc (.cells #[.bool false, .slice none 0 0, .slice none 0 0] 27)) (.pointer (some ⟨w.heap.size, 0, none⟩)) :=
  ⟨_, rfl, h.size, heap_alloc_new _ _⟩
theorem ptr_ne {g g' : Nat} (h : Value.pointer (some ⟨g, 0, none⟩) ≠ .pointer (some ⟨g', 0, none⟩)) : g ≠ g' := fun e => h (by rw [e])
/-- A block without numbers is written anew. -/
theorem ObjA.put {w : World} {g : Nat} {cs : List Value} {e : TypeId} (h : ObjA w g cs e) (hc : ∀ v ∈ cs, NotInt v) (vs : List Value) (hl : vs.length = cs.length) (hv : ∀ v ∈ vs, NotInt v) :
    ∃ w', setAll w g 0 vs = w' ∧ ObjA w' g vs e ∧ (∀ g' cs' e', g' ≠ g → ObjA w g' cs' e' → ObjA w' g' cs' e') ∧ (∀ (kd : IntKind) (b : Nat) (v : Value) (m : Nat), Num kd b w v m → Num kd b w' v m) ∧ (∀ w0 : World, w0.heap.size ≤ g → Below w0.heap.size w0 w → Below w0.heap.size w0 w') ∧ w'.heap.size = w.heap.size := by
  refine ⟨_, rfl, ?_, ?_, setAll_num vs 0 h hc hv, ?_, ?_⟩
  · have := setAll_obj vs 0 h (by omega)
    simpa using this
  · intro g' cs' e' hne ho
    have key : ∀ (vs : List Value) (k : Nat) (w : World), ObjA w g' cs' e' → ObjA (setAll w g k vs) g' cs' e' := by
      intro vs
      induction vs with
      | nil => intro k w h; exact h
      | cons v vs ih => intro k w h; exact ih (k + 1) _ (h.far hne _ _)
    exact key vs 0 w ho
  · intro w0 hg hb
    have key : ∀ (vs : List Value) (k : Nat) (w : World), Below w0.heap.size w0 w → Below w0.heap.size w0 (setAll w g k vs) := by
      intro vs
      induction vs with
      | nil => intro k w h; exact h
      | cons v vs ih => intro k w h; exact ih (k + 1) _ (h.setCell hg _)
    exact key vs 0 w hb
  · have key : ∀ (vs : List Value) (k : Nat) (w : World), (setAll w g k vs).heap.size = w.heap.size := by
      intro vs
      induction vs with
      | nil => intro k w; rfl
      | cons v vs ih => intro k w; rw [setAll, ih]; simp [World.setCell]
    exact key vs 0 w
/-- A walk among blocks that stand. -/
def HeldQ (w0 : World) (ps : List (Nat × List Value × TypeId)) (w' : World) : Prop := Below w0.heap.size w0 w' ∧ ∀ p ∈ ps, ObjA w' p.1 p.2.1 p.2.2
theorem HeldQ.call {w0 : World} {ps : List (Nat × List Value × TypeId)} {w' w'' : World} {p : Prop} (h : HeldQ w0 ps w' ∧ p) (hb : Below w'.heap.size w' w'') : HeldQ w0 ps w'' :=
  ⟨h.1.1.trans (hb.mono h.1.1.size), fun p hp => (h.1.2 p hp).gone hb⟩
theorem HeldQ.drew {w0 : World} {ps : List (Nat × List Value × TypeId)} {w' : World} (h : HeldQ w0 ps w') : HeldQ w0 ps w'.drew := ⟨h.1.drew, h.2⟩
theorem HeldQ.at_ {w0 : World} {ps : List (Nat × List Value × TypeId)} {w' : World} (h : HeldQ w0 ps w') {p : Nat × List Value × TypeId} (hp : p ∈ ps) : ObjA w' p.1 p.2.1 p.2.2 := h.2 p hp
end Wx

namespace Wx
open Go Go.RowKit Go.Proofs

/-- A new variable, from block B on. -/
def NewA (B : Nat) (w : World) (v : Value) (cs : List Value) (e : TypeId) : Prop := ∃ g, v = .pointer (some ⟨g, 0, none⟩) ∧ B ≤ g ∧ ObjA w g cs e
theorem NewA.gone {B : Nat} {w w' : World} {v : Value} {cs : List Value} {e : TypeId} (h : NewA B w v cs e) (hb : Below w.heap.size w w') : NewA B w' v cs e := by
  obtain ⟨g, e', h1, h2⟩ := h
  exact ⟨g, e', h1, h2.gone hb⟩
theorem NewA.ne {B : Nat} {w : World} {v : Value} {cs : List Value} {e : TypeId} (h : NewA B w v cs e) : v ≠ .pointer (some ⟨w.heap.size, 0, none⟩) := by
  obtain ⟨g, rfl, h1, h2⟩ := h
  intro e
  injection e with e
  injection e with e
  injection e with e
  have := h2.lt
  omega
theorem NewA.new {B : Nat} {w : World} {cs : List Value} {e : TypeId} (h : B ≤ w.heap.size) : NewA B (w.alloc (.cells cs.toArray e)) (.pointer (some ⟨w.heap.size, 0, none⟩)) cs e := ⟨_, rfl, h, heap_alloc_new _ _⟩
theorem below_alloc (w : World) (cs : Array Value) (e : TypeId) : Below w.heap.size w (w.alloc (.cells cs e)) := Below.alloc (Below.refl _ _) (Nat.le_refl _) _
theorem HeldN.b {w : World} {r n : Nat} {e : TypeId} {ps : List (Nat × List Value × TypeId)} {w' : World} (h : HeldN w r n e ps w') : Below w.heap.size w w' := h.1
theorem HeldQ.b {w0 : World} {ps : List (Nat × List Value × TypeId)} {w : World} (h : HeldQ w0 ps w) : Below w0.heap.size w0 w := h.1
theorem HeldQ.sub {w0 : World} {ps qs : List (Nat × List Value × TypeId)} {w : World} (h : HeldQ w0 ps w) (hs : ∀ p ∈ qs, p ∈ ps) : HeldQ w0 qs w := ⟨h.1, fun p hp => h.2 p (hs p hp)⟩
theorem HeldQ.lts {w0 : World} {ps : List (Nat × List Value × TypeId)} {w : World} (h : HeldQ w0 ps w) : ∀ p ∈ ps, p.1 < w.heap.size := fun p hp => (h.2 p hp).lt
/-- A block without numbers is written; it joins those that stand. -/
theorem HeldQ.put {w0 : World} {ps : List (Nat × List Value × TypeId)} {w : World} {g B : Nat} {zs vs : List Value} {e : TypeId} (h : HeldQ w0 ps w) (ho : ObjA w g zs e) (hB : ∀ p ∈ ps, p.1 < B) (hg : B ≤ g) (h0 : w0.heap.size ≤ B) (hz : ∀ v ∈ zs, NotInt v) (hl : vs.length = zs.length) (hv : ∀ v ∈ vs, NotInt v) :
    ∃ wf, setAll w g 0 vs = wf ∧ HeldQ w0 ((g, vs, e) :: ps) wf ∧ (∀ (kd : IntKind) (b : Nat) (v : Value) (m : Nat), Num kd b w v m → Num kd b wf v m) := by
  obtain ⟨wA, eA, oA, fA, nA, bA, _⟩ := ho.put hz vs hl hv
  refine ⟨wA, eA, ⟨bA _ (by omega) h.1, fun p hp => ?_⟩, nA⟩
  rcases List.mem_cons.1 hp with rfl | hp
  · exact oA
  · exact fA _ _ _ (by have := hB p hp; omega) (h.2 p hp)
/-- A block without numbers is written; those that stand stand on. -/
theorem HeldQ.write {w0 : World} {ps : List (Nat × List Value × TypeId)} {w : World} {g B : Nat} {zs vs : List Value} {e : TypeId} (h : HeldQ w0 ps w) (ho : ObjA w g zs e) (hB : ∀ p ∈ ps, p.1 < B) (hg : B ≤ g) (h0 : w0.heap.size ≤ B) (hz : ∀ v ∈ zs, NotInt v) (hl : vs.length = zs.length) (hv : ∀ v ∈ vs, NotInt v) :
    ∃ wf, setAll w g 0 vs = wf ∧ ObjA wf g vs e ∧ HeldQ w0 ps wf ∧ (∀ g' cs' e', g' ≠ g → ObjA w g' cs' e' → ObjA wf g' cs' e') ∧ (∀ (kd : IntKind) (b : Nat) (v : Value) (m : Nat), Num kd b w v m → Num kd b wf v m) := by
  obtain ⟨wA, eA, oA, fA, nA, bA, _⟩ := ho.put hz vs hl hv
  exact ⟨wA, eA, oA, ⟨bA _ (by omega) h.1, fun p hp => fA _ _ _ (by have := hB p hp; omega) (h.2 p hp)⟩, fA, nA⟩
theorem HeldQ.add {w0 : World} {ps : List (Nat × List Value × TypeId)} {w : World} {g : Nat} {vs : List Value} {e : TypeId} (h : HeldQ w0 ps w) (ho : ObjA w g vs e) : HeldQ w0 ((g, vs, e) :: ps) w :=
  ⟨h.1, fun p hp => by rcases List.mem_cons.1 hp with rfl | hp; exact ho; exact h.2 p hp⟩
theorem notInt_z3 : ∀ v ∈ [Value.bool false, .slice none 0 0, .slice none 0 0], NotInt v := notInt3
theorem notInt_z6 : ∀ v ∈ [Value.bool false, .slice none 0 0, .slice none 0 0, .bool false, .slice none 0 0, .slice none 0 0], NotInt v := notInt6
end Wx
