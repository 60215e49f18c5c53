import Derived.Test.YtncpoijmhgihjaaProg
import Derived.Handy
import Derived.Test.YtncpoijmhgihjaaPlain1
import Derived.Test.YtncpoijmhgihjaaMem
import Derived.Test.YtncpoijmhgihjaaHeld
import Derived.Test.YtncpoijmhgihjaaInv
namespace Wx
open Go Go.RowKit Go.Proofs

/-- A new variable of three cells, from block B on. -/
def NewR (B : Nat) (w : World) (v : Value) : Prop := ∃ g, v = .pointer (some ⟨g, 0, none⟩) ∧ B ≤ g ∧ ObjA w g [.bool false, .slice none 0 0, .slice none 0 0] 27
theorem NewR.gone {B : Nat} {w w' : World} {v : Value} (h : NewR B w v) (hb : Below w.heap.size w w') : NewR B w' v := by
  obtain ⟨g, e, h1, h2⟩ := h
  exact ⟨g, e, h1, h2.gone hb⟩
theorem NewR.ne {B : Nat} {w : World} {v : Value} (h : NewR B w v) : v ≠ .pointer (some ⟨w.heap.size, 0, none⟩) := by
  obtain ⟨g, rfl, h1, h2⟩ := h
  intro e
  injection e with e
  injection e with e
  injection e with e
  have := h2.lt
  omega
theorem NewR.new {w0 w : World} (h : Below w0.heap.size w0 w) : NewR w0.heap.size (w.alloc (.cells #[.bool false, .slice none 0 0, .slice none 0 0] 27)) (.pointer (some ⟨w.heap.size, 0, none⟩)) :=
  ⟨_, rfl, h.size, heap_alloc_new _ _⟩
theorem ptr_ne {g g' : Nat} (h : Value.pointer (some ⟨g, 0, none⟩) ≠ .pointer (some ⟨g', 0, none⟩)) : g ≠ g' := fun e => h (by rw [e])
/-- A block without numbers is written anew. -/
theorem ObjA.put {w : World} {g : Nat} {cs : List Value} {e : TypeId} (h : ObjA w g cs e) (hc : ∀ v ∈ cs, NotInt v) (vs : List Value) (hl : vs.length = cs.length) (hv : ∀ v ∈ vs, NotInt v) :
    ∃ w', setAll w g 0 vs = w' ∧ ObjA w' g vs e ∧ (∀ g' cs' e', g' ≠ g → ObjA w g' cs' e' → ObjA w' g' cs' e') ∧ (∀ (kd : IntKind) (b : Nat) (v : Value) (m : Nat), Num kd b w v m → Num kd b w' v m) ∧ (∀ w0 : World, w0.heap.size ≤ g → Below w0.heap.size w0 w → Below w0.heap.size w0 w') ∧ w'.heap.size = w.heap.size := by
  refine ⟨_, rfl, ?_, ?_, setAll_num vs 0 h hc hv, ?_, ?_⟩
  · have := setAll_obj vs 0 h (by omega)
    simpa using this
  · intro g' cs' e' hne ho
    have key : ∀ (vs : List Value) (k : Nat) (w : World), ObjA w g' cs' e' → ObjA (setAll w g k vs) g' cs' e' := by
      intro vs
      induction vs with
      | nil => intro k w h; exact h
      | cons v vs ih => intro k w h; exact ih (k + 1) _ (h.far hne _ _)
    exact key vs 0 w ho
  · intro w0 hg hb
    have key : ∀ (vs : List Value) (k : Nat) (w : World), Below w0.heap.size w0 w → Below w0.heap.size w0 (setAll w g k vs) := by
      intro vs
      induction vs with
      | nil => intro k w h; exact h
      | cons v vs ih => intro k w h; exact ih (k + 1) _ (h.setCell hg _)
    exact key vs 0 w hb
  · have key : ∀ (vs : List Value) (k : Nat) (w : World), (setAll w g k vs).heap.size = w.heap.size := by
      intro vs
      induction vs with
      | nil => intro k w; rfl
      | cons v vs ih => intro k w; rw [setAll, ih]; simp [World.setCell]
    exact key vs 0 w
/-- A walk among blocks that stand. -/
def HeldQ (w0 : World) (ps : List (Nat × List Value × TypeId)) (w' : World) : Prop := Below w0.heap.size w0 w' ∧ ∀ p ∈ ps, ObjA w' p.1 p.2.1 p.2.2
theorem HeldQ.call {w0 : World} {ps : List (Nat × List Value × TypeId)} {w' w'' : World} {p : Prop} (h : HeldQ w0 ps w' ∧ p) (hb : Below w'.heap.size w' w'') : HeldQ w0 ps w'' :=
  ⟨h.1.1.trans (hb.mono h.1.1.size), fun p hp => (h.1.2 p hp).gone hb⟩
theorem HeldQ.drew {w0 : World} {ps : List (Nat × List Value × TypeId)} {w' : World} (h : HeldQ w0 ps w') : HeldQ w0 ps w'.drew := ⟨h.1.drew, h.2⟩
theorem HeldQ.at_ {w0 : World} {ps : List (Nat × List Value × TypeId)} {w' : World} (h : HeldQ w0 ps w') {p : Nat × List Value × TypeId} (hp : p ∈ ps) : ObjA w' p.1 p.2.1 p.2.2 := h.2 p hp
end Wx
