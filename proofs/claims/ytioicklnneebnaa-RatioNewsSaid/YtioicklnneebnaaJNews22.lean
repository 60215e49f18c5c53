import Derived.Test.YtioicklnneebnaaProg
import Derived.Handy
import Derived.Test.YtioicklnneebnaaPlain1
import Derived.Test.YtioicklnneebnaaMem
import Derived.Test.YtioicklnneebnaaCHeld
import Derived.Test.YtioicklnneebnaaInv
import Derived.Test.YtioicklnneebnaaCRat1
import Derived.Test.YtioicklnneebnaaCRat2
import Derived.Test.YtioicklnneebnaaJNews3
import Derived.Test.YtioicklnneebnaaJNews17
import Derived.Test.YtioicklnneebnaaJNews19
namespace Wx
open Go Go.RowKit Go.Proofs

/-- A new variable of three cells, from block B on. -/
def NewR (B : Nat) (w : World) (v : Value) : Prop := ∃ g, v = .pointer (some ⟨g, 0, none⟩) ∧ B ≤ g ∧ ObjA w g [.bool false, .slice none 0 0, .slice none 0 0] 26
theorem NewR.gone {B : Nat} {w w' : World} {v : Value} (h : NewR B w v) (hb : Below w.heap.size w w') : NewR B w' v := by
  obtain ⟨g, e, h1, h2⟩ := h
  exact ⟨g, e, h1, h2.gone hb⟩
theorem NewR.ne {B : Nat} {w : World} {v : Value} (h : NewR B w v) : v ≠ .pointer (some ⟨w.heap.size, 0, none⟩) := by
  obtain ⟨g, rfl, h1, h2⟩ := h
  intro e
  injection e with e
  injection e with e
  injection e with e
  have := h2.lt
  omega
theorem NewR.new {w0 w : World} (h : Below w0.heap.size w0 w) : NewR w0.heap.size (w.alloc (.cells #[.bool false, .slice none 0 0, .slice none 0 0] 26)) (.pointer (some ⟨w.heap.size, 0, none⟩)) :=
  ⟨_, rfl, h.size, heap_alloc_new _ _⟩
theorem ptr_ne {g g' : Nat} (h : Value.pointer (some ⟨g, 0, none⟩) ≠ .pointer (some ⟨g', 0, none⟩)) : g ≠ g' := fun e => h (by rw [e])
/-- A block without numbers is written anew. -/
theorem ObjA.put {w : World} {g : Nat} {cs : List Value} {e : TypeId} (h : ObjA w g cs e) (hc : ∀ v ∈ cs, NotInt v) (vs : List Value) (hl : vs.length = cs.length) (hv : ∀ v ∈ vs, NotInt v) :
    ∃ w', setAll w g 0 vs = w' ∧ ObjA w' g vs e ∧ (∀ g' cs' e', g' ≠ g → ObjA w g' cs' e' → ObjA w' g' cs' e') ∧ (∀ (kd : IntKind) (b : Nat) (v : Value) (m : Nat), Num kd b w v m → Num kd b w' v m) ∧ (∀ w0 : World, w0.heap.size ≤ g → Below w0.heap.size w0 w → Below w0.heap.size w0 w') ∧ w'.heap.size = w.heap.size := by
  refine ⟨_, rfl, ?_, ?_, setAll_num vs 0 h hc hv, ?_, ?_⟩
  · have := setAll_obj vs 0 h (by omega)
    simpa using this
  · intro g' cs' e' hne ho
    have key : ∀ (vs : List Value) (k : Nat) (w : World), ObjA w g' cs' e' → ObjA (setAll w g k vs) g' cs' e' := by
      intro vs
      induction vs with
      | nil => intro k w h; exact h
      | cons v vs ih => intro k w h; exact ih (k + 1) _ (h.far hne _ _)
    exact key vs 0 w ho
  · intro w0 hg hb
    have key : ∀ (vs : List Value) (k : Nat) (w : World), Below w0.heap.size w0 w → Below w0.heap.size w0 (setAll w g k vs) := by
      intro vs
      induction vs with
      | nil => intro k w h; exact h
      | cons v vs ih => intro k w h; exact ih (k + 1) _ (h.setCell hg _)
    exact key vs 0 w hb
  · have key : ∀ (vs : List Value) (k : Nat) (w : World), (setAll w g k vs).heap.size = w.heap.size := by
      intro vs
      induction vs with
      | nil => intro k w; rfl
      | cons v vs ih => intro k w; rw [setAll, ih]; simp [World.setCell]
    exact key vs 0 w
/-- A walk among blocks that stand. -/
def HeldQ (w0 : World) (ps : List (Nat × List Value × TypeId)) (w' : World) : Prop := Below w0.heap.size w0 w' ∧ ∀ p ∈ ps, ObjA w' p.1 p.2.1 p.2.2
theorem HeldQ.call {w0 : World} {ps : List (Nat × List Value × TypeId)} {w' w'' : World} {p : Prop} (h : HeldQ w0 ps w' ∧ p) (hb : Below w'.heap.size w' w'') : HeldQ w0 ps w'' :=
  ⟨h.1.1.trans (hb.mono h.1.1.size), fun p hp => (h.1.2 p hp).gone hb⟩
theorem HeldQ.drew {w0 : World} {ps : List (Nat × List Value × TypeId)} {w' : World} (h : HeldQ w0 ps w') : HeldQ w0 ps w'.drew := ⟨h.1.drew, h.2⟩
theorem HeldQ.at_ {w0 : World} {ps : List (Nat × List Value × TypeId)} {w' : World} (h : HeldQ w0 ps w') {p : Nat × List Value × TypeId} (hp : p ∈ ps) : ObjA w' p.1 p.2.1 p.2.2 := h.2 p hp
end Wx

namespace Wx
open Go Go.RowKit Go.Proofs

/-- A new variable, from block B on. -/
def NewA (B : Nat) (w : World) (v : Value) (cs : List Value) (e : TypeId) : Prop := ∃ g, v = .pointer (some ⟨g, 0, none⟩) ∧ B ≤ g ∧ ObjA w g cs e
theorem NewA.gone {B : Nat} {w w' : World} {v : Value} {cs : List Value} {e : TypeId} (h : NewA B w v cs e) (hb : Below w.heap.size w w') : NewA B w' v cs e := by
  obtain ⟨g, e', h1, h2⟩ := h
  exact ⟨g, e', h1, h2.gone hb⟩
theorem NewA.ne {B : Nat} {w : World} {v : Value} {cs : List Value} {e : TypeId} (h : NewA B w v cs e) : v ≠ .pointer (some ⟨w.heap.size, 0, none⟩) := by
  obtain ⟨g, rfl, h1, h2⟩ := h
  intro e
  injection e with e
  injection e with e
  injection e with e
  have := h2.lt
  omega
theorem NewA.new {B : Nat} {w : World} {cs : List Value} {e : TypeId} (h : B ≤ w.heap.size) : NewA B (w.alloc (.cells cs.toArray e)) (.pointer (some ⟨w.heap.size, 0, none⟩)) cs e := ⟨_, rfl, h, heap_alloc_new _ _⟩
theorem below_alloc (w : World) (cs : Array Value) (e : TypeId) : Below w.heap.size w (w.alloc (.cells cs e)) := Below.alloc (Below.refl _ _) (Nat.le_refl _) _
theorem HeldQ.b {w0 : World} {ps : List (Nat × List Value × TypeId)} {w : World} (h : HeldQ w0 ps w) : Below w0.heap.size w0 w := h.1
theorem HeldQ.sub {w0 : World} {ps qs : List (Nat × List Value × TypeId)} {w : World} (h : HeldQ w0 ps w) (hs : ∀ p ∈ qs, p ∈ ps) : HeldQ w0 qs w := ⟨h.1, fun p hp => h.2 p (hs p hp)⟩
theorem HeldQ.lts {w0 : World} {ps : List (Nat × List Value × TypeId)} {w : World} (h : HeldQ w0 ps w) : ∀ p ∈ ps, p.1 < w.heap.size := fun p hp => (h.2 p hp).lt
/-- A block without numbers is written; it joins those that stand. -/
theorem HeldQ.put {w0 : World} {ps : List (Nat × List Value × TypeId)} {w : World} {g B : Nat} {zs vs : List Value} {e : TypeId} (h : HeldQ w0 ps w) (ho : ObjA w g zs e) (hB : ∀ p ∈ ps, p.1 < B) (hg : B ≤ g) (h0 : w0.heap.size ≤ B) (hz : ∀ v ∈ zs, NotInt v) (hl : vs.length = zs.length) (hv : ∀ v ∈ vs, NotInt v) :
    ∃ wf, setAll w g 0 vs = wf ∧ HeldQ w0 ((g, vs, e) :: ps) wf ∧ (∀ (kd : IntKind) (b : Nat) (v : Value) (m : Nat), Num kd b w v m → Num kd b wf v m) := by
  obtain ⟨wA, eA, oA, fA, nA, bA, _⟩ := ho.put hz vs hl hv
  refine ⟨wA, eA, ⟨bA _ (by omega) h.1, fun p hp => ?_⟩, nA⟩
  rcases List.mem_cons.1 hp with rfl | hp
  · exact oA
  · exact fA _ _ _ (by have := hB p hp; omega) (h.2 p hp)
/-- A block without numbers is written; those that stand stand on. -/
theorem HeldQ.write {w0 : World} {ps : List (Nat × List Value × TypeId)} {w : World} {g B : Nat} {zs vs : List Value} {e : TypeId} (h : HeldQ w0 ps w) (ho : ObjA w g zs e) (hB : ∀ p ∈ ps, p.1 < B) (hg : B ≤ g) (h0 : w0.heap.size ≤ B) (hz : ∀ v ∈ zs, NotInt v) (hl : vs.length = zs.length) (hv : ∀ v ∈ vs, NotInt v) :
    ∃ wf, setAll w g 0 vs = wf ∧ ObjA wf g vs e ∧ HeldQ w0 ps wf ∧ (∀ g' cs' e', g' ≠ g → ObjA w g' cs' e' → ObjA wf g' cs' e') ∧ (∀ (kd : IntKind) (b : Nat) (v : Value) (m : Nat), Num kd b w v m → Num kd b wf v m) := by
  obtain ⟨wA, eA, oA, fA, nA, bA, _⟩ := ho.put hz vs hl hv
  exact ⟨wA, eA, oA, ⟨bA _ (by omega) h.1, fun p hp => fA _ _ _ (by have := hB p hp; omega) (h.2 p hp)⟩, fA, nA⟩
theorem HeldQ.add {w0 : World} {ps : List (Nat × List Value × TypeId)} {w : World} {g : Nat} {vs : List Value} {e : TypeId} (h : HeldQ w0 ps w) (ho : ObjA w g vs e) : HeldQ w0 ((g, vs, e) :: ps) w :=
  ⟨h.1, fun p hp => by rcases List.mem_cons.1 hp with rfl | hp; exact ho; exact h.2 p hp⟩
theorem notInt_z3 : ∀ v ∈ [Value.bool false, .slice none 0 0, .slice none 0 0], NotInt v := notInt3
theorem notInt_z6 : ∀ v ∈ [Value.bool false, .slice none 0 0, .slice none 0 0, .bool false, .slice none 0 0, .slice none 0 0], NotInt v := notInt6
end Wx

namespace Wx
open Go Go.RowKit Go.Proofs

/-- The fraction of plain data. -/
def ofR (n d : Int) : Rat := if d ≤ 0 then (n : Rat) else newR n d
theorem bd_newR {n d : Int} (h1 : -9223372036854775808 ≤ n) (h2 : n ≤ 9223372036854775807) (h3 : -9223372036854775808 ≤ d) (h4 : d ≤ 9223372036854775807) (hd : d ≠ 0) : BdR 64 (newR n d) :=
  redR_bd (by omega) (by unfold Bd; omega) (by unfold Bd; omega)
theorem bd_ofR {n d : Int} (h1 : -9223372036854775808 ≤ n) (h2 : n ≤ 9223372036854775807) (h4 : d ≤ 9223372036854775807) : BdR 64 (ofR n d) := by
  unfold ofR
  split
  · exact ⟨by unfold Bd; rw [Rat.num_intCast]; omega, by unfold Bd; rw [Rat.den_intCast]; omega⟩
  · exact bd_newR h1 h2 (by omega) h4 (by omega)

set_option maxRecDepth 100000 in
theorem of_num (w : World) (n d : Int) (h1 : -9223372036854775808 ≤ n) (h2 : n ≤ 9223372036854775807) (h4 : d ≤ 9223372036854775807) :
    Calls Try.prog 11 #[.agg #[.int .i64 n, .int .i64 d]] w (RetRat w (ofR n d)) := by
  have HH := bx (And.intro h1 (And.intro h2 h4))
  by_cases hd : d ≤ 0
  · have hq : ofR n d = (n : Rat) := if_pos hd
    rw [hq]
    generalize hg : (n : Rat) = q
    have HG := bx hg
    clear h1 h2 h4 hq hg
    go_enter Try.func11, Try.ntmps11
    go_wp2_with fail
    obtain ⟨w1, e1, o1, b1, s1⟩ := layA w [.int .i64 n, .int .i64 d] 39
    obtain ⟨w2, e2, o2, b2, s2⟩ := layA w1 [.bool false, .slice none 0 0, .slice none 0 0] 26
    rw [e1, e2]
    rw [s1] at o2
    have hz : HeldN w (w.heap.size + 1) 3 26 [] w2 := ⟨b1.trans (b2.mono b1.size), by omega, by simp, _, rfl, o2, notInt3⟩
    clear e1 e2 s2
    have hc := int_num w2 n HH.out.1 HH.out.2.1
    rw [HG.out] at hc
    refine Calls.mono hc ?_
    clear hc
    rintro e w3 ⟨vr, rfl, hr, hb⟩
    obtain ⟨vrn, vrd, rfl, hrn, hrd⟩ := id hr
    obtain ⟨Ar1, cr1, rfl, _⟩ := id hrn
    obtain ⟨Ar2, cr2, rfl, _⟩ := id hrd
    have hz := HeldN.call (And.intro hz trivial) hb
    have k0 := hz.cellR (i := 0) (by omega)
    have k1 := hz.cellR (i := 1) (by omega)
    have k2 := hz.cellR (i := 2) (by omega)
    have k3 := hz.fzR 0
    have k4 := hz.fzR 1
    have k5 := hz.fzR 2
    go_wp2
    obtain ⟨wf, HW, ho, hB, hN⟩ := hz.fin [_, _, _] rfl (notInt3 (b := decide (q.num < 0)) (A1 := Ar1) (l1 := (digs b64 q.num.natAbs).length) (c1 := cr1) (A2 := Ar2) (l2 := (digs b64 (denOf q.den)).length) (c2 := cr2))
    simp only [setAll, Nat.reduceAdd] at HW
    rw [HW]
    (try simp only [Exit.inBlock, Exit.then])
    have f0 := ho.cell (i := 0) rfl
    have f1 := ho.cell (i := 1) rfl
    have f2 := ho.cell (i := 2) rfl
    refine bodyPost_ret (by simp [results, Try.results11, go_sem, f0, f1, f2]; try rfl) rfl ?_
    exact ⟨_, rfl, hr.into hN, hB⟩
  · have hq : ofR n d = newR n d := if_neg hd
    rw [hq]
    generalize hg : newR n d = q
    have HG := bx hg
    have hde : d ≠ 0 := by omega
    have HD := bx (And.intro hde (show -9223372036854775808 ≤ d by omega))
    clear h1 h2 h4 hq hg hde
    go_enter Try.func11, Try.ntmps11
    go_wp2_with fail
    obtain ⟨w1, e1, o1, b1, s1⟩ := layA w [.int .i64 n, .int .i64 d] 39
    obtain ⟨w2, e2, o2, b2, s2⟩ := layA w1 [.bool false, .slice none 0 0, .slice none 0 0] 26
    rw [e1, e2]
    rw [s1] at o2
    have hz : HeldN w (w.heap.size + 1) 3 26 [] w2 := ⟨b1.trans (b2.mono b1.size), by omega, by simp, _, rfl, o2, notInt3⟩
    clear e1 e2 s2
    have hc := new_num w2 n d HH.out.1 HH.out.2.1 HD.out.2 HH.out.2.2 HD.out.1
    rw [HG.out] at hc
    refine Calls.mono hc ?_
    clear hc
    rintro e w3 ⟨vr, rfl, hr, hb⟩
    obtain ⟨vrn, vrd, rfl, hrn, hrd⟩ := id hr
    obtain ⟨Ar1, cr1, rfl, _⟩ := id hrn
    obtain ⟨Ar2, cr2, rfl, _⟩ := id hrd
    have hz := HeldN.call (And.intro hz trivial) hb
    obtain ⟨w4, e4, o4, b4, s4⟩ := layA w3 [.bool (decide (q.num < 0)), .slice Ar1 (digs b64 q.num.natAbs).length cr1, .slice Ar2 (digs b64 (denOf q.den)).length cr2] 26
    have hr4 := hr.below b4
    have hz := HeldN.call (And.intro hz trivial) b4
    have k0 := hz.cellR (i := 0) (by omega)
    have k1 := hz.cellR (i := 1) (by omega)
    have k2 := hz.cellR (i := 2) (by omega)
    have k3 := hz.fzR 0
    have k4 := hz.fzR 1
    have k5 := hz.fzR 2
    have k6 := o4.cell (i := 0) rfl
    have k7 := o4.cell (i := 1) rfl
    have k8 := o4.cell (i := 2) rfl
    go_wp2
    obtain ⟨wf, HW, ho, hB, hN⟩ := hz.fin [_, _, _] rfl (notInt3 (b := decide (q.num < 0)) (A1 := Ar1) (l1 := (digs b64 q.num.natAbs).length) (c1 := cr1) (A2 := Ar2) (l2 := (digs b64 (denOf q.den)).length) (c2 := cr2))
    simp only [setAll, Nat.reduceAdd] at HW
    rw [HW]
    (try simp only [Exit.inBlock, Exit.then])
    have f0 := ho.cell (i := 0) rfl
    have f1 := ho.cell (i := 1) rfl
    have f2 := ho.cell (i := 2) rfl
    refine bodyPost_ret (by simp [results, Try.results11, go_sem, f0, f1, f2]; try rfl) rfl ?_
    exact ⟨_, rfl, hr4.into hN, hB⟩
end Wx
