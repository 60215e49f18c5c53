import Derived.Test.YtlomlheajdgdoaaGreatProg
import Derived.Handy
import Derived.Deep.RegionHeld3
import Derived.Test.YtlomlheajdgdoaaGreatJFloats0
import Derived.Test.YtlomlheajdgdoaaGreatCFloatsMem
import Derived.Test.YtlomlheajdgdoaaGreatJFloats2
import Derived.Test.YtlomlheajdgdoaaGreatJFloats10
import Derived.Test.YtlomlheajdgdoaaGreatCFloatsRat1
namespace Wx
open Go Go.RowKit Go.Proofs

theorem Obj3.gone {w w' : World} {g : Nat} {x y z : Value} {e : TypeId} (h : Obj3 w g x y z e) (hb : Below w.heap.size w w') : Obj3 w' g x y z e := by
  refine h.below hb ?_
  unfold Obj3 at h
  rcases Nat.lt_or_ge g w.heap.size with h1 | h1
  · exact h1
  · rw [Array.getElem?_eq_none h1] at h; cases h
theorem lay3 (w : World) (x y z : Value) (e : TypeId) : ∃ w', w.alloc (.cells #[x, y, z] e) = w' ∧ Obj3 w' w.heap.size x y z e ∧ Below w.heap.size w w' ∧ w'.heap.size = w.heap.size + 1 :=
  ⟨_, rfl, Obj3.new _ _ _ _ _, Below.alloc (Below.refl _ _) (Nat.le_refl _) _, by simp⟩

theorem num_zero_iff (q : Rat) : q.num.natAbs = 0 ↔ q = 0 := by
  rw [Int.natAbs_eq_zero]
  exact Rat.num_eq_zero

theorem zero_num (w : World) (v : Value) (q : Rat) (h : IsRat w v q) : Calls Tryz.prog 87 #[v] w (RetIs w (.bool (decide (q = 0)))) := by
  obtain ⟨vn, vd, rfl, h1, h2⟩ := h
  obtain ⟨A1, c1, rfl, _⟩ := id h1
  obtain ⟨A2, c2, rfl, _⟩ := id h2
  have hz : (((digs b64 q.num.natAbs).length : Int) == 0) = decide (q = 0) := by
    by_cases hq : q = 0
    · rw [hq, decide_eq_true rfl]; rfl
    · rw [decide_eq_false hq, beq_eq_false_iff_ne]
      have := (digs_length_pos (n := q.num.natAbs) two_le_b64).2 (by have := mt (num_zero_iff q).1 hq; omega)
      omega
  generalize (digs b64 q.num.natAbs).length = L1 at *
  go_enter Tryz.func87, Tryz.ntmps87
  go_wp2
  go_ret
  exact ⟨rfl, Below.alloc (Below.refl _ _) (Nat.le_refl _) _⟩

theorem neg_flag (q : Rat) : decide ((-q).num < 0) = (!decide (q.num < 0) && !decide (q = 0)) := by
  rw [Rat.neg_num]
  have := Rat.num_eq_zero (q := q)
  by_cases h : q = 0
  · simp [h]
  · have h1 := mt this.1 h
    rw [decide_eq_false h]
    by_cases h2 : q.num < 0
    · simp [h2]; omega
    · simp [h2]; omega

theorem RetRat.drew {w : World} {q : Rat} {e : Ending} {w' : World} (h : RetRat w q e w') : RetRat w q e w'.drew := by
  obtain ⟨v, h1, ⟨vn, vd, h2, h3, h4⟩, h5⟩ := h
  exact ⟨v, h1, ⟨vn, vd, h2, h3, h4⟩, h5.drew⟩
@[irreducible] def cv (w : World) (a : Addr) : Value := (w.cell? a).getD (.bool false)
theorem cv_eq {w : World} {a : Addr} {v : Value} (h : w.cell? a = some v) : w.cell? a = some (cv w a) := by unfold cv; rw [h]; rfl
def NotInt (v : Value) : Prop := ∀ k n, v ≠ .int k n
theorem notInt_bool (b : Bool) : NotInt (.bool b) := by intro k n h; cases h
theorem notInt_slice (A : Option Addr) (l c : Nat) : NotInt (.slice A l c) := by intro k n h; cases h
def HeldR (w : World) (r : Nat) (e : TypeId) (ps : List (Nat × Value × Value × Value)) (w' : World) : Prop :=
  Below w.heap.size w w' ∧ w.heap.size ≤ r ∧ (∀ p ∈ ps, p.1 ≠ r ∧ Obj3 w' p.1 p.2.1 p.2.2.1 p.2.2.2 e) ∧ ∃ a b c, Obj3 w' r a b c e ∧ NotInt a ∧ NotInt b ∧ NotInt c
theorem HeldR.call {w : World} {r : Nat} {e : TypeId} {ps : List (Nat × Value × Value × Value)} {w' w'' : World} {p : Prop} (h : HeldR w r e ps w' ∧ p) (hb : Below w'.heap.size w' w'') : HeldR w r e ps w'' := by
  obtain ⟨⟨h1, h2, h3, a, b, c, h4, h5⟩, _⟩ := h
  exact ⟨h1.trans (hb.mono h1.size), h2, fun p hp => ⟨(h3 p hp).1, (h3 p hp).2.gone hb⟩, a, b, c, h4.gone hb, h5⟩
theorem HeldR.drew {w : World} {r : Nat} {e : TypeId} {ps : List (Nat × Value × Value × Value)} {w' : World} (h : HeldR w r e ps w') : HeldR w r e ps w'.drew := by
  obtain ⟨h1, h2, h3, h4⟩ := h
  exact ⟨h1.drew, h2, h3, h4⟩
theorem Obj3.far {w : World} {g r : Nat} {x y z : Value} {e : TypeId} (h : Obj3 w g x y z e) (hr : g ≠ r) (i : Nat) (u : Value) : Obj3 (w.setCell ⟨r, i, none⟩ u) g x y z e := (Below.heap_setCell w ⟨r, i, none⟩ u g hr).trans h
theorem HeldR.set0 {w : World} {r : Nat} {e : TypeId} {ps : List (Nat × Value × Value × Value)} {w' : World} (h : HeldR w r e ps w') {u : Value} (hu : NotInt u) : HeldR w r e ps (w'.setCell ⟨r, 0, none⟩ u) := by
  obtain ⟨h1, h2, h3, a, b, c, h4, h5, h6, h7⟩ := h
  exact ⟨h1.setCell h2 _, h2, fun p hp => ⟨(h3 p hp).1, (h3 p hp).2.far (h3 p hp).1 _ _⟩, u, b, c, h4.set0 u, hu, h6, h7⟩
theorem HeldR.set1 {w : World} {r : Nat} {e : TypeId} {ps : List (Nat × Value × Value × Value)} {w' : World} (h : HeldR w r e ps w') {u : Value} (hu : NotInt u) : HeldR w r e ps (w'.setCell ⟨r, 1, none⟩ u) := by
  obtain ⟨h1, h2, h3, a, b, c, h4, h5, h6, h7⟩ := h
  exact ⟨h1.setCell h2 _, h2, fun p hp => ⟨(h3 p hp).1, (h3 p hp).2.far (h3 p hp).1 _ _⟩, a, u, c, h4.set1 u, h5, hu, h7⟩
theorem HeldR.set2 {w : World} {r : Nat} {e : TypeId} {ps : List (Nat × Value × Value × Value)} {w' : World} (h : HeldR w r e ps w') {u : Value} (hu : NotInt u) : HeldR w r e ps (w'.setCell ⟨r, 2, none⟩ u) := by
  obtain ⟨h1, h2, h3, a, b, c, h4, h5, h6, h7⟩ := h
  exact ⟨h1.setCell h2 _, h2, fun p hp => ⟨(h3 p hp).1, (h3 p hp).2.far (h3 p hp).1 _ _⟩, a, b, u, h4.set2 u, h5, h6, hu⟩
theorem HeldR.sets {w : World} {r : Nat} {e : TypeId} {ps : List (Nat × Value × Value × Value)} {w' : World} {p : Prop} (h : HeldR w r e ps w' ∧ p) (b : Bool) (A1 A2 : Option Addr) (l1 l2 c1 c2 : Nat) :
    HeldR w r e ps (((w'.setCell ⟨r, 0, none⟩ (.bool b)).setCell ⟨r, 1, none⟩ (.slice A1 l1 c1)).setCell ⟨r, 2, none⟩ (.slice A2 l2 c2)) :=
  ((h.1.set0 (notInt_bool _)).set1 (notInt_slice _ _ _)).set2 (notInt_slice _ _ _)
theorem HeldR.cells {w : World} {r : Nat} {e : TypeId} {ps : List (Nat × Value × Value × Value)} {w' : World} (h : HeldR w r e ps w') :
    w'.cell? ⟨r, 0, none⟩ = some (cv w' ⟨r, 0, none⟩) ∧ w'.cell? ⟨r, 1, none⟩ = some (cv w' ⟨r, 1, none⟩) ∧ w'.cell? ⟨r, 2, none⟩ = some (cv w' ⟨r, 2, none⟩) ∧ w'.frozen? ⟨r, 0, none⟩ = false ∧ w'.frozen? ⟨r, 1, none⟩ = false ∧ w'.frozen? ⟨r, 2, none⟩ = false := by
  obtain ⟨_, _, _, a, b, c, h4, _⟩ := h
  exact ⟨cv_eq h4.c0, cv_eq h4.c1, cv_eq h4.c2, h4.fz 0, h4.fz 1, h4.fz 2⟩
theorem HeldR.fin {w : World} {r : Nat} {e : TypeId} {ps : List (Nat × Value × Value × Value)} {w' : World} {q : Rat} {neg : Bool} {A1 A2 : Option Addr} {l1 l2 c1 c2 : Nat} (h : HeldR w r e ps w') (hn : decide (q.num < 0) = neg) (h1 : Num .u64 b64 w' (.slice A1 l1 c1) q.num.natAbs) (h2 : Num .u64 b64 w' (.slice A2 l2 c2) (denOf q.den)) :
    ∃ wf, ((w'.setCell ⟨r, 0, none⟩ (.bool neg)).setCell ⟨r, 1, none⟩ (.slice A1 l1 c1)).setCell ⟨r, 2, none⟩ (.slice A2 l2 c2) = wf ∧ wf.cell? ⟨r, 0, none⟩ = some (.bool neg) ∧ wf.cell? ⟨r, 1, none⟩ = some (.slice A1 l1 c1) ∧ wf.cell? ⟨r, 2, none⟩ = some (.slice A2 l2 c2) ∧
      RetRat w q (.returned (.agg #[.bool neg, .slice A1 l1 c1, .slice A2 l2 c2])) wf := by
  obtain ⟨g1, g2, _, a, b, c, h4, h5, h6, h7⟩ := h
  exact rat_end g2 g1 h4 h5 h6 h7 hn h1 h2

set_option maxHeartbeats 1000000 in
theorem neg_num (w : World) (v : Value) (q : Rat) (hx : IsRat w v q) : Calls Tryz.prog 86 #[v] w (RetRat w (-q)) := by
  obtain ⟨vx1, vx2, rfl, hxa, hxb⟩ := id hx
  obtain ⟨Ax1, cx1, rfl, _⟩ := id hxa
  obtain ⟨Ax2, cx2, rfl, _⟩ := id hxb
  have hf := neg_flag q
  have hn : (-q).num.natAbs = q.num.natAbs := by rw [Rat.neg_num, Int.natAbs_neg]
  have hd : (-q).den = q.den := rfl
  generalize decide (q.num < 0) = neg at *
  cases neg
  · simp only [Bool.not_false, Bool.true_and] at hf
    go_enter Tryz.func86, Tryz.ntmps86
    go_wp2_with fail
    obtain ⟨w1, e1, o1, b1, s1⟩ := lay3 w (.bool false) (.slice Ax1 (digs b64 q.num.natAbs).length cx1) (.slice Ax2 (digs b64 (denOf q.den)).length cx2) 29
    obtain ⟨w2, e2, o2, b2, s2⟩ := lay3 w1 (.bool false) (.slice none 0 0) (.slice none 0 0) 29
    rw [e1, e2]
    rw [s1] at o2
    have p1 := (o1.gone b2)
    have p2 := o2
    have B0 := (b1.trans (b2.mono b1.size))
    have hS : ∀ w', HeldR w (w.heap.size + 1) 29 [(w.heap.size, .bool false, .slice Ax1 (digs b64 q.num.natAbs).length cx1, .slice Ax2 (digs b64 (denOf q.den)).length cx2)] w' → HeldR w (w.heap.size + 1) 29 [(w.heap.size, .bool false, .slice Ax1 (digs b64 q.num.natAbs).length cx1, .slice Ax2 (digs b64 (denOf q.den)).length cx2)] w' ∧ w'.cell? ⟨w.heap.size, 0, none⟩ = some (.bool false) ∧ w'.cell? ⟨w.heap.size, 1, none⟩ = some (.slice Ax1 (digs b64 q.num.natAbs).length cx1) ∧ w'.cell? ⟨w.heap.size, 2, none⟩ = some (.slice Ax2 (digs b64 (denOf q.den)).length cx2) ∧ w'.cell? ⟨w.heap.size + 1, 0, none⟩ = some (cv w' ⟨w.heap.size + 1, 0, none⟩) ∧ w'.cell? ⟨w.heap.size + 1, 1, none⟩ = some (cv w' ⟨w.heap.size + 1, 1, none⟩) ∧ w'.cell? ⟨w.heap.size + 1, 2, none⟩ = some (cv w' ⟨w.heap.size + 1, 2, none⟩) ∧ w'.frozen? ⟨w.heap.size + 1, 0, none⟩ = false ∧ w'.frozen? ⟨w.heap.size + 1, 1, none⟩ = false ∧ w'.frozen? ⟨w.heap.size + 1, 2, none⟩ = false := fun w' hh => by
      obtain ⟨f0, f1, f2, f3, f4, f5⟩ := hh.cells
      have q1 := (hh.2.2.1 (w.heap.size, .bool false, .slice Ax1 (digs b64 q.num.natAbs).length cx1, .slice Ax2 (digs b64 (denOf q.den)).length cx2) (by simp)).2
      exact ⟨hh, q1.c0, q1.c1, q1.c2, f0, f1, f2, f3, f4, f5⟩
    have H0 : HeldR w (w.heap.size + 1) 29 [(w.heap.size, .bool false, .slice Ax1 (digs b64 q.num.natAbs).length cx1, .slice Ax2 (digs b64 (denOf q.den)).length cx2)] w2 := ⟨B0, by omega, by intro p hp; simp at hp; subst hp; exact ⟨by simp, p1⟩, _, _, _, p2, notInt_bool _, notInt_slice _ _ _, notInt_slice _ _ _⟩
    clear e1 e2
    have hz := H0.drew
    go_region_held3 (fun w' => HeldR w (w.heap.size + 1) 29 [(w.heap.size, .bool false, .slice Ax1 (digs b64 q.num.natAbs).length cx1, .slice Ax2 (digs b64 (denOf q.den)).length cx2)] w' ∧ w'.cell? ⟨w.heap.size, 0, none⟩ = some (.bool false) ∧ w'.cell? ⟨w.heap.size, 1, none⟩ = some (.slice Ax1 (digs b64 q.num.natAbs).length cx1) ∧ w'.cell? ⟨w.heap.size, 2, none⟩ = some (.slice Ax2 (digs b64 (denOf q.den)).length cx2) ∧ w'.cell? ⟨w.heap.size + 1, 0, none⟩ = some (cv w' ⟨w.heap.size + 1, 0, none⟩) ∧ w'.cell? ⟨w.heap.size + 1, 1, none⟩ = some (cv w' ⟨w.heap.size + 1, 1, none⟩) ∧ w'.cell? ⟨w.heap.size + 1, 2, none⟩ = some (cv w' ⟨w.heap.size + 1, 2, none⟩) ∧ w'.frozen? ⟨w.heap.size + 1, 0, none⟩ = false ∧ w'.frozen? ⟨w.heap.size + 1, 1, none⟩ = false ∧ w'.frozen? ⟨w.heap.size + 1, 2, none⟩ = false)
      (first | exact hS _ hz | exact hS _ (HeldR.sets (by assumption) _ _ _ _ _ _ _))
      (first
        | ((go_at_call 87; refine (zero_num _ _ q (hx.below (And.left (And.left (by assumption))))).mono ?_; rintro e wz ⟨rfl, hb⟩); have hz := HeldR.call (by assumption) hb))
    all_goals (
      go_wp2
      obtain ⟨wf, HW, f0, f1, f2, hfin⟩ := hz.fin (q := -q) hf (by rw [hn]; exact hxa.below hz.1) (by rw [hd]; exact hxb.below hz.1)
      (try rw [HW])
      (try simp only [Exit.inBlock, Exit.then])
      refine bodyPost_ret (by simp [results, Tryz.results86, go_sem, f0, f1, f2]; try rfl) rfl ?_
      first | exact hfin | exact hfin.drew)
  · simp only [Bool.not_true, Bool.false_and] at hf
    go_enter Tryz.func86, Tryz.ntmps86
    go_wp2_with fail
    obtain ⟨w1, e1, o1, b1, s1⟩ := lay3 w (.bool true) (.slice Ax1 (digs b64 q.num.natAbs).length cx1) (.slice Ax2 (digs b64 (denOf q.den)).length cx2) 29
    obtain ⟨w2, e2, o2, b2, s2⟩ := lay3 w1 (.bool false) (.slice none 0 0) (.slice none 0 0) 29
    rw [e1, e2]
    rw [s1] at o2
    have p1 := (o1.gone b2)
    have p2 := o2
    have B0 := (b1.trans (b2.mono b1.size))
    have hS : ∀ w', HeldR w (w.heap.size + 1) 29 [(w.heap.size, .bool true, .slice Ax1 (digs b64 q.num.natAbs).length cx1, .slice Ax2 (digs b64 (denOf q.den)).length cx2)] w' → HeldR w (w.heap.size + 1) 29 [(w.heap.size, .bool true, .slice Ax1 (digs b64 q.num.natAbs).length cx1, .slice Ax2 (digs b64 (denOf q.den)).length cx2)] w' ∧ w'.cell? ⟨w.heap.size, 0, none⟩ = some (.bool true) ∧ w'.cell? ⟨w.heap.size, 1, none⟩ = some (.slice Ax1 (digs b64 q.num.natAbs).length cx1) ∧ w'.cell? ⟨w.heap.size, 2, none⟩ = some (.slice Ax2 (digs b64 (denOf q.den)).length cx2) ∧ w'.cell? ⟨w.heap.size + 1, 0, none⟩ = some (cv w' ⟨w.heap.size + 1, 0, none⟩) ∧ w'.cell? ⟨w.heap.size + 1, 1, none⟩ = some (cv w' ⟨w.heap.size + 1, 1, none⟩) ∧ w'.cell? ⟨w.heap.size + 1, 2, none⟩ = some (cv w' ⟨w.heap.size + 1, 2, none⟩) ∧ w'.frozen? ⟨w.heap.size + 1, 0, none⟩ = false ∧ w'.frozen? ⟨w.heap.size + 1, 1, none⟩ = false ∧ w'.frozen? ⟨w.heap.size + 1, 2, none⟩ = false := fun w' hh => by
      obtain ⟨f0, f1, f2, f3, f4, f5⟩ := hh.cells
      have q1 := (hh.2.2.1 (w.heap.size, .bool true, .slice Ax1 (digs b64 q.num.natAbs).length cx1, .slice Ax2 (digs b64 (denOf q.den)).length cx2) (by simp)).2
      exact ⟨hh, q1.c0, q1.c1, q1.c2, f0, f1, f2, f3, f4, f5⟩
    have H0 : HeldR w (w.heap.size + 1) 29 [(w.heap.size, .bool true, .slice Ax1 (digs b64 q.num.natAbs).length cx1, .slice Ax2 (digs b64 (denOf q.den)).length cx2)] w2 := ⟨B0, by omega, by intro p hp; simp at hp; subst hp; exact ⟨by simp, p1⟩, _, _, _, p2, notInt_bool _, notInt_slice _ _ _, notInt_slice _ _ _⟩
    clear e1 e2
    have hz := H0
    obtain ⟨_, k0, k1, k2, k3, k4, k5, k6, k7, k8⟩ := hS _ H0
    go_region
    all_goals (
      go_wp2
      obtain ⟨wf, HW, f0, f1, f2, hfin⟩ := hz.fin (q := -q) hf (by rw [hn]; exact hxa.below hz.1) (by rw [hd]; exact hxb.below hz.1)
      (try rw [HW])
      (try simp only [Exit.inBlock, Exit.then])
      refine bodyPost_ret (by simp [results, Tryz.results86, go_sem, f0, f1, f2]; try rfl) rfl ?_
      first | exact hfin | exact hfin.drew)
end Wx

namespace Wx
open Go Go.RowKit Go.Proofs

theorem sg_mul (a b : Bool) (m n : Nat) : sg (a != b) (m * n) = sg a m * sg b n := by
  cases a <;> cases b <;> simp [sg, Int.mul_neg, Int.neg_mul]
theorem mul_red (x y : Rat) : x * y = redR (decide (x.num < 0) != decide (y.num < 0)) (x.num.natAbs * y.num.natAbs) (x.den * y.den) := by
  unfold redR
  rw [Rat.mul_def', sg_mul, sg_mk, sg_mk]
theorem sg_den (z : Int) (d : Nat) : z * d = sg (decide (z < 0)) (z.natAbs * d) := by
  have h := sg_mul (decide (z < 0)) false z.natAbs d
  rw [show (decide (z < 0) != false) = decide (z < 0) by cases decide (z < 0) <;> rfl, sg_mk] at h
  rw [h]; rfl
theorem add_red (x y : Rat) : x + y = mkRat (sg (decide (x.num < 0)) (x.num.natAbs * y.den) + sg (decide (y.num < 0)) (y.num.natAbs * x.den)) (x.den * y.den) := by
  rw [Rat.add_def', sg_den, sg_den]
theorem sg_add (a : Bool) (m n : Nat) : sg a m + sg a n = sg a (m + n) := by cases a <;> simp [sg]; omega
theorem sg_sub1 (a : Bool) {m n : Nat} (h : n ≤ m) : sg a m + sg (!a) n = sg a (m - n) := by cases a <;> simp [sg] <;> omega
theorem sg_sub2 (a : Bool) {m n : Nat} (h : m ≤ n) : sg a m + sg (!a) n = sg (!a) (n - m) := by cases a <;> simp [sg] <;> omega
theorem bne_of_ne {a b : Bool} (h : ¬ a = b) : b = !a := by cases a <;> cases b <;> simp_all
theorem add_same (x y : Rat) (h : decide (x.num < 0) = decide (y.num < 0)) : x + y = redR (decide (x.num < 0)) (x.num.natAbs * y.den + y.num.natAbs * x.den) (x.den * y.den) := by
  rw [add_red, ← h, sg_add]; rfl
theorem add_ge (x y : Rat) (h : ¬ decide (x.num < 0) = decide (y.num < 0)) (hge : y.num.natAbs * x.den ≤ x.num.natAbs * y.den) : x + y = redR (decide (x.num < 0)) (x.num.natAbs * y.den - y.num.natAbs * x.den) (x.den * y.den) := by
  rw [add_red, bne_of_ne h, sg_sub1 _ hge]; rfl
theorem add_lt (x y : Rat) (h : ¬ decide (x.num < 0) = decide (y.num < 0)) (hge : x.num.natAbs * y.den ≤ y.num.natAbs * x.den) : x + y = redR (decide (y.num < 0)) (y.num.natAbs * x.den - x.num.natAbs * y.den) (x.den * y.den) := by
  rw [add_red, bne_of_ne h, sg_sub2 _ hge]; rfl
theorem BdR.neg {j : Nat} {x : Rat} (h : BdR j x) : BdR j (-x) := ⟨by rw [Rat.neg_num, Int.natAbs_neg]; exact h.1, h.2⟩
end Wx
