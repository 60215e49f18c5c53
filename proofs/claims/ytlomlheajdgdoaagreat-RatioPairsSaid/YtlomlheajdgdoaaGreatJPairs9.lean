import Derived.Test.YtlomlheajdgdoaaGreatProg
import Derived.Handy
import Derived.Deep.RegionHeld3
import Derived.Test.YtlomlheajdgdoaaGreatJPairs0
import Derived.Test.YtlomlheajdgdoaaGreatJPairs1
import Derived.Test.YtlomlheajdgdoaaGreatJPairs7
import Derived.Test.YtlomlheajdgdoaaGreatCPairsRat1
namespace Wx
open Go Go.RowKit Go.Proofs

theorem Obj3.gone {w w' : World} {g : Nat} {x y z : Value} {e : TypeId} (h : Obj3 w g x y z e) (hb : Below w.heap.size w w') : Obj3 w' g x y z e := by
  refine h.below hb ?_
  unfold Obj3 at h
  rcases Nat.lt_or_ge g w.heap.size with h1 | h1
  · exact h1
  · rw [Array.getElem?_eq_none h1] at h; cases h
theorem lay3 (w : World) (x y z : Value) (e : TypeId) : ∃ w', w.alloc (.cells #[x, y, z] e) = w' ∧ Obj3 w' w.heap.size x y z e ∧ Below w.heap.size w w' ∧ w'.heap.size = w.heap.size + 1 :=
  ⟨_, rfl, Obj3.new _ _ _ _ _, Below.alloc (Below.refl _ _) (Nat.le_refl _) _, by simp⟩

theorem num_zero_iff (q : Rat) : q.num.natAbs = 0 ↔ q = 0 := by
  rw [Int.natAbs_eq_zero]
  exact Rat.num_eq_zero

theorem zero_num (w : World) (v : Value) (q : Rat) (h : IsRat w v q) : Calls Tryz.prog 87 #[v] w (RetIs w (.bool (decide (q = 0)))) := by
  obtain ⟨vn, vd, rfl, h1, h2⟩ := h
  obtain ⟨A1, c1, rfl, _⟩ := id h1
  obtain ⟨A2, c2, rfl, _⟩ := id h2
  have hz : (((digs b64 q.num.natAbs).length : Int) == 0) = decide (q = 0) := by
    by_cases hq : q = 0
    · rw [hq, decide_eq_true rfl]; rfl
    · rw [decide_eq_false hq, beq_eq_false_iff_ne]
      have := (digs_length_pos (n := q.num.natAbs) two_le_b64).2 (by have := mt (num_zero_iff q).1 hq; omega)
      omega
  generalize (digs b64 q.num.natAbs).length = L1 at *
  go_enter Tryz.func87, Tryz.ntmps87
  go_wp2
  go_ret
  exact ⟨rfl, Below.alloc (Below.refl _ _) (Nat.le_refl _) _⟩

theorem neg_flag (q : Rat) : decide ((-q).num < 0) = (!decide (q.num < 0) && !decide (q = 0)) := by
  rw [Rat.neg_num]
  have := Rat.num_eq_zero (q := q)
  by_cases h : q = 0
  · simp [h]
  · have h1 := mt this.1 h
    rw [decide_eq_false h]
    by_cases h2 : q.num < 0
    · simp [h2]; omega
    · simp [h2]; omega

theorem RetRat.drew {w : World} {q : Rat} {e : Ending} {w' : World} (h : RetRat w q e w') : RetRat w q e w'.drew := by
  obtain ⟨v, h1, ⟨vn, vd, h2, h3, h4⟩, h5⟩ := h
  exact ⟨v, h1, ⟨vn, vd, h2, h3, h4⟩, h5.drew⟩
@[irreducible] def cv (w : World) (a : Addr) : Value := (w.cell? a).getD (.bool false)
theorem cv_eq {w : World} {a : Addr} {v : Value} (h : w.cell? a = some v) : w.cell? a = some (cv w a) := by unfold cv; rw [h]; rfl
def NotInt (v : Value) : Prop := ∀ k n, v ≠ .int k n
theorem notInt_bool (b : Bool) : NotInt (.bool b) := by intro k n h; cases h
theorem notInt_slice (A : Option Addr) (l c : Nat) : NotInt (.slice A l c) := by intro k n h; cases h
def HeldR (w : World) (r : Nat) (e : TypeId) (ps : List (Nat × Value × Value × Value)) (w' : World) : Prop :=
  Below w.heap.size w w' ∧ w.heap.size ≤ r ∧ (∀ p ∈ ps, p.1 ≠ r ∧ Obj3 w' p.1 p.2.1 p.2.2.1 p.2.2.2 e) ∧ ∃ a b c, Obj3 w' r a b c e ∧ NotInt a ∧ NotInt b ∧ NotInt c
theorem HeldR.call {w : World} {r : Nat} {e : TypeId} {ps : List (Nat × Value × Value × Value)} {w' w'' : World} {p : Prop} (h : HeldR w r e ps w' ∧ p) (hb : Below w'.heap.size w' w'') : HeldR w r e ps w'' := by
  obtain ⟨⟨h1, h2, h3, a, b, c, h4, h5⟩, _⟩ := h
  exact ⟨h1.trans (hb.mono h1.size), h2, fun p hp => ⟨(h3 p hp).1, (h3 p hp).2.gone hb⟩, a, b, c, h4.gone hb, h5⟩
theorem HeldR.drew {w : World} {r : Nat} {e : TypeId} {ps : List (Nat × Value × Value × Value)} {w' : World} (h : HeldR w r e ps w') : HeldR w r e ps w'.drew := by
  obtain ⟨h1, h2, h3, h4⟩ := h
  exact ⟨h1.drew, h2, h3, h4⟩
theorem Obj3.far {w : World} {g r : Nat} {x y z : Value} {e : TypeId} (h : Obj3 w g x y z e) (hr : g ≠ r) (i : Nat) (u : Value) : Obj3 (w.setCell ⟨r, i, none⟩ u) g x y z e := (Below.heap_setCell w ⟨r, i, none⟩ u g hr).trans h
theorem HeldR.set0 {w : World} {r : Nat} {e : TypeId} {ps : List (Nat × Value × Value × Value)} {w' : World} (h : HeldR w r e ps w') {u : Value} (hu : NotInt u) : HeldR w r e ps (w'.setCell ⟨r, 0, none⟩ u) := by
  obtain ⟨h1, h2, h3, a, b, c, h4, h5, h6, h7⟩ := h
  exact ⟨h1.setCell h2 _, h2, fun p hp => ⟨(h3 p hp).1, (h3 p hp).2.far (h3 p hp).1 _ _⟩, u, b, c, h4.set0 u, hu, h6, h7⟩
theorem HeldR.set1 {w : World} {r : Nat} {e : TypeId} {ps : List (Nat × Value × Value × Value)} {w' : World} (h : HeldR w r e ps w') {u : Value} (hu : NotInt u) : HeldR w r e ps (w'.setCell ⟨r, 1, none⟩ u) := by
  obtain ⟨h1, h2, h3, a, b, c, h4, h5, h6, h7⟩ := h
  exact ⟨h1.setCell h2 _, h2, fun p hp => ⟨(h3 p hp).1, (h3 p hp).2.far (h3 p hp).1 _ _⟩, a, u, c, h4.set1 u, h5, hu, h7⟩
theorem HeldR.set2 {w : World} {r : Nat} {e : TypeId} {ps : List (Nat × Value × Value × Value)} {w' : World} (h : HeldR w r e ps w') {u : Value} (hu : NotInt u) : HeldR w r e ps (w'.setCell ⟨r, 2, none⟩ u) := by
  obtain ⟨h1, h2, h3, a, b, c, h4, h5, h6, h7⟩ := h
  exact ⟨h1.setCell h2 _, h2, fun p hp => ⟨(h3 p hp).1, (h3 p hp).2.far (h3 p hp).1 _ _⟩, a, b, u, h4.set2 u, h5, h6, hu⟩
theorem HeldR.sets {w : World} {r : Nat} {e : TypeId} {ps : List (Nat × Value × Value × Value)} {w' : World} {p : Prop} (h : HeldR w r e ps w' ∧ p) (b : Bool) (A1 A2 : Option Addr) (l1 l2 c1 c2 : Nat) :
    HeldR w r e ps (((w'.setCell ⟨r, 0, none⟩ (.bool b)).setCell ⟨r, 1, none⟩ (.slice A1 l1 c1)).setCell ⟨r, 2, none⟩ (.slice A2 l2 c2)) :=
  ((h.1.set0 (notInt_bool _)).set1 (notInt_slice _ _ _)).set2 (notInt_slice _ _ _)
theorem HeldR.cells {w : World} {r : Nat} {e : TypeId} {ps : List (Nat × Value × Value × Value)} {w' : World} (h : HeldR w r e ps w') :
    w'.cell? ⟨r, 0, none⟩ = some (cv w' ⟨r, 0, none⟩) ∧ w'.cell? ⟨r, 1, none⟩ = some (cv w' ⟨r, 1, none⟩) ∧ w'.cell? ⟨r, 2, none⟩ = some (cv w' ⟨r, 2, none⟩) ∧ w'.frozen? ⟨r, 0, none⟩ = false ∧ w'.frozen? ⟨r, 1, none⟩ = false ∧ w'.frozen? ⟨r, 2, none⟩ = false := by
  obtain ⟨_, _, _, a, b, c, h4, _⟩ := h
  exact ⟨cv_eq h4.c0, cv_eq h4.c1, cv_eq h4.c2, h4.fz 0, h4.fz 1, h4.fz 2⟩
theorem HeldR.fin {w : World} {r : Nat} {e : TypeId} {ps : List (Nat × Value × Value × Value)} {w' : World} {q : Rat} {neg : Bool} {A1 A2 : Option Addr} {l1 l2 c1 c2 : Nat} (h : HeldR w r e ps w') (hn : decide (q.num < 0) = neg) (h1 : Num .u64 b64 w' (.slice A1 l1 c1) q.num.natAbs) (h2 : Num .u64 b64 w' (.slice A2 l2 c2) (denOf q.den)) :
    ∃ wf, ((w'.setCell ⟨r, 0, none⟩ (.bool neg)).setCell ⟨r, 1, none⟩ (.slice A1 l1 c1)).setCell ⟨r, 2, none⟩ (.slice A2 l2 c2) = wf ∧ wf.cell? ⟨r, 0, none⟩ = some (.bool neg) ∧ wf.cell? ⟨r, 1, none⟩ = some (.slice A1 l1 c1) ∧ wf.cell? ⟨r, 2, none⟩ = some (.slice A2 l2 c2) ∧
      RetRat w q (.returned (.agg #[.bool neg, .slice A1 l1 c1, .slice A2 l2 c2])) wf := by
  obtain ⟨g1, g2, _, a, b, c, h4, h5, h6, h7⟩ := h
  exact rat_end g2 g1 h4 h5 h6 h7 hn h1 h2

set_option maxHeartbeats 1000000 in
theorem neg_num (w : World) (v : Value) (q : Rat) (hx : IsRat w v q) : Calls Tryz.prog 86 #[v] w (RetRat w (-q)) := by
  obtain ⟨vx1, vx2, rfl, hxa, hxb⟩ := id hx
  obtain ⟨Ax1, cx1, rfl, _⟩ := id hxa
  obtain ⟨Ax2, cx2, rfl, _⟩ := id hxb
  have hf := neg_flag q
  have hn : (-q).num.natAbs = q.num.natAbs := by rw [Rat.neg_num, Int.natAbs_neg]
  have hd : (-q).den = q.den := rfl
  generalize decide (q.num < 0) = neg at *
  cases neg
  · simp only [Bool.not_false, Bool.true_and] at hf
    go_enter Tryz.func86, Tryz.ntmps86
    go_wp2_with fail
    obtain ⟨w1, e1, o1, b1, s1⟩ := lay3 w (.bool false) (.slice Ax1 (digs b64 q.num.natAbs).length cx1) (.slice Ax2 (digs b64 (denOf q.den)).length cx2) 29
    obtain ⟨w2, e2, o2, b2, s2⟩ := lay3 w1 (.bool false) (.slice none 0 0) (.slice none 0 0) 29
    rw [e1, e2]
    rw [s1] at o2
    have p1 := (o1.gone b2)
    have p2 := o2
    have B0 := (b1.trans (b2.mono b1.size))
    have hS : ∀ w', HeldR w (w.heap.size + 1) 29 [(w.heap.size, .bool false, .slice Ax1 (digs b64 q.num.natAbs).length cx1, .slice Ax2 (digs b64 (denOf q.den)).length cx2)] w' → HeldR w (w.heap.size + 1) 29 [(w.heap.size, .bool false, .slice Ax1 (digs b64 q.num.natAbs).length cx1, .slice Ax2 (digs b64 (denOf q.den)).length cx2)] w' ∧ w'.cell? ⟨w.heap.size, 0, none⟩ = some (.bool false) ∧ w'.cell? ⟨w.heap.size, 1, none⟩ = some (.slice Ax1 (digs b64 q.num.natAbs).length cx1) ∧ w'.cell? ⟨w.heap.size, 2, none⟩ = some (.slice Ax2 (digs b64 (denOf q.den)).length cx2) ∧ w'.cell? ⟨w.heap.size + 1, 0, none⟩ = some (cv w' ⟨w.heap.size + 1, 0, none⟩) ∧ w'.cell? ⟨w.heap.size + 1, 1, none⟩ = some (cv w' ⟨w.heap.size + 1, 1, none⟩) ∧ w'.cell? ⟨w.heap.size + 1, 2, none⟩ = some (cv w' ⟨w.heap.size + 1, 2, none⟩) ∧ w'.frozen? ⟨w.heap.size + 1, 0, none⟩ = false ∧ w'.frozen? ⟨w.heap.size + 1, 1, none⟩ = false ∧ w'.frozen? ⟨w.heap.size + 1, 2, none⟩ = false := fun w' hh => by
      obtain ⟨f0, f1, f2, f3, f4, f5⟩ := hh.cells
      have q1 := (hh.2.2.1 (w.heap.size, .bool false, .slice Ax1 (digs b64 q.num.natAbs).length cx1, .slice Ax2 (digs b64 (denOf q.den)).length cx2) (by simp)).2
      exact ⟨hh, q1.c0, q1.c1, q1.c2, f0, f1, f2, f3, f4, f5⟩
    have H0 : HeldR w (w.heap.size + 1) 29 [(w.heap.size, .bool false, .slice Ax1 (digs b64 q.num.natAbs).length cx1, .slice Ax2 (digs b64 (denOf q.den)).length cx2)] w2 := ⟨B0, by omega, by intro p hp; simp at hp; subst hp; exact ⟨by simp, p1⟩, _, _, _, p2, notInt_bool _, notInt_slice _ _ _, notInt_slice _ _ _⟩
    clear e1 e2
    have hz := H0.drew
    go_region_held3 (fun w' => HeldR w (w.heap.size + 1) 29 [(w.heap.size, .bool false, .slice Ax1 (digs b64 q.num.natAbs).length cx1, .slice Ax2 (digs b64 (denOf q.den)).length cx2)] w' ∧ w'.cell? ⟨w.heap.size, 0, none⟩ = some (.bool false) ∧ w'.cell? ⟨w.heap.size, 1, none⟩ = some (.slice Ax1 (digs b64 q.num.natAbs).length cx1) ∧ w'.cell? ⟨w.heap.size, 2, none⟩ = some (.slice Ax2 (digs b64 (denOf q.den)).length cx2) ∧ w'.cell? ⟨w.heap.size + 1, 0, none⟩ = some (cv w' ⟨w.heap.size + 1, 0, none⟩) ∧ w'.cell? ⟨w.heap.size + 1, 1, none⟩ = some (cv w' ⟨w.heap.size + 1, 1, none⟩) ∧ w'.cell? ⟨w.heap.size + 1, 2, none⟩ = some (cv w' ⟨w.heap.size + 1, 2, none⟩) ∧ w'.frozen? ⟨w.heap.size + 1, 0, none⟩ = false ∧ w'.frozen? ⟨w.heap.size + 1, 1, none⟩ = false ∧ w'.frozen? ⟨w.heap.size + 1, 2, none⟩ = false)
      (first | exact hS _ hz | exact hS _ (HeldR.sets (by assumption) _ _ _ _ _ _ _))
      (first
        | ((go_at_call 87; refine (zero_num _ _ q (hx.below (And.left (And.left (by assumption))))).mono ?_; rintro e wz ⟨rfl, hb⟩); have hz := HeldR.call (by assumption) hb))
    all_goals (
      go_wp2
      obtain ⟨wf, HW, f0, f1, f2, hfin⟩ := hz.fin (q := -q) hf (by rw [hn]; exact hxa.below hz.1) (by rw [hd]; exact hxb.below hz.1)
      (try rw [HW])
      (try simp only [Exit.inBlock, Exit.then])
      refine bodyPost_ret (by simp [results, Tryz.results86, go_sem, f0, f1, f2]; try rfl) rfl ?_
      first | exact hfin | exact hfin.drew)
  · simp only [Bool.not_true, Bool.false_and] at hf
    go_enter Tryz.func86, Tryz.ntmps86
    go_wp2_with fail
    obtain ⟨w1, e1, o1, b1, s1⟩ := lay3 w (.bool true) (.slice Ax1 (digs b64 q.num.natAbs).length cx1) (.slice Ax2 (digs b64 (denOf q.den)).length cx2) 29
    obtain ⟨w2, e2, o2, b2, s2⟩ := lay3 w1 (.bool false) (.slice none 0 0) (.slice none 0 0) 29
    rw [e1, e2]
    rw [s1] at o2
    have p1 := (o1.gone b2)
    have p2 := o2
    have B0 := (b1.trans (b2.mono b1.size))
    have hS : ∀ w', HeldR w (w.heap.size + 1) 29 [(w.heap.size, .bool true, .slice Ax1 (digs b64 q.num.natAbs).length cx1, .slice Ax2 (digs b64 (denOf q.den)).length cx2)] w' → HeldR w (w.heap.size + 1) 29 [(w.heap.size, .bool true, .slice Ax1 (digs b64 q.num.natAbs).length cx1, .slice Ax2 (digs b64 (denOf q.den)).length cx2)] w' ∧ w'.cell? ⟨w.heap.size, 0, none⟩ = some (.bool true) ∧ w'.cell? ⟨w.heap.size, 1, none⟩ = some (.slice Ax1 (digs b64 q.num.natAbs).length cx1) ∧ w'.cell? ⟨w.heap.size, 2, none⟩ = some (.slice Ax2 (digs b64 (denOf q.den)).length cx2) ∧ w'.cell? ⟨w.heap.size + 1, 0, none⟩ = some (cv w' ⟨w.heap.size + 1, 0, none⟩) ∧ w'.cell? ⟨w.heap.size + 1, 1, none⟩ = some (cv w' ⟨w.heap.size + 1, 1, none⟩) ∧ w'.cell? ⟨w.heap.size + 1, 2, none⟩ = some (cv w' ⟨w.heap.size + 1, 2, none⟩) ∧ w'.frozen? ⟨w.heap.size + 1, 0, none⟩ = false ∧ w'.frozen? ⟨w.heap.size + 1, 1, none⟩ = false ∧ w'.frozen? ⟨w.heap.size + 1, 2, none⟩ = false := fun w' hh => by
      obtain ⟨f0, f1, f2, f3, f4, f5⟩ := hh.cells
      have q1 := (hh.2.2.1 (w.heap.size, .bool true, .slice Ax1 (digs b64 q.num.natAbs).length cx1, .slice Ax2 (digs b64 (denOf q.den)).length cx2) (by simp)).2
      exact ⟨hh, q1.c0, q1.c1, q1.c2, f0, f1, f2, f3, f4, f5⟩
    have H0 : HeldR w (w.heap.size + 1) 29 [(w.heap.size, .bool true, .slice Ax1 (digs b64 q.num.natAbs).length cx1, .slice Ax2 (digs b64 (denOf q.den)).length cx2)] w2 := ⟨B0, by omega, by intro p hp; simp at hp; subst hp; exact ⟨by simp, p1⟩, _, _, _, p2, notInt_bool _, notInt_slice _ _ _, notInt_slice _ _ _⟩
    clear e1 e2
    have hz := H0
    obtain ⟨_, k0, k1, k2, k3, k4, k5, k6, k7, k8⟩ := hS _ H0
    go_region
    all_goals (
      go_wp2
      obtain ⟨wf, HW, f0, f1, f2, hfin⟩ := hz.fin (q := -q) hf (by rw [hn]; exact hxa.below hz.1) (by rw [hd]; exact hxb.below hz.1)
      (try rw [HW])
      (try simp only [Exit.inBlock, Exit.then])
      refine bodyPost_ret (by simp [results, Tryz.results86, go_sem, f0, f1, f2]; try rfl) rfl ?_
      first | exact hfin | exact hfin.drew)
end Wx

namespace Wx
open Go Go.RowKit Go.Proofs

theorem sg_mul (a b : Bool) (m n : Nat) : sg (a != b) (m * n) = sg a m * sg b n := by
  cases a <;> cases b <;> simp [sg, Int.mul_neg, Int.neg_mul]
theorem mul_red (x y : Rat) : x * y = redR (decide (x.num < 0) != decide (y.num < 0)) (x.num.natAbs * y.num.natAbs) (x.den * y.den) := by
  unfold redR
  rw [Rat.mul_def', sg_mul, sg_mk, sg_mk]
theorem inv_red (y : Rat) (hy : y.num ≠ 0) : y⁻¹ = redR (decide (y.num < 0)) y.den y.num.natAbs := by
  rw [Rat.inv_def]
  generalize y.num = z at *
  generalize y.den = d
  unfold redR
  match z, hy with
  | Int.ofNat k, hy =>
    have : ¬ ((Int.ofNat k) < 0) := by have := Int.natCast_nonneg k; exact Int.not_lt.2 this
    rw [decide_eq_false this]
    exact Rat.divInt_ofNat _ _
  | Int.negSucc k, hy =>
    have : (Int.negSucc k) < 0 := Int.negSucc_lt_zero k
    rw [decide_eq_true this]
    show Rat.normalize (-(d : Int)) (k + 1) (by omega) = mkRat (-(d : Int)) (k + 1)
    rw [Rat.mkRat_def, dif_neg (by omega)]
theorem div_red (x y : Rat) (hy : y.num ≠ 0) : x / y = redR (decide (x.num < 0) != decide (y.num < 0)) (x.num.natAbs * y.den) (x.den * y.num.natAbs) := by
  rw [Rat.div_def, inv_red y hy]
  conv => lhs; rw [← Rat.mkRat_self x]
  unfold redR
  rw [Rat.mkRat_mul_mkRat, sg_mul, sg_mk]
theorem sg_den (z : Int) (d : Nat) : z * d = sg (decide (z < 0)) (z.natAbs * d) := by
  have h := sg_mul (decide (z < 0)) false z.natAbs d
  rw [show (decide (z < 0) != false) = decide (z < 0) by cases decide (z < 0) <;> rfl, sg_mk] at h
  rw [h]; rfl
theorem add_red (x y : Rat) : x + y = mkRat (sg (decide (x.num < 0)) (x.num.natAbs * y.den) + sg (decide (y.num < 0)) (y.num.natAbs * x.den)) (x.den * y.den) := by
  rw [Rat.add_def', sg_den, sg_den]
theorem sg_add (a : Bool) (m n : Nat) : sg a m + sg a n = sg a (m + n) := by cases a <;> simp [sg]; omega
theorem sg_sub1 (a : Bool) {m n : Nat} (h : n ≤ m) : sg a m + sg (!a) n = sg a (m - n) := by cases a <;> simp [sg] <;> omega
theorem sg_sub2 (a : Bool) {m n : Nat} (h : m ≤ n) : sg a m + sg (!a) n = sg (!a) (n - m) := by cases a <;> simp [sg] <;> omega
theorem bne_of_ne {a b : Bool} (h : ¬ a = b) : b = !a := by cases a <;> cases b <;> simp_all
theorem add_same (x y : Rat) (h : decide (x.num < 0) = decide (y.num < 0)) : x + y = redR (decide (x.num < 0)) (x.num.natAbs * y.den + y.num.natAbs * x.den) (x.den * y.den) := by
  rw [add_red, ← h, sg_add]; rfl
theorem add_ge (x y : Rat) (h : ¬ decide (x.num < 0) = decide (y.num < 0)) (hge : y.num.natAbs * x.den ≤ x.num.natAbs * y.den) : x + y = redR (decide (x.num < 0)) (x.num.natAbs * y.den - y.num.natAbs * x.den) (x.den * y.den) := by
  rw [add_red, bne_of_ne h, sg_sub1 _ hge]; rfl
theorem add_lt (x y : Rat) (h : ¬ decide (x.num < 0) = decide (y.num < 0)) (hge : x.num.natAbs * y.den ≤ y.num.natAbs * x.den) : x + y = redR (decide (y.num < 0)) (y.num.natAbs * x.den - x.num.natAbs * y.den) (x.den * y.den) := by
  rw [add_red, bne_of_ne h, sg_sub2 _ hge]; rfl
theorem BdR.mul {j k : Nat} {x y : Rat} (h : BdR j x) (g : BdR k y) : BdR (j + k) (x * y) := by
  rw [mul_red]
  exact redR_bd (Nat.mul_pos x.den_pos y.den_pos) (h.1.mul g.1) (h.2.mul g.2)
theorem BdR.div {j k : Nat} {x y : Rat} (h : BdR j x) (g : BdR k y) (hy : y.num ≠ 0) : BdR (j + k) (x / y) := by
  rw [div_red _ _ hy]
  exact redR_bd (Nat.mul_pos x.den_pos (by omega)) (h.1.mul g.2) (h.2.mul g.1)
theorem BdR.neg {j : Nat} {x : Rat} (h : BdR j x) : BdR j (-x) := ⟨by rw [Rat.neg_num, Int.natAbs_neg]; exact h.1, h.2⟩
theorem BdR.add {j k : Nat} {x y : Rat} (h : BdR j x) (g : BdR k y) : BdR (j + k + j + k + 1) (x + y) := by
  have a := h.1.mul g.2
  have b := g.1.mul h.2
  have d := h.2.mul g.2
  have hd := Nat.mul_pos x.den_pos y.den_pos
  have ab : Bd (j + k + j + k + 1) (x.num.natAbs * y.den + y.num.natAbs * x.den) := (a.add b).mono (by omega)
  have d' : Bd (j + k + j + k + 1) (x.den * y.den) := d.mono (by omega)
  by_cases hs : decide (x.num < 0) = decide (y.num < 0)
  · rw [add_same x y hs]; exact redR_bd hd ab d'
  · by_cases hge : y.num.natAbs * x.den ≤ x.num.natAbs * y.den
    · rw [add_ge x y hs hge]; exact redR_bd hd (ab.le (by omega)) d'
    · rw [add_lt x y hs (by omega)]; exact redR_bd hd (ab.le (by omega)) d'
end Wx

namespace Wx
open Go Go.RowKit Go.Proofs

theorem add64_at {x y c : Operand} {ops : Array Oper} {Q : Exit → Act → World → Prop} {o : Oper} {rest : List Oper} {a : Act} {w : World} {X Y C : Int}
    (hx : a.eval x = .int .u64 X) (hy : a.eval y = .int .u64 Y) (hc : a.eval c = .int .u64 C) (x0 : 0 ≤ X) (y0 : 0 ≤ Y) (c0 : 0 ≤ C) (c1 : C ≤ 1)
    (hK : wpList Tryz.prog ops Q rest (a.put o.dst (.tuple #[.int .u64 (addLo X Y C), .int .u64 (addHi X Y C)])) w) : Ext3 Tryz.prog 105 x y c ops Q o rest a w :=
  add64_ext Tryz.func105 (by kernel_rfl) (by kernel_rfl) (by kernel_rfl) (by kernel_rfl) hx hy hc x0 y0 c0 c1 hK

theorem addLo_nat (x y c : Nat) : addLo (x : Int) y c = (((x + y + c) % b64 : Nat) : Int) := by unfold addLo b64; omega
theorem addHi_nat (x y c : Nat) : addHi (x : Int) y c = (((x + y + c) / b64 : Nat) : Int) := by unfold addHi b64; omega
theorem addLo_nat0 (x c : Nat) : addLo (x : Int) 0 c = (((x + 0 + c) % b64 : Nat) : Int) := addLo_nat x 0 c
theorem addHi_nat0 (x c : Nat) : addHi (x : Int) 0 c = (((x + 0 + c) / b64 : Nat) : Int) := addHi_nat x 0 c
theorem carry_le {x y c : Nat} (hx : x < b64) (hy : y < b64) (hc : c ≤ 1) : (x + y + c) / b64 ≤ 1 := by unfold b64 at *; omega

theorem plus_round {x y o : List Nat} {i cr vx vy : Nat} {g : Nat} {wr w0 : World} (hol : o.length = i) (hlt : i < x.length) (wx : Wf b64 x) (wy : Wf b64 y) (hcr : cr ≤ 1) (hwo : Wf b64 o)
    (hx : x[i]? = some vx) (hy : y.getD i 0 = vy) (hr : Row wr .u64 44 g (o ++ List.replicate (x.length + 1 - i) 0)) (hbl : Below w0.heap.size w0 wr) (hg : w0.heap.size ≤ g)
    (hval : val b64 o + b64 ^ i * cr = val b64 (x.take i) + val b64 (y.take i)) :
    ∃ (cr' : Nat) (o' : List Nat), ((vx + vy + cr) / b64 = cr') ∧ cr' ≤ 1 ∧ o'.length = i + 1 ∧ Wf b64 o' ∧
      Row (wr.setCell ⟨g, i, none⟩ (.int .u64 (((vx + vy + cr) % b64 : Nat) : Int))) .u64 44 g (o' ++ List.replicate (x.length + 1 - (i + 1)) 0) ∧
      Below w0.heap.size w0 (wr.setCell ⟨g, i, none⟩ (.int .u64 (((vx + vy + cr) % b64 : Nat) : Int))) ∧ val b64 o' + b64 ^ (i + 1) * cr' = val b64 (x.take (i + 1)) + val b64 (y.take (i + 1)) := by
  have hvx : vx < b64 := wx _ (List.mem_of_getElem? hx)
  have hvy : vy < b64 := by
    rw [← hy, List.getD_eq_getElem?_getD]
    cases h : y[i]? with
    | none => simp [b64]
    | some z => exact wy _ (List.mem_of_getElem? h)
  refine ⟨_, o ++ [(vx + vy + cr) % b64], rfl, carry_le hvx hvy hcr, by simp [hol], hwo.append (Wf.cons (Nat.mod_lt _ (by unfold b64; omega)) (Wf.nil _)), ?_, hbl.setCell hg _, ?_⟩
  · have h := hr.set i ((vx + vy + cr) % b64)
    rw [show x.length + 1 - i = (x.length + 1 - (i + 1)) + 1 by omega, List.replicate_succ, set_mid hol] at h
    rw [List.append_assoc]
    exact h
  · exact sum_step hol hval (val_take_get hx) (by rw [get_or_zero, hy]) (by have := Nat.mod_add_div (vx + vy + cr) b64; omega)

theorem plus_top {x y o : List Nat} {cr : Nat} (hx : Top x) (wx : Wf b64 x) (wo : Wf b64 o) (hol : o.length = x.length) (hxl : 2 ≤ b64) (hval : val b64 o + b64 ^ o.length * cr = val b64 x + val b64 y) : cr = 0 → Top o := by
  rintro rfl
  refine top_of_pow wo ?_
  by_cases h : o = []
  · exact .inl h
  · refine .inr ?_
    have hd := digs_val hxl wx hx
    have hpos : 0 < val b64 x := by
      rcases Nat.eq_zero_or_pos (val b64 x) with h0 | h0
      · rw [h0, digs_zero] at hd
        rw [← hd] at hol
        exact absurd (List.eq_nil_of_length_eq_zero hol) h
      · exact h0
    have := pow_digs_le hxl hpos
    rw [hd] at this
    rw [hol]
    simp at hval
    omega

set_option maxHeartbeats 400000 in
theorem plus_num (w : World) (v1 v2 : Value) (m n : Nat) (h1 : Num .u64 b64 w v1 m) (h2 : Num .u64 b64 w v2 n) {j k : Nat} (hj : Bd j m) (hk : Bd k n) (hj1 : j ≤ 1000000000) (hk1 : k ≤ 1000000000) :
    Calls Tryz.prog 120 #[v1, v2] w (RetNum .u64 b64 w (m + n)) := by
  obtain ⟨A, c, rfl, ha⟩ := h1
  obtain ⟨B, d, rfl, hb⟩ := h2
  have hla := len64 hj
  have hlb := len64 hk
  have hv : val b64 (digs b64 m) + val b64 (digs b64 n) = m + n := by rw [val_digs two_le_b64, val_digs two_le_b64]
  have wa := digs_wf two_le_b64 m
  have wb := digs_wf two_le_b64 n
  have ta := digs_top two_le_b64 m
  have tb := digs_top two_le_b64 n
  clear hj hk
  generalize digs b64 m = a at *
  generalize digs b64 n = b at *
  generalize m + n = s at *
  go_enter Tryz.func120, Tryz.ntmps120
  go_upto_if 14 with fail
  go_cut [0, 1] (fun v0 v1 w' => w' = w ∧ ∃ X cx x Y cy y, v0 = .slice X x.length cx ∧ v1 = .slice Y y.length cy ∧ Rd w .u64 X cx x ∧ Rd w .u64 Y cy y ∧ Wf b64 x ∧ Wf b64 y ∧ Top x ∧ y.length ≤ x.length ∧ x.length ≤ 1000000000 ∧ val b64 x + val b64 y = s)
  case first =>
    by_cases h : a.length < b.length
    · go_wp2
      go_meet
      case rel => exact ⟨rfl, B, d, b, A, c, a, rfl, rfl, hb, ha, wb, wa, tb, by omega, by omega, by omega⟩
    · go_wp2
      go_meet
      case rel => exact ⟨rfl, A, c, a, B, d, b, rfl, rfl, ha, hb, wa, wb, ta, by omega, by omega, hv⟩
  case rest =>
    obtain ⟨rfl, X, cx, x, Y, cy, y, rfl, rfl, hx, hy, wx, wy, tx, hyx, hx1, hs⟩ := hcut
    clear ha hb wa wb ta tb hla hlb hv
    have HS := Lib.hid hs
    clear hs
    have hlx := hx.len
    have hly := hy.len
    go_wp2_with (at_make; refine wpList_mk _ rfl _ _ _ rfl .u64 44 Tryz.underlying27 i64row _ _ rfl rfl (by omega) (by omega) (by omega) ?_; intro w1 hrow hbel hsz)
    go_loopw [6, 25] (fun s6 s25 wr => ∃ (i cr : Nat) (o : List Nat), i ≤ x.length ∧ s25 = .int .i64 i ∧ s6 = .int .u64 cr ∧ cr ≤ 1 ∧ o.length = i ∧ Wf b64 o ∧ Row wr .u64 44 wc.heap.size (o ++ List.replicate (x.length + 1 - i) 0) ∧ Below wc.heap.size wc wr ∧ val b64 o + b64 ^ i * cr = val b64 (x.take i) + val b64 (y.take i))
      (fun _ s25 _ => x.length - (intOf s25).toNat)
    case atStart => exact ⟨0, 0, [], by omega, rfl, rfl, by omega, rfl, Wf.nil _, by simpa using hrow, hbel, by simp [val]⟩
    case round =>
      obtain ⟨i, cr, o, hi, rfl, rfl, hcr, hol, hwo, hr, hbl, hval⟩ := hrel
      have HVAL := Lib.hid hval
      have HOL := Lib.hid hol
      clear hval hol hrow hbel hsz
      by_cases hlt : i < x.length
      · obtain ⟨bx, ox, vx, rfl, hcx, HVX⟩ := (hx.below hbl).get hlt
        obtain ⟨vo, hco, HVO⟩ := hr.get (i := i) (by have := HOL.out; simp; omega)
        have hcf := hr.frozen i
        by_cases hy1 : i < y.length
        · obtain ⟨by_, oy, vy, rfl, hcy, HVY⟩ := (hy.below hbl).get hy1
          go_wp2_with ((with_reducible refine at_ext3 105 rfl rfl ?_); refine add64_at rfl rfl rfl (by omega) (by omega) (by omega) (by omega) ?_)
          go_roundw
          case rel =>
            rw [addLo_nat, addHi_nat]
            obtain ⟨cr', o', e, r⟩ := plus_round (vy := vy) HOL.out hlt wx wy hcr hwo HVX.out (by rw [List.getD_eq_getElem?_getD, HVY.out]; rfl) hr hbl (Nat.le_refl _) HVAL.out
            exact ⟨i + 1, cr', o', by omega, by go_num, by rw [e], r⟩
          case measure => simp [intOf]; omega
        · go_wp2_with ((with_reducible refine at_ext3 105 rfl rfl ?_); refine add64_at rfl rfl rfl (by omega) (by omega) (by omega) (by omega) ?_)
          go_roundw
          case rel =>
            rw [addLo_nat0, addHi_nat0]
            obtain ⟨cr', o', e, r⟩ := plus_round (vy := 0) HOL.out hlt wx wy hcr hwo HVX.out (by rw [List.getD_eq_getElem?_getD, List.getElem?_eq_none (by omega)]; rfl) hr hbl (Nat.le_refl _) HVAL.out
            exact ⟨i + 1, cr', o', by omega, by go_num, by rw [e], r⟩
          case measure => simp [intOf]; omega
      · obtain rfl : i = x.length := by omega
        have hfin : val b64 o + b64 ^ o.length * cr = s := by
          have := HVAL.out
          rw [HOL.out, this, List.take_of_length_le (Nat.le_refl _), List.take_of_length_le (by omega)]; exact HS.out
        have HF := Lib.hid hfin
        clear hfin
        rw [show x.length + 1 - x.length = 1 by omega, show List.replicate 1 0 = [0] from rfl] at hr
        rcases Nat.eq_zero_or_pos cr with rfl | hc0
        · go_wp2
          go_ret
          refine ⟨_, rfl, ?_, hbl⟩
          have h := hr.rd (n := x.length) (c := x.length + 1) (by simp; have := HOL.out; omega) (by omega) (by unfold maxLen; omega)
          rw [← HOL.out, List.take_left] at h
          have hF := HF.out
          rw [Nat.mul_zero, Nat.add_zero] at hF
          rw [← hF, ← HOL.out]
          exact Num.of two_le_b64 h rfl hwo (plus_top (y := y) tx wx hwo HOL.out two_le_b64 (by have h1 := HF.out; have h2 := HS.out; omega) rfl)
        · have hA := hr.keep ((Below.refl _ _).alloc (Nat.le_refl _) (.cells #[.int .u64 (cr : Int)] 44))
          obtain ⟨vo, hco, _⟩ := hA.get (i := x.length) (by simp; have := HOL.out; omega)
          have hcf := hA.frozen x.length
          go_wp2
          go_ret
          refine ⟨_, rfl, ?_, (hbl.alloc hbl.size _).setCell (Nat.le_refl _) _⟩
          have hR := hA.set x.length cr
          rw [set_mid HOL.out] at hR
          have hF := HF.out
          rw [← val_snoc] at hF
          rw [← hF]
          have hl : (o ++ [cr]).length = x.length + 1 := by simp [HOL.out]
          exact Num.of two_le_b64 (hR.rd_all (by omega) (by unfold maxLen; omega)) hl (hwo.append (Wf.cons (by unfold b64; omega) (Wf.nil _))) (by unfold Top; simp; omega)
end Wx
