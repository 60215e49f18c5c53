import Derived.Test.YtlomlheajdgdoaaGreatProg
import Derived.Test.YtlomlheajdgdoaaGreatJPairs0
import Derived.Test.YtlomlheajdgdoaaGreatJPairs1
import Derived.Test.YtlomlheajdgdoaaGreatJPairs22
import Derived.Test.YtlomlheajdgdoaaGreatCPairsNQuot
import Derived.Handy
import Derived.Test.YtlomlheajdgdoaaGreatJPairs18
import Derived.Test.YtlomlheajdgdoaaGreatJPairs10
import Derived.Test.YtlomlheajdgdoaaGreatCPairsRat1
import Derived.Test.YtlomlheajdgdoaaGreatJPairs9
import Derived.Deep.RegionHeld3
namespace Wx
open Go Go.RowKit Go.Proofs

theorem Num.inj32 {w : World} {v : Value} {m n : Nat} {k : IntKind} (h : Num k b32 w v m) (g : Num k b32 w v n) : m = n := by
  obtain ⟨A, c, rfl, hr⟩ := h
  obtain ⟨A', c', e, gr⟩ := g
  injection e with e1 e2 e3
  subst e1
  exact digs_inj two_le_b32 (hr.inj gr e2)
open Classical in
noncomputable def numOf32 (w : World) (v : Value) : Nat := if h : ∃ n, Num .u32 b32 w v n then choose h else 0
theorem Num.of_eq32 {w : World} {v : Value} {n : Nat} (h : Num .u32 b32 w v n) : numOf32 w v = n := by
  have hx : ∃ n, Num .u32 b32 w v n := ⟨n, h⟩
  unfold numOf32
  rw [dif_pos hx]
  exact (Classical.choose_spec hx).inj32 h

set_option maxHeartbeats 1000000 in
theorem divisor_num (w : World) (v1 v2 : Value) (m n : Nat) (h1 : Num .u32 b32 w v1 m) (h2 : Num .u32 b32 w v2 n) {j : Nat} (hj : Bd j m) (hk : Bd j n) (hj1 : j ≤ 10000000) :
    Calls Tryz.prog 97 #[v1, v2] w (RetNum .u32 b32 w (Nat.gcd m n)) := by
  have HX := bx (And.intro hj hk)
  clear hj hk
  obtain ⟨G, hG⟩ : ∃ G, G = Nat.gcd m n := ⟨_, rfl⟩
  rw [← hG]
  have HG := bx hG
  clear hG
  go_enter Tryz.func97, Tryz.ntmps97
  go_wp2_with fail
  go_loopw [0, 1] (fun s0 s1 wr => ∃ x y : Nat, Num .u32 b32 wr s0 x ∧ Num .u32 b32 wr s1 y ∧ Bx (G = Nat.gcd x y) ∧ Bx (Bd j x ∧ Bd j y) ∧ Below w.heap.size w wr) (fun _ s1 wr => numOf32 wr s1)
  case atStart => exact ⟨_, _, h1, h2, HG, HX, Below.refl _ _⟩
  case round =>
    clear h1 h2 HG HX
    obtain ⟨x, y, hx, hy, HG, HX, hb⟩ := hrel
    rcases Nat.eq_zero_or_pos y with rfl | hy0
    · obtain ⟨A, c, rfl, hr⟩ := id hy
      rw [digs_zero] at hr ⊢
      go_wp2
      go_ret
      exact ⟨_, rfl, by rw [HG.out, Nat.gcd_zero_right]; exact hx, hb⟩
    · obtain ⟨B, d, rfl, hs⟩ := id hy
      have hl1 : (0 : Int) < ((digs b32 y).length : Int) := by have := (digs_length_pos (n := y) two_le_b32).2 hy0; omega
      have HY0 := bx hy0
      have hlen := hs.len
      generalize (digs b32 y).length = L at *
      clear hy0 hs
      go_wp2_with fail
      refine (quotient_num wr _ _ x y hx hy HY0.out HX.out.1 HX.out.2 hj1).mono ?_
      rintro e w2 ⟨vq, vr, rfl, hq, hr, hb2⟩
      go_wp2
      go_roundw
      case rel =>
        exact ⟨y, x % y, hy.below hb2, hr, bx (by rw [HG.out, Nat.gcd_comm x y, Nat.gcd_rec y x, Nat.gcd_comm]), bx ⟨HX.out.2, HX.out.1.le (Nat.mod_le _ _)⟩, hb.trans (hb2.mono hb.size)⟩
      case measure =>
        rw [Num.of_eq32 hy, Num.of_eq32 hr]
        exact Nat.mod_lt _ HY0.out
end Wx

namespace Wx
open Go Go.RowKit Go.Proofs

theorem ObjA.put {w : World} {g : Nat} {cs : List Value} {e : TypeId} (h : ObjA w g cs e) (hc : ∀ v ∈ cs, NotInt v) (vs : List Value) (hl : vs.length = cs.length) (hv : ∀ v ∈ vs, NotInt v) :
    ∃ w', setAll w g 0 vs = w' ∧ ObjA w' g vs e ∧ (∀ g' cs' e', g' ≠ g → ObjA w g' cs' e' → ObjA w' g' cs' e') ∧ (∀ (kd : IntKind) (b : Nat) (v : Value) (m : Nat), Num kd b w v m → Num kd b w' v m) ∧ (∀ w0 : World, w0.heap.size ≤ g → Below w0.heap.size w0 w → Below w0.heap.size w0 w') ∧ w'.heap.size = w.heap.size := by
  refine ⟨_, rfl, ?_, ?_, setAll_num vs 0 h hc hv, ?_, ?_⟩
  · have := setAll_obj vs 0 h (by omega)
    simpa using this
  · intro g' cs' e' hne ho
    have key : ∀ (vs : List Value) (k : Nat) (w : World), ObjA w g' cs' e' → ObjA (setAll w g k vs) g' cs' e' := by
      intro vs
      induction vs with
      | nil => intro k w h; exact h
      | cons v vs ih => intro k w h; exact ih (k + 1) _ (h.far hne _ _)
    exact key vs 0 w ho
  · intro w0 hg hb
    have key : ∀ (vs : List Value) (k : Nat) (w : World), Below w0.heap.size w0 w → Below w0.heap.size w0 (setAll w g k vs) := by
      intro vs
      induction vs with
      | nil => intro k w h; exact h
      | cons v vs ih => intro k w h; exact ih (k + 1) _ (h.setCell hg _)
    exact key vs 0 w hb
  · have key : ∀ (vs : List Value) (k : Nat) (w : World), (setAll w g k vs).heap.size = w.heap.size := by
      intro vs
      induction vs with
      | nil => intro k w; rfl
      | cons v vs ih => intro k w; rw [setAll, ih]; simp [World.setCell]
    exact key vs 0 w
def HeldQ (w0 : World) (ps : List (Nat × List Value × TypeId)) (w' : World) : Prop := Below w0.heap.size w0 w' ∧ ∀ p ∈ ps, ObjA w' p.1 p.2.1 p.2.2
theorem HeldQ.call {w0 : World} {ps : List (Nat × List Value × TypeId)} {w' w'' : World} {p : Prop} (h : HeldQ w0 ps w' ∧ p) (hb : Below w'.heap.size w' w'') : HeldQ w0 ps w'' :=
  ⟨h.1.1.trans (hb.mono h.1.1.size), fun p hp => (h.1.2 p hp).gone hb⟩
theorem HeldQ.drew {w0 : World} {ps : List (Nat × List Value × TypeId)} {w' : World} (h : HeldQ w0 ps w') : HeldQ w0 ps w'.drew := ⟨h.1.drew, h.2⟩
theorem HeldQ.at_ {w0 : World} {ps : List (Nat × List Value × TypeId)} {w' : World} (h : HeldQ w0 ps w') {p : Nat × List Value × TypeId} (hp : p ∈ ps) : ObjA w' p.1 p.2.1 p.2.2 := h.2 p hp
end Wx

namespace Wx
open Go Go.RowKit Go.Proofs

theorem HeldN.b {w : World} {r n : Nat} {e : TypeId} {ps : List (Nat × List Value × TypeId)} {w' : World} (h : HeldN w r n e ps w') : Below w.heap.size w w' := h.1
theorem HeldQ.b {w0 : World} {ps : List (Nat × List Value × TypeId)} {w : World} (h : HeldQ w0 ps w) : Below w0.heap.size w0 w := h.1
theorem notInt_z3 : ∀ v ∈ [Value.bool false, .slice none 0 0, .slice none 0 0], NotInt v := notInt3
end Wx

namespace Wx
set_option maxRecDepth 100000
open Go Go.RowKit Go.Proofs

def IsRef (w : World) (v : Value) (q : Rat) : Prop := ∃ vn vd, v = .agg #[.bool (decide (q.num < 0)), vn, vd] ∧ Num .u32 b32 w vn q.num.natAbs ∧ Num .u32 b32 w vd q.den
def RetRef (w : World) (q : Rat) (e : Ending) (w' : World) : Prop := ∃ v, e = .returned v ∧ IsRef w' v q ∧ Below w.heap.size w w'
theorem IsRef.below {w w' : World} {v : Value} {q : Rat} (h : IsRef w v q) (hb : Below w.heap.size w w') : IsRef w' v q := by
  obtain ⟨vn, vd, rfl, h1, h2⟩ := h
  exact ⟨vn, vd, rfl, h1.below hb, h2.below hb⟩
theorem IsRef.into {w w' : World} {v : Value} {q : Rat} (h : IsRef w v q) (hn : ∀ (kd : IntKind) (b : Nat) (v : Value) (m : Nat), Num kd b w v m → Num kd b w' v m) : IsRef w' v q := by
  obtain ⟨vn, vd, rfl, h1, h2⟩ := h
  exact ⟨vn, vd, rfl, hn _ _ _ _ h1, hn _ _ _ _ h2⟩
theorem IsRef.drew {w : World} {v : Value} {q : Rat} (h : IsRef w v q) : IsRef w.drew v q := by
  obtain ⟨vn, vd, rfl, h1, h2⟩ := h
  exact ⟨vn, vd, rfl, h1, h2⟩
theorem isRef_of {w : World} {v : Value} {p q : Rat} (h : IsRef w v p) (e : q = p) : IsRef w v q := e ▸ h

theorem nunder_num (w : World) (v : Value) (x : Rat) (hx : IsRef w v x) : Calls Tryz.prog 64 #[v] w (RetNum .u32 b32 w x.den) := by
  obtain ⟨vx1, vx2, rfl, hxa, hxb⟩ := id hx
  obtain ⟨Ax1, cx1, rfl, _⟩ := id hxa
  obtain ⟨Ax2, cx2, rfl, _⟩ := id hxb
  have hl : (((digs b32 x.den).length : Int) == 0) = false := beq_eq_false_iff_ne.2 (by have := (digs_length_pos (n := x.den) two_le_b32).2 x.den_pos; omega)
  have hxb0 := hxb
  generalize (digs b32 x.den).length = L2 at *
  go_enter Tryz.func64, Tryz.ntmps64
  go_wp2_with fail
  go_ret
  exact ⟨_, rfl, hxb0.below (Below.alloc (Below.refl _ _) (Nat.le_refl _) _), Below.alloc (Below.refl _ _) (Nat.le_refl _) _⟩
theorem num_empty (w : World) (A : Option Addr) (c : Nat) (hc : c ≤ maxLen) : Num .u32 b32 w (.slice A 0 c) 0 := by
  have := Num.of (k := .u32) (b := b32) (w := w) (A := A) (n := 0) (c := c) two_le_b32 (l := []) ⟨Nat.zero_le _, hc, fun h => absurd rfl h⟩ rfl (Wf.nil _) Top.nil
  simpa [val] using this

set_option maxHeartbeats 1000000 in
theorem made_zero (w : World) (neg : Bool) (v1 v2 : Value) (h1 : Num .u32 b32 w v1 0) : Calls Tryz.prog 57 #[.bool neg, v1, v2] w (RetRef w 0) := by
  obtain ⟨A, c, rfl, hr⟩ := id h1
  rw [digs_zero]
  clear hr
  go_enter Tryz.func57, Tryz.ntmps57
  go_wp2_with fail
  obtain ⟨w1, e1, oR, b1, s1⟩ := layA w [.bool false, .slice none 0 0, .slice none 0 0] 33
  rw [e1]
  clear e1
  replace h1 := h1.below b1
  have B := b1
  clear b1
  obtain ⟨w2, e2, oE, b2, s2⟩ := layA w1 [] 49
  rw [e2]
  rw [s1] at oE
  clear e2
  replace h1 := h1.below b2
  replace oR := oR.gone b2
  replace B := B.trans (b2.mono B.size)
  clear b2
  clear oE h1
  refine Calls.mono (nat_num _ 1 (by unfold b64; omega)) ?_
  rintro e w3 ⟨v3, rfl, h3, b3⟩
  replace oR := oR.gone b3
  replace B := B.trans (b3.mono B.size)
  clear b3
  obtain ⟨A3, c3, rfl, _⟩ := id h3
  have k1 := oR.cell (i := 0) rfl
  have k2 := oR.fz 0
  have k3 := oR.cell (i := 1) rfl
  have k4 := oR.fz 1
  have k5 := oR.cell (i := 2) rfl
  have k6 := oR.fz 2
  go_wp2
  obtain ⟨wf, HW, ho, _, hN, hBf, _⟩ := oR.put notInt_z3 [.bool false, .slice (some ⟨w.heap.size + 1, 0, none⟩) 0 0, .slice A3 (digs b32 1).length c3] rfl notInt3
  simp only [setAll, Nat.reduceAdd] at HW
  (try rw [HW])
  (try simp only [Exit.inBlock, Exit.then])
  have f0 := ho.cell (i := 0) rfl
  have f1 := ho.cell (i := 1) rfl
  have f2 := ho.cell (i := 2) rfl
  refine bodyPost_ret (by simp [results, Tryz.results57, go_sem, f0, f1, f2]; try rfl) rfl ?_
  have HB := hBf _ (by omega) B
  exact ⟨_, rfl, ⟨_, _, rfl, hN _ _ _ _ (num_empty _ _ _ (Nat.zero_le _)), hN _ _ _ _ h3⟩, HB⟩
set_option maxHeartbeats 1000000 in
theorem made_one (w : World) (neg : Bool) (v1 v2 : Value) (n d : Nat) (h1 : Num .u32 b32 w v1 n) (h2 : Num .u32 b32 w v2 d) (hn : 0 < n) (hd : 0 < d) {j : Nat} (hj : Bd j n) (hk : Bd j d) (hj1 : j ≤ 10000000) (h1g : n.gcd d = 1) : Calls Tryz.prog 57 #[.bool neg, v1, v2] w (RetRef w (redR neg n d)) := by
  obtain ⟨A1, c1, rfl, hr1⟩ := id h1
  obtain ⟨A2, c2, rfl, hr2⟩ := id h2
  have hl : (((digs b32 n).length : Int) == 0) = false := beq_eq_false_iff_ne.2 (by have := (digs_length_pos (n := n) two_le_b32).2 hn; omega)
  have hlen := hr1.len
  obtain ⟨g, hg⟩ : ∃ g, g = n.gcd d := ⟨_, rfl⟩
  obtain ⟨q, hq⟩ : ∃ q, q = redR neg n d := ⟨_, rfl⟩
  have hg0 : 0 < g := by rw [hg]; exact Nat.gcd_pos_of_pos_left _ hn
  have q1 := redR_natAbs (neg := neg) (n := n) hd
  have q2 := redR_den (neg := neg) (n := n) hd
  have q3 := redR_neg (neg := neg) hd hn
  rw [← hq, ← hg] at q1 q2
  rw [← hq] at q3
  rw [← hq]
  have HQ := bx (And.intro q1 (And.intro q2 q3))
  have HJ := bx (And.intro hj hk)
  have HG := bx hg
  have HG0 := bx hg0
  have HC : ∀ w v, Calls Tryz.prog 97 #[.slice A1 (digs b32 n).length c1, .slice A2 (digs b32 d).length c2] w v → True := fun _ _ _ => trivial
  clear HC q1 q2 q3 hq hg hn hr1 hr2 hg0
  have hc : cmpI g 1 = 0 := by rw [HG.out, h1g]; rfl
  have HC := bx hc
  have H1 := bx h1g
  clear hc h1g hj hk
  go_enter Tryz.func57, Tryz.ntmps57
  go_wp2_with fail
  obtain ⟨w1, e1, oR, b1, s1⟩ := layA w [.bool false, .slice none 0 0, .slice none 0 0] 33
  rw [e1]
  clear e1
  replace h1 := h1.below b1
  replace h2 := h2.below b1
  have B := b1
  clear b1
  refine Calls.mono (divisor_num _ _ _ n d h1 h2 HJ.out.1 HJ.out.2 hj1) ?_
  rintro e w2 ⟨vg, rfl, hg, b2⟩
  replace h1 := h1.below b2
  replace h2 := h2.below b2
  replace oR := oR.gone b2
  replace B := B.trans (b2.mono B.size)
  clear b2
  rw [← HG.out] at hg
  go_wp2_with fail
  refine Calls.mono (nat_num _ 1 (by unfold b64; omega)) ?_
  rintro e w3 ⟨vo, rfl, ho, b3⟩
  replace h1 := h1.below b3
  replace h2 := h2.below b3
  replace oR := oR.gone b3
  replace hg := hg.below b3
  replace B := B.trans (b3.mono B.size)
  clear b3
  go_wp2_with fail
  have hc := order_num _ _ _ g 1 hg ho
  rw [HC.out] at hc
  refine Calls.mono (hc) ?_
  rintro e w4 ⟨rfl, b4⟩
  replace h1 := h1.below b4
  replace h2 := h2.below b4
  replace oR := oR.gone b4
  replace hg := hg.below b4
  replace ho := ho.below b4
  replace B := B.trans (b4.mono B.size)
  clear b4
  clear hc ho
  rw [HG.out, H1.out, Nat.div_one, Nat.div_one] at HQ
  have k1 := oR.cell (i := 0) rfl
  have k2 := oR.fz 0
  have k3 := oR.cell (i := 1) rfl
  have k4 := oR.fz 1
  have k5 := oR.cell (i := 2) rfl
  have k6 := oR.fz 2
  go_wp2
  obtain ⟨wf, HW, ho, _, hN, hBf, _⟩ := oR.put notInt_z3 [.bool neg, .slice A1 (digs b32 n).length c1, .slice A2 (digs b32 d).length c2] rfl notInt3
  simp only [setAll, Nat.reduceAdd] at HW
  (try rw [HW])
  (try simp only [Exit.inBlock, Exit.then])
  have f0 := ho.cell (i := 0) rfl
  have f1 := ho.cell (i := 1) rfl
  have f2 := ho.cell (i := 2) rfl
  refine bodyPost_ret (by simp [results, Tryz.results57, go_sem, f0, f1, f2]; try rfl) rfl ?_
  have HB := hBf _ (by omega) B
  exact ⟨_, rfl, ⟨_, _, by rw [HQ.out.2.2], by rw [HQ.out.1]; exact hN _ _ _ _ h1, by rw [HQ.out.2.1]; exact hN _ _ _ _ h2⟩, HB⟩
set_option maxHeartbeats 1000000 in
theorem made_more (w : World) (neg : Bool) (v1 v2 : Value) (n d : Nat) (h1 : Num .u32 b32 w v1 n) (h2 : Num .u32 b32 w v2 d) (hn : 0 < n) (hd : 0 < d) {j : Nat} (hj : Bd j n) (hk : Bd j d) (hj1 : j ≤ 10000000) (h1g : n.gcd d ≠ 1) : Calls Tryz.prog 57 #[.bool neg, v1, v2] w (RetRef w (redR neg n d)) := by
  obtain ⟨A1, c1, rfl, hr1⟩ := id h1
  obtain ⟨A2, c2, rfl, hr2⟩ := id h2
  have hl : (((digs b32 n).length : Int) == 0) = false := beq_eq_false_iff_ne.2 (by have := (digs_length_pos (n := n) two_le_b32).2 hn; omega)
  have hlen := hr1.len
  obtain ⟨g, hg⟩ : ∃ g, g = n.gcd d := ⟨_, rfl⟩
  obtain ⟨q, hq⟩ : ∃ q, q = redR neg n d := ⟨_, rfl⟩
  have hg0 : 0 < g := by rw [hg]; exact Nat.gcd_pos_of_pos_left _ hn
  have q1 := redR_natAbs (neg := neg) (n := n) hd
  have q2 := redR_den (neg := neg) (n := n) hd
  have q3 := redR_neg (neg := neg) hd hn
  rw [← hq, ← hg] at q1 q2
  rw [← hq] at q3
  rw [← hq]
  have HQ := bx (And.intro q1 (And.intro q2 q3))
  have HJ := bx (And.intro hj hk)
  have HG := bx hg
  have HG0 := bx hg0
  have HC : ∀ w v, Calls Tryz.prog 97 #[.slice A1 (digs b32 n).length c1, .slice A2 (digs b32 d).length c2] w v → True := fun _ _ _ => trivial
  clear HC q1 q2 q3 hq hg hn hr1 hr2 hg0
  have hc : cmpI g 1 = 1 := by unfold cmpI; have := HG0.out; have := HG.out; rw [if_neg (by omega), if_pos (by omega)]
  have HC := bx hc
  have H1 := bx h1g
  clear hc h1g hj hk
  go_enter Tryz.func57, Tryz.ntmps57
  go_wp2_with fail
  obtain ⟨w1, e1, oR, b1, s1⟩ := layA w [.bool false, .slice none 0 0, .slice none 0 0] 33
  rw [e1]
  clear e1
  replace h1 := h1.below b1
  replace h2 := h2.below b1
  have B := b1
  clear b1
  refine Calls.mono (divisor_num _ _ _ n d h1 h2 HJ.out.1 HJ.out.2 hj1) ?_
  rintro e w2 ⟨vg, rfl, hg, b2⟩
  replace h1 := h1.below b2
  replace h2 := h2.below b2
  replace oR := oR.gone b2
  replace B := B.trans (b2.mono B.size)
  clear b2
  rw [← HG.out] at hg
  go_wp2_with fail
  refine Calls.mono (nat_num _ 1 (by unfold b64; omega)) ?_
  rintro e w3 ⟨vo, rfl, ho, b3⟩
  replace h1 := h1.below b3
  replace h2 := h2.below b3
  replace oR := oR.gone b3
  replace hg := hg.below b3
  replace B := B.trans (b3.mono B.size)
  clear b3
  go_wp2_with fail
  have hc := order_num _ _ _ g 1 hg ho
  rw [HC.out] at hc
  refine Calls.mono (hc) ?_
  rintro e w4 ⟨rfl, b4⟩
  replace h1 := h1.below b4
  replace h2 := h2.below b4
  replace oR := oR.gone b4
  replace hg := hg.below b4
  replace ho := ho.below b4
  replace B := B.trans (b4.mono B.size)
  clear b4
  clear hc ho
  go_wp2_with fail
  refine Calls.mono (quotient_num _ _ _ n g h1 hg HG0.out HJ.out.1 (HG.out ▸ HJ.out.2.le (Nat.gcd_le_right _ hd)) hj1) ?_
  rintro e w5 ⟨vq, vr, rfl, hq, _, b5⟩
  replace h1 := h1.below b5
  replace h2 := h2.below b5
  replace oR := oR.gone b5
  replace hg := hg.below b5
  replace B := B.trans (b5.mono B.size)
  clear b5
  go_wp2_with fail
  refine Calls.mono (quotient_num _ _ _ d g h2 hg HG0.out HJ.out.2 (HG.out ▸ HJ.out.2.le (Nat.gcd_le_right _ hd)) hj1) ?_
  rintro e w6 ⟨vp, vs, rfl, hp, _, b6⟩
  replace h1 := h1.below b6
  replace h2 := h2.below b6
  replace oR := oR.gone b6
  replace hg := hg.below b6
  replace hq := hq.below b6
  replace B := B.trans (b6.mono B.size)
  clear b6
  obtain ⟨A3, c3, rfl, _⟩ := id hq
  obtain ⟨A4, c4, rfl, _⟩ := id hp
  have k1 := oR.cell (i := 0) rfl
  have k2 := oR.fz 0
  have k3 := oR.cell (i := 1) rfl
  have k4 := oR.fz 1
  have k5 := oR.cell (i := 2) rfl
  have k6 := oR.fz 2
  go_wp2
  obtain ⟨wf, HW, ho, _, hN, hBf, _⟩ := oR.put notInt_z3 [.bool neg, .slice A3 (digs b32 (n / g)).length c3, .slice A4 (digs b32 (d / g)).length c4] rfl notInt3
  simp only [setAll, Nat.reduceAdd] at HW
  (try rw [HW])
  (try simp only [Exit.inBlock, Exit.then])
  have f0 := ho.cell (i := 0) rfl
  have f1 := ho.cell (i := 1) rfl
  have f2 := ho.cell (i := 2) rfl
  refine bodyPost_ret (by simp [results, Tryz.results57, go_sem, f0, f1, f2]; try rfl) rfl ?_
  have HB := hBf _ (by omega) B
  exact ⟨_, rfl, ⟨_, _, by rw [HQ.out.2.2], by rw [HQ.out.1]; exact hN _ _ _ _ hq, by rw [HQ.out.2.1]; exact hN _ _ _ _ hp⟩, HB⟩
theorem made_num (w : World) (neg : Bool) (v1 v2 : Value) (n d : Nat) (h1 : Num .u32 b32 w v1 n) (h2 : Num .u32 b32 w v2 d) (hd : 0 < d) {j : Nat} (hj : Bd j n) (hk : Bd j d) (hj1 : j ≤ 10000000) : Calls Tryz.prog 57 #[.bool neg, v1, v2] w (RetRef w (redR neg n d)) := by
  rcases Nat.eq_zero_or_pos n with rfl | hn
  · rw [redR_zero]; exact made_zero w neg v1 v2 h1
  · by_cases h : n.gcd d = 1
    · exact made_one w neg v1 v2 n d h1 h2 hn hd hj hk hj1 h
    · exact made_more w neg v1 v2 n d h1 h2 hn hd hj hk hj1 h
end Wx

namespace Wx
set_option maxRecDepth 100000
open Go Go.RowKit Go.Proofs

set_option maxHeartbeats 1000000 in
theorem nzero_num (w : World) (v : Value) (q : Rat) (h : IsRef w v q) : Calls Tryz.prog 88 #[v] w (RetIs w (.bool (decide (q = 0)))) := by
  obtain ⟨vn, vd, rfl, h1, h2⟩ := h
  obtain ⟨A1, c1, rfl, _⟩ := id h1
  obtain ⟨A2, c2, rfl, _⟩ := id h2
  have hz : (((digs b32 q.num.natAbs).length : Int) == 0) = decide (q = 0) := by
    by_cases hq : q = 0
    · rw [hq, decide_eq_true rfl]; rfl
    · rw [decide_eq_false hq, beq_eq_false_iff_ne]
      have := (digs_length_pos (n := q.num.natAbs) two_le_b32).2 (by have := mt (num_zero_iff q).1 hq; omega)
      omega
  generalize (digs b32 q.num.natAbs).length = L1 at *
  go_enter Tryz.func88, Tryz.ntmps88
  go_wp2
  go_ret
  exact ⟨rfl, Below.alloc (Below.refl _ _) (Nat.le_refl _) _⟩
set_option maxHeartbeats 1000000 in
theorem nneg_num (w : World) (v : Value) (q : Rat) (hx : IsRef w v q) : Calls Tryz.prog 74 #[v] w (RetRef w (-q)) := by
  obtain ⟨vx1, vx2, rfl, hxa, hxb⟩ := id hx
  obtain ⟨Ax1, cx1, rfl, _⟩ := id hxa
  obtain ⟨Ax2, cx2, rfl, _⟩ := id hxb
  have hf := neg_flag q
  have hn : (-q).num.natAbs = q.num.natAbs := by rw [Rat.neg_num, Int.natAbs_neg]
  have hd : (-q).den = q.den := rfl
  have hx0 := hx
  clear hx
  generalize decide (q.num < 0) = neg at *
  cases neg
  · simp only [Bool.not_false, Bool.true_and] at hf
    go_enter Tryz.func74, Tryz.ntmps74
    go_wp2_with fail
    obtain ⟨w1, e1, o1, b1, s1⟩ := layA w [.bool false, .slice Ax1 (digs b32 q.num.natAbs).length cx1, .slice Ax2 (digs b32 q.den).length cx2] 33
    obtain ⟨w2, e2, o2, b2, s2⟩ := layA w1 [.bool false, .slice none 0 0, .slice none 0 0] 33
    rw [e1, e2]
    rw [s1] at o2
    have p1 := (o1.gone b2)
    have p2 := o2
    have B0 := (b1.trans (b2.mono b1.size))
    have hS : ∀ w', HeldN w (w.heap.size + 1) 3 33 [(w.heap.size, [.bool false, .slice Ax1 (digs b32 q.num.natAbs).length cx1, .slice Ax2 (digs b32 q.den).length cx2], 33)] w' → HeldN w (w.heap.size + 1) 3 33 [(w.heap.size, [.bool false, .slice Ax1 (digs b32 q.num.natAbs).length cx1, .slice Ax2 (digs b32 q.den).length cx2], 33)] w' ∧ w'.cell? ⟨w.heap.size, 0, none⟩ = some (.bool false) ∧ w'.cell? ⟨w.heap.size, 1, none⟩ = some (.slice Ax1 (digs b32 q.num.natAbs).length cx1) ∧ w'.cell? ⟨w.heap.size, 2, none⟩ = some (.slice Ax2 (digs b32 q.den).length cx2) ∧ w'.cell? ⟨w.heap.size + 1, 0, none⟩ = some (cv w' ⟨w.heap.size + 1, 0, none⟩) ∧ w'.cell? ⟨w.heap.size + 1, 1, none⟩ = some (cv w' ⟨w.heap.size + 1, 1, none⟩) ∧ w'.cell? ⟨w.heap.size + 1, 2, none⟩ = some (cv w' ⟨w.heap.size + 1, 2, none⟩) ∧ w'.frozen? ⟨w.heap.size + 1, 0, none⟩ = false ∧ w'.frozen? ⟨w.heap.size + 1, 1, none⟩ = false ∧ w'.frozen? ⟨w.heap.size + 1, 2, none⟩ = false := fun w' hh => by
      have r1 := hh.par (p := (w.heap.size, [.bool false, .slice Ax1 (digs b32 q.num.natAbs).length cx1, .slice Ax2 (digs b32 q.den).length cx2], 33)) (by simp)
      exact ⟨hh, r1.cell (i := 0) rfl, r1.cell (i := 1) rfl, r1.cell (i := 2) rfl, hh.cellR (i := 0) (by omega), hh.cellR (i := 1) (by omega), hh.cellR (i := 2) (by omega), hh.fzR 0, hh.fzR 1, hh.fzR 2⟩
    have hz : HeldN w (w.heap.size + 1) 3 33 [(w.heap.size, [.bool false, .slice Ax1 (digs b32 q.num.natAbs).length cx1, .slice Ax2 (digs b32 q.den).length cx2], 33)] w2 := ⟨B0, by omega, by intro q hq; simp at hq; subst hq; exact ⟨by simp, p1⟩, _, rfl, p2, notInt3⟩
    clear e1 e2 o1 b1 s1 p1 o2 b2 s2 p2
    clear B0
    have hz := hz.drew
    go_region_held3 (fun w' => HeldN w (w.heap.size + 1) 3 33 [(w.heap.size, [.bool false, .slice Ax1 (digs b32 q.num.natAbs).length cx1, .slice Ax2 (digs b32 q.den).length cx2], 33)] w' ∧ w'.cell? ⟨w.heap.size, 0, none⟩ = some (.bool false) ∧ w'.cell? ⟨w.heap.size, 1, none⟩ = some (.slice Ax1 (digs b32 q.num.natAbs).length cx1) ∧ w'.cell? ⟨w.heap.size, 2, none⟩ = some (.slice Ax2 (digs b32 q.den).length cx2) ∧ w'.cell? ⟨w.heap.size + 1, 0, none⟩ = some (cv w' ⟨w.heap.size + 1, 0, none⟩) ∧ w'.cell? ⟨w.heap.size + 1, 1, none⟩ = some (cv w' ⟨w.heap.size + 1, 1, none⟩) ∧ w'.cell? ⟨w.heap.size + 1, 2, none⟩ = some (cv w' ⟨w.heap.size + 1, 2, none⟩) ∧ w'.frozen? ⟨w.heap.size + 1, 0, none⟩ = false ∧ w'.frozen? ⟨w.heap.size + 1, 1, none⟩ = false ∧ w'.frozen? ⟨w.heap.size + 1, 2, none⟩ = false)
      (first | exact hS _ hz | exact hS _ (HeldN.sets3 hz))
      (first
        | (go_at_call 88; have hc := nzero_num _ _ q (hx0.below hz.1); (with_reducible refine Calls.mono hc ?_); clear hc; rintro e wz ⟨rfl, hb⟩; have hz := HeldN.call (And.intro hz trivial) hb))
    all_goals (
      go_wp2
      obtain ⟨wf, HW, ho, hB, hN⟩ := hz.fin [.bool (!decide (q = 0)), .slice Ax1 (digs b32 q.num.natAbs).length cx1, .slice Ax2 (digs b32 q.den).length cx2] rfl notInt3
      simp only [setAll, Nat.reduceAdd] at HW
      (try rw [HW])
      (try simp only [Exit.inBlock, Exit.then])
      have f0 := ho.cell (i := 0) rfl
      have f1 := ho.cell (i := 1) rfl
      have f2 := ho.cell (i := 2) rfl
      refine bodyPost_ret (by simp [results, Tryz.results74, go_sem, f0, f1, f2]; try rfl) rfl ?_
      exact ⟨_, rfl, ⟨_, _, by rw [hf], by rw [hn]; exact hN _ _ _ _ (hxa.below hz.1), by rw [hd]; exact hN _ _ _ _ (hxb.below hz.1)⟩, hB⟩)
  · simp only [Bool.not_true, Bool.false_and] at hf
    clear hx0
    go_enter Tryz.func74, Tryz.ntmps74
    go_wp2_with fail
    obtain ⟨w1, e1, o1, b1, s1⟩ := layA w [.bool true, .slice Ax1 (digs b32 q.num.natAbs).length cx1, .slice Ax2 (digs b32 q.den).length cx2] 33
    obtain ⟨w2, e2, o2, b2, s2⟩ := layA w1 [.bool false, .slice none 0 0, .slice none 0 0] 33
    rw [e1, e2]
    rw [s1] at o2
    have p1 := (o1.gone b2)
    have p2 := o2
    have B0 := (b1.trans (b2.mono b1.size))
    have hS : ∀ w', HeldN w (w.heap.size + 1) 3 33 [(w.heap.size, [.bool true, .slice Ax1 (digs b32 q.num.natAbs).length cx1, .slice Ax2 (digs b32 q.den).length cx2], 33)] w' → HeldN w (w.heap.size + 1) 3 33 [(w.heap.size, [.bool true, .slice Ax1 (digs b32 q.num.natAbs).length cx1, .slice Ax2 (digs b32 q.den).length cx2], 33)] w' ∧ w'.cell? ⟨w.heap.size, 0, none⟩ = some (.bool true) ∧ w'.cell? ⟨w.heap.size, 1, none⟩ = some (.slice Ax1 (digs b32 q.num.natAbs).length cx1) ∧ w'.cell? ⟨w.heap.size, 2, none⟩ = some (.slice Ax2 (digs b32 q.den).length cx2) ∧ w'.cell? ⟨w.heap.size + 1, 0, none⟩ = some (cv w' ⟨w.heap.size + 1, 0, none⟩) ∧ w'.cell? ⟨w.heap.size + 1, 1, none⟩ = some (cv w' ⟨w.heap.size + 1, 1, none⟩) ∧ w'.cell? ⟨w.heap.size + 1, 2, none⟩ = some (cv w' ⟨w.heap.size + 1, 2, none⟩) ∧ w'.frozen? ⟨w.heap.size + 1, 0, none⟩ = false ∧ w'.frozen? ⟨w.heap.size + 1, 1, none⟩ = false ∧ w'.frozen? ⟨w.heap.size + 1, 2, none⟩ = false := fun w' hh => by
      have r1 := hh.par (p := (w.heap.size, [.bool true, .slice Ax1 (digs b32 q.num.natAbs).length cx1, .slice Ax2 (digs b32 q.den).length cx2], 33)) (by simp)
      exact ⟨hh, r1.cell (i := 0) rfl, r1.cell (i := 1) rfl, r1.cell (i := 2) rfl, hh.cellR (i := 0) (by omega), hh.cellR (i := 1) (by omega), hh.cellR (i := 2) (by omega), hh.fzR 0, hh.fzR 1, hh.fzR 2⟩
    have hz : HeldN w (w.heap.size + 1) 3 33 [(w.heap.size, [.bool true, .slice Ax1 (digs b32 q.num.natAbs).length cx1, .slice Ax2 (digs b32 q.den).length cx2], 33)] w2 := ⟨B0, by omega, by intro q hq; simp at hq; subst hq; exact ⟨by simp, p1⟩, _, rfl, p2, notInt3⟩
    clear e1 e2 o1 b1 s1 p1 o2 b2 s2 p2
    clear B0
    obtain ⟨_, k0, k1, k2, k3, k4, k5, k6, k7, k8⟩ := hS _ hz
    go_region
    all_goals (
      go_wp2
      obtain ⟨wf, HW, ho, hB, hN⟩ := hz.fin [.bool false, .slice Ax1 (digs b32 q.num.natAbs).length cx1, .slice Ax2 (digs b32 q.den).length cx2] rfl notInt3
      simp only [setAll, Nat.reduceAdd] at HW
      (try rw [HW])
      (try simp only [Exit.inBlock, Exit.then])
      have f0 := ho.cell (i := 0) rfl
      have f1 := ho.cell (i := 1) rfl
      have f2 := ho.cell (i := 2) rfl
      refine bodyPost_ret (by simp [results, Tryz.results74, go_sem, f0, f1, f2]; try rfl) rfl ?_
      have hR : RetRef w (-q) (.returned _) wf := ⟨_, rfl, ⟨_, _, by rw [hf], by rw [hn]; exact hN _ _ _ _ (hxa.below hz.1), by rw [hd]; exact hN _ _ _ _ (hxb.below hz.1)⟩, hB⟩
      first | exact hR | (obtain ⟨v, h1, h2, h3⟩ := hR; exact ⟨v, h1, h2.drew, h3.drew⟩))

theorem magnitude_num (w : World) (z : Int) (h1 : -9223372036854775808 ≤ z) (h2 : z ≤ 9223372036854775807) : Calls Tryz.prog 58 #[.int .i64 z] w (RetNum .u32 b32 w z.natAbs) := by
  have HLT : Bx (z.natAbs < b64) := bx (by unfold b64; omega)
  by_cases hz : z < 0
  · have e1 : IntKind.u64.wrap (-IntKind.u64.wrap z) = ((z.natAbs : Nat) : Int) := by
      simp [IntKind.wrap, IntKind.bits, IntKind.signed]; omega
    have E1 := bx e1
    clear e1
    go_enter Tryz.func58, Tryz.ntmps58
    go_wp2_with fail
    rw [E1.out]
    refine (nat_num w _ HLT.out).mono ?_
    rintro e w3 ⟨vr, rfl, hr3, hb3⟩
    go_wp2
    go_ret
    exact ⟨_, rfl, hr3, hb3⟩
  · have e1 : z = ((z.natAbs : Nat) : Int) := by omega
    have E1 := bx e1
    clear e1
    go_enter Tryz.func58, Tryz.ntmps58
    go_wp2_with fail
    have hc := nat_num w _ HLT.out
    rw [← E1.out] at hc
    refine hc.mono ?_
    rintro e w3 ⟨vr, rfl, hr3, hb3⟩
    go_wp2
    go_ret
    exact ⟨_, rfl, hr3, hb3⟩

theorem int_redR (z : Int) : redR (decide (z < 0)) z.natAbs 1 = (z : Rat) := by
  unfold redR
  rw [sg_mk, Rat.mkRat_one]
set_option maxHeartbeats 1000000 in
theorem nint_num (w : World) (z : Int) (h1 : -9223372036854775808 ≤ z) (h2 : z ≤ 9223372036854775807) : Calls Tryz.prog 10 #[.int .i64 z] w (RetRef w (z : Rat)) := by
  have H := bx (And.intro h1 h2)
  have hB : Bx (Bd 64 z.natAbs) := bx (by unfold Bd; omega)
  generalize hq : (z : Rat) = q
  have HQ := bx hq
  clear h1 h2 hq
  go_enter Tryz.func10, Tryz.ntmps10
  go_wp2_with fail
  obtain ⟨w1, e1, oR, b1, s1⟩ := layA w [.bool false, .slice none 0 0, .slice none 0 0] 33
  rw [e1]
  clear e1
  have B := b1
  clear b1
  refine Calls.mono (magnitude_num _ z H.out.1 H.out.2) ?_
  rintro e w2 ⟨v1, rfl, h1, b2⟩
  replace oR := oR.gone b2
  replace B := B.trans (b2.mono B.size)
  clear b2
  go_wp2_with fail
  refine Calls.mono (nat_num _ 1 (by unfold b64; omega)) ?_
  rintro e w3 ⟨v2, rfl, h2, b3⟩
  replace oR := oR.gone b3
  replace h1 := h1.below b3
  replace B := B.trans (b3.mono B.size)
  clear b3
  go_wp2_with fail
  have hc := made_num _ (decide (z < 0)) _ _ z.natAbs 1 h1 h2 (by omega) hB.out (by unfold Bd; omega) (by omega)
  rw [int_redR, HQ.out] at hc
  clear h1 h2
  refine Calls.mono (hc) ?_
  rintro e w4 ⟨vr, rfl, hr, b4⟩
  replace oR := oR.gone b4
  replace B := B.trans (b4.mono B.size)
  clear b4
  clear hc
  obtain ⟨vr1, vr2, rfl, hra, hrb⟩ := id hr
  obtain ⟨Ar1, cr1, rfl, _⟩ := id hra
  obtain ⟨Ar2, cr2, rfl, _⟩ := id hrb
  have k1 := oR.cell (i := 0) rfl
  have k2 := oR.fz 0
  have k3 := oR.cell (i := 1) rfl
  have k4 := oR.fz 1
  have k5 := oR.cell (i := 2) rfl
  have k6 := oR.fz 2
  go_wp2
  obtain ⟨wf, HW, ho, _, hN, hBf, _⟩ := oR.put notInt_z3 [.bool (decide (q.num < 0)), .slice Ar1 (digs b32 q.num.natAbs).length cr1, .slice Ar2 (digs b32 q.den).length cr2] rfl notInt3
  simp only [setAll, Nat.reduceAdd] at HW
  (try rw [HW])
  (try simp only [Exit.inBlock, Exit.then])
  have f0 := ho.cell (i := 0) rfl
  have f1 := ho.cell (i := 1) rfl
  have f2 := ho.cell (i := 2) rfl
  refine bodyPost_ret (by simp [results, Tryz.results10, go_sem, f0, f1, f2]; try rfl) rfl ?_
  have HB := hBf _ (by omega) B
  exact ⟨_, rfl, hr.into hN, HB⟩

def RetFE (w : World) (q : Rat) (err : Int) (e : Ending) (w' : World) : Prop := ∃ v, e = .returned (.tuple #[v, .int .i64 err]) ∧ IsRef w' v q ∧ Below w.heap.size w w'
set_option maxHeartbeats 1000000 in
theorem nnew_num (w : World) (n d : Int) (h1 : -9223372036854775808 ≤ n) (h2 : n ≤ 9223372036854775807) (h3 : -9223372036854775808 ≤ d) (h4 : d ≤ 9223372036854775807) (hd : d ≠ 0) :
    Calls Tryz.prog 12 #[.int .i64 n, .int .i64 d] w (RetFE w (newR n d) 0) := by
  have H := bx (And.intro (And.intro h1 h2) (And.intro h3 h4))
  have HD := bx hd
  have hde : (d == 0) = false := beq_eq_false_iff_ne.2 hd
  have B1 : Bx (Bd 64 n.natAbs) := bx (by unfold Bd; omega)
  have B2 : Bx (Bd 64 d.natAbs) := bx (by unfold Bd; omega)
  clear h1 h2 h3 h4 hd
  go_enter Tryz.func12, Tryz.ntmps12
  go_wp2_with fail
  obtain ⟨w1, e1, oR, b1, s1⟩ := layA w [.bool false, .slice none 0 0, .slice none 0 0] 33
  rw [e1]
  clear e1
  have B := b1
  clear b1
  refine Calls.mono (magnitude_num _ n H.out.1.1 H.out.1.2) ?_
  rintro e w2 ⟨v1, rfl, h1, b2⟩
  replace oR := oR.gone b2
  replace B := B.trans (b2.mono B.size)
  clear b2
  go_wp2_with fail
  refine Calls.mono (magnitude_num _ d H.out.2.1 H.out.2.2) ?_
  rintro e w3 ⟨v2, rfl, h2, b3⟩
  replace oR := oR.gone b3
  replace h1 := h1.below b3
  replace B := B.trans (b3.mono B.size)
  clear b3
  go_wp2_with fail
  refine Calls.mono (made_num _ _ _ _ _ _ h1 h2 (by have := HD.out; omega) B1.out B2.out (by omega)) ?_
  rintro e w4 ⟨vr, rfl, hr, b4⟩
  replace oR := oR.gone b4
  replace h1 := h1.below b4
  replace h2 := h2.below b4
  replace B := B.trans (b4.mono B.size)
  clear b4
  clear h1 h2
  change IsRef _ vr (newR n d) at hr
  generalize newR n d = q at *
  obtain ⟨vr1, vr2, rfl, hra, hrb⟩ := id hr
  obtain ⟨Ar1, cr1, rfl, _⟩ := id hra
  obtain ⟨Ar2, cr2, rfl, _⟩ := id hrb
  have k1 := oR.cell (i := 0) rfl
  have k2 := oR.fz 0
  have k3 := oR.cell (i := 1) rfl
  have k4 := oR.fz 1
  have k5 := oR.cell (i := 2) rfl
  have k6 := oR.fz 2
  go_wp2
  obtain ⟨wf, HW, ho, _, hN, hBf, _⟩ := oR.put notInt_z3 [.bool (decide (q.num < 0)), .slice Ar1 (digs b32 q.num.natAbs).length cr1, .slice Ar2 (digs b32 q.den).length cr2] rfl notInt3
  simp only [setAll, Nat.reduceAdd] at HW
  (try rw [HW])
  (try simp only [Exit.inBlock, Exit.then])
  have f0 := ho.cell (i := 0) rfl
  have f1 := ho.cell (i := 1) rfl
  have f2 := ho.cell (i := 2) rfl
  refine bodyPost_ret (by simp [results, Tryz.results12, go_sem, f0, f1, f2]; try rfl) rfl ?_
  have HB := hBf _ (by omega) B
  exact ⟨_, rfl, hr.into hN, HB⟩
end Wx
