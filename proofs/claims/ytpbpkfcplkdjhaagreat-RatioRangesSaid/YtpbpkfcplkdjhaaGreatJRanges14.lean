import Derived.Test.YtpbpkfcplkdjhaaGreatProg
import Derived.Handy
import Derived.Deep.RegionHeld3
import Derived.Test.YtpbpkfcplkdjhaaGreatJRanges0
import Derived.Test.YtpbpkfcplkdjhaaGreatJRanges1
import Derived.Test.YtpbpkfcplkdjhaaGreatCLimbs2
import Derived.Test.YtpbpkfcplkdjhaaGreatJRanges3
import Derived.Test.YtpbpkfcplkdjhaaGreatJRanges8
import Derived.Test.YtpbpkfcplkdjhaaGreatCRat1
import Derived.Test.YtpbpkfcplkdjhaaGreatJRanges10
import Derived.Test.YtpbpkfcplkdjhaaGreatCRat3
namespace Wx
open Go Go.RowKit Go.Proofs

def sgnI (x : Rat) : Int := if x.num < 0 then -1 else if x = 0 then 0 else 1
theorem sign_num (w : World) (vx : Value) (x : Rat) (hx : IsRat w vx x) : Calls Tryz.prog 110 #[vx] w (RetIs w (.int .i64 (sgnI x))) := by
  obtain ⟨vx1, vx2, rfl, hxa, hxb⟩ := id hx
  obtain ⟨Ax1, cx1, rfl, _⟩ := id hxa
  obtain ⟨Ax2, cx2, rfl, _⟩ := id hxb
  have hS : sgnI x = if x.num < 0 then -1 else if x = 0 then 0 else 1 := rfl
  generalize sgnI x = z at *
  by_cases h1 : x.num < 0
  · rw [if_pos h1] at hS
    subst hS
    rw [decide_eq_true h1] at *
    go_enter Tryz.func110, Tryz.ntmps110
    go_wp2
    go_ret
    exact ⟨rfl, Below.alloc (Below.refl _ _) (Nat.le_refl _) _⟩
  · rw [if_neg h1] at hS
    rw [decide_eq_false h1] at *
    by_cases h2 : x = 0
    · rw [if_pos h2] at hS
      subst hS
      have HD := bx (decide_eq_true h2)
      clear h2
      go_enter Tryz.func110, Tryz.ntmps110
      go_wp2_with fail
      obtain ⟨w1, e1, o1, b1, s1⟩ := lay3 w (.bool false) (.slice Ax1 (digs b64 x.num.natAbs).length cx1) (.slice Ax2 (digs b64 (denOf x.den)).length cx2) 28
      rw [e1]
      have hc := zero_num w1 _ x (hx.below b1)
      rw [HD.out] at hc
      refine hc.mono ?_
      rintro e w2 ⟨rfl, hb⟩
      go_wp2
      go_ret
      exact ⟨rfl, b1.trans (hb.mono b1.size)⟩
    · rw [if_neg h2] at hS
      subst hS
      have HD := bx (decide_eq_false h2)
      clear h2
      go_enter Tryz.func110, Tryz.ntmps110
      go_wp2_with fail
      obtain ⟨w1, e1, o1, b1, s1⟩ := lay3 w (.bool false) (.slice Ax1 (digs b64 x.num.natAbs).length cx1) (.slice Ax2 (digs b64 (denOf x.den)).length cx2) 28
      rw [e1]
      have hc := zero_num w1 _ x (hx.below b1)
      rw [HD.out] at hc
      refine hc.mono ?_
      rintro e w2 ⟨rfl, hb⟩
      go_wp2
      go_ret
      exact ⟨rfl, b1.trans (hb.mono b1.size)⟩
end Wx

namespace Wx
open Go Go.RowKit Go.Proofs

theorem size_num (w : World) (z : Int) (h1 : -9223372036854775808 ≤ z) (h2 : z ≤ 9223372036854775807) : Calls Tryz.prog 114 #[.int .i64 z] w (RetNum .u64 b64 w z.natAbs) := by
  have HLT : Bx (z.natAbs < b64) := bx (by unfold b64; omega)
  by_cases hz : z < 0
  · have e1 : IntKind.u64.wrap (-IntKind.u64.wrap z) = ((z.natAbs : Nat) : Int) := by
      simp [IntKind.wrap, IntKind.bits, IntKind.signed]; omega
    have E1 := bx e1
    clear e1
    go_enter Tryz.func114, Tryz.ntmps114
    go_wp2_with fail
    rw [E1.out]
    refine (word_num w _ HLT.out).mono ?_
    rintro e w3 ⟨vr, rfl, hr3, hb3⟩
    go_wp2
    go_ret
    exact ⟨_, rfl, hr3, hb3⟩
  · have e1 : z = ((z.natAbs : Nat) : Int) := by omega
    have E1 := bx e1
    clear e1
    go_enter Tryz.func114, Tryz.ntmps114
    go_wp2_with fail
    have hc := word_num w _ HLT.out
    rw [← E1.out] at hc
    refine hc.mono ?_
    rintro e w3 ⟨vr, rfl, hr3, hb3⟩
    go_wp2
    go_ret
    exact ⟨_, rfl, hr3, hb3⟩

theorem int_num (w : World) (z : Int) (h1 : -9223372036854775808 ≤ z) (h2 : z ≤ 9223372036854775807) : Calls Tryz.prog 64 #[.int .i64 z] w (RetRat w (z : Rat)) := by
  have H := bx (And.intro h1 h2)
  clear h1 h2
  go_enter Tryz.func64, Tryz.ntmps64
  go_wp2_with fail
  obtain ⟨w1, e1, o1, b1, s1⟩ := lay3 w (.bool false) (.slice none 0 0) (.slice none 0 0) 28
  rw [e1]
  refine (size_num w1 z H.out.1 H.out.2).mono ?_
  rintro e w2 ⟨v, rfl, hv, hb⟩
  obtain ⟨A1, c1, rfl, _⟩ := id hv
  have hz : HeldR w w.heap.size 28 [] w2 := ⟨b1.trans (hb.mono b1.size), Nat.le_refl _, by simp, _, _, _, o1.gone hb, notInt_bool _, notInt_slice _ _ _, notInt_slice _ _ _⟩
  obtain ⟨k0, k1, k2, k3, k4, k5⟩ := hz.cells
  clear e1
  go_wp2
  obtain ⟨wf, HW, f0, f1, f2, hfin⟩ := hz.fin (q := (z : Rat)) (A2 := none) (l2 := 0) (c2 := 0) rfl (by rw [Rat.num_intCast]; exact hv) (by rw [Rat.den_intCast]; exact Num.zero _ _ _)
  rw [Rat.num_intCast] at HW f0 hfin
  rw [HW]
  (try simp only [Exit.inBlock, Exit.then])
  refine bodyPost_ret (by simp [results, Tryz.results64, go_sem, f0, f1, f2]; try rfl) rfl ?_
  exact hfin

/-- A ratio and an error. -/
def RetRE (w : World) (q : Rat) (err : Int) (e : Ending) (w' : World) : Prop := ∃ v, e = .returned (.tuple #[v, .int .i64 err]) ∧ IsRat w' v q ∧ Below w.heap.size w w'
theorem RetRE.of {w : World} {q : Rat} {v : Value} {w' : World} (h : RetRat w q (.returned v) w') (err : Int) : RetRE w q err (.returned (.tuple #[v, .int .i64 err])) w' := by
  obtain ⟨v', e, h1, h2⟩ := h
  injection e with e
  subst e
  exact ⟨_, rfl, h1, h2⟩
/-- What New says. -/
def newR (n d : Int) : Rat := redR (!(decide (n < 0) == decide (d < 0))) n.natAbs d.natAbs

theorem new_zero (w : World) (n : Int) : Calls Tryz.prog 65 #[.int .i64 n, .int .i64 0] w (RetRE w 0 3) := by
  go_enter Tryz.func65, Tryz.ntmps65
  go_wp2
  go_returns
  exact ⟨_, rfl, isRat_zero _, Below.alloc (Below.refl _ _) (Nat.le_refl _) _⟩

theorem new_num (w : World) (n d : Int) (h1 : -9223372036854775808 ≤ n) (h2 : n ≤ 9223372036854775807) (h3 : -9223372036854775808 ≤ d) (h4 : d ≤ 9223372036854775807) (hd : d ≠ 0) :
    Calls Tryz.prog 65 #[.int .i64 n, .int .i64 d] w (RetRE w (newR n d) 0) := by
  have H := bx (And.intro (And.intro h1 h2) (And.intro h3 h4))
  have HD := bx hd
  have hde : (d == 0) = false := beq_eq_false_iff_ne.2 hd
  have B1 : Bx (Bd 64 n.natAbs) := bx (by unfold Bd; omega)
  have B2 : Bx (Bd 64 d.natAbs) := bx (by unfold Bd; omega)
  clear h1 h2 h3 h4 hd
  go_enter Tryz.func65, Tryz.ntmps65
  go_wp2_with fail
  obtain ⟨w1, e1, o1, b1, s1⟩ := lay3 w (.bool false) (.slice none 0 0) (.slice none 0 0) 28
  rw [e1]
  refine (size_num w1 n H.out.1.1 H.out.1.2).mono ?_
  rintro e w2 ⟨vn, rfl, hn, hb⟩
  go_wp2_with fail
  refine (size_num w2 d H.out.2.1 H.out.2.2).mono ?_
  rintro e w3 ⟨vd, rfl, hd, hb3⟩
  have hn3 := hn.below hb3
  go_wp2_with fail
  refine (reduced_num w3 _ _ _ _ _ hn3 hd (by have := HD.out; omega) B1.out B2.out (by omega)).mono ?_
  rintro e w4 ⟨vr, rfl, hrr, hb4⟩
  change IsRat w4 vr (newR n d) at hrr
  obtain ⟨vrn, vrd, rfl, hrn, hrd⟩ := hrr
  obtain ⟨Ar1, cr1, rfl, _⟩ := id hrn
  obtain ⟨Ar2, cr2, rfl, _⟩ := id hrd
  have o4 := ((o1.gone hb).gone hb3).gone hb4
  have hz : HeldR w w.heap.size 28 [] w4 := ⟨((b1.trans (hb.mono b1.size)).trans (hb3.mono (Nat.le_trans b1.size hb.size))).trans (hb4.mono (Nat.le_trans (Nat.le_trans b1.size hb.size) hb3.size)), Nat.le_refl _, by simp, _, _, _, o4, notInt_bool _, notInt_slice _ _ _, notInt_slice _ _ _⟩
  obtain ⟨k0, k1, k2, k3, k4, k5⟩ := hz.cells
  clear e1
  go_wp2
  obtain ⟨wf, HW, f0, f1, f2, hfin⟩ := hz.fin rfl hrn hrd
  rw [HW]
  (try simp only [Exit.inBlock, Exit.then])
  refine bodyPost_ret (by simp [results, Tryz.results65, go_sem, f0, f1, f2]; try rfl) rfl ?_
  exact RetRE.of hfin 0
end Wx

namespace Wx
open Go Go.RowKit Go.Proofs
set_option linter.unusedVariables false

def HeldP (w : World) (e : TypeId) (ps : List (Nat × Value × Value × Value)) (w' : World) : Prop := Below w.heap.size w w' ∧ (∀ p ∈ ps, Obj3 w' p.1 p.2.1 p.2.2.1 p.2.2.2 e)
theorem HeldP.call {w : World} {e : TypeId} {ps : List (Nat × Value × Value × Value)} {w' w'' : World} {p : Prop} (h : HeldP w e ps w' ∧ p) (hb : Below w'.heap.size w' w'') : HeldP w e ps w'' := by
  obtain ⟨⟨h1, h3⟩, _⟩ := h
  exact ⟨h1.trans (hb.mono h1.size), fun p hp => (h3 p hp).gone hb⟩
theorem HeldP.drew {w : World} {e : TypeId} {ps : List (Nat × Value × Value × Value)} {w' : World} (h : HeldP w e ps w') : HeldP w e ps w'.drew := ⟨h.1.drew, h.2⟩
/-- What Cmp computes. -/
def cmpF (x y : Rat) : Int := if sgnI x = sgnI y then cmpI (x.num.natAbs * y.den) (y.num.natAbs * x.den) * sgnI x else if sgnI x < sgnI y then -1 else 1
theorem cmpI_range (m n : Nat) : cmpI m n = -1 ∨ cmpI m n = 0 ∨ cmpI m n = 1 := by
  unfold cmpI
  split
  · exact .inl rfl
  · split
    · exact .inr (.inr rfl)
    · exact .inr (.inl rfl)
theorem sgnI_range (x : Rat) : sgnI x = -1 ∨ sgnI x = 0 ∨ sgnI x = 1 := by
  unfold sgnI
  split
  · exact .inl rfl
  · split
    · exact .inr (.inl rfl)
    · exact .inr (.inr rfl)
theorem prod_small {a b : Int} (h1 : a = -1 ∨ a = 0 ∨ a = 1) (h2 : b = -1 ∨ b = 0 ∨ b = 1) : IntKind.i64.wrap (a * b) = a * b := by
  rcases h1 with rfl | rfl | rfl <;> rcases h2 with rfl | rfl | rfl <;> rfl
set_option maxRecDepth 100000 in
set_option maxHeartbeats 8000000 in
theorem cmp_a (w : World) (vx vy : Value) (x y : Rat) (hx : IsRat w vx x) (hy : IsRat w vy y) (hs : ¬ sgnI x = sgnI y) (hl : sgnI x < sgnI y) : Calls Tryz.prog 63 #[vx, vy] w (RetIs w (.int .i64 (-1))) := by
  obtain ⟨vx1, vx2, rfl, hxa, hxb⟩ := id hx
  obtain ⟨Ax1, cx1, rfl, _⟩ := id hxa
  obtain ⟨Ax2, cx2, rfl, _⟩ := id hxb
  obtain ⟨vy1, vy2, rfl, hya, hyb⟩ := id hy
  obtain ⟨Ay1, cy1, rfl, _⟩ := id hya
  obtain ⟨Ay2, cy2, rfl, _⟩ := id hyb
  obtain ⟨sx, hsx⟩ : ∃ s, sgnI x = s := ⟨_, rfl⟩
  obtain ⟨sy, hsy⟩ : ∃ s, sgnI y = s := ⟨_, rfl⟩
  rw [hsx, hsy] at hs
  rw [hsx, hsy] at hl
  have HSX := bx hsx
  have HSY := bx hsy
  clear hsx hsy
  go_enter Tryz.func63, Tryz.ntmps63
  go_wp2_with fail
  obtain ⟨w1, e1, o1, b1, s1⟩ := lay3 w (.bool (decide (x.num < 0))) (.slice Ax1 (digs b64 x.num.natAbs).length cx1) (.slice Ax2 (digs b64 (denOf x.den)).length cx2) 28
  obtain ⟨w2, e2, o2, b2, s2⟩ := lay3 w1 (.bool (decide (y.num < 0))) (.slice Ay1 (digs b64 y.num.natAbs).length cy1) (.slice Ay2 (digs b64 (denOf y.den)).length cy2) 28
  rw [e1, e2]
  rw [s1] at o2
  have p1 := (o1.gone b2)
  have p2 := o2
  have B0 := (b1.trans (b2.mono b1.size))
  have hS : ∀ w', HeldP w 28 [(w.heap.size, .bool (decide (x.num < 0)), .slice Ax1 (digs b64 x.num.natAbs).length cx1, .slice Ax2 (digs b64 (denOf x.den)).length cx2), (w.heap.size + 1, .bool (decide (y.num < 0)), .slice Ay1 (digs b64 y.num.natAbs).length cy1, .slice Ay2 (digs b64 (denOf y.den)).length cy2)] w' → HeldP w 28 [(w.heap.size, .bool (decide (x.num < 0)), .slice Ax1 (digs b64 x.num.natAbs).length cx1, .slice Ax2 (digs b64 (denOf x.den)).length cx2), (w.heap.size + 1, .bool (decide (y.num < 0)), .slice Ay1 (digs b64 y.num.natAbs).length cy1, .slice Ay2 (digs b64 (denOf y.den)).length cy2)] w' ∧ w'.cell? ⟨w.heap.size, 0, none⟩ = some (.bool (decide (x.num < 0))) ∧ w'.cell? ⟨w.heap.size, 1, none⟩ = some (.slice Ax1 (digs b64 x.num.natAbs).length cx1) ∧ w'.cell? ⟨w.heap.size, 2, none⟩ = some (.slice Ax2 (digs b64 (denOf x.den)).length cx2) ∧ w'.cell? ⟨w.heap.size + 1, 0, none⟩ = some (.bool (decide (y.num < 0))) ∧ w'.cell? ⟨w.heap.size + 1, 1, none⟩ = some (.slice Ay1 (digs b64 y.num.natAbs).length cy1) ∧ w'.cell? ⟨w.heap.size + 1, 2, none⟩ = some (.slice Ay2 (digs b64 (denOf y.den)).length cy2) := fun w' hh => by
    have q1 := (hh.2 (w.heap.size, .bool (decide (x.num < 0)), .slice Ax1 (digs b64 x.num.natAbs).length cx1, .slice Ax2 (digs b64 (denOf x.den)).length cx2) (by simp))
    have q2 := (hh.2 (w.heap.size + 1, .bool (decide (y.num < 0)), .slice Ay1 (digs b64 y.num.natAbs).length cy1, .slice Ay2 (digs b64 (denOf y.den)).length cy2) (by simp))
    exact ⟨hh, q1.c0, q1.c1, q1.c2, q2.c0, q2.c1, q2.c2⟩
  have H0 : HeldP w 28 [(w.heap.size, .bool (decide (x.num < 0)), .slice Ax1 (digs b64 x.num.natAbs).length cx1, .slice Ax2 (digs b64 (denOf x.den)).length cx2), (w.heap.size + 1, .bool (decide (y.num < 0)), .slice Ay1 (digs b64 y.num.natAbs).length cy1, .slice Ay2 (digs b64 (denOf y.den)).length cy2)] w2 := ⟨B0, by intro p hp; simp at hp; rcases hp with rfl | rfl; exact p1; exact p2⟩
  clear e1 e2
  have hz := H0.drew
  go_region_held3 (fun w' => HeldP w 28 [(w.heap.size, .bool (decide (x.num < 0)), .slice Ax1 (digs b64 x.num.natAbs).length cx1, .slice Ax2 (digs b64 (denOf x.den)).length cx2), (w.heap.size + 1, .bool (decide (y.num < 0)), .slice Ay1 (digs b64 y.num.natAbs).length cy1, .slice Ay2 (digs b64 (denOf y.den)).length cy2)] w' ∧ w'.cell? ⟨w.heap.size, 0, none⟩ = some (.bool (decide (x.num < 0))) ∧ w'.cell? ⟨w.heap.size, 1, none⟩ = some (.slice Ax1 (digs b64 x.num.natAbs).length cx1) ∧ w'.cell? ⟨w.heap.size, 2, none⟩ = some (.slice Ax2 (digs b64 (denOf x.den)).length cx2) ∧ w'.cell? ⟨w.heap.size + 1, 0, none⟩ = some (.bool (decide (y.num < 0))) ∧ w'.cell? ⟨w.heap.size + 1, 1, none⟩ = some (.slice Ay1 (digs b64 y.num.natAbs).length cy1) ∧ w'.cell? ⟨w.heap.size + 1, 2, none⟩ = some (.slice Ay2 (digs b64 (denOf y.den)).length cy2))
    (exact hS _ hz)
    (first
      | (go_at_call 110; have hc := sign_num _ _ x (hx.below hz.1); (with_reducible refine Calls.mono hc ?_); clear hc; rintro e wz ⟨rfl, hb⟩; rw [HSX.out]; (try have hux := hux.below hb); (try have huy := huy.below hb); (try have ht1 := ht1.below hb); (try have ht2 := ht2.below hb); have hz := HeldP.call (by assumption) hb)
      | (go_at_call 110; have hc := sign_num _ _ y (hy.below hz.1); (with_reducible refine Calls.mono hc ?_); clear hc; rintro e wz ⟨rfl, hb⟩; rw [HSY.out]; (try have hux := hux.below hb); (try have huy := huy.below hb); (try have ht1 := ht1.below hb); (try have ht2 := ht2.below hb); have hz := HeldP.call (by assumption) hb))
  all_goals (
    go_wp2
    go_ret
    exact ⟨rfl, hz.1⟩)
set_option maxRecDepth 100000 in
set_option maxHeartbeats 8000000 in
theorem cmp_b (w : World) (vx vy : Value) (x y : Rat) (hx : IsRat w vx x) (hy : IsRat w vy y) (hs : ¬ sgnI x = sgnI y) (hl : ¬ sgnI x < sgnI y) : Calls Tryz.prog 63 #[vx, vy] w (RetIs w (.int .i64 (1))) := by
  obtain ⟨vx1, vx2, rfl, hxa, hxb⟩ := id hx
  obtain ⟨Ax1, cx1, rfl, _⟩ := id hxa
  obtain ⟨Ax2, cx2, rfl, _⟩ := id hxb
  obtain ⟨vy1, vy2, rfl, hya, hyb⟩ := id hy
  obtain ⟨Ay1, cy1, rfl, _⟩ := id hya
  obtain ⟨Ay2, cy2, rfl, _⟩ := id hyb
  obtain ⟨sx, hsx⟩ : ∃ s, sgnI x = s := ⟨_, rfl⟩
  obtain ⟨sy, hsy⟩ : ∃ s, sgnI y = s := ⟨_, rfl⟩
  rw [hsx, hsy] at hs
  rw [hsx, hsy] at hl
  have HSX := bx hsx
  have HSY := bx hsy
  clear hsx hsy
  go_enter Tryz.func63, Tryz.ntmps63
  go_wp2_with fail
  obtain ⟨w1, e1, o1, b1, s1⟩ := lay3 w (.bool (decide (x.num < 0))) (.slice Ax1 (digs b64 x.num.natAbs).length cx1) (.slice Ax2 (digs b64 (denOf x.den)).length cx2) 28
  obtain ⟨w2, e2, o2, b2, s2⟩ := lay3 w1 (.bool (decide (y.num < 0))) (.slice Ay1 (digs b64 y.num.natAbs).length cy1) (.slice Ay2 (digs b64 (denOf y.den)).length cy2) 28
  rw [e1, e2]
  rw [s1] at o2
  have p1 := (o1.gone b2)
  have p2 := o2
  have B0 := (b1.trans (b2.mono b1.size))
  have hS : ∀ w', HeldP w 28 [(w.heap.size, .bool (decide (x.num < 0)), .slice Ax1 (digs b64 x.num.natAbs).length cx1, .slice Ax2 (digs b64 (denOf x.den)).length cx2), (w.heap.size + 1, .bool (decide (y.num < 0)), .slice Ay1 (digs b64 y.num.natAbs).length cy1, .slice Ay2 (digs b64 (denOf y.den)).length cy2)] w' → HeldP w 28 [(w.heap.size, .bool (decide (x.num < 0)), .slice Ax1 (digs b64 x.num.natAbs).length cx1, .slice Ax2 (digs b64 (denOf x.den)).length cx2), (w.heap.size + 1, .bool (decide (y.num < 0)), .slice Ay1 (digs b64 y.num.natAbs).length cy1, .slice Ay2 (digs b64 (denOf y.den)).length cy2)] w' ∧ w'.cell? ⟨w.heap.size, 0, none⟩ = some (.bool (decide (x.num < 0))) ∧ w'.cell? ⟨w.heap.size, 1, none⟩ = some (.slice Ax1 (digs b64 x.num.natAbs).length cx1) ∧ w'.cell? ⟨w.heap.size, 2, none⟩ = some (.slice Ax2 (digs b64 (denOf x.den)).length cx2) ∧ w'.cell? ⟨w.heap.size + 1, 0, none⟩ = some (.bool (decide (y.num < 0))) ∧ w'.cell? ⟨w.heap.size + 1, 1, none⟩ = some (.slice Ay1 (digs b64 y.num.natAbs).length cy1) ∧ w'.cell? ⟨w.heap.size + 1, 2, none⟩ = some (.slice Ay2 (digs b64 (denOf y.den)).length cy2) := fun w' hh => by
    have q1 := (hh.2 (w.heap.size, .bool (decide (x.num < 0)), .slice Ax1 (digs b64 x.num.natAbs).length cx1, .slice Ax2 (digs b64 (denOf x.den)).length cx2) (by simp))
    have q2 := (hh.2 (w.heap.size + 1, .bool (decide (y.num < 0)), .slice Ay1 (digs b64 y.num.natAbs).length cy1, .slice Ay2 (digs b64 (denOf y.den)).length cy2) (by simp))
    exact ⟨hh, q1.c0, q1.c1, q1.c2, q2.c0, q2.c1, q2.c2⟩
  have H0 : HeldP w 28 [(w.heap.size, .bool (decide (x.num < 0)), .slice Ax1 (digs b64 x.num.natAbs).length cx1, .slice Ax2 (digs b64 (denOf x.den)).length cx2), (w.heap.size + 1, .bool (decide (y.num < 0)), .slice Ay1 (digs b64 y.num.natAbs).length cy1, .slice Ay2 (digs b64 (denOf y.den)).length cy2)] w2 := ⟨B0, by intro p hp; simp at hp; rcases hp with rfl | rfl; exact p1; exact p2⟩
  clear e1 e2
  have hz := H0.drew
  go_region_held3 (fun w' => HeldP w 28 [(w.heap.size, .bool (decide (x.num < 0)), .slice Ax1 (digs b64 x.num.natAbs).length cx1, .slice Ax2 (digs b64 (denOf x.den)).length cx2), (w.heap.size + 1, .bool (decide (y.num < 0)), .slice Ay1 (digs b64 y.num.natAbs).length cy1, .slice Ay2 (digs b64 (denOf y.den)).length cy2)] w' ∧ w'.cell? ⟨w.heap.size, 0, none⟩ = some (.bool (decide (x.num < 0))) ∧ w'.cell? ⟨w.heap.size, 1, none⟩ = some (.slice Ax1 (digs b64 x.num.natAbs).length cx1) ∧ w'.cell? ⟨w.heap.size, 2, none⟩ = some (.slice Ax2 (digs b64 (denOf x.den)).length cx2) ∧ w'.cell? ⟨w.heap.size + 1, 0, none⟩ = some (.bool (decide (y.num < 0))) ∧ w'.cell? ⟨w.heap.size + 1, 1, none⟩ = some (.slice Ay1 (digs b64 y.num.natAbs).length cy1) ∧ w'.cell? ⟨w.heap.size + 1, 2, none⟩ = some (.slice Ay2 (digs b64 (denOf y.den)).length cy2))
    (exact hS _ hz)
    (first
      | (go_at_call 110; have hc := sign_num _ _ x (hx.below hz.1); (with_reducible refine Calls.mono hc ?_); clear hc; rintro e wz ⟨rfl, hb⟩; rw [HSX.out]; (try have hux := hux.below hb); (try have huy := huy.below hb); (try have ht1 := ht1.below hb); (try have ht2 := ht2.below hb); have hz := HeldP.call (by assumption) hb)
      | (go_at_call 110; have hc := sign_num _ _ y (hy.below hz.1); (with_reducible refine Calls.mono hc ?_); clear hc; rintro e wz ⟨rfl, hb⟩; rw [HSY.out]; (try have hux := hux.below hb); (try have huy := huy.below hb); (try have ht1 := ht1.below hb); (try have ht2 := ht2.below hb); have hz := HeldP.call (by assumption) hb))
  all_goals (
    go_wp2
    go_ret
    exact ⟨rfl, hz.1⟩)
set_option maxRecDepth 100000 in
set_option maxHeartbeats 8000000 in
theorem cmp_c (w : World) (vx vy : Value) (x y : Rat) (hx : IsRat w vx x) (hy : IsRat w vy y) {j k : Nat} (hj : BdR j x) (hk : BdR k y) (hjk : j + k ≤ 100000000) (hs : sgnI x = sgnI y) : Calls Tryz.prog 63 #[vx, vy] w (RetIs w (.int .i64 (cmpI (x.num.natAbs * y.den) (y.num.natAbs * x.den) * sgnI x))) := by
  obtain ⟨vx1, vx2, rfl, hxa, hxb⟩ := id hx
  obtain ⟨Ax1, cx1, rfl, _⟩ := id hxa
  obtain ⟨Ax2, cx2, rfl, _⟩ := id hxb
  obtain ⟨vy1, vy2, rfl, hya, hyb⟩ := id hy
  obtain ⟨Ay1, cy1, rfl, _⟩ := id hya
  obtain ⟨Ay2, cy2, rfl, _⟩ := id hyb
  have hpr := prod_small (cmpI_range (x.num.natAbs * y.den) (y.num.natAbs * x.den)) (sgnI_range x)
  have hdx := x.den_pos
  have hdy := y.den_pos
  have HB := bx (And.intro hj hk)
  have hj1 : j ≤ 1000000000 := by omega
  have hk1 : k ≤ 1000000000 := by omega
  clear hj hk
  obtain ⟨sx, hsx⟩ : ∃ s, sgnI x = s := ⟨_, rfl⟩
  obtain ⟨sy, hsy⟩ : ∃ s, sgnI y = s := ⟨_, rfl⟩
  rw [hsx, hsy] at hs
  rw [hsx] at hpr ⊢
  subst hs
  obtain ⟨cc, hcc⟩ : ∃ c, cmpI (x.num.natAbs * y.den) (y.num.natAbs * x.den) = c := ⟨_, rfl⟩
  rw [hcc] at hpr ⊢
  have HCC := bx hcc
  clear hcc
  have HSX := bx hsx
  have HSY := bx hsy
  clear hsx hsy
  go_enter Tryz.func63, Tryz.ntmps63
  go_wp2_with fail
  obtain ⟨w1, e1, o1, b1, s1⟩ := lay3 w (.bool (decide (x.num < 0))) (.slice Ax1 (digs b64 x.num.natAbs).length cx1) (.slice Ax2 (digs b64 (denOf x.den)).length cx2) 28
  obtain ⟨w2, e2, o2, b2, s2⟩ := lay3 w1 (.bool (decide (y.num < 0))) (.slice Ay1 (digs b64 y.num.natAbs).length cy1) (.slice Ay2 (digs b64 (denOf y.den)).length cy2) 28
  rw [e1, e2]
  rw [s1] at o2
  have p1 := (o1.gone b2)
  have p2 := o2
  have B0 := (b1.trans (b2.mono b1.size))
  have hS : ∀ w', HeldP w 28 [(w.heap.size, .bool (decide (x.num < 0)), .slice Ax1 (digs b64 x.num.natAbs).length cx1, .slice Ax2 (digs b64 (denOf x.den)).length cx2), (w.heap.size + 1, .bool (decide (y.num < 0)), .slice Ay1 (digs b64 y.num.natAbs).length cy1, .slice Ay2 (digs b64 (denOf y.den)).length cy2)] w' → HeldP w 28 [(w.heap.size, .bool (decide (x.num < 0)), .slice Ax1 (digs b64 x.num.natAbs).length cx1, .slice Ax2 (digs b64 (denOf x.den)).length cx2), (w.heap.size + 1, .bool (decide (y.num < 0)), .slice Ay1 (digs b64 y.num.natAbs).length cy1, .slice Ay2 (digs b64 (denOf y.den)).length cy2)] w' ∧ w'.cell? ⟨w.heap.size, 0, none⟩ = some (.bool (decide (x.num < 0))) ∧ w'.cell? ⟨w.heap.size, 1, none⟩ = some (.slice Ax1 (digs b64 x.num.natAbs).length cx1) ∧ w'.cell? ⟨w.heap.size, 2, none⟩ = some (.slice Ax2 (digs b64 (denOf x.den)).length cx2) ∧ w'.cell? ⟨w.heap.size + 1, 0, none⟩ = some (.bool (decide (y.num < 0))) ∧ w'.cell? ⟨w.heap.size + 1, 1, none⟩ = some (.slice Ay1 (digs b64 y.num.natAbs).length cy1) ∧ w'.cell? ⟨w.heap.size + 1, 2, none⟩ = some (.slice Ay2 (digs b64 (denOf y.den)).length cy2) := fun w' hh => by
    have q1 := (hh.2 (w.heap.size, .bool (decide (x.num < 0)), .slice Ax1 (digs b64 x.num.natAbs).length cx1, .slice Ax2 (digs b64 (denOf x.den)).length cx2) (by simp))
    have q2 := (hh.2 (w.heap.size + 1, .bool (decide (y.num < 0)), .slice Ay1 (digs b64 y.num.natAbs).length cy1, .slice Ay2 (digs b64 (denOf y.den)).length cy2) (by simp))
    exact ⟨hh, q1.c0, q1.c1, q1.c2, q2.c0, q2.c1, q2.c2⟩
  have H0 : HeldP w 28 [(w.heap.size, .bool (decide (x.num < 0)), .slice Ax1 (digs b64 x.num.natAbs).length cx1, .slice Ax2 (digs b64 (denOf x.den)).length cx2), (w.heap.size + 1, .bool (decide (y.num < 0)), .slice Ay1 (digs b64 y.num.natAbs).length cy1, .slice Ay2 (digs b64 (denOf y.den)).length cy2)] w2 := ⟨B0, by intro p hp; simp at hp; rcases hp with rfl | rfl; exact p1; exact p2⟩
  clear e1 e2
  have hz := H0.drew
  go_region_held3 (fun w' => HeldP w 28 [(w.heap.size, .bool (decide (x.num < 0)), .slice Ax1 (digs b64 x.num.natAbs).length cx1, .slice Ax2 (digs b64 (denOf x.den)).length cx2), (w.heap.size + 1, .bool (decide (y.num < 0)), .slice Ay1 (digs b64 y.num.natAbs).length cy1, .slice Ay2 (digs b64 (denOf y.den)).length cy2)] w' ∧ w'.cell? ⟨w.heap.size, 0, none⟩ = some (.bool (decide (x.num < 0))) ∧ w'.cell? ⟨w.heap.size, 1, none⟩ = some (.slice Ax1 (digs b64 x.num.natAbs).length cx1) ∧ w'.cell? ⟨w.heap.size, 2, none⟩ = some (.slice Ax2 (digs b64 (denOf x.den)).length cx2) ∧ w'.cell? ⟨w.heap.size + 1, 0, none⟩ = some (.bool (decide (y.num < 0))) ∧ w'.cell? ⟨w.heap.size + 1, 1, none⟩ = some (.slice Ay1 (digs b64 y.num.natAbs).length cy1) ∧ w'.cell? ⟨w.heap.size + 1, 2, none⟩ = some (.slice Ay2 (digs b64 (denOf y.den)).length cy2))
    (exact hS _ hz)
    (first
      | (go_at_call 110; have hc := sign_num _ _ x (hx.below hz.1); (with_reducible refine Calls.mono hc ?_); clear hc; rintro e wz ⟨rfl, hb⟩; rw [HSX.out]; (try have hux := hux.below hb); (try have huy := huy.below hb); (try have ht1 := ht1.below hb); (try have ht2 := ht2.below hb); have hz := HeldP.call (by assumption) hb)
      | (go_at_call 110; have hc := sign_num _ _ y (hy.below hz.1); (with_reducible refine Calls.mono hc ?_); clear hc; rintro e wz ⟨rfl, hb⟩; rw [HSY.out]; (try have hux := hux.below hb); (try have huy := huy.below hb); (try have ht1 := ht1.below hb); (try have ht2 := ht2.below hb); have hz := HeldP.call (by assumption) hb))
  all_goals (
    go_wp2_with fail
    have hz := hz.drew
    go_region_held3 (fun w' => HeldP w 28 [(w.heap.size, .bool (decide (x.num < 0)), .slice Ax1 (digs b64 x.num.natAbs).length cx1, .slice Ax2 (digs b64 (denOf x.den)).length cx2), (w.heap.size + 1, .bool (decide (y.num < 0)), .slice Ay1 (digs b64 y.num.natAbs).length cy1, .slice Ay2 (digs b64 (denOf y.den)).length cy2)] w' ∧ w'.cell? ⟨w.heap.size, 0, none⟩ = some (.bool (decide (x.num < 0))) ∧ w'.cell? ⟨w.heap.size, 1, none⟩ = some (.slice Ax1 (digs b64 x.num.natAbs).length cx1) ∧ w'.cell? ⟨w.heap.size, 2, none⟩ = some (.slice Ax2 (digs b64 (denOf x.den)).length cx2) ∧ w'.cell? ⟨w.heap.size + 1, 0, none⟩ = some (.bool (decide (y.num < 0))) ∧ w'.cell? ⟨w.heap.size + 1, 1, none⟩ = some (.slice Ay1 (digs b64 y.num.natAbs).length cy1) ∧ w'.cell? ⟨w.heap.size + 1, 2, none⟩ = some (.slice Ay2 (digs b64 (denOf y.den)).length cy2))
      (exact hS _ hz)
      (first
        | (go_at_call 112; have hc := under_num _ _ x.den (hxb.below hz.1) hdx; (with_reducible refine Calls.mono hc ?_); clear hc; rintro e wz ⟨vux, rfl, hux, hb⟩; (try have hux := hux.below hb); (try have huy := huy.below hb); (try have ht1 := ht1.below hb); (try have ht2 := ht2.below hb); have hz := HeldP.call (by assumption) hb)
        | (go_at_call 112; have hc := under_num _ _ y.den (hyb.below hz.1) hdy; (with_reducible refine Calls.mono hc ?_); clear hc; rintro e wz ⟨vuy, rfl, huy, hb⟩; (try have hux := hux.below hb); (try have huy := huy.below hb); (try have ht1 := ht1.below hb); (try have ht2 := ht2.below hb); have hz := HeldP.call (by assumption) hb)
        | (go_at_call 111; have hc := times_num _ _ _ _ _ (hxa.below hz.1) huy HB.out.1.1 HB.out.2.2 hj1 hk1; (with_reducible refine Calls.mono hc ?_); clear hc; rintro e wz ⟨vt1, rfl, ht1, hb⟩; (try have hux := hux.below hb); (try have huy := huy.below hb); (try have ht1 := ht1.below hb); (try have ht2 := ht2.below hb); have hz := HeldP.call (by assumption) hb)
        | (go_at_call 111; have hc := times_num _ _ _ _ _ (hya.below hz.1) hux HB.out.2.1 HB.out.1.2 hk1 hj1; (with_reducible refine Calls.mono hc ?_); clear hc; rintro e wz ⟨vt2, rfl, ht2, hb⟩; (try have hux := hux.below hb); (try have huy := huy.below hb); (try have ht1 := ht1.below hb); (try have ht2 := ht2.below hb); have hz := HeldP.call (by assumption) hb)
        | (go_at_call 113; have hc := cmp_num _ _ _ _ _ ht1 ht2; (with_reducible refine Calls.mono hc ?_); clear hc; rintro e wz ⟨rfl, hb⟩; rw [HCC.out]; (try have hux := hux.below hb); (try have huy := huy.below hb); (try have ht1 := ht1.below hb); (try have ht2 := ht2.below hb); have hz := HeldP.call (by assumption) hb)
        | (go_at_call 110; have hc := sign_num _ _ x (hx.below hz.1); (with_reducible refine Calls.mono hc ?_); clear hc; rintro e wz ⟨rfl, hb⟩; rw [HSX.out]; (try have hux := hux.below hb); (try have huy := huy.below hb); (try have ht1 := ht1.below hb); (try have ht2 := ht2.below hb); have hz := HeldP.call (by assumption) hb))
    all_goals (
      go_wp2
      go_ret
      exact ⟨rfl, hz.1⟩))
theorem cmp_rat (w : World) (vx vy : Value) (x y : Rat) (hx : IsRat w vx x) (hy : IsRat w vy y) {j k : Nat} (hj : BdR j x) (hk : BdR k y) (hjk : j + k ≤ 100000000) : Calls Tryz.prog 63 #[vx, vy] w (RetIs w (.int .i64 (cmpF x y))) := by
  unfold cmpF
  by_cases hs : sgnI x = sgnI y
  · rw [if_pos hs]; exact cmp_c w vx vy x y hx hy hj hk hjk hs
  · rw [if_neg hs]
    by_cases hl : sgnI x < sgnI y
    · rw [if_pos hl]; exact cmp_a w vx vy x y hx hy hs hl
    · rw [if_neg hl]; exact cmp_b w vx vy x y hx hy hs hl
end Wx
