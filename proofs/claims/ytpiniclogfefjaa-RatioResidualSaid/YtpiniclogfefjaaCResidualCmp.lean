import Derived.Test.YtpiniclogfefjaaProg
import Derived.Handy
import Derived.Deep.RegionHeld3
import Derived.Test.YtpiniclogfefjaaJResidual0
import Derived.Test.YtpiniclogfefjaaCResidualMem
import Derived.Test.YtpiniclogfefjaaJResidual6
import Derived.Test.YtpiniclogfefjaaJResidual16
import Derived.Test.YtpiniclogfefjaaJResidual8
import Derived.Test.YtpiniclogfefjaaJResidual12
import Derived.Test.YtpiniclogfefjaaCResidualRat1
import Derived.Test.YtpiniclogfefjaaJResidual14
import Derived.Test.YtpiniclogfefjaaCResidualRat3
import Derived.Test.YtpiniclogfefjaaJResidual19
namespace Wx
set_option maxRecDepth 100000
open Go Go.RowKit Go.Proofs
set_option linter.unusedVariables false

def HeldP (w : World) (e : TypeId) (ps : List (Nat × Value × Value × Value)) (w' : World) : Prop := Below w.heap.size w w' ∧ (∀ p ∈ ps, Obj3 w' p.1 p.2.1 p.2.2.1 p.2.2.2 e)
theorem HeldP.call {w : World} {e : TypeId} {ps : List (Nat × Value × Value × Value)} {w' w'' : World} {p : Prop} (h : HeldP w e ps w' ∧ p) (hb : Below w'.heap.size w' w'') : HeldP w e ps w'' := by
  obtain ⟨⟨h1, h3⟩, _⟩ := h
  exact ⟨h1.trans (hb.mono h1.size), fun p hp => (h3 p hp).gone hb⟩
theorem HeldP.drew {w : World} {e : TypeId} {ps : List (Nat × Value × Value × Value)} {w' : World} (h : HeldP w e ps w') : HeldP w e ps w'.drew := ⟨h.1.drew, h.2⟩
def cmpF (x y : Rat) : Int := if sgnI x = sgnI y then cmpI (x.num.natAbs * y.den) (y.num.natAbs * x.den) * sgnI x else if sgnI x < sgnI y then -1 else 1
theorem cmpI_range (m n : Nat) : cmpI m n = -1 ∨ cmpI m n = 0 ∨ cmpI m n = 1 := by
  unfold cmpI
  split
  · exact .inl rfl
  · split
    · exact .inr (.inr rfl)
    · exact .inr (.inl rfl)
theorem sgnI_range (x : Rat) : sgnI x = -1 ∨ sgnI x = 0 ∨ sgnI x = 1 := by
  unfold sgnI
  split
  · exact .inl rfl
  · split
    · exact .inr (.inl rfl)
    · exact .inr (.inr rfl)
theorem prod_small {a b : Int} (h1 : a = -1 ∨ a = 0 ∨ a = 1) (h2 : b = -1 ∨ b = 0 ∨ b = 1) : IntKind.i64.wrap (a * b) = a * b := by
  rcases h1 with rfl | rfl | rfl <;> rcases h2 with rfl | rfl | rfl <;> rfl
set_option maxHeartbeats 8000000 in
theorem cmp_a (w : World) (vx vy : Value) (x y : Rat) (hx : IsRat w vx x) (hy : IsRat w vy y) (hs : ¬ sgnI x = sgnI y) (hl : sgnI x < sgnI y) : Calls Try.prog 14 #[vx, vy] w (RetIs w (.int .i64 (-1))) := by
  obtain ⟨vx1, vx2, rfl, hxa, hxb⟩ := id hx
  obtain ⟨Ax1, cx1, rfl, _⟩ := id hxa
  obtain ⟨Ax2, cx2, rfl, _⟩ := id hxb
  obtain ⟨vy1, vy2, rfl, hya, hyb⟩ := id hy
  obtain ⟨Ay1, cy1, rfl, _⟩ := id hya
  obtain ⟨Ay2, cy2, rfl, _⟩ := id hyb
  obtain ⟨sx, hsx⟩ : ∃ s, sgnI x = s := ⟨_, rfl⟩
  obtain ⟨sy, hsy⟩ : ∃ s, sgnI y = s := ⟨_, rfl⟩
  rw [hsx, hsy] at hs
  rw [hsx, hsy] at hl
  have HSX := bx hsx
  have HSY := bx hsy
  clear hsx hsy
  go_enter Try.func14, Try.ntmps14
  go_wp2_with fail
  obtain ⟨w1, e1, o1, b1, s1⟩ := lay3 w (.bool (decide (x.num < 0))) (.slice Ax1 (digs b64 x.num.natAbs).length cx1) (.slice Ax2 (digs b64 (denOf x.den)).length cx2) 32
  obtain ⟨w2, e2, o2, b2, s2⟩ := lay3 w1 (.bool (decide (y.num < 0))) (.slice Ay1 (digs b64 y.num.natAbs).length cy1) (.slice Ay2 (digs b64 (denOf y.den)).length cy2) 32
  rw [e1, e2]
  rw [s1] at o2
  have p1 := (o1.gone b2)
  have p2 := o2
  have B0 := (b1.trans (b2.mono b1.size))
  have hS : ∀ w', HeldP w 32 [(w.heap.size, .bool (decide (x.num < 0)), .slice Ax1 (digs b64 x.num.natAbs).length cx1, .slice Ax2 (digs b64 (denOf x.den)).length cx2), (w.heap.size + 1, .bool (decide (y.num < 0)), .slice Ay1 (digs b64 y.num.natAbs).length cy1, .slice Ay2 (digs b64 (denOf y.den)).length cy2)] w' → HeldP w 32 [(w.heap.size, .bool (decide (x.num < 0)), .slice Ax1 (digs b64 x.num.natAbs).length cx1, .slice Ax2 (digs b64 (denOf x.den)).length cx2), (w.heap.size + 1, .bool (decide (y.num < 0)), .slice Ay1 (digs b64 y.num.natAbs).length cy1, .slice Ay2 (digs b64 (denOf y.den)).length cy2)] w' ∧ w'.cell? ⟨w.heap.size, 0, none⟩ = some (.bool (decide (x.num < 0))) ∧ w'.cell? ⟨w.heap.size, 1, none⟩ = some (.slice Ax1 (digs b64 x.num.natAbs).length cx1) ∧ w'.cell? ⟨w.heap.size, 2, none⟩ = some (.slice Ax2 (digs b64 (denOf x.den)).length cx2) ∧ w'.cell? ⟨w.heap.size + 1, 0, none⟩ = some (.bool (decide (y.num < 0))) ∧ w'.cell? ⟨w.heap.size + 1, 1, none⟩ = some (.slice Ay1 (digs b64 y.num.natAbs).length cy1) ∧ w'.cell? ⟨w.heap.size + 1, 2, none⟩ = some (.slice Ay2 (digs b64 (denOf y.den)).length cy2) := fun w' hh => by
    have q1 := (hh.2 (w.heap.size, .bool (decide (x.num < 0)), .slice Ax1 (digs b64 x.num.natAbs).length cx1, .slice Ax2 (digs b64 (denOf x.den)).length cx2) (by simp))
    have q2 := (hh.2 (w.heap.size + 1, .bool (decide (y.num < 0)), .slice Ay1 (digs b64 y.num.natAbs).length cy1, .slice Ay2 (digs b64 (denOf y.den)).length cy2) (by simp))
    exact ⟨hh, q1.c0, q1.c1, q1.c2, q2.c0, q2.c1, q2.c2⟩
  have H0 : HeldP w 32 [(w.heap.size, .bool (decide (x.num < 0)), .slice Ax1 (digs b64 x.num.natAbs).length cx1, .slice Ax2 (digs b64 (denOf x.den)).length cx2), (w.heap.size + 1, .bool (decide (y.num < 0)), .slice Ay1 (digs b64 y.num.natAbs).length cy1, .slice Ay2 (digs b64 (denOf y.den)).length cy2)] w2 := ⟨B0, by intro p hp; simp at hp; rcases hp with rfl | rfl; exact p1; exact p2⟩
  clear e1 e2
  have hz := H0.drew
  go_region_held3 (fun w' => HeldP w 32 [(w.heap.size, .bool (decide (x.num < 0)), .slice Ax1 (digs b64 x.num.natAbs).length cx1, .slice Ax2 (digs b64 (denOf x.den)).length cx2), (w.heap.size + 1, .bool (decide (y.num < 0)), .slice Ay1 (digs b64 y.num.natAbs).length cy1, .slice Ay2 (digs b64 (denOf y.den)).length cy2)] w' ∧ w'.cell? ⟨w.heap.size, 0, none⟩ = some (.bool (decide (x.num < 0))) ∧ w'.cell? ⟨w.heap.size, 1, none⟩ = some (.slice Ax1 (digs b64 x.num.natAbs).length cx1) ∧ w'.cell? ⟨w.heap.size, 2, none⟩ = some (.slice Ax2 (digs b64 (denOf x.den)).length cx2) ∧ w'.cell? ⟨w.heap.size + 1, 0, none⟩ = some (.bool (decide (y.num < 0))) ∧ w'.cell? ⟨w.heap.size + 1, 1, none⟩ = some (.slice Ay1 (digs b64 y.num.natAbs).length cy1) ∧ w'.cell? ⟨w.heap.size + 1, 2, none⟩ = some (.slice Ay2 (digs b64 (denOf y.den)).length cy2))
    (exact hS _ hz)
    (first
      | (go_at_call 24; have hc := sign_num _ _ x (hx.below hz.1); (with_reducible refine Calls.mono hc ?_); clear hc; rintro e wz ⟨rfl, hb⟩; rw [HSX.out]; (try have hux := hux.below hb); (try have huy := huy.below hb); (try have ht1 := ht1.below hb); (try have ht2 := ht2.below hb); have hz := HeldP.call (by assumption) hb)
      | (go_at_call 24; have hc := sign_num _ _ y (hy.below hz.1); (with_reducible refine Calls.mono hc ?_); clear hc; rintro e wz ⟨rfl, hb⟩; rw [HSY.out]; (try have hux := hux.below hb); (try have huy := huy.below hb); (try have ht1 := ht1.below hb); (try have ht2 := ht2.below hb); have hz := HeldP.call (by assumption) hb))
  all_goals (
    go_wp2
    go_ret
    exact ⟨rfl, hz.1⟩)
set_option maxHeartbeats 8000000 in
theorem cmp_b (w : World) (vx vy : Value) (x y : Rat) (hx : IsRat w vx x) (hy : IsRat w vy y) (hs : ¬ sgnI x = sgnI y) (hl : ¬ sgnI x < sgnI y) : Calls Try.prog 14 #[vx, vy] w (RetIs w (.int .i64 (1))) := by
  obtain ⟨vx1, vx2, rfl, hxa, hxb⟩ := id hx
  obtain ⟨Ax1, cx1, rfl, _⟩ := id hxa
  obtain ⟨Ax2, cx2, rfl, _⟩ := id hxb
  obtain ⟨vy1, vy2, rfl, hya, hyb⟩ := id hy
  obtain ⟨Ay1, cy1, rfl, _⟩ := id hya
  obtain ⟨Ay2, cy2, rfl, _⟩ := id hyb
  obtain ⟨sx, hsx⟩ : ∃ s, sgnI x = s := ⟨_, rfl⟩
  obtain ⟨sy, hsy⟩ : ∃ s, sgnI y = s := ⟨_, rfl⟩
  rw [hsx, hsy] at hs
  rw [hsx, hsy] at hl
  have HSX := bx hsx
  have HSY := bx hsy
  clear hsx hsy
  go_enter Try.func14, Try.ntmps14
  go_wp2_with fail
  obtain ⟨w1, e1, o1, b1, s1⟩ := lay3 w (.bool (decide (x.num < 0))) (.slice Ax1 (digs b64 x.num.natAbs).length cx1) (.slice Ax2 (digs b64 (denOf x.den)).length cx2) 32
  obtain ⟨w2, e2, o2, b2, s2⟩ := lay3 w1 (.bool (decide (y.num < 0))) (.slice Ay1 (digs b64 y.num.natAbs).length cy1) (.slice Ay2 (digs b64 (denOf y.den)).length cy2) 32
  rw [e1, e2]
  rw [s1] at o2
  have p1 := (o1.gone b2)
  have p2 := o2
  have B0 := (b1.trans (b2.mono b1.size))
  have hS : ∀ w', HeldP w 32 [(w.heap.size, .bool (decide (x.num < 0)), .slice Ax1 (digs b64 x.num.natAbs).length cx1, .slice Ax2 (digs b64 (denOf x.den)).length cx2), (w.heap.size + 1, .bool (decide (y.num < 0)), .slice Ay1 (digs b64 y.num.natAbs).length cy1, .slice Ay2 (digs b64 (denOf y.den)).length cy2)] w' → HeldP w 32 [(w.heap.size, .bool (decide (x.num < 0)), .slice Ax1 (digs b64 x.num.natAbs).length cx1, .slice Ax2 (digs b64 (denOf x.den)).length cx2), (w.heap.size + 1, .bool (decide (y.num < 0)), .slice Ay1 (digs b64 y.num.natAbs).length cy1, .slice Ay2 (digs b64 (denOf y.den)).length cy2)] w' ∧ w'.cell? ⟨w.heap.size, 0, none⟩ = some (.bool (decide (x.num < 0))) ∧ w'.cell? ⟨w.heap.size, 1, none⟩ = some (.slice Ax1 (digs b64 x.num.natAbs).length cx1) ∧ w'.cell? ⟨w.heap.size, 2, none⟩ = some (.slice Ax2 (digs b64 (denOf x.den)).length cx2) ∧ w'.cell? ⟨w.heap.size + 1, 0, none⟩ = some (.bool (decide (y.num < 0))) ∧ w'.cell? ⟨w.heap.size + 1, 1, none⟩ = some (.slice Ay1 (digs b64 y.num.natAbs).length cy1) ∧ w'.cell? ⟨w.heap.size + 1, 2, none⟩ = some (.slice Ay2 (digs b64 (denOf y.den)).length cy2) := fun w' hh => by
    have q1 := (hh.2 (w.heap.size, .bool (decide (x.num < 0)), .slice Ax1 (digs b64 x.num.natAbs).length cx1, .slice Ax2 (digs b64 (denOf x.den)).length cx2) (by simp))
    have q2 := (hh.2 (w.heap.size + 1, .bool (decide (y.num < 0)), .slice Ay1 (digs b64 y.num.natAbs).length cy1, .slice Ay2 (digs b64 (denOf y.den)).length cy2) (by simp))
    exact ⟨hh, q1.c0, q1.c1, q1.c2, q2.c0, q2.c1, q2.c2⟩
  have H0 : HeldP w 32 [(w.heap.size, .bool (decide (x.num < 0)), .slice Ax1 (digs b64 x.num.natAbs).length cx1, .slice Ax2 (digs b64 (denOf x.den)).length cx2), (w.heap.size + 1, .bool (decide (y.num < 0)), .slice Ay1 (digs b64 y.num.natAbs).length cy1, .slice Ay2 (digs b64 (denOf y.den)).length cy2)] w2 := ⟨B0, by intro p hp; simp at hp; rcases hp with rfl | rfl; exact p1; exact p2⟩
  clear e1 e2
  have hz := H0.drew
  go_region_held3 (fun w' => HeldP w 32 [(w.heap.size, .bool (decide (x.num < 0)), .slice Ax1 (digs b64 x.num.natAbs).length cx1, .slice Ax2 (digs b64 (denOf x.den)).length cx2), (w.heap.size + 1, .bool (decide (y.num < 0)), .slice Ay1 (digs b64 y.num.natAbs).length cy1, .slice Ay2 (digs b64 (denOf y.den)).length cy2)] w' ∧ w'.cell? ⟨w.heap.size, 0, none⟩ = some (.bool (decide (x.num < 0))) ∧ w'.cell? ⟨w.heap.size, 1, none⟩ = some (.slice Ax1 (digs b64 x.num.natAbs).length cx1) ∧ w'.cell? ⟨w.heap.size, 2, none⟩ = some (.slice Ax2 (digs b64 (denOf x.den)).length cx2) ∧ w'.cell? ⟨w.heap.size + 1, 0, none⟩ = some (.bool (decide (y.num < 0))) ∧ w'.cell? ⟨w.heap.size + 1, 1, none⟩ = some (.slice Ay1 (digs b64 y.num.natAbs).length cy1) ∧ w'.cell? ⟨w.heap.size + 1, 2, none⟩ = some (.slice Ay2 (digs b64 (denOf y.den)).length cy2))
    (exact hS _ hz)
    (first
      | (go_at_call 24; have hc := sign_num _ _ x (hx.below hz.1); (with_reducible refine Calls.mono hc ?_); clear hc; rintro e wz ⟨rfl, hb⟩; rw [HSX.out]; (try have hux := hux.below hb); (try have huy := huy.below hb); (try have ht1 := ht1.below hb); (try have ht2 := ht2.below hb); have hz := HeldP.call (by assumption) hb)
      | (go_at_call 24; have hc := sign_num _ _ y (hy.below hz.1); (with_reducible refine Calls.mono hc ?_); clear hc; rintro e wz ⟨rfl, hb⟩; rw [HSY.out]; (try have hux := hux.below hb); (try have huy := huy.below hb); (try have ht1 := ht1.below hb); (try have ht2 := ht2.below hb); have hz := HeldP.call (by assumption) hb))
  all_goals (
    go_wp2
    go_ret
    exact ⟨rfl, hz.1⟩)
set_option maxHeartbeats 8000000 in
theorem cmp_c (w : World) (vx vy : Value) (x y : Rat) (hx : IsRat w vx x) (hy : IsRat w vy y) {j k : Nat} (hj : BdR j x) (hk : BdR k y) (hjk : j + k ≤ 100000000) (hs : sgnI x = sgnI y) : Calls Try.prog 14 #[vx, vy] w (RetIs w (.int .i64 (cmpI (x.num.natAbs * y.den) (y.num.natAbs * x.den) * sgnI x))) := by
  obtain ⟨vx1, vx2, rfl, hxa, hxb⟩ := id hx
  obtain ⟨Ax1, cx1, rfl, _⟩ := id hxa
  obtain ⟨Ax2, cx2, rfl, _⟩ := id hxb
  obtain ⟨vy1, vy2, rfl, hya, hyb⟩ := id hy
  obtain ⟨Ay1, cy1, rfl, _⟩ := id hya
  obtain ⟨Ay2, cy2, rfl, _⟩ := id hyb
  have hpr := prod_small (cmpI_range (x.num.natAbs * y.den) (y.num.natAbs * x.den)) (sgnI_range x)
  have hdx := x.den_pos
  have hdy := y.den_pos
  have HB := bx (And.intro hj hk)
  have hj1 : j ≤ 1000000000 := by omega
  have hk1 : k ≤ 1000000000 := by omega
  clear hj hk
  obtain ⟨sx, hsx⟩ : ∃ s, sgnI x = s := ⟨_, rfl⟩
  obtain ⟨sy, hsy⟩ : ∃ s, sgnI y = s := ⟨_, rfl⟩
  rw [hsx, hsy] at hs
  rw [hsx] at hpr ⊢
  subst hs
  obtain ⟨cc, hcc⟩ : ∃ c, cmpI (x.num.natAbs * y.den) (y.num.natAbs * x.den) = c := ⟨_, rfl⟩
  rw [hcc] at hpr ⊢
  have HCC := bx hcc
  clear hcc
  have HSX := bx hsx
  have HSY := bx hsy
  clear hsx hsy
  go_enter Try.func14, Try.ntmps14
  go_wp2_with fail
  obtain ⟨w1, e1, o1, b1, s1⟩ := lay3 w (.bool (decide (x.num < 0))) (.slice Ax1 (digs b64 x.num.natAbs).length cx1) (.slice Ax2 (digs b64 (denOf x.den)).length cx2) 32
  obtain ⟨w2, e2, o2, b2, s2⟩ := lay3 w1 (.bool (decide (y.num < 0))) (.slice Ay1 (digs b64 y.num.natAbs).length cy1) (.slice Ay2 (digs b64 (denOf y.den)).length cy2) 32
  rw [e1, e2]
  rw [s1] at o2
  have p1 := (o1.gone b2)
  have p2 := o2
  have B0 := (b1.trans (b2.mono b1.size))
  have hS : ∀ w', HeldP w 32 [(w.heap.size, .bool (decide (x.num < 0)), .slice Ax1 (digs b64 x.num.natAbs).length cx1, .slice Ax2 (digs b64 (denOf x.den)).length cx2), (w.heap.size + 1, .bool (decide (y.num < 0)), .slice Ay1 (digs b64 y.num.natAbs).length cy1, .slice Ay2 (digs b64 (denOf y.den)).length cy2)] w' → HeldP w 32 [(w.heap.size, .bool (decide (x.num < 0)), .slice Ax1 (digs b64 x.num.natAbs).length cx1, .slice Ax2 (digs b64 (denOf x.den)).length cx2), (w.heap.size + 1, .bool (decide (y.num < 0)), .slice Ay1 (digs b64 y.num.natAbs).length cy1, .slice Ay2 (digs b64 (denOf y.den)).length cy2)] w' ∧ w'.cell? ⟨w.heap.size, 0, none⟩ = some (.bool (decide (x.num < 0))) ∧ w'.cell? ⟨w.heap.size, 1, none⟩ = some (.slice Ax1 (digs b64 x.num.natAbs).length cx1) ∧ w'.cell? ⟨w.heap.size, 2, none⟩ = some (.slice Ax2 (digs b64 (denOf x.den)).length cx2) ∧ w'.cell? ⟨w.heap.size + 1, 0, none⟩ = some (.bool (decide (y.num < 0))) ∧ w'.cell? ⟨w.heap.size + 1, 1, none⟩ = some (.slice Ay1 (digs b64 y.num.natAbs).length cy1) ∧ w'.cell? ⟨w.heap.size + 1, 2, none⟩ = some (.slice Ay2 (digs b64 (denOf y.den)).length cy2) := fun w' hh => by
    have q1 := (hh.2 (w.heap.size, .bool (decide (x.num < 0)), .slice Ax1 (digs b64 x.num.natAbs).length cx1, .slice Ax2 (digs b64 (denOf x.den)).length cx2) (by simp))
    have q2 := (hh.2 (w.heap.size + 1, .bool (decide (y.num < 0)), .slice Ay1 (digs b64 y.num.natAbs).length cy1, .slice Ay2 (digs b64 (denOf y.den)).length cy2) (by simp))
    exact ⟨hh, q1.c0, q1.c1, q1.c2, q2.c0, q2.c1, q2.c2⟩
  have H0 : HeldP w 32 [(w.heap.size, .bool (decide (x.num < 0)), .slice Ax1 (digs b64 x.num.natAbs).length cx1, .slice Ax2 (digs b64 (denOf x.den)).length cx2), (w.heap.size + 1, .bool (decide (y.num < 0)), .slice Ay1 (digs b64 y.num.natAbs).length cy1, .slice Ay2 (digs b64 (denOf y.den)).length cy2)] w2 := ⟨B0, by intro p hp; simp at hp; rcases hp with rfl | rfl; exact p1; exact p2⟩
  clear e1 e2
  have hz := H0.drew
  go_region_held3 (fun w' => HeldP w 32 [(w.heap.size, .bool (decide (x.num < 0)), .slice Ax1 (digs b64 x.num.natAbs).length cx1, .slice Ax2 (digs b64 (denOf x.den)).length cx2), (w.heap.size + 1, .bool (decide (y.num < 0)), .slice Ay1 (digs b64 y.num.natAbs).length cy1, .slice Ay2 (digs b64 (denOf y.den)).length cy2)] w' ∧ w'.cell? ⟨w.heap.size, 0, none⟩ = some (.bool (decide (x.num < 0))) ∧ w'.cell? ⟨w.heap.size, 1, none⟩ = some (.slice Ax1 (digs b64 x.num.natAbs).length cx1) ∧ w'.cell? ⟨w.heap.size, 2, none⟩ = some (.slice Ax2 (digs b64 (denOf x.den)).length cx2) ∧ w'.cell? ⟨w.heap.size + 1, 0, none⟩ = some (.bool (decide (y.num < 0))) ∧ w'.cell? ⟨w.heap.size + 1, 1, none⟩ = some (.slice Ay1 (digs b64 y.num.natAbs).length cy1) ∧ w'.cell? ⟨w.heap.size + 1, 2, none⟩ = some (.slice Ay2 (digs b64 (denOf y.den)).length cy2))
    (exact hS _ hz)
    (first
      | (go_at_call 24; have hc := sign_num _ _ x (hx.below hz.1); (with_reducible refine Calls.mono hc ?_); clear hc; rintro e wz ⟨rfl, hb⟩; rw [HSX.out]; (try have hux := hux.below hb); (try have huy := huy.below hb); (try have ht1 := ht1.below hb); (try have ht2 := ht2.below hb); have hz := HeldP.call (by assumption) hb)
      | (go_at_call 24; have hc := sign_num _ _ y (hy.below hz.1); (with_reducible refine Calls.mono hc ?_); clear hc; rintro e wz ⟨rfl, hb⟩; rw [HSY.out]; (try have hux := hux.below hb); (try have huy := huy.below hb); (try have ht1 := ht1.below hb); (try have ht2 := ht2.below hb); have hz := HeldP.call (by assumption) hb))
  all_goals (
    go_wp2_with fail
    have hz := hz.drew
    go_region_held3 (fun w' => HeldP w 32 [(w.heap.size, .bool (decide (x.num < 0)), .slice Ax1 (digs b64 x.num.natAbs).length cx1, .slice Ax2 (digs b64 (denOf x.den)).length cx2), (w.heap.size + 1, .bool (decide (y.num < 0)), .slice Ay1 (digs b64 y.num.natAbs).length cy1, .slice Ay2 (digs b64 (denOf y.den)).length cy2)] w' ∧ w'.cell? ⟨w.heap.size, 0, none⟩ = some (.bool (decide (x.num < 0))) ∧ w'.cell? ⟨w.heap.size, 1, none⟩ = some (.slice Ax1 (digs b64 x.num.natAbs).length cx1) ∧ w'.cell? ⟨w.heap.size, 2, none⟩ = some (.slice Ax2 (digs b64 (denOf x.den)).length cx2) ∧ w'.cell? ⟨w.heap.size + 1, 0, none⟩ = some (.bool (decide (y.num < 0))) ∧ w'.cell? ⟨w.heap.size + 1, 1, none⟩ = some (.slice Ay1 (digs b64 y.num.natAbs).length cy1) ∧ w'.cell? ⟨w.heap.size + 1, 2, none⟩ = some (.slice Ay2 (digs b64 (denOf y.den)).length cy2))
      (exact hS _ hz)
      (first
        | (go_at_call 40; have hc := under_num _ _ x.den (hxb.below hz.1) hdx; (with_reducible refine Calls.mono hc ?_); clear hc; rintro e wz ⟨vux, rfl, hux, hb⟩; (try have hux := hux.below hb); (try have huy := huy.below hb); (try have ht1 := ht1.below hb); (try have ht2 := ht2.below hb); have hz := HeldP.call (by assumption) hb)
        | (go_at_call 40; have hc := under_num _ _ y.den (hyb.below hz.1) hdy; (with_reducible refine Calls.mono hc ?_); clear hc; rintro e wz ⟨vuy, rfl, huy, hb⟩; (try have hux := hux.below hb); (try have huy := huy.below hb); (try have ht1 := ht1.below hb); (try have ht2 := ht2.below hb); have hz := HeldP.call (by assumption) hb)
        | (go_at_call 39; have hc := times_num _ _ _ _ _ (hxa.below hz.1) huy HB.out.1.1 HB.out.2.2 hj1 hk1; (with_reducible refine Calls.mono hc ?_); clear hc; rintro e wz ⟨vt1, rfl, ht1, hb⟩; (try have hux := hux.below hb); (try have huy := huy.below hb); (try have ht1 := ht1.below hb); (try have ht2 := ht2.below hb); have hz := HeldP.call (by assumption) hb)
        | (go_at_call 39; have hc := times_num _ _ _ _ _ (hya.below hz.1) hux HB.out.2.1 HB.out.1.2 hk1 hj1; (with_reducible refine Calls.mono hc ?_); clear hc; rintro e wz ⟨vt2, rfl, ht2, hb⟩; (try have hux := hux.below hb); (try have huy := huy.below hb); (try have ht1 := ht1.below hb); (try have ht2 := ht2.below hb); have hz := HeldP.call (by assumption) hb)
        | (go_at_call 42; have hc := cmp_num _ _ _ _ _ ht1 ht2; (with_reducible refine Calls.mono hc ?_); clear hc; rintro e wz ⟨rfl, hb⟩; rw [HCC.out]; (try have hux := hux.below hb); (try have huy := huy.below hb); (try have ht1 := ht1.below hb); (try have ht2 := ht2.below hb); have hz := HeldP.call (by assumption) hb)
        | (go_at_call 24; have hc := sign_num _ _ x (hx.below hz.1); (with_reducible refine Calls.mono hc ?_); clear hc; rintro e wz ⟨rfl, hb⟩; rw [HSX.out]; (try have hux := hux.below hb); (try have huy := huy.below hb); (try have ht1 := ht1.below hb); (try have ht2 := ht2.below hb); have hz := HeldP.call (by assumption) hb))
    all_goals (
      go_wp2
      go_ret
      exact ⟨rfl, hz.1⟩))
theorem cmp_rat (w : World) (vx vy : Value) (x y : Rat) (hx : IsRat w vx x) (hy : IsRat w vy y) {j k : Nat} (hj : BdR j x) (hk : BdR k y) (hjk : j + k ≤ 100000000) : Calls Try.prog 14 #[vx, vy] w (RetIs w (.int .i64 (cmpF x y))) := by
  unfold cmpF
  by_cases hs : sgnI x = sgnI y
  · rw [if_pos hs]; exact cmp_c w vx vy x y hx hy hj hk hjk hs
  · rw [if_neg hs]
    by_cases hl : sgnI x < sgnI y
    · rw [if_pos hl]; exact cmp_a w vx vy x y hx hy hs hl
    · rw [if_neg hl]; exact cmp_b w vx vy x y hx hy hs hl
end Wx
