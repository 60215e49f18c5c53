import Derived.Test.YtncpoijmhgihjaaProg
import Derived.Handy
import Derived.Test.YtncpoijmhgihjaaPlain1
import Derived.Test.YtncpoijmhgihjaaMem
import Derived.Test.YtncpoijmhgihjaaJIncludes3
import Derived.Test.YtncpoijmhgihjaaJIncludes16
import Derived.Test.YtncpoijmhgihjaaJIncludes5
import Derived.Test.YtncpoijmhgihjaaCLimbs5
import Derived.Test.YtncpoijmhgihjaaCDivide
import Derived.Test.YtncpoijmhgihjaaCGcd
import Derived.Test.YtncpoijmhgihjaaCRat1
import Derived.Test.YtncpoijmhgihjaaCRat2
import Derived.Test.YtncpoijmhgihjaaCRat3
import Derived.Test.YtncpoijmhgihjaaJIncludes18
import Derived.Test.YtncpoijmhgihjaaCInt
namespace Wx
open Go Go.RowKit Go.Proofs

theorem denOf_inj {m n : Nat} (hm : 0 < m) (hn : 0 < n) (h : denOf m = denOf n) : m = n := by
  unfold denOf at h
  split at h <;> split at h <;> omega
theorem rat_eq_iff (x y : Rat) : x = y ↔ decide (x.num < 0) = decide (y.num < 0) ∧ x.num.natAbs = y.num.natAbs ∧ denOf x.den = denOf y.den := by
  refine ⟨fun h => by subst h; exact ⟨rfl, rfl, rfl⟩, fun ⟨h1, h2, h3⟩ => ?_⟩
  have hd := denOf_inj x.den_pos y.den_pos h3
  refine Rat.ext ?_ hd
  rw [← sg_mk x.num, ← sg_mk y.num, h1, h2]
theorem cmpI_eq (m : Nat) : cmpI m m = 0 := by unfold cmpI; simp
theorem cmpI_ne {m n : Nat} (h : m ≠ n) : ∃ z, cmpI m n = z ∧ (z == 0) = false := by
  refine ⟨_, rfl, ?_⟩
  unfold cmpI
  rcases Nat.lt_or_gt_of_ne h with h1 | h1
  · rw [if_pos h1]; rfl
  · rw [if_neg (by omega)]; split <;> first | rfl | omega
theorem same_0 (w : World) (vx vy : Value) (x y : Rat) (hx : IsRat w vx x) (hy : IsRat w vy y) (h1 : ¬ decide (x.num < 0) = decide (y.num < 0)) : Calls Try.prog 8 #[vx, vy] w (RetIs w (.bool false)) := by
  obtain ⟨vx1, vx2, rfl, hxa, hxb⟩ := id hx
  obtain ⟨Ax1, cx1, rfl, _⟩ := id hxa
  obtain ⟨Ax2, cx2, rfl, _⟩ := id hxb
  obtain ⟨vy1, vy2, rfl, hya, hyb⟩ := id hy
  obtain ⟨Ay1, cy1, rfl, _⟩ := id hya
  obtain ⟨Ay2, cy2, rfl, _⟩ := id hyb
  have hf : (decide (x.num < 0) == decide (y.num < 0)) = false := beq_eq_false_iff_ne.2 h1
  clear h1
  go_enter Try.func8, Try.ntmps8
  go_wp2
  go_ret
  exact ⟨rfl, (Below.alloc (Below.refl _ _) (Nat.le_refl _) _).alloc (by simp) _⟩
theorem same_1 (w : World) (vx vy : Value) (x y : Rat) (hx : IsRat w vx x) (hy : IsRat w vy y) (h1 : decide (x.num < 0) = decide (y.num < 0)) (h2 : ¬ x.num.natAbs = y.num.natAbs) : Calls Try.prog 8 #[vx, vy] w (RetIs w (.bool false)) := by
  obtain ⟨vx1, vx2, rfl, hxa, hxb⟩ := id hx
  obtain ⟨Ax1, cx1, rfl, _⟩ := id hxa
  obtain ⟨Ax2, cx2, rfl, _⟩ := id hxb
  obtain ⟨vy1, vy2, rfl, hya, hyb⟩ := id hy
  obtain ⟨Ay1, cy1, rfl, _⟩ := id hya
  obtain ⟨Ay2, cy2, rfl, _⟩ := id hyb
  have hf : (decide (x.num < 0) == decide (y.num < 0)) = true := beq_iff_eq.2 h1
  obtain ⟨z, hz, hz0⟩ := cmpI_ne h2
  have HZ := bx hz
  clear h1 h2 hz
  go_enter Try.func8, Try.ntmps8
  go_wp2_with fail
  obtain ⟨w1, e1, o1, b1, s1⟩ := lay3 w (.bool (decide (x.num < 0))) (.slice Ax1 (digs b64 x.num.natAbs).length cx1) (.slice Ax2 (digs b64 (denOf x.den)).length cx2) 27
  obtain ⟨w2, e2, o2, b2, s2⟩ := lay3 w1 (.bool (decide (y.num < 0))) (.slice Ay1 (digs b64 y.num.natAbs).length cy1) (.slice Ay2 (digs b64 (denOf y.den)).length cy2) 27
  rw [e1, e2]
  rw [s1] at o2
  have p1 := o1.gone b2
  have B := b1.trans (b2.mono b1.size)
  have k0 := p1.c0
  have k1 := p1.c1
  have k2 := p1.c2
  have k3 := o2.c0
  have k4 := o2.c1
  have k5 := o2.c2
  have hc := cmp_num w2 _ _ _ _ (hxa.below B) (hya.below B)
  rw [HZ.out] at hc
  refine hc.mono ?_
  clear hc
  rintro e w3 ⟨rfl, hb⟩
  have B3 := B.trans (hb.mono B.size)
  have p13 := p1.gone hb
  have p23 := o2.gone hb
  clear k0 k1 k2 k3 k4 k5
  go_wp2
  go_ret
  exact ⟨rfl, B3⟩
theorem same_2 (w : World) (vx vy : Value) (x y : Rat) (hx : IsRat w vx x) (hy : IsRat w vy y) (h1 : decide (x.num < 0) = decide (y.num < 0)) (h2 : x.num.natAbs = y.num.natAbs) (h3 : ¬ denOf x.den = denOf y.den) : Calls Try.prog 8 #[vx, vy] w (RetIs w (.bool false)) := by
  obtain ⟨vx1, vx2, rfl, hxa, hxb⟩ := id hx
  obtain ⟨Ax1, cx1, rfl, _⟩ := id hxa
  obtain ⟨Ax2, cx2, rfl, _⟩ := id hxb
  obtain ⟨vy1, vy2, rfl, hya, hyb⟩ := id hy
  obtain ⟨Ay1, cy1, rfl, _⟩ := id hya
  obtain ⟨Ay2, cy2, rfl, _⟩ := id hyb
  have hf : (decide (x.num < 0) == decide (y.num < 0)) = true := beq_iff_eq.2 h1
  have H2 := bx (show cmpI x.num.natAbs y.num.natAbs = 0 by rw [h2]; exact cmpI_eq _)
  obtain ⟨z, hz, hz0⟩ := cmpI_ne h3
  have HZ := bx hz
  clear h1 h2 h3 hz
  go_enter Try.func8, Try.ntmps8
  go_wp2_with fail
  obtain ⟨w1, e1, o1, b1, s1⟩ := lay3 w (.bool (decide (x.num < 0))) (.slice Ax1 (digs b64 x.num.natAbs).length cx1) (.slice Ax2 (digs b64 (denOf x.den)).length cx2) 27
  obtain ⟨w2, e2, o2, b2, s2⟩ := lay3 w1 (.bool (decide (y.num < 0))) (.slice Ay1 (digs b64 y.num.natAbs).length cy1) (.slice Ay2 (digs b64 (denOf y.den)).length cy2) 27
  rw [e1, e2]
  rw [s1] at o2
  have p1 := o1.gone b2
  have B := b1.trans (b2.mono b1.size)
  have k0 := p1.c0
  have k1 := p1.c1
  have k2 := p1.c2
  have k3 := o2.c0
  have k4 := o2.c1
  have k5 := o2.c2
  have hc := cmp_num w2 _ _ _ _ (hxa.below B) (hya.below B)
  rw [H2.out] at hc
  refine hc.mono ?_
  clear hc
  rintro e w3 ⟨rfl, hb⟩
  have B3 := B.trans (hb.mono B.size)
  have p13 := p1.gone hb
  have p23 := o2.gone hb
  clear k0 k1 k2 k3 k4 k5
  have k0 := p13.c0
  have k1 := p13.c1
  have k2 := p13.c2
  have k3 := p23.c0
  have k4 := p23.c1
  have k5 := p23.c2
  go_wp2_with fail
  have hc := cmp_num w3 _ _ _ _ (hxb.below B3) (hyb.below B3)
  rw [HZ.out] at hc
  refine hc.mono ?_
  clear hc
  rintro e w4 ⟨rfl, hb4⟩
  go_wp2
  go_ret
  exact ⟨rfl, B3.trans (hb4.mono B3.size)⟩
theorem same_3 (w : World) (vx vy : Value) (x y : Rat) (hx : IsRat w vx x) (hy : IsRat w vy y) (h1 : decide (x.num < 0) = decide (y.num < 0)) (h2 : x.num.natAbs = y.num.natAbs) (h3 : denOf x.den = denOf y.den) : Calls Try.prog 8 #[vx, vy] w (RetIs w (.bool true)) := by
  obtain ⟨vx1, vx2, rfl, hxa, hxb⟩ := id hx
  obtain ⟨Ax1, cx1, rfl, _⟩ := id hxa
  obtain ⟨Ax2, cx2, rfl, _⟩ := id hxb
  obtain ⟨vy1, vy2, rfl, hya, hyb⟩ := id hy
  obtain ⟨Ay1, cy1, rfl, _⟩ := id hya
  obtain ⟨Ay2, cy2, rfl, _⟩ := id hyb
  have hf : (decide (x.num < 0) == decide (y.num < 0)) = true := beq_iff_eq.2 h1
  have H2 := bx (show cmpI x.num.natAbs y.num.natAbs = 0 by rw [h2]; exact cmpI_eq _)
  have HZ := bx (show cmpI (denOf x.den) (denOf y.den) = 0 by rw [h3]; exact cmpI_eq _)
  clear h1 h2 h3
  go_enter Try.func8, Try.ntmps8
  go_wp2_with fail
  obtain ⟨w1, e1, o1, b1, s1⟩ := lay3 w (.bool (decide (x.num < 0))) (.slice Ax1 (digs b64 x.num.natAbs).length cx1) (.slice Ax2 (digs b64 (denOf x.den)).length cx2) 27
  obtain ⟨w2, e2, o2, b2, s2⟩ := lay3 w1 (.bool (decide (y.num < 0))) (.slice Ay1 (digs b64 y.num.natAbs).length cy1) (.slice Ay2 (digs b64 (denOf y.den)).length cy2) 27
  rw [e1, e2]
  rw [s1] at o2
  have p1 := o1.gone b2
  have B := b1.trans (b2.mono b1.size)
  have k0 := p1.c0
  have k1 := p1.c1
  have k2 := p1.c2
  have k3 := o2.c0
  have k4 := o2.c1
  have k5 := o2.c2
  have hc := cmp_num w2 _ _ _ _ (hxa.below B) (hya.below B)
  rw [H2.out] at hc
  refine hc.mono ?_
  clear hc
  rintro e w3 ⟨rfl, hb⟩
  have B3 := B.trans (hb.mono B.size)
  have p13 := p1.gone hb
  have p23 := o2.gone hb
  clear k0 k1 k2 k3 k4 k5
  have k0 := p13.c0
  have k1 := p13.c1
  have k2 := p13.c2
  have k3 := p23.c0
  have k4 := p23.c1
  have k5 := p23.c2
  go_wp2_with fail
  have hc := cmp_num w3 _ _ _ _ (hxb.below B3) (hyb.below B3)
  rw [HZ.out] at hc
  refine hc.mono ?_
  clear hc
  rintro e w4 ⟨rfl, hb4⟩
  go_wp2
  go_ret
  exact ⟨rfl, B3.trans (hb4.mono B3.size)⟩
theorem same_num (w : World) (vx vy : Value) (x y : Rat) (hx : IsRat w vx x) (hy : IsRat w vy y) : Calls Try.prog 8 #[vx, vy] w (RetIs w (.bool (decide (x = y)))) := by
  by_cases h1 : decide (x.num < 0) = decide (y.num < 0)
  · by_cases h2 : x.num.natAbs = y.num.natAbs
    · by_cases h3 : denOf x.den = denOf y.den
      · rw [decide_eq_true ((rat_eq_iff x y).2 ⟨h1, h2, h3⟩)]
        exact same_3 w vx vy x y hx hy h1 h2 h3
      · rw [decide_eq_false (fun h => h3 ((rat_eq_iff x y).1 h).2.2)]
        exact same_2 w vx vy x y hx hy h1 h2 h3
    · rw [decide_eq_false (fun h => h2 ((rat_eq_iff x y).1 h).2.1)]
      exact same_1 w vx vy x y hx hy h1 h2
  · rw [decide_eq_false (fun h => h1 ((rat_eq_iff x y).1 h).1)]
    exact same_0 w vx vy x y hx hy h1
set_option maxHeartbeats 2000000 in
theorem div_zero (w : World) (vx vy : Value) (x y : Rat) (hx : IsRat w vx x) (hy : IsRat w vy y) (hy0 : y = 0) : Calls Try.prog 18 #[vx, vy] w (RetRE w (0) 3) := by
  obtain ⟨vx1, vx2, rfl, hxa, hxb⟩ := id hx
  obtain ⟨Ax1, cx1, rfl, _⟩ := id hxa
  obtain ⟨Ax2, cx2, rfl, _⟩ := id hxb
  obtain ⟨vy1, vy2, rfl, hya, hyb⟩ := id hy
  obtain ⟨Ay1, cy1, rfl, _⟩ := id hya
  obtain ⟨Ay2, cy2, rfl, _⟩ := id hyb
  have HY := bx hy0
  clear hy0
  go_enter Try.func18, Try.ntmps18
  go_wp2_with fail
  obtain ⟨w1, e1, o1, b1, s1⟩ := lay3 w (.bool (decide (x.num < 0))) (.slice Ax1 (digs b64 x.num.natAbs).length cx1) (.slice Ax2 (digs b64 (denOf x.den)).length cx2) 27
  obtain ⟨w2, e2, o2, b2, s2⟩ := lay3 w1 (.bool (decide (y.num < 0))) (.slice Ay1 (digs b64 y.num.natAbs).length cy1) (.slice Ay2 (digs b64 (denOf y.den)).length cy2) 27
  obtain ⟨w3, e3, o3, b3, s3⟩ := lay3 w2 (.bool false) (.slice none 0 0) (.slice none 0 0) 27
  rw [e1, e2, e3]
  rw [s1] at o2
  rw [s2, s1] at o3
  have p1 := ((o1.gone b2).gone b3)
  have p2 := (o2.gone b3)
  have p3 := o3
  have B0 := ((b1.trans (b2.mono b1.size)).trans (b3.mono (b1.trans (b2.mono b1.size)).size))
  have hS : ∀ w', HeldR w (w.heap.size + 2) 27 [(w.heap.size, .bool (decide (x.num < 0)), .slice Ax1 (digs b64 x.num.natAbs).length cx1, .slice Ax2 (digs b64 (denOf x.den)).length cx2), (w.heap.size + 1, .bool (decide (y.num < 0)), .slice Ay1 (digs b64 y.num.natAbs).length cy1, .slice Ay2 (digs b64 (denOf y.den)).length cy2)] w' → HeldR w (w.heap.size + 2) 27 [(w.heap.size, .bool (decide (x.num < 0)), .slice Ax1 (digs b64 x.num.natAbs).length cx1, .slice Ax2 (digs b64 (denOf x.den)).length cx2), (w.heap.size + 1, .bool (decide (y.num < 0)), .slice Ay1 (digs b64 y.num.natAbs).length cy1, .slice Ay2 (digs b64 (denOf y.den)).length cy2)] w' ∧ w'.cell? ⟨w.heap.size, 0, none⟩ = some (.bool (decide (x.num < 0))) ∧ w'.cell? ⟨w.heap.size, 1, none⟩ = some (.slice Ax1 (digs b64 x.num.natAbs).length cx1) ∧ w'.cell? ⟨w.heap.size, 2, none⟩ = some (.slice Ax2 (digs b64 (denOf x.den)).length cx2) ∧ w'.cell? ⟨w.heap.size + 1, 0, none⟩ = some (.bool (decide (y.num < 0))) ∧ w'.cell? ⟨w.heap.size + 1, 1, none⟩ = some (.slice Ay1 (digs b64 y.num.natAbs).length cy1) ∧ w'.cell? ⟨w.heap.size + 1, 2, none⟩ = some (.slice Ay2 (digs b64 (denOf y.den)).length cy2) ∧ w'.cell? ⟨w.heap.size + 2, 0, none⟩ = some (cv w' ⟨w.heap.size + 2, 0, none⟩) ∧ w'.cell? ⟨w.heap.size + 2, 1, none⟩ = some (cv w' ⟨w.heap.size + 2, 1, none⟩) ∧ w'.cell? ⟨w.heap.size + 2, 2, none⟩ = some (cv w' ⟨w.heap.size + 2, 2, none⟩) ∧ w'.frozen? ⟨w.heap.size + 2, 0, none⟩ = false ∧ w'.frozen? ⟨w.heap.size + 2, 1, none⟩ = false ∧ w'.frozen? ⟨w.heap.size + 2, 2, none⟩ = false := fun w' hh => by
    obtain ⟨f0, f1, f2, f3, f4, f5⟩ := hh.cells
    have q1 := (hh.2.2.1 (w.heap.size, .bool (decide (x.num < 0)), .slice Ax1 (digs b64 x.num.natAbs).length cx1, .slice Ax2 (digs b64 (denOf x.den)).length cx2) (by simp)).2
    have q2 := (hh.2.2.1 (w.heap.size + 1, .bool (decide (y.num < 0)), .slice Ay1 (digs b64 y.num.natAbs).length cy1, .slice Ay2 (digs b64 (denOf y.den)).length cy2) (by simp)).2
    exact ⟨hh, q1.c0, q1.c1, q1.c2, q2.c0, q2.c1, q2.c2, f0, f1, f2, f3, f4, f5⟩
  have H0 : HeldR w (w.heap.size + 2) 27 [(w.heap.size, .bool (decide (x.num < 0)), .slice Ax1 (digs b64 x.num.natAbs).length cx1, .slice Ax2 (digs b64 (denOf x.den)).length cx2), (w.heap.size + 1, .bool (decide (y.num < 0)), .slice Ay1 (digs b64 y.num.natAbs).length cy1, .slice Ay2 (digs b64 (denOf y.den)).length cy2)] w3 := ⟨B0, by omega, by intro p hp; simp at hp; rcases hp with rfl | rfl; exact ⟨by simp, p1⟩; exact ⟨by simp, p2⟩, _, _, _, p3, notInt_bool _, notInt_slice _ _ _, notInt_slice _ _ _⟩
  clear e1 e2 e3
  have hz := H0
  obtain ⟨_, k0, k1, k2, k3, k4, k5, _⟩ := hS _ hz
  have hc := zero_num _ _ y (hy.below hz.1)
  rw [decide_eq_true HY.out] at hc
  refine hc.mono ?_
  clear hc
  rintro e wz ⟨rfl, hb⟩
  have hz := HeldR.call (And.intro hz trivial) hb
  clear k0 k1 k2 k3 k4 k5
  obtain ⟨_, k0, k1, k2, k3, k4, k5, k6, k7, k8, k9, k10, k11⟩ := hS _ hz
  go_wp2
  obtain ⟨wf, HW, f0, f1, f2, hfin⟩ := hz.fin (q := 0) (A1 := none) (l1 := 0) (c1 := 0) (A2 := none) (l2 := 0) (c2 := 0) (show _ = false from rfl) (Num.zero _ _ _) (Num.zero _ _ _)
  rw [HW]
  (try simp only [Exit.inBlock, Exit.then])
  refine bodyPost_ret (by simp [results, Try.results18, go_sem, f0, f1, f2]; try rfl) rfl ?_
  exact RetRE.of hfin 3
set_option maxHeartbeats 2000000 in
theorem div_ok (w : World) (vx vy : Value) (x y : Rat) (hx : IsRat w vx x) (hy : IsRat w vy y) {j k : Nat} (hj : BdR j x) (hk : BdR k y) (hjk : j + k ≤ 100000000) (hy0 : y ≠ 0) : Calls Try.prog 18 #[vx, vy] w (RetRE w (x / y) 0) := by
  obtain ⟨vx1, vx2, rfl, hxa, hxb⟩ := id hx
  obtain ⟨Ax1, cx1, rfl, _⟩ := id hxa
  obtain ⟨Ax2, cx2, rfl, _⟩ := id hxb
  obtain ⟨vy1, vy2, rfl, hya, hyb⟩ := id hy
  obtain ⟨Ay1, cy1, rfl, _⟩ := id hya
  obtain ⟨Ay2, cy2, rfl, _⟩ := id hyb
  have HY := bx hy0
  clear hy0
  go_enter Try.func18, Try.ntmps18
  go_wp2_with fail
  obtain ⟨w1, e1, o1, b1, s1⟩ := lay3 w (.bool (decide (x.num < 0))) (.slice Ax1 (digs b64 x.num.natAbs).length cx1) (.slice Ax2 (digs b64 (denOf x.den)).length cx2) 27
  obtain ⟨w2, e2, o2, b2, s2⟩ := lay3 w1 (.bool (decide (y.num < 0))) (.slice Ay1 (digs b64 y.num.natAbs).length cy1) (.slice Ay2 (digs b64 (denOf y.den)).length cy2) 27
  obtain ⟨w3, e3, o3, b3, s3⟩ := lay3 w2 (.bool false) (.slice none 0 0) (.slice none 0 0) 27
  rw [e1, e2, e3]
  rw [s1] at o2
  rw [s2, s1] at o3
  have p1 := ((o1.gone b2).gone b3)
  have p2 := (o2.gone b3)
  have p3 := o3
  have B0 := ((b1.trans (b2.mono b1.size)).trans (b3.mono (b1.trans (b2.mono b1.size)).size))
  have hS : ∀ w', HeldR w (w.heap.size + 2) 27 [(w.heap.size, .bool (decide (x.num < 0)), .slice Ax1 (digs b64 x.num.natAbs).length cx1, .slice Ax2 (digs b64 (denOf x.den)).length cx2), (w.heap.size + 1, .bool (decide (y.num < 0)), .slice Ay1 (digs b64 y.num.natAbs).length cy1, .slice Ay2 (digs b64 (denOf y.den)).length cy2)] w' → HeldR w (w.heap.size + 2) 27 [(w.heap.size, .bool (decide (x.num < 0)), .slice Ax1 (digs b64 x.num.natAbs).length cx1, .slice Ax2 (digs b64 (denOf x.den)).length cx2), (w.heap.size + 1, .bool (decide (y.num < 0)), .slice Ay1 (digs b64 y.num.natAbs).length cy1, .slice Ay2 (digs b64 (denOf y.den)).length cy2)] w' ∧ w'.cell? ⟨w.heap.size, 0, none⟩ = some (.bool (decide (x.num < 0))) ∧ w'.cell? ⟨w.heap.size, 1, none⟩ = some (.slice Ax1 (digs b64 x.num.natAbs).length cx1) ∧ w'.cell? ⟨w.heap.size, 2, none⟩ = some (.slice Ax2 (digs b64 (denOf x.den)).length cx2) ∧ w'.cell? ⟨w.heap.size + 1, 0, none⟩ = some (.bool (decide (y.num < 0))) ∧ w'.cell? ⟨w.heap.size + 1, 1, none⟩ = some (.slice Ay1 (digs b64 y.num.natAbs).length cy1) ∧ w'.cell? ⟨w.heap.size + 1, 2, none⟩ = some (.slice Ay2 (digs b64 (denOf y.den)).length cy2) ∧ w'.cell? ⟨w.heap.size + 2, 0, none⟩ = some (cv w' ⟨w.heap.size + 2, 0, none⟩) ∧ w'.cell? ⟨w.heap.size + 2, 1, none⟩ = some (cv w' ⟨w.heap.size + 2, 1, none⟩) ∧ w'.cell? ⟨w.heap.size + 2, 2, none⟩ = some (cv w' ⟨w.heap.size + 2, 2, none⟩) ∧ w'.frozen? ⟨w.heap.size + 2, 0, none⟩ = false ∧ w'.frozen? ⟨w.heap.size + 2, 1, none⟩ = false ∧ w'.frozen? ⟨w.heap.size + 2, 2, none⟩ = false := fun w' hh => by
    obtain ⟨f0, f1, f2, f3, f4, f5⟩ := hh.cells
    have q1 := (hh.2.2.1 (w.heap.size, .bool (decide (x.num < 0)), .slice Ax1 (digs b64 x.num.natAbs).length cx1, .slice Ax2 (digs b64 (denOf x.den)).length cx2) (by simp)).2
    have q2 := (hh.2.2.1 (w.heap.size + 1, .bool (decide (y.num < 0)), .slice Ay1 (digs b64 y.num.natAbs).length cy1, .slice Ay2 (digs b64 (denOf y.den)).length cy2) (by simp)).2
    exact ⟨hh, q1.c0, q1.c1, q1.c2, q2.c0, q2.c1, q2.c2, f0, f1, f2, f3, f4, f5⟩
  have H0 : HeldR w (w.heap.size + 2) 27 [(w.heap.size, .bool (decide (x.num < 0)), .slice Ax1 (digs b64 x.num.natAbs).length cx1, .slice Ax2 (digs b64 (denOf x.den)).length cx2), (w.heap.size + 1, .bool (decide (y.num < 0)), .slice Ay1 (digs b64 y.num.natAbs).length cy1, .slice Ay2 (digs b64 (denOf y.den)).length cy2)] w3 := ⟨B0, by omega, by intro p hp; simp at hp; rcases hp with rfl | rfl; exact ⟨by simp, p1⟩; exact ⟨by simp, p2⟩, _, _, _, p3, notInt_bool _, notInt_slice _ _ _, notInt_slice _ _ _⟩
  clear e1 e2 e3
  have hz := H0
  obtain ⟨_, k0, k1, k2, k3, k4, k5, _⟩ := hS _ hz
  have hc := zero_num _ _ y (hy.below hz.1)
  rw [decide_eq_false HY.out] at hc
  refine hc.mono ?_
  clear hc
  rintro e wz ⟨rfl, hb⟩
  have hz := HeldR.call (And.intro hz trivial) hb
  clear k0 k1 k2 k3 k4 k5
  obtain ⟨_, k0, k1, k2, k3, k4, k5, _⟩ := hS _ hz
  go_wp2_with fail
  refine (by_num _ _ _ x y (hx.below hz.1) (hy.below hz.1) (mt Rat.num_eq_zero.1 HY.out) hj hk hjk).mono ?_
  rintro e wy ⟨vr, rfl, hrr, hb⟩
  obtain ⟨vrn, vrd, rfl, hrn, hrd⟩ := hrr
  obtain ⟨Ar1, cr1, rfl, _⟩ := id hrn
  obtain ⟨Ar2, cr2, rfl, _⟩ := id hrd
  have hz := HeldR.call (And.intro hz trivial) hb
  clear k0 k1 k2 k3 k4 k5
  obtain ⟨_, k0, k1, k2, k3, k4, k5, k6, k7, k8, k9, k10, k11⟩ := hS _ hz
  go_wp2
  obtain ⟨wf, HW, f0, f1, f2, hfin⟩ := hz.fin rfl hrn hrd
  rw [HW]
  (try simp only [Exit.inBlock, Exit.then])
  refine bodyPost_ret (by simp [results, Try.results18, go_sem, f0, f1, f2]; try rfl) rfl ?_
  exact RetRE.of hfin 0
end Wx
