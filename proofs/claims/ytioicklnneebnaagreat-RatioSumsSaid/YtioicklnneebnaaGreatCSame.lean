import Derived.Test.YtioicklnneebnaaGreatProg
import Derived.Handy
import Derived.Test.YtioicklnneebnaaGreatPlain1
import Derived.Test.YtioicklnneebnaaGreatMem
import Derived.Test.YtioicklnneebnaaGreatJSums3
import Derived.Test.YtioicklnneebnaaGreatJSums17
import Derived.Test.YtioicklnneebnaaGreatJSums5
import Derived.Test.YtioicklnneebnaaGreatCLimbs5
import Derived.Test.YtioicklnneebnaaGreatCDivide
import Derived.Test.YtioicklnneebnaaGreatCGcd
import Derived.Test.YtioicklnneebnaaGreatCRat1
import Derived.Test.YtioicklnneebnaaGreatCRat2
import Derived.Test.YtioicklnneebnaaGreatCRat3
import Derived.Test.YtioicklnneebnaaGreatJSums19
namespace Wx
open Go Go.RowKit Go.Proofs

theorem denOf_inj {m n : Nat} (hm : 0 < m) (hn : 0 < n) (h : denOf m = denOf n) : m = n := by
  unfold denOf at h
  split at h <;> split at h <;> omega
theorem rat_eq_iff (x y : Rat) : x = y ↔ decide (x.num < 0) = decide (y.num < 0) ∧ x.num.natAbs = y.num.natAbs ∧ denOf x.den = denOf y.den := by
  refine ⟨fun h => by subst h; exact ⟨rfl, rfl, rfl⟩, fun ⟨h1, h2, h3⟩ => ?_⟩
  have hd := denOf_inj x.den_pos y.den_pos h3
  refine Rat.ext ?_ hd
  rw [← sg_mk x.num, ← sg_mk y.num, h1, h2]
theorem cmpI_eq (m : Nat) : cmpI m m = 0 := by unfold cmpI; simp
theorem cmpI_ne {m n : Nat} (h : m ≠ n) : ∃ z, cmpI m n = z ∧ (z == 0) = false := by
  refine ⟨_, rfl, ?_⟩
  unfold cmpI
  rcases Nat.lt_or_gt_of_ne h with h1 | h1
  · rw [if_pos h1]; rfl
  · rw [if_neg (by omega)]; split <;> first | rfl | omega
theorem same_0 (w : World) (vx vy : Value) (x y : Rat) (hx : IsRat w vx x) (hy : IsRat w vy y) (h1 : ¬ decide (x.num < 0) = decide (y.num < 0)) : Calls Tryz.prog 25 #[vx, vy] w (RetIs w (.bool false)) := by
  obtain ⟨vx1, vx2, rfl, hxa, hxb⟩ := id hx
  obtain ⟨Ax1, cx1, rfl, _⟩ := id hxa
  obtain ⟨Ax2, cx2, rfl, _⟩ := id hxb
  obtain ⟨vy1, vy2, rfl, hya, hyb⟩ := id hy
  obtain ⟨Ay1, cy1, rfl, _⟩ := id hya
  obtain ⟨Ay2, cy2, rfl, _⟩ := id hyb
  have hf : (decide (x.num < 0) == decide (y.num < 0)) = false := beq_eq_false_iff_ne.2 h1
  clear h1
  go_enter Tryz.func25, Tryz.ntmps25
  go_wp2
  go_ret
  exact ⟨rfl, (Below.alloc (Below.refl _ _) (Nat.le_refl _) _).alloc (by simp) _⟩
theorem same_1 (w : World) (vx vy : Value) (x y : Rat) (hx : IsRat w vx x) (hy : IsRat w vy y) (h1 : decide (x.num < 0) = decide (y.num < 0)) (h2 : ¬ x.num.natAbs = y.num.natAbs) : Calls Tryz.prog 25 #[vx, vy] w (RetIs w (.bool false)) := by
  obtain ⟨vx1, vx2, rfl, hxa, hxb⟩ := id hx
  obtain ⟨Ax1, cx1, rfl, _⟩ := id hxa
  obtain ⟨Ax2, cx2, rfl, _⟩ := id hxb
  obtain ⟨vy1, vy2, rfl, hya, hyb⟩ := id hy
  obtain ⟨Ay1, cy1, rfl, _⟩ := id hya
  obtain ⟨Ay2, cy2, rfl, _⟩ := id hyb
  have hf : (decide (x.num < 0) == decide (y.num < 0)) = true := beq_iff_eq.2 h1
  obtain ⟨z, hz, hz0⟩ := cmpI_ne h2
  have HZ := bx hz
  clear h1 h2 hz
  go_enter Tryz.func25, Tryz.ntmps25
  go_wp2_with fail
  obtain ⟨w1, e1, o1, b1, s1⟩ := lay3 w (.bool (decide (x.num < 0))) (.slice Ax1 (digs b64 x.num.natAbs).length cx1) (.slice Ax2 (digs b64 (denOf x.den)).length cx2) 27
  obtain ⟨w2, e2, o2, b2, s2⟩ := lay3 w1 (.bool (decide (y.num < 0))) (.slice Ay1 (digs b64 y.num.natAbs).length cy1) (.slice Ay2 (digs b64 (denOf y.den)).length cy2) 27
  rw [e1, e2]
  rw [s1] at o2
  have p1 := o1.gone b2
  have B := b1.trans (b2.mono b1.size)
  have k0 := p1.c0
  have k1 := p1.c1
  have k2 := p1.c2
  have k3 := o2.c0
  have k4 := o2.c1
  have k5 := o2.c2
  have hc := cmp_num w2 _ _ _ _ (hxa.below B) (hya.below B)
  rw [HZ.out] at hc
  refine hc.mono ?_
  clear hc
  rintro e w3 ⟨rfl, hb⟩
  have B3 := B.trans (hb.mono B.size)
  have p13 := p1.gone hb
  have p23 := o2.gone hb
  clear k0 k1 k2 k3 k4 k5
  go_wp2
  go_ret
  exact ⟨rfl, B3⟩
theorem same_2 (w : World) (vx vy : Value) (x y : Rat) (hx : IsRat w vx x) (hy : IsRat w vy y) (h1 : decide (x.num < 0) = decide (y.num < 0)) (h2 : x.num.natAbs = y.num.natAbs) (h3 : ¬ denOf x.den = denOf y.den) : Calls Tryz.prog 25 #[vx, vy] w (RetIs w (.bool false)) := by
  obtain ⟨vx1, vx2, rfl, hxa, hxb⟩ := id hx
  obtain ⟨Ax1, cx1, rfl, _⟩ := id hxa
  obtain ⟨Ax2, cx2, rfl, _⟩ := id hxb
  obtain ⟨vy1, vy2, rfl, hya, hyb⟩ := id hy
  obtain ⟨Ay1, cy1, rfl, _⟩ := id hya
  obtain ⟨Ay2, cy2, rfl, _⟩ := id hyb
  have hf : (decide (x.num < 0) == decide (y.num < 0)) = true := beq_iff_eq.2 h1
  have H2 := bx (show cmpI x.num.natAbs y.num.natAbs = 0 by rw [h2]; exact cmpI_eq _)
  obtain ⟨z, hz, hz0⟩ := cmpI_ne h3
  have HZ := bx hz
  clear h1 h2 h3 hz
  go_enter Tryz.func25, Tryz.ntmps25
  go_wp2_with fail
  obtain ⟨w1, e1, o1, b1, s1⟩ := lay3 w (.bool (decide (x.num < 0))) (.slice Ax1 (digs b64 x.num.natAbs).length cx1) (.slice Ax2 (digs b64 (denOf x.den)).length cx2) 27
  obtain ⟨w2, e2, o2, b2, s2⟩ := lay3 w1 (.bool (decide (y.num < 0))) (.slice Ay1 (digs b64 y.num.natAbs).length cy1) (.slice Ay2 (digs b64 (denOf y.den)).length cy2) 27
  rw [e1, e2]
  rw [s1] at o2
  have p1 := o1.gone b2
  have B := b1.trans (b2.mono b1.size)
  have k0 := p1.c0
  have k1 := p1.c1
  have k2 := p1.c2
  have k3 := o2.c0
  have k4 := o2.c1
  have k5 := o2.c2
  have hc := cmp_num w2 _ _ _ _ (hxa.below B) (hya.below B)
  rw [H2.out] at hc
  refine hc.mono ?_
  clear hc
  rintro e w3 ⟨rfl, hb⟩
  have B3 := B.trans (hb.mono B.size)
  have p13 := p1.gone hb
  have p23 := o2.gone hb
  clear k0 k1 k2 k3 k4 k5
  have k0 := p13.c0
  have k1 := p13.c1
  have k2 := p13.c2
  have k3 := p23.c0
  have k4 := p23.c1
  have k5 := p23.c2
  go_wp2_with fail
  have hc := cmp_num w3 _ _ _ _ (hxb.below B3) (hyb.below B3)
  rw [HZ.out] at hc
  refine hc.mono ?_
  clear hc
  rintro e w4 ⟨rfl, hb4⟩
  go_wp2
  go_ret
  exact ⟨rfl, B3.trans (hb4.mono B3.size)⟩
theorem same_3 (w : World) (vx vy : Value) (x y : Rat) (hx : IsRat w vx x) (hy : IsRat w vy y) (h1 : decide (x.num < 0) = decide (y.num < 0)) (h2 : x.num.natAbs = y.num.natAbs) (h3 : denOf x.den = denOf y.den) : Calls Tryz.prog 25 #[vx, vy] w (RetIs w (.bool true)) := by
  obtain ⟨vx1, vx2, rfl, hxa, hxb⟩ := id hx
  obtain ⟨Ax1, cx1, rfl, _⟩ := id hxa
  obtain ⟨Ax2, cx2, rfl, _⟩ := id hxb
  obtain ⟨vy1, vy2, rfl, hya, hyb⟩ := id hy
  obtain ⟨Ay1, cy1, rfl, _⟩ := id hya
  obtain ⟨Ay2, cy2, rfl, _⟩ := id hyb
  have hf : (decide (x.num < 0) == decide (y.num < 0)) = true := beq_iff_eq.2 h1
  have H2 := bx (show cmpI x.num.natAbs y.num.natAbs = 0 by rw [h2]; exact cmpI_eq _)
  have HZ := bx (show cmpI (denOf x.den) (denOf y.den) = 0 by rw [h3]; exact cmpI_eq _)
  clear h1 h2 h3
  go_enter Tryz.func25, Tryz.ntmps25
  go_wp2_with fail
  obtain ⟨w1, e1, o1, b1, s1⟩ := lay3 w (.bool (decide (x.num < 0))) (.slice Ax1 (digs b64 x.num.natAbs).length cx1) (.slice Ax2 (digs b64 (denOf x.den)).length cx2) 27
  obtain ⟨w2, e2, o2, b2, s2⟩ := lay3 w1 (.bool (decide (y.num < 0))) (.slice Ay1 (digs b64 y.num.natAbs).length cy1) (.slice Ay2 (digs b64 (denOf y.den)).length cy2) 27
  rw [e1, e2]
  rw [s1] at o2
  have p1 := o1.gone b2
  have B := b1.trans (b2.mono b1.size)
  have k0 := p1.c0
  have k1 := p1.c1
  have k2 := p1.c2
  have k3 := o2.c0
  have k4 := o2.c1
  have k5 := o2.c2
  have hc := cmp_num w2 _ _ _ _ (hxa.below B) (hya.below B)
  rw [H2.out] at hc
  refine hc.mono ?_
  clear hc
  rintro e w3 ⟨rfl, hb⟩
  have B3 := B.trans (hb.mono B.size)
  have p13 := p1.gone hb
  have p23 := o2.gone hb
  clear k0 k1 k2 k3 k4 k5
  have k0 := p13.c0
  have k1 := p13.c1
  have k2 := p13.c2
  have k3 := p23.c0
  have k4 := p23.c1
  have k5 := p23.c2
  go_wp2_with fail
  have hc := cmp_num w3 _ _ _ _ (hxb.below B3) (hyb.below B3)
  rw [HZ.out] at hc
  refine hc.mono ?_
  clear hc
  rintro e w4 ⟨rfl, hb4⟩
  go_wp2
  go_ret
  exact ⟨rfl, B3.trans (hb4.mono B3.size)⟩
theorem same_num (w : World) (vx vy : Value) (x y : Rat) (hx : IsRat w vx x) (hy : IsRat w vy y) : Calls Tryz.prog 25 #[vx, vy] w (RetIs w (.bool (decide (x = y)))) := by
  by_cases h1 : decide (x.num < 0) = decide (y.num < 0)
  · by_cases h2 : x.num.natAbs = y.num.natAbs
    · by_cases h3 : denOf x.den = denOf y.den
      · rw [decide_eq_true ((rat_eq_iff x y).2 ⟨h1, h2, h3⟩)]
        exact same_3 w vx vy x y hx hy h1 h2 h3
      · rw [decide_eq_false (fun h => h3 ((rat_eq_iff x y).1 h).2.2)]
        exact same_2 w vx vy x y hx hy h1 h2 h3
    · rw [decide_eq_false (fun h => h2 ((rat_eq_iff x y).1 h).2.1)]
      exact same_1 w vx vy x y hx hy h1 h2
  · rw [decide_eq_false (fun h => h1 ((rat_eq_iff x y).1 h).1)]
    exact same_0 w vx vy x y hx hy h1
end Wx
