import Derived.Test.YtlomlheajdgdoaaGreatProg
import Derived.Handy
import Derived.Test.YtlomlheajdgdoaaGreatJPairs0
import Derived.Test.YtlomlheajdgdoaaGreatJPairs1
import Derived.Test.YtlomlheajdgdoaaGreatJPairs9
import Derived.Test.YtlomlheajdgdoaaGreatJPairs3
import Derived.Test.YtlomlheajdgdoaaGreatJPairs7
import Derived.Test.YtlomlheajdgdoaaGreatCPairsRat1
import Derived.Test.YtlomlheajdgdoaaGreatCPairsRat3
import Derived.Test.YtlomlheajdgdoaaGreatJPairs18
import Derived.Test.YtlomlheajdgdoaaGreatJPairs10
import Derived.Test.YtlomlheajdgdoaaGreatCPairsSem
import Derived.Test.YtlomlheajdgdoaaGreatCPairsSemOps
import Derived.Test.YtlomlheajdgdoaaGreatCPairsSemMem
import Derived.Test.YtlomlheajdgdoaaGreatCPairsSemCode
import Derived.Test.YtlomlheajdgdoaaGreatJPairs15
import Derived.Deep.RegionHeld3
import Derived.Test.YtlomlheajdgdoaaGreatJPairs22
import Derived.Test.YtlomlheajdgdoaaGreatJPairs26
import Derived.Test.YtlomlheajdgdoaaGreatJPairs23
namespace Wx
open Go Go.RowKit Go.Proofs

theorem denOf_inj {m n : Nat} (hm : 0 < m) (hn : 0 < n) (h : denOf m = denOf n) : m = n := by
  unfold denOf at h
  split at h <;> split at h <;> omega
theorem rat_eq_iff (x y : Rat) : x = y ↔ decide (x.num < 0) = decide (y.num < 0) ∧ x.num.natAbs = y.num.natAbs ∧ denOf x.den = denOf y.den := by
  refine ⟨fun h => by subst h; exact ⟨rfl, rfl, rfl⟩, fun ⟨h1, h2, h3⟩ => ?_⟩
  have hd := denOf_inj x.den_pos y.den_pos h3
  refine Rat.ext ?_ hd
  rw [← sg_mk x.num, ← sg_mk y.num, h1, h2]
theorem cmpI_eq (m : Nat) : cmpI m m = 0 := by unfold cmpI; simp
theorem cmpI_ne {m n : Nat} (h : m ≠ n) : ∃ z, cmpI m n = z ∧ (z == 0) = false := by
  refine ⟨_, rfl, ?_⟩
  unfold cmpI
  rcases Nat.lt_or_gt_of_ne h with h1 | h1
  · rw [if_pos h1]; rfl
  · rw [if_neg (by omega)]; split <;> first | rfl | omega
theorem same_0 (w : World) (vx vy : Value) (x y : Rat) (hx : IsRat w vx x) (hy : IsRat w vy y) (h1 : ¬ decide (x.num < 0) = decide (y.num < 0)) : Calls Tryz.prog 89 #[vx, vy] w (RetIs w (.bool false)) := by
  obtain ⟨vx1, vx2, rfl, hxa, hxb⟩ := id hx
  obtain ⟨Ax1, cx1, rfl, _⟩ := id hxa
  obtain ⟨Ax2, cx2, rfl, _⟩ := id hxb
  obtain ⟨vy1, vy2, rfl, hya, hyb⟩ := id hy
  obtain ⟨Ay1, cy1, rfl, _⟩ := id hya
  obtain ⟨Ay2, cy2, rfl, _⟩ := id hyb
  have hf : (decide (x.num < 0) == decide (y.num < 0)) = false := beq_eq_false_iff_ne.2 h1
  clear h1
  go_enter Tryz.func89, Tryz.ntmps89
  go_wp2
  go_ret
  exact ⟨rfl, (Below.alloc (Below.refl _ _) (Nat.le_refl _) _).alloc (by simp) _⟩
theorem same_1 (w : World) (vx vy : Value) (x y : Rat) (hx : IsRat w vx x) (hy : IsRat w vy y) (h1 : decide (x.num < 0) = decide (y.num < 0)) (h2 : ¬ x.num.natAbs = y.num.natAbs) : Calls Tryz.prog 89 #[vx, vy] w (RetIs w (.bool false)) := by
  obtain ⟨vx1, vx2, rfl, hxa, hxb⟩ := id hx
  obtain ⟨Ax1, cx1, rfl, _⟩ := id hxa
  obtain ⟨Ax2, cx2, rfl, _⟩ := id hxb
  obtain ⟨vy1, vy2, rfl, hya, hyb⟩ := id hy
  obtain ⟨Ay1, cy1, rfl, _⟩ := id hya
  obtain ⟨Ay2, cy2, rfl, _⟩ := id hyb
  have hf : (decide (x.num < 0) == decide (y.num < 0)) = true := beq_iff_eq.2 h1
  obtain ⟨z, hz, hz0⟩ := cmpI_ne h2
  have HZ := bx hz
  clear h1 h2 hz
  go_enter Tryz.func89, Tryz.ntmps89
  go_wp2_with fail
  obtain ⟨w1, e1, o1, b1, s1⟩ := lay3 w (.bool (decide (x.num < 0))) (.slice Ax1 (digs b64 x.num.natAbs).length cx1) (.slice Ax2 (digs b64 (denOf x.den)).length cx2) 29
  obtain ⟨w2, e2, o2, b2, s2⟩ := lay3 w1 (.bool (decide (y.num < 0))) (.slice Ay1 (digs b64 y.num.natAbs).length cy1) (.slice Ay2 (digs b64 (denOf y.den)).length cy2) 29
  rw [e1, e2]
  rw [s1] at o2
  have p1 := o1.gone b2
  have B := b1.trans (b2.mono b1.size)
  have k0 := p1.c0
  have k1 := p1.c1
  have k2 := p1.c2
  have k3 := o2.c0
  have k4 := o2.c1
  have k5 := o2.c2
  have hc := cmp_num w2 _ _ _ _ (hxa.below B) (hya.below B)
  rw [HZ.out] at hc
  refine hc.mono ?_
  clear hc
  rintro e w3 ⟨rfl, hb⟩
  have B3 := B.trans (hb.mono B.size)
  have p13 := p1.gone hb
  have p23 := o2.gone hb
  clear k0 k1 k2 k3 k4 k5
  go_wp2
  go_ret
  exact ⟨rfl, B3⟩
theorem same_2 (w : World) (vx vy : Value) (x y : Rat) (hx : IsRat w vx x) (hy : IsRat w vy y) (h1 : decide (x.num < 0) = decide (y.num < 0)) (h2 : x.num.natAbs = y.num.natAbs) (h3 : ¬ denOf x.den = denOf y.den) : Calls Tryz.prog 89 #[vx, vy] w (RetIs w (.bool false)) := by
  obtain ⟨vx1, vx2, rfl, hxa, hxb⟩ := id hx
  obtain ⟨Ax1, cx1, rfl, _⟩ := id hxa
  obtain ⟨Ax2, cx2, rfl, _⟩ := id hxb
  obtain ⟨vy1, vy2, rfl, hya, hyb⟩ := id hy
  obtain ⟨Ay1, cy1, rfl, _⟩ := id hya
  obtain ⟨Ay2, cy2, rfl, _⟩ := id hyb
  have hf : (decide (x.num < 0) == decide (y.num < 0)) = true := beq_iff_eq.2 h1
  have H2 := bx (show cmpI x.num.natAbs y.num.natAbs = 0 by rw [h2]; exact cmpI_eq _)
  obtain ⟨z, hz, hz0⟩ := cmpI_ne h3
  have HZ := bx hz
  clear h1 h2 h3 hz
  go_enter Tryz.func89, Tryz.ntmps89
  go_wp2_with fail
  obtain ⟨w1, e1, o1, b1, s1⟩ := lay3 w (.bool (decide (x.num < 0))) (.slice Ax1 (digs b64 x.num.natAbs).length cx1) (.slice Ax2 (digs b64 (denOf x.den)).length cx2) 29
  obtain ⟨w2, e2, o2, b2, s2⟩ := lay3 w1 (.bool (decide (y.num < 0))) (.slice Ay1 (digs b64 y.num.natAbs).length cy1) (.slice Ay2 (digs b64 (denOf y.den)).length cy2) 29
  rw [e1, e2]
  rw [s1] at o2
  have p1 := o1.gone b2
  have B := b1.trans (b2.mono b1.size)
  have k0 := p1.c0
  have k1 := p1.c1
  have k2 := p1.c2
  have k3 := o2.c0
  have k4 := o2.c1
  have k5 := o2.c2
  have hc := cmp_num w2 _ _ _ _ (hxa.below B) (hya.below B)
  rw [H2.out] at hc
  refine hc.mono ?_
  clear hc
  rintro e w3 ⟨rfl, hb⟩
  have B3 := B.trans (hb.mono B.size)
  have p13 := p1.gone hb
  have p23 := o2.gone hb
  clear k0 k1 k2 k3 k4 k5
  have k0 := p13.c0
  have k1 := p13.c1
  have k2 := p13.c2
  have k3 := p23.c0
  have k4 := p23.c1
  have k5 := p23.c2
  go_wp2_with fail
  have hc := cmp_num w3 _ _ _ _ (hxb.below B3) (hyb.below B3)
  rw [HZ.out] at hc
  refine hc.mono ?_
  clear hc
  rintro e w4 ⟨rfl, hb4⟩
  go_wp2
  go_ret
  exact ⟨rfl, B3.trans (hb4.mono B3.size)⟩
theorem same_3 (w : World) (vx vy : Value) (x y : Rat) (hx : IsRat w vx x) (hy : IsRat w vy y) (h1 : decide (x.num < 0) = decide (y.num < 0)) (h2 : x.num.natAbs = y.num.natAbs) (h3 : denOf x.den = denOf y.den) : Calls Tryz.prog 89 #[vx, vy] w (RetIs w (.bool true)) := by
  obtain ⟨vx1, vx2, rfl, hxa, hxb⟩ := id hx
  obtain ⟨Ax1, cx1, rfl, _⟩ := id hxa
  obtain ⟨Ax2, cx2, rfl, _⟩ := id hxb
  obtain ⟨vy1, vy2, rfl, hya, hyb⟩ := id hy
  obtain ⟨Ay1, cy1, rfl, _⟩ := id hya
  obtain ⟨Ay2, cy2, rfl, _⟩ := id hyb
  have hf : (decide (x.num < 0) == decide (y.num < 0)) = true := beq_iff_eq.2 h1
  have H2 := bx (show cmpI x.num.natAbs y.num.natAbs = 0 by rw [h2]; exact cmpI_eq _)
  have HZ := bx (show cmpI (denOf x.den) (denOf y.den) = 0 by rw [h3]; exact cmpI_eq _)
  clear h1 h2 h3
  go_enter Tryz.func89, Tryz.ntmps89
  go_wp2_with fail
  obtain ⟨w1, e1, o1, b1, s1⟩ := lay3 w (.bool (decide (x.num < 0))) (.slice Ax1 (digs b64 x.num.natAbs).length cx1) (.slice Ax2 (digs b64 (denOf x.den)).length cx2) 29
  obtain ⟨w2, e2, o2, b2, s2⟩ := lay3 w1 (.bool (decide (y.num < 0))) (.slice Ay1 (digs b64 y.num.natAbs).length cy1) (.slice Ay2 (digs b64 (denOf y.den)).length cy2) 29
  rw [e1, e2]
  rw [s1] at o2
  have p1 := o1.gone b2
  have B := b1.trans (b2.mono b1.size)
  have k0 := p1.c0
  have k1 := p1.c1
  have k2 := p1.c2
  have k3 := o2.c0
  have k4 := o2.c1
  have k5 := o2.c2
  have hc := cmp_num w2 _ _ _ _ (hxa.below B) (hya.below B)
  rw [H2.out] at hc
  refine hc.mono ?_
  clear hc
  rintro e w3 ⟨rfl, hb⟩
  have B3 := B.trans (hb.mono B.size)
  have p13 := p1.gone hb
  have p23 := o2.gone hb
  clear k0 k1 k2 k3 k4 k5
  have k0 := p13.c0
  have k1 := p13.c1
  have k2 := p13.c2
  have k3 := p23.c0
  have k4 := p23.c1
  have k5 := p23.c2
  go_wp2_with fail
  have hc := cmp_num w3 _ _ _ _ (hxb.below B3) (hyb.below B3)
  rw [HZ.out] at hc
  refine hc.mono ?_
  clear hc
  rintro e w4 ⟨rfl, hb4⟩
  go_wp2
  go_ret
  exact ⟨rfl, B3.trans (hb4.mono B3.size)⟩
theorem same_num (w : World) (vx vy : Value) (x y : Rat) (hx : IsRat w vx x) (hy : IsRat w vy y) : Calls Tryz.prog 89 #[vx, vy] w (RetIs w (.bool (decide (x = y)))) := by
  by_cases h1 : decide (x.num < 0) = decide (y.num < 0)
  · by_cases h2 : x.num.natAbs = y.num.natAbs
    · by_cases h3 : denOf x.den = denOf y.den
      · rw [decide_eq_true ((rat_eq_iff x y).2 ⟨h1, h2, h3⟩)]
        exact same_3 w vx vy x y hx hy h1 h2 h3
      · rw [decide_eq_false (fun h => h3 ((rat_eq_iff x y).1 h).2.2)]
        exact same_2 w vx vy x y hx hy h1 h2 h3
    · rw [decide_eq_false (fun h => h2 ((rat_eq_iff x y).1 h).2.1)]
      exact same_1 w vx vy x y hx hy h1 h2
  · rw [decide_eq_false (fun h => h1 ((rat_eq_iff x y).1 h).1)]
    exact same_0 w vx vy x y hx hy h1
end Wx

namespace Wx
open Go Go.RowKit Go.Proofs

theorem bd_zero : BdR 1 (0 : Rat) := ⟨by show (0 : Rat).num.natAbs < 2 ^ 1; decide, by show (0 : Rat).den < 2 ^ 1; decide⟩
theorem BdR.sub_ {j k : Nat} {x y : Rat} (h : BdR j x) (g : BdR k y) : BdR (j + k + j + k + 1) (x - y) := by rw [Rat.sub_eq_add_neg]; exact h.add g.neg
theorem BdR.quo {j k : Nat} {x y : Rat} (h : BdR j x) (g : BdR k y) : BdR (j + k) (x / y) := by
  by_cases hy : y = 0
  · rw [hy, Rat.div_def, Rat.inv_zero, Rat.mul_zero]
    have h2 : x.den < 2 ^ j := h.2
    have h3 := x.den_pos
    have hj : j ≠ 0 := by rintro rfl; simp at h2; omega
    refine ⟨?_, ?_⟩
    · show (0 : Rat).num.natAbs < 2 ^ (j + k)
      exact Nat.two_pow_pos _
    · show (0 : Rat).den < 2 ^ (j + k)
      show 1 < 2 ^ (j + k)
      exact Nat.one_lt_two_pow (by omega)
  · exact h.div g (fun h => hy ((num_zero_iff y).1 (by omega)))
theorem ret_is {w : World} {v : Value} {e : Ending} {w' : World} (h : RetIs w v e w') : Ret (pEq v) w e w' := ⟨v, h.1, rfl, h.2⟩
theorem c_add {x y : Rat} {j k : Nat} (hx : BdR j x) (hy : BdR k y) (h : j + k + j + k + 1 ≤ 100000000) : ∀ w v1 v2, pRat x w v1 → pRat y w v2 → Calls Tryz.prog 82 #[v1, v2] w (Ret (pRat (x + y)) w) :=
  fun w v1 v2 h1 h2 => add_num w v1 v2 x y h1 h2 hx hy h
theorem c_sub {x y : Rat} {j k : Nat} (hx : BdR j x) (hy : BdR k y) (h : j + k + j + k + 1 ≤ 100000000) : ∀ w v1 v2, pRat x w v1 → pRat y w v2 → Calls Tryz.prog 53 #[v1, v2] w (Ret (pRat (x - y)) w) :=
  fun w v1 v2 h1 h2 => sub_num w v1 v2 x y h1 h2 hx hy h
theorem c_mul {x y : Rat} {j k : Nat} (hx : BdR j x) (hy : BdR k y) (h : j + k ≤ 100000000) : ∀ w v1 v2, pRat x w v1 → pRat y w v2 → Calls Tryz.prog 13 #[v1, v2] w (Ret (pRat (x * y)) w) :=
  fun w v1 v2 h1 h2 => mul_num w v1 v2 x y h1 h2 hx hy h
theorem c_by {x y : Rat} {j k : Nat} (hx : BdR j x) (hy : BdR k y) (h : j + k ≤ 100000000) (h0 : y ≠ 0) : ∀ w v1 v2, pRat x w v1 → pRat y w v2 → Calls Tryz.prog 77 #[v1, v2] w (Ret (pRat (x / y)) w) :=
  fun w v1 v2 h1 h2 => by_num w v1 v2 x y h1 h2 (fun h => h0 ((num_zero_iff y).1 (by omega))) hx hy h
theorem c_neg (x : Rat) : ∀ w v1, pRat x w v1 → Calls Tryz.prog 86 #[v1] w (Ret (pRat (-x)) w) := fun w v1 h1 => neg_num w v1 x h1
theorem c_zero (x : Rat) : ∀ w v1, pRat x w v1 → Calls Tryz.prog 87 #[v1] w (Ret (pB (decide (x = 0))) w) := fun w v1 h1 => (zero_num w v1 x h1).mono fun _ _ => ret_is
theorem c_same (x y : Rat) : ∀ w v1 v2, pRat x w v1 → pRat y w v2 → Calls Tryz.prog 89 #[v1, v2] w (Ret (pB (decide (x = y))) w) := fun w v1 v2 h1 h2 => (same_num w v1 v2 x y h1 h2).mono fun _ _ => ret_is
theorem cb_known1 {f : FuncId} {P : Program} {p1 : Pred} {a b : Bool} (h : ∀ (M : Nat → Nat → Prop) (w : World) (v1 : Value), Mid M w → Box M (fun w => p1 w v1) w → Calls P f #[v1] w (RetB M (pB a) w)) (e : a = b) : ∀ (M : Nat → Nat → Prop) (w : World) (v1 : Value), Mid M w → Box M (fun w => p1 w v1) w → Calls P f #[v1] w (RetB M (pB b) w) := e ▸ h
end Wx

namespace Wx
set_option maxRecDepth 100000
open Go Go.RowKit Go.Proofs

set_option maxHeartbeats 1000000 in
theorem nsign_num (w : World) (vx : Value) (x : Rat) (hx : IsRef w vx x) : Calls Tryz.prog 142 #[vx] w (RetIs w (.int .i64 (sgnI x))) := by
  obtain ⟨vx1, vx2, rfl, hxa, hxb⟩ := id hx
  obtain ⟨Ax1, cx1, rfl, _⟩ := id hxa
  obtain ⟨Ax2, cx2, rfl, _⟩ := id hxb
  have hS : sgnI x = if x = 0 then 0 else if x.num < 0 then -1 else 1 := by
    unfold sgnI
    by_cases h : x = 0
    · subst h; rfl
    · rw [if_neg h, if_neg h]
  have hx0 := hx
  clear hx
  generalize sgnI x = z at *
  by_cases h2 : x = 0
  · rw [if_pos h2] at hS
    subst hS
    have HD := bx (decide_eq_true h2)
    clear h2
    go_enter Tryz.func142, Tryz.ntmps142
    go_wp2_with fail
    obtain ⟨w1, e1, oP, b1, s1⟩ := layA w [.bool (decide (x.num < 0)), .slice Ax1 (digs b32 x.num.natAbs).length cx1, .slice Ax2 (digs b32 x.den).length cx2] 33
    rw [e1]
    clear e1
    replace hx0 := hx0.below b1
    have B := b1
    clear b1
    have hc := nzero_num _ _ x hx0
    rw [HD.out] at hc
    refine Calls.mono (hc) ?_
    rintro e w2 ⟨rfl, b2⟩
    replace hx0 := hx0.below b2
    replace oP := oP.gone b2
    replace B := B.trans (b2.mono B.size)
    clear b2
    clear hc
    have k1 := oP.cell (i := 0) rfl
    have k2 := oP.cell (i := 1) rfl
    have k3 := oP.cell (i := 2) rfl
    go_wp2
    go_ret
    exact ⟨rfl, B⟩
  · rw [if_neg h2] at hS
    have HD := bx (decide_eq_false h2)
    clear h2
    by_cases h1 : x.num < 0
    · rw [if_pos h1] at hS
      subst hS
      rw [decide_eq_true h1] at *
      go_enter Tryz.func142, Tryz.ntmps142
      go_wp2_with fail
      obtain ⟨w1, e1, oP, b1, s1⟩ := layA w [.bool true, .slice Ax1 (digs b32 x.num.natAbs).length cx1, .slice Ax2 (digs b32 x.den).length cx2] 33
      rw [e1]
      clear e1
      replace hx0 := hx0.below b1
      have B := b1
      clear b1
      have hc := nzero_num _ _ x hx0
      rw [HD.out] at hc
      refine Calls.mono (hc) ?_
      rintro e w2 ⟨rfl, b2⟩
      replace hx0 := hx0.below b2
      replace oP := oP.gone b2
      replace B := B.trans (b2.mono B.size)
      clear b2
      clear hc
      have k1 := oP.cell (i := 0) rfl
      have k2 := oP.cell (i := 1) rfl
      have k3 := oP.cell (i := 2) rfl
      go_wp2
      go_ret
      exact ⟨rfl, B⟩
    · rw [if_neg h1] at hS
      subst hS
      rw [decide_eq_false h1] at *
      go_enter Tryz.func142, Tryz.ntmps142
      go_wp2_with fail
      obtain ⟨w1, e1, oP, b1, s1⟩ := layA w [.bool false, .slice Ax1 (digs b32 x.num.natAbs).length cx1, .slice Ax2 (digs b32 x.den).length cx2] 33
      rw [e1]
      clear e1
      replace hx0 := hx0.below b1
      have B := b1
      clear b1
      have hc := nzero_num _ _ x hx0
      rw [HD.out] at hc
      refine Calls.mono (hc) ?_
      rintro e w2 ⟨rfl, b2⟩
      replace hx0 := hx0.below b2
      replace oP := oP.gone b2
      replace B := B.trans (b2.mono B.size)
      clear b2
      clear hc
      have k1 := oP.cell (i := 0) rfl
      have k2 := oP.cell (i := 1) rfl
      have k3 := oP.cell (i := 2) rfl
      go_wp2
      go_ret
      exact ⟨rfl, B⟩
end Wx

namespace Wx
set_option maxRecDepth 100000
open Go Go.RowKit Go.Proofs

set_option maxHeartbeats 8000000 in
theorem nmul_num (w : World) (vx vy : Value) (x y : Rat) (hx : IsRef w vx x) (hy : IsRef w vy y) {j k : Nat} (hj : BdR j x) (hk : BdR k y) (hjk : j + k ≤ 10000000) : Calls Tryz.prog 14 #[vx, vy] w (RetRef w (x * y)) := by
  obtain ⟨vx1, vx2, rfl, hxa, hxb⟩ := id hx
  obtain ⟨Ax1, cx1, rfl, _⟩ := id hxa
  obtain ⟨Ax2, cx2, rfl, _⟩ := id hxb
  obtain ⟨vy1, vy2, rfl, hya, hyb⟩ := id hy
  obtain ⟨Ay1, cy1, rfl, _⟩ := id hya
  obtain ⟨Ay2, cy2, rfl, _⟩ := id hyb
  have hdx := x.den_pos
  have hdy := y.den_pos
  have HB := bx (And.intro hj hk)
  have hj1 : j ≤ 1000000000 := by omega
  have hk1 : k ≤ 1000000000 := by omega
  have hx0 := hx
  have hy0 := hy
  clear hj hk hx hy
  go_enter Tryz.func14, Tryz.ntmps14
  go_wp2_with fail
  obtain ⟨w1, e1, o1, b1, s1⟩ := layA w [.bool (decide (x.num < 0)), .slice Ax1 (digs b32 x.num.natAbs).length cx1, .slice Ax2 (digs b32 x.den).length cx2] 33
  obtain ⟨w2, e2, o2, b2, s2⟩ := layA w1 [.bool (decide (y.num < 0)), .slice Ay1 (digs b32 y.num.natAbs).length cy1, .slice Ay2 (digs b32 y.den).length cy2] 33
  obtain ⟨w3, e3, o3, b3, s3⟩ := layA w2 [.bool false, .slice none 0 0, .slice none 0 0] 33
  rw [e1, e2, e3]
  rw [s1] at o2
  rw [s2, s1] at o3
  have p1 := ((o1.gone b2).gone b3)
  have p2 := (o2.gone b3)
  have p3 := o3
  have B0 := ((b1.trans (b2.mono b1.size)).trans (b3.mono (b1.trans (b2.mono b1.size)).size))
  have hS : ∀ w', HeldN w (w.heap.size + 2) 3 33 [(w.heap.size, [.bool (decide (x.num < 0)), .slice Ax1 (digs b32 x.num.natAbs).length cx1, .slice Ax2 (digs b32 x.den).length cx2], 33), (w.heap.size + 1, [.bool (decide (y.num < 0)), .slice Ay1 (digs b32 y.num.natAbs).length cy1, .slice Ay2 (digs b32 y.den).length cy2], 33)] w' → HeldN w (w.heap.size + 2) 3 33 [(w.heap.size, [.bool (decide (x.num < 0)), .slice Ax1 (digs b32 x.num.natAbs).length cx1, .slice Ax2 (digs b32 x.den).length cx2], 33), (w.heap.size + 1, [.bool (decide (y.num < 0)), .slice Ay1 (digs b32 y.num.natAbs).length cy1, .slice Ay2 (digs b32 y.den).length cy2], 33)] w' ∧ w'.cell? ⟨w.heap.size, 0, none⟩ = some (.bool (decide (x.num < 0))) ∧ w'.cell? ⟨w.heap.size, 1, none⟩ = some (.slice Ax1 (digs b32 x.num.natAbs).length cx1) ∧ w'.cell? ⟨w.heap.size, 2, none⟩ = some (.slice Ax2 (digs b32 x.den).length cx2) ∧ w'.cell? ⟨w.heap.size + 1, 0, none⟩ = some (.bool (decide (y.num < 0))) ∧ w'.cell? ⟨w.heap.size + 1, 1, none⟩ = some (.slice Ay1 (digs b32 y.num.natAbs).length cy1) ∧ w'.cell? ⟨w.heap.size + 1, 2, none⟩ = some (.slice Ay2 (digs b32 y.den).length cy2) ∧ w'.cell? ⟨w.heap.size + 2, 0, none⟩ = some (cv w' ⟨w.heap.size + 2, 0, none⟩) ∧ w'.cell? ⟨w.heap.size + 2, 1, none⟩ = some (cv w' ⟨w.heap.size + 2, 1, none⟩) ∧ w'.cell? ⟨w.heap.size + 2, 2, none⟩ = some (cv w' ⟨w.heap.size + 2, 2, none⟩) ∧ w'.frozen? ⟨w.heap.size + 2, 0, none⟩ = false ∧ w'.frozen? ⟨w.heap.size + 2, 1, none⟩ = false ∧ w'.frozen? ⟨w.heap.size + 2, 2, none⟩ = false := fun w' hh => by
    have r1 := hh.par (p := (w.heap.size, [.bool (decide (x.num < 0)), .slice Ax1 (digs b32 x.num.natAbs).length cx1, .slice Ax2 (digs b32 x.den).length cx2], 33)) (by simp)
    have r2 := hh.par (p := (w.heap.size + 1, [.bool (decide (y.num < 0)), .slice Ay1 (digs b32 y.num.natAbs).length cy1, .slice Ay2 (digs b32 y.den).length cy2], 33)) (by simp)
    exact ⟨hh, r1.cell (i := 0) rfl, r1.cell (i := 1) rfl, r1.cell (i := 2) rfl, r2.cell (i := 0) rfl, r2.cell (i := 1) rfl, r2.cell (i := 2) rfl, hh.cellR (i := 0) (by omega), hh.cellR (i := 1) (by omega), hh.cellR (i := 2) (by omega), hh.fzR 0, hh.fzR 1, hh.fzR 2⟩
  have hz : HeldN w (w.heap.size + 2) 3 33 [(w.heap.size, [.bool (decide (x.num < 0)), .slice Ax1 (digs b32 x.num.natAbs).length cx1, .slice Ax2 (digs b32 x.den).length cx2], 33), (w.heap.size + 1, [.bool (decide (y.num < 0)), .slice Ay1 (digs b32 y.num.natAbs).length cy1, .slice Ay2 (digs b32 y.den).length cy2], 33)] w3 := ⟨B0, by omega, by intro q hq; simp at hq; rcases hq with rfl | rfl; exact ⟨by simp, p1⟩; exact ⟨by simp, p2⟩, _, rfl, p3, notInt3⟩
  clear e1 e2 e3 o1 b1 s1 p1 o2 b2 s2 p2 o3 b3 s3 p3
  clear B0
  have hz := hz.drew
  go_region_held3 (fun w' => HeldN w (w.heap.size + 2) 3 33 [(w.heap.size, [.bool (decide (x.num < 0)), .slice Ax1 (digs b32 x.num.natAbs).length cx1, .slice Ax2 (digs b32 x.den).length cx2], 33), (w.heap.size + 1, [.bool (decide (y.num < 0)), .slice Ay1 (digs b32 y.num.natAbs).length cy1, .slice Ay2 (digs b32 y.den).length cy2], 33)] w' ∧ w'.cell? ⟨w.heap.size, 0, none⟩ = some (.bool (decide (x.num < 0))) ∧ w'.cell? ⟨w.heap.size, 1, none⟩ = some (.slice Ax1 (digs b32 x.num.natAbs).length cx1) ∧ w'.cell? ⟨w.heap.size, 2, none⟩ = some (.slice Ax2 (digs b32 x.den).length cx2) ∧ w'.cell? ⟨w.heap.size + 1, 0, none⟩ = some (.bool (decide (y.num < 0))) ∧ w'.cell? ⟨w.heap.size + 1, 1, none⟩ = some (.slice Ay1 (digs b32 y.num.natAbs).length cy1) ∧ w'.cell? ⟨w.heap.size + 1, 2, none⟩ = some (.slice Ay2 (digs b32 y.den).length cy2) ∧ w'.cell? ⟨w.heap.size + 2, 0, none⟩ = some (cv w' ⟨w.heap.size + 2, 0, none⟩) ∧ w'.cell? ⟨w.heap.size + 2, 1, none⟩ = some (cv w' ⟨w.heap.size + 2, 1, none⟩) ∧ w'.cell? ⟨w.heap.size + 2, 2, none⟩ = some (cv w' ⟨w.heap.size + 2, 2, none⟩) ∧ w'.frozen? ⟨w.heap.size + 2, 0, none⟩ = false ∧ w'.frozen? ⟨w.heap.size + 2, 1, none⟩ = false ∧ w'.frozen? ⟨w.heap.size + 2, 2, none⟩ = false)
    (first | exact hS _ hz | exact hS _ (HeldN.sets3 hz))
    (first
      | (go_at_call 63; have hc := product_num _ _ _ _ _ (hxa.below hz.1) (hya.below hz.1) HB.out.1.1 HB.out.2.1 (by omega) (by omega); (with_reducible refine Calls.mono hc ?_); clear hc; rintro e wz ⟨vt1, rfl, ht1, hb⟩; (try have hux := hux.below hb); (try have huy := huy.below hb); (try have ht1 := ht1.below hb); (try have ht2 := ht2.below hb); (try have htd := htd.below hb); (try have hs1 := hs1.below hb); have hz := HeldN.call (And.intro hz trivial) hb)
      | (go_at_call 64; have hc := nunder_num _ _ x (hx0.below hz.1); (with_reducible refine Calls.mono hc ?_); clear hc; rintro e wz ⟨vux, rfl, hux, hb⟩; (try have hux := hux.below hb); (try have huy := huy.below hb); (try have ht1 := ht1.below hb); (try have ht2 := ht2.below hb); (try have htd := htd.below hb); (try have hs1 := hs1.below hb); have hz := HeldN.call (And.intro hz trivial) hb)
      | (go_at_call 64; have hc := nunder_num _ _ y (hy0.below hz.1); (with_reducible refine Calls.mono hc ?_); clear hc; rintro e wz ⟨vuy, rfl, huy, hb⟩; (try have hux := hux.below hb); (try have huy := huy.below hb); (try have ht1 := ht1.below hb); (try have ht2 := ht2.below hb); (try have htd := htd.below hb); (try have hs1 := hs1.below hb); have hz := HeldN.call (And.intro hz trivial) hb)
      | (go_at_call 63; have hc := product_num _ _ _ _ _ hux huy HB.out.1.2 HB.out.2.2 (by omega) (by omega); (with_reducible refine Calls.mono hc ?_); clear hc; rintro e wz ⟨vt2, rfl, ht2, hb⟩; (try have hux := hux.below hb); (try have huy := huy.below hb); (try have ht1 := ht1.below hb); (try have ht2 := ht2.below hb); (try have htd := htd.below hb); (try have hs1 := hs1.below hb); have hz := HeldN.call (And.intro hz trivial) hb)
      | (go_at_call 57; have hc := made_num _ (!(decide (x.num < 0) == decide (y.num < 0))) _ _ (x.num.natAbs * y.num.natAbs) (x.den * y.den) ht1 ht2 (Nat.mul_pos hdx hdy) (HB.out.1.1.mul HB.out.2.1) (HB.out.1.2.mul HB.out.2.2) hjk; (with_reducible refine Calls.mono hc ?_); clear hc; rintro e wz ⟨vr, rfl, hr, hb⟩; (try have hux := hux.below hb); (try have huy := huy.below hb); (try have ht1 := ht1.below hb); (try have ht2 := ht2.below hb); (try have htd := htd.below hb); (try have hs1 := hs1.below hb); have hz := HeldN.call (And.intro hz trivial) hb; replace hr := isRef_of hr (mul_red x y); obtain ⟨vr1, vr2, rfl, hra, hrb⟩ := id hr; obtain ⟨Ar1, cr1, rfl, _⟩ := id hra; obtain ⟨Ar2, cr2, rfl, _⟩ := id hrb))
  all_goals (
    go_wp2
    obtain ⟨wf, HW, ho, hB, hN⟩ := hz.fin [.bool (decide ((x * y).num < 0)), .slice Ar1 (digs b32 (x * y).num.natAbs).length cr1, .slice Ar2 (digs b32 (x * y).den).length cr2] rfl notInt3
    simp only [setAll, Nat.reduceAdd] at HW
    (try rw [HW])
    (try simp only [Exit.inBlock, Exit.then])
    have f0 := ho.cell (i := 0) rfl
    have f1 := ho.cell (i := 1) rfl
    have f2 := ho.cell (i := 2) rfl
    refine bodyPost_ret (by simp [results, Tryz.results14, go_sem, f0, f1, f2]; try rfl) rfl ?_
    exact ⟨_, rfl, hr.into hN, hB⟩)
end Wx
