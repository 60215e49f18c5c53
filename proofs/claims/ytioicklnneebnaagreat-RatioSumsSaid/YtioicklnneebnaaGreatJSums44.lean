import Derived.Test.YtioicklnneebnaaGreatProg
import Derived.Handy
import Derived.Deep.RegionHeld3
import Derived.Test.YtioicklnneebnaaGreatPlain1
import Derived.Test.YtioicklnneebnaaGreatMem
import Derived.Test.YtioicklnneebnaaGreatJSums3
import Derived.Test.YtioicklnneebnaaGreatCRat1
import Derived.Test.YtioicklnneebnaaGreatCRat2
import Derived.Test.YtioicklnneebnaaGreatJSums17
import Derived.Test.YtioicklnneebnaaGreatCLess
import Derived.Test.YtioicklnneebnaaGreatJSums24
import Derived.Test.YtioicklnneebnaaGreatJSums26
import Derived.Test.YtioicklnneebnaaGreatJSums33
import Derived.Test.YtioicklnneebnaaGreatJSums40
import Derived.Test.YtioicklnneebnaaGreatCNRat2
import Derived.Test.YtioicklnneebnaaGreatCNAdd
import Derived.Test.YtioicklnneebnaaGreatJSums19
import Derived.Test.YtioicklnneebnaaGreatCPlainOrd
namespace Wx
open Go Go.RowKit Go.Proofs

set_option maxRecDepth 100000 in
set_option maxHeartbeats 2000000 in
theorem nsub_num (w : World) (vx vy : Value) (x y : Rat) (hx : IsRef w vx x) (hy : IsRef w vy y) {j k : Nat} (hj : BdR j x) (hk : BdR k y) (hjk : j + k + j + k + 1 ≤ 10000000) : Calls Tryz.prog 22 #[vx, vy] w (RetRef w (x - y)) := by
  obtain ⟨vx1, vx2, rfl, hxa, hxb⟩ := id hx
  obtain ⟨Ax1, cx1, rfl, _⟩ := id hxa
  obtain ⟨Ax2, cx2, rfl, _⟩ := id hxb
  obtain ⟨vy1, vy2, rfl, hya, hyb⟩ := id hy
  obtain ⟨Ay1, cy1, rfl, _⟩ := id hya
  obtain ⟨Ay2, cy2, rfl, _⟩ := id hyb
  have hx0 := hx
  have hy0 := hy
  clear hx hy hxa hxb hya hyb
  have HB := bx (And.intro hj hk.neg)
  have HQ := bx (Rat.sub_eq_add_neg x y)
  clear hj hk
  go_enter Tryz.func22, Tryz.ntmps22
  go_wp2_with fail
  obtain ⟨w1, e1, o1, b1, s1⟩ := layA w [.bool (decide (x.num < 0)), .slice Ax1 (digs b32 x.num.natAbs).length cx1, .slice Ax2 (digs b32 x.den).length cx2] 31
  obtain ⟨w2, e2, o2, b2, s2⟩ := layA w1 [.bool (decide (y.num < 0)), .slice Ay1 (digs b32 y.num.natAbs).length cy1, .slice Ay2 (digs b32 y.den).length cy2] 31
  obtain ⟨w3, e3, o3, b3, s3⟩ := layA w2 [.bool false, .slice none 0 0, .slice none 0 0] 31
  rw [e1, e2, e3]
  rw [s1] at o2
  rw [s2, s1] at o3
  have p1 := ((o1.gone b2).gone b3)
  have p2 := (o2.gone b3)
  have p3 := o3
  have B0 := ((b1.trans (b2.mono b1.size)).trans (b3.mono (b1.trans (b2.mono b1.size)).size))
  have hS : ∀ w', HeldN w (w.heap.size + 2) 3 31 [(w.heap.size, [.bool (decide (x.num < 0)), .slice Ax1 (digs b32 x.num.natAbs).length cx1, .slice Ax2 (digs b32 x.den).length cx2], 31), (w.heap.size + 1, [.bool (decide (y.num < 0)), .slice Ay1 (digs b32 y.num.natAbs).length cy1, .slice Ay2 (digs b32 y.den).length cy2], 31)] w' → HeldN w (w.heap.size + 2) 3 31 [(w.heap.size, [.bool (decide (x.num < 0)), .slice Ax1 (digs b32 x.num.natAbs).length cx1, .slice Ax2 (digs b32 x.den).length cx2], 31), (w.heap.size + 1, [.bool (decide (y.num < 0)), .slice Ay1 (digs b32 y.num.natAbs).length cy1, .slice Ay2 (digs b32 y.den).length cy2], 31)] w' ∧ w'.cell? ⟨w.heap.size, 0, none⟩ = some (.bool (decide (x.num < 0))) ∧ w'.cell? ⟨w.heap.size, 1, none⟩ = some (.slice Ax1 (digs b32 x.num.natAbs).length cx1) ∧ w'.cell? ⟨w.heap.size, 2, none⟩ = some (.slice Ax2 (digs b32 x.den).length cx2) ∧ w'.cell? ⟨w.heap.size + 1, 0, none⟩ = some (.bool (decide (y.num < 0))) ∧ w'.cell? ⟨w.heap.size + 1, 1, none⟩ = some (.slice Ay1 (digs b32 y.num.natAbs).length cy1) ∧ w'.cell? ⟨w.heap.size + 1, 2, none⟩ = some (.slice Ay2 (digs b32 y.den).length cy2) ∧ w'.cell? ⟨w.heap.size + 2, 0, none⟩ = some (cv w' ⟨w.heap.size + 2, 0, none⟩) ∧ w'.cell? ⟨w.heap.size + 2, 1, none⟩ = some (cv w' ⟨w.heap.size + 2, 1, none⟩) ∧ w'.cell? ⟨w.heap.size + 2, 2, none⟩ = some (cv w' ⟨w.heap.size + 2, 2, none⟩) ∧ w'.frozen? ⟨w.heap.size + 2, 0, none⟩ = false ∧ w'.frozen? ⟨w.heap.size + 2, 1, none⟩ = false ∧ w'.frozen? ⟨w.heap.size + 2, 2, none⟩ = false := fun w' hh => by
    have r1 := hh.par (p := (w.heap.size, [.bool (decide (x.num < 0)), .slice Ax1 (digs b32 x.num.natAbs).length cx1, .slice Ax2 (digs b32 x.den).length cx2], 31)) (by simp)
    have r2 := hh.par (p := (w.heap.size + 1, [.bool (decide (y.num < 0)), .slice Ay1 (digs b32 y.num.natAbs).length cy1, .slice Ay2 (digs b32 y.den).length cy2], 31)) (by simp)
    exact ⟨hh, r1.cell (i := 0) rfl, r1.cell (i := 1) rfl, r1.cell (i := 2) rfl, r2.cell (i := 0) rfl, r2.cell (i := 1) rfl, r2.cell (i := 2) rfl, hh.cellR (i := 0) (by omega), hh.cellR (i := 1) (by omega), hh.cellR (i := 2) (by omega), hh.fzR 0, hh.fzR 1, hh.fzR 2⟩
  have hz : HeldN w (w.heap.size + 2) 3 31 [(w.heap.size, [.bool (decide (x.num < 0)), .slice Ax1 (digs b32 x.num.natAbs).length cx1, .slice Ax2 (digs b32 x.den).length cx2], 31), (w.heap.size + 1, [.bool (decide (y.num < 0)), .slice Ay1 (digs b32 y.num.natAbs).length cy1, .slice Ay2 (digs b32 y.den).length cy2], 31)] w3 := ⟨B0, by omega, by intro q hq; simp at hq; rcases hq with rfl | rfl; exact ⟨by simp, p1⟩; exact ⟨by simp, p2⟩, _, rfl, p3, notInt3⟩
  clear e1 e2 e3 o1 b1 s1 p1 o2 b2 s2 p2 o3 b3 s3 p3
  clear B0
  have hz := hz.drew
  go_region_held3 (fun w' => HeldN w (w.heap.size + 2) 3 31 [(w.heap.size, [.bool (decide (x.num < 0)), .slice Ax1 (digs b32 x.num.natAbs).length cx1, .slice Ax2 (digs b32 x.den).length cx2], 31), (w.heap.size + 1, [.bool (decide (y.num < 0)), .slice Ay1 (digs b32 y.num.natAbs).length cy1, .slice Ay2 (digs b32 y.den).length cy2], 31)] w' ∧ w'.cell? ⟨w.heap.size, 0, none⟩ = some (.bool (decide (x.num < 0))) ∧ w'.cell? ⟨w.heap.size, 1, none⟩ = some (.slice Ax1 (digs b32 x.num.natAbs).length cx1) ∧ w'.cell? ⟨w.heap.size, 2, none⟩ = some (.slice Ax2 (digs b32 x.den).length cx2) ∧ w'.cell? ⟨w.heap.size + 1, 0, none⟩ = some (.bool (decide (y.num < 0))) ∧ w'.cell? ⟨w.heap.size + 1, 1, none⟩ = some (.slice Ay1 (digs b32 y.num.natAbs).length cy1) ∧ w'.cell? ⟨w.heap.size + 1, 2, none⟩ = some (.slice Ay2 (digs b32 y.den).length cy2) ∧ w'.cell? ⟨w.heap.size + 2, 0, none⟩ = some (cv w' ⟨w.heap.size + 2, 0, none⟩) ∧ w'.cell? ⟨w.heap.size + 2, 1, none⟩ = some (cv w' ⟨w.heap.size + 2, 1, none⟩) ∧ w'.cell? ⟨w.heap.size + 2, 2, none⟩ = some (cv w' ⟨w.heap.size + 2, 2, none⟩) ∧ w'.frozen? ⟨w.heap.size + 2, 0, none⟩ = false ∧ w'.frozen? ⟨w.heap.size + 2, 1, none⟩ = false ∧ w'.frozen? ⟨w.heap.size + 2, 2, none⟩ = false)
    (first | exact hS _ hz | exact hS _ (HeldN.sets3 hz))
    (first
      | (go_at_call 45; (with_reducible refine Calls.mono (nneg_num _ _ y (hy0.below hz.b)) ?_); rintro e wz ⟨vn, rfl, hn, hb⟩; have hz := HeldN.call (And.intro hz trivial) hb)
      | (go_at_call 21; (with_reducible refine Calls.mono (nadd_num _ _ _ x (-y) (hx0.below hz.b) hn HB.out.1 HB.out.2 hjk) ?_); rintro e wz ⟨vr, rfl, hr, hb⟩; have hz := HeldN.call (And.intro hz trivial) hb; rw [← HQ.out] at hr; obtain ⟨vr1, vr2, rfl, hra, hrb⟩ := id hr; obtain ⟨Ar1, cr1, rfl, _⟩ := id hra; obtain ⟨Ar2, cr2, rfl, _⟩ := id hrb))
  all_goals (
    go_wp2
    obtain ⟨wf, HW, ho, hB, hN⟩ := hz.fin [.bool (decide ((x - y).num < 0)), .slice Ar1 (digs b32 (x - y).num.natAbs).length cr1, .slice Ar2 (digs b32 (x - y).den).length cr2] rfl notInt3
    simp only [setAll, Nat.reduceAdd] at HW
    (try rw [HW])
    (try simp only [Exit.inBlock, Exit.then])
    have f0 := ho.cell (i := 0) rfl
    have f1 := ho.cell (i := 1) rfl
    have f2 := ho.cell (i := 2) rfl
    refine bodyPost_ret (by simp [results, Tryz.results22, go_sem, f0, f1, f2]; try rfl) rfl ?_
    exact ⟨_, rfl, hr.into hN, hB⟩)
end Wx

namespace Wx
open Go Go.RowKit Go.Proofs

set_option maxRecDepth 100000 in
set_option maxHeartbeats 1000000 in
theorem nsign_num (w : World) (vx : Value) (x : Rat) (hx : IsRef w vx x) : Calls Tryz.prog 56 #[vx] w (RetIs w (.int .i64 (sgnI x))) := by
  obtain ⟨vx1, vx2, rfl, hxa, hxb⟩ := id hx
  obtain ⟨Ax1, cx1, rfl, _⟩ := id hxa
  obtain ⟨Ax2, cx2, rfl, _⟩ := id hxb
  have hS : sgnI x = if x = 0 then 0 else if x.num < 0 then -1 else 1 := by
    unfold sgnI
    by_cases h : x = 0
    · subst h; rfl
    · rw [if_neg h, if_neg h]
  have hx0 := hx
  clear hx
  generalize sgnI x = z at *
  by_cases h2 : x = 0
  · rw [if_pos h2] at hS
    subst hS
    have HD := bx (decide_eq_true h2)
    clear h2
    go_enter Tryz.func56, Tryz.ntmps56
    go_wp2_with fail
    obtain ⟨w1, e1, oP, b1, s1⟩ := layA w [.bool (decide (x.num < 0)), .slice Ax1 (digs b32 x.num.natAbs).length cx1, .slice Ax2 (digs b32 x.den).length cx2] 31
    rw [e1]
    clear e1
    replace hx0 := hx0.below b1
    have B := b1
    clear b1
    have hc := nzero_num _ _ x hx0
    rw [HD.out] at hc
    refine Calls.mono (hc) ?_
    rintro e w2 ⟨rfl, b2⟩
    replace hx0 := hx0.below b2
    replace oP := oP.gone b2
    replace B := B.trans (b2.mono B.size)
    clear b2
    clear hc
    have k1 := oP.cell (i := 0) rfl
    have k2 := oP.cell (i := 1) rfl
    have k3 := oP.cell (i := 2) rfl
    go_wp2
    go_ret
    exact ⟨rfl, B⟩
  · rw [if_neg h2] at hS
    have HD := bx (decide_eq_false h2)
    clear h2
    by_cases h1 : x.num < 0
    · rw [if_pos h1] at hS
      subst hS
      rw [decide_eq_true h1] at *
      go_enter Tryz.func56, Tryz.ntmps56
      go_wp2_with fail
      obtain ⟨w1, e1, oP, b1, s1⟩ := layA w [.bool true, .slice Ax1 (digs b32 x.num.natAbs).length cx1, .slice Ax2 (digs b32 x.den).length cx2] 31
      rw [e1]
      clear e1
      replace hx0 := hx0.below b1
      have B := b1
      clear b1
      have hc := nzero_num _ _ x hx0
      rw [HD.out] at hc
      refine Calls.mono (hc) ?_
      rintro e w2 ⟨rfl, b2⟩
      replace hx0 := hx0.below b2
      replace oP := oP.gone b2
      replace B := B.trans (b2.mono B.size)
      clear b2
      clear hc
      have k1 := oP.cell (i := 0) rfl
      have k2 := oP.cell (i := 1) rfl
      have k3 := oP.cell (i := 2) rfl
      go_wp2
      go_ret
      exact ⟨rfl, B⟩
    · rw [if_neg h1] at hS
      subst hS
      rw [decide_eq_false h1] at *
      go_enter Tryz.func56, Tryz.ntmps56
      go_wp2_with fail
      obtain ⟨w1, e1, oP, b1, s1⟩ := layA w [.bool false, .slice Ax1 (digs b32 x.num.natAbs).length cx1, .slice Ax2 (digs b32 x.den).length cx2] 31
      rw [e1]
      clear e1
      replace hx0 := hx0.below b1
      have B := b1
      clear b1
      have hc := nzero_num _ _ x hx0
      rw [HD.out] at hc
      refine Calls.mono (hc) ?_
      rintro e w2 ⟨rfl, b2⟩
      replace hx0 := hx0.below b2
      replace oP := oP.gone b2
      replace B := B.trans (b2.mono B.size)
      clear b2
      clear hc
      have k1 := oP.cell (i := 0) rfl
      have k2 := oP.cell (i := 1) rfl
      have k3 := oP.cell (i := 2) rfl
      go_wp2
      go_ret
      exact ⟨rfl, B⟩
end Wx

namespace Wx
open Go Go.RowKit Go.Proofs

theorem sgn_sub (x y : Rat) : sgnI (x - y) = cmpT x y := by rw [sgnI_eq]; exact cmpT_sub x y
set_option maxRecDepth 100000 in
set_option maxHeartbeats 1000000 in
theorem ncmp_num (w : World) (vx vy : Value) (x y : Rat) (hx : IsRef w vx x) (hy : IsRef w vy y) {j k : Nat} (hj : BdR j x) (hk : BdR k y) (hjk : j + k + j + k + 1 ≤ 10000000) : Calls Tryz.prog 24 #[vx, vy] w (RetIs w (.int .i64 (cmpT x y))) := by
  obtain ⟨vx1, vx2, rfl, hxa, hxb⟩ := id hx
  obtain ⟨Ax1, cx1, rfl, _⟩ := id hxa
  obtain ⟨Ax2, cx2, rfl, _⟩ := id hxb
  obtain ⟨vy1, vy2, rfl, hya, hyb⟩ := id hy
  obtain ⟨Ay1, cy1, rfl, _⟩ := id hya
  obtain ⟨Ay2, cy2, rfl, _⟩ := id hyb
  have hx0 := hx
  have hy0 := hy
  clear hx hy hxa hxb hya hyb
  have HB := bx (And.intro hj hk)
  clear hj hk
  go_enter Tryz.func24, Tryz.ntmps24
  go_wp2_with fail
  obtain ⟨w1, e1, oX, b1, s1⟩ := layA w [.bool (decide (x.num < 0)), .slice Ax1 (digs b32 x.num.natAbs).length cx1, .slice Ax2 (digs b32 x.den).length cx2] 31
  rw [e1]
  clear e1
  replace hx0 := hx0.below b1
  replace hy0 := hy0.below b1
  have B := b1
  clear b1
  obtain ⟨w2, e2, oY, b2, s2⟩ := layA w1 [.bool (decide (y.num < 0)), .slice Ay1 (digs b32 y.num.natAbs).length cy1, .slice Ay2 (digs b32 y.den).length cy2] 31
  rw [e2]
  rw [s1] at oY
  clear e2
  replace hx0 := hx0.below b2
  replace hy0 := hy0.below b2
  replace oX := oX.gone b2
  replace B := B.trans (b2.mono B.size)
  clear b2
  refine Calls.mono (nsub_num _ _ _ x y hx0 hy0 HB.out.1 HB.out.2 hjk) ?_
  rintro e w3 ⟨vr, rfl, hr, b3⟩
  replace hx0 := hx0.below b3
  replace hy0 := hy0.below b3
  replace oX := oX.gone b3
  replace oY := oY.gone b3
  replace B := B.trans (b3.mono B.size)
  clear b3
  go_wp2_with fail
  have hc := nsign_num _ _ (x - y) hr
  rw [sgn_sub] at hc
  refine Calls.mono (hc) ?_
  rintro e w4 ⟨rfl, b4⟩
  replace hx0 := hx0.below b4
  replace hy0 := hy0.below b4
  replace oX := oX.gone b4
  replace oY := oY.gone b4
  replace hr := hr.below b4
  replace B := B.trans (b4.mono B.size)
  clear b4
  clear hc
  go_wp2
  go_ret
  exact ⟨rfl, B⟩
set_option maxRecDepth 100000 in
set_option maxHeartbeats 1000000 in
theorem nsame_num (w : World) (vx vy : Value) (x y : Rat) (hx : IsRef w vx x) (hy : IsRef w vy y) {j k : Nat} (hj : BdR j x) (hk : BdR k y) (hjk : j + k + j + k + 1 ≤ 10000000) : Calls Tryz.prog 26 #[vx, vy] w (RetIs w (.bool (cmpT x y == 0))) := by
  obtain ⟨vx1, vx2, rfl, hxa, hxb⟩ := id hx
  obtain ⟨Ax1, cx1, rfl, _⟩ := id hxa
  obtain ⟨Ax2, cx2, rfl, _⟩ := id hxb
  obtain ⟨vy1, vy2, rfl, hya, hyb⟩ := id hy
  obtain ⟨Ay1, cy1, rfl, _⟩ := id hya
  obtain ⟨Ay2, cy2, rfl, _⟩ := id hyb
  have hx0 := hx
  have hy0 := hy
  clear hx hy hxa hxb hya hyb
  have HB := bx (And.intro hj hk)
  clear hj hk
  go_enter Tryz.func26, Tryz.ntmps26
  go_wp2_with fail
  obtain ⟨w1, e1, oX, b1, s1⟩ := layA w [.bool (decide (x.num < 0)), .slice Ax1 (digs b32 x.num.natAbs).length cx1, .slice Ax2 (digs b32 x.den).length cx2] 31
  rw [e1]
  clear e1
  replace hx0 := hx0.below b1
  replace hy0 := hy0.below b1
  have B := b1
  clear b1
  obtain ⟨w2, e2, oY, b2, s2⟩ := layA w1 [.bool (decide (y.num < 0)), .slice Ay1 (digs b32 y.num.natAbs).length cy1, .slice Ay2 (digs b32 y.den).length cy2] 31
  rw [e2]
  rw [s1] at oY
  clear e2
  replace hx0 := hx0.below b2
  replace hy0 := hy0.below b2
  replace oX := oX.gone b2
  replace B := B.trans (b2.mono B.size)
  clear b2
  refine Calls.mono (ncmp_num _ _ _ x y hx0 hy0 HB.out.1 HB.out.2 hjk) ?_
  rintro e w3 ⟨rfl, b3⟩
  replace hx0 := hx0.below b3
  replace hy0 := hy0.below b3
  replace oX := oX.gone b3
  replace oY := oY.gone b3
  replace B := B.trans (b3.mono B.size)
  clear b3
  generalize cmpT x y = z at *
  go_wp2
  go_ret
  exact ⟨rfl, B⟩
end Wx
