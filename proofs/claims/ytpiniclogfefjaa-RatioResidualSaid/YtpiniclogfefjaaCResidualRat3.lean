import Derived.Test.YtpiniclogfefjaaProg
import Derived.Handy
import Derived.Deep.RegionHeld3
import Derived.Test.YtpiniclogfefjaaJResidual0
import Derived.Test.YtpiniclogfefjaaCResidualMem
import Derived.Test.YtpiniclogfefjaaJResidual6
import Derived.Test.YtpiniclogfefjaaJResidual16
import Derived.Test.YtpiniclogfefjaaJResidual8
import Derived.Test.YtpiniclogfefjaaJResidual12
import Derived.Test.YtpiniclogfefjaaCResidualRat1
import Derived.Test.YtpiniclogfefjaaJResidual14
import Derived.Test.YtpiniclogfefjaaCResidualAddS
namespace Wx
set_option maxRecDepth 100000
open Go Go.RowKit Go.Proofs

theorem isRat_of {w : World} {v : Value} {p q : Rat} (h : IsRat w v p) (e : q = p) : IsRat w v q := e ▸ h

set_option maxHeartbeats 8000000 in
theorem mul_num (w : World) (vx vy : Value) (x y : Rat) (hx : IsRat w vx x) (hy : IsRat w vy y) {j k : Nat} (hj : BdR j x) (hk : BdR k y) (hjk : j + k ≤ 100000000) : Calls Try.prog 11 #[vx, vy] w (RetRat w (x * y)) := by
  obtain ⟨vx1, vx2, rfl, hxa, hxb⟩ := id hx
  obtain ⟨Ax1, cx1, rfl, _⟩ := id hxa
  obtain ⟨Ax2, cx2, rfl, _⟩ := id hxb
  obtain ⟨vy1, vy2, rfl, hya, hyb⟩ := id hy
  obtain ⟨Ay1, cy1, rfl, _⟩ := id hya
  obtain ⟨Ay2, cy2, rfl, _⟩ := id hyb
  have hdx := x.den_pos
  have hdy := y.den_pos
  have HB := bx (And.intro hj hk)
  have hj1 : j ≤ 1000000000 := by omega
  have hk1 : k ≤ 1000000000 := by omega
  clear hj hk
  go_enter Try.func11, Try.ntmps11
  go_wp2_with fail
  obtain ⟨w1, e1, o1, b1, s1⟩ := lay3 w (.bool (decide (x.num < 0))) (.slice Ax1 (digs b64 x.num.natAbs).length cx1) (.slice Ax2 (digs b64 (denOf x.den)).length cx2) 32
  obtain ⟨w2, e2, o2, b2, s2⟩ := lay3 w1 (.bool (decide (y.num < 0))) (.slice Ay1 (digs b64 y.num.natAbs).length cy1) (.slice Ay2 (digs b64 (denOf y.den)).length cy2) 32
  obtain ⟨w3, e3, o3, b3, s3⟩ := lay3 w2 (.bool false) (.slice none 0 0) (.slice none 0 0) 32
  rw [e1, e2, e3]
  rw [s1] at o2
  rw [s2, s1] at o3
  have p1 := ((o1.gone b2).gone b3)
  have p2 := (o2.gone b3)
  have p3 := o3
  have B0 := ((b1.trans (b2.mono b1.size)).trans (b3.mono (b1.trans (b2.mono b1.size)).size))
  have hS : ∀ w', HeldR w (w.heap.size + 2) 32 [(w.heap.size, .bool (decide (x.num < 0)), .slice Ax1 (digs b64 x.num.natAbs).length cx1, .slice Ax2 (digs b64 (denOf x.den)).length cx2), (w.heap.size + 1, .bool (decide (y.num < 0)), .slice Ay1 (digs b64 y.num.natAbs).length cy1, .slice Ay2 (digs b64 (denOf y.den)).length cy2)] w' → HeldR w (w.heap.size + 2) 32 [(w.heap.size, .bool (decide (x.num < 0)), .slice Ax1 (digs b64 x.num.natAbs).length cx1, .slice Ax2 (digs b64 (denOf x.den)).length cx2), (w.heap.size + 1, .bool (decide (y.num < 0)), .slice Ay1 (digs b64 y.num.natAbs).length cy1, .slice Ay2 (digs b64 (denOf y.den)).length cy2)] w' ∧ w'.cell? ⟨w.heap.size, 0, none⟩ = some (.bool (decide (x.num < 0))) ∧ w'.cell? ⟨w.heap.size, 1, none⟩ = some (.slice Ax1 (digs b64 x.num.natAbs).length cx1) ∧ w'.cell? ⟨w.heap.size, 2, none⟩ = some (.slice Ax2 (digs b64 (denOf x.den)).length cx2) ∧ w'.cell? ⟨w.heap.size + 1, 0, none⟩ = some (.bool (decide (y.num < 0))) ∧ w'.cell? ⟨w.heap.size + 1, 1, none⟩ = some (.slice Ay1 (digs b64 y.num.natAbs).length cy1) ∧ w'.cell? ⟨w.heap.size + 1, 2, none⟩ = some (.slice Ay2 (digs b64 (denOf y.den)).length cy2) ∧ w'.cell? ⟨w.heap.size + 2, 0, none⟩ = some (cv w' ⟨w.heap.size + 2, 0, none⟩) ∧ w'.cell? ⟨w.heap.size + 2, 1, none⟩ = some (cv w' ⟨w.heap.size + 2, 1, none⟩) ∧ w'.cell? ⟨w.heap.size + 2, 2, none⟩ = some (cv w' ⟨w.heap.size + 2, 2, none⟩) ∧ w'.frozen? ⟨w.heap.size + 2, 0, none⟩ = false ∧ w'.frozen? ⟨w.heap.size + 2, 1, none⟩ = false ∧ w'.frozen? ⟨w.heap.size + 2, 2, none⟩ = false := fun w' hh => by
    obtain ⟨f0, f1, f2, f3, f4, f5⟩ := hh.cells
    have q1 := (hh.2.2.1 (w.heap.size, .bool (decide (x.num < 0)), .slice Ax1 (digs b64 x.num.natAbs).length cx1, .slice Ax2 (digs b64 (denOf x.den)).length cx2) (by simp)).2
    have q2 := (hh.2.2.1 (w.heap.size + 1, .bool (decide (y.num < 0)), .slice Ay1 (digs b64 y.num.natAbs).length cy1, .slice Ay2 (digs b64 (denOf y.den)).length cy2) (by simp)).2
    exact ⟨hh, q1.c0, q1.c1, q1.c2, q2.c0, q2.c1, q2.c2, f0, f1, f2, f3, f4, f5⟩
  have H0 : HeldR w (w.heap.size + 2) 32 [(w.heap.size, .bool (decide (x.num < 0)), .slice Ax1 (digs b64 x.num.natAbs).length cx1, .slice Ax2 (digs b64 (denOf x.den)).length cx2), (w.heap.size + 1, .bool (decide (y.num < 0)), .slice Ay1 (digs b64 y.num.natAbs).length cy1, .slice Ay2 (digs b64 (denOf y.den)).length cy2)] w3 := ⟨B0, by omega, by intro p hp; simp at hp; rcases hp with rfl | rfl; exact ⟨by simp, p1⟩; exact ⟨by simp, p2⟩, _, _, _, p3, notInt_bool _, notInt_slice _ _ _, notInt_slice _ _ _⟩
  clear e1 e2 e3
  have hz := H0.drew
  go_region_held3 (fun w' => HeldR w (w.heap.size + 2) 32 [(w.heap.size, .bool (decide (x.num < 0)), .slice Ax1 (digs b64 x.num.natAbs).length cx1, .slice Ax2 (digs b64 (denOf x.den)).length cx2), (w.heap.size + 1, .bool (decide (y.num < 0)), .slice Ay1 (digs b64 y.num.natAbs).length cy1, .slice Ay2 (digs b64 (denOf y.den)).length cy2)] w' ∧ w'.cell? ⟨w.heap.size, 0, none⟩ = some (.bool (decide (x.num < 0))) ∧ w'.cell? ⟨w.heap.size, 1, none⟩ = some (.slice Ax1 (digs b64 x.num.natAbs).length cx1) ∧ w'.cell? ⟨w.heap.size, 2, none⟩ = some (.slice Ax2 (digs b64 (denOf x.den)).length cx2) ∧ w'.cell? ⟨w.heap.size + 1, 0, none⟩ = some (.bool (decide (y.num < 0))) ∧ w'.cell? ⟨w.heap.size + 1, 1, none⟩ = some (.slice Ay1 (digs b64 y.num.natAbs).length cy1) ∧ w'.cell? ⟨w.heap.size + 1, 2, none⟩ = some (.slice Ay2 (digs b64 (denOf y.den)).length cy2) ∧ w'.cell? ⟨w.heap.size + 2, 0, none⟩ = some (cv w' ⟨w.heap.size + 2, 0, none⟩) ∧ w'.cell? ⟨w.heap.size + 2, 1, none⟩ = some (cv w' ⟨w.heap.size + 2, 1, none⟩) ∧ w'.cell? ⟨w.heap.size + 2, 2, none⟩ = some (cv w' ⟨w.heap.size + 2, 2, none⟩) ∧ w'.frozen? ⟨w.heap.size + 2, 0, none⟩ = false ∧ w'.frozen? ⟨w.heap.size + 2, 1, none⟩ = false ∧ w'.frozen? ⟨w.heap.size + 2, 2, none⟩ = false)
    (first | exact hS _ hz | exact hS _ (HeldR.sets (by assumption) _ _ _ _ _ _ _))
    (first
      | (go_at_call 40; have hc := under_num _ _ x.den (hxb.below hz.1) hdx; (with_reducible refine Calls.mono hc ?_); clear hc; rintro e wz ⟨vux, rfl, hux, hb⟩; (try have hux := hux.below hb); (try have huy := huy.below hb); (try have ht1 := ht1.below hb); (try have ht2 := ht2.below hb); (try have htd := htd.below hb); (try have hs1 := hs1.below hb); have hz := HeldR.call (by assumption) hb)
      | (go_at_call 40; have hc := under_num _ _ y.den (hyb.below hz.1) hdy; (with_reducible refine Calls.mono hc ?_); clear hc; rintro e wz ⟨vuy, rfl, huy, hb⟩; (try have hux := hux.below hb); (try have huy := huy.below hb); (try have ht1 := ht1.below hb); (try have ht2 := ht2.below hb); (try have htd := htd.below hb); (try have hs1 := hs1.below hb); have hz := HeldR.call (by assumption) hb)
      | (go_at_call 39; have hc := times_num _ _ _ _ _ (hxa.below hz.1) (hya.below hz.1) HB.out.1.1 HB.out.2.1 hj1 hk1; (with_reducible refine Calls.mono hc ?_); clear hc; rintro e wz ⟨vt1, rfl, ht1, hb⟩; (try have hux := hux.below hb); (try have huy := huy.below hb); (try have ht1 := ht1.below hb); (try have ht2 := ht2.below hb); (try have htd := htd.below hb); (try have hs1 := hs1.below hb); have hz := HeldR.call (by assumption) hb)
      | (go_at_call 39; have hc := times_num _ _ _ _ _ hux huy HB.out.1.2 HB.out.2.2 hj1 hk1; (with_reducible refine Calls.mono hc ?_); clear hc; rintro e wz ⟨vt2, rfl, ht2, hb⟩; (try have hux := hux.below hb); (try have huy := huy.below hb); (try have ht1 := ht1.below hb); (try have ht2 := ht2.below hb); (try have htd := htd.below hb); (try have hs1 := hs1.below hb); have hz := HeldR.call (by assumption) hb)
      | (go_at_call 38; have hc := reduced_num _ (!(decide (x.num < 0) == decide (y.num < 0))) _ _ (x.num.natAbs * y.num.natAbs) (x.den * y.den) ht1 ht2 (Nat.mul_pos hdx hdy) (HB.out.1.1.mul HB.out.2.1) (HB.out.1.2.mul HB.out.2.2) hjk; (with_reducible refine Calls.mono hc ?_); clear hc; rintro e wz ⟨vr, rfl, hrr, hb⟩; replace hrr := isRat_of hrr (mul_red x y); obtain ⟨vrn, vrd, rfl, hrn, hrd⟩ := hrr; obtain ⟨Ar1, cr1, rfl, _⟩ := id hrn; obtain ⟨Ar2, cr2, rfl, _⟩ := id hrd; (try have hux := hux.below hb); (try have huy := huy.below hb); (try have ht1 := ht1.below hb); (try have ht2 := ht2.below hb); (try have htd := htd.below hb); (try have hs1 := hs1.below hb); have hz := HeldR.call (by assumption) hb))
  all_goals (
    go_wp2
    obtain ⟨wf, HW, f0, f1, f2, hfin⟩ := hz.fin rfl hrn hrd
    (try rw [HW])
    (try simp only [Exit.inBlock, Exit.then])
    refine bodyPost_ret (by simp [results, Try.results11, go_sem, f0, f1, f2]; try rfl) rfl ?_
    first | exact hfin | exact hfin.drew)
set_option maxHeartbeats 8000000 in
theorem by_num (w : World) (vx vy : Value) (x y : Rat) (hx : IsRat w vx x) (hy : IsRat w vy y) (hy0 : y.num ≠ 0) {j k : Nat} (hj : BdR j x) (hk : BdR k y) (hjk : j + k ≤ 100000000) : Calls Try.prog 48 #[vx, vy] w (RetRat w (x / y)) := by
  have HY := bx hy0
  clear hy0
  obtain ⟨vx1, vx2, rfl, hxa, hxb⟩ := id hx
  obtain ⟨Ax1, cx1, rfl, _⟩ := id hxa
  obtain ⟨Ax2, cx2, rfl, _⟩ := id hxb
  obtain ⟨vy1, vy2, rfl, hya, hyb⟩ := id hy
  obtain ⟨Ay1, cy1, rfl, _⟩ := id hya
  obtain ⟨Ay2, cy2, rfl, _⟩ := id hyb
  have hdx := x.den_pos
  have hdy := y.den_pos
  have HB := bx (And.intro hj hk)
  have hj1 : j ≤ 1000000000 := by omega
  have hk1 : k ≤ 1000000000 := by omega
  clear hj hk
  go_enter Try.func48, Try.ntmps48
  go_wp2_with fail
  obtain ⟨w1, e1, o1, b1, s1⟩ := lay3 w (.bool (decide (x.num < 0))) (.slice Ax1 (digs b64 x.num.natAbs).length cx1) (.slice Ax2 (digs b64 (denOf x.den)).length cx2) 32
  obtain ⟨w2, e2, o2, b2, s2⟩ := lay3 w1 (.bool (decide (y.num < 0))) (.slice Ay1 (digs b64 y.num.natAbs).length cy1) (.slice Ay2 (digs b64 (denOf y.den)).length cy2) 32
  obtain ⟨w3, e3, o3, b3, s3⟩ := lay3 w2 (.bool false) (.slice none 0 0) (.slice none 0 0) 32
  rw [e1, e2, e3]
  rw [s1] at o2
  rw [s2, s1] at o3
  have p1 := ((o1.gone b2).gone b3)
  have p2 := (o2.gone b3)
  have p3 := o3
  have B0 := ((b1.trans (b2.mono b1.size)).trans (b3.mono (b1.trans (b2.mono b1.size)).size))
  have hS : ∀ w', HeldR w (w.heap.size + 2) 32 [(w.heap.size, .bool (decide (x.num < 0)), .slice Ax1 (digs b64 x.num.natAbs).length cx1, .slice Ax2 (digs b64 (denOf x.den)).length cx2), (w.heap.size + 1, .bool (decide (y.num < 0)), .slice Ay1 (digs b64 y.num.natAbs).length cy1, .slice Ay2 (digs b64 (denOf y.den)).length cy2)] w' → HeldR w (w.heap.size + 2) 32 [(w.heap.size, .bool (decide (x.num < 0)), .slice Ax1 (digs b64 x.num.natAbs).length cx1, .slice Ax2 (digs b64 (denOf x.den)).length cx2), (w.heap.size + 1, .bool (decide (y.num < 0)), .slice Ay1 (digs b64 y.num.natAbs).length cy1, .slice Ay2 (digs b64 (denOf y.den)).length cy2)] w' ∧ w'.cell? ⟨w.heap.size, 0, none⟩ = some (.bool (decide (x.num < 0))) ∧ w'.cell? ⟨w.heap.size, 1, none⟩ = some (.slice Ax1 (digs b64 x.num.natAbs).length cx1) ∧ w'.cell? ⟨w.heap.size, 2, none⟩ = some (.slice Ax2 (digs b64 (denOf x.den)).length cx2) ∧ w'.cell? ⟨w.heap.size + 1, 0, none⟩ = some (.bool (decide (y.num < 0))) ∧ w'.cell? ⟨w.heap.size + 1, 1, none⟩ = some (.slice Ay1 (digs b64 y.num.natAbs).length cy1) ∧ w'.cell? ⟨w.heap.size + 1, 2, none⟩ = some (.slice Ay2 (digs b64 (denOf y.den)).length cy2) ∧ w'.cell? ⟨w.heap.size + 2, 0, none⟩ = some (cv w' ⟨w.heap.size + 2, 0, none⟩) ∧ w'.cell? ⟨w.heap.size + 2, 1, none⟩ = some (cv w' ⟨w.heap.size + 2, 1, none⟩) ∧ w'.cell? ⟨w.heap.size + 2, 2, none⟩ = some (cv w' ⟨w.heap.size + 2, 2, none⟩) ∧ w'.frozen? ⟨w.heap.size + 2, 0, none⟩ = false ∧ w'.frozen? ⟨w.heap.size + 2, 1, none⟩ = false ∧ w'.frozen? ⟨w.heap.size + 2, 2, none⟩ = false := fun w' hh => by
    obtain ⟨f0, f1, f2, f3, f4, f5⟩ := hh.cells
    have q1 := (hh.2.2.1 (w.heap.size, .bool (decide (x.num < 0)), .slice Ax1 (digs b64 x.num.natAbs).length cx1, .slice Ax2 (digs b64 (denOf x.den)).length cx2) (by simp)).2
    have q2 := (hh.2.2.1 (w.heap.size + 1, .bool (decide (y.num < 0)), .slice Ay1 (digs b64 y.num.natAbs).length cy1, .slice Ay2 (digs b64 (denOf y.den)).length cy2) (by simp)).2
    exact ⟨hh, q1.c0, q1.c1, q1.c2, q2.c0, q2.c1, q2.c2, f0, f1, f2, f3, f4, f5⟩
  have H0 : HeldR w (w.heap.size + 2) 32 [(w.heap.size, .bool (decide (x.num < 0)), .slice Ax1 (digs b64 x.num.natAbs).length cx1, .slice Ax2 (digs b64 (denOf x.den)).length cx2), (w.heap.size + 1, .bool (decide (y.num < 0)), .slice Ay1 (digs b64 y.num.natAbs).length cy1, .slice Ay2 (digs b64 (denOf y.den)).length cy2)] w3 := ⟨B0, by omega, by intro p hp; simp at hp; rcases hp with rfl | rfl; exact ⟨by simp, p1⟩; exact ⟨by simp, p2⟩, _, _, _, p3, notInt_bool _, notInt_slice _ _ _, notInt_slice _ _ _⟩
  clear e1 e2 e3
  have hz := H0.drew
  go_region_held3 (fun w' => HeldR w (w.heap.size + 2) 32 [(w.heap.size, .bool (decide (x.num < 0)), .slice Ax1 (digs b64 x.num.natAbs).length cx1, .slice Ax2 (digs b64 (denOf x.den)).length cx2), (w.heap.size + 1, .bool (decide (y.num < 0)), .slice Ay1 (digs b64 y.num.natAbs).length cy1, .slice Ay2 (digs b64 (denOf y.den)).length cy2)] w' ∧ w'.cell? ⟨w.heap.size, 0, none⟩ = some (.bool (decide (x.num < 0))) ∧ w'.cell? ⟨w.heap.size, 1, none⟩ = some (.slice Ax1 (digs b64 x.num.natAbs).length cx1) ∧ w'.cell? ⟨w.heap.size, 2, none⟩ = some (.slice Ax2 (digs b64 (denOf x.den)).length cx2) ∧ w'.cell? ⟨w.heap.size + 1, 0, none⟩ = some (.bool (decide (y.num < 0))) ∧ w'.cell? ⟨w.heap.size + 1, 1, none⟩ = some (.slice Ay1 (digs b64 y.num.natAbs).length cy1) ∧ w'.cell? ⟨w.heap.size + 1, 2, none⟩ = some (.slice Ay2 (digs b64 (denOf y.den)).length cy2) ∧ w'.cell? ⟨w.heap.size + 2, 0, none⟩ = some (cv w' ⟨w.heap.size + 2, 0, none⟩) ∧ w'.cell? ⟨w.heap.size + 2, 1, none⟩ = some (cv w' ⟨w.heap.size + 2, 1, none⟩) ∧ w'.cell? ⟨w.heap.size + 2, 2, none⟩ = some (cv w' ⟨w.heap.size + 2, 2, none⟩) ∧ w'.frozen? ⟨w.heap.size + 2, 0, none⟩ = false ∧ w'.frozen? ⟨w.heap.size + 2, 1, none⟩ = false ∧ w'.frozen? ⟨w.heap.size + 2, 2, none⟩ = false)
    (first | exact hS _ hz | exact hS _ (HeldR.sets (by assumption) _ _ _ _ _ _ _))
    (first
      | (go_at_call 40; have hc := under_num _ _ x.den (hxb.below hz.1) hdx; (with_reducible refine Calls.mono hc ?_); clear hc; rintro e wz ⟨vux, rfl, hux, hb⟩; (try have hux := hux.below hb); (try have huy := huy.below hb); (try have ht1 := ht1.below hb); (try have ht2 := ht2.below hb); (try have htd := htd.below hb); (try have hs1 := hs1.below hb); have hz := HeldR.call (by assumption) hb)
      | (go_at_call 40; have hc := under_num _ _ y.den (hyb.below hz.1) hdy; (with_reducible refine Calls.mono hc ?_); clear hc; rintro e wz ⟨vuy, rfl, huy, hb⟩; (try have hux := hux.below hb); (try have huy := huy.below hb); (try have ht1 := ht1.below hb); (try have ht2 := ht2.below hb); (try have htd := htd.below hb); (try have hs1 := hs1.below hb); have hz := HeldR.call (by assumption) hb)
      | (go_at_call 39; have hc := times_num _ _ _ _ _ (hxa.below hz.1) huy HB.out.1.1 HB.out.2.2 hj1 hk1; (with_reducible refine Calls.mono hc ?_); clear hc; rintro e wz ⟨vt1, rfl, ht1, hb⟩; (try have hux := hux.below hb); (try have huy := huy.below hb); (try have ht1 := ht1.below hb); (try have ht2 := ht2.below hb); (try have htd := htd.below hb); (try have hs1 := hs1.below hb); have hz := HeldR.call (by assumption) hb)
      | (go_at_call 39; have hc := times_num _ _ _ _ _ hux (hya.below hz.1) HB.out.1.2 HB.out.2.1 hj1 hk1; (with_reducible refine Calls.mono hc ?_); clear hc; rintro e wz ⟨vt2, rfl, ht2, hb⟩; (try have hux := hux.below hb); (try have huy := huy.below hb); (try have ht1 := ht1.below hb); (try have ht2 := ht2.below hb); (try have htd := htd.below hb); (try have hs1 := hs1.below hb); have hz := HeldR.call (by assumption) hb)
      | (go_at_call 38; have hc := reduced_num _ (!(decide (x.num < 0) == decide (y.num < 0))) _ _ (x.num.natAbs * y.den) (x.den * y.num.natAbs) ht1 ht2 (Nat.mul_pos hdx (by have := HY.out; omega)) (HB.out.1.1.mul HB.out.2.2) (HB.out.1.2.mul HB.out.2.1) hjk; (with_reducible refine Calls.mono hc ?_); clear hc; rintro e wz ⟨vr, rfl, hrr, hb⟩; replace hrr := isRat_of hrr (div_red x y HY.out); obtain ⟨vrn, vrd, rfl, hrn, hrd⟩ := hrr; obtain ⟨Ar1, cr1, rfl, _⟩ := id hrn; obtain ⟨Ar2, cr2, rfl, _⟩ := id hrd; (try have hux := hux.below hb); (try have huy := huy.below hb); (try have ht1 := ht1.below hb); (try have ht2 := ht2.below hb); (try have htd := htd.below hb); (try have hs1 := hs1.below hb); have hz := HeldR.call (by assumption) hb))
  all_goals (
    go_wp2
    obtain ⟨wf, HW, f0, f1, f2, hfin⟩ := hz.fin rfl hrn hrd
    (try rw [HW])
    (try simp only [Exit.inBlock, Exit.then])
    refine bodyPost_ret (by simp [results, Try.results48, go_sem, f0, f1, f2]; try rfl) rfl ?_
    first | exact hfin | exact hfin.drew)
theorem Num.drew {k : IntKind} {b : Nat} {w : World} {v : Value} {n : Nat} (h : Num k b w v n) : Num k b w.drew v n := h
end Wx
