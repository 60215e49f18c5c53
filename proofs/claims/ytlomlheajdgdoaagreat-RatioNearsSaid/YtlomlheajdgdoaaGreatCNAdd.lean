import Derived.Test.YtlomlheajdgdoaaGreatProg
import Derived.Handy
import Derived.Deep.RegionHeld3
import Derived.Test.YtlomlheajdgdoaaGreatJNears0
import Derived.Test.YtlomlheajdgdoaaGreatJNears1
import Derived.Test.YtlomlheajdgdoaaGreatCRat1
import Derived.Test.YtlomlheajdgdoaaGreatJNears10
import Derived.Test.YtlomlheajdgdoaaGreatJNears13
import Derived.Test.YtlomlheajdgdoaaGreatJNears24
import Derived.Test.YtlomlheajdgdoaaGreatJNears20
import Derived.Test.YtlomlheajdgdoaaGreatJNears21
import Derived.Test.YtlomlheajdgdoaaGreatCNQuot
namespace Wx
open Go Go.RowKit Go.Proofs

theorem Num.drew' {k : IntKind} {b : Nat} {w : World} {v : Value} {n : Nat} (h : Num k b w v n) : Num k b w.drew v n := h
theorem cmpI_geq {m n : Nat} (h : n ≤ m) : ∃ z, cmpI m n = z ∧ 0 ≤ z := ⟨_, rfl, by unfold cmpI; rw [if_neg (by omega)]; split <;> omega⟩
set_option maxRecDepth 100000 in
set_option maxHeartbeats 8000000 in
theorem nadd_same (w : World) (vx vy : Value) (x y : Rat) (hx : IsRef w vx x) (hy : IsRef w vy y) {j k : Nat} (hj : BdR j x) (hk : BdR k y) (hjk : j + k + j + k + 1 ≤ 10000000) (hs : decide (x.num < 0) = decide (y.num < 0)) : Calls Tryz.prog 83 #[vx, vy] w (RetRef w (x + y)) := by
  obtain ⟨vx1, vx2, rfl, hxa, hxb⟩ := id hx
  obtain ⟨Ax1, cx1, rfl, _⟩ := id hxa
  obtain ⟨Ax2, cx2, rfl, _⟩ := id hxb
  obtain ⟨vy1, vy2, rfl, hya, hyb⟩ := id hy
  obtain ⟨Ay1, cy1, rfl, _⟩ := id hya
  obtain ⟨Ay2, cy2, rfl, _⟩ := id hyb
  have hdx := x.den_pos
  have hdy := y.den_pos
  have hx0 := hx
  have hy0 := hy
  clear hx hy
  have HB := bx (And.intro hj hk)
  have hj1 : j ≤ 1000000000 := by omega
  have hk1 : k ≤ 1000000000 := by omega
  have hjk1 : j + k ≤ 1000000000 := by omega
  have HA : Bx (Bd (j + k + j + k + 1) (x.num.natAbs * y.den + y.num.natAbs * x.den)) := bx (by
    have a := hj.1.mul hk.2
    have b := hk.1.mul hj.2
    exact Bd.le ((a.add b).mono (by omega)) (by omega))
  have HD : Bx (Bd (j + k + j + k + 1) (x.den * y.den)) := bx ((hj.2.mul hk.2).mono (by omega))
  have HT : Bx (Bd (j + k) (x.num.natAbs * y.den) ∧ Bd (j + k) (y.num.natAbs * x.den)) := bx ⟨hj.1.mul hk.2, (hk.1.mul hj.2).mono (by omega)⟩
  have HL := bx (add_same x y hs)
  clear hj hk
  have hfl : (decide (x.num < 0) == decide (y.num < 0)) = true := beq_iff_eq.2 hs
  clear hs
  go_enter Tryz.func83, Tryz.ntmps83
  go_wp2_with fail
  obtain ⟨w1, e1, o1, b1, s1⟩ := layA w [.bool (decide (x.num < 0)), .slice Ax1 (digs b32 x.num.natAbs).length cx1, .slice Ax2 (digs b32 x.den).length cx2] 33
  obtain ⟨w2, e2, o2, b2, s2⟩ := layA w1 [.bool (decide (y.num < 0)), .slice Ay1 (digs b32 y.num.natAbs).length cy1, .slice Ay2 (digs b32 y.den).length cy2] 33
  obtain ⟨w3, e3, o3, b3, s3⟩ := layA w2 [.bool false, .slice none 0 0, .slice none 0 0] 33
  rw [e1, e2, e3]
  rw [s1] at o2
  rw [s2, s1] at o3
  have p1 := ((o1.gone b2).gone b3)
  have p2 := (o2.gone b3)
  have p3 := o3
  have B0 := ((b1.trans (b2.mono b1.size)).trans (b3.mono (b1.trans (b2.mono b1.size)).size))
  have hS : ∀ w', HeldN w (w.heap.size + 2) 3 33 [(w.heap.size, [.bool (decide (x.num < 0)), .slice Ax1 (digs b32 x.num.natAbs).length cx1, .slice Ax2 (digs b32 x.den).length cx2], 33), (w.heap.size + 1, [.bool (decide (y.num < 0)), .slice Ay1 (digs b32 y.num.natAbs).length cy1, .slice Ay2 (digs b32 y.den).length cy2], 33)] w' → HeldN w (w.heap.size + 2) 3 33 [(w.heap.size, [.bool (decide (x.num < 0)), .slice Ax1 (digs b32 x.num.natAbs).length cx1, .slice Ax2 (digs b32 x.den).length cx2], 33), (w.heap.size + 1, [.bool (decide (y.num < 0)), .slice Ay1 (digs b32 y.num.natAbs).length cy1, .slice Ay2 (digs b32 y.den).length cy2], 33)] w' ∧ w'.cell? ⟨w.heap.size, 0, none⟩ = some (.bool (decide (x.num < 0))) ∧ w'.cell? ⟨w.heap.size, 1, none⟩ = some (.slice Ax1 (digs b32 x.num.natAbs).length cx1) ∧ w'.cell? ⟨w.heap.size, 2, none⟩ = some (.slice Ax2 (digs b32 x.den).length cx2) ∧ w'.cell? ⟨w.heap.size + 1, 0, none⟩ = some (.bool (decide (y.num < 0))) ∧ w'.cell? ⟨w.heap.size + 1, 1, none⟩ = some (.slice Ay1 (digs b32 y.num.natAbs).length cy1) ∧ w'.cell? ⟨w.heap.size + 1, 2, none⟩ = some (.slice Ay2 (digs b32 y.den).length cy2) ∧ w'.cell? ⟨w.heap.size + 2, 0, none⟩ = some (cv w' ⟨w.heap.size + 2, 0, none⟩) ∧ w'.cell? ⟨w.heap.size + 2, 1, none⟩ = some (cv w' ⟨w.heap.size + 2, 1, none⟩) ∧ w'.cell? ⟨w.heap.size + 2, 2, none⟩ = some (cv w' ⟨w.heap.size + 2, 2, none⟩) ∧ w'.frozen? ⟨w.heap.size + 2, 0, none⟩ = false ∧ w'.frozen? ⟨w.heap.size + 2, 1, none⟩ = false ∧ w'.frozen? ⟨w.heap.size + 2, 2, none⟩ = false := fun w' hh => by
    have r1 := hh.par (p := (w.heap.size, [.bool (decide (x.num < 0)), .slice Ax1 (digs b32 x.num.natAbs).length cx1, .slice Ax2 (digs b32 x.den).length cx2], 33)) (by simp)
    have r2 := hh.par (p := (w.heap.size + 1, [.bool (decide (y.num < 0)), .slice Ay1 (digs b32 y.num.natAbs).length cy1, .slice Ay2 (digs b32 y.den).length cy2], 33)) (by simp)
    exact ⟨hh, r1.cell (i := 0) rfl, r1.cell (i := 1) rfl, r1.cell (i := 2) rfl, r2.cell (i := 0) rfl, r2.cell (i := 1) rfl, r2.cell (i := 2) rfl, hh.cellR (i := 0) (by omega), hh.cellR (i := 1) (by omega), hh.cellR (i := 2) (by omega), hh.fzR 0, hh.fzR 1, hh.fzR 2⟩
  have hz : HeldN w (w.heap.size + 2) 3 33 [(w.heap.size, [.bool (decide (x.num < 0)), .slice Ax1 (digs b32 x.num.natAbs).length cx1, .slice Ax2 (digs b32 x.den).length cx2], 33), (w.heap.size + 1, [.bool (decide (y.num < 0)), .slice Ay1 (digs b32 y.num.natAbs).length cy1, .slice Ay2 (digs b32 y.den).length cy2], 33)] w3 := ⟨B0, by omega, by intro q hq; simp at hq; rcases hq with rfl | rfl; exact ⟨by simp, p1⟩; exact ⟨by simp, p2⟩, _, rfl, p3, notInt3⟩
  clear e1 e2 e3 o1 b1 s1 p1 o2 b2 s2 p2 o3 b3 s3 p3
  clear B0
  have hz := hz.drew
  (try have hux := Num.drew' hux)
  (try have huy := Num.drew' huy)
  (try have ht1 := Num.drew' ht1)
  (try have ht2 := Num.drew' ht2)
  (try have htd := Num.drew' htd)
  (try have hs1 := Num.drew' hs1)
  go_region_held3 (fun w' => HeldN w (w.heap.size + 2) 3 33 [(w.heap.size, [.bool (decide (x.num < 0)), .slice Ax1 (digs b32 x.num.natAbs).length cx1, .slice Ax2 (digs b32 x.den).length cx2], 33), (w.heap.size + 1, [.bool (decide (y.num < 0)), .slice Ay1 (digs b32 y.num.natAbs).length cy1, .slice Ay2 (digs b32 y.den).length cy2], 33)] w' ∧ w'.cell? ⟨w.heap.size, 0, none⟩ = some (.bool (decide (x.num < 0))) ∧ w'.cell? ⟨w.heap.size, 1, none⟩ = some (.slice Ax1 (digs b32 x.num.natAbs).length cx1) ∧ w'.cell? ⟨w.heap.size, 2, none⟩ = some (.slice Ax2 (digs b32 x.den).length cx2) ∧ w'.cell? ⟨w.heap.size + 1, 0, none⟩ = some (.bool (decide (y.num < 0))) ∧ w'.cell? ⟨w.heap.size + 1, 1, none⟩ = some (.slice Ay1 (digs b32 y.num.natAbs).length cy1) ∧ w'.cell? ⟨w.heap.size + 1, 2, none⟩ = some (.slice Ay2 (digs b32 y.den).length cy2) ∧ w'.cell? ⟨w.heap.size + 2, 0, none⟩ = some (cv w' ⟨w.heap.size + 2, 0, none⟩) ∧ w'.cell? ⟨w.heap.size + 2, 1, none⟩ = some (cv w' ⟨w.heap.size + 2, 1, none⟩) ∧ w'.cell? ⟨w.heap.size + 2, 2, none⟩ = some (cv w' ⟨w.heap.size + 2, 2, none⟩) ∧ w'.frozen? ⟨w.heap.size + 2, 0, none⟩ = false ∧ w'.frozen? ⟨w.heap.size + 2, 1, none⟩ = false ∧ w'.frozen? ⟨w.heap.size + 2, 2, none⟩ = false)
    (first | exact hS _ hz | exact hS _ (HeldN.sets3 hz))
    (first
      | (go_at_call 64; have hc := nunder_num _ _ y (hy0.below hz.1); (with_reducible refine Calls.mono hc ?_); clear hc; rintro e wz ⟨vuy, rfl, huy, hb⟩; (try have hux := hux.below hb); (try have huy := huy.below hb); (try have ht1 := ht1.below hb); (try have ht2 := ht2.below hb); (try have htd := htd.below hb); (try have hs1 := hs1.below hb); have hz := HeldN.call (And.intro hz trivial) hb)
      | (go_at_call 63; have hc := product_num _ _ _ _ _ (hxa.below hz.1) huy HB.out.1.1 HB.out.2.2 (by omega) (by omega); (with_reducible refine Calls.mono hc ?_); clear hc; rintro e wz ⟨vt1, rfl, ht1, hb⟩; (try have hux := hux.below hb); (try have huy := huy.below hb); (try have ht1 := ht1.below hb); (try have ht2 := ht2.below hb); (try have htd := htd.below hb); (try have hs1 := hs1.below hb); have hz := HeldN.call (And.intro hz trivial) hb)
      | (go_at_call 64; have hc := nunder_num _ _ x (hx0.below hz.1); (with_reducible refine Calls.mono hc ?_); clear hc; rintro e wz ⟨vux, rfl, hux, hb⟩; (try have hux := hux.below hb); (try have huy := huy.below hb); (try have ht1 := ht1.below hb); (try have ht2 := ht2.below hb); (try have htd := htd.below hb); (try have hs1 := hs1.below hb); have hz := HeldN.call (And.intro hz trivial) hb)
      | (go_at_call 63; have hc := product_num _ _ _ _ _ (hya.below hz.1) hux HB.out.2.1 HB.out.1.2 (by omega) (by omega); (with_reducible refine Calls.mono hc ?_); clear hc; rintro e wz ⟨vt2, rfl, ht2, hb⟩; (try have hux := hux.below hb); (try have huy := huy.below hb); (try have ht1 := ht1.below hb); (try have ht2 := ht2.below hb); (try have htd := htd.below hb); (try have hs1 := hs1.below hb); have hz := HeldN.call (And.intro hz trivial) hb))
  all_goals (
    go_wp2_with fail
    (try clear hux)
    (try clear huy)
    have hz := hz.drew
    (try have hux := Num.drew' hux)
    (try have huy := Num.drew' huy)
    (try have ht1 := Num.drew' ht1)
    (try have ht2 := Num.drew' ht2)
    (try have htd := Num.drew' htd)
    (try have hs1 := Num.drew' hs1)
    go_region_held3 (fun w' => HeldN w (w.heap.size + 2) 3 33 [(w.heap.size, [.bool (decide (x.num < 0)), .slice Ax1 (digs b32 x.num.natAbs).length cx1, .slice Ax2 (digs b32 x.den).length cx2], 33), (w.heap.size + 1, [.bool (decide (y.num < 0)), .slice Ay1 (digs b32 y.num.natAbs).length cy1, .slice Ay2 (digs b32 y.den).length cy2], 33)] w' ∧ w'.cell? ⟨w.heap.size, 0, none⟩ = some (.bool (decide (x.num < 0))) ∧ w'.cell? ⟨w.heap.size, 1, none⟩ = some (.slice Ax1 (digs b32 x.num.natAbs).length cx1) ∧ w'.cell? ⟨w.heap.size, 2, none⟩ = some (.slice Ax2 (digs b32 x.den).length cx2) ∧ w'.cell? ⟨w.heap.size + 1, 0, none⟩ = some (.bool (decide (y.num < 0))) ∧ w'.cell? ⟨w.heap.size + 1, 1, none⟩ = some (.slice Ay1 (digs b32 y.num.natAbs).length cy1) ∧ w'.cell? ⟨w.heap.size + 1, 2, none⟩ = some (.slice Ay2 (digs b32 y.den).length cy2) ∧ w'.cell? ⟨w.heap.size + 2, 0, none⟩ = some (cv w' ⟨w.heap.size + 2, 0, none⟩) ∧ w'.cell? ⟨w.heap.size + 2, 1, none⟩ = some (cv w' ⟨w.heap.size + 2, 1, none⟩) ∧ w'.cell? ⟨w.heap.size + 2, 2, none⟩ = some (cv w' ⟨w.heap.size + 2, 2, none⟩) ∧ w'.frozen? ⟨w.heap.size + 2, 0, none⟩ = false ∧ w'.frozen? ⟨w.heap.size + 2, 1, none⟩ = false ∧ w'.frozen? ⟨w.heap.size + 2, 2, none⟩ = false)
      (first | exact hS _ hz | exact hS _ (HeldN.sets3 hz))
      (first
        | (go_at_call 64; have hc := nunder_num _ _ x (hx0.below hz.1); (with_reducible refine Calls.mono hc ?_); clear hc; rintro e wz ⟨vux, rfl, hux, hb⟩; (try have hux := hux.below hb); (try have huy := huy.below hb); (try have ht1 := ht1.below hb); (try have ht2 := ht2.below hb); (try have htd := htd.below hb); (try have hs1 := hs1.below hb); have hz := HeldN.call (And.intro hz trivial) hb)
        | (go_at_call 64; have hc := nunder_num _ _ y (hy0.below hz.1); (with_reducible refine Calls.mono hc ?_); clear hc; rintro e wz ⟨vuy, rfl, huy, hb⟩; (try have hux := hux.below hb); (try have huy := huy.below hb); (try have ht1 := ht1.below hb); (try have ht2 := ht2.below hb); (try have htd := htd.below hb); (try have hs1 := hs1.below hb); have hz := HeldN.call (And.intro hz trivial) hb)
        | (go_at_call 63; have hc := product_num _ _ _ _ _ hux huy HB.out.1.2 HB.out.2.2 (by omega) (by omega); (with_reducible refine Calls.mono hc ?_); clear hc; rintro e wz ⟨vtd, rfl, htd, hb⟩; (try have hux := hux.below hb); (try have huy := huy.below hb); (try have ht1 := ht1.below hb); (try have ht2 := ht2.below hb); (try have htd := htd.below hb); (try have hs1 := hs1.below hb); have hz := HeldN.call (And.intro hz trivial) hb))
    all_goals (
      obtain ⟨_, k0, k1, k2, k3, k4, k5, _⟩ := hS _ hz
      go_wp2_with fail
      clear k0 k1 k2 k3 k4 k5
      have hz := hz.drew
      (try have hux := Num.drew' hux)
      (try have huy := Num.drew' huy)
      (try have ht1 := Num.drew' ht1)
      (try have ht2 := Num.drew' ht2)
      (try have htd := Num.drew' htd)
      (try have hs1 := Num.drew' hs1)
      go_region_held3 (fun w' => HeldN w (w.heap.size + 2) 3 33 [(w.heap.size, [.bool (decide (x.num < 0)), .slice Ax1 (digs b32 x.num.natAbs).length cx1, .slice Ax2 (digs b32 x.den).length cx2], 33), (w.heap.size + 1, [.bool (decide (y.num < 0)), .slice Ay1 (digs b32 y.num.natAbs).length cy1, .slice Ay2 (digs b32 y.den).length cy2], 33)] w' ∧ w'.cell? ⟨w.heap.size, 0, none⟩ = some (.bool (decide (x.num < 0))) ∧ w'.cell? ⟨w.heap.size, 1, none⟩ = some (.slice Ax1 (digs b32 x.num.natAbs).length cx1) ∧ w'.cell? ⟨w.heap.size, 2, none⟩ = some (.slice Ax2 (digs b32 x.den).length cx2) ∧ w'.cell? ⟨w.heap.size + 1, 0, none⟩ = some (.bool (decide (y.num < 0))) ∧ w'.cell? ⟨w.heap.size + 1, 1, none⟩ = some (.slice Ay1 (digs b32 y.num.natAbs).length cy1) ∧ w'.cell? ⟨w.heap.size + 1, 2, none⟩ = some (.slice Ay2 (digs b32 y.den).length cy2) ∧ w'.cell? ⟨w.heap.size + 2, 0, none⟩ = some (cv w' ⟨w.heap.size + 2, 0, none⟩) ∧ w'.cell? ⟨w.heap.size + 2, 1, none⟩ = some (cv w' ⟨w.heap.size + 2, 1, none⟩) ∧ w'.cell? ⟨w.heap.size + 2, 2, none⟩ = some (cv w' ⟨w.heap.size + 2, 2, none⟩) ∧ w'.frozen? ⟨w.heap.size + 2, 0, none⟩ = false ∧ w'.frozen? ⟨w.heap.size + 2, 1, none⟩ = false ∧ w'.frozen? ⟨w.heap.size + 2, 2, none⟩ = false)
        (first | exact hS _ hz | exact hS _ (HeldN.sets3 hz))
        (first
          | (go_at_call 123; have hc := sum_num _ _ _ _ _ ht1 ht2 HT.out.1 HT.out.2 hjk1 hjk1; (with_reducible refine Calls.mono hc ?_); clear hc; rintro e wz ⟨vs, rfl, hs1, hb⟩; (try have hux := hux.below hb); (try have huy := huy.below hb); (try have ht1 := ht1.below hb); (try have ht2 := ht2.below hb); (try have htd := htd.below hb); (try have hs1 := hs1.below hb); have hz := HeldN.call (And.intro hz trivial) hb)
          | (go_at_call 57; have hc := made_num _ (decide (x.num < 0)) _ _ (x.num.natAbs * y.den + y.num.natAbs * x.den) (x.den * y.den) hs1 htd (Nat.mul_pos hdx hdy) HA.out HD.out hjk; (with_reducible refine Calls.mono hc ?_); clear hc; rintro e wz ⟨vr, rfl, hr, hb⟩; (try have hux := hux.below hb); (try have huy := huy.below hb); (try have ht1 := ht1.below hb); (try have ht2 := ht2.below hb); (try have htd := htd.below hb); (try have hs1 := hs1.below hb); have hz := HeldN.call (And.intro hz trivial) hb; replace hr := isRef_of hr HL.out; obtain ⟨vr1, vr2, rfl, hra, hrb⟩ := id hr; obtain ⟨Ar1, cr1, rfl, _⟩ := id hra; obtain ⟨Ar2, cr2, rfl, _⟩ := id hrb))
      all_goals (
        go_wp2
        obtain ⟨wf, HW, ho, hB, hN⟩ := hz.fin [.bool (decide ((x + y).num < 0)), .slice Ar1 (digs b32 (x + y).num.natAbs).length cr1, .slice Ar2 (digs b32 (x + y).den).length cr2] rfl notInt3
        simp only [setAll, Nat.reduceAdd] at HW
        (try rw [HW])
        (try simp only [Exit.inBlock, Exit.then])
        have f0 := ho.cell (i := 0) rfl
        have f1 := ho.cell (i := 1) rfl
        have f2 := ho.cell (i := 2) rfl
        refine bodyPost_ret (by simp [results, Tryz.results83, go_sem, f0, f1, f2]; try rfl) rfl ?_
        exact ⟨_, rfl, hr.into hN, hB⟩)))
set_option maxRecDepth 100000 in
set_option maxHeartbeats 8000000 in
theorem nadd_ge (w : World) (vx vy : Value) (x y : Rat) (hx : IsRef w vx x) (hy : IsRef w vy y) {j k : Nat} (hj : BdR j x) (hk : BdR k y) (hjk : j + k + j + k + 1 ≤ 10000000) (hs : ¬ decide (x.num < 0) = decide (y.num < 0)) (hge : y.num.natAbs * x.den ≤ x.num.natAbs * y.den) : Calls Tryz.prog 83 #[vx, vy] w (RetRef w (x + y)) := by
  obtain ⟨vx1, vx2, rfl, hxa, hxb⟩ := id hx
  obtain ⟨Ax1, cx1, rfl, _⟩ := id hxa
  obtain ⟨Ax2, cx2, rfl, _⟩ := id hxb
  obtain ⟨vy1, vy2, rfl, hya, hyb⟩ := id hy
  obtain ⟨Ay1, cy1, rfl, _⟩ := id hya
  obtain ⟨Ay2, cy2, rfl, _⟩ := id hyb
  have hdx := x.den_pos
  have hdy := y.den_pos
  have hx0 := hx
  have hy0 := hy
  clear hx hy
  have HB := bx (And.intro hj hk)
  have hj1 : j ≤ 1000000000 := by omega
  have hk1 : k ≤ 1000000000 := by omega
  have hjk1 : j + k ≤ 1000000000 := by omega
  have HA : Bx (Bd (j + k + j + k + 1) (x.num.natAbs * y.den - y.num.natAbs * x.den)) := bx (by
    have a := hj.1.mul hk.2
    have b := hk.1.mul hj.2
    exact Bd.le ((a.add b).mono (by omega)) (by omega))
  have HD : Bx (Bd (j + k + j + k + 1) (x.den * y.den)) := bx ((hj.2.mul hk.2).mono (by omega))
  have HT : Bx (Bd (j + k) (x.num.natAbs * y.den) ∧ Bd (j + k) (y.num.natAbs * x.den)) := bx ⟨hj.1.mul hk.2, (hk.1.mul hj.2).mono (by omega)⟩
  have HL := bx (add_ge x y hs hge)
  clear hj hk
  have hfl : (decide (x.num < 0) == decide (y.num < 0)) = false := beq_eq_false_iff_ne.2 hs
  obtain ⟨zc, hzc, hz0⟩ := cmpI_geq hge
  have HZC := bx hzc
  have HGE := bx hge
  clear hzc hge
  clear hs
  go_enter Tryz.func83, Tryz.ntmps83
  go_wp2_with fail
  obtain ⟨w1, e1, o1, b1, s1⟩ := layA w [.bool (decide (x.num < 0)), .slice Ax1 (digs b32 x.num.natAbs).length cx1, .slice Ax2 (digs b32 x.den).length cx2] 33
  obtain ⟨w2, e2, o2, b2, s2⟩ := layA w1 [.bool (decide (y.num < 0)), .slice Ay1 (digs b32 y.num.natAbs).length cy1, .slice Ay2 (digs b32 y.den).length cy2] 33
  obtain ⟨w3, e3, o3, b3, s3⟩ := layA w2 [.bool false, .slice none 0 0, .slice none 0 0] 33
  rw [e1, e2, e3]
  rw [s1] at o2
  rw [s2, s1] at o3
  have p1 := ((o1.gone b2).gone b3)
  have p2 := (o2.gone b3)
  have p3 := o3
  have B0 := ((b1.trans (b2.mono b1.size)).trans (b3.mono (b1.trans (b2.mono b1.size)).size))
  have hS : ∀ w', HeldN w (w.heap.size + 2) 3 33 [(w.heap.size, [.bool (decide (x.num < 0)), .slice Ax1 (digs b32 x.num.natAbs).length cx1, .slice Ax2 (digs b32 x.den).length cx2], 33), (w.heap.size + 1, [.bool (decide (y.num < 0)), .slice Ay1 (digs b32 y.num.natAbs).length cy1, .slice Ay2 (digs b32 y.den).length cy2], 33)] w' → HeldN w (w.heap.size + 2) 3 33 [(w.heap.size, [.bool (decide (x.num < 0)), .slice Ax1 (digs b32 x.num.natAbs).length cx1, .slice Ax2 (digs b32 x.den).length cx2], 33), (w.heap.size + 1, [.bool (decide (y.num < 0)), .slice Ay1 (digs b32 y.num.natAbs).length cy1, .slice Ay2 (digs b32 y.den).length cy2], 33)] w' ∧ w'.cell? ⟨w.heap.size, 0, none⟩ = some (.bool (decide (x.num < 0))) ∧ w'.cell? ⟨w.heap.size, 1, none⟩ = some (.slice Ax1 (digs b32 x.num.natAbs).length cx1) ∧ w'.cell? ⟨w.heap.size, 2, none⟩ = some (.slice Ax2 (digs b32 x.den).length cx2) ∧ w'.cell? ⟨w.heap.size + 1, 0, none⟩ = some (.bool (decide (y.num < 0))) ∧ w'.cell? ⟨w.heap.size + 1, 1, none⟩ = some (.slice Ay1 (digs b32 y.num.natAbs).length cy1) ∧ w'.cell? ⟨w.heap.size + 1, 2, none⟩ = some (.slice Ay2 (digs b32 y.den).length cy2) ∧ w'.cell? ⟨w.heap.size + 2, 0, none⟩ = some (cv w' ⟨w.heap.size + 2, 0, none⟩) ∧ w'.cell? ⟨w.heap.size + 2, 1, none⟩ = some (cv w' ⟨w.heap.size + 2, 1, none⟩) ∧ w'.cell? ⟨w.heap.size + 2, 2, none⟩ = some (cv w' ⟨w.heap.size + 2, 2, none⟩) ∧ w'.frozen? ⟨w.heap.size + 2, 0, none⟩ = false ∧ w'.frozen? ⟨w.heap.size + 2, 1, none⟩ = false ∧ w'.frozen? ⟨w.heap.size + 2, 2, none⟩ = false := fun w' hh => by
    have r1 := hh.par (p := (w.heap.size, [.bool (decide (x.num < 0)), .slice Ax1 (digs b32 x.num.natAbs).length cx1, .slice Ax2 (digs b32 x.den).length cx2], 33)) (by simp)
    have r2 := hh.par (p := (w.heap.size + 1, [.bool (decide (y.num < 0)), .slice Ay1 (digs b32 y.num.natAbs).length cy1, .slice Ay2 (digs b32 y.den).length cy2], 33)) (by simp)
    exact ⟨hh, r1.cell (i := 0) rfl, r1.cell (i := 1) rfl, r1.cell (i := 2) rfl, r2.cell (i := 0) rfl, r2.cell (i := 1) rfl, r2.cell (i := 2) rfl, hh.cellR (i := 0) (by omega), hh.cellR (i := 1) (by omega), hh.cellR (i := 2) (by omega), hh.fzR 0, hh.fzR 1, hh.fzR 2⟩
  have hz : HeldN w (w.heap.size + 2) 3 33 [(w.heap.size, [.bool (decide (x.num < 0)), .slice Ax1 (digs b32 x.num.natAbs).length cx1, .slice Ax2 (digs b32 x.den).length cx2], 33), (w.heap.size + 1, [.bool (decide (y.num < 0)), .slice Ay1 (digs b32 y.num.natAbs).length cy1, .slice Ay2 (digs b32 y.den).length cy2], 33)] w3 := ⟨B0, by omega, by intro q hq; simp at hq; rcases hq with rfl | rfl; exact ⟨by simp, p1⟩; exact ⟨by simp, p2⟩, _, rfl, p3, notInt3⟩
  clear e1 e2 e3 o1 b1 s1 p1 o2 b2 s2 p2 o3 b3 s3 p3
  clear B0
  have hz := hz.drew
  (try have hux := Num.drew' hux)
  (try have huy := Num.drew' huy)
  (try have ht1 := Num.drew' ht1)
  (try have ht2 := Num.drew' ht2)
  (try have htd := Num.drew' htd)
  (try have hs1 := Num.drew' hs1)
  go_region_held3 (fun w' => HeldN w (w.heap.size + 2) 3 33 [(w.heap.size, [.bool (decide (x.num < 0)), .slice Ax1 (digs b32 x.num.natAbs).length cx1, .slice Ax2 (digs b32 x.den).length cx2], 33), (w.heap.size + 1, [.bool (decide (y.num < 0)), .slice Ay1 (digs b32 y.num.natAbs).length cy1, .slice Ay2 (digs b32 y.den).length cy2], 33)] w' ∧ w'.cell? ⟨w.heap.size, 0, none⟩ = some (.bool (decide (x.num < 0))) ∧ w'.cell? ⟨w.heap.size, 1, none⟩ = some (.slice Ax1 (digs b32 x.num.natAbs).length cx1) ∧ w'.cell? ⟨w.heap.size, 2, none⟩ = some (.slice Ax2 (digs b32 x.den).length cx2) ∧ w'.cell? ⟨w.heap.size + 1, 0, none⟩ = some (.bool (decide (y.num < 0))) ∧ w'.cell? ⟨w.heap.size + 1, 1, none⟩ = some (.slice Ay1 (digs b32 y.num.natAbs).length cy1) ∧ w'.cell? ⟨w.heap.size + 1, 2, none⟩ = some (.slice Ay2 (digs b32 y.den).length cy2) ∧ w'.cell? ⟨w.heap.size + 2, 0, none⟩ = some (cv w' ⟨w.heap.size + 2, 0, none⟩) ∧ w'.cell? ⟨w.heap.size + 2, 1, none⟩ = some (cv w' ⟨w.heap.size + 2, 1, none⟩) ∧ w'.cell? ⟨w.heap.size + 2, 2, none⟩ = some (cv w' ⟨w.heap.size + 2, 2, none⟩) ∧ w'.frozen? ⟨w.heap.size + 2, 0, none⟩ = false ∧ w'.frozen? ⟨w.heap.size + 2, 1, none⟩ = false ∧ w'.frozen? ⟨w.heap.size + 2, 2, none⟩ = false)
    (first | exact hS _ hz | exact hS _ (HeldN.sets3 hz))
    (first
      | (go_at_call 64; have hc := nunder_num _ _ y (hy0.below hz.1); (with_reducible refine Calls.mono hc ?_); clear hc; rintro e wz ⟨vuy, rfl, huy, hb⟩; (try have hux := hux.below hb); (try have huy := huy.below hb); (try have ht1 := ht1.below hb); (try have ht2 := ht2.below hb); (try have htd := htd.below hb); (try have hs1 := hs1.below hb); have hz := HeldN.call (And.intro hz trivial) hb)
      | (go_at_call 63; have hc := product_num _ _ _ _ _ (hxa.below hz.1) huy HB.out.1.1 HB.out.2.2 (by omega) (by omega); (with_reducible refine Calls.mono hc ?_); clear hc; rintro e wz ⟨vt1, rfl, ht1, hb⟩; (try have hux := hux.below hb); (try have huy := huy.below hb); (try have ht1 := ht1.below hb); (try have ht2 := ht2.below hb); (try have htd := htd.below hb); (try have hs1 := hs1.below hb); have hz := HeldN.call (And.intro hz trivial) hb)
      | (go_at_call 64; have hc := nunder_num _ _ x (hx0.below hz.1); (with_reducible refine Calls.mono hc ?_); clear hc; rintro e wz ⟨vux, rfl, hux, hb⟩; (try have hux := hux.below hb); (try have huy := huy.below hb); (try have ht1 := ht1.below hb); (try have ht2 := ht2.below hb); (try have htd := htd.below hb); (try have hs1 := hs1.below hb); have hz := HeldN.call (And.intro hz trivial) hb)
      | (go_at_call 63; have hc := product_num _ _ _ _ _ (hya.below hz.1) hux HB.out.2.1 HB.out.1.2 (by omega) (by omega); (with_reducible refine Calls.mono hc ?_); clear hc; rintro e wz ⟨vt2, rfl, ht2, hb⟩; (try have hux := hux.below hb); (try have huy := huy.below hb); (try have ht1 := ht1.below hb); (try have ht2 := ht2.below hb); (try have htd := htd.below hb); (try have hs1 := hs1.below hb); have hz := HeldN.call (And.intro hz trivial) hb))
  all_goals (
    go_wp2_with fail
    (try clear hux)
    (try clear huy)
    have hz := hz.drew
    (try have hux := Num.drew' hux)
    (try have huy := Num.drew' huy)
    (try have ht1 := Num.drew' ht1)
    (try have ht2 := Num.drew' ht2)
    (try have htd := Num.drew' htd)
    (try have hs1 := Num.drew' hs1)
    go_region_held3 (fun w' => HeldN w (w.heap.size + 2) 3 33 [(w.heap.size, [.bool (decide (x.num < 0)), .slice Ax1 (digs b32 x.num.natAbs).length cx1, .slice Ax2 (digs b32 x.den).length cx2], 33), (w.heap.size + 1, [.bool (decide (y.num < 0)), .slice Ay1 (digs b32 y.num.natAbs).length cy1, .slice Ay2 (digs b32 y.den).length cy2], 33)] w' ∧ w'.cell? ⟨w.heap.size, 0, none⟩ = some (.bool (decide (x.num < 0))) ∧ w'.cell? ⟨w.heap.size, 1, none⟩ = some (.slice Ax1 (digs b32 x.num.natAbs).length cx1) ∧ w'.cell? ⟨w.heap.size, 2, none⟩ = some (.slice Ax2 (digs b32 x.den).length cx2) ∧ w'.cell? ⟨w.heap.size + 1, 0, none⟩ = some (.bool (decide (y.num < 0))) ∧ w'.cell? ⟨w.heap.size + 1, 1, none⟩ = some (.slice Ay1 (digs b32 y.num.natAbs).length cy1) ∧ w'.cell? ⟨w.heap.size + 1, 2, none⟩ = some (.slice Ay2 (digs b32 y.den).length cy2) ∧ w'.cell? ⟨w.heap.size + 2, 0, none⟩ = some (cv w' ⟨w.heap.size + 2, 0, none⟩) ∧ w'.cell? ⟨w.heap.size + 2, 1, none⟩ = some (cv w' ⟨w.heap.size + 2, 1, none⟩) ∧ w'.cell? ⟨w.heap.size + 2, 2, none⟩ = some (cv w' ⟨w.heap.size + 2, 2, none⟩) ∧ w'.frozen? ⟨w.heap.size + 2, 0, none⟩ = false ∧ w'.frozen? ⟨w.heap.size + 2, 1, none⟩ = false ∧ w'.frozen? ⟨w.heap.size + 2, 2, none⟩ = false)
      (first | exact hS _ hz | exact hS _ (HeldN.sets3 hz))
      (first
        | (go_at_call 64; have hc := nunder_num _ _ x (hx0.below hz.1); (with_reducible refine Calls.mono hc ?_); clear hc; rintro e wz ⟨vux, rfl, hux, hb⟩; (try have hux := hux.below hb); (try have huy := huy.below hb); (try have ht1 := ht1.below hb); (try have ht2 := ht2.below hb); (try have htd := htd.below hb); (try have hs1 := hs1.below hb); have hz := HeldN.call (And.intro hz trivial) hb)
        | (go_at_call 64; have hc := nunder_num _ _ y (hy0.below hz.1); (with_reducible refine Calls.mono hc ?_); clear hc; rintro e wz ⟨vuy, rfl, huy, hb⟩; (try have hux := hux.below hb); (try have huy := huy.below hb); (try have ht1 := ht1.below hb); (try have ht2 := ht2.below hb); (try have htd := htd.below hb); (try have hs1 := hs1.below hb); have hz := HeldN.call (And.intro hz trivial) hb)
        | (go_at_call 63; have hc := product_num _ _ _ _ _ hux huy HB.out.1.2 HB.out.2.2 (by omega) (by omega); (with_reducible refine Calls.mono hc ?_); clear hc; rintro e wz ⟨vtd, rfl, htd, hb⟩; (try have hux := hux.below hb); (try have huy := huy.below hb); (try have ht1 := ht1.below hb); (try have ht2 := ht2.below hb); (try have htd := htd.below hb); (try have hs1 := hs1.below hb); have hz := HeldN.call (And.intro hz trivial) hb))
    all_goals (
      obtain ⟨_, k0, k1, k2, k3, k4, k5, _⟩ := hS _ hz
      go_wp2_with fail
      have hc := order_num _ _ _ _ _ ht1 ht2
      rw [HZC.out] at hc
      refine Calls.mono hc ?_
      clear hc
      rintro e wz ⟨rfl, hb⟩
      have ht1 := ht1.below hb
      have ht2 := ht2.below hb
      have htd := htd.below hb
      have hz := HeldN.call (And.intro hz trivial) hb
      go_wp2_with fail
      clear k0 k1 k2 k3 k4 k5
      have hz := hz.drew
      (try have hux := Num.drew' hux)
      (try have huy := Num.drew' huy)
      (try have ht1 := Num.drew' ht1)
      (try have ht2 := Num.drew' ht2)
      (try have htd := Num.drew' htd)
      (try have hs1 := Num.drew' hs1)
      go_region_held3 (fun w' => HeldN w (w.heap.size + 2) 3 33 [(w.heap.size, [.bool (decide (x.num < 0)), .slice Ax1 (digs b32 x.num.natAbs).length cx1, .slice Ax2 (digs b32 x.den).length cx2], 33), (w.heap.size + 1, [.bool (decide (y.num < 0)), .slice Ay1 (digs b32 y.num.natAbs).length cy1, .slice Ay2 (digs b32 y.den).length cy2], 33)] w' ∧ w'.cell? ⟨w.heap.size, 0, none⟩ = some (.bool (decide (x.num < 0))) ∧ w'.cell? ⟨w.heap.size, 1, none⟩ = some (.slice Ax1 (digs b32 x.num.natAbs).length cx1) ∧ w'.cell? ⟨w.heap.size, 2, none⟩ = some (.slice Ax2 (digs b32 x.den).length cx2) ∧ w'.cell? ⟨w.heap.size + 1, 0, none⟩ = some (.bool (decide (y.num < 0))) ∧ w'.cell? ⟨w.heap.size + 1, 1, none⟩ = some (.slice Ay1 (digs b32 y.num.natAbs).length cy1) ∧ w'.cell? ⟨w.heap.size + 1, 2, none⟩ = some (.slice Ay2 (digs b32 y.den).length cy2) ∧ w'.cell? ⟨w.heap.size + 2, 0, none⟩ = some (cv w' ⟨w.heap.size + 2, 0, none⟩) ∧ w'.cell? ⟨w.heap.size + 2, 1, none⟩ = some (cv w' ⟨w.heap.size + 2, 1, none⟩) ∧ w'.cell? ⟨w.heap.size + 2, 2, none⟩ = some (cv w' ⟨w.heap.size + 2, 2, none⟩) ∧ w'.frozen? ⟨w.heap.size + 2, 0, none⟩ = false ∧ w'.frozen? ⟨w.heap.size + 2, 1, none⟩ = false ∧ w'.frozen? ⟨w.heap.size + 2, 2, none⟩ = false)
        (first | exact hS _ hz | exact hS _ (HeldN.sets3 hz))
        (first
          | (go_at_call 124; have hc := difference_num _ _ _ _ _ ht1 ht2 HGE.out HT.out.1 hjk1; (with_reducible refine Calls.mono hc ?_); clear hc; rintro e wz ⟨vs, rfl, hs1, hb⟩; (try have hux := hux.below hb); (try have huy := huy.below hb); (try have ht1 := ht1.below hb); (try have ht2 := ht2.below hb); (try have htd := htd.below hb); (try have hs1 := hs1.below hb); have hz := HeldN.call (And.intro hz trivial) hb)
          | (go_at_call 57; have hc := made_num _ (decide (x.num < 0)) _ _ (x.num.natAbs * y.den - y.num.natAbs * x.den) (x.den * y.den) hs1 htd (Nat.mul_pos hdx hdy) HA.out HD.out hjk; (with_reducible refine Calls.mono hc ?_); clear hc; rintro e wz ⟨vr, rfl, hr, hb⟩; (try have hux := hux.below hb); (try have huy := huy.below hb); (try have ht1 := ht1.below hb); (try have ht2 := ht2.below hb); (try have htd := htd.below hb); (try have hs1 := hs1.below hb); have hz := HeldN.call (And.intro hz trivial) hb; replace hr := isRef_of hr HL.out; obtain ⟨vr1, vr2, rfl, hra, hrb⟩ := id hr; obtain ⟨Ar1, cr1, rfl, _⟩ := id hra; obtain ⟨Ar2, cr2, rfl, _⟩ := id hrb))
      all_goals (
        go_wp2
        obtain ⟨wf, HW, ho, hB, hN⟩ := hz.fin [.bool (decide ((x + y).num < 0)), .slice Ar1 (digs b32 (x + y).num.natAbs).length cr1, .slice Ar2 (digs b32 (x + y).den).length cr2] rfl notInt3
        simp only [setAll, Nat.reduceAdd] at HW
        (try rw [HW])
        (try simp only [Exit.inBlock, Exit.then])
        have f0 := ho.cell (i := 0) rfl
        have f1 := ho.cell (i := 1) rfl
        have f2 := ho.cell (i := 2) rfl
        refine bodyPost_ret (by simp [results, Tryz.results83, go_sem, f0, f1, f2]; try rfl) rfl ?_
        exact ⟨_, rfl, hr.into hN, hB⟩)))
set_option maxRecDepth 100000 in
set_option maxHeartbeats 8000000 in
theorem nadd_lt (w : World) (vx vy : Value) (x y : Rat) (hx : IsRef w vx x) (hy : IsRef w vy y) {j k : Nat} (hj : BdR j x) (hk : BdR k y) (hjk : j + k + j + k + 1 ≤ 10000000) (hs : ¬ decide (x.num < 0) = decide (y.num < 0)) (hlt : x.num.natAbs * y.den < y.num.natAbs * x.den) : Calls Tryz.prog 83 #[vx, vy] w (RetRef w (x + y)) := by
  obtain ⟨vx1, vx2, rfl, hxa, hxb⟩ := id hx
  obtain ⟨Ax1, cx1, rfl, _⟩ := id hxa
  obtain ⟨Ax2, cx2, rfl, _⟩ := id hxb
  obtain ⟨vy1, vy2, rfl, hya, hyb⟩ := id hy
  obtain ⟨Ay1, cy1, rfl, _⟩ := id hya
  obtain ⟨Ay2, cy2, rfl, _⟩ := id hyb
  have hdx := x.den_pos
  have hdy := y.den_pos
  have hx0 := hx
  have hy0 := hy
  clear hx hy
  have HB := bx (And.intro hj hk)
  have hj1 : j ≤ 1000000000 := by omega
  have hk1 : k ≤ 1000000000 := by omega
  have hjk1 : j + k ≤ 1000000000 := by omega
  have HA : Bx (Bd (j + k + j + k + 1) (y.num.natAbs * x.den - x.num.natAbs * y.den)) := bx (by
    have a := hj.1.mul hk.2
    have b := hk.1.mul hj.2
    exact Bd.le ((a.add b).mono (by omega)) (by omega))
  have HD : Bx (Bd (j + k + j + k + 1) (x.den * y.den)) := bx ((hj.2.mul hk.2).mono (by omega))
  have HT : Bx (Bd (j + k) (x.num.natAbs * y.den) ∧ Bd (j + k) (y.num.natAbs * x.den)) := bx ⟨hj.1.mul hk.2, (hk.1.mul hj.2).mono (by omega)⟩
  have HL := bx (add_lt x y hs (Nat.le_of_lt hlt))
  clear hj hk
  have hfl : (decide (x.num < 0) == decide (y.num < 0)) = false := beq_eq_false_iff_ne.2 hs
  obtain ⟨zc, hzc, hz0⟩ := cmpI_lt' hlt
  have HZC := bx hzc
  have HGE := bx hlt
  clear hzc hlt
  clear hs
  go_enter Tryz.func83, Tryz.ntmps83
  go_wp2_with fail
  obtain ⟨w1, e1, o1, b1, s1⟩ := layA w [.bool (decide (x.num < 0)), .slice Ax1 (digs b32 x.num.natAbs).length cx1, .slice Ax2 (digs b32 x.den).length cx2] 33
  obtain ⟨w2, e2, o2, b2, s2⟩ := layA w1 [.bool (decide (y.num < 0)), .slice Ay1 (digs b32 y.num.natAbs).length cy1, .slice Ay2 (digs b32 y.den).length cy2] 33
  obtain ⟨w3, e3, o3, b3, s3⟩ := layA w2 [.bool false, .slice none 0 0, .slice none 0 0] 33
  rw [e1, e2, e3]
  rw [s1] at o2
  rw [s2, s1] at o3
  have p1 := ((o1.gone b2).gone b3)
  have p2 := (o2.gone b3)
  have p3 := o3
  have B0 := ((b1.trans (b2.mono b1.size)).trans (b3.mono (b1.trans (b2.mono b1.size)).size))
  have hS : ∀ w', HeldN w (w.heap.size + 2) 3 33 [(w.heap.size, [.bool (decide (x.num < 0)), .slice Ax1 (digs b32 x.num.natAbs).length cx1, .slice Ax2 (digs b32 x.den).length cx2], 33), (w.heap.size + 1, [.bool (decide (y.num < 0)), .slice Ay1 (digs b32 y.num.natAbs).length cy1, .slice Ay2 (digs b32 y.den).length cy2], 33)] w' → HeldN w (w.heap.size + 2) 3 33 [(w.heap.size, [.bool (decide (x.num < 0)), .slice Ax1 (digs b32 x.num.natAbs).length cx1, .slice Ax2 (digs b32 x.den).length cx2], 33), (w.heap.size + 1, [.bool (decide (y.num < 0)), .slice Ay1 (digs b32 y.num.natAbs).length cy1, .slice Ay2 (digs b32 y.den).length cy2], 33)] w' ∧ w'.cell? ⟨w.heap.size, 0, none⟩ = some (.bool (decide (x.num < 0))) ∧ w'.cell? ⟨w.heap.size, 1, none⟩ = some (.slice Ax1 (digs b32 x.num.natAbs).length cx1) ∧ w'.cell? ⟨w.heap.size, 2, none⟩ = some (.slice Ax2 (digs b32 x.den).length cx2) ∧ w'.cell? ⟨w.heap.size + 1, 0, none⟩ = some (.bool (decide (y.num < 0))) ∧ w'.cell? ⟨w.heap.size + 1, 1, none⟩ = some (.slice Ay1 (digs b32 y.num.natAbs).length cy1) ∧ w'.cell? ⟨w.heap.size + 1, 2, none⟩ = some (.slice Ay2 (digs b32 y.den).length cy2) ∧ w'.cell? ⟨w.heap.size + 2, 0, none⟩ = some (cv w' ⟨w.heap.size + 2, 0, none⟩) ∧ w'.cell? ⟨w.heap.size + 2, 1, none⟩ = some (cv w' ⟨w.heap.size + 2, 1, none⟩) ∧ w'.cell? ⟨w.heap.size + 2, 2, none⟩ = some (cv w' ⟨w.heap.size + 2, 2, none⟩) ∧ w'.frozen? ⟨w.heap.size + 2, 0, none⟩ = false ∧ w'.frozen? ⟨w.heap.size + 2, 1, none⟩ = false ∧ w'.frozen? ⟨w.heap.size + 2, 2, none⟩ = false := fun w' hh => by
    have r1 := hh.par (p := (w.heap.size, [.bool (decide (x.num < 0)), .slice Ax1 (digs b32 x.num.natAbs).length cx1, .slice Ax2 (digs b32 x.den).length cx2], 33)) (by simp)
    have r2 := hh.par (p := (w.heap.size + 1, [.bool (decide (y.num < 0)), .slice Ay1 (digs b32 y.num.natAbs).length cy1, .slice Ay2 (digs b32 y.den).length cy2], 33)) (by simp)
    exact ⟨hh, r1.cell (i := 0) rfl, r1.cell (i := 1) rfl, r1.cell (i := 2) rfl, r2.cell (i := 0) rfl, r2.cell (i := 1) rfl, r2.cell (i := 2) rfl, hh.cellR (i := 0) (by omega), hh.cellR (i := 1) (by omega), hh.cellR (i := 2) (by omega), hh.fzR 0, hh.fzR 1, hh.fzR 2⟩
  have hz : HeldN w (w.heap.size + 2) 3 33 [(w.heap.size, [.bool (decide (x.num < 0)), .slice Ax1 (digs b32 x.num.natAbs).length cx1, .slice Ax2 (digs b32 x.den).length cx2], 33), (w.heap.size + 1, [.bool (decide (y.num < 0)), .slice Ay1 (digs b32 y.num.natAbs).length cy1, .slice Ay2 (digs b32 y.den).length cy2], 33)] w3 := ⟨B0, by omega, by intro q hq; simp at hq; rcases hq with rfl | rfl; exact ⟨by simp, p1⟩; exact ⟨by simp, p2⟩, _, rfl, p3, notInt3⟩
  clear e1 e2 e3 o1 b1 s1 p1 o2 b2 s2 p2 o3 b3 s3 p3
  clear B0
  have hz := hz.drew
  (try have hux := Num.drew' hux)
  (try have huy := Num.drew' huy)
  (try have ht1 := Num.drew' ht1)
  (try have ht2 := Num.drew' ht2)
  (try have htd := Num.drew' htd)
  (try have hs1 := Num.drew' hs1)
  go_region_held3 (fun w' => HeldN w (w.heap.size + 2) 3 33 [(w.heap.size, [.bool (decide (x.num < 0)), .slice Ax1 (digs b32 x.num.natAbs).length cx1, .slice Ax2 (digs b32 x.den).length cx2], 33), (w.heap.size + 1, [.bool (decide (y.num < 0)), .slice Ay1 (digs b32 y.num.natAbs).length cy1, .slice Ay2 (digs b32 y.den).length cy2], 33)] w' ∧ w'.cell? ⟨w.heap.size, 0, none⟩ = some (.bool (decide (x.num < 0))) ∧ w'.cell? ⟨w.heap.size, 1, none⟩ = some (.slice Ax1 (digs b32 x.num.natAbs).length cx1) ∧ w'.cell? ⟨w.heap.size, 2, none⟩ = some (.slice Ax2 (digs b32 x.den).length cx2) ∧ w'.cell? ⟨w.heap.size + 1, 0, none⟩ = some (.bool (decide (y.num < 0))) ∧ w'.cell? ⟨w.heap.size + 1, 1, none⟩ = some (.slice Ay1 (digs b32 y.num.natAbs).length cy1) ∧ w'.cell? ⟨w.heap.size + 1, 2, none⟩ = some (.slice Ay2 (digs b32 y.den).length cy2) ∧ w'.cell? ⟨w.heap.size + 2, 0, none⟩ = some (cv w' ⟨w.heap.size + 2, 0, none⟩) ∧ w'.cell? ⟨w.heap.size + 2, 1, none⟩ = some (cv w' ⟨w.heap.size + 2, 1, none⟩) ∧ w'.cell? ⟨w.heap.size + 2, 2, none⟩ = some (cv w' ⟨w.heap.size + 2, 2, none⟩) ∧ w'.frozen? ⟨w.heap.size + 2, 0, none⟩ = false ∧ w'.frozen? ⟨w.heap.size + 2, 1, none⟩ = false ∧ w'.frozen? ⟨w.heap.size + 2, 2, none⟩ = false)
    (first | exact hS _ hz | exact hS _ (HeldN.sets3 hz))
    (first
      | (go_at_call 64; have hc := nunder_num _ _ y (hy0.below hz.1); (with_reducible refine Calls.mono hc ?_); clear hc; rintro e wz ⟨vuy, rfl, huy, hb⟩; (try have hux := hux.below hb); (try have huy := huy.below hb); (try have ht1 := ht1.below hb); (try have ht2 := ht2.below hb); (try have htd := htd.below hb); (try have hs1 := hs1.below hb); have hz := HeldN.call (And.intro hz trivial) hb)
      | (go_at_call 63; have hc := product_num _ _ _ _ _ (hxa.below hz.1) huy HB.out.1.1 HB.out.2.2 (by omega) (by omega); (with_reducible refine Calls.mono hc ?_); clear hc; rintro e wz ⟨vt1, rfl, ht1, hb⟩; (try have hux := hux.below hb); (try have huy := huy.below hb); (try have ht1 := ht1.below hb); (try have ht2 := ht2.below hb); (try have htd := htd.below hb); (try have hs1 := hs1.below hb); have hz := HeldN.call (And.intro hz trivial) hb)
      | (go_at_call 64; have hc := nunder_num _ _ x (hx0.below hz.1); (with_reducible refine Calls.mono hc ?_); clear hc; rintro e wz ⟨vux, rfl, hux, hb⟩; (try have hux := hux.below hb); (try have huy := huy.below hb); (try have ht1 := ht1.below hb); (try have ht2 := ht2.below hb); (try have htd := htd.below hb); (try have hs1 := hs1.below hb); have hz := HeldN.call (And.intro hz trivial) hb)
      | (go_at_call 63; have hc := product_num _ _ _ _ _ (hya.below hz.1) hux HB.out.2.1 HB.out.1.2 (by omega) (by omega); (with_reducible refine Calls.mono hc ?_); clear hc; rintro e wz ⟨vt2, rfl, ht2, hb⟩; (try have hux := hux.below hb); (try have huy := huy.below hb); (try have ht1 := ht1.below hb); (try have ht2 := ht2.below hb); (try have htd := htd.below hb); (try have hs1 := hs1.below hb); have hz := HeldN.call (And.intro hz trivial) hb))
  all_goals (
    go_wp2_with fail
    (try clear hux)
    (try clear huy)
    have hz := hz.drew
    (try have hux := Num.drew' hux)
    (try have huy := Num.drew' huy)
    (try have ht1 := Num.drew' ht1)
    (try have ht2 := Num.drew' ht2)
    (try have htd := Num.drew' htd)
    (try have hs1 := Num.drew' hs1)
    go_region_held3 (fun w' => HeldN w (w.heap.size + 2) 3 33 [(w.heap.size, [.bool (decide (x.num < 0)), .slice Ax1 (digs b32 x.num.natAbs).length cx1, .slice Ax2 (digs b32 x.den).length cx2], 33), (w.heap.size + 1, [.bool (decide (y.num < 0)), .slice Ay1 (digs b32 y.num.natAbs).length cy1, .slice Ay2 (digs b32 y.den).length cy2], 33)] w' ∧ w'.cell? ⟨w.heap.size, 0, none⟩ = some (.bool (decide (x.num < 0))) ∧ w'.cell? ⟨w.heap.size, 1, none⟩ = some (.slice Ax1 (digs b32 x.num.natAbs).length cx1) ∧ w'.cell? ⟨w.heap.size, 2, none⟩ = some (.slice Ax2 (digs b32 x.den).length cx2) ∧ w'.cell? ⟨w.heap.size + 1, 0, none⟩ = some (.bool (decide (y.num < 0))) ∧ w'.cell? ⟨w.heap.size + 1, 1, none⟩ = some (.slice Ay1 (digs b32 y.num.natAbs).length cy1) ∧ w'.cell? ⟨w.heap.size + 1, 2, none⟩ = some (.slice Ay2 (digs b32 y.den).length cy2) ∧ w'.cell? ⟨w.heap.size + 2, 0, none⟩ = some (cv w' ⟨w.heap.size + 2, 0, none⟩) ∧ w'.cell? ⟨w.heap.size + 2, 1, none⟩ = some (cv w' ⟨w.heap.size + 2, 1, none⟩) ∧ w'.cell? ⟨w.heap.size + 2, 2, none⟩ = some (cv w' ⟨w.heap.size + 2, 2, none⟩) ∧ w'.frozen? ⟨w.heap.size + 2, 0, none⟩ = false ∧ w'.frozen? ⟨w.heap.size + 2, 1, none⟩ = false ∧ w'.frozen? ⟨w.heap.size + 2, 2, none⟩ = false)
      (first | exact hS _ hz | exact hS _ (HeldN.sets3 hz))
      (first
        | (go_at_call 64; have hc := nunder_num _ _ x (hx0.below hz.1); (with_reducible refine Calls.mono hc ?_); clear hc; rintro e wz ⟨vux, rfl, hux, hb⟩; (try have hux := hux.below hb); (try have huy := huy.below hb); (try have ht1 := ht1.below hb); (try have ht2 := ht2.below hb); (try have htd := htd.below hb); (try have hs1 := hs1.below hb); have hz := HeldN.call (And.intro hz trivial) hb)
        | (go_at_call 64; have hc := nunder_num _ _ y (hy0.below hz.1); (with_reducible refine Calls.mono hc ?_); clear hc; rintro e wz ⟨vuy, rfl, huy, hb⟩; (try have hux := hux.below hb); (try have huy := huy.below hb); (try have ht1 := ht1.below hb); (try have ht2 := ht2.below hb); (try have htd := htd.below hb); (try have hs1 := hs1.below hb); have hz := HeldN.call (And.intro hz trivial) hb)
        | (go_at_call 63; have hc := product_num _ _ _ _ _ hux huy HB.out.1.2 HB.out.2.2 (by omega) (by omega); (with_reducible refine Calls.mono hc ?_); clear hc; rintro e wz ⟨vtd, rfl, htd, hb⟩; (try have hux := hux.below hb); (try have huy := huy.below hb); (try have ht1 := ht1.below hb); (try have ht2 := ht2.below hb); (try have htd := htd.below hb); (try have hs1 := hs1.below hb); have hz := HeldN.call (And.intro hz trivial) hb))
    all_goals (
      obtain ⟨_, k0, k1, k2, k3, k4, k5, _⟩ := hS _ hz
      go_wp2_with fail
      have hc := order_num _ _ _ _ _ ht1 ht2
      rw [HZC.out] at hc
      refine Calls.mono hc ?_
      clear hc
      rintro e wz ⟨rfl, hb⟩
      have ht1 := ht1.below hb
      have ht2 := ht2.below hb
      have htd := htd.below hb
      have hz := HeldN.call (And.intro hz trivial) hb
      go_wp2_with fail
      clear k0 k1 k2 k3 k4 k5
      have hz := hz.drew
      (try have hux := Num.drew' hux)
      (try have huy := Num.drew' huy)
      (try have ht1 := Num.drew' ht1)
      (try have ht2 := Num.drew' ht2)
      (try have htd := Num.drew' htd)
      (try have hs1 := Num.drew' hs1)
      go_region_held3 (fun w' => HeldN w (w.heap.size + 2) 3 33 [(w.heap.size, [.bool (decide (x.num < 0)), .slice Ax1 (digs b32 x.num.natAbs).length cx1, .slice Ax2 (digs b32 x.den).length cx2], 33), (w.heap.size + 1, [.bool (decide (y.num < 0)), .slice Ay1 (digs b32 y.num.natAbs).length cy1, .slice Ay2 (digs b32 y.den).length cy2], 33)] w' ∧ w'.cell? ⟨w.heap.size, 0, none⟩ = some (.bool (decide (x.num < 0))) ∧ w'.cell? ⟨w.heap.size, 1, none⟩ = some (.slice Ax1 (digs b32 x.num.natAbs).length cx1) ∧ w'.cell? ⟨w.heap.size, 2, none⟩ = some (.slice Ax2 (digs b32 x.den).length cx2) ∧ w'.cell? ⟨w.heap.size + 1, 0, none⟩ = some (.bool (decide (y.num < 0))) ∧ w'.cell? ⟨w.heap.size + 1, 1, none⟩ = some (.slice Ay1 (digs b32 y.num.natAbs).length cy1) ∧ w'.cell? ⟨w.heap.size + 1, 2, none⟩ = some (.slice Ay2 (digs b32 y.den).length cy2) ∧ w'.cell? ⟨w.heap.size + 2, 0, none⟩ = some (cv w' ⟨w.heap.size + 2, 0, none⟩) ∧ w'.cell? ⟨w.heap.size + 2, 1, none⟩ = some (cv w' ⟨w.heap.size + 2, 1, none⟩) ∧ w'.cell? ⟨w.heap.size + 2, 2, none⟩ = some (cv w' ⟨w.heap.size + 2, 2, none⟩) ∧ w'.frozen? ⟨w.heap.size + 2, 0, none⟩ = false ∧ w'.frozen? ⟨w.heap.size + 2, 1, none⟩ = false ∧ w'.frozen? ⟨w.heap.size + 2, 2, none⟩ = false)
        (first | exact hS _ hz | exact hS _ (HeldN.sets3 hz))
        (first
          | (go_at_call 124; have hc := difference_num _ _ _ _ _ ht2 ht1 (Nat.le_of_lt HGE.out) HT.out.2 hjk1; (with_reducible refine Calls.mono hc ?_); clear hc; rintro e wz ⟨vs, rfl, hs1, hb⟩; (try have hux := hux.below hb); (try have huy := huy.below hb); (try have ht1 := ht1.below hb); (try have ht2 := ht2.below hb); (try have htd := htd.below hb); (try have hs1 := hs1.below hb); have hz := HeldN.call (And.intro hz trivial) hb)
          | (go_at_call 57; have hc := made_num _ (decide (y.num < 0)) _ _ (y.num.natAbs * x.den - x.num.natAbs * y.den) (x.den * y.den) hs1 htd (Nat.mul_pos hdx hdy) HA.out HD.out hjk; (with_reducible refine Calls.mono hc ?_); clear hc; rintro e wz ⟨vr, rfl, hr, hb⟩; (try have hux := hux.below hb); (try have huy := huy.below hb); (try have ht1 := ht1.below hb); (try have ht2 := ht2.below hb); (try have htd := htd.below hb); (try have hs1 := hs1.below hb); have hz := HeldN.call (And.intro hz trivial) hb; replace hr := isRef_of hr HL.out; obtain ⟨vr1, vr2, rfl, hra, hrb⟩ := id hr; obtain ⟨Ar1, cr1, rfl, _⟩ := id hra; obtain ⟨Ar2, cr2, rfl, _⟩ := id hrb))
      all_goals (
        go_wp2
        obtain ⟨wf, HW, ho, hB, hN⟩ := hz.fin [.bool (decide ((x + y).num < 0)), .slice Ar1 (digs b32 (x + y).num.natAbs).length cr1, .slice Ar2 (digs b32 (x + y).den).length cr2] rfl notInt3
        simp only [setAll, Nat.reduceAdd] at HW
        (try rw [HW])
        (try simp only [Exit.inBlock, Exit.then])
        have f0 := ho.cell (i := 0) rfl
        have f1 := ho.cell (i := 1) rfl
        have f2 := ho.cell (i := 2) rfl
        refine bodyPost_ret (by simp [results, Tryz.results83, go_sem, f0, f1, f2]; try rfl) rfl ?_
        exact ⟨_, rfl, hr.into hN, hB⟩)))
theorem nadd_num (w : World) (vx vy : Value) (x y : Rat) (hx : IsRef w vx x) (hy : IsRef w vy y) {j k : Nat} (hj : BdR j x) (hk : BdR k y) (hjk : j + k + j + k + 1 ≤ 10000000) : Calls Tryz.prog 83 #[vx, vy] w (RetRef w (x + y)) := by
  by_cases hs : decide (x.num < 0) = decide (y.num < 0)
  · exact nadd_same w vx vy x y hx hy hj hk hjk hs
  · rcases Nat.lt_or_ge (x.num.natAbs * y.den) (y.num.natAbs * x.den) with h | h
    · exact nadd_lt w vx vy x y hx hy hj hk hjk hs h
    · exact nadd_ge w vx vy x y hx hy hj hk hjk hs h
end Wx
