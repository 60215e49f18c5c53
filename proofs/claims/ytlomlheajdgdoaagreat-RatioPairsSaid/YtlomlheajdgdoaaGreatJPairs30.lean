import Derived.Test.YtlomlheajdgdoaaGreatProg
import Derived.Handy
import Derived.Deep.RegionHeld3
import Derived.Test.YtlomlheajdgdoaaGreatJPairs0
import Derived.Test.YtlomlheajdgdoaaGreatJPairs1
import Derived.Test.YtlomlheajdgdoaaGreatCPairsRat1
import Derived.Test.YtlomlheajdgdoaaGreatJPairs9
import Derived.Test.YtlomlheajdgdoaaGreatJPairs18
import Derived.Test.YtlomlheajdgdoaaGreatJPairs26
import Derived.Test.YtlomlheajdgdoaaGreatJPairs22
import Derived.Test.YtlomlheajdgdoaaGreatJPairs23
import Derived.Test.YtlomlheajdgdoaaGreatJPairs10
import Derived.Test.YtlomlheajdgdoaaGreatCPairsSem
import Derived.Test.YtlomlheajdgdoaaGreatCPairsSemOps
import Derived.Test.YtlomlheajdgdoaaGreatCPairsSemMem
import Derived.Test.YtlomlheajdgdoaaGreatCPairsSemCode
import Derived.Test.YtlomlheajdgdoaaGreatJPairs15
namespace Wx
set_option maxRecDepth 100000
open Go Go.RowKit Go.Proofs

set_option maxHeartbeats 1000000 in
theorem ndiv_zero (w : World) (vx vy : Value) (x y : Rat) (hx : IsRef w vx x) (hy : IsRef w vy y) (h0 : y = 0) : Calls Tryz.prog 79 #[vx, vy] w (RetFE w 0 3) := by
  obtain ⟨vx1, vx2, rfl, hxa, hxb⟩ := id hx
  obtain ⟨Ax1, cx1, rfl, _⟩ := id hxa
  obtain ⟨Ax2, cx2, rfl, _⟩ := id hxb
  obtain ⟨vy1, vy2, rfl, hya, hyb⟩ := id hy
  obtain ⟨Ay1, cy1, rfl, _⟩ := id hya
  obtain ⟨Ay2, cy2, rfl, _⟩ := id hyb
  have hi : ∀ w, Calls Tryz.prog 10 #[.int .i64 0] w (RetRef w 0) := fun w => nint_num w 0 (by omega) (by omega)
  have HI := bx hi
  have HD := bx (decide_eq_true h0)
  have hy0 := hy
  clear hi h0 hx hy hxa hxb hya hyb
  generalize hq : (0 : Rat) = q at HI
  have HQ := bx hq
  clear hq
  go_enter Tryz.func79, Tryz.ntmps79
  go_wp2_with fail
  obtain ⟨w1, e1, oX, b1, s1⟩ := layA w [.bool (decide (x.num < 0)), .slice Ax1 (digs b32 x.num.natAbs).length cx1, .slice Ax2 (digs b32 x.den).length cx2] 33
  rw [e1]
  clear e1
  replace hy0 := hy0.below b1
  have B := b1
  clear b1
  obtain ⟨w2, e2, oY, b2, s2⟩ := layA w1 [.bool (decide (y.num < 0)), .slice Ay1 (digs b32 y.num.natAbs).length cy1, .slice Ay2 (digs b32 y.den).length cy2] 33
  rw [e2]
  rw [s1] at oY
  clear e2
  replace hy0 := hy0.below b2
  replace oX := oX.gone b2
  replace B := B.trans (b2.mono B.size)
  clear b2
  obtain ⟨w3, e3, oR, b3, s3⟩ := layA w2 [.bool false, .slice none 0 0, .slice none 0 0] 33
  rw [e3]
  rw [s2, s1] at oR
  clear e3
  replace hy0 := hy0.below b3
  replace oX := oX.gone b3
  replace oY := oY.gone b3
  replace B := B.trans (b3.mono B.size)
  clear b3
  have hc := nzero_num _ _ y hy0
  rw [HD.out] at hc
  refine Calls.mono (hc) ?_
  rintro e w4 ⟨rfl, b4⟩
  replace hy0 := hy0.below b4
  replace oX := oX.gone b4
  replace oY := oY.gone b4
  replace oR := oR.gone b4
  replace B := B.trans (b4.mono B.size)
  clear b4
  clear hc
  go_wp2_with fail
  refine Calls.mono (HI.out _) ?_
  rintro e w5 ⟨vr, rfl, hr, b5⟩
  replace hy0 := hy0.below b5
  replace oX := oX.gone b5
  replace oY := oY.gone b5
  replace oR := oR.gone b5
  replace B := B.trans (b5.mono B.size)
  clear b5
  obtain ⟨vr1, vr2, rfl, hra, hrb⟩ := id hr
  obtain ⟨Ar1, cr1, rfl, _⟩ := id hra
  obtain ⟨Ar2, cr2, rfl, _⟩ := id hrb
  have k1 := oR.cell (i := 0) rfl
  have k2 := oR.fz 0
  have k3 := oR.cell (i := 1) rfl
  have k4 := oR.fz 1
  have k5 := oR.cell (i := 2) rfl
  have k6 := oR.fz 2
  go_wp2
  obtain ⟨wf, HW, ho, _, hN, hBf, _⟩ := oR.put notInt_z3 [.bool (decide (q.num < 0)), .slice Ar1 (digs b32 q.num.natAbs).length cr1, .slice Ar2 (digs b32 q.den).length cr2] rfl notInt3
  simp only [setAll, Nat.reduceAdd] at HW
  (try rw [HW])
  (try simp only [Exit.inBlock, Exit.then])
  have f0 := ho.cell (i := 0) rfl
  have f1 := ho.cell (i := 1) rfl
  have f2 := ho.cell (i := 2) rfl
  refine bodyPost_ret (by simp [results, Tryz.results79, go_sem, f0, f1, f2]; try rfl) rfl ?_
  have HB := hBf _ (by omega) B
  exact ⟨_, rfl, hr.into hN, HB⟩
set_option maxHeartbeats 8000000 in
theorem ndiv_num (w : World) (vx vy : Value) (x y : Rat) (hx : IsRef w vx x) (hy : IsRef w vy y) (hy1 : y.num ≠ 0) {j k : Nat} (hj : BdR j x) (hk : BdR k y) (hjk : j + k ≤ 10000000) : Calls Tryz.prog 79 #[vx, vy] w (RetFE w (x / y) 0) := by
  have HY := bx hy1
  have HD := bx (decide_eq_false (mt (Rat.num_eq_zero (q := y)).2 hy1))
  clear hy1
  obtain ⟨vx1, vx2, rfl, hxa, hxb⟩ := id hx
  obtain ⟨Ax1, cx1, rfl, _⟩ := id hxa
  obtain ⟨Ax2, cx2, rfl, _⟩ := id hxb
  obtain ⟨vy1, vy2, rfl, hya, hyb⟩ := id hy
  obtain ⟨Ay1, cy1, rfl, _⟩ := id hya
  obtain ⟨Ay2, cy2, rfl, _⟩ := id hyb
  have hdx := x.den_pos
  have hdy := y.den_pos
  have HB := bx (And.intro hj hk)
  have hj1 : j ≤ 1000000000 := by omega
  have hk1 : k ≤ 1000000000 := by omega
  have hx0 := hx
  have hy0 := hy
  clear hj hk hx hy
  go_enter Tryz.func79, Tryz.ntmps79
  go_wp2_with fail
  obtain ⟨w1, e1, oX, b1, s1⟩ := layA w [.bool (decide (x.num < 0)), .slice Ax1 (digs b32 x.num.natAbs).length cx1, .slice Ax2 (digs b32 x.den).length cx2] 33
  rw [e1]
  clear e1
  replace hy0 := hy0.below b1
  replace hx0 := hx0.below b1
  replace hxa := hxa.below b1
  replace hxb := hxb.below b1
  replace hya := hya.below b1
  replace hyb := hyb.below b1
  have B := b1
  clear b1
  obtain ⟨w2, e2, oY, b2, s2⟩ := layA w1 [.bool (decide (y.num < 0)), .slice Ay1 (digs b32 y.num.natAbs).length cy1, .slice Ay2 (digs b32 y.den).length cy2] 33
  rw [e2]
  rw [s1] at oY
  clear e2
  replace hy0 := hy0.below b2
  replace hx0 := hx0.below b2
  replace hxa := hxa.below b2
  replace hxb := hxb.below b2
  replace hya := hya.below b2
  replace hyb := hyb.below b2
  replace oX := oX.gone b2
  replace B := B.trans (b2.mono B.size)
  clear b2
  obtain ⟨w3, e3, oR, b3, s3⟩ := layA w2 [.bool false, .slice none 0 0, .slice none 0 0] 33
  rw [e3]
  rw [s2, s1] at oR
  clear e3
  replace hy0 := hy0.below b3
  replace hx0 := hx0.below b3
  replace hxa := hxa.below b3
  replace hxb := hxb.below b3
  replace hya := hya.below b3
  replace hyb := hyb.below b3
  replace oX := oX.gone b3
  replace oY := oY.gone b3
  replace B := B.trans (b3.mono B.size)
  clear b3
  have hc := nzero_num _ _ y hy0
  rw [HD.out] at hc
  refine Calls.mono (hc) ?_
  rintro e w4 ⟨rfl, b4⟩
  replace hy0 := hy0.below b4
  replace hx0 := hx0.below b4
  replace hxa := hxa.below b4
  replace hxb := hxb.below b4
  replace hya := hya.below b4
  replace hyb := hyb.below b4
  replace oX := oX.gone b4
  replace oY := oY.gone b4
  replace oR := oR.gone b4
  replace B := B.trans (b4.mono B.size)
  clear b4
  clear hc
  go_wp2_with fail
  have hS : ∀ w', HeldN w (w.heap.size + 1 + 1) 3 33 [(w.heap.size, [.bool (decide (x.num < 0)), .slice Ax1 (digs b32 x.num.natAbs).length cx1, .slice Ax2 (digs b32 x.den).length cx2], 33), (w.heap.size + 1, [.bool (decide (y.num < 0)), .slice Ay1 (digs b32 y.num.natAbs).length cy1, .slice Ay2 (digs b32 y.den).length cy2], 33)] w' → HeldN w (w.heap.size + 1 + 1) 3 33 [(w.heap.size, [.bool (decide (x.num < 0)), .slice Ax1 (digs b32 x.num.natAbs).length cx1, .slice Ax2 (digs b32 x.den).length cx2], 33), (w.heap.size + 1, [.bool (decide (y.num < 0)), .slice Ay1 (digs b32 y.num.natAbs).length cy1, .slice Ay2 (digs b32 y.den).length cy2], 33)] w' ∧ w'.cell? ⟨w.heap.size, 0, none⟩ = some (.bool (decide (x.num < 0))) ∧ w'.cell? ⟨w.heap.size, 1, none⟩ = some (.slice Ax1 (digs b32 x.num.natAbs).length cx1) ∧ w'.cell? ⟨w.heap.size, 2, none⟩ = some (.slice Ax2 (digs b32 x.den).length cx2) ∧ w'.cell? ⟨w.heap.size + 1, 0, none⟩ = some (.bool (decide (y.num < 0))) ∧ w'.cell? ⟨w.heap.size + 1, 1, none⟩ = some (.slice Ay1 (digs b32 y.num.natAbs).length cy1) ∧ w'.cell? ⟨w.heap.size + 1, 2, none⟩ = some (.slice Ay2 (digs b32 y.den).length cy2) ∧ w'.cell? ⟨w.heap.size + 1 + 1, 0, none⟩ = some (cv w' ⟨w.heap.size + 1 + 1, 0, none⟩) ∧ w'.cell? ⟨w.heap.size + 1 + 1, 1, none⟩ = some (cv w' ⟨w.heap.size + 1 + 1, 1, none⟩) ∧ w'.cell? ⟨w.heap.size + 1 + 1, 2, none⟩ = some (cv w' ⟨w.heap.size + 1 + 1, 2, none⟩) ∧ w'.frozen? ⟨w.heap.size + 1 + 1, 0, none⟩ = false ∧ w'.frozen? ⟨w.heap.size + 1 + 1, 1, none⟩ = false ∧ w'.frozen? ⟨w.heap.size + 1 + 1, 2, none⟩ = false := fun w' hh => by
    have r1 := hh.par (p := (w.heap.size, [.bool (decide (x.num < 0)), .slice Ax1 (digs b32 x.num.natAbs).length cx1, .slice Ax2 (digs b32 x.den).length cx2], 33)) (by simp)
    have r2 := hh.par (p := (w.heap.size + 1, [.bool (decide (y.num < 0)), .slice Ay1 (digs b32 y.num.natAbs).length cy1, .slice Ay2 (digs b32 y.den).length cy2], 33)) (by simp)
    exact ⟨hh, r1.cell (i := 0) rfl, r1.cell (i := 1) rfl, r1.cell (i := 2) rfl, r2.cell (i := 0) rfl, r2.cell (i := 1) rfl, r2.cell (i := 2) rfl, hh.cellR (i := 0) (by omega), hh.cellR (i := 1) (by omega), hh.cellR (i := 2) (by omega), hh.fzR 0, hh.fzR 1, hh.fzR 2⟩
  have hz : HeldN w (w.heap.size + 1 + 1) 3 33 [(w.heap.size, [.bool (decide (x.num < 0)), .slice Ax1 (digs b32 x.num.natAbs).length cx1, .slice Ax2 (digs b32 x.den).length cx2], 33), (w.heap.size + 1, [.bool (decide (y.num < 0)), .slice Ay1 (digs b32 y.num.natAbs).length cy1, .slice Ay2 (digs b32 y.den).length cy2], 33)] w4 := ⟨B, by omega, by intro q hq; simp at hq; rcases hq with rfl | rfl; exact ⟨(by show w.heap.size ≠ w.heap.size + 1 + 1; omega), oX⟩; exact ⟨(by show w.heap.size + 1 ≠ w.heap.size + 1 + 1; omega), oY⟩, _, rfl, oR, notInt3⟩
  clear oX oY oR B s1 s2 s3
  have hx0 := hx0.drew
  have hy0 := hy0.drew
  have hxa : Num .u32 b32 w4.drew _ _ := hxa
  have hya : Num .u32 b32 w4.drew _ _ := hya
  have hz := hz.drew
  go_region_held3 (fun w' => HeldN w (w.heap.size + 1 + 1) 3 33 [(w.heap.size, [.bool (decide (x.num < 0)), .slice Ax1 (digs b32 x.num.natAbs).length cx1, .slice Ax2 (digs b32 x.den).length cx2], 33), (w.heap.size + 1, [.bool (decide (y.num < 0)), .slice Ay1 (digs b32 y.num.natAbs).length cy1, .slice Ay2 (digs b32 y.den).length cy2], 33)] w' ∧ w'.cell? ⟨w.heap.size, 0, none⟩ = some (.bool (decide (x.num < 0))) ∧ w'.cell? ⟨w.heap.size, 1, none⟩ = some (.slice Ax1 (digs b32 x.num.natAbs).length cx1) ∧ w'.cell? ⟨w.heap.size, 2, none⟩ = some (.slice Ax2 (digs b32 x.den).length cx2) ∧ w'.cell? ⟨w.heap.size + 1, 0, none⟩ = some (.bool (decide (y.num < 0))) ∧ w'.cell? ⟨w.heap.size + 1, 1, none⟩ = some (.slice Ay1 (digs b32 y.num.natAbs).length cy1) ∧ w'.cell? ⟨w.heap.size + 1, 2, none⟩ = some (.slice Ay2 (digs b32 y.den).length cy2) ∧ w'.cell? ⟨w.heap.size + 1 + 1, 0, none⟩ = some (cv w' ⟨w.heap.size + 1 + 1, 0, none⟩) ∧ w'.cell? ⟨w.heap.size + 1 + 1, 1, none⟩ = some (cv w' ⟨w.heap.size + 1 + 1, 1, none⟩) ∧ w'.cell? ⟨w.heap.size + 1 + 1, 2, none⟩ = some (cv w' ⟨w.heap.size + 1 + 1, 2, none⟩) ∧ w'.frozen? ⟨w.heap.size + 1 + 1, 0, none⟩ = false ∧ w'.frozen? ⟨w.heap.size + 1 + 1, 1, none⟩ = false ∧ w'.frozen? ⟨w.heap.size + 1 + 1, 2, none⟩ = false)
    (first | exact hS _ hz | exact hS _ (HeldN.sets3 hz))
    (first
      | (go_at_call 64; have hc := nunder_num _ _ x hx0; (with_reducible refine Calls.mono hc ?_); clear hc; rintro e wz ⟨vux, rfl, hux, hb⟩; (try have hux := hux.below hb); (try have huy := huy.below hb); (try have ht1 := ht1.below hb); (try have ht2 := ht2.below hb); (try have hx0 := hx0.below hb); (try have hy0 := hy0.below hb); (try have hxa := hxa.below hb); (try have hxb := hxb.below hb); (try have hya := hya.below hb); (try have hyb := hyb.below hb); have hz := HeldN.call (And.intro hz trivial) hb)
      | (go_at_call 64; have hc := nunder_num _ _ y hy0; (with_reducible refine Calls.mono hc ?_); clear hc; rintro e wz ⟨vuy, rfl, huy, hb⟩; (try have hux := hux.below hb); (try have huy := huy.below hb); (try have ht1 := ht1.below hb); (try have ht2 := ht2.below hb); (try have hx0 := hx0.below hb); (try have hy0 := hy0.below hb); (try have hxa := hxa.below hb); (try have hxb := hxb.below hb); (try have hya := hya.below hb); (try have hyb := hyb.below hb); have hz := HeldN.call (And.intro hz trivial) hb)
      | (go_at_call 63; have hc := product_num _ _ _ _ _ hxa huy HB.out.1.1 HB.out.2.2 (by omega) (by omega); (with_reducible refine Calls.mono hc ?_); clear hc; rintro e wz ⟨vt1, rfl, ht1, hb⟩; (try have hux := hux.below hb); (try have huy := huy.below hb); (try have ht1 := ht1.below hb); (try have ht2 := ht2.below hb); (try have hx0 := hx0.below hb); (try have hy0 := hy0.below hb); (try have hxa := hxa.below hb); (try have hxb := hxb.below hb); (try have hya := hya.below hb); (try have hyb := hyb.below hb); have hz := HeldN.call (And.intro hz trivial) hb)
      | (go_at_call 63; have hc := product_num _ _ _ _ _ hux hya HB.out.1.2 HB.out.2.1 (by omega) (by omega); (with_reducible refine Calls.mono hc ?_); clear hc; rintro e wz ⟨vt2, rfl, ht2, hb⟩; (try have hux := hux.below hb); (try have huy := huy.below hb); (try have ht1 := ht1.below hb); (try have ht2 := ht2.below hb); (try have hx0 := hx0.below hb); (try have hy0 := hy0.below hb); (try have hxa := hxa.below hb); (try have hxb := hxb.below hb); (try have hya := hya.below hb); (try have hyb := hyb.below hb); have hz := HeldN.call (And.intro hz trivial) hb)
      | (go_at_call 57; have hc := made_num _ (!(decide (x.num < 0) == decide (y.num < 0))) _ _ (x.num.natAbs * y.den) (x.den * y.num.natAbs) ht1 ht2 (Nat.mul_pos hdx (by have := HY.out; omega)) (HB.out.1.1.mul HB.out.2.2) (HB.out.1.2.mul HB.out.2.1) hjk; (with_reducible refine Calls.mono hc ?_); clear hc; rintro e wz ⟨vr, rfl, hr, hb⟩; (try have hux := hux.below hb); (try have huy := huy.below hb); (try have ht1 := ht1.below hb); (try have ht2 := ht2.below hb); (try have hx0 := hx0.below hb); (try have hy0 := hy0.below hb); (try have hxa := hxa.below hb); (try have hxb := hxb.below hb); (try have hya := hya.below hb); (try have hyb := hyb.below hb); have hz := HeldN.call (And.intro hz trivial) hb; replace hr := isRef_of hr (div_red x y HY.out); obtain ⟨vr1, vr2, rfl, hra, hrb⟩ := id hr; obtain ⟨Ar1, cr1, rfl, _⟩ := id hra; obtain ⟨Ar2, cr2, rfl, _⟩ := id hrb))
  all_goals (
    go_wp2
    obtain ⟨wf, HW, ho, hB, hN⟩ := hz.fin [.bool (decide ((x / y).num < 0)), .slice Ar1 (digs b32 (x / y).num.natAbs).length cr1, .slice Ar2 (digs b32 (x / y).den).length cr2] rfl notInt3
    simp only [setAll, Nat.reduceAdd] at HW
    (try rw [HW])
    (try simp only [Exit.inBlock, Exit.then])
    have f0 := ho.cell (i := 0) rfl
    have f1 := ho.cell (i := 1) rfl
    have f2 := ho.cell (i := 2) rfl
    refine bodyPost_ret (by simp [results, Tryz.results79, go_sem, f0, f1, f2]; try rfl) rfl ?_
    exact ⟨_, rfl, hr.into hN, hB⟩)
end Wx

namespace Wx
open Go Go.RowKit Go.Proofs

def pRef (q : Rat) : Pred := fun w v => IsRef w v q
theorem numlike_ref (q : Rat) : Numlike (pRef q) := by
  rintro M w v hM ⟨vn, vd, rfl, h1, h2⟩ w' he
  exact ⟨vn, vd, rfl, num_box hM (.inr rfl) h1 w' he, num_box hM (.inr rfl) h2 w' he⟩
theorem fits_ref (q : Rat) : Fits 3 true (pRef q) := by
  rintro w v ⟨vn, vd, rfl, h1, h2⟩
  obtain ⟨A, c, rfl, _⟩ := h1
  obtain ⟨B, d, rfl, _⟩ := h2
  refine ⟨[_, _, _], rfl, rfl, rfl, ?_⟩
  intro u hu
  simp at hu
  rcases hu with rfl | rfl | rfl
  · exact ⟨noU_bool _, rfl⟩
  · exact ⟨noU_slice _ _ _, rfl⟩
  · exact ⟨noU_slice _ _ _, rfl⟩
theorem pRef_eq {x y : Rat} (h : x = y) : ∀ w v, pRef x w v → pRef y w v := fun _ _ k => h ▸ k
def pRPair (a b : Rat) : Pred := pS [⟨true, 3, pRef a⟩, ⟨true, 3, pRef b⟩]
theorem fits_rpair (a b : Rat) : Fits 6 true (pRPair a b) := fits_s (fs := [⟨true, 3, pRef a⟩, ⟨true, 3, pRef b⟩]) ⟨fits_ref a, fits_ref b, trivial⟩ rfl
def pNatR (n : Nat) : Pred := fun w v => Num .u32 b32 w v n
theorem numlike_natR (n : Nat) : Numlike (pNatR n) := fun _ _ _ hM h => num_box hM (.inr rfl) h
theorem fits_natR (n : Nat) : Fits 1 false (pNatR n) := by
  rintro w v ⟨A, c, rfl, _⟩
  refine ⟨[_], rfl, rfl, rfl, ?_⟩
  intro u hu
  simp at hu
  subst hu
  exact ⟨noU_slice _ _ _, rfl⟩
def refFs (q : Rat) : List Fd := [⟨false, 1, pB (decide (q.num < 0))⟩, ⟨false, 1, pNatR q.num.natAbs⟩, ⟨false, 1, pNatR q.den⟩]
theorem ref_S (q : Rat) : ∀ w v, pRef q w v → pS (refFs q) w v := by
  rintro w v ⟨vn, vd, rfl, h1, h2⟩
  exact pS_of' (cs := [.bool (decide (q.num < 0)), vn, vd]) ⟨by simp, rfl, by simp, h1, by simp, h2, rfl⟩
theorem S_ref (q : Rat) : ∀ w v, pS (refFs q) w v → pRef q w v := by
  rintro w v ⟨cs, rfl, hc⟩
  have hl := pCells_len hc
  match cs, hl, hc with
  | [x, y, z], _, hc =>
    obtain ⟨_, h1, _, h2, _, h3, _⟩ := hc
    have e1 : x = .bool (decide (q.num < 0)) := h1
    subst e1
    exact ⟨y, z, rfl, h2, h3⟩
theorem fits_refS (q : Rat) : Fits 3 true (pS (refFs q)) := fits_s (fs := refFs q) ⟨fits_bool _, fits_natR _, fits_natR _, trivial⟩ rfl
end Wx
