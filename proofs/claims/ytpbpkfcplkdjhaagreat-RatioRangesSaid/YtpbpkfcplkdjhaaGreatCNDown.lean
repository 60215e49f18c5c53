import Derived.Test.YtpbpkfcplkdjhaaGreatProg
import Derived.Handy
import Derived.Deep.RegionHeld3
import Derived.Test.YtpbpkfcplkdjhaaGreatJRanges0
import Derived.Test.YtpbpkfcplkdjhaaGreatJRanges1
import Derived.Test.YtpbpkfcplkdjhaaGreatCRat1
import Derived.Test.YtpbpkfcplkdjhaaGreatJRanges10
import Derived.Test.YtpbpkfcplkdjhaaGreatCLess
import Derived.Test.YtpbpkfcplkdjhaaGreatCDown
import Derived.Test.YtpbpkfcplkdjhaaGreatJRanges22
import Derived.Test.YtpbpkfcplkdjhaaGreatJRanges15
import Derived.Test.YtpbpkfcplkdjhaaGreatJRanges34
import Derived.Test.YtpbpkfcplkdjhaaGreatJRanges29
import Derived.Test.YtpbpkfcplkdjhaaGreatCNRat2
import Derived.Test.YtpbpkfcplkdjhaaGreatJRanges36
import Derived.Test.YtpbpkfcplkdjhaaGreatCNAdd
import Derived.Test.YtpbpkfcplkdjhaaGreatCNFloor
namespace Wx
open Go Go.RowKit Go.Proofs

theorem BdR.pw (K : Nat) : BdR (K + 1) (pw K) := by
  obtain ⟨h1, h2⟩ := pw_num K
  exact ⟨by rw [h1, Int.natAbs_pow]; exact Bd.pow2 (by omega), by rw [h2]; unfold Bd; have := Nat.pow_lt_pow_right (show 1 < 2 by omega) (show 0 < K + 1 by omega); omega⟩
theorem BdR.inv_pw (K : Nat) : BdR (K + 1) (1 / Wx.pw K) := by
  obtain ⟨h1, h2⟩ := Wx.inv_pw K
  exact ⟨by rw [h1]; unfold Bd; have := Nat.pow_lt_pow_right (show 1 < 2 by omega) (show 0 < K + 1 by omega); show 1 < _; omega, by rw [h2]; exact Bd.pow2 (by omega)⟩
theorem BdR.floor {j : Nat} {q : Rat} (h : BdR j q) : BdR (j + 2) (floorR q) := by
  unfold floorR
  refine redR_bd (by omega) ?_ (by unfold Bd; have := Nat.pow_lt_pow_right (show 1 < 2 by omega) (show 0 < j + 2 by omega); omega)
  have h1 := h.1.le (Nat.div_le_self q.num.natAbs q.den)
  exact ((h1.add (show Bd 1 1 by unfold Bd; omega)).mono (by omega)).le (by split <;> omega)
theorem ntwo_bits (w : World) (K : Nat) (hK : K ≤ 256) : Calls Tryz.prog 137 #[.int .i64 (-(K : Int))] w (RetRef w (1 / pw K)) := by
  rcases Nat.eq_zero_or_pos K with rfl | h
  · have := ntwo_pos w 0 (by omega)
    rw [show (1 : Rat) / pw 0 = pw 0 by decide +kernel]
    exact this
  · exact ntwo_neg w _ K rfl h (by omega)
theorem down_floor (x : Rat) (k : Int) : floorR (x * pw (bitsOf k)) * (1 / pw (bitsOf k)) = downR x k := by
  rw [downR_eq, floorR_eq, Rat.div_def, Rat.div_def, Rat.one_mul]
set_option maxRecDepth 100000 in
set_option maxHeartbeats 4000000 in
theorem ndown_num (w : World) (vx : Value) (x : Rat) (k : Int) (hx : IsRef w vx x) {j : Nat} (hj : BdR j x) (hjk : j ≤ 100000) : Calls Tryz.prog 90 #[vx, .int .i64 k] w (RetRef w (downR x k)) := by
  obtain ⟨vx1, vx2, rfl, hxa, hxb⟩ := id hx
  obtain ⟨Ax1, cx1, rfl, _⟩ := id hxa
  obtain ⟨Ax2, cx2, rfl, _⟩ := id hxb
  have hx0 := hx
  have hk1 := (bitsOf_spec k).2
  have HQ := bx (down_floor x k)
  have HC := bx (fun w => nbits_clip w k)
  generalize downR x k = q at *
  generalize bitsOf k = K at *
  have HP := bx (BdR.pw K)
  have HI := bx (BdR.inv_pw K)
  have HB := bx hj
  have HM := bx (hj.mul (BdR.pw K))
  have HF := bx (hj.mul (BdR.pw K)).floor
  have hK0 : (0 : Int) ≤ (K : Int) := by omega
  have hK1 : (K : Int) ≤ 256 := by omega
  have hKw : IntKind.i64.wrap (-(K : Int)) = -(K : Int) := by unfold IntKind.wrap; simp [IntKind.bits, IntKind.signed]; omega
  clear hx hxa hxb hj
  go_enter Tryz.func90, Tryz.ntmps90
  go_wp2_with fail
  obtain ⟨w1, e1, o1, b1, s1⟩ := layA w [.bool (decide (x.num < 0)), .slice Ax1 (digs b32 x.num.natAbs).length cx1, .slice Ax2 (digs b32 x.den).length cx2] 37
  obtain ⟨w2, e2, o2, b2, s2⟩ := layA w1 [.bool false, .slice none 0 0, .slice none 0 0] 37
  rw [e1, e2]
  rw [s1] at o2
  have p1 := (o1.gone b2)
  have p2 := o2
  have B0 := (b1.trans (b2.mono b1.size))
  have hS : ∀ w', HeldN w (w.heap.size + 1) 3 37 [(w.heap.size, [.bool (decide (x.num < 0)), .slice Ax1 (digs b32 x.num.natAbs).length cx1, .slice Ax2 (digs b32 x.den).length cx2], 37)] w' → HeldN w (w.heap.size + 1) 3 37 [(w.heap.size, [.bool (decide (x.num < 0)), .slice Ax1 (digs b32 x.num.natAbs).length cx1, .slice Ax2 (digs b32 x.den).length cx2], 37)] w' ∧ w'.cell? ⟨w.heap.size, 0, none⟩ = some (.bool (decide (x.num < 0))) ∧ w'.cell? ⟨w.heap.size, 1, none⟩ = some (.slice Ax1 (digs b32 x.num.natAbs).length cx1) ∧ w'.cell? ⟨w.heap.size, 2, none⟩ = some (.slice Ax2 (digs b32 x.den).length cx2) ∧ w'.cell? ⟨w.heap.size + 1, 0, none⟩ = some (cv w' ⟨w.heap.size + 1, 0, none⟩) ∧ w'.cell? ⟨w.heap.size + 1, 1, none⟩ = some (cv w' ⟨w.heap.size + 1, 1, none⟩) ∧ w'.cell? ⟨w.heap.size + 1, 2, none⟩ = some (cv w' ⟨w.heap.size + 1, 2, none⟩) ∧ w'.frozen? ⟨w.heap.size + 1, 0, none⟩ = false ∧ w'.frozen? ⟨w.heap.size + 1, 1, none⟩ = false ∧ w'.frozen? ⟨w.heap.size + 1, 2, none⟩ = false := fun w' hh => by
    have r1 := hh.par (p := (w.heap.size, [.bool (decide (x.num < 0)), .slice Ax1 (digs b32 x.num.natAbs).length cx1, .slice Ax2 (digs b32 x.den).length cx2], 37)) (by simp)
    exact ⟨hh, r1.cell (i := 0) rfl, r1.cell (i := 1) rfl, r1.cell (i := 2) rfl, hh.cellR (i := 0) (by omega), hh.cellR (i := 1) (by omega), hh.cellR (i := 2) (by omega), hh.fzR 0, hh.fzR 1, hh.fzR 2⟩
  have hz : HeldN w (w.heap.size + 1) 3 37 [(w.heap.size, [.bool (decide (x.num < 0)), .slice Ax1 (digs b32 x.num.natAbs).length cx1, .slice Ax2 (digs b32 x.den).length cx2], 37)] w2 := ⟨B0, by omega, by intro q hq; simp at hq; subst hq; exact ⟨by simp, p1⟩, _, rfl, p2, notInt3⟩
  clear e1 e2 o1 b1 s1 p1 o2 b2 s2 p2
  clear B0
  have tk0 : True := trivial
  have hz := hz.drew
  go_region_held3 (fun w' => HeldN w (w.heap.size + 1) 3 37 [(w.heap.size, [.bool (decide (x.num < 0)), .slice Ax1 (digs b32 x.num.natAbs).length cx1, .slice Ax2 (digs b32 x.den).length cx2], 37)] w' ∧ w'.cell? ⟨w.heap.size, 0, none⟩ = some (.bool (decide (x.num < 0))) ∧ w'.cell? ⟨w.heap.size, 1, none⟩ = some (.slice Ax1 (digs b32 x.num.natAbs).length cx1) ∧ w'.cell? ⟨w.heap.size, 2, none⟩ = some (.slice Ax2 (digs b32 x.den).length cx2) ∧ w'.cell? ⟨w.heap.size + 1, 0, none⟩ = some (cv w' ⟨w.heap.size + 1, 0, none⟩) ∧ w'.cell? ⟨w.heap.size + 1, 1, none⟩ = some (cv w' ⟨w.heap.size + 1, 1, none⟩) ∧ w'.cell? ⟨w.heap.size + 1, 2, none⟩ = some (cv w' ⟨w.heap.size + 1, 2, none⟩) ∧ w'.frozen? ⟨w.heap.size + 1, 0, none⟩ = false ∧ w'.frozen? ⟨w.heap.size + 1, 1, none⟩ = false ∧ w'.frozen? ⟨w.heap.size + 1, 2, none⟩ = false)
    (first | exact hS _ hz | exact hS _ (HeldN.sets3 hz))
    (first
      | (have _t := tk0; go_at_call 138; (with_reducible refine Calls.mono (HC.out _) ?_); rintro e wz ⟨rfl, hb⟩; subst hb; clear tk0; have tk1 : True := trivial)
      | (have _t := tk1; go_at_call 137; (with_reducible refine Calls.mono (ntwo_pos _ K (by omega)) ?_); rintro e wz ⟨vt, rfl, ht, hb⟩; have hz := HeldN.call (And.intro hz trivial) hb; clear tk1; have tk2 : True := trivial)
      | (have _t := tk2; go_at_call 82; (with_reducible refine Calls.mono (nmul_num _ _ _ x (pw K) (hx0.below hz.b) ht HB.out HP.out (by omega)) ?_); rintro e wz ⟨vm, rfl, hm, hb⟩; have hz := HeldN.call (And.intro hz trivial) hb; clear tk2; have tk3 : True := trivial)
      | (have _t := tk3; go_at_call 136; (with_reducible refine Calls.mono (nfloor_num _ _ (x * pw K) hm HM.out (by omega)) ?_); rintro e wz ⟨vf, rfl, hf, hb⟩; have hz := HeldN.call (And.intro hz trivial) hb; clear tk3; have tk4 : True := trivial)
      | (have _t := tk4; go_at_call 138; (with_reducible refine Calls.mono (HC.out _) ?_); rintro e wz ⟨rfl, hb⟩; subst hb; clear tk4; have tk5 : True := trivial)
      | (have _t := tk5; go_at_call 137; (with_reducible refine Calls.mono (ntwo_bits _ K (by omega)) ?_); rintro e wz ⟨vi, rfl, hi, hb⟩; have hf := hf.below hb; have hz := HeldN.call (And.intro hz trivial) hb; clear tk5; have tk6 : True := trivial)
      | (have _t := tk6; go_at_call 82; (with_reducible refine Calls.mono (nmul_num _ _ _ _ _ hf hi HF.out HI.out (by omega)) ?_); rintro e wz ⟨vr, rfl, hr, hb⟩; have hz := HeldN.call (And.intro hz trivial) hb; rw [HQ.out] at hr; obtain ⟨vr1, vr2, rfl, hra, hrb⟩ := id hr; obtain ⟨Ar1, cr1, rfl, _⟩ := id hra; obtain ⟨Ar2, cr2, rfl, _⟩ := id hrb; clear tk6; have tk7 : True := trivial))
  all_goals (
    go_wp2
    obtain ⟨wf, HW, ho, hB, hN⟩ := hz.fin [.bool (decide (q.num < 0)), .slice Ar1 (digs b32 q.num.natAbs).length cr1, .slice Ar2 (digs b32 q.den).length cr2] rfl notInt3
    simp only [setAll, Nat.reduceAdd] at HW
    (try rw [HW])
    (try simp only [Exit.inBlock, Exit.then])
    have f0 := ho.cell (i := 0) rfl
    have f1 := ho.cell (i := 1) rfl
    have f2 := ho.cell (i := 2) rfl
    refine bodyPost_ret (by simp [results, Tryz.results90, go_sem, f0, f1, f2]; try rfl) rfl ?_
    exact ⟨_, rfl, hr.into hN, hB⟩)
set_option maxRecDepth 100000 in
set_option maxHeartbeats 1000000 in
theorem nup_num (w : World) (vx : Value) (x : Rat) (k : Int) (hx : IsRef w vx x) {j : Nat} (hj : BdR j x) (hjk : j ≤ 100000) : Calls Tryz.prog 91 #[vx, .int .i64 k] w (RetRef w (-(downR (-x) k))) := by
  obtain ⟨vx1, vx2, rfl, hxa, hxb⟩ := id hx
  obtain ⟨Ax1, cx1, rfl, _⟩ := id hxa
  obtain ⟨Ax2, cx2, rfl, _⟩ := id hxb
  have hx0 := hx
  have HB := bx hj
  clear hx hxa hxb hj
  go_enter Tryz.func91, Tryz.ntmps91
  go_wp2_with fail
  obtain ⟨w1, e1, oX, b1, s1⟩ := layA w [.bool (decide (x.num < 0)), .slice Ax1 (digs b32 x.num.natAbs).length cx1, .slice Ax2 (digs b32 x.den).length cx2] 37
  rw [e1]
  clear e1
  replace hx0 := hx0.below b1
  have B := b1
  clear b1
  obtain ⟨w2, e2, oR, b2, s2⟩ := layA w1 [.bool false, .slice none 0 0, .slice none 0 0] 37
  rw [e2]
  rw [s1] at oR
  clear e2
  replace hx0 := hx0.below b2
  replace oX := oX.gone b2
  replace B := B.trans (b2.mono B.size)
  clear b2
  refine Calls.mono (nneg_num _ _ x hx0) ?_
  rintro e w3 ⟨vn, rfl, hn, b3⟩
  replace hx0 := hx0.below b3
  replace oX := oX.gone b3
  replace oR := oR.gone b3
  replace B := B.trans (b3.mono B.size)
  clear b3
  clear hx0
  go_wp2_with fail
  refine Calls.mono (ndown_num _ _ (-x) k hn HB.out.neg hjk) ?_
  rintro e w4 ⟨vd, rfl, hd, b4⟩
  replace oX := oX.gone b4
  replace oR := oR.gone b4
  replace hn := hn.below b4
  replace B := B.trans (b4.mono B.size)
  clear b4
  clear hn
  go_wp2_with fail
  refine Calls.mono (nneg_num _ _ (downR (-x) k) hd) ?_
  rintro e w5 ⟨vr, rfl, hr, b5⟩
  replace oX := oX.gone b5
  replace oR := oR.gone b5
  replace hd := hd.below b5
  replace B := B.trans (b5.mono B.size)
  clear b5
  clear hd
  generalize -(downR (-x) k) = q at *
  obtain ⟨vr1, vr2, rfl, hra, hrb⟩ := id hr
  obtain ⟨Ar1, cr1, rfl, _⟩ := id hra
  obtain ⟨Ar2, cr2, rfl, _⟩ := id hrb
  have k1 := oR.cell (i := 0) rfl
  have k2 := oR.fz 0
  have k3 := oR.cell (i := 1) rfl
  have k4 := oR.fz 1
  have k5 := oR.cell (i := 2) rfl
  have k6 := oR.fz 2
  go_wp2
  obtain ⟨wf, HW, ho, _, hN, hBf, _⟩ := oR.put notInt_z3 [.bool (decide (q.num < 0)), .slice Ar1 (digs b32 q.num.natAbs).length cr1, .slice Ar2 (digs b32 q.den).length cr2] rfl notInt3
  simp only [setAll, Nat.reduceAdd] at HW
  (try rw [HW])
  (try simp only [Exit.inBlock, Exit.then])
  have f0 := ho.cell (i := 0) rfl
  have f1 := ho.cell (i := 1) rfl
  have f2 := ho.cell (i := 2) rfl
  refine bodyPost_ret (by simp [results, Tryz.results91, go_sem, f0, f1, f2]; try rfl) rfl ?_
  have HB := hBf _ (by omega) B
  exact ⟨_, rfl, hr.into hN, HB⟩
end Wx
