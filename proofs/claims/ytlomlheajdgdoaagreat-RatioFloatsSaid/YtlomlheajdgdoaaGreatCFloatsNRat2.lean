import Derived.Test.YtlomlheajdgdoaaGreatProg
import Derived.Handy
import Derived.Deep.RegionHeld3
import Derived.Test.YtlomlheajdgdoaaGreatJFloats0
import Derived.Test.YtlomlheajdgdoaaGreatCFloatsMem
import Derived.Test.YtlomlheajdgdoaaGreatJFloats2
import Derived.Test.YtlomlheajdgdoaaGreatJFloats29
import Derived.Test.YtlomlheajdgdoaaGreatJFloats33
import Derived.Test.YtlomlheajdgdoaaGreatCFloatsRat1
import Derived.Test.YtlomlheajdgdoaaGreatJFloats12
import Derived.Test.YtlomlheajdgdoaaGreatJFloats22
import Derived.Test.YtlomlheajdgdoaaGreatJFloats28
namespace Wx
set_option maxRecDepth 100000
open Go Go.RowKit Go.Proofs

set_option maxHeartbeats 1000000 in
theorem nzero_num (w : World) (v : Value) (q : Rat) (h : IsRef w v q) : Calls Tryz.prog 88 #[v] w (RetIs w (.bool (decide (q = 0)))) := by
  obtain ⟨vn, vd, rfl, h1, h2⟩ := h
  obtain ⟨A1, c1, rfl, _⟩ := id h1
  obtain ⟨A2, c2, rfl, _⟩ := id h2
  have hz : (((digs b32 q.num.natAbs).length : Int) == 0) = decide (q = 0) := by
    by_cases hq : q = 0
    · rw [hq, decide_eq_true rfl]; rfl
    · rw [decide_eq_false hq, beq_eq_false_iff_ne]
      have := (digs_length_pos (n := q.num.natAbs) two_le_b32).2 (by have := mt (num_zero_iff q).1 hq; omega)
      omega
  generalize (digs b32 q.num.natAbs).length = L1 at *
  go_enter Tryz.func88, Tryz.ntmps88
  go_wp2
  go_ret
  exact ⟨rfl, Below.alloc (Below.refl _ _) (Nat.le_refl _) _⟩
set_option maxHeartbeats 1000000 in
theorem nneg_num (w : World) (v : Value) (q : Rat) (hx : IsRef w v q) : Calls Tryz.prog 74 #[v] w (RetRef w (-q)) := by
  obtain ⟨vx1, vx2, rfl, hxa, hxb⟩ := id hx
  obtain ⟨Ax1, cx1, rfl, _⟩ := id hxa
  obtain ⟨Ax2, cx2, rfl, _⟩ := id hxb
  have hf := neg_flag q
  have hn : (-q).num.natAbs = q.num.natAbs := by rw [Rat.neg_num, Int.natAbs_neg]
  have hd : (-q).den = q.den := rfl
  have hx0 := hx
  clear hx
  generalize decide (q.num < 0) = neg at *
  cases neg
  · simp only [Bool.not_false, Bool.true_and] at hf
    go_enter Tryz.func74, Tryz.ntmps74
    go_wp2_with fail
    obtain ⟨w1, e1, o1, b1, s1⟩ := layA w [.bool false, .slice Ax1 (digs b32 q.num.natAbs).length cx1, .slice Ax2 (digs b32 q.den).length cx2] 33
    obtain ⟨w2, e2, o2, b2, s2⟩ := layA w1 [.bool false, .slice none 0 0, .slice none 0 0] 33
    rw [e1, e2]
    rw [s1] at o2
    have p1 := (o1.gone b2)
    have p2 := o2
    have B0 := (b1.trans (b2.mono b1.size))
    have hS : ∀ w', HeldN w (w.heap.size + 1) 3 33 [(w.heap.size, [.bool false, .slice Ax1 (digs b32 q.num.natAbs).length cx1, .slice Ax2 (digs b32 q.den).length cx2], 33)] w' → HeldN w (w.heap.size + 1) 3 33 [(w.heap.size, [.bool false, .slice Ax1 (digs b32 q.num.natAbs).length cx1, .slice Ax2 (digs b32 q.den).length cx2], 33)] w' ∧ w'.cell? ⟨w.heap.size, 0, none⟩ = some (.bool false) ∧ w'.cell? ⟨w.heap.size, 1, none⟩ = some (.slice Ax1 (digs b32 q.num.natAbs).length cx1) ∧ w'.cell? ⟨w.heap.size, 2, none⟩ = some (.slice Ax2 (digs b32 q.den).length cx2) ∧ w'.cell? ⟨w.heap.size + 1, 0, none⟩ = some (cv w' ⟨w.heap.size + 1, 0, none⟩) ∧ w'.cell? ⟨w.heap.size + 1, 1, none⟩ = some (cv w' ⟨w.heap.size + 1, 1, none⟩) ∧ w'.cell? ⟨w.heap.size + 1, 2, none⟩ = some (cv w' ⟨w.heap.size + 1, 2, none⟩) ∧ w'.frozen? ⟨w.heap.size + 1, 0, none⟩ = false ∧ w'.frozen? ⟨w.heap.size + 1, 1, none⟩ = false ∧ w'.frozen? ⟨w.heap.size + 1, 2, none⟩ = false := fun w' hh => by
      have r1 := hh.par (p := (w.heap.size, [.bool false, .slice Ax1 (digs b32 q.num.natAbs).length cx1, .slice Ax2 (digs b32 q.den).length cx2], 33)) (by simp)
      exact ⟨hh, r1.cell (i := 0) rfl, r1.cell (i := 1) rfl, r1.cell (i := 2) rfl, hh.cellR (i := 0) (by omega), hh.cellR (i := 1) (by omega), hh.cellR (i := 2) (by omega), hh.fzR 0, hh.fzR 1, hh.fzR 2⟩
    have hz : HeldN w (w.heap.size + 1) 3 33 [(w.heap.size, [.bool false, .slice Ax1 (digs b32 q.num.natAbs).length cx1, .slice Ax2 (digs b32 q.den).length cx2], 33)] w2 := ⟨B0, by omega, by intro q hq; simp at hq; subst hq; exact ⟨by simp, p1⟩, _, rfl, p2, notInt3⟩
    clear e1 e2 o1 b1 s1 p1 o2 b2 s2 p2
    clear B0
    have hz := hz.drew
    go_region_held3 (fun w' => HeldN w (w.heap.size + 1) 3 33 [(w.heap.size, [.bool false, .slice Ax1 (digs b32 q.num.natAbs).length cx1, .slice Ax2 (digs b32 q.den).length cx2], 33)] w' ∧ w'.cell? ⟨w.heap.size, 0, none⟩ = some (.bool false) ∧ w'.cell? ⟨w.heap.size, 1, none⟩ = some (.slice Ax1 (digs b32 q.num.natAbs).length cx1) ∧ w'.cell? ⟨w.heap.size, 2, none⟩ = some (.slice Ax2 (digs b32 q.den).length cx2) ∧ w'.cell? ⟨w.heap.size + 1, 0, none⟩ = some (cv w' ⟨w.heap.size + 1, 0, none⟩) ∧ w'.cell? ⟨w.heap.size + 1, 1, none⟩ = some (cv w' ⟨w.heap.size + 1, 1, none⟩) ∧ w'.cell? ⟨w.heap.size + 1, 2, none⟩ = some (cv w' ⟨w.heap.size + 1, 2, none⟩) ∧ w'.frozen? ⟨w.heap.size + 1, 0, none⟩ = false ∧ w'.frozen? ⟨w.heap.size + 1, 1, none⟩ = false ∧ w'.frozen? ⟨w.heap.size + 1, 2, none⟩ = false)
      (first | exact hS _ hz | exact hS _ (HeldN.sets3 hz))
      (first
        | (go_at_call 88; have hc := nzero_num _ _ q (hx0.below hz.1); (with_reducible refine Calls.mono hc ?_); clear hc; rintro e wz ⟨rfl, hb⟩; have hz := HeldN.call (And.intro hz trivial) hb))
    all_goals (
      go_wp2
      obtain ⟨wf, HW, ho, hB, hN⟩ := hz.fin [.bool (!decide (q = 0)), .slice Ax1 (digs b32 q.num.natAbs).length cx1, .slice Ax2 (digs b32 q.den).length cx2] rfl notInt3
      simp only [setAll, Nat.reduceAdd] at HW
      (try rw [HW])
      (try simp only [Exit.inBlock, Exit.then])
      have f0 := ho.cell (i := 0) rfl
      have f1 := ho.cell (i := 1) rfl
      have f2 := ho.cell (i := 2) rfl
      refine bodyPost_ret (by simp [results, Tryz.results74, go_sem, f0, f1, f2]; try rfl) rfl ?_
      exact ⟨_, rfl, ⟨_, _, by rw [hf], by rw [hn]; exact hN _ _ _ _ (hxa.below hz.1), by rw [hd]; exact hN _ _ _ _ (hxb.below hz.1)⟩, hB⟩)
  · simp only [Bool.not_true, Bool.false_and] at hf
    clear hx0
    go_enter Tryz.func74, Tryz.ntmps74
    go_wp2_with fail
    obtain ⟨w1, e1, o1, b1, s1⟩ := layA w [.bool true, .slice Ax1 (digs b32 q.num.natAbs).length cx1, .slice Ax2 (digs b32 q.den).length cx2] 33
    obtain ⟨w2, e2, o2, b2, s2⟩ := layA w1 [.bool false, .slice none 0 0, .slice none 0 0] 33
    rw [e1, e2]
    rw [s1] at o2
    have p1 := (o1.gone b2)
    have p2 := o2
    have B0 := (b1.trans (b2.mono b1.size))
    have hS : ∀ w', HeldN w (w.heap.size + 1) 3 33 [(w.heap.size, [.bool true, .slice Ax1 (digs b32 q.num.natAbs).length cx1, .slice Ax2 (digs b32 q.den).length cx2], 33)] w' → HeldN w (w.heap.size + 1) 3 33 [(w.heap.size, [.bool true, .slice Ax1 (digs b32 q.num.natAbs).length cx1, .slice Ax2 (digs b32 q.den).length cx2], 33)] w' ∧ w'.cell? ⟨w.heap.size, 0, none⟩ = some (.bool true) ∧ w'.cell? ⟨w.heap.size, 1, none⟩ = some (.slice Ax1 (digs b32 q.num.natAbs).length cx1) ∧ w'.cell? ⟨w.heap.size, 2, none⟩ = some (.slice Ax2 (digs b32 q.den).length cx2) ∧ w'.cell? ⟨w.heap.size + 1, 0, none⟩ = some (cv w' ⟨w.heap.size + 1, 0, none⟩) ∧ w'.cell? ⟨w.heap.size + 1, 1, none⟩ = some (cv w' ⟨w.heap.size + 1, 1, none⟩) ∧ w'.cell? ⟨w.heap.size + 1, 2, none⟩ = some (cv w' ⟨w.heap.size + 1, 2, none⟩) ∧ w'.frozen? ⟨w.heap.size + 1, 0, none⟩ = false ∧ w'.frozen? ⟨w.heap.size + 1, 1, none⟩ = false ∧ w'.frozen? ⟨w.heap.size + 1, 2, none⟩ = false := fun w' hh => by
      have r1 := hh.par (p := (w.heap.size, [.bool true, .slice Ax1 (digs b32 q.num.natAbs).length cx1, .slice Ax2 (digs b32 q.den).length cx2], 33)) (by simp)
      exact ⟨hh, r1.cell (i := 0) rfl, r1.cell (i := 1) rfl, r1.cell (i := 2) rfl, hh.cellR (i := 0) (by omega), hh.cellR (i := 1) (by omega), hh.cellR (i := 2) (by omega), hh.fzR 0, hh.fzR 1, hh.fzR 2⟩
    have hz : HeldN w (w.heap.size + 1) 3 33 [(w.heap.size, [.bool true, .slice Ax1 (digs b32 q.num.natAbs).length cx1, .slice Ax2 (digs b32 q.den).length cx2], 33)] w2 := ⟨B0, by omega, by intro q hq; simp at hq; subst hq; exact ⟨by simp, p1⟩, _, rfl, p2, notInt3⟩
    clear e1 e2 o1 b1 s1 p1 o2 b2 s2 p2
    clear B0
    obtain ⟨_, k0, k1, k2, k3, k4, k5, k6, k7, k8⟩ := hS _ hz
    go_region
    all_goals (
      go_wp2
      obtain ⟨wf, HW, ho, hB, hN⟩ := hz.fin [.bool false, .slice Ax1 (digs b32 q.num.natAbs).length cx1, .slice Ax2 (digs b32 q.den).length cx2] rfl notInt3
      simp only [setAll, Nat.reduceAdd] at HW
      (try rw [HW])
      (try simp only [Exit.inBlock, Exit.then])
      have f0 := ho.cell (i := 0) rfl
      have f1 := ho.cell (i := 1) rfl
      have f2 := ho.cell (i := 2) rfl
      refine bodyPost_ret (by simp [results, Tryz.results74, go_sem, f0, f1, f2]; try rfl) rfl ?_
      have hR : RetRef w (-q) (.returned _) wf := ⟨_, rfl, ⟨_, _, by rw [hf], by rw [hn]; exact hN _ _ _ _ (hxa.below hz.1), by rw [hd]; exact hN _ _ _ _ (hxb.below hz.1)⟩, hB⟩
      first | exact hR | (obtain ⟨v, h1, h2, h3⟩ := hR; exact ⟨v, h1, h2.drew, h3.drew⟩))

theorem magnitude_num (w : World) (z : Int) (h1 : -9223372036854775808 ≤ z) (h2 : z ≤ 9223372036854775807) : Calls Tryz.prog 58 #[.int .i64 z] w (RetNum .u32 b32 w z.natAbs) := by
  have HLT : Bx (z.natAbs < b64) := bx (by unfold b64; omega)
  by_cases hz : z < 0
  · have e1 : IntKind.u64.wrap (-IntKind.u64.wrap z) = ((z.natAbs : Nat) : Int) := by
      simp [IntKind.wrap, IntKind.bits, IntKind.signed]; omega
    have E1 := bx e1
    clear e1
    go_enter Tryz.func58, Tryz.ntmps58
    go_wp2_with fail
    rw [E1.out]
    refine (nat_num w _ HLT.out).mono ?_
    rintro e w3 ⟨vr, rfl, hr3, hb3⟩
    go_wp2
    go_ret
    exact ⟨_, rfl, hr3, hb3⟩
  · have e1 : z = ((z.natAbs : Nat) : Int) := by omega
    have E1 := bx e1
    clear e1
    go_enter Tryz.func58, Tryz.ntmps58
    go_wp2_with fail
    have hc := nat_num w _ HLT.out
    rw [← E1.out] at hc
    refine hc.mono ?_
    rintro e w3 ⟨vr, rfl, hr3, hb3⟩
    go_wp2
    go_ret
    exact ⟨_, rfl, hr3, hb3⟩

theorem int_redR (z : Int) : redR (decide (z < 0)) z.natAbs 1 = (z : Rat) := by
  unfold redR
  rw [sg_mk, Rat.mkRat_one]
set_option maxHeartbeats 1000000 in
theorem nint_num (w : World) (z : Int) (h1 : -9223372036854775808 ≤ z) (h2 : z ≤ 9223372036854775807) : Calls Tryz.prog 10 #[.int .i64 z] w (RetRef w (z : Rat)) := by
  have H := bx (And.intro h1 h2)
  have hB : Bx (Bd 64 z.natAbs) := bx (by unfold Bd; omega)
  generalize hq : (z : Rat) = q
  have HQ := bx hq
  clear h1 h2 hq
  go_enter Tryz.func10, Tryz.ntmps10
  go_wp2_with fail
  obtain ⟨w1, e1, oR, b1, s1⟩ := layA w [.bool false, .slice none 0 0, .slice none 0 0] 33
  rw [e1]
  clear e1
  have B := b1
  clear b1
  refine Calls.mono (magnitude_num _ z H.out.1 H.out.2) ?_
  rintro e w2 ⟨v1, rfl, h1, b2⟩
  replace oR := oR.gone b2
  replace B := B.trans (b2.mono B.size)
  clear b2
  go_wp2_with fail
  refine Calls.mono (nat_num _ 1 (by unfold b64; omega)) ?_
  rintro e w3 ⟨v2, rfl, h2, b3⟩
  replace oR := oR.gone b3
  replace h1 := h1.below b3
  replace B := B.trans (b3.mono B.size)
  clear b3
  go_wp2_with fail
  have hc := made_num _ (decide (z < 0)) _ _ z.natAbs 1 h1 h2 (by omega) hB.out (by unfold Bd; omega) (by omega)
  rw [int_redR, HQ.out] at hc
  clear h1 h2
  refine Calls.mono (hc) ?_
  rintro e w4 ⟨vr, rfl, hr, b4⟩
  replace oR := oR.gone b4
  replace B := B.trans (b4.mono B.size)
  clear b4
  clear hc
  obtain ⟨vr1, vr2, rfl, hra, hrb⟩ := id hr
  obtain ⟨Ar1, cr1, rfl, _⟩ := id hra
  obtain ⟨Ar2, cr2, rfl, _⟩ := id hrb
  have k1 := oR.cell (i := 0) rfl
  have k2 := oR.fz 0
  have k3 := oR.cell (i := 1) rfl
  have k4 := oR.fz 1
  have k5 := oR.cell (i := 2) rfl
  have k6 := oR.fz 2
  go_wp2
  obtain ⟨wf, HW, ho, _, hN, hBf, _⟩ := oR.put notInt_z3 [.bool (decide (q.num < 0)), .slice Ar1 (digs b32 q.num.natAbs).length cr1, .slice Ar2 (digs b32 q.den).length cr2] rfl notInt3
  simp only [setAll, Nat.reduceAdd] at HW
  (try rw [HW])
  (try simp only [Exit.inBlock, Exit.then])
  have f0 := ho.cell (i := 0) rfl
  have f1 := ho.cell (i := 1) rfl
  have f2 := ho.cell (i := 2) rfl
  refine bodyPost_ret (by simp [results, Tryz.results10, go_sem, f0, f1, f2]; try rfl) rfl ?_
  have HB := hBf _ (by omega) B
  exact ⟨_, rfl, hr.into hN, HB⟩

end Wx
