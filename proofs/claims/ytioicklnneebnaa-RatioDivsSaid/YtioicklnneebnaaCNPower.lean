import Derived.Test.YtioicklnneebnaaProg
import Derived.Handy
import Derived.Test.YtioicklnneebnaaPlain1
import Derived.Test.YtioicklnneebnaaMem
import Derived.Test.YtioicklnneebnaaJDivs3
import Derived.Test.YtioicklnneebnaaCRat1
import Derived.Test.YtioicklnneebnaaCRat2
import Derived.Test.YtioicklnneebnaaJDivs17
import Derived.Test.YtioicklnneebnaaJDivs21
import Derived.Test.YtioicklnneebnaaJDivs23
import Derived.Test.YtioicklnneebnaaJDivs46
import Derived.Test.YtioicklnneebnaaJDivs33
import Derived.Test.YtioicklnneebnaaJDivs40
import Derived.Test.YtioicklnneebnaaCNRat2
import Derived.Test.YtioicklnneebnaaCNRat3
namespace Wx
open Go Go.RowKit Go.Proofs

set_option maxRecDepth 100000 in
set_option maxHeartbeats 1000000 in
theorem npower_bad (w : World) (v : Value) (x : Rat) (n : Int) (hx : IsRef w v x) (hn : n < 0 ∨ 64 < n) : Calls Try.prog 16 #[v, .int .i64 n] w (RetFE w 0 1) := by
  obtain ⟨vx1, vx2, rfl, hxa, hxb⟩ := id hx
  obtain ⟨Ax1, cx1, rfl, _⟩ := id hxa
  obtain ⟨Ax2, cx2, rfl, _⟩ := id hxb
  clear hxa hxb
  have hi : ∀ w, Calls Try.prog 37 #[.int .i64 0] w (RetRef w 0) := fun w => nint_num w 0 (by omega) (by omega)
  have HI := bx hi
  clear hi hx
  generalize (0 : Rat) = q at *
  rcases hn with h | h
  · skip
    go_enter Try.func16, Try.ntmps16
    go_wp2_with fail
    obtain ⟨w1, e1, oP, b1, s1⟩ := layA w [.bool (decide (x.num < 0)), .slice Ax1 (digs b32 x.num.natAbs).length cx1, .slice Ax2 (digs b32 x.den).length cx2] 32
    rw [e1]
    clear e1
    have B := b1
    clear b1
    obtain ⟨w2, e2, oR, b2, s2⟩ := layA w1 [.bool false, .slice none 0 0, .slice none 0 0] 32
    rw [e2]
    rw [s1] at oR
    clear e2
    replace oP := oP.gone b2
    replace B := B.trans (b2.mono B.size)
    clear b2
    refine Calls.mono (HI.out _) ?_
    rintro e w3 ⟨vr, rfl, hr, b3⟩
    replace oP := oP.gone b3
    replace oR := oR.gone b3
    replace B := B.trans (b3.mono B.size)
    clear b3
    obtain ⟨vr1, vr2, rfl, hra, hrb⟩ := id hr
    obtain ⟨Ar1, cr1, rfl, _⟩ := id hra
    obtain ⟨Ar2, cr2, rfl, _⟩ := id hrb
    have k1 := oR.cell (i := 0) rfl
    have k2 := oR.fz 0
    have k3 := oR.cell (i := 1) rfl
    have k4 := oR.fz 1
    have k5 := oR.cell (i := 2) rfl
    have k6 := oR.fz 2
    go_wp2
    obtain ⟨wf, HW, ho, _, hN, hBf, _⟩ := oR.put notInt_z3 [.bool (decide (q.num < 0)), .slice Ar1 (digs b32 q.num.natAbs).length cr1, .slice Ar2 (digs b32 q.den).length cr2] rfl notInt3
    simp only [setAll, Nat.reduceAdd] at HW
    (try rw [HW])
    (try simp only [Exit.inBlock, Exit.then])
    have f0 := ho.cell (i := 0) rfl
    have f1 := ho.cell (i := 1) rfl
    have f2 := ho.cell (i := 2) rfl
    refine bodyPost_ret (by simp [results, Try.results16, go_sem, f0, f1, f2]; try rfl) rfl ?_
    have HB := hBf _ (by omega) B
    exact ⟨_, rfl, hr.into hN, HB⟩
  · have h0 : ¬ n < 0 := by omega
    go_enter Try.func16, Try.ntmps16
    go_wp2_with fail
    obtain ⟨w1, e1, oP, b1, s1⟩ := layA w [.bool (decide (x.num < 0)), .slice Ax1 (digs b32 x.num.natAbs).length cx1, .slice Ax2 (digs b32 x.den).length cx2] 32
    rw [e1]
    clear e1
    have B := b1
    clear b1
    obtain ⟨w2, e2, oR, b2, s2⟩ := layA w1 [.bool false, .slice none 0 0, .slice none 0 0] 32
    rw [e2]
    rw [s1] at oR
    clear e2
    replace oP := oP.gone b2
    replace B := B.trans (b2.mono B.size)
    clear b2
    refine Calls.mono (HI.out _) ?_
    rintro e w3 ⟨vr, rfl, hr, b3⟩
    replace oP := oP.gone b3
    replace oR := oR.gone b3
    replace B := B.trans (b3.mono B.size)
    clear b3
    obtain ⟨vr1, vr2, rfl, hra, hrb⟩ := id hr
    obtain ⟨Ar1, cr1, rfl, _⟩ := id hra
    obtain ⟨Ar2, cr2, rfl, _⟩ := id hrb
    have k1 := oR.cell (i := 0) rfl
    have k2 := oR.fz 0
    have k3 := oR.cell (i := 1) rfl
    have k4 := oR.fz 1
    have k5 := oR.cell (i := 2) rfl
    have k6 := oR.fz 2
    go_wp2
    obtain ⟨wf, HW, ho, _, hN, hBf, _⟩ := oR.put notInt_z3 [.bool (decide (q.num < 0)), .slice Ar1 (digs b32 q.num.natAbs).length cr1, .slice Ar2 (digs b32 q.den).length cr2] rfl notInt3
    simp only [setAll, Nat.reduceAdd] at HW
    (try rw [HW])
    (try simp only [Exit.inBlock, Exit.then])
    have f0 := ho.cell (i := 0) rfl
    have f1 := ho.cell (i := 1) rfl
    have f2 := ho.cell (i := 2) rfl
    refine bodyPost_ret (by simp [results, Try.results16, go_sem, f0, f1, f2]; try rfl) rfl ?_
    have HB := hBf _ (by omega) B
    exact ⟨_, rfl, hr.into hN, HB⟩
set_option maxRecDepth 100000 in
set_option maxHeartbeats 2000000 in
theorem npower_num (w : World) (v : Value) (x : Rat) (n : Nat) (hx : IsRef w v x) (hn : n ≤ 64) {j : Nat} (hj : BdR j x) (hj1 : j ≤ 10000) : Calls Try.prog 16 #[v, .int .i64 (n : Int)] w (RetFE w (powR x n) 0) := by
  obtain ⟨vx1, vx2, rfl, hxa, hxb⟩ := id hx
  obtain ⟨Ax1, cx1, rfl, _⟩ := id hxa
  obtain ⟨Ax2, cx2, rfl, _⟩ := id hxb
  have HB := bx hj
  have hn0 : (0 : Int) ≤ (n : Int) := by omega
  have hn1 : (n : Int) ≤ 64 := by omega
  have hx0 := hx
  have HI : Bx (∀ w, Calls Try.prog 37 #[.int .i64 1] w (RetRef w 1)) := bx (fun w => nint_num w 1 (by omega) (by omega))
  clear hx hxa hxb hj
  go_enter Try.func16, Try.ntmps16
  go_wp2_with fail
  obtain ⟨w1, e1, oP, b1, s1⟩ := layA w [.bool (decide (x.num < 0)), .slice Ax1 (digs b32 x.num.natAbs).length cx1, .slice Ax2 (digs b32 x.den).length cx2] 32
  rw [e1]
  clear e1
  replace hx0 := hx0.below b1
  have B := b1
  clear b1
  obtain ⟨w2, e2, oR, b2, s2⟩ := layA w1 [.bool false, .slice none 0 0, .slice none 0 0] 32
  rw [e2]
  rw [s1] at oR
  clear e2
  replace hx0 := hx0.below b2
  replace oP := oP.gone b2
  replace B := B.trans (b2.mono B.size)
  clear b2
  refine Calls.mono (HI.out _) ?_
  rintro e w3 ⟨vo, rfl, ho, b3⟩
  replace hx0 := hx0.below b3
  replace oP := oP.gone b3
  replace oR := oR.gone b3
  replace B := B.trans (b3.mono B.size)
  clear b3
  have HQ : Bx ((1 : Rat) = powR x 0) := bx rfl
  generalize (1 : Rat) = q at *
  obtain ⟨vo1, vo2, rfl, hoa, hob⟩ := id ho
  obtain ⟨Ao1, co1, rfl, _⟩ := id hoa
  obtain ⟨Ao2, co2, rfl, _⟩ := id hob
  clear hoa hob
  have HLT := bx oR.lt
  obtain ⟨w4, e4, oO, b4, s4⟩ := layA w3 [.bool (decide (q.num < 0)), .slice Ao1 (digs b32 q.num.natAbs).length co1, .slice Ao2 (digs b32 q.den).length co2] 32
  replace hx0 := hx0.below b4
  replace oP := oP.gone b4
  replace oR := oR.gone b4
  replace ho := ho.below b4
  replace B := B.trans (b4.mono B.size)
  clear b4 s4
  go_wp2_with fail
  obtain ⟨g, hg⟩ : ∃ g, g = w3.heap.size := ⟨_, rfl⟩
  have hgw : w.heap.size ≤ g := by have := HLT.out; omega
  have hgP : g ≠ w.heap.size := by have := HLT.out; omega
  have hgR : g ≠ w.heap.size + 1 := by have := HLT.out; omega
  rw [← hg] at oO ⊢
  clear hg HI e4
  go_loopw [7] (fun s16 wr => ∃ (i : Nat) (r : Rat) (Az1 Az2 : Option Addr) (cz1 cz2 : Nat), i ≤ n ∧ s16 = .int .i64 (i : Int) ∧ Bx (r = powR x i) ∧ ObjA wr g [.bool (decide (r.num < 0)), .slice Az1 (digs b32 r.num.natAbs).length cz1, .slice Az2 (digs b32 r.den).length cz2] 32 ∧ IsRef wr (.agg #[.bool (decide (r.num < 0)), .slice Az1 (digs b32 r.num.natAbs).length cz1, .slice Az2 (digs b32 r.den).length cz2]) r ∧ ObjA wr w.heap.size [.bool (decide (x.num < 0)), .slice Ax1 (digs b32 x.num.natAbs).length cx1, .slice Ax2 (digs b32 x.den).length cx2] 32 ∧ ObjA wr (w.heap.size + 1) [.bool false, .slice none 0 0, .slice none 0 0] 32 ∧ IsRef wr (.agg #[.bool (decide (x.num < 0)), .slice Ax1 (digs b32 x.num.natAbs).length cx1, .slice Ax2 (digs b32 x.den).length cx2]) x ∧ Below w.heap.size w wr)
    (fun s16 _ => n - (intOf s16).toNat)
  case atStart => exact ⟨0, q, _, _, _, _, Nat.zero_le _, rfl, HQ, oO, ho, oP, oR, hx0, B⟩
  case round =>
    clear oO ho oP oR hx0 B HQ HLT
    obtain ⟨i, r, Az1, Az2, cz1, cz2, hi, rfl, HQ, oO, hr, oP, oR, hx0, B⟩ := hrel
    have k0 := oO.cell (i := 0) rfl
    have k1 := oO.cell (i := 1) rfl
    have k2 := oO.cell (i := 2) rfl
    by_cases hlt : i < n
    · have k3 := oP.cell (i := 0) rfl
      have k4 := oP.cell (i := 1) rfl
      have k5 := oP.cell (i := 2) rfl
      have HJ : Bx (BdR (j * i + 1) r) := bx (by rw [HQ.out]; exact bd_pow HB.out i)
      have hji : j * i + 1 + j ≤ 10000000 := by
        have h1 : j * i ≤ 10000 * 64 := Nat.mul_le_mul hj1 (by omega)
        omega
      go_wp2_with fail
      clear k0 k1 k2 k3 k4 k5
      refine Calls.mono (nmul_num _ _ _ r x hr hx0 HJ.out HB.out (by omega)) ?_
      rintro e w5 ⟨vs, rfl, hs, b5⟩
      have HQ2 : Bx (r * x = powR x (i + 1)) := bx (by rw [HQ.out]; rfl)
      generalize r * x = t at *
      replace oO := oO.gone b5
      replace oP := oP.gone b5
      replace oR := oR.gone b5
      replace hx0 := hx0.below b5
      replace B := B.trans (b5.mono B.size)
      clear b5 hr hji
      obtain ⟨vs1, vs2, rfl, hsa, hsb⟩ := id hs
      obtain ⟨As1, cs1, rfl, _⟩ := id hsa
      obtain ⟨As2, cs2, rfl, _⟩ := id hsb
      clear hsa hsb
      have k0 := oO.cell (i := 0) rfl
      have f0 := oO.fz 0
      have k1 := oO.cell (i := 1) rfl
      have f1 := oO.fz 1
      have k2 := oO.cell (i := 2) rfl
      have f2 := oO.fz 2
      go_wp2
      obtain ⟨wf, HW, ho, hf, hN, hBf, _⟩ := oO.put notInt3 [.bool (decide (t.num < 0)), .slice As1 (digs b32 t.num.natAbs).length cs1, .slice As2 (digs b32 t.den).length cs2] rfl notInt3
      simp only [setAll, Nat.reduceAdd] at HW
      rw [HW]
      go_roundw
      case rel => exact ⟨i + 1, t, _, _, _, _, by omega, by go_num, HQ2, ho, hs.into hN, hf _ _ _ (Ne.symm hgP) oP, hf _ _ _ (Ne.symm hgR) oR, hx0.into hN, hBf _ (by omega) B⟩
      case measure => (simp [intOf]; try omega)
    · obtain rfl : i = n := by omega
      have k3 := oR.cell (i := 0) rfl
      have f0 := oR.fz 0
      have k4 := oR.cell (i := 1) rfl
      have f1 := oR.fz 1
      have k5 := oR.cell (i := 2) rfl
      have f2 := oR.fz 2
      go_wp2
      obtain ⟨wf, HW, ho, hf, hN, hBf, _⟩ := oR.put notInt_z3 [.bool (decide (r.num < 0)), .slice Az1 (digs b32 r.num.natAbs).length cz1, .slice Az2 (digs b32 r.den).length cz2] rfl notInt3
      simp only [setAll, Nat.reduceAdd] at HW
      (try rw [HW])
      (try simp only [Exit.inBlock, Exit.then])
      have f0 := ho.cell (i := 0) rfl
      have f1 := ho.cell (i := 1) rfl
      have f2 := ho.cell (i := 2) rfl
      refine bodyPost_ret (by simp [results, Try.results16, go_sem, f0, f1, f2]; try rfl) rfl ?_
      rw [← HQ.out]
      exact ⟨_, rfl, hr.into hN, hBf _ (by omega) B⟩
end Wx
