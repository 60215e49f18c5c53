import Derived.Test.YtioicklnneebnaaProg
import Derived.Handy
import Derived.Laws.IdiomStrings
import Derived.Deep.RegionHeld3
import Derived.Test.YtioicklnneebnaaPlain1
import Derived.Test.YtioicklnneebnaaMem
import Derived.Test.YtioicklnneebnaaJDivs3
import Derived.Test.YtioicklnneebnaaCRat1
import Derived.Test.YtioicklnneebnaaCRat2
import Derived.Test.YtioicklnneebnaaJDivs21
import Derived.Test.YtioicklnneebnaaJDivs23
import Derived.Test.YtioicklnneebnaaJDivs33
import Derived.Test.YtioicklnneebnaaJDivs40
import Derived.Test.YtioicklnneebnaaCNText
import Derived.Test.YtioicklnneebnaaJDivs26
import Derived.Test.YtioicklnneebnaaCText
import Derived.Test.YtioicklnneebnaaCRText
import Derived.Test.YtioicklnneebnaaJDivs17
import Derived.Test.YtioicklnneebnaaCRat3
import Derived.Test.YtioicklnneebnaaJDivs19
namespace Wx
open Go Go.RowKit Go.Proofs

set_option maxRecDepth 100000 in
set_option maxHeartbeats 1000000 in
/-- The program's fraction is the reference's one. -/
theorem is_yes (w : World) (vx vy : Value) (x : Rat) (hx : IsRat w vx x) (hy : IsRef w vy x) {j : Nat} (hj : BdR j x) (hj1 : j ≤ 100000000) : Calls Try.prog 9 #[vx, vy] w (RetIs w (.bool true)) := by
  obtain ⟨vx1, vx2, rfl, hxa, hxb⟩ := id hx
  obtain ⟨Ax1, cx1, rfl, _⟩ := id hxa
  obtain ⟨Ax2, cx2, rfl, _⟩ := id hxb
  obtain ⟨vy1, vy2, rfl, hya, hyb⟩ := id hy
  obtain ⟨Ay1, cy1, rfl, _⟩ := id hya
  obtain ⟨Ay2, cy2, rfl, _⟩ := id hyb
  have HB := bx hj
  have hx0 := hx
  have hy0 := hy

  clear hj hx hy
  go_enter Try.func9, Try.ntmps9
  go_wp2_with fail
  obtain ⟨w1, e1, o1, b1, s1⟩ := layA w [.bool (decide (x.num < 0)), .slice Ax1 (digs b64 x.num.natAbs).length cx1, .slice Ax2 (digs b64 (denOf x.den)).length cx2] 26
  obtain ⟨w2, e2, o2, b2, s2⟩ := layA w1 [.bool (decide (x.num < 0)), .slice Ay1 (digs b32 x.num.natAbs).length cy1, .slice Ay2 (digs b32 x.den).length cy2] 32
  rw [e1, e2]
  rw [s1] at o2
  have p1 := (o1.gone b2)
  have p2 := o2
  have B0 := (b1.trans (b2.mono b1.size))
  have hS : ∀ w', HeldQ w [(w.heap.size, [.bool (decide (x.num < 0)), .slice Ax1 (digs b64 x.num.natAbs).length cx1, .slice Ax2 (digs b64 (denOf x.den)).length cx2], 26), (w.heap.size + 1, [.bool (decide (x.num < 0)), .slice Ay1 (digs b32 x.num.natAbs).length cy1, .slice Ay2 (digs b32 x.den).length cy2], 32)] w' → HeldQ w [(w.heap.size, [.bool (decide (x.num < 0)), .slice Ax1 (digs b64 x.num.natAbs).length cx1, .slice Ax2 (digs b64 (denOf x.den)).length cx2], 26), (w.heap.size + 1, [.bool (decide (x.num < 0)), .slice Ay1 (digs b32 x.num.natAbs).length cy1, .slice Ay2 (digs b32 x.den).length cy2], 32)] w' ∧ w'.cell? ⟨w.heap.size, 0, none⟩ = some (.bool (decide (x.num < 0))) ∧ w'.cell? ⟨w.heap.size, 1, none⟩ = some (.slice Ax1 (digs b64 x.num.natAbs).length cx1) ∧ w'.cell? ⟨w.heap.size, 2, none⟩ = some (.slice Ax2 (digs b64 (denOf x.den)).length cx2) ∧ w'.cell? ⟨w.heap.size + 1, 0, none⟩ = some (.bool (decide (x.num < 0))) ∧ w'.cell? ⟨w.heap.size + 1, 1, none⟩ = some (.slice Ay1 (digs b32 x.num.natAbs).length cy1) ∧ w'.cell? ⟨w.heap.size + 1, 2, none⟩ = some (.slice Ay2 (digs b32 x.den).length cy2) := fun w' hh => by
    have r1 := hh.at_ (p := (w.heap.size, [.bool (decide (x.num < 0)), .slice Ax1 (digs b64 x.num.natAbs).length cx1, .slice Ax2 (digs b64 (denOf x.den)).length cx2], 26)) (by simp)
    have r2 := hh.at_ (p := (w.heap.size + 1, [.bool (decide (x.num < 0)), .slice Ay1 (digs b32 x.num.natAbs).length cy1, .slice Ay2 (digs b32 x.den).length cy2], 32)) (by simp)
    exact ⟨hh, r1.cell (i := 0) rfl, r1.cell (i := 1) rfl, r1.cell (i := 2) rfl, r2.cell (i := 0) rfl, r2.cell (i := 1) rfl, r2.cell (i := 2) rfl⟩
  have hz : HeldQ w [(w.heap.size, [.bool (decide (x.num < 0)), .slice Ax1 (digs b64 x.num.natAbs).length cx1, .slice Ax2 (digs b64 (denOf x.den)).length cx2], 26), (w.heap.size + 1, [.bool (decide (x.num < 0)), .slice Ay1 (digs b32 x.num.natAbs).length cy1, .slice Ay2 (digs b32 x.den).length cy2], 32)] w2 := ⟨B0, by intro q hq; simp at hq; rcases hq with rfl | rfl; exact p1; exact p2⟩
  clear e1 e2 o1 b1 s1 p1 o2 b2 s2 p2
  clear B0
  have hz := hz.drew
  go_region_held3 (fun w' => HeldQ w [(w.heap.size, [.bool (decide (x.num < 0)), .slice Ax1 (digs b64 x.num.natAbs).length cx1, .slice Ax2 (digs b64 (denOf x.den)).length cx2], 26), (w.heap.size + 1, [.bool (decide (x.num < 0)), .slice Ay1 (digs b32 x.num.natAbs).length cy1, .slice Ay2 (digs b32 x.den).length cy2], 32)] w' ∧ w'.cell? ⟨w.heap.size, 0, none⟩ = some (.bool (decide (x.num < 0))) ∧ w'.cell? ⟨w.heap.size, 1, none⟩ = some (.slice Ax1 (digs b64 x.num.natAbs).length cx1) ∧ w'.cell? ⟨w.heap.size, 2, none⟩ = some (.slice Ax2 (digs b64 (denOf x.den)).length cx2) ∧ w'.cell? ⟨w.heap.size + 1, 0, none⟩ = some (.bool (decide (x.num < 0))) ∧ w'.cell? ⟨w.heap.size + 1, 1, none⟩ = some (.slice Ay1 (digs b32 x.num.natAbs).length cy1) ∧ w'.cell? ⟨w.heap.size + 1, 2, none⟩ = some (.slice Ay2 (digs b32 x.den).length cy2))
    (exact hS _ hz)
    (first
      | (go_at_call 10; (with_reducible refine Calls.mono (rtext_num _ _ x (hx0.below hz.b) HB.out hj1) ?_); rintro e wz ⟨rfl, hb⟩; have hz := HeldQ.call (And.intro hz trivial) hb)
      | (go_at_call 42; (with_reducible refine Calls.mono (ntext_num _ _ x (hy0.below hz.b) HB.out hj1) ?_); rintro e wz ⟨rfl, hb⟩; have hz := HeldQ.call (And.intro hz trivial) hb))
  all_goals (
    go_wp2
    go_ret
    exact ⟨rfl, hz.b⟩)
end Wx

namespace Wx
def powR (x : Rat) : Nat → Rat
  | 0 => 1
  | n + 1 => powR x n * x
theorem bd_pow {j : Nat} {x : Rat} (h : BdR j x) : ∀ n, BdR (j * n + 1) (powR x n)
  | 0 => ⟨by show Bd _ 1; unfold Bd; simp, by show Bd _ 1; unfold Bd; simp⟩
  | n + 1 => ((bd_pow h n).mul h).mono (by rw [Nat.mul_add]; omega)
end Wx

namespace Wx
open Go Go.RowKit Go.Proofs

set_option maxRecDepth 100000 in
set_option maxHeartbeats 1000000 in
theorem power_bad (w : World) (v : Value) (x : Rat) (n : Int) (hx : IsRat w v x) (hn : n < 0 ∨ 64 < n) : Calls Try.prog 15 #[v, .int .i64 n] w (RetRE w 0 1) := by
  obtain ⟨vx1, vx2, rfl, hxa, hxb⟩ := id hx
  obtain ⟨Ax1, cx1, rfl, _⟩ := id hxa
  obtain ⟨Ax2, cx2, rfl, _⟩ := id hxb
  clear hxa hxb
  rcases hn with h | h
  · go_enter Try.func15, Try.ntmps15
    go_wp2
    go_returns
    exact ⟨_, rfl, isRat_zero _, ((Below.refl _ _).alloc (Nat.le_refl _) _).alloc (by simp) _⟩
  · have h0 : ¬ n < 0 := by omega
    go_enter Try.func15, Try.ntmps15
    go_wp2
    go_returns
    exact ⟨_, rfl, isRat_zero _, ((Below.refl _ _).alloc (Nat.le_refl _) _).alloc (by simp) _⟩
set_option maxRecDepth 100000 in
set_option maxHeartbeats 2000000 in
theorem power_num (w : World) (v : Value) (x : Rat) (n : Nat) (hx : IsRat w v x) (hn : n ≤ 64) {j : Nat} (hj : BdR j x) (hj1 : j ≤ 10000) : Calls Try.prog 15 #[v, .int .i64 (n : Int)] w (RetRE w (powR x n) 0) := by
  obtain ⟨vx1, vx2, rfl, hxa, hxb⟩ := id hx
  obtain ⟨Ax1, cx1, rfl, _⟩ := id hxa
  obtain ⟨Ax2, cx2, rfl, _⟩ := id hxb
  have HB := bx hj
  have hn0 : (0 : Int) ≤ (n : Int) := by omega
  have hn1 : (n : Int) ≤ 64 := by omega
  have hx0 := hx
  have HI : Bx (∀ w, Calls Try.prog 21 #[.int .i64 1] w (RetRat w 1)) := bx (fun w => int_num w 1 (by omega) (by omega))
  clear hx hxa hxb hj
  go_enter Try.func15, Try.ntmps15
  go_wp2_with fail
  obtain ⟨w1, e1, oP, b1, s1⟩ := layA w [.bool (decide (x.num < 0)), .slice Ax1 (digs b64 x.num.natAbs).length cx1, .slice Ax2 (digs b64 (denOf x.den)).length cx2] 26
  rw [e1]
  clear e1
  replace hx0 := hx0.below b1
  have B := b1
  clear b1
  obtain ⟨w2, e2, oR, b2, s2⟩ := layA w1 [.bool false, .slice none 0 0, .slice none 0 0] 26
  rw [e2]
  rw [s1] at oR
  clear e2
  replace hx0 := hx0.below b2
  replace oP := oP.gone b2
  replace B := B.trans (b2.mono B.size)
  clear b2
  refine Calls.mono (HI.out _) ?_
  rintro e w3 ⟨vo, rfl, ho, b3⟩
  replace hx0 := hx0.below b3
  replace oP := oP.gone b3
  replace oR := oR.gone b3
  replace B := B.trans (b3.mono B.size)
  clear b3
  have HQ : Bx ((1 : Rat) = powR x 0) := bx rfl
  generalize (1 : Rat) = q at *
  obtain ⟨vo1, vo2, rfl, hoa, hob⟩ := id ho
  obtain ⟨Ao1, co1, rfl, _⟩ := id hoa
  obtain ⟨Ao2, co2, rfl, _⟩ := id hob
  clear hoa hob
  have HLT := bx oR.lt
  obtain ⟨w4, e4, oO, b4, s4⟩ := layA w3 [.bool (decide (q.num < 0)), .slice Ao1 (digs b64 q.num.natAbs).length co1, .slice Ao2 (digs b64 (denOf q.den)).length co2] 26
  replace hx0 := hx0.below b4
  replace oP := oP.gone b4
  replace oR := oR.gone b4
  replace ho := ho.below b4
  replace B := B.trans (b4.mono B.size)
  clear b4 s4
  go_wp2_with fail
  obtain ⟨g, hg⟩ : ∃ g, g = w3.heap.size := ⟨_, rfl⟩
  have hgw : w.heap.size ≤ g := by have := HLT.out; omega
  have hgP : g ≠ w.heap.size := by have := HLT.out; omega
  have hgR : g ≠ w.heap.size + 1 := by have := HLT.out; omega
  rw [← hg] at oO ⊢
  clear hg HI e4
  go_loopw [16] (fun s16 wr => ∃ (i : Nat) (r : Rat) (Az1 Az2 : Option Addr) (cz1 cz2 : Nat), i ≤ n ∧ s16 = .int .i64 (i : Int) ∧ Bx (r = powR x i) ∧ ObjA wr g [.bool (decide (r.num < 0)), .slice Az1 (digs b64 r.num.natAbs).length cz1, .slice Az2 (digs b64 (denOf r.den)).length cz2] 26 ∧ IsRat wr (.agg #[.bool (decide (r.num < 0)), .slice Az1 (digs b64 r.num.natAbs).length cz1, .slice Az2 (digs b64 (denOf r.den)).length cz2]) r ∧ ObjA wr w.heap.size [.bool (decide (x.num < 0)), .slice Ax1 (digs b64 x.num.natAbs).length cx1, .slice Ax2 (digs b64 (denOf x.den)).length cx2] 26 ∧ ObjA wr (w.heap.size + 1) [.bool false, .slice none 0 0, .slice none 0 0] 26 ∧ IsRat wr (.agg #[.bool (decide (x.num < 0)), .slice Ax1 (digs b64 x.num.natAbs).length cx1, .slice Ax2 (digs b64 (denOf x.den)).length cx2]) x ∧ Below w.heap.size w wr)
    (fun s16 _ => n - (intOf s16).toNat)
  case atStart => exact ⟨0, q, _, _, _, _, Nat.zero_le _, rfl, HQ, oO, ho, oP, oR, hx0, B⟩
  case round =>
    clear oO ho oP oR hx0 B HQ HLT
    obtain ⟨i, r, Az1, Az2, cz1, cz2, hi, rfl, HQ, oO, hr, oP, oR, hx0, B⟩ := hrel
    have k0 := oO.cell (i := 0) rfl
    have k1 := oO.cell (i := 1) rfl
    have k2 := oO.cell (i := 2) rfl
    by_cases hlt : i < n
    · have k3 := oP.cell (i := 0) rfl
      have k4 := oP.cell (i := 1) rfl
      have k5 := oP.cell (i := 2) rfl
      have HJ : Bx (BdR (j * i + 1) r) := bx (by rw [HQ.out]; exact bd_pow HB.out i)
      have hji : j * i + 1 + j ≤ 10000000 := by
        have h1 : j * i ≤ 10000 * 64 := Nat.mul_le_mul hj1 (by omega)
        omega
      go_wp2_with fail
      clear k0 k1 k2 k3 k4 k5
      refine Calls.mono (mul_num _ _ _ r x hr hx0 HJ.out HB.out (by omega)) ?_
      rintro e w5 ⟨vs, rfl, hs, b5⟩
      have HQ2 : Bx (r * x = powR x (i + 1)) := bx (by rw [HQ.out]; rfl)
      generalize r * x = t at *
      replace oO := oO.gone b5
      replace oP := oP.gone b5
      replace oR := oR.gone b5
      replace hx0 := hx0.below b5
      replace B := B.trans (b5.mono B.size)
      clear b5 hr hji
      obtain ⟨vs1, vs2, rfl, hsa, hsb⟩ := id hs
      obtain ⟨As1, cs1, rfl, _⟩ := id hsa
      obtain ⟨As2, cs2, rfl, _⟩ := id hsb
      clear hsa hsb
      have k0 := oO.cell (i := 0) rfl
      have f0 := oO.fz 0
      have k1 := oO.cell (i := 1) rfl
      have f1 := oO.fz 1
      have k2 := oO.cell (i := 2) rfl
      have f2 := oO.fz 2
      go_wp2
      obtain ⟨wf, HW, ho, hf, hN, hBf, _⟩ := oO.put notInt3 [.bool (decide (t.num < 0)), .slice As1 (digs b64 t.num.natAbs).length cs1, .slice As2 (digs b64 (denOf t.den)).length cs2] rfl notInt3
      simp only [setAll, Nat.reduceAdd] at HW
      rw [HW]
      go_roundw
      case rel => exact ⟨i + 1, t, _, _, _, _, by omega, by go_num, HQ2, ho, hs.into hN, hf _ _ _ (Ne.symm hgP) oP, hf _ _ _ (Ne.symm hgR) oR, hx0.into hN, hBf _ (by omega) B⟩
      case measure => (simp [intOf]; try omega)
    · obtain rfl : i = n := by omega
      have k3 := oR.cell (i := 0) rfl
      have f0 := oR.fz 0
      have k4 := oR.cell (i := 1) rfl
      have f1 := oR.fz 1
      have k5 := oR.cell (i := 2) rfl
      have f2 := oR.fz 2
      go_wp2
      obtain ⟨wf, HW, ho, hf, hN, hBf, _⟩ := oR.put notInt_z3 [.bool (decide (r.num < 0)), .slice Az1 (digs b64 r.num.natAbs).length cz1, .slice Az2 (digs b64 (denOf r.den)).length cz2] rfl notInt3
      simp only [setAll, Nat.reduceAdd] at HW
      (try rw [HW])
      (try simp only [Exit.inBlock, Exit.then])
      have f0 := ho.cell (i := 0) rfl
      have f1 := ho.cell (i := 1) rfl
      have f2 := ho.cell (i := 2) rfl
      refine bodyPost_ret (by simp [results, Try.results15, go_sem, f0, f1, f2]; try rfl) rfl ?_
      rw [← HQ.out]
      exact ⟨_, rfl, hr.into hN, hBf _ (by omega) B⟩
end Wx
