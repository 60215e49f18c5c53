import Derived.Test.YtioicklnneebnaaProg
import Derived.Handy
import Derived.Test.YtioicklnneebnaaPlain1
import Derived.Test.YtioicklnneebnaaMem
import Derived.Test.YtioicklnneebnaaJParses3
import Derived.Test.YtioicklnneebnaaCDivide
import Derived.Test.YtioicklnneebnaaCGcd
import Derived.Test.YtioicklnneebnaaCRat1
import Derived.Test.YtioicklnneebnaaCRat2
import Derived.Test.YtioicklnneebnaaJParses17
import Derived.Test.YtioicklnneebnaaCRat3
import Derived.Test.YtioicklnneebnaaJParses19
import Derived.Test.YtioicklnneebnaaCDown
import Derived.Test.YtioicklnneebnaaCHeld
import Derived.Test.YtioicklnneebnaaCLess
import Derived.Test.YtioicklnneebnaaJParses23
import Derived.Test.YtioicklnneebnaaCText
import Derived.Test.YtioicklnneebnaaCRText
import Derived.Test.YtioicklnneebnaaCParse
namespace Wx
open Go Go.RowKit Go.Proofs

theorem floor_num (w : World) (vx : Value) (x : Rat) (hx : IsRat w vx x) {j : Nat} (hj : BdR j x) (hjk : j ≤ 10000000) : Calls Try.prog 31 #[vx] w (RetRat w (downR x 0)) := by
  obtain ⟨vx1, vx2, rfl, hxa, hxb⟩ := id hx
  obtain ⟨Ax1, cx1, rfl, _⟩ := id hxa
  obtain ⟨Ax2, cx2, rfl, _⟩ := id hxb
  go_enter Try.func31, Try.ntmps31
  go_wp2_with fail
  obtain ⟨w1, e1, o1, b1, s1⟩ := lay3 w (.bool (decide (x.num < 0))) (.slice Ax1 (digs b64 x.num.natAbs).length cx1) (.slice Ax2 (digs b64 (denOf x.den)).length cx2) 26
  obtain ⟨w2, e2, o2, b2, s2⟩ := lay3 w1 (.bool false) (.slice none 0 0) (.slice none 0 0) 26
  rw [e1, e2]
  rw [s1] at o2
  have p1 := (o1.gone b2)
  have p2 := o2
  have B0 := (b1.trans (b2.mono b1.size))
  have hS : ∀ w', HeldR w (w.heap.size + 1) 26 [(w.heap.size, .bool (decide (x.num < 0)), .slice Ax1 (digs b64 x.num.natAbs).length cx1, .slice Ax2 (digs b64 (denOf x.den)).length cx2)] w' → HeldR w (w.heap.size + 1) 26 [(w.heap.size, .bool (decide (x.num < 0)), .slice Ax1 (digs b64 x.num.natAbs).length cx1, .slice Ax2 (digs b64 (denOf x.den)).length cx2)] w' ∧ w'.cell? ⟨w.heap.size, 0, none⟩ = some (.bool (decide (x.num < 0))) ∧ w'.cell? ⟨w.heap.size, 1, none⟩ = some (.slice Ax1 (digs b64 x.num.natAbs).length cx1) ∧ w'.cell? ⟨w.heap.size, 2, none⟩ = some (.slice Ax2 (digs b64 (denOf x.den)).length cx2) ∧ w'.cell? ⟨w.heap.size + 1, 0, none⟩ = some (cv w' ⟨w.heap.size + 1, 0, none⟩) ∧ w'.cell? ⟨w.heap.size + 1, 1, none⟩ = some (cv w' ⟨w.heap.size + 1, 1, none⟩) ∧ w'.cell? ⟨w.heap.size + 1, 2, none⟩ = some (cv w' ⟨w.heap.size + 1, 2, none⟩) ∧ w'.frozen? ⟨w.heap.size + 1, 0, none⟩ = false ∧ w'.frozen? ⟨w.heap.size + 1, 1, none⟩ = false ∧ w'.frozen? ⟨w.heap.size + 1, 2, none⟩ = false := fun w' hh => by
    obtain ⟨f0, f1, f2, f3, f4, f5⟩ := hh.cells
    have q1 := (hh.2.2.1 (w.heap.size, .bool (decide (x.num < 0)), .slice Ax1 (digs b64 x.num.natAbs).length cx1, .slice Ax2 (digs b64 (denOf x.den)).length cx2) (by simp)).2
    exact ⟨hh, q1.c0, q1.c1, q1.c2, f0, f1, f2, f3, f4, f5⟩
  have H0 : HeldR w (w.heap.size + 1) 26 [(w.heap.size, .bool (decide (x.num < 0)), .slice Ax1 (digs b64 x.num.natAbs).length cx1, .slice Ax2 (digs b64 (denOf x.den)).length cx2)] w2 := ⟨B0, by omega, by intro p hp; simp at hp; subst hp; exact ⟨by simp, p1⟩, _, _, _, p2, notInt_bool _, notInt_slice _ _ _, notInt_slice _ _ _⟩
  clear e1 e2
  have hz := H0
  obtain ⟨_, k0, k1, k2, k3, k4, k5⟩ := hS _ hz
  refine (down_num _ _ x 0 (hx.below hz.1) hj hjk).mono ?_
  rintro e wy ⟨vr, rfl, hrr, hb⟩
  have hz := HeldR.call (And.intro hz trivial) hb
  clear k0 k1 k2 k3 k4 k5
  obtain ⟨vrn, vrd, rfl, hrn, hrd⟩ := id hrr
  obtain ⟨Ar1, cr1, rfl, _⟩ := id hrn
  obtain ⟨Ar2, cr2, rfl, _⟩ := id hrd
  obtain ⟨_, k0, k1, k2, k3, k4, k5, k6, k7, k8⟩ := hS _ hz
  go_wp2
  obtain ⟨wf, HW, f0, f1, f2, hfin⟩ := hz.fin rfl hrn hrd
  rw [HW]
  (try simp only [Exit.inBlock, Exit.then])
  refine bodyPost_ret (by simp [results, Try.results31, go_sem, f0, f1, f2]; try rfl) rfl ?_
  exact hfin
end Wx

namespace Wx
open Go Go.RowKit Go.Proofs

/-- The fraction of plain data. -/
def ofR (n d : Int) : Rat := if d ≤ 0 then (n : Rat) else newR n d
theorem bd_newR {n d : Int} (h1 : -9223372036854775808 ≤ n) (h2 : n ≤ 9223372036854775807) (h3 : -9223372036854775808 ≤ d) (h4 : d ≤ 9223372036854775807) (hd : d ≠ 0) : BdR 64 (newR n d) :=
  redR_bd (by omega) (by unfold Bd; omega) (by unfold Bd; omega)
theorem bd_ofR {n d : Int} (h1 : -9223372036854775808 ≤ n) (h2 : n ≤ 9223372036854775807) (h4 : d ≤ 9223372036854775807) : BdR 64 (ofR n d) := by
  unfold ofR
  split
  · exact ⟨by unfold Bd; rw [Rat.num_intCast]; omega, by unfold Bd; rw [Rat.den_intCast]; omega⟩
  · exact bd_newR h1 h2 (by omega) h4 (by omega)

set_option maxRecDepth 100000 in
theorem of_num (w : World) (n d : Int) (h1 : -9223372036854775808 ≤ n) (h2 : n ≤ 9223372036854775807) (h4 : d ≤ 9223372036854775807) :
    Calls Try.prog 11 #[.agg #[.int .i64 n, .int .i64 d]] w (RetRat w (ofR n d)) := by
  have HH := bx (And.intro h1 (And.intro h2 h4))
  by_cases hd : d ≤ 0
  · have hq : ofR n d = (n : Rat) := if_pos hd
    rw [hq]
    generalize hg : (n : Rat) = q
    have HG := bx hg
    clear h1 h2 h4 hq hg
    go_enter Try.func11, Try.ntmps11
    go_wp2_with fail
    obtain ⟨w1, e1, o1, b1, s1⟩ := layA w [.int .i64 n, .int .i64 d] 39
    obtain ⟨w2, e2, o2, b2, s2⟩ := layA w1 [.bool false, .slice none 0 0, .slice none 0 0] 26
    rw [e1, e2]
    rw [s1] at o2
    have hz : HeldN w (w.heap.size + 1) 3 26 [] w2 := ⟨b1.trans (b2.mono b1.size), by omega, by simp, _, rfl, o2, notInt3⟩
    clear e1 e2 s2
    have hc := int_num w2 n HH.out.1 HH.out.2.1
    rw [HG.out] at hc
    refine Calls.mono hc ?_
    clear hc
    rintro e w3 ⟨vr, rfl, hr, hb⟩
    obtain ⟨vrn, vrd, rfl, hrn, hrd⟩ := id hr
    obtain ⟨Ar1, cr1, rfl, _⟩ := id hrn
    obtain ⟨Ar2, cr2, rfl, _⟩ := id hrd
    have hz := HeldN.call (And.intro hz trivial) hb
    have k0 := hz.cellR (i := 0) (by omega)
    have k1 := hz.cellR (i := 1) (by omega)
    have k2 := hz.cellR (i := 2) (by omega)
    have k3 := hz.fzR 0
    have k4 := hz.fzR 1
    have k5 := hz.fzR 2
    go_wp2
    obtain ⟨wf, HW, ho, hB, hN⟩ := hz.fin [_, _, _] rfl (notInt3 (b := decide (q.num < 0)) (A1 := Ar1) (l1 := (digs b64 q.num.natAbs).length) (c1 := cr1) (A2 := Ar2) (l2 := (digs b64 (denOf q.den)).length) (c2 := cr2))
    simp only [setAll, Nat.reduceAdd] at HW
    rw [HW]
    (try simp only [Exit.inBlock, Exit.then])
    have f0 := ho.cell (i := 0) rfl
    have f1 := ho.cell (i := 1) rfl
    have f2 := ho.cell (i := 2) rfl
    refine bodyPost_ret (by simp [results, Try.results11, go_sem, f0, f1, f2]; try rfl) rfl ?_
    exact ⟨_, rfl, hr.into hN, hB⟩
  · have hq : ofR n d = newR n d := if_neg hd
    rw [hq]
    generalize hg : newR n d = q
    have HG := bx hg
    have hde : d ≠ 0 := by omega
    have HD := bx (And.intro hde (show -9223372036854775808 ≤ d by omega))
    clear h1 h2 h4 hq hg hde
    go_enter Try.func11, Try.ntmps11
    go_wp2_with fail
    obtain ⟨w1, e1, o1, b1, s1⟩ := layA w [.int .i64 n, .int .i64 d] 39
    obtain ⟨w2, e2, o2, b2, s2⟩ := layA w1 [.bool false, .slice none 0 0, .slice none 0 0] 26
    rw [e1, e2]
    rw [s1] at o2
    have hz : HeldN w (w.heap.size + 1) 3 26 [] w2 := ⟨b1.trans (b2.mono b1.size), by omega, by simp, _, rfl, o2, notInt3⟩
    clear e1 e2 s2
    have hc := new_num w2 n d HH.out.1 HH.out.2.1 HD.out.2 HH.out.2.2 HD.out.1
    rw [HG.out] at hc
    refine Calls.mono hc ?_
    clear hc
    rintro e w3 ⟨vr, rfl, hr, hb⟩
    obtain ⟨vrn, vrd, rfl, hrn, hrd⟩ := id hr
    obtain ⟨Ar1, cr1, rfl, _⟩ := id hrn
    obtain ⟨Ar2, cr2, rfl, _⟩ := id hrd
    have hz := HeldN.call (And.intro hz trivial) hb
    obtain ⟨w4, e4, o4, b4, s4⟩ := layA w3 [.bool (decide (q.num < 0)), .slice Ar1 (digs b64 q.num.natAbs).length cr1, .slice Ar2 (digs b64 (denOf q.den)).length cr2] 26
    have hr4 := hr.below b4
    have hz := HeldN.call (And.intro hz trivial) b4
    have k0 := hz.cellR (i := 0) (by omega)
    have k1 := hz.cellR (i := 1) (by omega)
    have k2 := hz.cellR (i := 2) (by omega)
    have k3 := hz.fzR 0
    have k4 := hz.fzR 1
    have k5 := hz.fzR 2
    have k6 := o4.cell (i := 0) rfl
    have k7 := o4.cell (i := 1) rfl
    have k8 := o4.cell (i := 2) rfl
    go_wp2
    obtain ⟨wf, HW, ho, hB, hN⟩ := hz.fin [_, _, _] rfl (notInt3 (b := decide (q.num < 0)) (A1 := Ar1) (l1 := (digs b64 q.num.natAbs).length) (c1 := cr1) (A2 := Ar2) (l2 := (digs b64 (denOf q.den)).length) (c2 := cr2))
    simp only [setAll, Nat.reduceAdd] at HW
    rw [HW]
    (try simp only [Exit.inBlock, Exit.then])
    have f0 := ho.cell (i := 0) rfl
    have f1 := ho.cell (i := 1) rfl
    have f2 := ho.cell (i := 2) rfl
    refine bodyPost_ret (by simp [results, Try.results11, go_sem, f0, f1, f2]; try rfl) rfl ?_
    exact ⟨_, rfl, hr4.into hN, hB⟩
end Wx

namespace Wx
open Go Go.RowKit Go.Proofs

def awX : Rat := newR 2 3
def awY : Rat := newR 1 6
def awZ : Rat := parseQ [45, 55, 47, 50]
def awD : Rat := awX - awY
def awF : Rat := downR awZ 0
theorem aw1 : parseOk [45, 55, 47, 50] = true := by decide +kernel
theorem aw2 : textR awZ = [45, 55, 47, 50] := by decide +kernel
theorem aw3 : textR awD = [49, 47, 50] := by decide +kernel
theorem aw4 : textR awF = [45, 52] := by decide +kernel
theorem aw5 : Bd 10 awD.num.natAbs ∧ Bd 10 awD.den := by unfold Bd; decide +kernel
theorem aw6 : Bd 10 awF.num.natAbs ∧ Bd 10 awF.den := by unfold Bd; decide +kernel
theorem aw7 : Bd 10 awX.num.natAbs ∧ Bd 10 awX.den := by unfold Bd; decide +kernel
theorem aw8 : Bd 10 awY.num.natAbs ∧ Bd 10 awY.den := by unfold Bd; decide +kernel
theorem aw9 : Bd 10 awZ.num.natAbs ∧ Bd 10 awZ.den := by unfold Bd; decide +kernel

set_option maxRecDepth 100000 in
set_option maxHeartbeats 1000000 in
/-- The examples of the chapter. -/
theorem awake_num (w : World) : Calls Try.prog 6 #[] w (RetIs w (.bool true)) := by
  have hc1 : ∀ w, Calls Try.prog 17 #[.int .i64 2, .int .i64 3] w (RetRE w awX 0) := fun w => new_num w 2 3 (by omega) (by omega) (by omega) (by omega) (by omega)
  have hc2 : ∀ w, Calls Try.prog 17 #[.int .i64 1, .int .i64 6] w (RetRE w awY 0) := fun w => new_num w 1 6 (by omega) (by omega) (by omega) (by omega) (by omega)
  have hc3 : ∀ w, Calls Try.prog 7 #[.string ⟨#[45, 55, 47, 50]⟩] w (RetRE w awZ 0) := fun w => parse_ok w [45, 55, 47, 50] (by intro x hx; simp at hx; omega) (by simp) aw1 aw2
  have HC1 := bx hc1
  have HC2 := bx hc2
  have HC3 := bx hc3
  have HB := bx (And.intro (show BdR 10 awX from aw7) (And.intro (show BdR 10 awY from aw8) (And.intro (show BdR 10 awZ from aw9) (And.intro (show BdR 10 awD from aw5) (show BdR 10 awF from aw6)))))
  have hd1 : awX - awY = awD := rfl
  have hf1 : downR awZ 0 = awF := rfl
  have HD := bx hd1
  have HF := bx hf1
  have ht1 : ((strOf (textR awD)).toList == [49, 47, 50]) = true := by rw [aw3, strOf_toList]; decide
  have ht2 : ((strOf (textR awF)).toList == [45, 52]) = true := by rw [aw4, strOf_toList]; decide
  clear hc1 hc2 hc3 hd1 hf1
  generalize awX = x at *
  generalize awY = y at *
  generalize awZ = z at *
  generalize awD = d at *
  generalize awF = f at *
  go_enter Try.func6, Try.ntmps6
  go_wp2_with fail
  refine Calls.mono (HC1.out _) ?_
  rintro e w1 ⟨vx, rfl, hx, b1⟩
  obtain ⟨vxn, vxd, rfl, hxn, hxd⟩ := id hx
  obtain ⟨Ax1, cx1, rfl, _⟩ := id hxn
  obtain ⟨Ax2, cx2, rfl, _⟩ := id hxd
  go_wp2_with fail
  obtain ⟨w2, e2, o2, b2, s2⟩ := layA w1 [.bool (decide (x.num < 0)), .slice Ax1 (digs b64 x.num.natAbs).length cx1, .slice Ax2 (digs b64 (denOf x.den)).length cx2] 26
  rw [e2]
  clear e2
  have B2 := b1.trans (b2.mono b1.size)
  have hx := hx.below b2
  refine Calls.mono (HC2.out _) ?_
  rintro e w3 ⟨vy, rfl, hy, b3⟩
  obtain ⟨vyn, vyd, rfl, hyn, hyd⟩ := id hy
  obtain ⟨Ay1, cy1, rfl, _⟩ := id hyn
  obtain ⟨Ay2, cy2, rfl, _⟩ := id hyd
  have B3 := B2.trans (b3.mono B2.size)
  go_wp2_with fail
  obtain ⟨w4, e4, o4, b4, s4⟩ := layA w3 [.bool (decide (y.num < 0)), .slice Ay1 (digs b64 y.num.natAbs).length cy1, .slice Ay2 (digs b64 (denOf y.den)).length cy2] 26
  rw [e4]
  clear e4
  have B4 := B3.trans (b4.mono B3.size)
  have hx := (hx.below b3).below b4
  have hy := hy.below b4
  have o2 := (o2.gone b3).gone b4
  refine Calls.mono (HC3.out _) ?_
  rintro e w5 ⟨vz, rfl, hz, b5⟩
  obtain ⟨vzn, vzd, rfl, hzn, hzd⟩ := id hz
  obtain ⟨Az1, cz1, rfl, _⟩ := id hzn
  obtain ⟨Az2, cz2, rfl, _⟩ := id hzd
  have B5 := B4.trans (b5.mono B4.size)
  obtain ⟨w6, e6, o6, b6, s6⟩ := layA w5 [.bool (decide (z.num < 0)), .slice Az1 (digs b64 z.num.natAbs).length cz1, .slice Az2 (digs b64 (denOf z.den)).length cz2] 26
  have B6 := B5.trans (b6.mono B5.size)
  have hx := (hx.below b5).below b6
  have hy := (hy.below b5).below b6
  have hz := hz.below b6
  have o2 := (o2.gone b5).gone b6
  have o4 := (o4.gone b5).gone b6
  have j0 := o2.cell (i := 0) rfl
  have j1 := o2.cell (i := 1) rfl
  have j2 := o2.cell (i := 2) rfl
  have k0 := o4.cell (i := 0) rfl
  have k1 := o4.cell (i := 1) rfl
  have k2 := o4.cell (i := 2) rfl
  have l0 := o6.cell (i := 0) rfl
  have l1 := o6.cell (i := 1) rfl
  have l2 := o6.cell (i := 2) rfl
  go_wp2_with fail
  have hc := sub_num w6 _ _ x y hx hy HB.out.1 HB.out.2.1 (by omega)
  rw [HD.out] at hc
  refine Calls.mono hc ?_
  clear hc j0 j1 j2 k0 k1 k2 l0 l1 l2
  rintro e w7 ⟨vd, rfl, hd, b7⟩
  have B7 := B6.trans (b7.mono B6.size)
  have hz := hz.below b7
  have o6 := o6.gone b7
  go_wp2_with fail
  refine Calls.mono (rtext_num w7 _ d hd HB.out.2.2.2.1 (by omega)) ?_
  rintro e w8 ⟨rfl, b8⟩
  have B8 := B7.trans (b8.mono B7.size)
  have hz := hz.below b8
  have o6 := o6.gone b8
  have l0 := o6.cell (i := 0) rfl
  have l1 := o6.cell (i := 1) rfl
  have l2 := o6.cell (i := 2) rfl
  go_wp2_with fail
  have hc := floor_num w8 _ z hz HB.out.2.2.1 (by omega)
  rw [HF.out] at hc
  refine Calls.mono hc ?_
  clear hc
  rintro e w9 ⟨vf, rfl, hf, b9⟩
  have B9 := B8.trans (b9.mono B8.size)
  go_wp2_with fail
  refine Calls.mono (rtext_num w9 _ f hf HB.out.2.2.2.2 (by omega)) ?_
  rintro e wa ⟨rfl, ba⟩
  go_wp2
  go_ret
  exact ⟨rfl, B9.trans (ba.mono B9.size)⟩
end Wx
