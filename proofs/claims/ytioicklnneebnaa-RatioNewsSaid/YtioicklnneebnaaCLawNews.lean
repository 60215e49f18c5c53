import Derived.Test.YtioicklnneebnaaProg
import Derived.Handy
import Derived.Deep.RegionHeld3
import Derived.Test.YtioicklnneebnaaPlain1
import Derived.Test.YtioicklnneebnaaMem
import Derived.Test.YtioicklnneebnaaJNews3
import Derived.Test.YtioicklnneebnaaCRat1
import Derived.Test.YtioicklnneebnaaCRat2
import Derived.Test.YtioicklnneebnaaJNews19
import Derived.Test.YtioicklnneebnaaJNews17
import Derived.Test.YtioicklnneebnaaCHeld
import Derived.Test.YtioicklnneebnaaJNews22
import Derived.Test.YtioicklnneebnaaJNews32
import Derived.Test.YtioicklnneebnaaCNRat1
import Derived.Test.YtioicklnneebnaaCNRat2
import Derived.Test.YtioicklnneebnaaJNews43
import Derived.Test.YtioicklnneebnaaJNews45
import Derived.Test.YtioicklnneebnaaCWhole
import Derived.Test.YtioicklnneebnaaCNWhole
namespace Wx
open Go Go.RowKit Go.Proofs

theorem Whole.is {w w' : World} {q : Rat} {e : Ending} (h : RetWhole w q e w') : RetIs w (.tuple #[.int .i64 (wholeZ q), .bool (wholeB q)]) e w' := h
theorem bd_zero : BdR 64 0 := ⟨by unfold Bd; decide, by unfold Bd; decide⟩
theorem BdR.neg' {j : Nat} {q : Rat} (h : BdR j q) : BdR j (-q) := ⟨by rw [Rat.neg_num, Int.natAbs_neg]; exact h.1, h.2⟩
theorem BdR.abs {j : Nat} {q : Rat} (h : BdR j q) : BdR j (absR q) := by obtain ⟨a, b, _⟩ := absR_num q; exact ⟨by rw [a]; exact h.1, by rw [b]; exact h.2⟩
set_option maxRecDepth 100000 in
set_option maxHeartbeats 8000000 in
theorem news_walk (w : World) (n d er : Int) (q : Rat) (h1 : -9223372036854775808 ≤ n) (h2 : n ≤ 9223372036854775807) (hc1 : ∀ w, Calls Try.prog 17 #[.int .i64 n, .int .i64 d] w (RetRE w q er)) (hc2 : ∀ w, Calls Try.prog 18 #[.int .i64 n, .int .i64 d] w (RetFE w q er)) (hq : BdR 64 q) :
    Calls Try.prog 5 #[.int .i64 n, .int .i64 d] w (RetIs w (.bool true)) := by
  have HC1 := bx hc1
  have HC2 := bx hc2
  have HQ := bx hq
  have HQN := bx hq.neg'
  have HQA := bx hq.abs
  have H := bx (And.intro h1 h2)
  have hc3 : ∀ w v, IsRat w v (n : Rat) → Calls Try.prog 19 #[v] w (RetIs w (.tuple #[.int .i64 n, .bool true])) := fun w v hv => (whole_num w v _ hv).mono fun e w' h => by
    have h := Whole.is h
    rw [(whole_int h1 h2).1, (whole_int h1 h2).2] at h
    exact h
  have HC3 := bx hc3
  have hc4 : ∀ w, Calls Try.prog 21 #[.int .i64 n] w (RetRat w (n : Rat)) := fun w => int_num w n h1 h2
  have HC4 := bx hc4
  clear hc1 hc2 hq h1 h2 hc3 hc4
  generalize (n : Rat) = u at *
  go_enter Try.func5, Try.ntmps5
  go_wp2_with fail
  refine Calls.mono (HC1.out _) ?_
  rintro e w1 ⟨vx, rfl, hx, b1⟩
  have B := b1
  clear b1
  obtain ⟨vx1, vx2, rfl, hxa, hxb⟩ := id hx
  obtain ⟨Ax1, cx1, rfl, _⟩ := id hxa
  obtain ⟨Ax2, cx2, rfl, _⟩ := id hxb
  clear hxa hxb
  obtain ⟨w2, e2, oX, b2, s2⟩ := layA w1 [.bool (decide (q.num < 0)), .slice Ax1 (digs b64 q.num.natAbs).length cx1, .slice Ax2 (digs b64 (denOf q.den)).length cx2] 26
  replace hx := hx.below b2
  replace B := B.trans (b2.mono B.size)
  clear b2 s2
  go_wp2_with fail
  clear e2
  refine Calls.mono (HC2.out _) ?_
  rintro e w3 ⟨vy, rfl, hy, b3⟩
  replace hx := hx.below b3
  replace oX := oX.gone b3
  replace B := B.trans (b3.mono B.size)
  clear b3
  obtain ⟨vy1, vy2, rfl, hya, hyb⟩ := id hy
  obtain ⟨Ay1, cy1, rfl, _⟩ := id hya
  obtain ⟨Ay2, cy2, rfl, _⟩ := id hyb
  clear hya hyb
  obtain ⟨w4, e4, oY, b4, s4⟩ := layA w3 [.bool (decide (q.num < 0)), .slice Ay1 (digs b32 q.num.natAbs).length cy1, .slice Ay2 (digs b32 q.den).length cy2] 32
  replace hx := hx.below b4
  replace oX := oX.gone b4
  replace hy := hy.below b4
  replace B := B.trans (b4.mono B.size)
  clear b4 s4
  have k1 := oX.cell (i := 0) rfl
  have k2 := oX.cell (i := 1) rfl
  have k3 := oX.cell (i := 2) rfl
  go_wp2_with fail
  clear e4 k1 k2 k3
  refine Calls.mono ((whole_num _ _ q hx).mono (fun _ _ h => Whole.is h)) ?_
  rintro e w5 ⟨rfl, b5⟩
  replace hx := hx.below b5
  replace oX := oX.gone b5
  replace hy := hy.below b5
  replace oY := oY.gone b5
  replace B := B.trans (b5.mono B.size)
  clear b5
  have k4 := oY.cell (i := 0) rfl
  have k5 := oY.cell (i := 1) rfl
  have k6 := oY.cell (i := 2) rfl
  go_wp2_with fail
  clear k4 k5 k6
  refine Calls.mono ((nwhole_num _ _ q hy).mono (fun _ _ h => Whole.is h)) ?_
  rintro e w6 ⟨rfl, b6⟩
  replace hx := hx.below b6
  replace oX := oX.gone b6
  replace hy := hy.below b6
  replace oY := oY.gone b6
  replace B := B.trans (b6.mono B.size)
  clear b6
  go_wp2_with fail
  refine Calls.mono (HC4.out _) ?_
  rintro e w7 ⟨vu, rfl, hu, b7⟩
  replace hx := hx.below b7
  replace oX := oX.gone b7
  replace hy := hy.below b7
  replace oY := oY.gone b7
  replace B := B.trans (b7.mono B.size)
  clear b7
  go_wp2_with fail
  refine Calls.mono (HC3.out _ _ hu) ?_
  rintro e w8 ⟨rfl, b8⟩
  replace hx := hx.below b8
  replace oX := oX.gone b8
  replace hy := hy.below b8
  replace oY := oY.gone b8
  replace hu := hu.below b8
  replace B := B.trans (b8.mono B.size)
  clear b8
  clear hu
  generalize wholeZ q = z at *
  generalize wholeB q = b at *
  go_wp2_with fail
  have hS : ∀ w', HeldQ w [(w1.heap.size, [.bool (decide (q.num < 0)), .slice Ax1 (digs b64 q.num.natAbs).length cx1, .slice Ax2 (digs b64 (denOf q.den)).length cx2], 26), (w3.heap.size, [.bool (decide (q.num < 0)), .slice Ay1 (digs b32 q.num.natAbs).length cy1, .slice Ay2 (digs b32 q.den).length cy2], 32)] w' → HeldQ w [(w1.heap.size, [.bool (decide (q.num < 0)), .slice Ax1 (digs b64 q.num.natAbs).length cx1, .slice Ax2 (digs b64 (denOf q.den)).length cx2], 26), (w3.heap.size, [.bool (decide (q.num < 0)), .slice Ay1 (digs b32 q.num.natAbs).length cy1, .slice Ay2 (digs b32 q.den).length cy2], 32)] w' ∧ w'.cell? ⟨w1.heap.size, 0, none⟩ = some (.bool (decide (q.num < 0))) ∧ w'.cell? ⟨w1.heap.size, 1, none⟩ = some (.slice Ax1 (digs b64 q.num.natAbs).length cx1) ∧ w'.cell? ⟨w1.heap.size, 2, none⟩ = some (.slice Ax2 (digs b64 (denOf q.den)).length cx2) ∧ w'.cell? ⟨w3.heap.size, 0, none⟩ = some (.bool (decide (q.num < 0))) ∧ w'.cell? ⟨w3.heap.size, 1, none⟩ = some (.slice Ay1 (digs b32 q.num.natAbs).length cy1) ∧ w'.cell? ⟨w3.heap.size, 2, none⟩ = some (.slice Ay2 (digs b32 q.den).length cy2) := fun w' hh => by
    have r0 := hh.at_ (p := (w1.heap.size, [.bool (decide (q.num < 0)), .slice Ax1 (digs b64 q.num.natAbs).length cx1, .slice Ax2 (digs b64 (denOf q.den)).length cx2], 26)) (by simp)
    have r1 := hh.at_ (p := (w3.heap.size, [.bool (decide (q.num < 0)), .slice Ay1 (digs b32 q.num.natAbs).length cy1, .slice Ay2 (digs b32 q.den).length cy2], 32)) (by simp)
    exact ⟨hh, r0.cell (i := 0) rfl, r0.cell (i := 1) rfl, r0.cell (i := 2) rfl, r1.cell (i := 0) rfl, r1.cell (i := 1) rfl, r1.cell (i := 2) rfl⟩
  have hz : HeldQ w [(w1.heap.size, [.bool (decide (q.num < 0)), .slice Ax1 (digs b64 q.num.natAbs).length cx1, .slice Ax2 (digs b64 (denOf q.den)).length cx2], 26), (w3.heap.size, [.bool (decide (q.num < 0)), .slice Ay1 (digs b32 q.num.natAbs).length cy1, .slice Ay2 (digs b32 q.den).length cy2], 32)] w8 := ⟨B, by intro p hp; simp at hp; rcases hp with rfl | rfl; exact oX; exact oY⟩
  have hz := hz.drew
  have hx := hx.drew
  have hy := hy.drew
  have tk0 : True := trivial
  go_region_held3 (fun w' => HeldQ w [(w1.heap.size, [.bool (decide (q.num < 0)), .slice Ax1 (digs b64 q.num.natAbs).length cx1, .slice Ax2 (digs b64 (denOf q.den)).length cx2], 26), (w3.heap.size, [.bool (decide (q.num < 0)), .slice Ay1 (digs b32 q.num.natAbs).length cy1, .slice Ay2 (digs b32 q.den).length cy2], 32)] w' ∧ w'.cell? ⟨w1.heap.size, 0, none⟩ = some (.bool (decide (q.num < 0))) ∧ w'.cell? ⟨w1.heap.size, 1, none⟩ = some (.slice Ax1 (digs b64 q.num.natAbs).length cx1) ∧ w'.cell? ⟨w1.heap.size, 2, none⟩ = some (.slice Ax2 (digs b64 (denOf q.den)).length cx2) ∧ w'.cell? ⟨w3.heap.size, 0, none⟩ = some (.bool (decide (q.num < 0))) ∧ w'.cell? ⟨w3.heap.size, 1, none⟩ = some (.slice Ay1 (digs b32 q.num.natAbs).length cy1) ∧ w'.cell? ⟨w3.heap.size, 2, none⟩ = some (.slice Ay2 (digs b32 q.den).length cy2))
    (exact hS _ hz)
    (first
      | (go_at_call 9; have _t := tk0; (with_reducible refine Calls.mono (is_yes _ _ _ q hx hy HQ.out (by omega)) ?_); rintro e wk ⟨rfl, hb⟩; have hx := hx.below hb; have hy := hy.below hb; have hz := HeldQ.call (And.intro hz trivial) hb; clear tk0; have tk1 : True := trivial)
      | (go_at_call 22; have _t := tk1; (with_reducible refine Calls.mono (neg_num _ _ q hx) ?_); rintro e wk ⟨vxn, rfl, hxn, hb⟩; have hx := hx.below hb; have hy := hy.below hb; have hz := HeldQ.call (And.intro hz trivial) hb; clear tk1; have tk2 : True := trivial)
      | (go_at_call 23; have _t := tk2; (with_reducible refine Calls.mono (nneg_num _ _ q hy) ?_); rintro e wk ⟨vyn, rfl, hyn, hb⟩; have hx := hx.below hb; have hy := hy.below hb; have hxn := hxn.below hb; have hz := HeldQ.call (And.intro hz trivial) hb; clear tk2; have tk3 : True := trivial)
      | (go_at_call 9; have _t := tk3; (with_reducible refine Calls.mono (is_yes _ _ _ (-q) hxn hyn HQN.out (by omega)) ?_); rintro e wk ⟨rfl, hb⟩; have hx := hx.below hb; have hy := hy.below hb; have hz := HeldQ.call (And.intro hz trivial) hb; clear tk3; have tk4 : True := trivial)
      | (go_at_call 24; have _t := tk4; (with_reducible refine Calls.mono (abs_num _ _ q hx) ?_); rintro e wk ⟨vxa, rfl, hxm, hb⟩; have hx := hx.below hb; have hy := hy.below hb; have hz := HeldQ.call (And.intro hz trivial) hb; clear tk4; have tk5 : True := trivial)
      | (go_at_call 25; have _t := tk5; (with_reducible refine Calls.mono (nabs_num _ _ q hy) ?_); rintro e wk ⟨vya, rfl, hym, hb⟩; have hx := hx.below hb; have hy := hy.below hb; have hxm := hxm.below hb; have hz := HeldQ.call (And.intro hz trivial) hb; clear tk5; have tk6 : True := trivial)
      | (go_at_call 9; have _t := tk6; (with_reducible refine Calls.mono (is_yes _ _ _ (absR q) hxm hym HQA.out (by omega)) ?_); rintro e wk ⟨rfl, hb⟩; have hx := hx.below hb; have hy := hy.below hb; have hz := HeldQ.call (And.intro hz trivial) hb; clear tk6; have tk7 : True := trivial)
      | (go_at_call 26; have _t := tk7; (with_reducible refine Calls.mono (zero_num _ _ q hx) ?_); rintro e wk ⟨rfl, hb⟩; have hx := hx.below hb; have hy := hy.below hb; have hz := HeldQ.call (And.intro hz trivial) hb; clear tk7; have tk8 : True := trivial)
      | (go_at_call 27; have _t := tk8; (with_reducible refine Calls.mono (nzero_num _ _ q hy) ?_); rintro e wk ⟨rfl, hb⟩; have hx := hx.below hb; have hy := hy.below hb; have hz := HeldQ.call (And.intro hz trivial) hb; clear tk8; have tk9 : True := trivial)
      | (go_at_call 28; have _t := tk9; (with_reducible refine Calls.mono (sign_num _ _ q hx) ?_); rintro e wk ⟨rfl, hb⟩; have hy := hy.below hb; have hz := HeldQ.call (And.intro hz trivial) hb; clear tk9; have tk10 : True := trivial)
      | (go_at_call 29; have _t := tk10; (with_reducible refine Calls.mono (nsign_num _ _ q hy) ?_); rintro e wk ⟨rfl, hb⟩; have hz := HeldQ.call (And.intro hz trivial) hb; clear tk10; have tk11 : True := trivial)
      | (go_at_call 6; have _t := tk11; (with_reducible refine Calls.mono (awake_num _) ?_); rintro e wk ⟨rfl, hb⟩; have hz := HeldQ.call (And.intro hz trivial) hb; clear tk11; have tk12 : True := trivial))
  all_goals (
    go_wp2
    go_ret
    exact ⟨rfl, hz.b⟩)

theorem news_law (w : World) (n d : Int) (h1 : -9223372036854775808 ≤ n) (h2 : n ≤ 9223372036854775807) (h3 : -9223372036854775808 ≤ d) (h4 : d ≤ 9223372036854775807) :
    Calls Try.prog 5 #[.int .i64 n, .int .i64 d] w (RetIs w (.bool true)) := by
  by_cases hd : d = 0
  · subst hd
    exact news_walk w n 0 3 0 h1 h2 (fun w => new_zero w n) (fun w => nnew_zero w n) bd_zero
  · exact news_walk w n d 0 (newR n d) h1 h2 (fun w => new_num w n d h1 h2 h3 h4 hd) (fun w => nnew_num w n d h1 h2 h3 h4 hd) (bd_newR h1 h2 h3 h4 hd)
end Wx
