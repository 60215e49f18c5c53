import Derived.Test.YtioicklnneebnaaProg
import Derived.Handy
import Derived.Test.YtioicklnneebnaaPlain1
import Derived.Test.YtioicklnneebnaaMem
import Derived.Test.YtioicklnneebnaaJParses3
import Derived.Test.YtioicklnneebnaaCRat1
import Derived.Test.YtioicklnneebnaaCRat2
import Derived.Test.YtioicklnneebnaaJParses17
import Derived.Test.YtioicklnneebnaaJParses19
import Derived.Test.YtioicklnneebnaaCHeld
import Derived.Test.YtioicklnneebnaaJParses22
import Derived.Test.YtioicklnneebnaaJParses23
import Derived.Test.YtioicklnneebnaaCFrom
import Derived.Test.YtioicklnneebnaaJParses25
import Derived.Test.YtioicklnneebnaaCText
import Derived.Test.YtioicklnneebnaaCRText
import Derived.Test.YtioicklnneebnaaCParse
import Derived.Test.YtioicklnneebnaaCPlainText
import Derived.Test.YtioicklnneebnaaJParses32
import Derived.Test.YtioicklnneebnaaJParses33
import Derived.Test.YtioicklnneebnaaJParses40
import Derived.Test.YtioicklnneebnaaCNRat2
import Derived.Test.YtioicklnneebnaaJParses44
import Derived.Test.YtioicklnneebnaaCNParse
import Derived.Test.YtioicklnneebnaaCPlainParse
namespace Wx
open Go Go.RowKit Go.Proofs

theorem bd_parse {l : List Nat} (hl : l.length ≤ 4096) (h : parseOk l = true) : BdR 16384 (parseQ l) := by
  unfold parseOk at h
  rw [Bool.and_eq_true, Bool.and_eq_true, decide_eq_true_eq] at h
  obtain ⟨h1, h2, h3⟩ := h
  have hlr := restS_len l
  have hln := befS_len (restS l)
  have hld : (denS (restS l)).length ≤ 4096 := by
    unfold denS
    split
    · exact Nat.le_trans (aftS_len _) (by omega)
    · simp
  unfold parseQ
  exact redR_bd (digitsB_pos h2 h3) ((Bd.ten (valD_lt (digitsB_dig h1))).mono (by omega)) ((Bd.ten (valD_lt (digitsB_dig h2))).mono (by omega))
set_option maxRecDepth 100000 in
set_option maxHeartbeats 4000000 in
theorem parses_long (w : World) (s : ByteArray) (hs : s.size ≤ 9223372036854775807) (h : 5000 < s.size) : Calls Try.prog 3 #[.string s] w (RetIs w (.bool true)) := by
  have h1 : (5000 : Int) < (s.size : Int) := by omega
  go_enter Try.func3, Try.ntmps3
  go_wp2_with fail
  refine Calls.mono (awake_num w) ?_
  rintro e w1 ⟨rfl, b1⟩
  go_wp2
  go_ret
  exact ⟨rfl, b1⟩
set_option maxRecDepth 100000 in
set_option maxHeartbeats 8000000 in
theorem parses_ok (w : World) (s : ByteArray) (hs : s.size ≤ 5000) (q : Rat) (hc1 : ∀ w, Calls Try.prog 7 #[.string s] w (RetRE w q 0)) (hc2 : ∀ w, Calls Try.prog 8 #[.string s] w (RetFE w q 0)) (hq : BdR 16384 q) (ht : strOf (textR q) = s) :
    Calls Try.prog 3 #[.string s] w (RetIs w (.bool true)) := by
  have HC1 := bx hc1
  have HC2 := bx hc2
  have HQ := bx hq
  have h1 : (s.size : Int) ≤ 5000 := by omega
  have ht2 : ((strOf (textR q)).toList == s.toList) = true := by rw [ht]; simp
  clear ht
  clear hc1 hc2 hq
  go_enter Try.func3, Try.ntmps3
  go_wp2_with fail
  refine Calls.mono (HC1.out _) ?_
  rintro e w1 ⟨vx, rfl, hx, b1⟩
  have B := b1
  clear b1
  obtain ⟨vx1, vx2, rfl, hxa, hxb⟩ := id hx
  obtain ⟨Ax1, cx1, rfl, _⟩ := id hxa
  obtain ⟨Ax2, cx2, rfl, _⟩ := id hxb
  clear hxa hxb
  obtain ⟨w2, e2, oX, b2, s2⟩ := layA w1 [.bool (decide (q.num < 0)), .slice Ax1 (digs b64 q.num.natAbs).length cx1, .slice Ax2 (digs b64 (denOf q.den)).length cx2] 26
  replace hx := hx.below b2
  replace B := B.trans (b2.mono B.size)
  clear b2 s2
  go_wp2_with fail
  clear e2
  refine Calls.mono (HC2.out _) ?_
  rintro e w3 ⟨vy, rfl, hy, b3⟩
  replace hx := hx.below b3
  replace oX := oX.gone b3
  replace B := B.trans (b3.mono B.size)
  clear b3
  obtain ⟨vy1, vy2, rfl, hya, hyb⟩ := id hy
  obtain ⟨Ay1, cy1, rfl, _⟩ := id hya
  obtain ⟨Ay2, cy2, rfl, _⟩ := id hyb
  clear hya hyb
  obtain ⟨w4, e4, oY, b4, s4⟩ := layA w3 [.bool (decide (q.num < 0)), .slice Ay1 (digs b32 q.num.natAbs).length cy1, .slice Ay2 (digs b32 q.den).length cy2] 32
  replace hx := hx.below b4
  replace oX := oX.gone b4
  replace hy := hy.below b4
  replace B := B.trans (b4.mono B.size)
  clear b4 s4
  have k1 := oX.cell (i := 0) rfl
  have k2 := oX.cell (i := 1) rfl
  have k3 := oX.cell (i := 2) rfl
  have k4 := oY.cell (i := 0) rfl
  have k5 := oY.cell (i := 1) rfl
  have k6 := oY.cell (i := 2) rfl
  go_wp2_with fail
  clear e4 k1 k2 k3 k4 k5 k6
  refine Calls.mono (is_yes _ _ _ q hx hy HQ.out (by omega)) ?_
  rintro e w5 ⟨rfl, b5⟩
  replace hx := hx.below b5
  replace oX := oX.gone b5
  replace hy := hy.below b5
  replace oY := oY.gone b5
  replace B := B.trans (b5.mono B.size)
  clear b5
  have k7 := oX.cell (i := 0) rfl
  have k8 := oX.cell (i := 1) rfl
  have k9 := oX.cell (i := 2) rfl
  go_wp2_with fail
  clear k7 k8 k9
  refine Calls.mono (rtext_num _ _ q hx HQ.out (by omega)) ?_
  rintro e w6 ⟨rfl, b6⟩
  replace hx := hx.below b6
  replace oX := oX.gone b6
  replace hy := hy.below b6
  replace oY := oY.gone b6
  replace B := B.trans (b6.mono B.size)
  clear b6
  go_wp2_with fail
  refine Calls.mono (awake_num _) ?_
  rintro e w7 ⟨rfl, b7⟩
  replace hx := hx.below b7
  replace oX := oX.gone b7
  replace hy := hy.below b7
  replace oY := oY.gone b7
  replace B := B.trans (b7.mono B.size)
  clear b7
  go_wp2
  go_ret
  exact ⟨rfl, B⟩
set_option maxRecDepth 100000 in
set_option maxHeartbeats 8000000 in
theorem parses_err (w : World) (s : ByteArray) (hs : s.size ≤ 5000) (q : Rat) (er : Int) (her : er ≠ 0) (hc1 : ∀ w, Calls Try.prog 7 #[.string s] w (RetRE w q er)) (hc2 : ∀ w, Calls Try.prog 8 #[.string s] w (RetFE w q er)) (hq : BdR 16384 q) :
    Calls Try.prog 3 #[.string s] w (RetIs w (.bool true)) := by
  have HC1 := bx hc1
  have HC2 := bx hc2
  have HQ := bx hq
  have h1 : (s.size : Int) ≤ 5000 := by omega
  have he0 : (er == 0) = false := beq_eq_false_iff_ne.2 her
  have he1 : (er != 0) = true := bne_iff_ne.2 her
  clear her
  clear hc1 hc2 hq
  go_enter Try.func3, Try.ntmps3
  go_wp2_with fail
  refine Calls.mono (HC1.out _) ?_
  rintro e w1 ⟨vx, rfl, hx, b1⟩
  have B := b1
  clear b1
  obtain ⟨vx1, vx2, rfl, hxa, hxb⟩ := id hx
  obtain ⟨Ax1, cx1, rfl, _⟩ := id hxa
  obtain ⟨Ax2, cx2, rfl, _⟩ := id hxb
  clear hxa hxb
  obtain ⟨w2, e2, oX, b2, s2⟩ := layA w1 [.bool (decide (q.num < 0)), .slice Ax1 (digs b64 q.num.natAbs).length cx1, .slice Ax2 (digs b64 (denOf q.den)).length cx2] 26
  replace hx := hx.below b2
  replace B := B.trans (b2.mono B.size)
  clear b2 s2
  go_wp2_with fail
  clear e2
  refine Calls.mono (HC2.out _) ?_
  rintro e w3 ⟨vy, rfl, hy, b3⟩
  replace hx := hx.below b3
  replace oX := oX.gone b3
  replace B := B.trans (b3.mono B.size)
  clear b3
  obtain ⟨vy1, vy2, rfl, hya, hyb⟩ := id hy
  obtain ⟨Ay1, cy1, rfl, _⟩ := id hya
  obtain ⟨Ay2, cy2, rfl, _⟩ := id hyb
  clear hya hyb
  obtain ⟨w4, e4, oY, b4, s4⟩ := layA w3 [.bool (decide (q.num < 0)), .slice Ay1 (digs b32 q.num.natAbs).length cy1, .slice Ay2 (digs b32 q.den).length cy2] 32
  replace hx := hx.below b4
  replace oX := oX.gone b4
  replace hy := hy.below b4
  replace B := B.trans (b4.mono B.size)
  clear b4 s4
  have k1 := oX.cell (i := 0) rfl
  have k2 := oX.cell (i := 1) rfl
  have k3 := oX.cell (i := 2) rfl
  have k4 := oY.cell (i := 0) rfl
  have k5 := oY.cell (i := 1) rfl
  have k6 := oY.cell (i := 2) rfl
  go_wp2_with fail
  clear e4 k1 k2 k3 k4 k5 k6
  refine Calls.mono (is_yes _ _ _ q hx hy HQ.out (by omega)) ?_
  rintro e w5 ⟨rfl, b5⟩
  replace hx := hx.below b5
  replace oX := oX.gone b5
  replace hy := hy.below b5
  replace oY := oY.gone b5
  replace B := B.trans (b5.mono B.size)
  clear b5
  go_wp2_with fail
  refine Calls.mono (awake_num _) ?_
  rintro e w6 ⟨rfl, b6⟩
  replace hx := hx.below b6
  replace oX := oX.gone b6
  replace hy := hy.below b6
  replace oY := oY.gone b6
  replace B := B.trans (b6.mono B.size)
  clear b6
  go_wp2
  go_ret
  exact ⟨rfl, B⟩
theorem bd_zeroJ (j : Nat) (h : 0 < j) : BdR j 0 := ⟨by show Bd _ 0; unfold Bd; exact Nat.two_pow_pos _, by show Bd _ 1; exact bd_one _ h⟩
theorem bd_zeroP : BdR 16384 0 := bd_zeroJ _ (by omega)
/-- A string as a list of bytes. -/
theorem str_list (s : ByteArray) : ∃ l : List Nat, Wf 256 l ∧ s = strOf l ∧ l.length = s.size := by
  refine ⟨s.data.toList.map UInt8.toNat, ?_, ?_, by rw [List.length_map, Array.length_toList]; rfl⟩
  · intro x hx
    obtain ⟨y, _, rfl⟩ := List.mem_map.1 hx
    exact y.toNat_lt
  · unfold strOf
    apply ByteArray.ext
    have e : (s.data.toList.map UInt8.toNat).map UInt8.ofNat = s.data.toList := by
      rw [List.map_map]
      conv => rhs; rw [← List.map_id s.data.toList]
      apply List.map_congr_left
      intro x _
      exact UInt8.ofNat_toNat
    rw [e]
theorem parses_law (w : World) (s : ByteArray) (hs : s.size ≤ 9223372036854775807) : Calls Try.prog 3 #[.string s] w (RetIs w (.bool true)) := by
  rcases Nat.lt_or_ge 5000 s.size with h | h
  · exact parses_long w s hs h
  · obtain ⟨l, hw, rfl, hl⟩ := str_list s
    rcases Nat.lt_or_ge 4096 l.length with h2 | h2
    · exact parses_err w _ h 0 4 (by omega) (fun w => parse_big w l (by omega) h2) (fun w => nparse_big w l (by omega) h2) bd_zeroP
    · rcases parse_same l with ⟨a, b, c⟩ | ⟨a, b⟩
      · refine parses_ok w _ h (parseQ l) (fun w => parse_ok w l hw h2 a.1 a.2) (fun w => (nparse_walk w l hw h2).mono fun e w' hh => ?_) (bd_parse h2 a.1) (by rw [a.2])
        rcases hh with ⟨h3, _⟩ | ⟨_, h4⟩
        · rw [← c]; exact h3
        · exact absurd b h4
      · refine parses_err w _ h 0 2 (by omega) (fun w => parse_bad w l hw h2 a) (fun w => (nparse_walk w l hw h2).mono fun e w' hh => ?_) bd_zeroP
        rcases hh with ⟨_, h4⟩ | ⟨h3, _⟩
        · exact absurd h4 b
        · exact h3
end Wx
