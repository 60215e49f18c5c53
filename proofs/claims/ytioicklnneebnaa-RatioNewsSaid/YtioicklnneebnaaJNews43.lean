import Derived.Test.YtioicklnneebnaaProg
import Derived.Handy
import Derived.Deep.RegionHeld3
import Derived.Test.YtioicklnneebnaaPlain1
import Derived.Test.YtioicklnneebnaaMem
import Derived.Test.YtioicklnneebnaaJNews3
import Derived.Test.YtioicklnneebnaaJNews32
import Derived.Test.YtioicklnneebnaaCNRat1
import Derived.Test.YtioicklnneebnaaCRat2
import Derived.Test.YtioicklnneebnaaCHeld
import Derived.Test.YtioicklnneebnaaJNews22
import Derived.Test.YtioicklnneebnaaCNRat2
import Derived.Test.YtioicklnneebnaaJNews19
import Derived.Laws.IdiomStrings
import Derived.Test.YtioicklnneebnaaJNews33
import Derived.Test.YtioicklnneebnaaJNews38
import Derived.Test.YtioicklnneebnaaCNDiv
import Derived.Test.YtioicklnneebnaaJNews25
import Derived.Test.YtioicklnneebnaaCText
namespace Wx
open Go Go.RowKit Go.Proofs

set_option maxRecDepth 100000 in
set_option maxHeartbeats 1000000 in
theorem nabs_num (w : World) (vx : Value) (x : Rat) (hx : IsRef w vx x) : Calls Try.prog 25 #[vx] w (RetRef w (absR x)) := by
  obtain ⟨vx1, vx2, rfl, hxa, hxb⟩ := id hx
  obtain ⟨Ax1, cx1, rfl, _⟩ := id hxa
  obtain ⟨Ax2, cx2, rfl, _⟩ := id hxb
  obtain ⟨a1, a2, a3⟩ := absR_num x
  go_enter Try.func25, Try.ntmps25
  go_wp2
  obtain ⟨w1, e1, o1, b1, s1⟩ := layA w [.bool (decide (x.num < 0)), .slice Ax1 (digs b32 x.num.natAbs).length cx1, .slice Ax2 (digs b32 x.den).length cx2] 32
  obtain ⟨w2, e2, o2, b2, s2⟩ := layA w1 [.bool false, .slice Ax1 (digs b32 x.num.natAbs).length cx1, .slice Ax2 (digs b32 x.den).length cx2] 32
  rw [e1, e2]
  rw [s1] at o2
  have f0 := o2.cell (i := 0) rfl
  have f1 := o2.cell (i := 1) rfl
  have f2 := o2.cell (i := 2) rfl
  have B := b1.trans (b2.mono b1.size)
  refine bodyPost_ret (by simp [results, Try.results25, go_sem, f0, f1, f2]; try rfl) rfl ?_
  exact ⟨_, rfl, ⟨_, _, by rw [a3], by rw [a1]; exact hxa.below B, by rw [a2]; exact hxb.below B⟩, B⟩
end Wx

namespace Wx
open Go Go.RowKit Go.Proofs

set_option maxRecDepth 100000 in
set_option maxHeartbeats 1000000 in
theorem nsign_num (w : World) (vx : Value) (x : Rat) (hx : IsRef w vx x) : Calls Try.prog 29 #[vx] w (RetIs w (.int .i64 (sgnI x))) := by
  obtain ⟨vx1, vx2, rfl, hxa, hxb⟩ := id hx
  obtain ⟨Ax1, cx1, rfl, _⟩ := id hxa
  obtain ⟨Ax2, cx2, rfl, _⟩ := id hxb
  have hS : sgnI x = if x = 0 then 0 else if x.num < 0 then -1 else 1 := by
    unfold sgnI
    by_cases h : x = 0
    · subst h; rfl
    · rw [if_neg h, if_neg h]
  have hx0 := hx
  clear hx
  generalize sgnI x = z at *
  by_cases h2 : x = 0
  · rw [if_pos h2] at hS
    subst hS
    have HD := bx (decide_eq_true h2)
    clear h2
    go_enter Try.func29, Try.ntmps29
    go_wp2_with fail
    obtain ⟨w1, e1, oP, b1, s1⟩ := layA w [.bool (decide (x.num < 0)), .slice Ax1 (digs b32 x.num.natAbs).length cx1, .slice Ax2 (digs b32 x.den).length cx2] 32
    rw [e1]
    clear e1
    replace hx0 := hx0.below b1
    have B := b1
    clear b1
    have hc := nzero_num _ _ x hx0
    rw [HD.out] at hc
    refine Calls.mono (hc) ?_
    rintro e w2 ⟨rfl, b2⟩
    replace hx0 := hx0.below b2
    replace oP := oP.gone b2
    replace B := B.trans (b2.mono B.size)
    clear b2
    clear hc
    have k1 := oP.cell (i := 0) rfl
    have k2 := oP.cell (i := 1) rfl
    have k3 := oP.cell (i := 2) rfl
    go_wp2
    go_ret
    exact ⟨rfl, B⟩
  · rw [if_neg h2] at hS
    have HD := bx (decide_eq_false h2)
    clear h2
    by_cases h1 : x.num < 0
    · rw [if_pos h1] at hS
      subst hS
      rw [decide_eq_true h1] at *
      go_enter Try.func29, Try.ntmps29
      go_wp2_with fail
      obtain ⟨w1, e1, oP, b1, s1⟩ := layA w [.bool true, .slice Ax1 (digs b32 x.num.natAbs).length cx1, .slice Ax2 (digs b32 x.den).length cx2] 32
      rw [e1]
      clear e1
      replace hx0 := hx0.below b1
      have B := b1
      clear b1
      have hc := nzero_num _ _ x hx0
      rw [HD.out] at hc
      refine Calls.mono (hc) ?_
      rintro e w2 ⟨rfl, b2⟩
      replace hx0 := hx0.below b2
      replace oP := oP.gone b2
      replace B := B.trans (b2.mono B.size)
      clear b2
      clear hc
      have k1 := oP.cell (i := 0) rfl
      have k2 := oP.cell (i := 1) rfl
      have k3 := oP.cell (i := 2) rfl
      go_wp2
      go_ret
      exact ⟨rfl, B⟩
    · rw [if_neg h1] at hS
      subst hS
      rw [decide_eq_false h1] at *
      go_enter Try.func29, Try.ntmps29
      go_wp2_with fail
      obtain ⟨w1, e1, oP, b1, s1⟩ := layA w [.bool false, .slice Ax1 (digs b32 x.num.natAbs).length cx1, .slice Ax2 (digs b32 x.den).length cx2] 32
      rw [e1]
      clear e1
      replace hx0 := hx0.below b1
      have B := b1
      clear b1
      have hc := nzero_num _ _ x hx0
      rw [HD.out] at hc
      refine Calls.mono (hc) ?_
      rintro e w2 ⟨rfl, b2⟩
      replace hx0 := hx0.below b2
      replace oP := oP.gone b2
      replace B := B.trans (b2.mono B.size)
      clear b2
      clear hc
      have k1 := oP.cell (i := 0) rfl
      have k2 := oP.cell (i := 1) rfl
      have k3 := oP.cell (i := 2) rfl
      go_wp2
      go_ret
      exact ⟨rfl, B⟩
end Wx

namespace Wx
open Go Go.RowKit Go.Proofs

theorem dig_cut {d : Nat} (h : d < 10) : (⟨#[48, 49, 50, 51, 52, 53, 54, 55, 56, 57]⟩ : ByteArray).extract d (d + 1) = strOf [d + 48] := by
  match d, h with
  | 0, _ => rfl
  | 1, _ => rfl
  | 2, _ => rfl
  | 3, _ => rfl
  | 4, _ => rfl
  | 5, _ => rfl
  | 6, _ => rfl
  | 7, _ => rfl
  | 8, _ => rfl
  | 9, _ => rfl
  | n + 10, h => exact absurd h (by omega)
theorem dig_step {X S : List Nat} {x k r : Nat} (hk : k < 9) (h : X = decB (x * 10 ^ (9 - k) + r) ++ S) (h0 : 0 < x * 10 ^ (9 - k) + r) :
    X = decB (x * 10 ^ (9 - (k + 1)) + r / 10) ++ ((r % 10 + 48) :: S) := by
  obtain ⟨e1, e2⟩ := dec_step (A := x) (r := r) (k := 9 - k) (by omega)
  rw [h, decB_pos h0, e1, e2, show 9 - (k + 1) = 9 - k - 1 by omega, List.append_assoc]
  rfl

set_option maxRecDepth 100000 in
set_option maxHeartbeats 1000000 in
theorem ndigits_num (w : World) (v : Value) (n : Nat) (h : Num .u32 b32 w v n) {j : Nat} (hj : Bd j n) (hj1 : j ≤ 100000000) : Calls Try.prog 66 #[v] w (RetIs w (.string (strOf (textB n)))) := by
  rcases Nat.eq_zero_or_pos n with rfl | hn0
  · obtain ⟨A, c, rfl, hr⟩ := id h
    rw [digs_zero, textB_zero]
    go_enter Try.func66, Try.ntmps66
    go_wp2
    go_ret
    exact ⟨rfl, Below.refl _ _⟩
  · rw [textB_pos hn0]
    obtain ⟨A, c, rfl, hr⟩ := id h
    have hl1 : (((digs b32 n).length : Int) == 0) = false := beq_eq_false_iff_ne.2 (by have := (digs_length_pos (n := n) two_le_b32).2 hn0; omega)
    have HL := bx (show (decB n).length ≤ 100000000 from Nat.le_trans (decL_of hj) hj1)
    generalize (digs b32 n).length = L at *
    obtain ⟨X, hX⟩ : ∃ X, decB n = X := ⟨_, rfl⟩
    rw [hX] at HL ⊢
    have HX := bx hX
    have HJ := bx hj
    clear hX hj hr
    go_enter Try.func66, Try.ntmps66
    go_wp2_with fail
    go_loopw [0, 3] (fun s0 s3 wr => ∃ (x : Nat) (S : List Nat), Num .u32 b32 wr s0 x ∧ s3 = .string (strOf S) ∧ Bx (X = decB x ++ S) ∧ Bx (Bd j x) ∧ Below w.heap.size w wr) (fun s0 _ wr => numOf32 wr s0)
    case atStart => exact ⟨n, [], h, rfl, bx (by rw [HX.out, List.append_nil]), HJ, Below.refl _ _⟩
    case round =>
      clear h HJ
      obtain ⟨x, S, hx, rfl, HS, HJ, hb⟩ := hrel
      rcases Nat.eq_zero_or_pos x with rfl | hx0
      · obtain ⟨A, c, rfl, hr⟩ := id hx
        rw [digs_zero] at hr ⊢
        have e := HS.out
        rw [decB_zero, List.nil_append] at e
        have E := bx e
        clear e
        go_wp2
        go_ret
        rw [E.out]
        exact ⟨rfl, hb⟩
      · obtain ⟨A, c, rfl, hr⟩ := id hx
        have hl2 : (0 : Int) < ((digs b32 x).length : Int) := by have := (digs_length_pos (n := x) two_le_b32).2 hx0; omega
        have hlen := hr.len
        have HX0 := bx hx0
        generalize (digs b32 x).length = L2 at *
        clear hr hx0
        go_wp2_with fail
        refine Calls.mono (byDigit_num wr _ x 1000000000 hx HJ.out (by omega) (by omega) (by unfold b32; omega)) ?_
        rintro e w2 ⟨vq, rfl, hq, hb2⟩
        have hb3 := hb.trans (hb2.mono hb.size)
        have HR := bx (show x % 1000000000 < 10 ^ 9 from Nat.mod_lt _ (by omega))
        have HD := bx (show x / 1000000000 * 10 ^ 9 + x % 1000000000 = x from by have := Nat.div_add_mod x 1000000000; omega)
        have HQ := bx (show Bd j (x / 1000000000) from HJ.out.le (Nat.div_le_self _ _))
        have HM := bx (show x / 1000000000 < x from Nat.div_lt_self HX0.out (by omega))
        have HNx := bx hx
        clear hx
        generalize x / 1000000000 = y at *
        generalize x % 1000000000 = r0 at *
        obtain ⟨A2, c2, rfl, hr2⟩ := id hq
        have hlen2 := hr2.len
        clear hr2
        go_wp2_with fail
        obtain ⟨wo, rfl⟩ : ∃ wo : World, wo = w2 := ⟨_, rfl⟩
        go_loop [3, 5, 6] (fun s3 s5 s6 => ∃ (k r : Nat) (T : List Nat), k ≤ 9 ∧ s6 = .int .i64 (k : Int) ∧ s5 = .int .u32 (r : Int) ∧ s3 = .string (strOf T) ∧ Bx (r < 10 ^ (9 - k)) ∧ Bx (X = decB (y * 10 ^ (9 - k) + r) ++ T)) (fun _ _ s6 => 9 - (intOf s6).toNat)
        case atStart => exact ⟨0, r0, S, by omega, rfl, rfl, rfl, HR, bx (by rw [Nat.sub_zero, HD.out]; exact HS.out)⟩
        case round =>
          clear HS HR HD
          obtain ⟨k, r, T, hk, rfl, rfl, rfl, HR, HT⟩ := hrel
          by_cases hk9 : k < 9
          · rcases Nat.eq_zero_or_pos y with rfl | hy0
            · rw [digs_zero] at *
              rcases Nat.eq_zero_or_pos r with rfl | hr0
              · have hk9' : (k : Int) < 9 := by omega
                go_wp2
                go_roundw
                case rel => exact ⟨0, T, hq, rfl, bx (by rw [HT.out]; simp), HQ, hb3⟩
                case measure => rw [Num.of_eq32 HNx.out, Num.of_eq32 hq]; exact HM.out
              · have hr0' : (0 : Int) < (r : Int) := by omega
                have hT := dig_step hk9 HT.out (by omega)
                have hTl : T.length ≤ 100000000 := by have h1 := HL.out; have h2 := congrArg List.length HT.out; rw [List.length_append] at h2; omega
                have HT2 := bx hT
                have hz := strOf_size T
                have hc := dig_cut (d := r % 10) (by omega)
                have HC := bx hc
                have hap := strOf_append [r % 10 + 48] T
                have HAP := bx hap
                have hm1 : (0 : Int) ≤ (r : Int) % 10 := by omega
                have hm2 : (r : Int) % 10 ≤ 9 := by omega
                have hrr : (r : Int) ≤ 4294967295 := by have h1 := HR.out; have h2 : 10 ^ (9 - k) ≤ 10 ^ 9 := Nat.pow_le_pow_right (by omega) (by omega); omega
                have HR2 := bx (rest_step (by omega) HR.out)
                have hk9' : (k : Int) < 9 := by omega
                clear hT hc hap
                go_wp2
                rw [HC.out, HAP.out]
                go_round
                case rel => exact ⟨k + 1, r / 10, (r % 10 + 48) :: T, by omega, by go_num, by go_num, rfl, bx (by have := HR2.out; rwa [show 9 - (k + 1) = 9 - k - 1 by omega]), HT2⟩
                case measure => simp [intOf]; omega
            · have hl3 : (0 : Int) < ((digs b32 y).length : Int) := by have := (digs_length_pos (n := y) two_le_b32).2 hy0; omega
              generalize (digs b32 y).length = L3 at *
              have hT := dig_step hk9 HT.out (by have := Nat.mul_pos hy0 (Nat.pow_pos (n := 9 - k) (show 0 < 10 by omega)); omega)
              have hTl : T.length ≤ 100000000 := by have h1 := HL.out; have h2 := congrArg List.length HT.out; rw [List.length_append] at h2; omega
              have HT2 := bx hT
              have hz := strOf_size T
              have hc := dig_cut (d := r % 10) (by omega)
              have HC := bx hc
              have hap := strOf_append [r % 10 + 48] T
              have HAP := bx hap
              have hm1 : (0 : Int) ≤ (r : Int) % 10 := by omega
              have hm2 : (r : Int) % 10 ≤ 9 := by omega
              have hrr : (r : Int) ≤ 4294967295 := by have h1 := HR.out; have h2 : 10 ^ (9 - k) ≤ 10 ^ 9 := Nat.pow_le_pow_right (by omega) (by omega); omega
              have HR2 := bx (rest_step (by omega) HR.out)
              have hk9' : (k : Int) < 9 := by omega
              clear hT hc hap
              go_wp2
              rw [HC.out, HAP.out]
              go_round
              case rel => exact ⟨k + 1, r / 10, (r % 10 + 48) :: T, by omega, by go_num, by go_num, rfl, bx (by have := HR2.out; rwa [show 9 - (k + 1) = 9 - k - 1 by omega]), HT2⟩
              case measure => simp [intOf]; omega
          · obtain rfl : k = 9 := by omega
            have hr0 : r = 0 := by have := HR.out; simpa using this
            subst hr0
            go_wp2
            go_roundw
            case rel => exact ⟨y, T, hq, rfl, bx (by rw [HT.out]; simp), HQ, hb3⟩
            case measure => rw [Num.of_eq32 HNx.out, Num.of_eq32 hq]; exact HM.out
end Wx
