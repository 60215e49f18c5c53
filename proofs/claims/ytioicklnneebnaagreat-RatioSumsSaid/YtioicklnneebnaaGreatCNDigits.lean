import Derived.Test.YtioicklnneebnaaGreatProg
import Derived.Handy
import Derived.Laws.IdiomStrings
import Derived.Test.YtioicklnneebnaaGreatPlain1
import Derived.Test.YtioicklnneebnaaGreatMem
import Derived.Test.YtioicklnneebnaaGreatJSums3
import Derived.Test.YtioicklnneebnaaGreatJSums34
import Derived.Test.YtioicklnneebnaaGreatJSums33
import Derived.Test.YtioicklnneebnaaGreatJSums38
import Derived.Test.YtioicklnneebnaaGreatJSums40
import Derived.Test.YtioicklnneebnaaGreatJSums28
import Derived.Test.YtioicklnneebnaaGreatCText
namespace Wx
open Go Go.RowKit Go.Proofs

theorem dig_cut {d : Nat} (h : d < 10) : (⟨#[48, 49, 50, 51, 52, 53, 54, 55, 56, 57]⟩ : ByteArray).extract d (d + 1) = strOf [d + 48] := by
  match d, h with
  | 0, _ => rfl
  | 1, _ => rfl
  | 2, _ => rfl
  | 3, _ => rfl
  | 4, _ => rfl
  | 5, _ => rfl
  | 6, _ => rfl
  | 7, _ => rfl
  | 8, _ => rfl
  | 9, _ => rfl
  | n + 10, h => exact absurd h (by omega)
theorem dig_step {X S : List Nat} {x k r : Nat} (hk : k < 9) (h : X = decB (x * 10 ^ (9 - k) + r) ++ S) (h0 : 0 < x * 10 ^ (9 - k) + r) :
    X = decB (x * 10 ^ (9 - (k + 1)) + r / 10) ++ ((r % 10 + 48) :: S) := by
  obtain ⟨e1, e2⟩ := dec_step (A := x) (r := r) (k := 9 - k) (by omega)
  rw [h, decB_pos h0, e1, e2, show 9 - (k + 1) = 9 - k - 1 by omega, List.append_assoc]
  rfl

set_option maxRecDepth 100000 in
set_option maxHeartbeats 1000000 in
theorem ndigits_num (w : World) (v : Value) (n : Nat) (h : Num .u32 b32 w v n) {j : Nat} (hj : Bd j n) (hj1 : j ≤ 100000000) : Calls Tryz.prog 68 #[v] w (RetIs w (.string (strOf (textB n)))) := by
  rcases Nat.eq_zero_or_pos n with rfl | hn0
  · obtain ⟨A, c, rfl, hr⟩ := id h
    rw [digs_zero, textB_zero]
    go_enter Tryz.func68, Tryz.ntmps68
    go_wp2
    go_ret
    exact ⟨rfl, Below.refl _ _⟩
  · rw [textB_pos hn0]
    obtain ⟨A, c, rfl, hr⟩ := id h
    have hl1 : (((digs b32 n).length : Int) == 0) = false := beq_eq_false_iff_ne.2 (by have := (digs_length_pos (n := n) two_le_b32).2 hn0; omega)
    have HL := bx (show (decB n).length ≤ 100000000 from Nat.le_trans (decL_of hj) hj1)
    generalize (digs b32 n).length = L at *
    obtain ⟨X, hX⟩ : ∃ X, decB n = X := ⟨_, rfl⟩
    rw [hX] at HL ⊢
    have HX := bx hX
    have HJ := bx hj
    clear hX hj hr
    go_enter Tryz.func68, Tryz.ntmps68
    go_wp2_with fail
    go_loopw [0, 3] (fun s0 s3 wr => ∃ (x : Nat) (S : List Nat), Num .u32 b32 wr s0 x ∧ s3 = .string (strOf S) ∧ Bx (X = decB x ++ S) ∧ Bx (Bd j x) ∧ Below w.heap.size w wr) (fun s0 _ wr => numOf32 wr s0)
    case atStart => exact ⟨n, [], h, rfl, bx (by rw [HX.out, List.append_nil]), HJ, Below.refl _ _⟩
    case round =>
      clear h HJ
      obtain ⟨x, S, hx, rfl, HS, HJ, hb⟩ := hrel
      rcases Nat.eq_zero_or_pos x with rfl | hx0
      · obtain ⟨A, c, rfl, hr⟩ := id hx
        rw [digs_zero] at hr ⊢
        have e := HS.out
        rw [decB_zero, List.nil_append] at e
        have E := bx e
        clear e
        go_wp2
        go_ret
        rw [E.out]
        exact ⟨rfl, hb⟩
      · obtain ⟨A, c, rfl, hr⟩ := id hx
        have hl2 : (0 : Int) < ((digs b32 x).length : Int) := by have := (digs_length_pos (n := x) two_le_b32).2 hx0; omega
        have hlen := hr.len
        have HX0 := bx hx0
        generalize (digs b32 x).length = L2 at *
        clear hr hx0
        go_wp2_with fail
        refine Calls.mono (byDigit_num wr _ x 1000000000 hx HJ.out (by omega) (by omega) (by unfold b32; omega)) ?_
        rintro e w2 ⟨vq, rfl, hq, hb2⟩
        have hb3 := hb.trans (hb2.mono hb.size)
        have HR := bx (show x % 1000000000 < 10 ^ 9 from Nat.mod_lt _ (by omega))
        have HD := bx (show x / 1000000000 * 10 ^ 9 + x % 1000000000 = x from by have := Nat.div_add_mod x 1000000000; omega)
        have HQ := bx (show Bd j (x / 1000000000) from HJ.out.le (Nat.div_le_self _ _))
        have HM := bx (show x / 1000000000 < x from Nat.div_lt_self HX0.out (by omega))
        have HNx := bx hx
        clear hx
        generalize x / 1000000000 = y at *
        generalize x % 1000000000 = r0 at *
        obtain ⟨A2, c2, rfl, hr2⟩ := id hq
        have hlen2 := hr2.len
        clear hr2
        go_wp2_with fail
        obtain ⟨wo, rfl⟩ : ∃ wo : World, wo = w2 := ⟨_, rfl⟩
        go_loop [3, 5, 6] (fun s3 s5 s6 => ∃ (k r : Nat) (T : List Nat), k ≤ 9 ∧ s6 = .int .i64 (k : Int) ∧ s5 = .int .u32 (r : Int) ∧ s3 = .string (strOf T) ∧ Bx (r < 10 ^ (9 - k)) ∧ Bx (X = decB (y * 10 ^ (9 - k) + r) ++ T)) (fun _ _ s6 => 9 - (intOf s6).toNat)
        case atStart => exact ⟨0, r0, S, by omega, rfl, rfl, rfl, HR, bx (by rw [Nat.sub_zero, HD.out]; exact HS.out)⟩
        case round =>
          clear HS HR HD
          obtain ⟨k, r, T, hk, rfl, rfl, rfl, HR, HT⟩ := hrel
          by_cases hk9 : k < 9
          · rcases Nat.eq_zero_or_pos y with rfl | hy0
            · rw [digs_zero] at *
              rcases Nat.eq_zero_or_pos r with rfl | hr0
              · have hk9' : (k : Int) < 9 := by omega
                go_wp2
                go_roundw
                case rel => exact ⟨0, T, hq, rfl, bx (by rw [HT.out]; simp), HQ, hb3⟩
                case measure => rw [Num.of_eq32 HNx.out, Num.of_eq32 hq]; exact HM.out
              · have hr0' : (0 : Int) < (r : Int) := by omega
                have hT := dig_step hk9 HT.out (by omega)
                have hTl : T.length ≤ 100000000 := by have h1 := HL.out; have h2 := congrArg List.length HT.out; rw [List.length_append] at h2; omega
                have HT2 := bx hT
                have hz := strOf_size T
                have hc := dig_cut (d := r % 10) (by omega)
                have HC := bx hc
                have hap := strOf_append [r % 10 + 48] T
                have HAP := bx hap
                have hm1 : (0 : Int) ≤ (r : Int) % 10 := by omega
                have hm2 : (r : Int) % 10 ≤ 9 := by omega
                have hrr : (r : Int) ≤ 4294967295 := by have h1 := HR.out; have h2 : 10 ^ (9 - k) ≤ 10 ^ 9 := Nat.pow_le_pow_right (by omega) (by omega); omega
                have HR2 := bx (rest_step (by omega) HR.out)
                have hk9' : (k : Int) < 9 := by omega
                clear hT hc hap
                go_wp2
                rw [HC.out, HAP.out]
                go_round
                case rel => exact ⟨k + 1, r / 10, (r % 10 + 48) :: T, by omega, by go_num, by go_num, rfl, bx (by have := HR2.out; rwa [show 9 - (k + 1) = 9 - k - 1 by omega]), HT2⟩
                case measure => simp [intOf]; omega
            · have hl3 : (0 : Int) < ((digs b32 y).length : Int) := by have := (digs_length_pos (n := y) two_le_b32).2 hy0; omega
              generalize (digs b32 y).length = L3 at *
              have hT := dig_step hk9 HT.out (by have := Nat.mul_pos hy0 (Nat.pow_pos (n := 9 - k) (show 0 < 10 by omega)); omega)
              have hTl : T.length ≤ 100000000 := by have h1 := HL.out; have h2 := congrArg List.length HT.out; rw [List.length_append] at h2; omega
              have HT2 := bx hT
              have hz := strOf_size T
              have hc := dig_cut (d := r % 10) (by omega)
              have HC := bx hc
              have hap := strOf_append [r % 10 + 48] T
              have HAP := bx hap
              have hm1 : (0 : Int) ≤ (r : Int) % 10 := by omega
              have hm2 : (r : Int) % 10 ≤ 9 := by omega
              have hrr : (r : Int) ≤ 4294967295 := by have h1 := HR.out; have h2 : 10 ^ (9 - k) ≤ 10 ^ 9 := Nat.pow_le_pow_right (by omega) (by omega); omega
              have HR2 := bx (rest_step (by omega) HR.out)
              have hk9' : (k : Int) < 9 := by omega
              clear hT hc hap
              go_wp2
              rw [HC.out, HAP.out]
              go_round
              case rel => exact ⟨k + 1, r / 10, (r % 10 + 48) :: T, by omega, by go_num, by go_num, rfl, bx (by have := HR2.out; rwa [show 9 - (k + 1) = 9 - k - 1 by omega]), HT2⟩
              case measure => simp [intOf]; omega
          · obtain rfl : k = 9 := by omega
            have hr0 : r = 0 := by have := HR.out; simpa using this
            subst hr0
            go_wp2
            go_roundw
            case rel => exact ⟨y, T, hq, rfl, bx (by rw [HT.out]; simp), HQ, hb3⟩
            case measure => rw [Num.of_eq32 HNx.out, Num.of_eq32 hq]; exact HM.out
end Wx
