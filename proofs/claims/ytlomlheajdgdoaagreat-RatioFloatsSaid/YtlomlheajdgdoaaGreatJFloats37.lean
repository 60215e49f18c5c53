import Derived.Test.YtlomlheajdgdoaaGreatProg
import Derived.Handy
import Derived.Deep.RegionHeld3
import Derived.Test.YtlomlheajdgdoaaGreatJFloats0
import Derived.Test.YtlomlheajdgdoaaGreatCFloatsMem
import Derived.Test.YtlomlheajdgdoaaGreatJFloats2
import Derived.Test.YtlomlheajdgdoaaGreatCFloatsRat1
import Derived.Test.YtlomlheajdgdoaaGreatJFloats12
import Derived.Test.YtlomlheajdgdoaaGreatJFloats28
import Derived.Test.YtlomlheajdgdoaaGreatJFloats33
import Derived.Test.YtlomlheajdgdoaaGreatJFloats29
import Derived.Test.YtlomlheajdgdoaaGreatCFloatsNProd
import Derived.Test.YtlomlheajdgdoaaGreatCFloatsNRat2
import Derived.Test.YtlomlheajdgdoaaGreatCFloatsInv
import Derived.Test.YtlomlheajdgdoaaGreatJFloats14
import Derived.Test.YtlomlheajdgdoaaGreatCFloatsSem
import Derived.Test.YtlomlheajdgdoaaGreatCFloatsSemOps
import Derived.Test.YtlomlheajdgdoaaGreatCFloatsSemMem
import Derived.Test.YtlomlheajdgdoaaGreatCFloatsSemCode
import Derived.Test.YtlomlheajdgdoaaGreatJFloats19
import Derived.KernelRfl
import Derived.Test.YtlomlheajdgdoaaGreatCFloatsNQuot
import Derived.Test.YtlomlheajdgdoaaGreatJFloats20
import Derived.Test.YtlomlheajdgdoaaGreatJFloats36
import Derived.Test.YtlomlheajdgdoaaGreatJFloats22
import Derived.Laws.IdiomStrings
import Derived.Test.YtlomlheajdgdoaaGreatJFloats31
import Derived.Test.YtlomlheajdgdoaaGreatJFloats24
import Derived.Test.YtlomlheajdgdoaaGreatCFloatsText
import Derived.Test.YtlomlheajdgdoaaGreatJFloats27
namespace Wx
open Go Go.RowKit Go.Proofs

end Wx

namespace Wx
open Go Go.RowKit Go.Proofs

def pRef (q : Rat) : Pred := fun w v => IsRef w v q
theorem numlike_ref (q : Rat) : Numlike (pRef q) := by
  rintro M w v hM ⟨vn, vd, rfl, h1, h2⟩ w' he
  exact ⟨vn, vd, rfl, num_box hM (.inr rfl) h1 w' he, num_box hM (.inr rfl) h2 w' he⟩
theorem fits_ref (q : Rat) : Fits 3 true (pRef q) := by
  rintro w v ⟨vn, vd, rfl, h1, h2⟩
  obtain ⟨A, c, rfl, _⟩ := h1
  obtain ⟨B, d, rfl, _⟩ := h2
  refine ⟨[_, _, _], rfl, rfl, rfl, ?_⟩
  intro u hu
  simp at hu
  rcases hu with rfl | rfl | rfl
  · exact ⟨noU_bool _, rfl⟩
  · exact ⟨noU_slice _ _ _, rfl⟩
  · exact ⟨noU_slice _ _ _, rfl⟩
theorem pRef_eq {x y : Rat} (h : x = y) : ∀ w v, pRef x w v → pRef y w v := fun _ _ k => h ▸ k
def pNatR (n : Nat) : Pred := fun w v => Num .u32 b32 w v n
theorem numlike_natR (n : Nat) : Numlike (pNatR n) := fun _ _ _ hM h => num_box hM (.inr rfl) h
end Wx

namespace Wx
open Go Go.RowKit Go.Proofs
set_option linter.unusedVariables false

end Wx

namespace Wx
open Go Go.RowKit Go.Proofs

end Wx

namespace Wx
open Go Go.RowKit Go.Proofs

end Wx

namespace Wx
open Go Go.RowKit Go.Proofs

end Wx

namespace Wx
set_option maxRecDepth 100000
open Go Go.RowKit Go.Proofs

theorem dig_cut {d : Nat} (h : d < 10) : (⟨#[48, 49, 50, 51, 52, 53, 54, 55, 56, 57]⟩ : ByteArray).extract d (d + 1) = strOf [d + 48] := by
  match d, h with
  | 0, _ => rfl
  | 1, _ => rfl
  | 2, _ => rfl
  | 3, _ => rfl
  | 4, _ => rfl
  | 5, _ => rfl
  | 6, _ => rfl
  | 7, _ => rfl
  | 8, _ => rfl
  | 9, _ => rfl
  | n + 10, h => exact absurd h (by omega)
theorem dig_step {X S : List Nat} {x k r : Nat} (hk : k < 9) (h : X = decB (x * 10 ^ (9 - k) + r) ++ S) (h0 : 0 < x * 10 ^ (9 - k) + r) :
    X = decB (x * 10 ^ (9 - (k + 1)) + r / 10) ++ ((r % 10 + 48) :: S) := by
  obtain ⟨e1, e2⟩ := dec_step (A := x) (r := r) (k := 9 - k) (by omega)
  rw [h, decB_pos h0, e1, e2, show 9 - (k + 1) = 9 - k - 1 by omega, List.append_assoc]
  rfl

set_option maxHeartbeats 1000000 in
theorem ndigits_num (w : World) (v : Value) (n : Nat) (h : Num .u32 b32 w v n) {j : Nat} (hj : Bd j n) (hj1 : j ≤ 100000000) : Calls Tryz.prog 119 #[v] w (RetIs w (.string (strOf (textB n)))) := by
  rcases Nat.eq_zero_or_pos n with rfl | hn0
  · obtain ⟨A, c, rfl, hr⟩ := id h
    rw [digs_zero, textB_zero]
    go_enter Tryz.func119, Tryz.ntmps119
    go_wp2
    go_ret
    exact ⟨rfl, Below.refl _ _⟩
  · rw [textB_pos hn0]
    obtain ⟨A, c, rfl, hr⟩ := id h
    have hl1 : (((digs b32 n).length : Int) == 0) = false := beq_eq_false_iff_ne.2 (by have := (digs_length_pos (n := n) two_le_b32).2 hn0; omega)
    have HL := bx (show (decB n).length ≤ 100000000 from Nat.le_trans (decL_of hj) hj1)
    generalize (digs b32 n).length = L at *
    obtain ⟨X, hX⟩ : ∃ X, decB n = X := ⟨_, rfl⟩
    rw [hX] at HL ⊢
    have HX := bx hX
    have HJ := bx hj
    clear hX hj hr
    go_enter Tryz.func119, Tryz.ntmps119
    go_wp2_with fail
    go_loopw [0, 3] (fun s0 s3 wr => ∃ (x : Nat) (S : List Nat), Num .u32 b32 wr s0 x ∧ s3 = .string (strOf S) ∧ Bx (X = decB x ++ S) ∧ Bx (Bd j x) ∧ Below w.heap.size w wr) (fun s0 _ wr => numOf32 wr s0)
    case atStart => exact ⟨n, [], h, rfl, bx (by rw [HX.out, List.append_nil]), HJ, Below.refl _ _⟩
    case round =>
      clear h HJ
      obtain ⟨x, S, hx, rfl, HS, HJ, hb⟩ := hrel
      rcases Nat.eq_zero_or_pos x with rfl | hx0
      · obtain ⟨A, c, rfl, hr⟩ := id hx
        rw [digs_zero] at hr ⊢
        have e := HS.out
        rw [decB_zero, List.nil_append] at e
        have E := bx e
        clear e
        go_wp2
        go_ret
        rw [E.out]
        exact ⟨rfl, hb⟩
      · obtain ⟨A, c, rfl, hr⟩ := id hx
        have hl2 : (0 : Int) < ((digs b32 x).length : Int) := by have := (digs_length_pos (n := x) two_le_b32).2 hx0; omega
        have hlen := hr.len
        have HX0 := bx hx0
        generalize (digs b32 x).length = L2 at *
        clear hr hx0
        go_wp2_with fail
        refine Calls.mono (byDigit_num wr _ x 1000000000 hx HJ.out (by omega) (by omega) (by unfold b32; omega)) ?_
        rintro e w2 ⟨vq, rfl, hq, hb2⟩
        have hb3 := hb.trans (hb2.mono hb.size)
        have HR := bx (show x % 1000000000 < 10 ^ 9 from Nat.mod_lt _ (by omega))
        have HD := bx (show x / 1000000000 * 10 ^ 9 + x % 1000000000 = x from by have := Nat.div_add_mod x 1000000000; omega)
        have HQ := bx (show Bd j (x / 1000000000) from HJ.out.le (Nat.div_le_self _ _))
        have HM := bx (show x / 1000000000 < x from Nat.div_lt_self HX0.out (by omega))
        have HNx := bx hx
        clear hx
        generalize x / 1000000000 = y at *
        generalize x % 1000000000 = r0 at *
        obtain ⟨A2, c2, rfl, hr2⟩ := id hq
        have hlen2 := hr2.len
        clear hr2
        go_wp2_with fail
        obtain ⟨wo, rfl⟩ : ∃ wo : World, wo = w2 := ⟨_, rfl⟩
        go_loop [3, 5, 6] (fun s3 s5 s6 => ∃ (k r : Nat) (T : List Nat), k ≤ 9 ∧ s6 = .int .i64 (k : Int) ∧ s5 = .int .u32 (r : Int) ∧ s3 = .string (strOf T) ∧ Bx (r < 10 ^ (9 - k)) ∧ Bx (X = decB (y * 10 ^ (9 - k) + r) ++ T)) (fun _ _ s6 => 9 - (intOf s6).toNat)
        case atStart => exact ⟨0, r0, S, by omega, rfl, rfl, rfl, HR, bx (by rw [Nat.sub_zero, HD.out]; exact HS.out)⟩
        case round =>
          clear HS HR HD
          obtain ⟨k, r, T, hk, rfl, rfl, rfl, HR, HT⟩ := hrel
          by_cases hk9 : k < 9
          · rcases Nat.eq_zero_or_pos y with rfl | hy0
            · rw [digs_zero] at *
              rcases Nat.eq_zero_or_pos r with rfl | hr0
              · have hk9' : (k : Int) < 9 := by omega
                go_wp2
                go_roundw
                case rel => exact ⟨0, T, hq, rfl, bx (by rw [HT.out]; simp), HQ, hb3⟩
                case measure => rw [Num.of_eq32 HNx.out, Num.of_eq32 hq]; exact HM.out
              · have hr0' : (0 : Int) < (r : Int) := by omega
                have hT := dig_step hk9 HT.out (by omega)
                have hTl : T.length ≤ 100000000 := by have h1 := HL.out; have h2 := congrArg List.length HT.out; rw [List.length_append] at h2; omega
                have HT2 := bx hT
                have hz := strOf_size T
                have hc := dig_cut (d := r % 10) (by omega)
                have HC := bx hc
                have hap := strOf_append [r % 10 + 48] T
                have HAP := bx hap
                have hm1 : (0 : Int) ≤ (r : Int) % 10 := by omega
                have hm2 : (r : Int) % 10 ≤ 9 := by omega
                have hrr : (r : Int) ≤ 4294967295 := by have h1 := HR.out; have h2 : 10 ^ (9 - k) ≤ 10 ^ 9 := Nat.pow_le_pow_right (by omega) (by omega); omega
                have HR2 := bx (rest_step (by omega) HR.out)
                have hk9' : (k : Int) < 9 := by omega
                clear hT hc hap
                go_wp2
                rw [HC.out, HAP.out]
                go_round
                case rel => exact ⟨k + 1, r / 10, (r % 10 + 48) :: T, by omega, by go_num, by go_num, rfl, bx (by have := HR2.out; rwa [show 9 - (k + 1) = 9 - k - 1 by omega]), HT2⟩
                case measure => simp [intOf]; omega
            · have hl3 : (0 : Int) < ((digs b32 y).length : Int) := by have := (digs_length_pos (n := y) two_le_b32).2 hy0; omega
              generalize (digs b32 y).length = L3 at *
              have hT := dig_step hk9 HT.out (by have := Nat.mul_pos hy0 (Nat.pow_pos (n := 9 - k) (show 0 < 10 by omega)); omega)
              have hTl : T.length ≤ 100000000 := by have h1 := HL.out; have h2 := congrArg List.length HT.out; rw [List.length_append] at h2; omega
              have HT2 := bx hT
              have hz := strOf_size T
              have hc := dig_cut (d := r % 10) (by omega)
              have HC := bx hc
              have hap := strOf_append [r % 10 + 48] T
              have HAP := bx hap
              have hm1 : (0 : Int) ≤ (r : Int) % 10 := by omega
              have hm2 : (r : Int) % 10 ≤ 9 := by omega
              have hrr : (r : Int) ≤ 4294967295 := by have h1 := HR.out; have h2 : 10 ^ (9 - k) ≤ 10 ^ 9 := Nat.pow_le_pow_right (by omega) (by omega); omega
              have HR2 := bx (rest_step (by omega) HR.out)
              have hk9' : (k : Int) < 9 := by omega
              clear hT hc hap
              go_wp2
              rw [HC.out, HAP.out]
              go_round
              case rel => exact ⟨k + 1, r / 10, (r % 10 + 48) :: T, by omega, by go_num, by go_num, rfl, bx (by have := HR2.out; rwa [show 9 - (k + 1) = 9 - k - 1 by omega]), HT2⟩
              case measure => simp [intOf]; omega
          · obtain rfl : k = 9 := by omega
            have hr0 : r = 0 := by have := HR.out; simpa using this
            subst hr0
            go_wp2
            go_roundw
            case rel => exact ⟨y, T, hq, rfl, bx (by rw [HT.out]; simp), HQ, hb3⟩
            case measure => rw [Num.of_eq32 HNx.out, Num.of_eq32 hq]; exact HM.out
end Wx

namespace Wx
set_option maxRecDepth 100000
open Go Go.RowKit Go.Proofs

set_option maxHeartbeats 1000000 in
theorem ntext_00 (w : World) (v : Value) (x : Rat) (hx : IsRef w v x) {j : Nat} (hj : BdR j x) (hj1 : j ≤ 100000000) (hn : ¬ x.num < 0) (hd : ¬ x.den = 1) : Calls Tryz.prog 75 #[v] w (RetIs w (.string (strOf (textR x)))) := by
  obtain ⟨vx1, vx2, rfl, hxa, hxb⟩ := id hx
  obtain ⟨Ax1, cx1, rfl, _⟩ := id hxa
  obtain ⟨Ax2, cx2, rfl, _⟩ := id hxb
  have HB := bx hj
  have hx0 := hx
  clear hx
  have hT : textR x = textB x.num.natAbs ++ 47 :: textB x.den := by unfold textR; rw [if_neg hn, if_neg hd]; simp
  rw [hT]
  rw [decide_eq_false hn] at hx0
  try rw [decide_eq_false hn]
  have hc : cmpI x.den 1 = 1 := by unfold cmpI; have := x.den_pos; rw [if_neg (by omega), if_pos (by omega)]
  have HC := bx hc
  have hl1 := textB_len hj.1
  have hl2 := textB_len hj.2
  have hz1 := strOf_size (textB x.num.natAbs)
  have hz2 := strOf_size (textB x.den)
  have hy2 : strOf (textB x.num.natAbs) ++ (⟨#[47]⟩ : ByteArray) = strOf (textB x.num.natAbs ++ [47]) := strOf_append (textB x.num.natAbs) [47]
  have hz5 : (strOf (textB x.num.natAbs ++ [47])).size = (textB x.num.natAbs).length + 1 := by rw [strOf_size]; simp
  have hy3 := strOf_append (textB x.num.natAbs ++ [47]) (textB x.den)
  have hq2 : (textB x.num.natAbs).length + 1 ≤ 9223372036854775807 := by omega
  have hq3 : (textB x.num.natAbs).length + 1 + 1 ≤ 9223372036854775807 := by omega
  have hq4 : (textB x.num.natAbs).length + 1 + (textB x.den).length ≤ 9223372036854775807 := by omega
  have hq5 : (textB x.num.natAbs).length + 1 + 1 + (textB x.den).length ≤ 9223372036854775807 := by omega
  have HY3 := bx hy3
  clear hy3
  clear hj hn hd hT hl1 hl2 hc hxb
  go_enter Tryz.func75, Tryz.ntmps75
  go_wp2_with fail
  obtain ⟨w1, e1, oP, b1, s1⟩ := layA w [.bool false, .slice Ax1 (digs b32 x.num.natAbs).length cx1, .slice Ax2 (digs b32 x.den).length cx2] 33
  rw [e1]
  clear e1
  replace hx0 := hx0.below b1
  replace hxa := hxa.below b1
  have B := b1
  clear b1
  refine Calls.mono (ndigits_num _ _ x.num.natAbs hxa HB.out.1 hj1) ?_
  rintro e w2 ⟨rfl, b2⟩
  replace hx0 := hx0.below b2
  replace hxa := hxa.below b2
  replace oP := oP.gone b2
  replace B := B.trans (b2.mono B.size)
  clear b2
  clear hxa
  have k1 := oP.cell (i := 0) rfl
  have k2 := oP.cell (i := 1) rfl
  have k3 := oP.cell (i := 2) rfl
  go_wp2_with fail
  clear k1 k2 k3
  refine Calls.mono (nunder_num _ _ x hx0) ?_
  rintro e w3 ⟨vu, rfl, hu, b3⟩
  replace hx0 := hx0.below b3
  replace oP := oP.gone b3
  replace B := B.trans (b3.mono B.size)
  clear b3
  go_wp2_with fail
  refine Calls.mono (nat_num _ 1 (by unfold b64; omega)) ?_
  rintro e w4 ⟨vo, rfl, ho, b4⟩
  replace hx0 := hx0.below b4
  replace oP := oP.gone b4
  replace hu := hu.below b4
  replace B := B.trans (b4.mono B.size)
  clear b4
  go_wp2_with fail
  have hc := order_num _ _ _ x.den 1 hu ho
  rw [HC.out] at hc
  refine Calls.mono (hc) ?_
  rintro e w5 ⟨rfl, b5⟩
  replace hx0 := hx0.below b5
  replace oP := oP.gone b5
  replace hu := hu.below b5
  replace ho := ho.below b5
  replace B := B.trans (b5.mono B.size)
  clear b5
  clear hc hu ho
  have k4 := oP.cell (i := 0) rfl
  have k5 := oP.cell (i := 1) rfl
  have k6 := oP.cell (i := 2) rfl
  go_wp2_with fail
  clear k4 k5 k6
  refine Calls.mono (nunder_num _ _ x hx0) ?_
  rintro e w6 ⟨vu, rfl, hu, b6⟩
  replace hx0 := hx0.below b6
  replace oP := oP.gone b6
  replace B := B.trans (b6.mono B.size)
  clear b6
  go_wp2_with fail
  refine Calls.mono (ndigits_num _ _ x.den hu HB.out.2 hj1) ?_
  rintro e w7 ⟨rfl, b7⟩
  replace hx0 := hx0.below b7
  replace oP := oP.gone b7
  replace hu := hu.below b7
  replace B := B.trans (b7.mono B.size)
  clear b7
  go_wp2
  go_ret
  rw [HY3.out]
  refine ⟨?_, B⟩
  simp

set_option maxHeartbeats 1000000 in
theorem ntext_01 (w : World) (v : Value) (x : Rat) (hx : IsRef w v x) {j : Nat} (hj : BdR j x) (hj1 : j ≤ 100000000) (hn : ¬ x.num < 0) (hd :  x.den = 1) : Calls Tryz.prog 75 #[v] w (RetIs w (.string (strOf (textR x)))) := by
  obtain ⟨vx1, vx2, rfl, hxa, hxb⟩ := id hx
  obtain ⟨Ax1, cx1, rfl, _⟩ := id hxa
  obtain ⟨Ax2, cx2, rfl, _⟩ := id hxb
  have HB := bx hj
  have hx0 := hx
  clear hx
  have hT : textR x = textB x.num.natAbs := by unfold textR; rw [if_neg hn, if_pos hd]; simp
  rw [hT]
  rw [decide_eq_false hn] at hx0
  try rw [decide_eq_false hn]
  have hc : cmpI x.den 1 = 0 := by unfold cmpI; have := x.den_pos; rw [if_neg (by omega), if_neg (by omega)]
  have HC := bx hc
  have hl1 := textB_len hj.1
  have hl2 := textB_len hj.2
  have hz1 := strOf_size (textB x.num.natAbs)
  have hz2 := strOf_size (textB x.den)
  clear hj hn hd hT hl1 hl2 hc hxb
  go_enter Tryz.func75, Tryz.ntmps75
  go_wp2_with fail
  obtain ⟨w1, e1, oP, b1, s1⟩ := layA w [.bool false, .slice Ax1 (digs b32 x.num.natAbs).length cx1, .slice Ax2 (digs b32 x.den).length cx2] 33
  rw [e1]
  clear e1
  replace hx0 := hx0.below b1
  replace hxa := hxa.below b1
  have B := b1
  clear b1
  refine Calls.mono (ndigits_num _ _ x.num.natAbs hxa HB.out.1 hj1) ?_
  rintro e w2 ⟨rfl, b2⟩
  replace hx0 := hx0.below b2
  replace hxa := hxa.below b2
  replace oP := oP.gone b2
  replace B := B.trans (b2.mono B.size)
  clear b2
  clear hxa
  have k1 := oP.cell (i := 0) rfl
  have k2 := oP.cell (i := 1) rfl
  have k3 := oP.cell (i := 2) rfl
  go_wp2_with fail
  clear k1 k2 k3
  refine Calls.mono (nunder_num _ _ x hx0) ?_
  rintro e w3 ⟨vu, rfl, hu, b3⟩
  replace hx0 := hx0.below b3
  replace oP := oP.gone b3
  replace B := B.trans (b3.mono B.size)
  clear b3
  go_wp2_with fail
  refine Calls.mono (nat_num _ 1 (by unfold b64; omega)) ?_
  rintro e w4 ⟨vo, rfl, ho, b4⟩
  replace hx0 := hx0.below b4
  replace oP := oP.gone b4
  replace hu := hu.below b4
  replace B := B.trans (b4.mono B.size)
  clear b4
  go_wp2_with fail
  have hc := order_num _ _ _ x.den 1 hu ho
  rw [HC.out] at hc
  refine Calls.mono (hc) ?_
  rintro e w5 ⟨rfl, b5⟩
  replace hx0 := hx0.below b5
  replace oP := oP.gone b5
  replace hu := hu.below b5
  replace ho := ho.below b5
  replace B := B.trans (b5.mono B.size)
  clear b5
  clear hc hu ho
  go_wp2
  go_ret
  exact ⟨rfl, B⟩

set_option maxHeartbeats 1000000 in
theorem ntext_10 (w : World) (v : Value) (x : Rat) (hx : IsRef w v x) {j : Nat} (hj : BdR j x) (hj1 : j ≤ 100000000) (hn :  x.num < 0) (hd : ¬ x.den = 1) : Calls Tryz.prog 75 #[v] w (RetIs w (.string (strOf (textR x)))) := by
  obtain ⟨vx1, vx2, rfl, hxa, hxb⟩ := id hx
  obtain ⟨Ax1, cx1, rfl, _⟩ := id hxa
  obtain ⟨Ax2, cx2, rfl, _⟩ := id hxb
  have HB := bx hj
  have hx0 := hx
  clear hx
  have hT : textR x = 45 :: (textB x.num.natAbs ++ 47 :: textB x.den) := by unfold textR; rw [if_pos hn, if_neg hd]; simp
  rw [hT]
  rw [decide_eq_true hn] at hx0
  try rw [decide_eq_true hn]
  have hc : cmpI x.den 1 = 1 := by unfold cmpI; have := x.den_pos; rw [if_neg (by omega), if_pos (by omega)]
  have HC := bx hc
  have hl1 := textB_len hj.1
  have hl2 := textB_len hj.2
  have hz1 := strOf_size (textB x.num.natAbs)
  have hz2 := strOf_size (textB x.den)
  have hy1 := cat_minus (textB x.num.natAbs)
  have hz4 := strOf_size (45 :: textB x.num.natAbs)
  have hq1 : 1 + (textB x.num.natAbs).length ≤ 9223372036854775807 := by omega
  have hy2 : strOf (45 :: textB x.num.natAbs) ++ (⟨#[47]⟩ : ByteArray) = strOf (45 :: (textB x.num.natAbs ++ [47])) := strOf_append (45 :: textB x.num.natAbs) [47]
  have hz5 : (strOf (45 :: (textB x.num.natAbs ++ [47]))).size = (textB x.num.natAbs).length + 1 + 1 := by rw [strOf_size]; simp
  have hy3 := strOf_append (45 :: (textB x.num.natAbs ++ [47])) (textB x.den)
  have hq2 : (textB x.num.natAbs).length + 1 ≤ 9223372036854775807 := by omega
  have hq3 : (textB x.num.natAbs).length + 1 + 1 ≤ 9223372036854775807 := by omega
  have hq4 : (textB x.num.natAbs).length + 1 + (textB x.den).length ≤ 9223372036854775807 := by omega
  have hq5 : (textB x.num.natAbs).length + 1 + 1 + (textB x.den).length ≤ 9223372036854775807 := by omega
  have HY3 := bx hy3
  clear hy3
  clear hj hn hd hT hl1 hl2 hc hxb
  go_enter Tryz.func75, Tryz.ntmps75
  go_wp2_with fail
  obtain ⟨w1, e1, oP, b1, s1⟩ := layA w [.bool true, .slice Ax1 (digs b32 x.num.natAbs).length cx1, .slice Ax2 (digs b32 x.den).length cx2] 33
  rw [e1]
  clear e1
  replace hx0 := hx0.below b1
  replace hxa := hxa.below b1
  have B := b1
  clear b1
  refine Calls.mono (ndigits_num _ _ x.num.natAbs hxa HB.out.1 hj1) ?_
  rintro e w2 ⟨rfl, b2⟩
  replace hx0 := hx0.below b2
  replace hxa := hxa.below b2
  replace oP := oP.gone b2
  replace B := B.trans (b2.mono B.size)
  clear b2
  clear hxa
  have k1 := oP.cell (i := 0) rfl
  have k2 := oP.cell (i := 1) rfl
  have k3 := oP.cell (i := 2) rfl
  go_wp2_with fail
  clear k1 k2 k3
  refine Calls.mono (nunder_num _ _ x hx0) ?_
  rintro e w3 ⟨vu, rfl, hu, b3⟩
  replace hx0 := hx0.below b3
  replace oP := oP.gone b3
  replace B := B.trans (b3.mono B.size)
  clear b3
  go_wp2_with fail
  refine Calls.mono (nat_num _ 1 (by unfold b64; omega)) ?_
  rintro e w4 ⟨vo, rfl, ho, b4⟩
  replace hx0 := hx0.below b4
  replace oP := oP.gone b4
  replace hu := hu.below b4
  replace B := B.trans (b4.mono B.size)
  clear b4
  go_wp2_with fail
  have hc := order_num _ _ _ x.den 1 hu ho
  rw [HC.out] at hc
  refine Calls.mono (hc) ?_
  rintro e w5 ⟨rfl, b5⟩
  replace hx0 := hx0.below b5
  replace oP := oP.gone b5
  replace hu := hu.below b5
  replace ho := ho.below b5
  replace B := B.trans (b5.mono B.size)
  clear b5
  clear hc hu ho
  have k4 := oP.cell (i := 0) rfl
  have k5 := oP.cell (i := 1) rfl
  have k6 := oP.cell (i := 2) rfl
  go_wp2_with fail
  clear k4 k5 k6
  refine Calls.mono (nunder_num _ _ x hx0) ?_
  rintro e w6 ⟨vu, rfl, hu, b6⟩
  replace hx0 := hx0.below b6
  replace oP := oP.gone b6
  replace B := B.trans (b6.mono B.size)
  clear b6
  go_wp2_with fail
  refine Calls.mono (ndigits_num _ _ x.den hu HB.out.2 hj1) ?_
  rintro e w7 ⟨rfl, b7⟩
  replace hx0 := hx0.below b7
  replace oP := oP.gone b7
  replace hu := hu.below b7
  replace B := B.trans (b7.mono B.size)
  clear b7
  go_wp2
  go_ret
  rw [HY3.out]
  refine ⟨?_, B⟩
  simp

set_option maxHeartbeats 1000000 in
theorem ntext_11 (w : World) (v : Value) (x : Rat) (hx : IsRef w v x) {j : Nat} (hj : BdR j x) (hj1 : j ≤ 100000000) (hn :  x.num < 0) (hd :  x.den = 1) : Calls Tryz.prog 75 #[v] w (RetIs w (.string (strOf (textR x)))) := by
  obtain ⟨vx1, vx2, rfl, hxa, hxb⟩ := id hx
  obtain ⟨Ax1, cx1, rfl, _⟩ := id hxa
  obtain ⟨Ax2, cx2, rfl, _⟩ := id hxb
  have HB := bx hj
  have hx0 := hx
  clear hx
  have hT : textR x = 45 :: (textB x.num.natAbs) := by unfold textR; rw [if_pos hn, if_pos hd]; simp
  rw [hT]
  rw [decide_eq_true hn] at hx0
  try rw [decide_eq_true hn]
  have hc : cmpI x.den 1 = 0 := by unfold cmpI; have := x.den_pos; rw [if_neg (by omega), if_neg (by omega)]
  have HC := bx hc
  have hl1 := textB_len hj.1
  have hl2 := textB_len hj.2
  have hz1 := strOf_size (textB x.num.natAbs)
  have hz2 := strOf_size (textB x.den)
  have hy1 := cat_minus (textB x.num.natAbs)
  have hz4 := strOf_size (45 :: textB x.num.natAbs)
  have hq1 : 1 + (textB x.num.natAbs).length ≤ 9223372036854775807 := by omega
  clear hj hn hd hT hl1 hl2 hc hxb
  go_enter Tryz.func75, Tryz.ntmps75
  go_wp2_with fail
  obtain ⟨w1, e1, oP, b1, s1⟩ := layA w [.bool true, .slice Ax1 (digs b32 x.num.natAbs).length cx1, .slice Ax2 (digs b32 x.den).length cx2] 33
  rw [e1]
  clear e1
  replace hx0 := hx0.below b1
  replace hxa := hxa.below b1
  have B := b1
  clear b1
  refine Calls.mono (ndigits_num _ _ x.num.natAbs hxa HB.out.1 hj1) ?_
  rintro e w2 ⟨rfl, b2⟩
  replace hx0 := hx0.below b2
  replace hxa := hxa.below b2
  replace oP := oP.gone b2
  replace B := B.trans (b2.mono B.size)
  clear b2
  clear hxa
  have k1 := oP.cell (i := 0) rfl
  have k2 := oP.cell (i := 1) rfl
  have k3 := oP.cell (i := 2) rfl
  go_wp2_with fail
  clear k1 k2 k3
  refine Calls.mono (nunder_num _ _ x hx0) ?_
  rintro e w3 ⟨vu, rfl, hu, b3⟩
  replace hx0 := hx0.below b3
  replace oP := oP.gone b3
  replace B := B.trans (b3.mono B.size)
  clear b3
  go_wp2_with fail
  refine Calls.mono (nat_num _ 1 (by unfold b64; omega)) ?_
  rintro e w4 ⟨vo, rfl, ho, b4⟩
  replace hx0 := hx0.below b4
  replace oP := oP.gone b4
  replace hu := hu.below b4
  replace B := B.trans (b4.mono B.size)
  clear b4
  go_wp2_with fail
  have hc := order_num _ _ _ x.den 1 hu ho
  rw [HC.out] at hc
  refine Calls.mono (hc) ?_
  rintro e w5 ⟨rfl, b5⟩
  replace hx0 := hx0.below b5
  replace oP := oP.gone b5
  replace hu := hu.below b5
  replace ho := ho.below b5
  replace B := B.trans (b5.mono B.size)
  clear b5
  clear hc hu ho
  go_wp2
  go_ret
  exact ⟨rfl, B⟩

theorem ntext_num (w : World) (v : Value) (x : Rat) (hx : IsRef w v x) {j : Nat} (hj : BdR j x) (hj1 : j ≤ 100000000) : Calls Tryz.prog 75 #[v] w (RetIs w (.string (strOf (textR x)))) := by
  by_cases hn : x.num < 0
  · by_cases hd : x.den = 1
    · exact ntext_11 w v x hx hj hj1 hn hd
    · exact ntext_10 w v x hx hj hj1 hn hd
  · by_cases hd : x.den = 1
    · exact ntext_01 w v x hx hj hj1 hn hd
    · exact ntext_00 w v x hx hj hj1 hn hd
end Wx
