import Derived.Test.YtlomlheajdgdoaaGreatProg
import Derived.Handy
import Derived.Test.YtlomlheajdgdoaaGreatJPairs0
import Derived.Test.YtlomlheajdgdoaaGreatJPairs1
import Derived.Test.YtlomlheajdgdoaaGreatJPairs22
import Derived.Test.YtlomlheajdgdoaaGreatJPairs23
import Derived.Test.YtlomlheajdgdoaaGreatJPairs26
import Derived.Test.YtlomlheajdgdoaaGreatCPairsRat1
import Derived.Test.YtlomlheajdgdoaaGreatJPairs9
import Derived.Test.YtlomlheajdgdoaaGreatJPairs18
import Derived.Test.YtlomlheajdgdoaaGreatJPairs5
import Derived.Test.YtlomlheajdgdoaaGreatJPairs33
import Derived.Test.YtlomlheajdgdoaaGreatJPairs10
import Derived.Test.YtlomlheajdgdoaaGreatCPairsNFloor
import Derived.Test.YtlomlheajdgdoaaGreatJPairs24
import Derived.Test.YtlomlheajdgdoaaGreatCPairsSem
import Derived.Test.YtlomlheajdgdoaaGreatCPairsSemOps
import Derived.Test.YtlomlheajdgdoaaGreatCPairsSemMem
import Derived.Test.YtlomlheajdgdoaaGreatCPairsSemCode
import Derived.Test.YtlomlheajdgdoaaGreatJPairs15
import Derived.Test.YtlomlheajdgdoaaGreatJPairs30
import Derived.Test.YtlomlheajdgdoaaGreatJPairs29
import Derived.KernelRfl
import Derived.Test.YtlomlheajdgdoaaGreatJPairs16
namespace Wx
set_option maxRecDepth 100000
open Go Go.RowKit Go.Proofs

theorem nw_step {l : List Nat} {k x : Nat} (hw : Wf b32 l) (hl : l.length ≤ 2) (hx : l[k]? = some x) : val b32 (l.drop k) = x + 4294967296 * val b32 (l.drop (k + 1)) ∧ val b32 (l.drop (k + 1)) < 4294967296 ∧ x < 4294967296 := by
  obtain ⟨hk, e⟩ := List.getElem?_eq_some_iff.1 hx
  refine ⟨by rw [drop_get_cons hx, val_cons]; rfl, ?_, hw x (List.mem_of_getElem? hx)⟩
  have h := val_lt (hw.drop (k + 1))
  rw [List.length_drop] at h
  have h2 : b32 ^ (l.length - (k + 1)) ≤ b32 ^ 1 := Nat.pow_le_pow_right (by unfold b32; omega) (by omega)
  rw [Nat.pow_one] at h2
  exact Nat.lt_of_lt_of_le h h2

set_option maxHeartbeats 1000000 in
theorem nwhole_den (w : World) (v : Value) (x : Rat) (hx : IsRef w v x) (hd : x.den ≠ 1) : Calls Tryz.prog 115 #[v] w (RetWhole w x) := by
  obtain ⟨vx1, vx2, rfl, hxa, hxb⟩ := id hx
  obtain ⟨Ax1, cx1, rfl, _⟩ := id hxa
  obtain ⟨Ax2, cx2, rfl, _⟩ := id hxb
  have hx0 := hx
  clear hx
  have hc : cmpI x.den 1 = 1 := by unfold cmpI; have := x.den_pos; rw [if_neg (by omega), if_pos (by omega)]
  have HC := bx hc
  clear hc
  have HW := bx (whole_den hd)
  clear hd
  go_enter Tryz.func115, Tryz.ntmps115
  go_wp2_with fail
  obtain ⟨w1, e1, oP, b1, s1⟩ := layA w [.bool (decide (x.num < 0)), .slice Ax1 (digs b32 x.num.natAbs).length cx1, .slice Ax2 (digs b32 x.den).length cx2] 33
  rw [e1]
  clear e1
  replace hx0 := hx0.below b1
  replace hxa := hxa.below b1
  have B := b1
  clear b1
  refine Calls.mono (nunder_num _ _ x hx0) ?_
  rintro e w2 ⟨vu, rfl, hu, b2⟩
  replace hx0 := hx0.below b2
  replace hxa := hxa.below b2
  replace oP := oP.gone b2
  replace B := B.trans (b2.mono B.size)
  clear b2
  go_wp2_with fail
  refine Calls.mono (nat_num _ 1 (by unfold b64; omega)) ?_
  rintro e w3 ⟨vo, rfl, ho, b3⟩
  replace hx0 := hx0.below b3
  replace hxa := hxa.below b3
  replace oP := oP.gone b3
  replace hu := hu.below b3
  replace B := B.trans (b3.mono B.size)
  clear b3
  go_wp2_with fail
  have hc := order_num _ _ _ x.den 1 hu ho
  rw [HC.out] at hc
  refine Calls.mono (hc) ?_
  rintro e w4 ⟨rfl, b4⟩
  replace hx0 := hx0.below b4
  replace hxa := hxa.below b4
  replace oP := oP.gone b4
  replace hu := hu.below b4
  replace ho := ho.below b4
  replace B := B.trans (b4.mono B.size)
  clear b4
  clear hc
  clear hu ho hx0
  have k1 := oP.cell (i := 0) rfl
  have k2 := oP.cell (i := 1) rfl
  have k3 := oP.cell (i := 2) rfl
  go_wp2
  go_ret2
  exact ret_whole HW.out B
set_option maxHeartbeats 1000000 in
theorem nwhole_big (w : World) (v : Value) (x : Rat) (hx : IsRef w v x) (hd : x.den = 1) (hl : 2 < (digs b32 x.num.natAbs).length) : Calls Tryz.prog 115 #[v] w (RetWhole w x) := by
  obtain ⟨vx1, vx2, rfl, hxa, hxb⟩ := id hx
  obtain ⟨Ax1, cx1, rfl, _⟩ := id hxa
  obtain ⟨Ax2, cx2, rfl, _⟩ := id hxb
  have hx0 := hx
  clear hx
  have hc : cmpI x.den 1 = 0 := by unfold cmpI; have := x.den_pos; rw [if_neg (by omega), if_neg (by omega)]
  have HC := bx hc
  clear hc
  have hbig : b64 ≤ x.num.natAbs := by
    have h1 := pow_digs_le (b := b32) two_le_b32 (n := x.num.natAbs) ((digs_length_pos two_le_b32).1 (by omega))
    have h2 : b32 ^ 2 ≤ b32 ^ ((digs b32 x.num.natAbs).length - 1) := Nat.pow_le_pow_right (by unfold b32; omega) (by omega)
    exact Nat.le_trans (Nat.le_trans (by unfold b64 b32; omega) h2) h1
  have HW := bx (show wholeB x = false ∧ wholeZ x = 0 from whole_big (by unfold b64 at hbig; omega))
  have hl2 : (2 : Int) < ((digs b32 x.num.natAbs).length : Int) := by omega
  have hlen : (digs b32 x.num.natAbs).length ≤ 9223372036854775807 := by obtain ⟨A, c, _, hr⟩ := id hxa; exact hr.len
  clear hbig hd hl
  go_enter Tryz.func115, Tryz.ntmps115
  go_wp2_with fail
  obtain ⟨w1, e1, oP, b1, s1⟩ := layA w [.bool (decide (x.num < 0)), .slice Ax1 (digs b32 x.num.natAbs).length cx1, .slice Ax2 (digs b32 x.den).length cx2] 33
  rw [e1]
  clear e1
  replace hx0 := hx0.below b1
  replace hxa := hxa.below b1
  have B := b1
  clear b1
  refine Calls.mono (nunder_num _ _ x hx0) ?_
  rintro e w2 ⟨vu, rfl, hu, b2⟩
  replace hx0 := hx0.below b2
  replace hxa := hxa.below b2
  replace oP := oP.gone b2
  replace B := B.trans (b2.mono B.size)
  clear b2
  go_wp2_with fail
  refine Calls.mono (nat_num _ 1 (by unfold b64; omega)) ?_
  rintro e w3 ⟨vo, rfl, ho, b3⟩
  replace hx0 := hx0.below b3
  replace hxa := hxa.below b3
  replace oP := oP.gone b3
  replace hu := hu.below b3
  replace B := B.trans (b3.mono B.size)
  clear b3
  go_wp2_with fail
  have hc := order_num _ _ _ x.den 1 hu ho
  rw [HC.out] at hc
  refine Calls.mono (hc) ?_
  rintro e w4 ⟨rfl, b4⟩
  replace hx0 := hx0.below b4
  replace hxa := hxa.below b4
  replace oP := oP.gone b4
  replace hu := hu.below b4
  replace ho := ho.below b4
  replace B := B.trans (b4.mono B.size)
  clear b4
  clear hc
  clear hu ho hx0
  have k1 := oP.cell (i := 0) rfl
  have k2 := oP.cell (i := 1) rfl
  have k3 := oP.cell (i := 2) rfl
  generalize (digs b32 x.num.natAbs).length = L at *
  go_wp2
  go_ret2
  exact ret_whole HW.out B
set_option maxHeartbeats 1000000 in
theorem nwhole_small (w : World) (v : Value) (x : Rat) (hx : IsRef w v x) (hd : x.den = 1) (hl : (digs b32 x.num.natAbs).length ≤ 2) : Calls Tryz.prog 115 #[v] w (RetWhole w x) := by
  obtain ⟨vx1, vx2, rfl, hxa, hxb⟩ := id hx
  obtain ⟨Ax1, cx1, rfl, _⟩ := id hxa
  obtain ⟨Ax2, cx2, rfl, _⟩ := id hxb
  have hx0 := hx
  clear hx
  have hc : cmpI x.den 1 = 0 := by unfold cmpI; have := x.den_pos; rw [if_neg (by omega), if_neg (by omega)]
  have HC := bx hc
  clear hc
  have HD := bx hd
  have hw := digs_wf two_le_b32 x.num.natAbs
  have hv := val_digs two_le_b32 x.num.natAbs
  have HV := bx hv
  have HL := bx hl
  clear hv hd
  go_enter Tryz.func115, Tryz.ntmps115
  go_wp2_with fail
  obtain ⟨w1, e1, oP, b1, s1⟩ := layA w [.bool (decide (x.num < 0)), .slice Ax1 (digs b32 x.num.natAbs).length cx1, .slice Ax2 (digs b32 x.den).length cx2] 33
  rw [e1]
  clear e1
  replace hx0 := hx0.below b1
  replace hxa := hxa.below b1
  have B := b1
  clear b1
  refine Calls.mono (nunder_num _ _ x hx0) ?_
  rintro e w2 ⟨vu, rfl, hu, b2⟩
  replace hx0 := hx0.below b2
  replace hxa := hxa.below b2
  replace oP := oP.gone b2
  replace B := B.trans (b2.mono B.size)
  clear b2
  go_wp2_with fail
  refine Calls.mono (nat_num _ 1 (by unfold b64; omega)) ?_
  rintro e w3 ⟨vo, rfl, ho, b3⟩
  replace hx0 := hx0.below b3
  replace hxa := hxa.below b3
  replace oP := oP.gone b3
  replace hu := hu.below b3
  replace B := B.trans (b3.mono B.size)
  clear b3
  go_wp2_with fail
  have hc := order_num _ _ _ x.den 1 hu ho
  rw [HC.out] at hc
  refine Calls.mono (hc) ?_
  rintro e w4 ⟨rfl, b4⟩
  replace hx0 := hx0.below b4
  replace hxa := hxa.below b4
  replace oP := oP.gone b4
  replace hu := hu.below b4
  replace ho := ho.below b4
  replace B := B.trans (b4.mono B.size)
  clear b4
  clear hc
  clear hu ho hx0
  obtain ⟨_, _, e0, hr⟩ := id hxa
  injection e0 with e1 _ e2
  subst e1 e2
  generalize digs b32 x.num.natAbs = l at *
  have hl2 : ¬ (2 : Int) < (l.length : Int) := by omega
  have hlen : l.length ≤ 9223372036854775807 := by omega
  clear hl
  have k1 := oP.cell (i := 0) rfl
  have k2 := oP.cell (i := 1) rfl
  have k3 := oP.cell (i := 2) rfl
  go_wp2_with fail
  go_loop [4, 5] (fun s4 s5 => ∃ i : Nat, i ≤ l.length ∧ s5 = .int .i64 ((i : Int) - 1) ∧ s4 = .int .u64 ((val b32 (l.drop i) : Nat) : Int)) (fun _ s5 => (intOf s5 + 1).toNat)
  case atStart => exact ⟨l.length, Nat.le_refl _, by go_num, by rw [List.drop_of_length_le (Nat.le_refl _)]; rfl⟩
  case round =>
    obtain ⟨i, hi, rfl, rfl⟩ := hrel
    rcases Nat.eq_zero_or_pos i with rfl | hpos
    · rw [show (((0 : Nat) : Int) - 1) = -1 by omega, List.drop_zero, HV.out]
      have hxb : x.num.natAbs < 18446744073709551616 := by
        have h := val_lt hw
        rw [HV.out] at h
        have h2 : b32 ^ l.length ≤ b32 ^ 2 := Nat.pow_le_pow_right (by unfold b32; omega) HL.out
        have h3 : b32 ^ 2 = 18446744073709551616 := by unfold b32; decide
        omega
      have hxn : ∃ y, x.num.natAbs = y := ⟨_, rfl⟩
      obtain ⟨y, hy⟩ := hxn
      rw [hy] at hxb ⊢
      have HXV := bx hy
      have HXB := bx hxb
      clear hy hxb
      by_cases hneg : x.num < 0
      · have HN := bx hneg
        rw [decide_eq_true hneg] at *
        clear hneg
        rcases Nat.lt_or_ge 9223372036854775808 y with hx1 | hx1
        · have hgt : decide ((9223372036854775808 : Int) < (y : Int)) = true := decide_eq_true (by omega)
          have HW := bx (show wholeB x = false ∧ wholeZ x = 0 by have h := natAbs_neg HXV.out HN.out; exact whole_big (by omega))
          clear hx1
          go_wp2
          go_ret2
          exact ret_whole HW.out B
        · have hgt : decide ((9223372036854775808 : Int) < (y : Int)) = false := decide_eq_false (by omega)
          have HW := bx (show wholeB x = true ∧ wholeZ x = -(y : Int) by have h := natAbs_neg HXV.out HN.out; have hW := whole_yes HD.out (by omega) (by omega); rwa [h] at hW)
          have W2 := bx (show wrap64 (IntKind.u64.wrap (-(y : Int))) = -(y : Int) by rw [IntKind.wrap_u64]; unfold wrap64; omega)
          clear hx1
          go_wp2
          go_ret2
          rw [W2.out]
          exact ret_whole HW.out B
      · have HN := bx hneg
        rw [decide_eq_false hneg] at *
        clear hneg
        rcases Nat.lt_or_ge y 9223372036854775808 with hx1 | hx1
        · have hgt : decide ((9223372036854775808 : Int) ≤ (y : Int)) = false := decide_eq_false (by omega)
          have HW := bx (show wholeB x = true ∧ wholeZ x = (y : Int) by have h := natAbs_pos HXV.out HN.out; have hW := whole_yes HD.out (by omega) (by omega); rwa [h] at hW)
          have W2 := bx (show wrap64 (y : Int) = (y : Int) by unfold wrap64; omega)
          clear hx1
          go_wp2
          go_ret2
          rw [W2.out]
          exact ret_whole HW.out B
        · have hgt : decide ((9223372036854775808 : Int) ≤ (y : Int)) = true := decide_eq_true (by omega)
          have HW := bx (show wholeB x = false ∧ wholeZ x = 0 by have h := natAbs_pos HXV.out HN.out; exact whole_big (by omega))
          clear hx1
          go_wp2
          go_ret2
          exact ret_whole HW.out B
    · obtain ⟨k, rfl⟩ : ∃ k, i = k + 1 := ⟨i - 1, by omega⟩
      rw [show (((k + 1 : Nat) : Int) - 1) = (k : Int) by omega]
      obtain ⟨b, o, y, rfl, hcx, HX⟩ := hr.get (i := k) (by omega)
      have hk0 : (0 : Int) ≤ (k : Int) := by omega
      have hk1 : (k : Int) < (l.length : Int) := by omega
      obtain ⟨s1, s2, s3⟩ := nw_step hw HL.out HX.out
      generalize val b32 (l.drop (k + 1)) = m at *
      have HS := bx s1
      have hm : (m : Int) ≤ 4294967295 := by omega
      have hy : (y : Int) ≤ 4294967295 := by omega
      clear s1 s2 s3
      go_wp2
      go_round
      case rel => exact ⟨k, by omega, rfl, by rw [HS.out]; go_num⟩
      case measure => simp [intOf]
theorem nwhole_num (w : World) (v : Value) (x : Rat) (hx : IsRef w v x) : Calls Tryz.prog 115 #[v] w (RetWhole w x) := by
  by_cases hd : x.den = 1
  · rcases Nat.lt_or_ge 2 (digs b32 x.num.natAbs).length with h | h
    · exact nwhole_big w v x hx hd h
    · exact nwhole_small w v x hx hd h
  · exact nwhole_den w v x hx hd
end Wx

namespace Wx
open Go Go.RowKit Go.Proofs

theorem cn_bits {n j : Nat} (hj : Bd j n) (hj1 : j ≤ 1000000000) : ∀ w v1, pNatR n w v1 → Calls Tryz.prog 112 #[v1] w (Ret (pI ((nbits n : Nat) : Int)) w) := fun w v1 h1 =>
  (bits_num w v1 n h1 hj hj1).mono fun _ _ ⟨h1, h2⟩ => ⟨_, h1, rfl, h2 ▸ Below.refl _ _⟩
theorem cn_under (x : Rat) : ∀ w v1, pRef x w v1 → Calls Tryz.prog 64 #[v1] w (Ret (pNatR x.den) w) := fun w v1 h1 => nunder_num w v1 x h1
theorem cn_abs (x : Rat) : ∀ w v1, pRef x w v1 → Calls Tryz.prog 114 #[v1] w (Ret (pRef (absR x)) w) := fun w v1 h1 => nabs_num w v1 x h1
theorem cn_floor {x : Rat} {j : Nat} (hx : BdR j x) (hj : j ≤ 1000000) : ∀ w v1, pRef x w v1 → Calls Tryz.prog 116 #[v1] w (Ret (pRef (floorR x)) w) := fun w v1 h1 => nfloor_num w v1 x h1 hx hj
theorem cn_whole (x : Rat) : ∀ w v1, pRef x w v1 → Calls Tryz.prog 115 #[v1] w (Ret (pTup2 (pI (wholeZ x)) (pB (wholeB x))) w) := fun w v1 h1 =>
  (nwhole_num w v1 x h1).mono fun _ _ ⟨h1, h2⟩ => ⟨_, h1, ⟨_, _, rfl, rfl, rfl⟩, h2⟩
end Wx

namespace Wx
open Go Go.RowKit Go.Proofs
set_option linter.unusedVariables false

def FracOk (n d : Int) : Prop := -9223372036854775808 ≤ n ∧ n ≤ 9223372036854775807 ∧ d ≤ 9223372036854775807
theorem bd_ok {n d : Int} (h : FracOk n d) : BdR 64 (ofR n d) := bd_ofR h.1 h.2.1 h.2.2
theorem c_of {n d : Int} {x : Rat} (e : x = ofR n d) (h : FracOk n d) : ∀ w v1, pFrac n d w v1 → Calls Tryz.prog 7 #[v1] w (Ret (pRat x) w) := fun w v1 h1 => by
  rw [pFrac_eq h1, e]
  exact of_num w n d h.1 h.2.1 h.2.2
theorem c_awake : ∀ w, Calls Tryz.prog 6 #[] w (Ret (pB true) w) := fun w => (awake_num w).mono fun _ _ => ret_is
theorem bd_int {z : Int} (h1 : -9223372036854775808 ≤ z) (h2 : z ≤ 9223372036854775807) : BdR 64 (z : Rat) := ⟨by unfold Bd; rw [Rat.num_intCast]; omega, by unfold Bd; rw [Rat.den_intCast]; omega⟩
theorem frac2_of (n1 d1 n2 d2 : Int) (w : World) : pS [⟨true, 2, pFrac n1 d1⟩, ⟨true, 2, pFrac n2 d2⟩] w (.agg #[.int .i64 n1, .int .i64 d1, .int .i64 n2, .int .i64 d2]) := pS_of (show pCells [⟨true, 2, pFrac n1 d1⟩, ⟨true, 2, pFrac n2 d2⟩] w [.int .i64 n1, .int .i64 d1, .int .i64 n2, .int .i64 d2] from ⟨by simp, pFrac_of n1 d1 w, by simp, pFrac_of n2 d2 w, rfl⟩)
theorem law_true {f : FuncId} {P : Program} {args : Array Value} {W : World} (h : Calls P f args W (RetB (fun _ _ => False) (pB true) W)) : Calls P f args W fun e w' => e = .returned (.bool true) ∧ Below W.heap.size W w' :=
  h.mono fun e w' h => by
    obtain ⟨v, rfl, hv, hb⟩ := h
    have : v = .bool true := hv.out
    exact ⟨by rw [this], hb⟩
end Wx
