import Derived.Test.YtlomlheajdgdoaaGreatProg
import Derived.Handy
import Derived.Test.YtlomlheajdgdoaaGreatJNears0
import Derived.Test.YtlomlheajdgdoaaGreatJNears1
import Derived.Test.YtlomlheajdgdoaaGreatJNears20
import Derived.Test.YtlomlheajdgdoaaGreatJNears21
import Derived.Test.YtlomlheajdgdoaaGreatJNears24
import Derived.Test.YtlomlheajdgdoaaGreatCRat1
import Derived.Test.YtlomlheajdgdoaaGreatJNears10
import Derived.Test.YtlomlheajdgdoaaGreatJNears13
import Derived.Test.YtlomlheajdgdoaaGreatJNears5
import Derived.Test.YtlomlheajdgdoaaGreatJNears35
import Derived.Test.YtlomlheajdgdoaaGreatJNears12
import Derived.Test.YtlomlheajdgdoaaGreatJNears25
import Derived.Test.YtlomlheajdgdoaaGreatCNFloor
import Derived.Test.YtlomlheajdgdoaaGreatJNears22
import Derived.Test.YtlomlheajdgdoaaGreatCSem
import Derived.Test.YtlomlheajdgdoaaGreatCSemOps
import Derived.Test.YtlomlheajdgdoaaGreatCSemMem
import Derived.Test.YtlomlheajdgdoaaGreatCSemCode
import Derived.Test.YtlomlheajdgdoaaGreatJNears30
import Derived.Test.YtlomlheajdgdoaaGreatJNears32
import Derived.Lib.BitFns
import Derived.KernelRfl
import Derived.Test.YtlomlheajdgdoaaGreatJNears8
import Derived.Test.YtlomlheajdgdoaaGreatJNears31
namespace Wx
open Go Go.RowKit Go.Proofs

theorem nw_step {l : List Nat} {k x : Nat} (hw : Wf b32 l) (hl : l.length ≤ 2) (hx : l[k]? = some x) : val b32 (l.drop k) = x + 4294967296 * val b32 (l.drop (k + 1)) ∧ val b32 (l.drop (k + 1)) < 4294967296 ∧ x < 4294967296 := by
  obtain ⟨hk, e⟩ := List.getElem?_eq_some_iff.1 hx
  refine ⟨by rw [drop_get_cons hx, val_cons]; rfl, ?_, hw x (List.mem_of_getElem? hx)⟩
  have h := val_lt (hw.drop (k + 1))
  rw [List.length_drop] at h
  have h2 : b32 ^ (l.length - (k + 1)) ≤ b32 ^ 1 := Nat.pow_le_pow_right (by unfold b32; omega) (by omega)
  rw [Nat.pow_one] at h2
  exact Nat.lt_of_lt_of_le h h2

set_option maxRecDepth 100000 in
set_option maxHeartbeats 1000000 in
theorem nwhole_den (w : World) (v : Value) (x : Rat) (hx : IsRef w v x) (hd : x.den ≠ 1) : Calls Tryz.prog 115 #[v] w (RetWhole w x) := by
  obtain ⟨vx1, vx2, rfl, hxa, hxb⟩ := id hx
  obtain ⟨Ax1, cx1, rfl, _⟩ := id hxa
  obtain ⟨Ax2, cx2, rfl, _⟩ := id hxb
  have hx0 := hx
  clear hx
  have hc : cmpI x.den 1 = 1 := by unfold cmpI; have := x.den_pos; rw [if_neg (by omega), if_pos (by omega)]
  have HC := bx hc
  clear hc
  have HW := bx (whole_den hd)
  clear hd
  go_enter Tryz.func115, Tryz.ntmps115
  go_wp2_with fail
  obtain ⟨w1, e1, oP, b1, s1⟩ := layA w [.bool (decide (x.num < 0)), .slice Ax1 (digs b32 x.num.natAbs).length cx1, .slice Ax2 (digs b32 x.den).length cx2] 33
  rw [e1]
  clear e1
  replace hx0 := hx0.below b1
  replace hxa := hxa.below b1
  have B := b1
  clear b1
  refine Calls.mono (nunder_num _ _ x hx0) ?_
  rintro e w2 ⟨vu, rfl, hu, b2⟩
  replace hx0 := hx0.below b2
  replace hxa := hxa.below b2
  replace oP := oP.gone b2
  replace B := B.trans (b2.mono B.size)
  clear b2
  go_wp2_with fail
  refine Calls.mono (nat_num _ 1 (by unfold b64; omega)) ?_
  rintro e w3 ⟨vo, rfl, ho, b3⟩
  replace hx0 := hx0.below b3
  replace hxa := hxa.below b3
  replace oP := oP.gone b3
  replace hu := hu.below b3
  replace B := B.trans (b3.mono B.size)
  clear b3
  go_wp2_with fail
  have hc := order_num _ _ _ x.den 1 hu ho
  rw [HC.out] at hc
  refine Calls.mono (hc) ?_
  rintro e w4 ⟨rfl, b4⟩
  replace hx0 := hx0.below b4
  replace hxa := hxa.below b4
  replace oP := oP.gone b4
  replace hu := hu.below b4
  replace ho := ho.below b4
  replace B := B.trans (b4.mono B.size)
  clear b4
  clear hc
  clear hu ho hx0
  have k1 := oP.cell (i := 0) rfl
  have k2 := oP.cell (i := 1) rfl
  have k3 := oP.cell (i := 2) rfl
  go_wp2
  go_ret2
  exact ret_whole HW.out B
set_option maxRecDepth 100000 in
set_option maxHeartbeats 1000000 in
theorem nwhole_big (w : World) (v : Value) (x : Rat) (hx : IsRef w v x) (hd : x.den = 1) (hl : 2 < (digs b32 x.num.natAbs).length) : Calls Tryz.prog 115 #[v] w (RetWhole w x) := by
  obtain ⟨vx1, vx2, rfl, hxa, hxb⟩ := id hx
  obtain ⟨Ax1, cx1, rfl, _⟩ := id hxa
  obtain ⟨Ax2, cx2, rfl, _⟩ := id hxb
  have hx0 := hx
  clear hx
  have hc : cmpI x.den 1 = 0 := by unfold cmpI; have := x.den_pos; rw [if_neg (by omega), if_neg (by omega)]
  have HC := bx hc
  clear hc
  have hbig : b64 ≤ x.num.natAbs := by
    have h1 := pow_digs_le (b := b32) two_le_b32 (n := x.num.natAbs) ((digs_length_pos two_le_b32).1 (by omega))
    have h2 : b32 ^ 2 ≤ b32 ^ ((digs b32 x.num.natAbs).length - 1) := Nat.pow_le_pow_right (by unfold b32; omega) (by omega)
    exact Nat.le_trans (Nat.le_trans (by unfold b64 b32; omega) h2) h1
  have HW := bx (show wholeB x = false ∧ wholeZ x = 0 from whole_big (by unfold b64 at hbig; omega))
  have hl2 : (2 : Int) < ((digs b32 x.num.natAbs).length : Int) := by omega
  have hlen : (digs b32 x.num.natAbs).length ≤ 9223372036854775807 := by obtain ⟨A, c, _, hr⟩ := id hxa; exact hr.len
  clear hbig hd hl
  go_enter Tryz.func115, Tryz.ntmps115
  go_wp2_with fail
  obtain ⟨w1, e1, oP, b1, s1⟩ := layA w [.bool (decide (x.num < 0)), .slice Ax1 (digs b32 x.num.natAbs).length cx1, .slice Ax2 (digs b32 x.den).length cx2] 33
  rw [e1]
  clear e1
  replace hx0 := hx0.below b1
  replace hxa := hxa.below b1
  have B := b1
  clear b1
  refine Calls.mono (nunder_num _ _ x hx0) ?_
  rintro e w2 ⟨vu, rfl, hu, b2⟩
  replace hx0 := hx0.below b2
  replace hxa := hxa.below b2
  replace oP := oP.gone b2
  replace B := B.trans (b2.mono B.size)
  clear b2
  go_wp2_with fail
  refine Calls.mono (nat_num _ 1 (by unfold b64; omega)) ?_
  rintro e w3 ⟨vo, rfl, ho, b3⟩
  replace hx0 := hx0.below b3
  replace hxa := hxa.below b3
  replace oP := oP.gone b3
  replace hu := hu.below b3
  replace B := B.trans (b3.mono B.size)
  clear b3
  go_wp2_with fail
  have hc := order_num _ _ _ x.den 1 hu ho
  rw [HC.out] at hc
  refine Calls.mono (hc) ?_
  rintro e w4 ⟨rfl, b4⟩
  replace hx0 := hx0.below b4
  replace hxa := hxa.below b4
  replace oP := oP.gone b4
  replace hu := hu.below b4
  replace ho := ho.below b4
  replace B := B.trans (b4.mono B.size)
  clear b4
  clear hc
  clear hu ho hx0
  have k1 := oP.cell (i := 0) rfl
  have k2 := oP.cell (i := 1) rfl
  have k3 := oP.cell (i := 2) rfl
  generalize (digs b32 x.num.natAbs).length = L at *
  go_wp2
  go_ret2
  exact ret_whole HW.out B
set_option maxRecDepth 100000 in
set_option maxHeartbeats 1000000 in
theorem nwhole_small (w : World) (v : Value) (x : Rat) (hx : IsRef w v x) (hd : x.den = 1) (hl : (digs b32 x.num.natAbs).length ≤ 2) : Calls Tryz.prog 115 #[v] w (RetWhole w x) := by
  obtain ⟨vx1, vx2, rfl, hxa, hxb⟩ := id hx
  obtain ⟨Ax1, cx1, rfl, _⟩ := id hxa
  obtain ⟨Ax2, cx2, rfl, _⟩ := id hxb
  have hx0 := hx
  clear hx
  have hc : cmpI x.den 1 = 0 := by unfold cmpI; have := x.den_pos; rw [if_neg (by omega), if_neg (by omega)]
  have HC := bx hc
  clear hc
  have HD := bx hd
  have hw := digs_wf two_le_b32 x.num.natAbs
  have hv := val_digs two_le_b32 x.num.natAbs
  have HV := bx hv
  have HL := bx hl
  clear hv hd
  go_enter Tryz.func115, Tryz.ntmps115
  go_wp2_with fail
  obtain ⟨w1, e1, oP, b1, s1⟩ := layA w [.bool (decide (x.num < 0)), .slice Ax1 (digs b32 x.num.natAbs).length cx1, .slice Ax2 (digs b32 x.den).length cx2] 33
  rw [e1]
  clear e1
  replace hx0 := hx0.below b1
  replace hxa := hxa.below b1
  have B := b1
  clear b1
  refine Calls.mono (nunder_num _ _ x hx0) ?_
  rintro e w2 ⟨vu, rfl, hu, b2⟩
  replace hx0 := hx0.below b2
  replace hxa := hxa.below b2
  replace oP := oP.gone b2
  replace B := B.trans (b2.mono B.size)
  clear b2
  go_wp2_with fail
  refine Calls.mono (nat_num _ 1 (by unfold b64; omega)) ?_
  rintro e w3 ⟨vo, rfl, ho, b3⟩
  replace hx0 := hx0.below b3
  replace hxa := hxa.below b3
  replace oP := oP.gone b3
  replace hu := hu.below b3
  replace B := B.trans (b3.mono B.size)
  clear b3
  go_wp2_with fail
  have hc := order_num _ _ _ x.den 1 hu ho
  rw [HC.out] at hc
  refine Calls.mono (hc) ?_
  rintro e w4 ⟨rfl, b4⟩
  replace hx0 := hx0.below b4
  replace hxa := hxa.below b4
  replace oP := oP.gone b4
  replace hu := hu.below b4
  replace ho := ho.below b4
  replace B := B.trans (b4.mono B.size)
  clear b4
  clear hc
  clear hu ho hx0
  obtain ⟨_, _, e0, hr⟩ := id hxa
  injection e0 with e1 _ e2
  subst e1 e2
  generalize digs b32 x.num.natAbs = l at *
  have hl2 : ¬ (2 : Int) < (l.length : Int) := by omega
  have hlen : l.length ≤ 9223372036854775807 := by omega
  clear hl
  have k1 := oP.cell (i := 0) rfl
  have k2 := oP.cell (i := 1) rfl
  have k3 := oP.cell (i := 2) rfl
  go_wp2_with fail
  go_loop [4, 5] (fun s4 s5 => ∃ i : Nat, i ≤ l.length ∧ s5 = .int .i64 ((i : Int) - 1) ∧ s4 = .int .u64 ((val b32 (l.drop i) : Nat) : Int)) (fun _ s5 => (intOf s5 + 1).toNat)
  case atStart => exact ⟨l.length, Nat.le_refl _, by go_num, by rw [List.drop_of_length_le (Nat.le_refl _)]; rfl⟩
  case round =>
    obtain ⟨i, hi, rfl, rfl⟩ := hrel
    rcases Nat.eq_zero_or_pos i with rfl | hpos
    · rw [show (((0 : Nat) : Int) - 1) = -1 by omega, List.drop_zero, HV.out]
      have hxb : x.num.natAbs < 18446744073709551616 := by
        have h := val_lt hw
        rw [HV.out] at h
        have h2 : b32 ^ l.length ≤ b32 ^ 2 := Nat.pow_le_pow_right (by unfold b32; omega) HL.out
        have h3 : b32 ^ 2 = 18446744073709551616 := by unfold b32; decide
        omega
      have hxn : ∃ y, x.num.natAbs = y := ⟨_, rfl⟩
      obtain ⟨y, hy⟩ := hxn
      rw [hy] at hxb ⊢
      have HXV := bx hy
      have HXB := bx hxb
      clear hy hxb
      by_cases hneg : x.num < 0
      · have HN := bx hneg
        rw [decide_eq_true hneg] at *
        clear hneg
        rcases Nat.lt_or_ge 9223372036854775808 y with hx1 | hx1
        · have hgt : decide ((9223372036854775808 : Int) < (y : Int)) = true := decide_eq_true (by omega)
          have HW := bx (show wholeB x = false ∧ wholeZ x = 0 by have h := natAbs_neg HXV.out HN.out; exact whole_big (by omega))
          clear hx1
          go_wp2
          go_ret2
          exact ret_whole HW.out B
        · have hgt : decide ((9223372036854775808 : Int) < (y : Int)) = false := decide_eq_false (by omega)
          have HW := bx (show wholeB x = true ∧ wholeZ x = -(y : Int) by have h := natAbs_neg HXV.out HN.out; have hW := whole_yes HD.out (by omega) (by omega); rwa [h] at hW)
          have W2 := bx (show wrap64 (IntKind.u64.wrap (-(y : Int))) = -(y : Int) by rw [IntKind.wrap_u64]; unfold wrap64; omega)
          clear hx1
          go_wp2
          go_ret2
          rw [W2.out]
          exact ret_whole HW.out B
      · have HN := bx hneg
        rw [decide_eq_false hneg] at *
        clear hneg
        rcases Nat.lt_or_ge y 9223372036854775808 with hx1 | hx1
        · have hgt : decide ((9223372036854775808 : Int) ≤ (y : Int)) = false := decide_eq_false (by omega)
          have HW := bx (show wholeB x = true ∧ wholeZ x = (y : Int) by have h := natAbs_pos HXV.out HN.out; have hW := whole_yes HD.out (by omega) (by omega); rwa [h] at hW)
          have W2 := bx (show wrap64 (y : Int) = (y : Int) by unfold wrap64; omega)
          clear hx1
          go_wp2
          go_ret2
          rw [W2.out]
          exact ret_whole HW.out B
        · have hgt : decide ((9223372036854775808 : Int) ≤ (y : Int)) = true := decide_eq_true (by omega)
          have HW := bx (show wholeB x = false ∧ wholeZ x = 0 by have h := natAbs_pos HXV.out HN.out; exact whole_big (by omega))
          clear hx1
          go_wp2
          go_ret2
          exact ret_whole HW.out B
    · obtain ⟨k, rfl⟩ : ∃ k, i = k + 1 := ⟨i - 1, by omega⟩
      rw [show (((k + 1 : Nat) : Int) - 1) = (k : Int) by omega]
      obtain ⟨b, o, y, rfl, hcx, HX⟩ := hr.get (i := k) (by omega)
      have hk0 : (0 : Int) ≤ (k : Int) := by omega
      have hk1 : (k : Int) < (l.length : Int) := by omega
      obtain ⟨s1, s2, s3⟩ := nw_step hw HL.out HX.out
      generalize val b32 (l.drop (k + 1)) = m at *
      have HS := bx s1
      have hm : (m : Int) ≤ 4294967295 := by omega
      have hy : (y : Int) ≤ 4294967295 := by omega
      clear s1 s2 s3
      go_wp2
      go_round
      case rel => exact ⟨k, by omega, rfl, by rw [HS.out]; go_num⟩
      case measure => simp [intOf]
theorem nwhole_num (w : World) (v : Value) (x : Rat) (hx : IsRef w v x) : Calls Tryz.prog 115 #[v] w (RetWhole w x) := by
  by_cases hd : x.den = 1
  · rcases Nat.lt_or_ge 2 (digs b32 x.num.natAbs).length with h | h
    · exact nwhole_big w v x hx hd h
    · exact nwhole_small w v x hx hd h
  · exact nwhole_den w v x hx hd
end Wx

namespace Wx
open Go Go.RowKit Go.Proofs

/-- A natural number of the reference. -/
def pNatR (n : Nat) : Pred := fun w v => Num .u32 b32 w v n
theorem numlike_natR (n : Nat) : Numlike (pNatR n) := fun _ _ _ hM h => num_box hM (.inr rfl) h
theorem fits_natR (n : Nat) : Fits 1 false (pNatR n) := by
  rintro w v ⟨A, c, rfl, _⟩
  refine ⟨[_], rfl, rfl, rfl, ?_⟩
  intro u hu
  simp at hu
  subst hu
  exact ⟨noU_slice _ _ _, rfl⟩
/-- A fraction's fields. -/
def refFs (q : Rat) : List Fd := [⟨false, 1, pB (decide (q.num < 0))⟩, ⟨false, 1, pNatR q.num.natAbs⟩, ⟨false, 1, pNatR q.den⟩]
theorem ref_S (q : Rat) : ∀ w v, pRef q w v → pS (refFs q) w v := by
  rintro w v ⟨vn, vd, rfl, h1, h2⟩
  exact pS_of' (cs := [.bool (decide (q.num < 0)), vn, vd]) ⟨by simp, rfl, by simp, h1, by simp, h2, rfl⟩
theorem S_ref (q : Rat) : ∀ w v, pS (refFs q) w v → pRef q w v := by
  rintro w v ⟨cs, rfl, hc⟩
  have hl := pCells_len hc
  match cs, hl, hc with
  | [x, y, z], _, hc =>
    obtain ⟨_, h1, _, h2, _, h3, _⟩ := hc
    have e1 : x = .bool (decide (q.num < 0)) := h1
    subst e1
    exact ⟨y, z, rfl, h2, h3⟩
theorem fits_refS (q : Rat) : Fits 3 true (pS (refFs q)) := fits_s (fs := refFs q) ⟨fits_bool _, fits_natR _, fits_natR _, trivial⟩ rfl
theorem cn_bits {n j : Nat} (hj : Bd j n) (hj1 : j ≤ 1000000000) : ∀ w v1, pNatR n w v1 → Calls Tryz.prog 112 #[v1] w (Ret (pI ((nbits n : Nat) : Int)) w) := fun w v1 h1 =>
  (bits_num w v1 n h1 hj hj1).mono fun _ _ ⟨h1, h2⟩ => ⟨_, h1, rfl, h2 ▸ Below.refl _ _⟩
theorem cn_under (x : Rat) : ∀ w v1, pRef x w v1 → Calls Tryz.prog 64 #[v1] w (Ret (pNatR x.den) w) := fun w v1 h1 => nunder_num w v1 x h1
theorem cn_abs (x : Rat) : ∀ w v1, pRef x w v1 → Calls Tryz.prog 114 #[v1] w (Ret (pRef (absR x)) w) := fun w v1 h1 => nabs_num w v1 x h1
theorem cn_floor {x : Rat} {j : Nat} (hx : BdR j x) (hj : j ≤ 1000000) : ∀ w v1, pRef x w v1 → Calls Tryz.prog 116 #[v1] w (Ret (pRef (floorR x)) w) := fun w v1 h1 => nfloor_num w v1 x h1 hx hj
theorem cn_whole (x : Rat) : ∀ w v1, pRef x w v1 → Calls Tryz.prog 115 #[v1] w (Ret (pTup2 (pI (wholeZ x)) (pB (wholeB x))) w) := fun w v1 h1 =>
  (nwhole_num w v1 x h1).mono fun _ _ ⟨h1, h2⟩ => ⟨_, h1, ⟨_, _, rfl, rfl, rfl⟩, h2⟩
end Wx

namespace Wx
open Go

theorem bitLen_nbits {x : Nat} (h : x < 2 ^ 64) : Lib.bitLen x = nbits x := by
  have key : ∀ f x, x < 2 ^ f → Lib.bitLenAux f x = nbits x := by
    intro f
    induction f with
    | zero =>
      intro x hx
      have h0 : x = 0 := by simpa using hx
      subst h0
      rfl
    | succ f ih =>
      intro x hx
      by_cases h0 : x = 0
      · subst h0; rfl
      · show (if x = 0 then 0 else 1 + Lib.bitLenAux f (x / 2)) = _
        rw [if_neg h0, ih (x / 2) (by rw [Nat.pow_succ] at hx; omega)]
        rcases Nat.eq_zero_or_pos (x / 2) with h1 | h1
        · have : x = 1 := by omega
          subst this
          rfl
        · have a1 := nbits_lt (x / 2)
          have a2 := nbits_le h1
          have a3 := nbits_pos h1
          have := nbits_unique (n := x) (k := nbits (x / 2)) (by
            obtain ⟨q, hq⟩ : ∃ q, nbits (x / 2) = q + 1 := ⟨nbits (x / 2) - 1, by omega⟩
            rw [hq, Nat.add_sub_cancel] at a2
            rw [hq, Nat.pow_succ]; omega) (by rw [Nat.pow_succ]; omega)
          omega
  exact key 64 x h
theorem nbits_digs64 {n t : Nat} (h0 : 0 < n) (ht : (digs b64 n)[(digs b64 n).length - 1]? = some t) : nbits n = 64 * ((digs b64 n).length - 1) + nbits t := by
  have hb : 2 ≤ b64 := by decide
  have key : ∀ n, 0 < n → ∀ t, (digs b64 n)[(digs b64 n).length - 1]? = some t → nbits n = 64 * ((digs b64 n).length - 1) + nbits t := by
    intro n
    induction n using Nat.strongRecOn with
    | _ n ih =>
      intro h0 t ht
      rw [digs_pos hb h0] at ht ⊢
      rcases Nat.eq_zero_or_pos (n / b64) with h1 | h1
      · rw [h1, digs_zero] at ht ⊢
        simp at ht
        have hlt : n < b64 := by
          rcases Nat.lt_or_ge n b64 with h | h
          · exact h
          · have := Nat.div_pos h (by decide); omega
        rw [Nat.mod_eq_of_lt hlt] at ht
        simp [ht]
      · have hl := (digs_length_pos hb (n := n / b64)).2 h1
        have hlt : n / b64 < n := Nat.div_lt_self h0 (by decide)
        simp only [List.length_cons, Nat.add_sub_cancel] at ht ⊢
        obtain ⟨q, hq⟩ : ∃ q, (digs b64 (n / b64)).length = q + 1 := ⟨(digs b64 (n / b64)).length - 1, by omega⟩
        rw [hq, List.getElem?_cons_succ] at ht
        have := ih (n / b64) hlt h1 t (by rw [hq, Nat.add_sub_cancel]; exact ht)
        rw [hq, Nat.add_sub_cancel] at this
        rw [hq]
        have a1 := nbits_lt (n / b64)
        have a2 := nbits_le h1
        have a3 := nbits_pos h1
        have e : nbits n = nbits (n / b64) + 64 := by
          have hd := Nat.div_add_mod n b64
          have hm := Nat.mod_lt n (show 0 < b64 by decide)
          have e64 : b64 = 2 ^ 64 := by decide
          have := nbits_unique (n := n) (k := nbits (n / b64) - 1 + 64) (by
            rw [Nat.pow_add, ← e64]
            calc 2 ^ (nbits (n / b64) - 1) * b64 ≤ n / b64 * b64 := Nat.mul_le_mul_right _ a2
              _ ≤ n := Nat.div_mul_le_self n b64) (by
            have e2 : nbits (n / b64) - 1 + 64 + 1 = nbits (n / b64) + 64 := by omega
            rw [e2, Nat.pow_add, ← e64]
            have : (n / b64 + 1) * b64 ≤ 2 ^ nbits (n / b64) * b64 := Nat.mul_le_mul_right _ a1
            rw [Nat.add_mul, Nat.one_mul, Nat.mul_comm] at this
            omega)
          omega
        omega
  exact key n h0 t ht
end Wx

namespace Wx
open Go Go.RowKit Go.Proofs

/-- A natural number of the program. -/
def pNum (n : Nat) : Pred := fun w v => Num .u64 b64 w v n
theorem numlike_num (n : Nat) : Numlike (pNum n) := fun _ _ _ hM h => num_box hM (.inl rfl) h
theorem fits_num (n : Nat) : Fits 1 false (pNum n) := by
  rintro w v ⟨A, c, rfl, _⟩
  refine ⟨[_], rfl, rfl, rfl, ?_⟩
  intro u hu
  simp at hu
  subst hu
  exact ⟨noU_slice _ _ _, rfl⟩
theorem pNum_eq {m n : Nat} (h : m = n) : ∀ w v, pNum m w v → pNum n w v := fun _ _ k => h ▸ k
/-- A fraction's fields. -/
def ratFs (q : Rat) : List Fd := [⟨false, 1, pB (decide (q.num < 0))⟩, ⟨false, 1, pNum q.num.natAbs⟩, ⟨false, 1, pNum (denOf q.den)⟩]
theorem rat_S (q : Rat) : ∀ w v, pRat q w v → pS (ratFs q) w v := by
  rintro w v ⟨vn, vd, rfl, h1, h2⟩
  exact pS_of' (cs := [.bool (decide (q.num < 0)), vn, vd]) ⟨by simp, rfl, by simp, h1, by simp, h2, rfl⟩
theorem S_rat (q : Rat) : ∀ w v, pS (ratFs q) w v → pRat q w v := by
  rintro w v ⟨cs, rfl, hc⟩
  have hl := pCells_len hc
  match cs, hl, hc with
  | [x, y, z], _, hc =>
    obtain ⟨_, h1, _, h2, _, h3, _⟩ := hc
    have e1 : x = .bool (decide (q.num < 0)) := h1
    subst e1
    exact ⟨y, z, rfl, h2, h3⟩
theorem fits_ratS (q : Rat) : Fits 3 true (pS (ratFs q)) := fits_s (fs := ratFs q) ⟨fits_bool _, fits_num _, fits_num _, trivial⟩ rfl
theorem ret_num {w : World} {n : Nat} {e : Ending} {w' : World} (h : RetNum .u64 b64 w n e w') : Ret (pNum n) w e w' := h
theorem c_left {m j : Nat} (hj : Bd j m) (hj1 : j ≤ 1000000000) {k : Int} (hk0 : 0 ≤ k) (hk : k ≤ 1000000000) : ∀ w v1 v2, pNum m w v1 → pI k w v2 → Calls Tryz.prog 72 #[v1, v2] w (Ret (pNum (m * 2 ^ k.toNat)) w) := fun w v1 v2 h1 h2 => by
  have h2 : v2 = .int .i64 k := h2
  have e : ((k.toNat : Nat) : Int) = k := Int.toNat_of_nonneg hk0
  rw [h2]
  have := left_num w v1 m k.toNat h1 hj hj1 (by omega)
  rw [e] at this
  exact this.mono fun _ _ => ret_num
theorem c_divide {m n j : Nat} (hj : Bd j m) (hj1 : j ≤ 100000000) (h0 : 0 < n) : ∀ w v1 v2, pNum m w v1 → pNum n w v2 → Calls Tryz.prog 103 #[v1, v2] w (Ret (pTup2 (pNum (m / n)) (pNum (m % n))) w) := fun w v1 v2 h1 h2 =>
  (divide_num w v1 v2 m n h1 h2 h0 hj hj1).mono fun _ _ ⟨u1, u2, e, k1, k2, k3⟩ => ⟨_, e, ⟨u1, u2, rfl, k1, k2⟩, k3⟩
theorem c_lcmp (m n : Nat) : ∀ w v1 v2, pNum m w v1 → pNum n w v2 → Calls Tryz.prog 121 #[v1, v2] w (Ret (pI (cmpI m n)) w) := fun w v1 v2 h1 h2 => (cmp_num w v1 v2 m n h1 h2).mono fun _ _ h => ⟨_, h.1, rfl, h.2⟩
theorem c_plus {m n j k : Nat} (hj : Bd j m) (hk : Bd k n) (hj1 : j ≤ 1000000000) (hk1 : k ≤ 1000000000) : ∀ w v1 v2, pNum m w v1 → pNum n w v2 → Calls Tryz.prog 120 #[v1, v2] w (Ret (pNum (m + n)) w) := fun w v1 v2 h1 h2 => (plus_num w v1 v2 m n h1 h2 hj hk hj1 hk1).mono fun _ _ => ret_num
theorem c_under {d : Nat} (hd : 0 < d) : ∀ w v1, pNum (denOf d) w v1 → Calls Tryz.prog 62 #[v1] w (Ret (pNum d) w) := fun w v1 h1 => (under_num w v1 d h1 hd).mono fun _ _ => ret_num
theorem c_word {n : Nat} (hn : n < b64) : ∀ w v1, pEq (.int .u64 (n : Int)) w v1 → Calls Tryz.prog 71 #[v1] w (Ret (pNum n) w) := fun w v1 h1 => by
  have h1 : v1 = .int .u64 (n : Int) := h1
  rw [h1]
  exact (word_num w n hn).mono fun _ _ => ret_num
/-- A number as a slice. -/
theorem num_row (n : Nat) : ∀ w v, pNum n w v → pRow 1 false (digs b64 n).length (fun i => pEq (.int .u64 (((digs b64 n).getD i 0 : Nat) : Int))) w v := by
  rintro w v ⟨A, c, rfl, h1, h2, h3⟩
  refine ⟨A, c, rfl, h1, h2, fun hpos => ?_⟩
  obtain ⟨b, o, e, hc⟩ := h3 (by rintro h; rw [h] at hpos; exact absurd hpos (Nat.lt_irrefl 0))
  refine ⟨b, o, e, fun i hi => ⟨[_], rfl, fun j u hj => ?_, rfl⟩⟩
  have hj0 : j = 0 := by
    rcases Nat.eq_zero_or_pos j with h | h
    · exact h
    · rw [List.getElem?_eq_none (by simp; omega)] at hj; cases hj
  subst hj0
  simp at hj
  subst hj
  rw [Nat.mul_one, Nat.add_zero]
  exact hc i hi
section
variable {P : Program} {ops : Array Oper} {ms : List Nat} {c : Cfg} {V : List Vr} {A : List Al} {G : List Ent} {i : Nat} {L : Nat → Bool} {β : Nat → Nat → Prop} {a : Act} {w : World} {o : Oper}
variable {d : Nat} {x y z : Operand} {ty : TypeId} {pos : String} {aft : Array Edge}
/-- A cell whose value is known is read. -/
theorem op_loadEq {T : TypeId} {v : Value} (h : Has ms G i x (pPtr 1 false (pEq v))) (ht : Ty P T false 1) (hp : Post G i (pEq v)) : OpOk P ops ms c V A G i ⟨some d, .load T x, ty, pos, aft, none⟩ :=
  op_val1 rfl rfl rfl rfl h hp fun ρ w h => by
    obtain ⟨b, o, cs, e, hl, hc, hv⟩ := h
    refine ⟨wrapV false cs, ?_, fun _ _ => hv⟩
    show (do pure (Next.value (← Instr.loadAt T (ρ x)))).run P w = _
    rw [e, Sem.run_bind, run_load_at ht hc hl]
    rfl
end
end Wx
