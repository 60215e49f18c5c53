import Derived.Test.YtncpoijmhgihjaaProg
import Derived.Test.YtncpoijmhgihjaaShelf
import Derived.Test.YtncpoijmhgihjaaPlain1
import Derived.Test.YtncpoijmhgihjaaMem
import Derived.Test.YtncpoijmhgihjaaJIncludes3
namespace Wx
open Go Go.RowKit Go.Proofs

theorem mul64_num (x y : Nat) (hx : x < b64) (hy : y < b64) (w : World) :
    Calls Try.prog 69 #[.int .u64 x, .int .u64 y] w fun e w' => e = .returned (.tuple #[.int .u64 (muHi x y : Nat), .int .u64 (muLo x y : Nat)]) ∧ w = w' := by
  refine (Try.bits_Mul64 x y (by simpa [b64] using hx) (by simpa [b64] using hy) w).mono fun e w' ⟨he, hw⟩ => ⟨?_, hw.symm⟩
  unfold muHi muLo
  exact he
theorem add64_z {x y c : Operand} {ops : Array Oper} {Q : Exit → Act → World → Prop} {o : Oper} {rest : List Oper} {a : Act} {w : World} {X Y : Nat}
    (hx : a.eval x = .int .u64 X) (hy : a.eval y = .int .u64 Y) (hc : a.eval c = .int .u64 0)
    (hK : wpList Try.prog ops Q rest (a.put o.dst (.tuple #[.int .u64 (adLo X Y : Nat), .int .u64 (adHi X Y : Nat)])) w) : Ext3 Try.prog 70 x y c ops Q o rest a w :=
  add64z_ext Try.func70 (by kernel_rfl) (by kernel_rfl) (by kernel_rfl) (by kernel_rfl) hx hy hc hK
theorem isOne_yes (w : World) (v : Value) (h : Num .u64 b64 w v 1) : Calls Try.prog 68 #[v] w fun e w' => e = .returned (.bool true) ∧ w = w' := isOne_num w v 1 h
theorem isOne_no (w : World) (v : Value) (n : Nat) (h : Num .u64 b64 w v n) (hn : n ≠ 1) : Calls Try.prog 68 #[v] w fun e w' => e = .returned (.bool false) ∧ w = w' := by
  have := isOne_num w v n h
  rwa [decide_eq_false hn] at this

/-- The carry of one round. -/
theorem mul_carry {x y u c : Nat} (hx : x < b64) (hy : y < b64) (hu : u < b64) (hc : c < b64) :
    adLo (adLo (muLo x y) u) c + b64 * (muHi x y + adHi (muLo x y) u + adHi (adLo (muLo x y) u) c) = x * y + u + c ∧
    muHi x y + adHi (muLo x y) u < 18446744073709551616 ∧ muHi x y + adHi (muLo x y) u + adHi (adLo (muLo x y) u) c < b64 := by
  have h1 := mu_spec x y
  have h2 := ad_spec (muLo x y) u
  have h3 := ad_spec (adLo (muLo x y) u) c
  have h4 := adLo_lt (adLo (muLo x y) u) c
  have hxy : x * y ≤ 18446744073709551615 * 18446744073709551615 := Nat.mul_le_mul (by unfold b64 at hx; omega) (by unfold b64 at hy; omega)
  unfold b64 at *
  generalize x * y = p at *
  generalize adLo (muLo x y) u = q at *
  omega

theorem times_round {w0 wr : World} {g : Nat} {o b : List Nat} {i k c vx vy vu s N : Nat} (hk : k < b.length) (hc : c < b64) (hol : o.length = N) (hwo : Wf b64 o) (hx : vx < b64) (hy : vy < b64) (hu : vu < b64)
    (hr : Row wr .u64 81 g o) (hg : w0.heap.size ≤ g) (hbl : Below w0.heap.size w0 wr) (hz : ∀ p, i + b.length ≤ p → o.getD p 0 = 0) (hval : val b64 o + b64 ^ (i + k) * c = s + b64 ^ i * (vx * val b64 (b.take k)))
    (HU : o[i + k]? = some vu) (HY : b[k]? = some vy) :
    ∃ (c' : Nat) (o' : List Nat), IntKind.u64.wrap (IntKind.u64.wrap ((muHi vx vy : Nat) + (adHi (muLo vx vy) vu : Nat)) + (adHi (adLo (muLo vx vy) vu) c : Nat)) = (c' : Int) ∧ c' < b64 ∧ o'.length = N ∧ Wf b64 o' ∧
      Row (wr.setCell ⟨g, i + k, none⟩ (.int .u64 (adLo (adLo (muLo vx vy) vu) c : Nat))) .u64 81 g o' ∧ Below w0.heap.size w0 (wr.setCell ⟨g, i + k, none⟩ (.int .u64 (adLo (adLo (muLo vx vy) vu) c : Nat))) ∧
      (∀ p, i + b.length ≤ p → o'.getD p 0 = 0) ∧ val b64 o' + b64 ^ (i + (k + 1)) * c' = s + b64 ^ i * (vx * val b64 (b.take (k + 1))) := by
  obtain ⟨e1, e2, e3⟩ := mul_carry hx hy hu hc
  refine ⟨_, o.set (i + k) (adLo (adLo (muLo vx vy) vu) c), ?_, e3, by simp [hol], hwo.set (adLo_lt _ _), hr.set _ _, hbl.setCell hg _, ?_, mul_step hval HU HY e1⟩
  · rw [wrap_u64 (n := ((muHi vx vy : Nat) : Int) + (adHi (muLo vx vy) vu : Nat)) (by omega) (by omega), wrap_u64 (by omega) (by unfold b64 at e3; omega)]
    omega
  · intro p hp
    rw [getD_set_ne (by omega)]; exact hz p hp
theorem times_row {w0 wr : World} {g : Nat} {o o0 a b : List Nat} {i c vx n N : Nat} (hc : c < b64) (hi : i < a.length) (hN : N = a.length + b.length) (hol : o.length = N) (hwo : Wf b64 o)
    (hr : Row wr .u64 81 g o) (hg : w0.heap.size ≤ g) (hbl : Below w0.heap.size w0 wr) (hz : ∀ p, i + b.length ≤ p → o.getD p 0 = 0) (hval : val b64 o + b64 ^ (i + b.length) * c = val b64 o0 + b64 ^ i * (vx * val b64 (b.take b.length)))
    (h0 : val b64 o0 = val b64 (a.take i) * n) (hb : val b64 b = n) (hx : a[i]? = some vx) :
    ∃ o' : List Nat, o'.length = N ∧ Wf b64 o' ∧ Row (wr.setCell ⟨g, i + b.length, none⟩ (.int .u64 (c : Nat))) .u64 81 g o' ∧ Below w0.heap.size w0 (wr.setCell ⟨g, i + b.length, none⟩ (.int .u64 (c : Nat))) ∧
      (∀ p, i + 1 + b.length ≤ p → o'.getD p 0 = 0) ∧ val b64 o' = val b64 (a.take (i + 1)) * n := by
  refine ⟨o.set (i + b.length) c, by simp [hol], hwo.set hc, hr.set _ _, hbl.setCell hg _, ?_, ?_⟩
  · intro p hp
    rw [getD_set_ne (by omega)]; exact hz p (by omega)
  · have hu : o[i + b.length]? = some 0 := by
      have := hz (i + b.length) (Nat.le_refl _)
      rw [List.getD_eq_getElem?_getD, List.getElem?_eq_getElem (by omega)] at this
      rw [List.getElem?_eq_getElem (by omega)]
      simpa using this
    have h1 := val_set (b := b64) hu c
    rw [Nat.mul_zero, Nat.add_zero] at h1
    rw [h1, hval, h0, val_take_get hx, List.take_length, hb, Nat.add_mul, Nat.mul_assoc]

set_option maxHeartbeats 1000000 in
theorem times_num (w : World) (v1 v2 : Value) (m n : Nat) (h1 : Num .u64 b64 w v1 m) (h2 : Num .u64 b64 w v2 n) {j k : Nat} (hj : Bd j m) (hk : Bd k n) (hj1 : j ≤ 1000000000) (hk1 : k ≤ 1000000000) :
    Calls Try.prog 46 #[v1, v2] w (RetNum .u64 b64 w (m * n)) := by
  by_cases hm1 : m = 1
  · subst hm1
    have h0 := h1
    obtain ⟨A, c, rfl, _⟩ := h1
    go_enter Try.func46, Try.ntmps46
    go_wp2_with (go_at_call 68; refine (isOne_yes _ _ h0).mono ?_; rintro e w' ⟨rfl, rfl⟩)
    go_ret
    exact ⟨v2, rfl, by rw [Nat.one_mul]; exact h2, Below.refl _ _⟩
  · by_cases hn1 : n = 1
    · subst hn1
      go_enter Try.func46, Try.ntmps46
      go_wp2_with fail
      refine (isOne_no _ _ _ h1 hm1).mono ?_
      rintro e w' ⟨rfl, rfl⟩
      go_wp2_with fail
      refine (isOne_yes _ _ h2).mono ?_
      rintro e w' ⟨rfl, rfl⟩
      go_wp2
      go_ret
      exact ⟨v1, rfl, by rw [Nat.mul_one]; exact h1, Below.refl _ _⟩
    · have g1 := h1
      have g2 := h2
      obtain ⟨A, c, rfl, ha⟩ := h1
      obtain ⟨B, d, rfl, hb⟩ := h2
      have hla := len64 hj
      have hlb := len64 hk
      have hva := val_digs two_le_b64 m
      have hvb := val_digs two_le_b64 n
      have wa := digs_wf two_le_b64 m
      have wb := digs_wf two_le_b64 n
      clear hj hk
      go_enter Try.func46, Try.ntmps46
      go_wp2_with fail
      refine (isOne_no _ _ _ g1 hm1).mono ?_
      rintro e w' ⟨rfl, rfl⟩
      go_wp2_with fail
      refine (isOne_no _ _ _ g2 hn1).mono ?_
      rintro e w' ⟨rfl, rfl⟩
      clear g1 g2
      generalize digs b64 m = a at *
      generalize digs b64 n = b at *
      have VA := Lib.hid hva
      have VB := Lib.hid hvb
      clear hva hvb
      go_wp2_with (at_make; refine wpList_mk _ rfl _ _ _ rfl .u64 81 Try.underlying25 i64row _ _ rfl rfl (by omega) (by omega) (by omega) ?_; intro w1 hrow hbel hsz)
      rw [show ((a.length : Int) + (b.length : Int)).toNat = a.length + b.length by omega] at hrow
      have hla1 : a.length ≤ 1000000000 := by omega
      have hlb1 : b.length ≤ 1000000000 := by omega
      clear hla hlb
      go_loopw [28] (fun s28 wr => ∃ (i : Nat) (o : List Nat), i ≤ a.length ∧ s28 = .int .i64 i ∧ o.length = a.length + b.length ∧ Wf b64 o ∧ Row wr .u64 81 w.heap.size o ∧ Below w.heap.size w wr ∧ (∀ p, i + b.length ≤ p → o.getD p 0 = 0) ∧ val b64 o = val b64 (a.take i) * n)
        (fun s28 _ => a.length - (intOf s28).toNat)
      case atStart => exact ⟨0, List.replicate (a.length + b.length) 0, by omega, rfl, by simp, Wf.replicate (by unfold b64; omega) _, hrow, hbel, fun p _ => by simp [List.getD_eq_getElem?_getD, List.getElem?_replicate]; split <;> rfl, by rw [val_replicate]; simp [val]⟩
      case round =>
        obtain ⟨i, o, hi, rfl, hol, hwo, hr, hbl, hz, hval⟩ := hrel
        have HVAL := Lib.hid hval
        have HOL := Lib.hid hol
        have HZ := Lib.hid hz
        clear hval hol hz hrow hbel hsz
        by_cases hlt : i < a.length
        · obtain ⟨bx, ox, vx, rfl, hcx, HVX⟩ := (ha.below hbl).get hlt
          have hvx : vx < b64 := wa _ (List.mem_of_getElem? HVX.out)
          have HLX := Lib.hid hvx
          clear hvx
          go_wp2_with fail
          obtain ⟨wo, rfl⟩ : ∃ wo : World, wo = wr := ⟨_, rfl⟩
          go_loopw [8, 35] (fun s8 s35 wr => ∃ (k c : Nat) (o' : List Nat), k ≤ b.length ∧ s35 = .int .i64 k ∧ s8 = .int .u64 c ∧ c < b64 ∧ o'.length = a.length + b.length ∧ Wf b64 o' ∧ Row wr .u64 81 w.heap.size o' ∧ Below w.heap.size w wr ∧ (∀ p, i + b.length ≤ p → o'.getD p 0 = 0) ∧ val b64 o' + b64 ^ (i + k) * c = val b64 o + b64 ^ i * (vx * val b64 (b.take k)))
            (fun _ s35 _ => b.length - (intOf s35).toNat)
          case atStart => exact ⟨0, 0, o, by omega, rfl, rfl, by unfold b64; omega, HOL.out, hwo, hr, hbl, HZ.out, by simp [val]⟩
          case round =>
            obtain ⟨k, c, o', hk, rfl, rfl, hc, hol', hwo', hr', hbl', hz', hval'⟩ := hrel
            have HVAL' := Lib.hid hval'
            have HOL' := Lib.hid hol'
            have HZ' := Lib.hid hz'
            have HC := Lib.hid hc
            clear hval' hol' hz' hc
            by_cases hlk : k < b.length
            · obtain ⟨by_, oy, vy, rfl, hcy, HVY⟩ := (hb.below hbl').get hlk
              obtain ⟨vu, hcu, HVU⟩ := hr'.get (i := i + k) (by have := HOL'.out; omega)
              have hcf := hr'.frozen (i + k)
              have hvy : vy < b64 := wb _ (List.mem_of_getElem? HVY.out)
              have hvu : vu < b64 := hwo' _ (List.mem_of_getElem? HVU.out)
              have HLY := Lib.hid hvy
              have HLU := Lib.hid hvu
              clear hvy hvu
              go_wp2_with (first | (go_at_call 69; refine (mul64_num vx vy HLX.out HLY.out _).mono ?_; rintro e w' ⟨rfl, rfl⟩) | ((with_reducible refine at_ext3 70 rfl rfl ?_); refine add64_z rfl rfl rfl ?_))
              go_roundw
              case rel =>
                obtain ⟨c', o2, e, r⟩ := times_round hlk HC.out HOL'.out hwo' HLX.out HLY.out HLU.out hr' (Nat.le_refl _) hbl' HZ'.out HVAL'.out HVU.out HVY.out
                exact ⟨k + 1, c', o2, by omega, by go_num, by rw [e], r⟩
              case measure => simp [intOf]; omega
            · obtain rfl : k = b.length := by omega
              obtain ⟨vu, hcu, HVU⟩ := hr'.get (i := i + b.length) (by have := HOL'.out; omega)
              have hcf := hr'.frozen (i + b.length)
              go_wp2
              go_roundw
              case rel =>
                obtain ⟨o2, r⟩ := times_row HC.out hlt rfl HOL'.out hwo' hr' (Nat.le_refl _) hbl' HZ'.out HVAL'.out HVAL.out VB.out HVX.out
                exact ⟨i + 1, o2, by omega, by go_num, r⟩
              case measure => simp [intOf]; omega
        · obtain rfl : i = a.length := by omega
          have hfin : val b64 o = m * n := by
            have h := HVAL.out
            rw [List.take_length, VA.out] at h
            exact h
          have HF := Lib.hid hfin
          clear hfin
          have hrd := hr.rd_all (c := a.length + b.length) (by have := HOL.out; omega) (by unfold maxLen; omega)
          go_wp2_with fail
          refine (cut_num _ _ _ o (m * n) hrd hwo _ HOL.out HF.out).mono ?_
          rintro e w' ⟨rfl, v, rfl, hv⟩
          go_wp2
          go_ret
          exact ⟨v, rfl, hv, hbl⟩
end Wx
