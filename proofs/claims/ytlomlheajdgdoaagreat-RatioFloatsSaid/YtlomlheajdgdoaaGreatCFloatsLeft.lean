import Derived.Test.YtlomlheajdgdoaaGreatProg
import Derived.Test.YtlomlheajdgdoaaGreatCFloatsShelf
import Derived.Test.YtlomlheajdgdoaaGreatJFloats0
import Derived.Test.YtlomlheajdgdoaaGreatJFloats4
import Derived.Test.YtlomlheajdgdoaaGreatCFloatsMem
import Derived.Test.YtlomlheajdgdoaaGreatJFloats2
import Derived.Test.YtlomlheajdgdoaaGreatCFloatsDiv64
namespace Wx
open Go Go.RowKit Go.Proofs

theorem getD_replicate (n p : Nat) : (List.replicate n 0).getD p 0 = 0 := by
  rw [List.getD_eq_getElem?_getD, List.getElem?_replicate]; split <;> rfl

theorem getD_set_eq {l : List Nat} {i v : Nat} (h : i < l.length) : (l.set i v).getD i 0 = v := by
  rw [List.getD_eq_getElem?_getD, List.getElem?_set_self h]; rfl
theorem getD_of {l : List Nat} {i v : Nat} (h : l[i]? = some v) : l.getD i 0 = v := by rw [List.getD_eq_getElem?_getD, h]; rfl
theorem left_round {w0 wr : World} {g : Nat} {a o : List Nat} {i d r k vx vu N : Nat} (hr6 : r < 64) (hi : i < a.length) (hN : N = a.length + d + 1) (hol : o.length = N) (wa : Wf b64 a) (hwo : Wf b64 o)
    (hr : Row wr .u64 44 g o) (hg : w0.heap.size ≤ g) (hbl : Below w0.heap.size w0 wr) (hz : ∀ p, i + d + 1 ≤ p → o.getD p 0 = 0) (ht : o.getD (i + d) 0 < 2 ^ r) (hval : val b64 o = val b64 (a.take i) * 2 ^ k)
    (hx : a[i]? = some vx) (hu : o[i + d]? = some vu) (hk : k = 64 * d + r) :
    ∃ o' : List Nat, o'.length = N ∧ Wf b64 o' ∧
      Row ((wr.setCell ⟨g, i + d, none⟩ (.int .u64 (bits BinOp.or .u64 (vu : Int) (IntKind.u64.wrap ((vx : Int) * 2 ^ r))))).setCell ⟨g, i + d + 1, none⟩ (.int .u64 ((vx : Int) / 2 ^ (64 - r)))).drew .u64 44 g o' ∧
      Below w0.heap.size w0 ((wr.setCell ⟨g, i + d, none⟩ (.int .u64 (bits BinOp.or .u64 (vu : Int) (IntKind.u64.wrap ((vx : Int) * 2 ^ r))))).setCell ⟨g, i + d + 1, none⟩ (.int .u64 ((vx : Int) / 2 ^ (64 - r)))).drew ∧
      (∀ p, i + 1 + d + 1 ≤ p → o'.getD p 0 = 0) ∧ o'.getD (i + 1 + d) 0 < 2 ^ r ∧ val b64 o' = val b64 (a.take (i + 1)) * 2 ^ k := by
  have hvx : vx < b64 := wa _ (List.mem_of_getElem? hx)
  rw [b64_pow] at hvx
  rw [getD_of hu] at ht
  have hp : 0 < 2 ^ r := Nat.two_pow_pos r
  have hpq : 2 ^ (64 - r) * 2 ^ r = 18446744073709551616 := by rw [← Nat.pow_add, show 64 - r + r = 64 by omega]
  have hdiv : vx * 2 ^ r / 18446744073709551616 = vx / 2 ^ (64 - r) := by rw [← hpq, Nat.mul_div_mul_right _ _ hp]
  have hdm := Nat.div_add_mod (vx * 2 ^ r) 18446744073709551616
  rw [hdiv] at hdm
  have hhi : vx / 2 ^ (64 - r) < 2 ^ r := by rw [Nat.div_lt_iff_lt_mul (Nat.two_pow_pos _), Nat.mul_comm, hpq]; omega
  have hmod : vx * 2 ^ r % 18446744073709551616 % 2 ^ r = 0 := by
    rw [← hpq, Nat.mul_comm (2 ^ (64 - r)), Nat.mod_mul_right_mod, Nat.mul_mod_left]
  have hplt : 2 ^ r < 18446744073709551616 := by
    have := Nat.pow_lt_pow_right (show 1 < 2 by omega) hr6
    omega
  have hor : bits BinOp.or .u64 (vu : Int) (IntKind.u64.wrap ((vx : Int) * 2 ^ r)) = ((vu + vx * 2 ^ r % 18446744073709551616 : Nat) : Int) := by
    rw [wrap_pow_mod, u64_or_nat _ _ (by omega) (Nat.mod_lt _ (by omega)), Nat.or_comm, nat_join r _ _ hmod ht, Nat.add_comm]
  have hdc : ((vx / 2 ^ (64 - r) : Nat) : Int) = (vx : Int) / 2 ^ (64 - r) := by rw [Int.natCast_ediv, Int.natCast_pow]; rfl
  rw [hor, ← hdc]
  have hlo : vu + vx * 2 ^ r % 18446744073709551616 < 18446744073709551616 := by
    -- the low part is a multiple of 2^r below 2^64
    have hl : vx * 2 ^ r % 18446744073709551616 < 18446744073709551616 := Nat.mod_lt _ (by omega)
    obtain ⟨t, ht'⟩ : ∃ t, vx * 2 ^ r % 18446744073709551616 = t * 2 ^ r := ⟨vx * 2 ^ r % 18446744073709551616 / 2 ^ r, by
      have := Nat.div_add_mod (vx * 2 ^ r % 18446744073709551616) (2 ^ r)
      rw [hmod, Nat.mul_comm] at this; omega⟩
    rw [ht'] at hl ⊢
    rw [← hpq] at hl ⊢
    have hlt : t < 2 ^ (64 - r) := Nat.lt_of_mul_lt_mul_right hl
    have : (t + 1) * 2 ^ r ≤ 2 ^ (64 - r) * 2 ^ r := Nat.mul_le_mul_right _ hlt
    rw [Nat.add_mul, Nat.one_mul] at this
    omega
  have h1 := val_set (b := b64) hu (vu + vx * 2 ^ r % 18446744073709551616)
  have hu2 : (o.set (i + d) (vu + vx * 2 ^ r % 18446744073709551616))[i + d + 1]? = some 0 := by
    rw [List.getElem?_set_ne (by omega), List.getElem?_eq_getElem (by omega)]
    have := hz (i + d + 1) (Nat.le_refl _)
    rw [List.getD_eq_getElem?_getD, List.getElem?_eq_getElem (by omega)] at this
    simpa using this
  have h2 := val_set (b := b64) hu2 (vx / 2 ^ (64 - r))
  refine ⟨(o.set (i + d) (vu + vx * 2 ^ r % 18446744073709551616)).set (i + d + 1) (vx / 2 ^ (64 - r)), by simp [hol], (hwo.set (by unfold b64; exact hlo)).set (by unfold b64; omega), ((hr.set _ _).set _ _).drew, ((hbl.setCell hg _).setCell hg _).drew, ?_, ?_, ?_⟩
  · intro p hpp
    rw [getD_set_ne (by omega), getD_set_ne (by omega)]
    exact hz p (by omega)
  · rw [show i + 1 + d = i + d + 1 by omega, getD_set_eq (by simp; omega)]
    exact hhi
  · rw [val_take_get hx, Nat.add_mul, ← hval]
    have e3 : b64 ^ i * vx * 2 ^ k = b64 ^ (i + d) * (vx * 2 ^ r) := by
      have e : 2 ^ k = b64 ^ d * 2 ^ r := by rw [hk, Nat.pow_add, b64_pow, ← Nat.pow_mul]
      rw [e, Nat.pow_add, Nat.mul_assoc, Nat.mul_assoc]
      congr 1
      rw [Nat.mul_left_comm]
    have e5 : b64 ^ (i + d) * (vx * 2 ^ r) = b64 ^ (i + d) * (18446744073709551616 * (vx / 2 ^ (64 - r))) + b64 ^ (i + d) * (vx * 2 ^ r % 18446744073709551616) := by
      rw [← Nat.mul_add, hdm]
    have e4 : b64 ^ (i + d + 1) * (vx / 2 ^ (64 - r)) = b64 ^ (i + d) * (18446744073709551616 * (vx / 2 ^ (64 - r))) := by
      rw [Nat.pow_succ, Nat.mul_assoc]; rfl
    rw [e3, e5, ← e4]
    rw [Nat.mul_add] at h1
    rw [Nat.mul_zero, Nat.add_zero] at h2
    omega

set_option maxHeartbeats 1000000 in
theorem left_num (w : World) (v1 : Value) (m k : Nat) (h1 : Num .u64 b64 w v1 m) {j : Nat} (hj : Bd j m) (hj1 : j ≤ 1000000000) (hk1 : k ≤ 1000000000) :
    Calls Tryz.prog 72 #[v1, .int .i64 (k : Int)] w (RetNum .u64 b64 w (m * 2 ^ k)) := by
  by_cases h0 : k = 0 ∨ m = 0
  · have g1 := h1
    obtain ⟨A, c, rfl, ha⟩ := h1
    have he : m * 2 ^ k = m := by rcases h0 with rfl | rfl <;> simp
    rw [he]
    by_cases hm : m = 0
    · subst hm
      rw [digs_zero] at g1 ⊢
      rw [List.length_nil] at *
      go_enter Tryz.func72, Tryz.ntmps72
      go_wp2
      go_ret
      exact ⟨_, rfl, g1, Below.refl _ _⟩
    · have hk0 : k = 0 := by omega
      subst hk0
      have hpos := (digs_length_pos two_le_b64).2 (show 0 < m by omega)
      have hb : (((digs b64 m).length : Int) == 0) = false := beq_eq_false_iff_ne.2 (by omega)
      go_enter Tryz.func72, Tryz.ntmps72
      go_wp2
      go_ret
      exact ⟨_, rfl, g1, Below.refl _ _⟩
  · have hm : 0 < m := by omega
    have hk : 0 < k := by omega
    clear h0
    obtain ⟨A, c, rfl, ha⟩ := h1
    have hla := len64 hj
    have hva := val_digs two_le_b64 m
    have wa := digs_wf two_le_b64 m
    have hpos := (digs_length_pos two_le_b64).2 hm
    clear hj
    generalize digs b64 m = a at *
    have VA := Lib.hid hva
    clear hva
    have hlen : a.length ≤ 100000000 := by omega
    clear hla
    obtain ⟨d, r, hd, hr, hkd⟩ : ∃ d r, k / 64 = d ∧ k % 64 = r ∧ k = 64 * d + r := ⟨k / 64, k % 64, rfl, rfl, by omega⟩
    have hr1 : (r : Int) < 64 := by omega
    have he1 : (k : Int) / 64 = (d : Int) := by omega
    have he2 : (k : Int) % 64 = (r : Int) := by omega
    have hd1 : (d : Int) ≤ 100000000 := by omega
    have HK := Lib.hid hkd
    clear hd hr hkd
    have hb : ((a.length : Int) == 0) = false := beq_eq_false_iff_ne.2 (by omega)
    have hb2 : ((k : Int) == 0) = false := beq_eq_false_iff_ne.2 (by omega)
    go_enter Tryz.func72, Tryz.ntmps72
    go_wp2_with (at_make; refine wpList_mk _ rfl _ _ _ rfl .u64 44 Tryz.underlying27 i64row _ _ rfl rfl (by omega) (by omega) (by omega) ?_; intro w1 hrow hbel hsz)
    rw [show ((a.length : Int) + (d : Int) + 1).toNat = a.length + d + 1 by omega] at hrow
    go_loopw [25] (fun s25 wr => ∃ (i : Nat) (o : List Nat), i ≤ a.length ∧ s25 = .int .i64 i ∧ o.length = a.length + d + 1 ∧ Wf b64 o ∧ Row wr .u64 44 w.heap.size o ∧ Below w.heap.size w wr ∧ (∀ p, i + d + 1 ≤ p → o.getD p 0 = 0) ∧ o.getD (i + d) 0 < 2 ^ r ∧ val b64 o = val b64 (a.take i) * 2 ^ k)
      (fun s25 _ => a.length - (intOf s25).toNat)
    case atStart => exact ⟨0, List.replicate (a.length + d + 1) 0, by omega, rfl, by simp, Wf.replicate (by unfold b64; omega) _, hrow, hbel, fun p _ => getD_replicate _ _, by rw [getD_replicate]; exact Nat.two_pow_pos _, by rw [val_replicate]; simp [val]⟩
    case round =>
      obtain ⟨i, o, hi, rfl, hol, hwo, hr, hbl, hz, htop, hval⟩ := hrel
      have HVAL := Lib.hid hval
      have HOL := Lib.hid hol
      have HZ := Lib.hid hz
      have HT := Lib.hid htop
      clear hval hol hz htop hrow hbel hsz
      by_cases hlt : i < a.length
      · obtain ⟨bx, ox, vx, rfl, hcx, HVX⟩ := (ha.below hbl).get hlt
        obtain ⟨vu, hcu, HVU⟩ := hr.get (i := i + d) (by have := HOL.out; omega)
        obtain ⟨vt, hct, HVT⟩ := hr.get (i := i + d + 1) (by have := HOL.out; omega)
        have hcf := hr.frozen (i + d)
        have hcf1 := hr.frozen (i + d + 1)
        have e1 : (0 : Int) ≤ (i : Int) + (d : Int) := by omega
        have e2 : (i : Int) + (d : Int) < (a.length : Int) + (d : Int) + 1 := by omega
        have e3 : (0 : Int) ≤ (r : Int) := by omega
        go_wp2
        go_region
        all_goals go_wp2
        all_goals
          go_roundw
          case rel =>
            obtain ⟨o2, f1, f2, f3, r2⟩ := left_round (N := a.length + d + 1) (by omega) hlt rfl HOL.out wa hwo hr (Nat.le_refl _) hbl HZ.out HT.out HVAL.out HVX.out HVU.out HK.out
            exact ⟨i + 1, o2, by omega, by go_num, f1, f2, f3, r2⟩
          case measure => simp [intOf]; omega
      · obtain rfl : i = a.length := by omega
        have HF : Hid (val b64 o = m * 2 ^ k) := by
          have h := HVAL.out
          rw [List.take_length, VA.out] at h
          exact h
        have hrd := hr.rd_all (c := a.length + d + 1) (by have := HOL.out; omega) (by unfold maxLen; omega)
        go_wp2_with fail
        refine (cut_num _ _ _ o _ hrd hwo _ HOL.out HF.out).mono ?_
        rintro e w' ⟨rfl, v, rfl, hv⟩
        go_wp2
        go_ret
        exact ⟨v, rfl, hv, hbl⟩
end Wx
