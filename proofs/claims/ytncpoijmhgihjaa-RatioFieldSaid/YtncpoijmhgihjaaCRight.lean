import Derived.Test.YtncpoijmhgihjaaProg
import Derived.Test.YtncpoijmhgihjaaShelf
import Derived.Test.YtncpoijmhgihjaaPlain1
import Derived.Test.YtncpoijmhgihjaaPlainDiv
import Derived.Test.YtncpoijmhgihjaaMem
import Derived.Test.YtncpoijmhgihjaaJField3
import Derived.Test.YtncpoijmhgihjaaCDiv64
import Derived.Test.YtncpoijmhgihjaaCLeft
namespace Wx
open Go Go.RowKit Go.Proofs

theorem right_digit {x y r : Nat} (hx : x < b64) (hr : r < 64) :
    bits BinOp.or .u64 ((x : Int) / 2 ^ r) (IntKind.u64.wrap ((y : Int) * 2 ^ (64 - r))) = ((x / 2 ^ r + y % 2 ^ r * 2 ^ (64 - r) : Nat) : Int) ∧ x / 2 ^ r + y % 2 ^ r * 2 ^ (64 - r) < b64 ∧
    (x / 2 ^ r + y % 2 ^ r * 2 ^ (64 - r)) * 2 ^ r + x % 2 ^ r = x + b64 * (y % 2 ^ r) := by
  have hp : 0 < 2 ^ r := Nat.two_pow_pos r
  have hpq : 2 ^ (64 - r) * 2 ^ r = b64 := by rw [b64_pow, ← Nat.pow_add, show 64 - r + r = 64 by omega]
  have hq : 0 < 2 ^ (64 - r) := Nat.two_pow_pos _
  have hlo : x / 2 ^ r < 2 ^ (64 - r) := by rw [Nat.div_lt_iff_lt_mul hp, hpq]; exact hx
  have hmod : y * 2 ^ (64 - r) % b64 = y % 2 ^ r * 2 ^ (64 - r) := by
    rw [← hpq, Nat.mul_comm (2 ^ (64 - r)) (2 ^ r), Nat.mul_mod_mul_right]
  have hyr : y % 2 ^ r < 2 ^ r := Nat.mod_lt _ hp
  have hsum : x / 2 ^ r + y % 2 ^ r * 2 ^ (64 - r) < b64 := by
    have : (y % 2 ^ r + 1) * 2 ^ (64 - r) ≤ 2 ^ r * 2 ^ (64 - r) := Nat.mul_le_mul_right _ hyr
    rw [Nat.add_mul, Nat.one_mul, Nat.mul_comm (2 ^ r), hpq] at this
    omega
  refine ⟨?_, hsum, ?_⟩
  · have hdc : ((x / 2 ^ r : Nat) : Int) = (x : Int) / 2 ^ r := by rw [Int.natCast_ediv, Int.natCast_pow]; rfl
    rw [← hdc, wrap_pow_mod]
    have e : y * 2 ^ (64 - r) % 18446744073709551616 = y % 2 ^ r * 2 ^ (64 - r) := by rw [← hmod]; rfl
    rw [e, u64_or_nat _ _ (by have := Nat.div_le_self x (2 ^ r); unfold b64 at hx; omega) (by unfold b64 at hsum; omega), Nat.or_comm, nat_join (64 - r) _ _ (Nat.mul_mod_left _ _) hlo, Nat.add_comm]
  · rw [Nat.add_mul, Nat.mul_assoc, hpq]
    have := Nat.div_add_mod x (2 ^ r)
    rw [Nat.mul_comm] at this
    rw [Nat.mul_comm b64]
    omega

theorem right_last {x r : Nat} (hx : x < b64) : ((x : Int) / 2 ^ r) = ((x / 2 ^ r : Nat) : Int) ∧ x / 2 ^ r < b64 ∧ x / 2 ^ r * 2 ^ r + x % 2 ^ r = x := by
  refine ⟨by rw [Int.natCast_ediv, Int.natCast_pow]; rfl, Nat.lt_of_le_of_lt (Nat.div_le_self _ _) hx, ?_⟩
  have := Nat.div_add_mod x (2 ^ r)
  rw [Nat.mul_comm] at this
  omega

theorem getD_drop_of {a : List Nat} {d i x : Nat} (h : a[d + i]? = some x) : (a.drop d).getD i 0 = x := by
  rw [List.getD_eq_getElem?_getD, List.getElem?_drop, h]; rfl
/-- One round of right, in numbers. -/
theorem right_step {a o : List Nat} {i r s z : Nat} (hol : i < o.length) (hval : val b64 (o.take i) * 2 ^ r + z = val b64 (a.take i) + b64 ^ i * (a.getD i 0 % 2 ^ r)) (hs : s * 2 ^ r + a.getD i 0 % 2 ^ r = a.getD i 0 + b64 * (a.getD (i + 1) 0 % 2 ^ r)) :
    val b64 ((o.set i s).take (i + 1)) * 2 ^ r + z = val b64 (a.take (i + 1)) + b64 ^ (i + 1) * (a.getD (i + 1) 0 % 2 ^ r) := by
  rw [get_or_zero, List.take_set_of_le (Nat.le_refl _), getD_set_eq hol, get_or_zero, Nat.add_mul, Nat.pow_succ]
  have e : b64 ^ i * (s * 2 ^ r + a.getD i 0 % 2 ^ r) = b64 ^ i * (a.getD i 0 + b64 * (a.getD (i + 1) 0 % 2 ^ r)) := by rw [hs]
  rw [Nat.mul_add, Nat.mul_add, ← Nat.mul_assoc, ← Nat.mul_assoc] at e
  omega

set_option maxHeartbeats 1000000 in
theorem right_num (w : World) (v1 : Value) (m k : Nat) (h1 : Num .u64 b64 w v1 m) {j : Nat} (hj : Bd j m) (hj1 : j ≤ 1000000000) (hk1 : k ≤ 1000000000) :
    Calls Try.prog 89 #[v1, .int .i64 (k : Int)] w (RetNum .u64 b64 w (m / 2 ^ k)) := by
  obtain ⟨A, c, rfl, ha⟩ := h1
  have hla := len64 hj
  have hva := val_digs two_le_b64 m
  have wa := digs_wf two_le_b64 m
  have hmlt := lt_pow_digs two_le_b64 m
  clear hj
  generalize digs b64 m = a at *
  have hlen : a.length ≤ 100000000 := by omega
  clear hla
  obtain ⟨d, r, hd, hr, hkd⟩ : ∃ d r, k / 64 = d ∧ k % 64 = r ∧ k = 64 * d + r := ⟨k / 64, k % 64, rfl, rfl, by omega⟩
  have hr1 : (r : Int) < 64 := by omega
  have hr0 : r < 64 := by omega
  have he1 : (k : Int) / 64 = (d : Int) := by omega
  have he2 : (k : Int) % 64 = (r : Int) := by omega
  have hd1 : (d : Int) ≤ 100000000 := by omega
  by_cases hge : a.length ≤ d
  · have h0 : m / 2 ^ k = 0 := by
      rw [Nat.div_eq_zero_iff]
      right
      refine Nat.lt_of_lt_of_le hmlt ?_
      rw [b64_pow, ← Nat.pow_mul]
      exact Nat.pow_le_pow_right (by omega) (by omega)
    rw [h0]
    have hge' : (a.length : Int) ≤ (d : Int) := by omega
    clear hd hr hkd h0 hva hmlt
    go_enter Try.func89, Try.ntmps89
    go_wp2
    go_ret
    exact ⟨_, rfl, Num.zero _ _ _, Below.refl _ _⟩
  · have VA : Hid (val b64 (a.drop d) / 2 ^ r = m / 2 ^ k) := by
      show _ = _
      rw [hkd, Nat.pow_add, ← Nat.div_div_eq_div_mul, ← hva]
      congr 1
      have h := val_take_drop b64 a d (by omega)
      have hl := val_lt (wa.take d)
      rw [List.length_take, Nat.min_eq_left (by omega)] at hl
      have e : 2 ^ (64 * d) = b64 ^ d := by rw [b64_pow, ← Nat.pow_mul]
      rw [e, h, Nat.add_mul_div_left _ _ (Nat.pow_pos (by unfold b64; omega)), Nat.div_eq_of_lt hl, Nat.zero_add]
    have hge' : ¬ ((a.length : Int) ≤ (d : Int)) := by omega
    clear hd hr hkd hva hmlt
    go_enter Try.func89, Try.ntmps89
    go_wp2_with (at_make; refine wpList_mk _ rfl _ _ _ rfl .u64 81 Try.underlying25 i64row _ _ rfl rfl (by omega) (by omega) (by omega) ?_; intro w1 hrow hbel hsz)
    rw [show ((a.length : Int) - (d : Int)).toNat = a.length - d by omega] at hrow
    go_loopw [20] (fun s20 wr => ∃ (i : Nat) (o : List Nat), i ≤ a.length - d ∧ s20 = .int .i64 i ∧ o.length = a.length - d ∧ Wf b64 o ∧ Row wr .u64 81 w.heap.size o ∧ Below w.heap.size w wr ∧
        val b64 (o.take i) * 2 ^ r + (a.drop d).getD 0 0 % 2 ^ r = val b64 ((a.drop d).take i) + b64 ^ i * ((a.drop d).getD i 0 % 2 ^ r))
      (fun s20 _ => a.length - (intOf s20).toNat)
    case atStart => exact ⟨0, List.replicate (a.length - d) 0, by omega, rfl, by simp, Wf.replicate (by unfold b64; omega) _, hrow, hbel, by simp [val]⟩
    case round =>
      obtain ⟨i, o, hi, rfl, hol, hwo, hr, hbl, hval⟩ := hrel
      have HVAL := Lib.hid hval
      have HOL := Lib.hid hol
      clear hval hol hrow hbel hsz
      by_cases hlt : i < a.length - d
      · obtain ⟨bx, ox, vx, rfl, hcx, HVX⟩ := (ha.below hbl).get (i := i + d) (by omega)
        obtain ⟨vo, hco, HVO⟩ := hr.get (i := i) (by have := HOL.out; omega)
        have hcf := hr.frozen i
        have hvx : vx < b64 := wa _ (List.mem_of_getElem? HVX.out)
        have HVB := Lib.hid hvx
        clear hvx
        have e1 : (i : Int) < ((a.length - d : Nat) : Int) := by omega
        have e2 : (i : Int) + (d : Int) < (a.length : Int) := by omega
        have e3 : (0 : Int) ≤ (r : Int) := by omega
        have e4 : (0 : Int) ≤ (i : Int) := by omega
        by_cases hnx : i + d + 1 < a.length
        · obtain ⟨by_, oy, vy, hay, hcy, HVY⟩ := (ha.below hbl).get (i := i + d + 1) hnx
          injection hay with hay
          injection hay with hay1 hay2
          subst hay1 hay2
          have e5 : (i : Int) + (d : Int) + 1 < (a.length : Int) := by omega
          go_wp2
          go_region
          all_goals go_wp2
          all_goals
            go_roundw
            case rel =>
              obtain ⟨f1, f2, f3⟩ := right_digit (x := vx) (y := vy) HVB.out hr0
              rw [f1, (right_last (r := r) HVB.out).1]
              have hR := ((hr.set i (vx / 2 ^ r)).set i (vx / 2 ^ r + vy % 2 ^ r * 2 ^ (64 - r))).drew
              rw [List.set_set] at hR
              refine ⟨i + 1, o.set i (vx / 2 ^ r + vy % 2 ^ r * 2 ^ (64 - r)), by omega, by go_num, by rw [List.length_set]; exact HOL.out, hwo.set f2, hR, ((hbl.setCell (Nat.le_refl _) _).setCell (Nat.le_refl _) _).drew, ?_⟩
              refine right_step (by have := HOL.out; omega) HVAL.out ?_
              rw [getD_drop_of (i := i) (by rw [Nat.add_comm]; exact HVX.out), getD_drop_of (i := i + 1) (by rw [show d + (i + 1) = i + d + 1 by omega]; exact HVY.out)]
              exact f3
            case measure => simp [intOf]; omega
        · have e5 : ¬ ((i : Int) + (d : Int) + 1 < (a.length : Int)) := by omega
          go_wp2
          go_roundw
          case rel =>
            obtain ⟨f1, f2, f3⟩ := right_last (x := vx) (r := r) HVB.out
            rw [f1]
            refine ⟨i + 1, o.set i (vx / 2 ^ r), by omega, by go_num, by rw [List.length_set]; exact HOL.out, hwo.set f2, hr.set _ _, hbl.setCell (Nat.le_refl _) _, ?_⟩
            refine right_step (by have := HOL.out; omega) HVAL.out ?_
            have hz : (a.drop d).getD (i + 1) 0 = 0 := by rw [List.getD_eq_getElem?_getD, List.getElem?_eq_none (by simp; omega)]; rfl
            rw [getD_drop_of (i := i) (by rw [Nat.add_comm]; exact HVX.out), hz, Nat.zero_mod, Nat.mul_zero, Nat.add_zero]
            exact f3
          case measure => simp [intOf]; omega
      · obtain rfl : i = a.length - d := by omega
        have HF : Hid (val b64 o = m / 2 ^ k) := by
          show _ = _
          rw [← VA.out]
          have h := HVAL.out
          have hz : (a.drop d).getD (a.length - d) 0 = 0 := by rw [List.getD_eq_getElem?_getD, List.getElem?_eq_none (by simp)]; rfl
          rw [List.take_of_length_le (l := a.drop d) (by rw [List.length_drop]; omega), List.take_of_length_le (l := o) (by have := HOL.out; omega), hz, Nat.zero_mod, Nat.mul_zero, Nat.add_zero] at h
          rw [← h, Nat.mul_comm, Nat.mul_add_div (Nat.two_pow_pos r), Nat.div_eq_of_lt (Nat.mod_lt _ (Nat.two_pow_pos r)), Nat.add_zero]
        have hrd := hr.rd_all (c := a.length - d) (by have := HOL.out; omega) (by unfold maxLen; omega)
        go_wp2_with fail
        refine (cut_num _ _ _ o _ hrd hwo _ HOL.out HF.out).mono ?_
        rintro e w' ⟨rfl, v, rfl, hv⟩
        go_wp2
        go_ret
        exact ⟨v, rfl, hv, hbl⟩
end Wx
