import Derived.Test.YtioicklnneebnaaProg
import Derived.Deep.QuietTactic
import Derived.BigQuiet
import Derived.Test.YtioicklnneebnaaPlain1
import Derived.Test.YtioicklnneebnaaMem
import Derived.Test.YtioicklnneebnaaJNews3
import Derived.Test.YtioicklnneebnaaJNews32
namespace Wx
open Go Go.RowKit Go.Proofs

set_option maxHeartbeats 400000 in
theorem order_dr (w : World) (v1 v2 : Value) (m n : Nat) (h1 : Num .u32 b32 w v1 m) (h2 : Num .u32 b32 w v2 n) :
    Calls Try.prog 51 #[v1, v2] w (RetDr w (.int .i64 (cmpI m n))) := by
  obtain ⟨A, c, rfl, ha⟩ := h1
  obtain ⟨B, d, rfl, hb⟩ := h2
  have hla := ha.len
  have hlb := hb.len
  by_cases hlt : (digs b32 m).length < (digs b32 n).length
  · have hmn := val_lt_of_length two_le_b32 hlt
    have e : cmpI m n = -1 := by unfold cmpI; rw [if_pos hmn]
    rw [e]
    go_enter Try.func51, Try.ntmps51
    go_wp2
    all_goals (go_ret; exact ⟨rfl, 0, rfl⟩)
  · by_cases hgt : (digs b32 n).length < (digs b32 m).length
    · have hmn := val_lt_of_length two_le_b32 hgt
      have e : cmpI m n = 1 := by unfold cmpI; rw [if_neg (by omega), if_pos hmn]
      rw [e]
      go_enter Try.func51, Try.ntmps51
      go_wp2
      all_goals (go_ret; exact ⟨rfl, 0, rfl⟩)
    · have hll : (digs b32 m).length = (digs b32 n).length := by omega
      have wa := digs_wf two_le_b32 m
      have wb := digs_wf two_le_b32 n
      have va := val_digs two_le_b32 m
      have vb := val_digs two_le_b32 n
      generalize digs b32 m = a at *
      generalize digs b32 n = b at *
      rw [← hll] at hlb ⊢
      have HL := Lib.hid hll
      have VA := Lib.hid va
      have VB := Lib.hid vb
      clear hll va vb hlt hgt hlb
      go_enter Try.func51, Try.ntmps51
      go_wp2
      go_loopw [5] (fun s5 wr => ∃ i : Nat, i ≤ a.length ∧ s5 = .int .i64 ((i : Int) - 1) ∧ a.drop i = b.drop i ∧ ∃ q, wr = w.drewN q)
        (fun s5 _ => (intOf s5 + 1).toNat)
      case atStart => exact ⟨a.length, Nat.le_refl _, rfl, by rw [List.drop_of_length_le (Nat.le_refl _), List.drop_of_length_le (by have := HL.out; omega)], 0, rfl⟩
      case round =>
        obtain ⟨i, hi, rfl, hd, q, rfl⟩ := hrel
        have HD := Lib.hid hd
        clear hd
        rcases Nat.eq_zero_or_pos i with rfl | hpos
        · rw [show (((0 : Nat) : Int) - 1) = -1 by omega]
          have : a = b := by simpa using HD.out
          have e : m = n := by rw [← VA.out, ← VB.out, this]
          have e0 : cmpI m n = 0 := by unfold cmpI; rw [if_neg (by omega), if_neg (by omega)]
          have E0 := Lib.hid e0
          clear e e0 this
          go_wp2
          go_ret
          exact ⟨ret_int E0.out.symm, _, rfl⟩
        · obtain ⟨j, rfl⟩ : ∃ j, i = j + 1 := ⟨i - 1, by omega⟩
          obtain ⟨b1, o1, x, rfl, hcx, HX⟩ := ha.get (i := j) (by omega)
          obtain ⟨b2, o2, y, rfl, hcy, HY⟩ := hb.get (i := j) (by have := HL.out; omega)
          rw [show (((j + 1 : Nat) : Int) - 1) = (j : Int) by omega]
          have hj0 : (0 : Int) ≤ (j : Int) := by omega
          have hj1 : (j : Int) < (a.length : Int) := by omega
          rcases Nat.lt_trichotomy x y with hxy | hxy | hxy
          · have hxy' : (x : Int) < (y : Int) := by omega
            have hmn : m < n := by
              rw [← VA.out, ← VB.out]
              exact val_lt_get wa HX.out HY.out HD.out hxy
            have E0 : Hid (cmpI m n = -1) := by show cmpI m n = -1; unfold cmpI; rw [if_pos hmn]
            clear hmn
            go_wp2
            go_quiet (fail)
            go_wp2
            go_ret
            exact ⟨ret_int E0.out.symm, _, World.drewN_drewN _ _ _⟩
          · subst hxy
            go_wp2
            go_quiet (fail)
            go_wp2
            go_quiet (fail)
            go_wp2
            go_roundw
            case rel => exact ⟨j, by omega, by go_num, drop_get HX.out HY.out HD.out, _, rfl⟩
            case measure => simp [intOf]
          · have hxy' : (y : Int) < (x : Int) := by omega
            have hmn : n < m := by
              rw [← VA.out, ← VB.out]
              exact val_lt_get wb HY.out HX.out HD.out.symm hxy
            have E0 : Hid (cmpI m n = 1) := by show cmpI m n = 1; unfold cmpI; rw [if_neg (by omega), if_pos hmn]
            clear hmn
            go_wp2
            go_quiet (fail)
            go_wp2
            go_quiet (fail)
            go_wp2
            go_ret
            exact ⟨ret_int E0.out.symm, _, (World.drewN_drewN _ _ _).trans (World.drewN_drewN _ _ _)⟩
theorem order_num (w : World) (v1 v2 : Value) (m n : Nat) (h1 : Num .u32 b32 w v1 m) (h2 : Num .u32 b32 w v2 n) :
    Calls Try.prog 51 #[v1, v2] w (RetIs w (.int .i64 (cmpI m n))) := (order_dr w v1 v2 m n h1 h2).mono fun _ _ h => h.is
end Wx

namespace Wx

/-- The number of binary digits. -/
def nbits (n : Nat) : Nat := if n = 0 then 0 else Nat.log2 n + 1
theorem nbits_zero : nbits 0 = 0 := rfl
theorem nbits_pos {n : Nat} (h : 0 < n) : 0 < nbits n := by unfold nbits; rw [if_neg (by omega)]; omega
theorem nbits_lt (n : Nat) : n < 2 ^ nbits n := by
  unfold nbits
  split
  · next h => subst h; decide
  · exact Nat.lt_log2_self
theorem nbits_le {n : Nat} (h : 0 < n) : 2 ^ (nbits n - 1) ≤ n := by
  unfold nbits
  rw [if_neg (by omega)]
  exact Nat.log2_self_le (by omega)
theorem nbits_unique {n k : Nat} (h1 : 2 ^ k ≤ n) (h2 : n < 2 ^ (k + 1)) : nbits n = k + 1 := by
  have h0 : 0 < n := Nat.lt_of_lt_of_le (Nat.two_pow_pos k) h1
  have a1 := nbits_lt n
  have a2 := nbits_le h0
  have a3 := nbits_pos h0
  have b1 : k < nbits n := by
    rcases Nat.lt_or_ge k (nbits n) with h | h
    · exact h
    · have := Nat.pow_le_pow_right (show 0 < 2 by omega) h; omega
  have b2 : nbits n - 1 < k + 1 := by
    rcases Nat.lt_or_ge (nbits n - 1) (k + 1) with h | h
    · exact h
    · have := Nat.pow_le_pow_right (show 0 < 2 by omega) h; omega
  omega
theorem nbits_half {n : Nat} (h : 0 < n) : nbits n = nbits (n / 2) + 1 := by
  by_cases h1 : n = 1
  · subst h1; decide
  · have h2 : 0 < n / 2 := by omega
    have a := nbits_lt (n / 2)
    have b := nbits_le h2
    have c := nbits_pos h2
    have e := nbits_unique (n := n) (k := nbits (n / 2)) (by
      have : 2 ^ nbits (n / 2) = 2 * 2 ^ (nbits (n / 2) - 1) := by
        rw [← Nat.pow_succ']; congr 1; omega
      omega) (by rw [Nat.pow_succ]; omega)
    exact e
theorem nbits_mul_add {t m low k : Nat} (ht : 0 < t) (hl : low < 2 ^ k) (hm : m = low + 2 ^ k * t) : nbits m = k + nbits t := by
  have a := nbits_lt t
  have b := nbits_le ht
  have c := nbits_pos ht
  have e := nbits_unique (n := m) (k := k + (nbits t - 1)) (by
    rw [Nat.pow_add, hm]
    have := Nat.mul_le_mul_left (2 ^ k) b
    omega) (by
    rw [show k + (nbits t - 1) + 1 = k + nbits t by omega, Nat.pow_add, hm]
    have := Nat.mul_le_mul_left (2 ^ k) (Nat.succ_le_of_lt a)
    rw [Nat.mul_succ] at this
    omega)
  omega
theorem nbits_bd {j n : Nat} (h : Bd j n) : nbits n ≤ j := by
  rcases Nat.eq_zero_or_pos n with rfl | h0
  · rw [nbits_zero]; omega
  · have a := nbits_le h0
    have b := nbits_pos h0
    rcases Nat.lt_or_ge j (nbits n) with h' | h'
    · have := Nat.pow_le_pow_right (show 0 < 2 by omega) (show j ≤ nbits n - 1 by omega)
      unfold Bd at h
      omega
    · exact h'
theorem nbits_lt_of {m n : Nat} (h : nbits m < nbits n) : m < n := by
  have a := nbits_lt m
  have b : 0 < n := by
    rcases Nat.eq_zero_or_pos n with rfl | h0
    · rw [nbits_zero] at h; omega
    · exact h0
  have c := nbits_le b
  have := Nat.pow_le_pow_right (show 0 < 2 by omega) (show nbits m ≤ nbits n - 1 by omega)
  omega
/-- The start of a long division. -/
theorem nbits_start {a b : Nat} (hb : 0 < b) : a < b * 2 ^ (nbits a - nbits b + 1) := by
  have h1 := nbits_lt a
  have h2 := nbits_le hb
  have h3 := nbits_pos hb
  have h4 : 2 ^ nbits a ≤ 2 ^ ((nbits b - 1) + (nbits a - nbits b + 1)) := Nat.pow_le_pow_right (by omega) (by omega)
  rw [Nat.pow_add] at h4
  have h5 := Nat.mul_le_mul_right (2 ^ (nbits a - nbits b + 1)) h2
  omega
/-- One step of a long division, from the bit i down. -/
theorem ldiv_step {A b Q a i : Nat} (hA : A = Q * b + a) (ha : a < b * 2 ^ (i + 1)) (hQ : 2 ^ (i + 1) ∣ Q) :
    (b * 2 ^ i ≤ a → A = (Q + 2 ^ i) * b + (a - b * 2 ^ i) ∧ a - b * 2 ^ i < b * 2 ^ i ∧ 2 ^ i ∣ Q + 2 ^ i) ∧ (a < b * 2 ^ i → 2 ^ i ∣ Q) := by
  have hd : 2 ^ i ∣ Q := Nat.dvd_trans (Nat.pow_dvd_pow 2 (by omega)) hQ
  refine ⟨fun h => ⟨?_, ?_, Nat.dvd_add hd (Nat.dvd_refl _)⟩, fun _ => hd⟩
  · rw [Nat.add_mul, Nat.mul_comm (2 ^ i) b]; omega
  · rw [Nat.pow_succ, ← Nat.mul_assoc] at ha; omega
theorem half_pow (b i : Nat) : b * 2 ^ (i + 1) / 2 = b * 2 ^ i := by
  rw [Nat.pow_succ, ← Nat.mul_assoc, Nat.mul_div_cancel _ (by omega)]
/-- A bit is set in a word whose lower bits are 0. -/
theorem bit_room {x k : Nat} (hx : x < 4294967296) (hk : k < 32) (hd : 2 ^ (k + 1) ∣ x) : x + 2 ^ k < 4294967296 := by
  obtain ⟨y, rfl⟩ := hd
  have e : 4294967296 = 2 ^ (k + 1) * 2 ^ (31 - k) := by rw [← Nat.pow_add, show k + 1 + (31 - k) = 32 by omega]
  have h1 : y < 2 ^ (31 - k) := by
    rw [e] at hx
    exact Nat.lt_of_mul_lt_mul_left hx
  have h2 := Nat.mul_le_mul_left (2 ^ (k + 1)) (Nat.succ_le_of_lt h1)
  rw [Nat.mul_succ, ← e] at h2
  have h3 : 2 ^ k < 2 ^ (k + 1) := Nat.pow_lt_pow_right (by omega) (by omega)
  omega
/-- The word of a number that 2^(i+1) divides. -/
theorem word_dvd {l : List Nat} {i v : Nat} (hw : Wf 4294967296 l) (hd : 2 ^ (i + 1) ∣ val 4294967296 l) (h : l[i / 32]? = some v) : 2 ^ (i % 32 + 1) ∣ v := by
  obtain ⟨hi, hv⟩ := List.getElem?_eq_some_iff.1 h
  have e := val_take_drop 4294967296 l (i / 32) (by omega)
  rw [val_drop 4294967296 l (i / 32) hi, hv] at e
  have hp : (4294967296 : Nat) ^ (i / 32) = 2 ^ (32 * (i / 32)) := by rw [Nat.pow_mul]
  have hi' : i + 1 = 32 * (i / 32) + (i % 32 + 1) := by omega
  have hlow := val_lt (hw.take (i / 32))
  rw [List.length_take, Nat.min_eq_left (by omega), hp] at hlow
  rw [hp] at e
  have h1 : 2 ^ (32 * (i / 32)) ∣ val 4294967296 l := Nat.dvd_trans (Nat.pow_dvd_pow 2 (by omega)) hd
  have h0 : val 4294967296 (l.take (i / 32)) = 0 := by
    rw [e] at h1
    have := (Nat.dvd_add_left (Nat.dvd_mul_right _ _)).1 h1
    exact Nat.eq_zero_of_dvd_of_lt this hlow
  rw [e, h0, Nat.zero_add, hi', Nat.pow_add] at hd
  have h2 := Nat.dvd_of_mul_dvd_mul_left (Nat.two_pow_pos _) hd
  refine (Nat.dvd_add_left (Nat.dvd_trans ?_ (Nat.dvd_mul_right _ _))).1 h2
  have : (4294967296 : Nat) = 2 ^ 32 := by decide
  rw [this]
  exact Nat.pow_dvd_pow 2 (by omega)
theorem set_bit {l : List Nat} {i v : Nat} (h : l[i / 32]? = some v) : val 4294967296 (l.set (i / 32) (v + 2 ^ (i % 32))) = val 4294967296 l + 2 ^ i := by
  have h1 := val_set (b := 4294967296) h (v + 2 ^ (i % 32))
  have hp : (4294967296 : Nat) ^ (i / 32) = 2 ^ (32 * (i / 32)) := by rw [Nat.pow_mul]
  have e : 2 ^ i = 2 ^ (32 * (i / 32)) * 2 ^ (i % 32) := by rw [← Nat.pow_add]; congr 1; omega
  rw [Nat.mul_add, hp, ← e] at h1
  omega
/-- One round of halving. -/
theorem half_step {x d D : Nat} (hd : D % 2 = d) : (x + 4294967296 * D) / 2 = (x / 2 + 2147483648 * d) + 4294967296 * (D / 2) := by omega
theorem dec_step {A r k : Nat} (hk : 0 < k) : (A * 10 ^ k + r) % 10 = r % 10 ∧ (A * 10 ^ k + r) / 10 = A * 10 ^ (k - 1) + r / 10 := by
  obtain ⟨j, rfl⟩ : ∃ j, k = j + 1 := ⟨k - 1, by omega⟩
  rw [Nat.pow_succ, ← Nat.mul_assoc, Nat.add_sub_cancel]
  omega
theorem rest_step {r k : Nat} (hk : 0 < k) (h : r < 10 ^ k) : r / 10 < 10 ^ (k - 1) := by
  obtain ⟨j, rfl⟩ : ∃ j, k = j + 1 := ⟨k - 1, by omega⟩
  rw [Nat.pow_succ] at h
  rw [Nat.add_sub_cancel]
  omega
end Wx
