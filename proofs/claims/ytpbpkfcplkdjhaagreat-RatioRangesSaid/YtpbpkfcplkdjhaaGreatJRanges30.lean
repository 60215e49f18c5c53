import Derived.Test.YtpbpkfcplkdjhaaGreatJRanges0
import Derived.Test.YtpbpkfcplkdjhaaGreatProg
import Derived.Test.YtpbpkfcplkdjhaaGreatJRanges1
import Derived.Test.YtpbpkfcplkdjhaaGreatJRanges29
namespace Wx

/-- The number of binary digits. -/
def nbits (n : Nat) : Nat := if n = 0 then 0 else Nat.log2 n + 1
theorem nbits_zero : nbits 0 = 0 := rfl
theorem nbits_pos {n : Nat} (h : 0 < n) : 0 < nbits n := by unfold nbits; rw [if_neg (by omega)]; omega
theorem nbits_lt (n : Nat) : n < 2 ^ nbits n := by
  unfold nbits
  split
  · next h => subst h; decide
  · exact Nat.lt_log2_self
theorem nbits_le {n : Nat} (h : 0 < n) : 2 ^ (nbits n - 1) ≤ n := by
  unfold nbits
  rw [if_neg (by omega)]
  exact Nat.log2_self_le (by omega)
theorem nbits_unique {n k : Nat} (h1 : 2 ^ k ≤ n) (h2 : n < 2 ^ (k + 1)) : nbits n = k + 1 := by
  have h0 : 0 < n := Nat.lt_of_lt_of_le (Nat.two_pow_pos k) h1
  have a1 := nbits_lt n
  have a2 := nbits_le h0
  have a3 := nbits_pos h0
  have b1 : k < nbits n := by
    rcases Nat.lt_or_ge k (nbits n) with h | h
    · exact h
    · have := Nat.pow_le_pow_right (show 0 < 2 by omega) h; omega
  have b2 : nbits n - 1 < k + 1 := by
    rcases Nat.lt_or_ge (nbits n - 1) (k + 1) with h | h
    · exact h
    · have := Nat.pow_le_pow_right (show 0 < 2 by omega) h; omega
  omega
theorem nbits_half {n : Nat} (h : 0 < n) : nbits n = nbits (n / 2) + 1 := by
  by_cases h1 : n = 1
  · subst h1; decide
  · have h2 : 0 < n / 2 := by omega
    have a := nbits_lt (n / 2)
    have b := nbits_le h2
    have c := nbits_pos h2
    have e := nbits_unique (n := n) (k := nbits (n / 2)) (by
      have : 2 ^ nbits (n / 2) = 2 * 2 ^ (nbits (n / 2) - 1) := by
        rw [← Nat.pow_succ']; congr 1; omega
      omega) (by rw [Nat.pow_succ]; omega)
    exact e
theorem nbits_mul_add {t m low k : Nat} (ht : 0 < t) (hl : low < 2 ^ k) (hm : m = low + 2 ^ k * t) : nbits m = k + nbits t := by
  have a := nbits_lt t
  have b := nbits_le ht
  have c := nbits_pos ht
  have e := nbits_unique (n := m) (k := k + (nbits t - 1)) (by
    rw [Nat.pow_add, hm]
    have := Nat.mul_le_mul_left (2 ^ k) b
    omega) (by
    rw [show k + (nbits t - 1) + 1 = k + nbits t by omega, Nat.pow_add, hm]
    have := Nat.mul_le_mul_left (2 ^ k) (Nat.succ_le_of_lt a)
    rw [Nat.mul_succ] at this
    omega)
  omega
theorem nbits_bd {j n : Nat} (h : Bd j n) : nbits n ≤ j := by
  rcases Nat.eq_zero_or_pos n with rfl | h0
  · rw [nbits_zero]; omega
  · have a := nbits_le h0
    have b := nbits_pos h0
    rcases Nat.lt_or_ge j (nbits n) with h' | h'
    · have := Nat.pow_le_pow_right (show 0 < 2 by omega) (show j ≤ nbits n - 1 by omega)
      unfold Bd at h
      omega
    · exact h'
theorem nbits_lt_of {m n : Nat} (h : nbits m < nbits n) : m < n := by
  have a := nbits_lt m
  have b : 0 < n := by
    rcases Nat.eq_zero_or_pos n with rfl | h0
    · rw [nbits_zero] at h; omega
    · exact h0
  have c := nbits_le b
  have := Nat.pow_le_pow_right (show 0 < 2 by omega) (show nbits m ≤ nbits n - 1 by omega)
  omega
/-- The start of a long division. -/
theorem nbits_start {a b : Nat} (hb : 0 < b) : a < b * 2 ^ (nbits a - nbits b + 1) := by
  have h1 := nbits_lt a
  have h2 := nbits_le hb
  have h3 := nbits_pos hb
  have h4 : 2 ^ nbits a ≤ 2 ^ ((nbits b - 1) + (nbits a - nbits b + 1)) := Nat.pow_le_pow_right (by omega) (by omega)
  rw [Nat.pow_add] at h4
  have h5 := Nat.mul_le_mul_right (2 ^ (nbits a - nbits b + 1)) h2
  omega
/-- One step of a long division, from the bit i down. -/
theorem ldiv_step {A b Q a i : Nat} (hA : A = Q * b + a) (ha : a < b * 2 ^ (i + 1)) (hQ : 2 ^ (i + 1) ∣ Q) :
    (b * 2 ^ i ≤ a → A = (Q + 2 ^ i) * b + (a - b * 2 ^ i) ∧ a - b * 2 ^ i < b * 2 ^ i ∧ 2 ^ i ∣ Q + 2 ^ i) ∧ (a < b * 2 ^ i → 2 ^ i ∣ Q) := by
  have hd : 2 ^ i ∣ Q := Nat.dvd_trans (Nat.pow_dvd_pow 2 (by omega)) hQ
  refine ⟨fun h => ⟨?_, ?_, Nat.dvd_add hd (Nat.dvd_refl _)⟩, fun _ => hd⟩
  · rw [Nat.add_mul, Nat.mul_comm (2 ^ i) b]; omega
  · rw [Nat.pow_succ, ← Nat.mul_assoc] at ha; omega
theorem half_pow (b i : Nat) : b * 2 ^ (i + 1) / 2 = b * 2 ^ i := by
  rw [Nat.pow_succ, ← Nat.mul_assoc, Nat.mul_div_cancel _ (by omega)]
/-- A bit is set in a word whose lower bits are 0. -/
theorem bit_room {x k : Nat} (hx : x < 4294967296) (hk : k < 32) (hd : 2 ^ (k + 1) ∣ x) : x + 2 ^ k < 4294967296 := by
  obtain ⟨y, rfl⟩ := hd
  have e : 4294967296 = 2 ^ (k + 1) * 2 ^ (31 - k) := by rw [← Nat.pow_add, show k + 1 + (31 - k) = 32 by omega]
  have h1 : y < 2 ^ (31 - k) := by
    rw [e] at hx
    exact Nat.lt_of_mul_lt_mul_left hx
  have h2 := Nat.mul_le_mul_left (2 ^ (k + 1)) (Nat.succ_le_of_lt h1)
  rw [Nat.mul_succ, ← e] at h2
  have h3 : 2 ^ k < 2 ^ (k + 1) := Nat.pow_lt_pow_right (by omega) (by omega)
  omega
/-- The word of a number that 2^(i+1) divides. -/
theorem word_dvd {l : List Nat} {i v : Nat} (hw : Wf 4294967296 l) (hd : 2 ^ (i + 1) ∣ val 4294967296 l) (h : l[i / 32]? = some v) : 2 ^ (i % 32 + 1) ∣ v := by
  obtain ⟨hi, hv⟩ := List.getElem?_eq_some_iff.1 h
  have e := val_take_drop 4294967296 l (i / 32) (by omega)
  rw [val_drop 4294967296 l (i / 32) hi, hv] at e
  have hp : (4294967296 : Nat) ^ (i / 32) = 2 ^ (32 * (i / 32)) := by rw [Nat.pow_mul]
  have hi' : i + 1 = 32 * (i / 32) + (i % 32 + 1) := by omega
  have hlow := val_lt (hw.take (i / 32))
  rw [List.length_take, Nat.min_eq_left (by omega), hp] at hlow
  rw [hp] at e
  have h1 : 2 ^ (32 * (i / 32)) ∣ val 4294967296 l := Nat.dvd_trans (Nat.pow_dvd_pow 2 (by omega)) hd
  have h0 : val 4294967296 (l.take (i / 32)) = 0 := by
    rw [e] at h1
    have := (Nat.dvd_add_left (Nat.dvd_mul_right _ _)).1 h1
    exact Nat.eq_zero_of_dvd_of_lt this hlow
  rw [e, h0, Nat.zero_add, hi', Nat.pow_add] at hd
  have h2 := Nat.dvd_of_mul_dvd_mul_left (Nat.two_pow_pos _) hd
  refine (Nat.dvd_add_left (Nat.dvd_trans ?_ (Nat.dvd_mul_right _ _))).1 h2
  have : (4294967296 : Nat) = 2 ^ 32 := by decide
  rw [this]
  exact Nat.pow_dvd_pow 2 (by omega)
theorem set_bit {l : List Nat} {i v : Nat} (h : l[i / 32]? = some v) : val 4294967296 (l.set (i / 32) (v + 2 ^ (i % 32))) = val 4294967296 l + 2 ^ i := by
  have h1 := val_set (b := 4294967296) h (v + 2 ^ (i % 32))
  have hp : (4294967296 : Nat) ^ (i / 32) = 2 ^ (32 * (i / 32)) := by rw [Nat.pow_mul]
  have e : 2 ^ i = 2 ^ (32 * (i / 32)) * 2 ^ (i % 32) := by rw [← Nat.pow_add]; congr 1; omega
  rw [Nat.mul_add, hp, ← e] at h1
  omega
/-- One round of halving. -/
theorem half_step {x d D : Nat} (hd : D % 2 = d) : (x + 4294967296 * D) / 2 = (x / 2 + 2147483648 * d) + 4294967296 * (D / 2) := by omega
theorem dec_step {A r k : Nat} (hk : 0 < k) : (A * 10 ^ k + r) % 10 = r % 10 ∧ (A * 10 ^ k + r) / 10 = A * 10 ^ (k - 1) + r / 10 := by
  obtain ⟨j, rfl⟩ : ∃ j, k = j + 1 := ⟨k - 1, by omega⟩
  rw [Nat.pow_succ, ← Nat.mul_assoc, Nat.add_sub_cancel]
  omega
theorem rest_step {r k : Nat} (hk : 0 < k) (h : r < 10 ^ k) : r / 10 < 10 ^ (k - 1) := by
  obtain ⟨j, rfl⟩ : ∃ j, k = j + 1 := ⟨k - 1, by omega⟩
  rw [Nat.pow_succ] at h
  rw [Nat.add_sub_cancel]
  omega
end Wx

namespace Wx
open Go Go.RowKit Go.Proofs

theorem wf_getD {b : Nat} (hb : 0 < b) {l : List Nat} (h : Wf b l) (i : Nat) : l.getD i 0 < b := by
  rw [List.getD_eq_getElem?_getD]
  cases e : l[i]? with
  | none => simpa using hb
  | some z => exact h _ (List.mem_of_getElem? e)
/-- One round of Sum. -/
theorem nsum_round {x y o : List Nat} {i cr vx vy L g : Nat} {wr w0 : World} (hol : o.length = i) (hlt : i < L) (wx : Wf b32 x) (wy : Wf b32 y) (hcr : cr ≤ 1) (hwo : Wf b32 o)
    (hx : x.getD i 0 = vx) (hy : y.getD i 0 = vy) (hr : Row wr .u32 169 g (o ++ List.replicate (L - i) 0)) (hbl : Below w0.heap.size w0 wr) (hg : w0.heap.size ≤ g)
    (hval : val b32 o + b32 ^ i * cr = val b32 (x.take i) + val b32 (y.take i)) :
    ∃ (o' : List Nat), (cr + vx + vy) / b32 ≤ 1 ∧ o'.length = i + 1 ∧ Wf b32 o' ∧
      Row (wr.setCell ⟨g, i, none⟩ (.int .u32 (((cr + vx + vy) % b32 : Nat) : Int))) .u32 169 g (o' ++ List.replicate (L - (i + 1)) 0) ∧
      Below w0.heap.size w0 (wr.setCell ⟨g, i, none⟩ (.int .u32 (((cr + vx + vy) % b32 : Nat) : Int))) ∧ val b32 o' + b32 ^ (i + 1) * ((cr + vx + vy) / b32) = val b32 (x.take (i + 1)) + val b32 (y.take (i + 1)) := by
  have hvx : vx < b32 := by rw [← hx]; exact wf_getD (by unfold b32; omega) wx i
  have hvy : vy < b32 := by rw [← hy]; exact wf_getD (by unfold b32; omega) wy i
  refine ⟨o ++ [(cr + vx + vy) % b32], by unfold b32 at *; omega, by simp [hol], hwo.append (Wf.cons (Nat.mod_lt _ (by unfold b32; omega)) (Wf.nil _)), ?_, hbl.setCell hg _, ?_⟩
  · have h := hr.set i ((cr + vx + vy) % b32)
    rw [show L - i = (L - (i + 1)) + 1 by omega, List.replicate_succ, set_mid hol] at h
    rw [List.append_assoc]
    exact h
  · exact sum_step hol hval (by rw [get_or_zero, hx]) (by rw [get_or_zero, hy]) (by have := Nat.mod_add_div (cr + vx + vy) b32; omega)
theorem nsum_end {b : Nat} {x y o : List Nat} {L cr s : Nat} (hb : 2 ≤ b) (wx : Wf b x) (wy : Wf b y) (hlx : x.length < L) (hly : y.length < L) (hval : val b o + b ^ L * cr = val b (x.take L) + val b (y.take L))
    (hs : val b x + val b y = s) : val b o = s := by
  rw [List.take_of_length_le (by omega), List.take_of_length_le (by omega), hs] at hval
  have h1 := val_lt wx
  have h2 := val_lt wy
  obtain ⟨K, rfl⟩ : ∃ K, L = K + 1 := ⟨L - 1, by omega⟩
  have h3 : b ^ x.length ≤ b ^ K := Nat.pow_le_pow_right (by omega) (by omega)
  have h4 : b ^ y.length ≤ b ^ K := Nat.pow_le_pow_right (by omega) (by omega)
  rcases Nat.eq_zero_or_pos cr with rfl | hc
  · omega
  · have h5 : b ^ (K + 1) ≤ b ^ (K + 1) * cr := Nat.le_mul_of_pos_right _ hc
    have h6 : 2 * b ^ K ≤ b ^ (K + 1) := by rw [Nat.pow_succ, Nat.mul_comm]; exact Nat.mul_le_mul_left _ hb
    omega
theorem u32_val {x : Nat} (h : x < b32) : (x : Int) ≤ 4294967295 := by unfold b32 at h; omega

set_option maxRecDepth 100000 in
set_option maxHeartbeats 1000000 in
theorem sum_num (w : World) (v1 v2 : Value) (m n : Nat) (h1 : Num .u32 b32 w v1 m) (h2 : Num .u32 b32 w v2 n) {j k : Nat} (hj : Bd j m) (hk : Bd k n) (hj1 : j ≤ 1000000000) (hk1 : k ≤ 1000000000) :
    Calls Tryz.prog 126 #[v1, v2] w (RetNum .u32 b32 w (m + n)) := by
  obtain ⟨A, c, rfl, ha⟩ := h1
  obtain ⟨B, d, rfl, hb⟩ := h2
  have hla := len32 hj
  have hlb := len32 hk
  have hv : val b32 (digs b32 m) + val b32 (digs b32 n) = m + n := by rw [val_digs two_le_b32, val_digs two_le_b32]
  have wa := digs_wf two_le_b32 m
  have wb := digs_wf two_le_b32 n
  clear hj hk
  generalize digs b32 m = x at *
  generalize digs b32 n = y at *
  generalize m + n = s at *
  have HV := Lib.hid hv
  clear hv
  have hlx : x.length ≤ 1000000000 := by omega
  have hly : y.length ≤ 1000000000 := by omega
  clear hla hlb
  go_enter Tryz.func126, Tryz.ntmps126
  go_upto_region 1 with (fail)
  go_cut [5] (fun v5 w' => ∃ L : Nat, v5 = .slice (some ⟨w.heap.size, 0, none⟩) (L + 1) (L + 1) ∧ x.length ≤ L ∧ y.length ≤ L ∧ L ≤ 1000000000 ∧ Row w' .u32 169 w.heap.size (List.replicate (L + 1) 0) ∧ Below w.heap.size w w')
  case first =>
    by_cases h : x.length < y.length
    · go_wp2_with (at_make; refine wpList_mk _ rfl _ _ _ rfl .u32 169 Tryz.underlying35 i32row _ _ rfl rfl (by omega) (by omega) (by omega) ?_; intro w1 hrow hbel hsz)
      go_meet
      case rel =>
        (try rw [show (max (x.length : Int) (y.length : Int) + 1).toNat = y.length + 1 by omega] at *)
        (try rw [show ((y.length : Int) + 1).toNat = y.length + 1 by omega] at *)
        exact ⟨y.length, rfl, by omega, by omega, by omega, hrow, hbel⟩
    · go_wp2_with (at_make; refine wpList_mk _ rfl _ _ _ rfl .u32 169 Tryz.underlying35 i32row _ _ rfl rfl (by omega) (by omega) (by omega) ?_; intro w1 hrow hbel hsz)
      go_meet
      case rel =>
        (try rw [show (max (x.length : Int) (y.length : Int) + 1).toNat = x.length + 1 by omega] at *)
        (try rw [show ((x.length : Int) + 1).toNat = x.length + 1 by omega] at *)
        exact ⟨x.length, rfl, by omega, by omega, by omega, hrow, hbel⟩
  case rest =>
    obtain ⟨L, rfl, hL1, hL2, hL3, hrow, hbel⟩ := hcut
    go_wp2_with fail
    go_loopw [6, 7] (fun s6 s7 wr => ∃ (i cr : Nat) (o : List Nat), i ≤ L + 1 ∧ s7 = .int .i64 i ∧ s6 = .int .u64 cr ∧ cr ≤ 1 ∧ o.length = i ∧ Wf b32 o ∧ Row wr .u32 169 w.heap.size (o ++ List.replicate (L + 1 - i) 0) ∧ Below w.heap.size w wr ∧ val b32 o + b32 ^ i * cr = val b32 (x.take i) + val b32 (y.take i))
      (fun _ s7 _ => L + 1 - (intOf s7).toNat)
    case atStart => exact ⟨0, 0, [], by omega, rfl, rfl, by omega, rfl, Wf.nil _, by simpa using hrow, hbel, by simp [val]⟩
    case round =>
      obtain ⟨i, cr, o, hi, rfl, rfl, hcr, hol, hwo, hr, hbl, hval⟩ := hrel
      have HVAL := Lib.hid hval
      have HOL := Lib.hid hol
      clear hval hol hrow hbel
      by_cases hlt : i < L + 1
      · obtain ⟨vo, hco, HVO⟩ := hr.get (i := i) (by have := HOL.out; simp; omega)
        have hcf := hr.frozen i
        by_cases hx1 : i < x.length
        · obtain ⟨bx, ox, vx, rfl, hcx, HVX⟩ := (ha.below hbl).get hx1
          have hvx := u32_val (wa _ (List.mem_of_getElem? HVX.out))
          by_cases hy1 : i < y.length
          · obtain ⟨by_, oy, vy, rfl, hcy, HVY⟩ := (hb.below hbl).get hy1
            have hvy := u32_val (wb _ (List.mem_of_getElem? HVY.out))
            go_wp2
            go_roundw
            case rel =>
              obtain ⟨o', hc', r⟩ := nsum_round (vx := vx) (vy := vy) HOL.out hlt wa wb hcr hwo (by rw [List.getD_eq_getElem?_getD, HVX.out]; rfl) (by rw [List.getD_eq_getElem?_getD, HVY.out]; rfl) hr hbl (Nat.le_refl _) HVAL.out
              exact ⟨i + 1, _, o', by omega, by go_num, by go_num, hc', r⟩
            case measure => simp [intOf]; omega
          · go_wp2
            go_roundw
            case rel =>
              obtain ⟨o', hc', r⟩ := nsum_round (vx := vx) (vy := 0) HOL.out hlt wa wb hcr hwo (by rw [List.getD_eq_getElem?_getD, HVX.out]; rfl) (by rw [List.getD_eq_getElem?_getD, List.getElem?_eq_none (by omega)]; rfl) hr hbl (Nat.le_refl _) HVAL.out
              exact ⟨i + 1, _, o', by omega, by go_num, by go_num, hc', r⟩
            case measure => simp [intOf]; omega
        · by_cases hy1 : i < y.length
          · obtain ⟨by_, oy, vy, rfl, hcy, HVY⟩ := (hb.below hbl).get hy1
            have hvy := u32_val (wb _ (List.mem_of_getElem? HVY.out))
            go_wp2
            go_roundw
            case rel =>
              obtain ⟨o', hc', r⟩ := nsum_round (vx := 0) (vy := vy) HOL.out hlt wa wb hcr hwo (by rw [List.getD_eq_getElem?_getD, List.getElem?_eq_none (by omega)]; rfl) (by rw [List.getD_eq_getElem?_getD, HVY.out]; rfl) hr hbl (Nat.le_refl _) HVAL.out
              exact ⟨i + 1, _, o', by omega, by go_num, by go_num, hc', r⟩
            case measure => simp [intOf]; omega
          · go_wp2
            go_roundw
            case rel =>
              obtain ⟨o', hc', r⟩ := nsum_round (vx := 0) (vy := 0) HOL.out hlt wa wb hcr hwo (by rw [List.getD_eq_getElem?_getD, List.getElem?_eq_none (by omega)]; rfl) (by rw [List.getD_eq_getElem?_getD, List.getElem?_eq_none (by omega)]; rfl) hr hbl (Nat.le_refl _) HVAL.out
              exact ⟨i + 1, _, o', by omega, by go_num, by go_num, hc', r⟩
            case measure => simp [intOf]; omega
      · obtain rfl : i = L + 1 := by omega
        have HF := Lib.hid (nsum_end two_le_b32 wa wb (by omega) (by omega) HVAL.out HV.out)
        rw [Nat.sub_self, List.replicate_zero, List.append_nil] at hr
        have hrd := hr.rd_all (c := L + 1) (by have := HOL.out; omega) (by unfold maxLen; omega)
        go_wp2_with fail
        refine (ncut_num _ _ _ o s hrd hwo _ HOL.out HF.out).mono ?_
        rintro e w' ⟨rfl, v, rfl, hv⟩
        go_wp2
        go_ret
        exact ⟨v, rfl, hv, hbl⟩
end Wx
