import Derived.Test.YtlomlheajdgdoaaGreatProg
import Derived.Test.YtlomlheajdgdoaaGreatJFloats0
import Derived.Test.YtlomlheajdgdoaaGreatCFloatsMem
import Derived.Test.YtlomlheajdgdoaaGreatJFloats2
namespace Wx
open Go Go.RowKit Go.Proofs

theorem add64_at {x y c : Operand} {ops : Array Oper} {Q : Exit → Act → World → Prop} {o : Oper} {rest : List Oper} {a : Act} {w : World} {X Y C : Int}
    (hx : a.eval x = .int .u64 X) (hy : a.eval y = .int .u64 Y) (hc : a.eval c = .int .u64 C) (x0 : 0 ≤ X) (y0 : 0 ≤ Y) (c0 : 0 ≤ C) (c1 : C ≤ 1)
    (hK : wpList Tryz.prog ops Q rest (a.put o.dst (.tuple #[.int .u64 (addLo X Y C), .int .u64 (addHi X Y C)])) w) : Ext3 Tryz.prog 105 x y c ops Q o rest a w :=
  add64_ext Tryz.func105 (by kernel_rfl) (by kernel_rfl) (by kernel_rfl) (by kernel_rfl) hx hy hc x0 y0 c0 c1 hK

theorem addLo_nat (x y c : Nat) : addLo (x : Int) y c = (((x + y + c) % b64 : Nat) : Int) := by unfold addLo b64; omega
theorem addHi_nat (x y c : Nat) : addHi (x : Int) y c = (((x + y + c) / b64 : Nat) : Int) := by unfold addHi b64; omega
theorem addLo_nat0 (x c : Nat) : addLo (x : Int) 0 c = (((x + 0 + c) % b64 : Nat) : Int) := addLo_nat x 0 c
theorem addHi_nat0 (x c : Nat) : addHi (x : Int) 0 c = (((x + 0 + c) / b64 : Nat) : Int) := addHi_nat x 0 c
theorem carry_le {x y c : Nat} (hx : x < b64) (hy : y < b64) (hc : c ≤ 1) : (x + y + c) / b64 ≤ 1 := by unfold b64 at *; omega

theorem plus_round {x y o : List Nat} {i cr vx vy : Nat} {g : Nat} {wr w0 : World} (hol : o.length = i) (hlt : i < x.length) (wx : Wf b64 x) (wy : Wf b64 y) (hcr : cr ≤ 1) (hwo : Wf b64 o)
    (hx : x[i]? = some vx) (hy : y.getD i 0 = vy) (hr : Row wr .u64 44 g (o ++ List.replicate (x.length + 1 - i) 0)) (hbl : Below w0.heap.size w0 wr) (hg : w0.heap.size ≤ g)
    (hval : val b64 o + b64 ^ i * cr = val b64 (x.take i) + val b64 (y.take i)) :
    ∃ (cr' : Nat) (o' : List Nat), ((vx + vy + cr) / b64 = cr') ∧ cr' ≤ 1 ∧ o'.length = i + 1 ∧ Wf b64 o' ∧
      Row (wr.setCell ⟨g, i, none⟩ (.int .u64 (((vx + vy + cr) % b64 : Nat) : Int))) .u64 44 g (o' ++ List.replicate (x.length + 1 - (i + 1)) 0) ∧
      Below w0.heap.size w0 (wr.setCell ⟨g, i, none⟩ (.int .u64 (((vx + vy + cr) % b64 : Nat) : Int))) ∧ val b64 o' + b64 ^ (i + 1) * cr' = val b64 (x.take (i + 1)) + val b64 (y.take (i + 1)) := by
  have hvx : vx < b64 := wx _ (List.mem_of_getElem? hx)
  have hvy : vy < b64 := by
    rw [← hy, List.getD_eq_getElem?_getD]
    cases h : y[i]? with
    | none => simp [b64]
    | some z => exact wy _ (List.mem_of_getElem? h)
  refine ⟨_, o ++ [(vx + vy + cr) % b64], rfl, carry_le hvx hvy hcr, by simp [hol], hwo.append (Wf.cons (Nat.mod_lt _ (by unfold b64; omega)) (Wf.nil _)), ?_, hbl.setCell hg _, ?_⟩
  · have h := hr.set i ((vx + vy + cr) % b64)
    rw [show x.length + 1 - i = (x.length + 1 - (i + 1)) + 1 by omega, List.replicate_succ, set_mid hol] at h
    rw [List.append_assoc]
    exact h
  · exact sum_step hol hval (val_take_get hx) (by rw [get_or_zero, hy]) (by have := Nat.mod_add_div (vx + vy + cr) b64; omega)

theorem plus_top {x y o : List Nat} {cr : Nat} (hx : Top x) (wx : Wf b64 x) (wo : Wf b64 o) (hol : o.length = x.length) (hxl : 2 ≤ b64) (hval : val b64 o + b64 ^ o.length * cr = val b64 x + val b64 y) : cr = 0 → Top o := by
  rintro rfl
  refine top_of_pow wo ?_
  by_cases h : o = []
  · exact .inl h
  · refine .inr ?_
    have hd := digs_val hxl wx hx
    have hpos : 0 < val b64 x := by
      rcases Nat.eq_zero_or_pos (val b64 x) with h0 | h0
      · rw [h0, digs_zero] at hd
        rw [← hd] at hol
        exact absurd (List.eq_nil_of_length_eq_zero hol) h
      · exact h0
    have := pow_digs_le hxl hpos
    rw [hd] at this
    rw [hol]
    simp at hval
    omega

set_option maxHeartbeats 400000 in
theorem plus_num (w : World) (v1 v2 : Value) (m n : Nat) (h1 : Num .u64 b64 w v1 m) (h2 : Num .u64 b64 w v2 n) {j k : Nat} (hj : Bd j m) (hk : Bd k n) (hj1 : j ≤ 1000000000) (hk1 : k ≤ 1000000000) :
    Calls Tryz.prog 120 #[v1, v2] w (RetNum .u64 b64 w (m + n)) := by
  obtain ⟨A, c, rfl, ha⟩ := h1
  obtain ⟨B, d, rfl, hb⟩ := h2
  have hla := len64 hj
  have hlb := len64 hk
  have hv : val b64 (digs b64 m) + val b64 (digs b64 n) = m + n := by rw [val_digs two_le_b64, val_digs two_le_b64]
  have wa := digs_wf two_le_b64 m
  have wb := digs_wf two_le_b64 n
  have ta := digs_top two_le_b64 m
  have tb := digs_top two_le_b64 n
  clear hj hk
  generalize digs b64 m = a at *
  generalize digs b64 n = b at *
  generalize m + n = s at *
  go_enter Tryz.func120, Tryz.ntmps120
  go_upto_if 14 with fail
  go_cut [0, 1] (fun v0 v1 w' => w' = w ∧ ∃ X cx x Y cy y, v0 = .slice X x.length cx ∧ v1 = .slice Y y.length cy ∧ Rd w .u64 X cx x ∧ Rd w .u64 Y cy y ∧ Wf b64 x ∧ Wf b64 y ∧ Top x ∧ y.length ≤ x.length ∧ x.length ≤ 1000000000 ∧ val b64 x + val b64 y = s)
  case first =>
    by_cases h : a.length < b.length
    · go_wp2
      go_meet
      case rel => exact ⟨rfl, B, d, b, A, c, a, rfl, rfl, hb, ha, wb, wa, tb, by omega, by omega, by omega⟩
    · go_wp2
      go_meet
      case rel => exact ⟨rfl, A, c, a, B, d, b, rfl, rfl, ha, hb, wa, wb, ta, by omega, by omega, hv⟩
  case rest =>
    obtain ⟨rfl, X, cx, x, Y, cy, y, rfl, rfl, hx, hy, wx, wy, tx, hyx, hx1, hs⟩ := hcut
    clear ha hb wa wb ta tb hla hlb hv
    have HS := Lib.hid hs
    clear hs
    have hlx := hx.len
    have hly := hy.len
    go_wp2_with (at_make; refine wpList_mk _ rfl _ _ _ rfl .u64 44 Tryz.underlying27 i64row _ _ rfl rfl (by omega) (by omega) (by omega) ?_; intro w1 hrow hbel hsz)
    go_loopw [6, 25] (fun s6 s25 wr => ∃ (i cr : Nat) (o : List Nat), i ≤ x.length ∧ s25 = .int .i64 i ∧ s6 = .int .u64 cr ∧ cr ≤ 1 ∧ o.length = i ∧ Wf b64 o ∧ Row wr .u64 44 wc.heap.size (o ++ List.replicate (x.length + 1 - i) 0) ∧ Below wc.heap.size wc wr ∧ val b64 o + b64 ^ i * cr = val b64 (x.take i) + val b64 (y.take i))
      (fun _ s25 _ => x.length - (intOf s25).toNat)
    case atStart => exact ⟨0, 0, [], by omega, rfl, rfl, by omega, rfl, Wf.nil _, by simpa using hrow, hbel, by simp [val]⟩
    case round =>
      obtain ⟨i, cr, o, hi, rfl, rfl, hcr, hol, hwo, hr, hbl, hval⟩ := hrel
      have HVAL := Lib.hid hval
      have HOL := Lib.hid hol
      clear hval hol hrow hbel hsz
      by_cases hlt : i < x.length
      · obtain ⟨bx, ox, vx, rfl, hcx, HVX⟩ := (hx.below hbl).get hlt
        obtain ⟨vo, hco, HVO⟩ := hr.get (i := i) (by have := HOL.out; simp; omega)
        have hcf := hr.frozen i
        by_cases hy1 : i < y.length
        · obtain ⟨by_, oy, vy, rfl, hcy, HVY⟩ := (hy.below hbl).get hy1
          go_wp2_with ((with_reducible refine at_ext3 105 rfl rfl ?_); refine add64_at rfl rfl rfl (by omega) (by omega) (by omega) (by omega) ?_)
          go_roundw
          case rel =>
            rw [addLo_nat, addHi_nat]
            obtain ⟨cr', o', e, r⟩ := plus_round (vy := vy) HOL.out hlt wx wy hcr hwo HVX.out (by rw [List.getD_eq_getElem?_getD, HVY.out]; rfl) hr hbl (Nat.le_refl _) HVAL.out
            exact ⟨i + 1, cr', o', by omega, by go_num, by rw [e], r⟩
          case measure => simp [intOf]; omega
        · go_wp2_with ((with_reducible refine at_ext3 105 rfl rfl ?_); refine add64_at rfl rfl rfl (by omega) (by omega) (by omega) (by omega) ?_)
          go_roundw
          case rel =>
            rw [addLo_nat0, addHi_nat0]
            obtain ⟨cr', o', e, r⟩ := plus_round (vy := 0) HOL.out hlt wx wy hcr hwo HVX.out (by rw [List.getD_eq_getElem?_getD, List.getElem?_eq_none (by omega)]; rfl) hr hbl (Nat.le_refl _) HVAL.out
            exact ⟨i + 1, cr', o', by omega, by go_num, by rw [e], r⟩
          case measure => simp [intOf]; omega
      · obtain rfl : i = x.length := by omega
        have hfin : val b64 o + b64 ^ o.length * cr = s := by
          have := HVAL.out
          rw [HOL.out, this, List.take_of_length_le (Nat.le_refl _), List.take_of_length_le (by omega)]; exact HS.out
        have HF := Lib.hid hfin
        clear hfin
        rw [show x.length + 1 - x.length = 1 by omega, show List.replicate 1 0 = [0] from rfl] at hr
        rcases Nat.eq_zero_or_pos cr with rfl | hc0
        · go_wp2
          go_ret
          refine ⟨_, rfl, ?_, hbl⟩
          have h := hr.rd (n := x.length) (c := x.length + 1) (by simp; have := HOL.out; omega) (by omega) (by unfold maxLen; omega)
          rw [← HOL.out, List.take_left] at h
          have hF := HF.out
          rw [Nat.mul_zero, Nat.add_zero] at hF
          rw [← hF, ← HOL.out]
          exact Num.of two_le_b64 h rfl hwo (plus_top (y := y) tx wx hwo HOL.out two_le_b64 (by have h1 := HF.out; have h2 := HS.out; omega) rfl)
        · have hA := hr.keep ((Below.refl _ _).alloc (Nat.le_refl _) (.cells #[.int .u64 (cr : Int)] 44))
          obtain ⟨vo, hco, _⟩ := hA.get (i := x.length) (by simp; have := HOL.out; omega)
          have hcf := hA.frozen x.length
          go_wp2
          go_ret
          refine ⟨_, rfl, ?_, (hbl.alloc hbl.size _).setCell (Nat.le_refl _) _⟩
          have hR := hA.set x.length cr
          rw [set_mid HOL.out] at hR
          have hF := HF.out
          rw [← val_snoc] at hF
          rw [← hF]
          have hl : (o ++ [cr]).length = x.length + 1 := by simp [HOL.out]
          exact Num.of two_le_b64 (hR.rd_all (by omega) (by unfold maxLen; omega)) hl (hwo.append (Wf.cons (by unfold b64; omega) (Wf.nil _))) (by unfold Top; simp; omega)
end Wx

namespace Wx

def nbits (n : Nat) : Nat := if n = 0 then 0 else Nat.log2 n + 1
theorem nbits_zero : nbits 0 = 0 := rfl
theorem nbits_pos {n : Nat} (h : 0 < n) : 0 < nbits n := by unfold nbits; rw [if_neg (by omega)]; omega
theorem nbits_lt (n : Nat) : n < 2 ^ nbits n := by
  unfold nbits
  split
  · next h => subst h; decide
  · exact Nat.lt_log2_self
theorem nbits_le {n : Nat} (h : 0 < n) : 2 ^ (nbits n - 1) ≤ n := by
  unfold nbits
  rw [if_neg (by omega)]
  exact Nat.log2_self_le (by omega)
theorem nbits_unique {n k : Nat} (h1 : 2 ^ k ≤ n) (h2 : n < 2 ^ (k + 1)) : nbits n = k + 1 := by
  have h0 : 0 < n := Nat.lt_of_lt_of_le (Nat.two_pow_pos k) h1
  have a1 := nbits_lt n
  have a2 := nbits_le h0
  have a3 := nbits_pos h0
  have b1 : k < nbits n := by
    rcases Nat.lt_or_ge k (nbits n) with h | h
    · exact h
    · have := Nat.pow_le_pow_right (show 0 < 2 by omega) h; omega
  have b2 : nbits n - 1 < k + 1 := by
    rcases Nat.lt_or_ge (nbits n - 1) (k + 1) with h | h
    · exact h
    · have := Nat.pow_le_pow_right (show 0 < 2 by omega) h; omega
  omega
theorem nbits_half {n : Nat} (h : 0 < n) : nbits n = nbits (n / 2) + 1 := by
  by_cases h1 : n = 1
  · subst h1; decide
  · have h2 : 0 < n / 2 := by omega
    have a := nbits_lt (n / 2)
    have b := nbits_le h2
    have c := nbits_pos h2
    have e := nbits_unique (n := n) (k := nbits (n / 2)) (by
      have : 2 ^ nbits (n / 2) = 2 * 2 ^ (nbits (n / 2) - 1) := by
        rw [← Nat.pow_succ']; congr 1; omega
      omega) (by rw [Nat.pow_succ]; omega)
    exact e
theorem nbits_mul_add {t m low k : Nat} (ht : 0 < t) (hl : low < 2 ^ k) (hm : m = low + 2 ^ k * t) : nbits m = k + nbits t := by
  have a := nbits_lt t
  have b := nbits_le ht
  have c := nbits_pos ht
  have e := nbits_unique (n := m) (k := k + (nbits t - 1)) (by
    rw [Nat.pow_add, hm]
    have := Nat.mul_le_mul_left (2 ^ k) b
    omega) (by
    rw [show k + (nbits t - 1) + 1 = k + nbits t by omega, Nat.pow_add, hm]
    have := Nat.mul_le_mul_left (2 ^ k) (Nat.succ_le_of_lt a)
    rw [Nat.mul_succ] at this
    omega)
  omega
theorem nbits_bd {j n : Nat} (h : Bd j n) : nbits n ≤ j := by
  rcases Nat.eq_zero_or_pos n with rfl | h0
  · rw [nbits_zero]; omega
  · have a := nbits_le h0
    have b := nbits_pos h0
    rcases Nat.lt_or_ge j (nbits n) with h' | h'
    · have := Nat.pow_le_pow_right (show 0 < 2 by omega) (show j ≤ nbits n - 1 by omega)
      unfold Bd at h
      omega
    · exact h'
theorem nbits_lt_of {m n : Nat} (h : nbits m < nbits n) : m < n := by
  have a := nbits_lt m
  have b : 0 < n := by
    rcases Nat.eq_zero_or_pos n with rfl | h0
    · rw [nbits_zero] at h; omega
    · exact h0
  have c := nbits_le b
  have := Nat.pow_le_pow_right (show 0 < 2 by omega) (show nbits m ≤ nbits n - 1 by omega)
  omega
theorem nbits_start {a b : Nat} (hb : 0 < b) : a < b * 2 ^ (nbits a - nbits b + 1) := by
  have h1 := nbits_lt a
  have h2 := nbits_le hb
  have h3 := nbits_pos hb
  have h4 : 2 ^ nbits a ≤ 2 ^ ((nbits b - 1) + (nbits a - nbits b + 1)) := Nat.pow_le_pow_right (by omega) (by omega)
  rw [Nat.pow_add] at h4
  have h5 := Nat.mul_le_mul_right (2 ^ (nbits a - nbits b + 1)) h2
  omega
theorem ldiv_step {A b Q a i : Nat} (hA : A = Q * b + a) (ha : a < b * 2 ^ (i + 1)) (hQ : 2 ^ (i + 1) ∣ Q) :
    (b * 2 ^ i ≤ a → A = (Q + 2 ^ i) * b + (a - b * 2 ^ i) ∧ a - b * 2 ^ i < b * 2 ^ i ∧ 2 ^ i ∣ Q + 2 ^ i) ∧ (a < b * 2 ^ i → 2 ^ i ∣ Q) := by
  have hd : 2 ^ i ∣ Q := Nat.dvd_trans (Nat.pow_dvd_pow 2 (by omega)) hQ
  refine ⟨fun h => ⟨?_, ?_, Nat.dvd_add hd (Nat.dvd_refl _)⟩, fun _ => hd⟩
  · rw [Nat.add_mul, Nat.mul_comm (2 ^ i) b]; omega
  · rw [Nat.pow_succ, ← Nat.mul_assoc] at ha; omega
theorem half_pow (b i : Nat) : b * 2 ^ (i + 1) / 2 = b * 2 ^ i := by
  rw [Nat.pow_succ, ← Nat.mul_assoc, Nat.mul_div_cancel _ (by omega)]
theorem bit_room {x k : Nat} (hx : x < 4294967296) (hk : k < 32) (hd : 2 ^ (k + 1) ∣ x) : x + 2 ^ k < 4294967296 := by
  obtain ⟨y, rfl⟩ := hd
  have e : 4294967296 = 2 ^ (k + 1) * 2 ^ (31 - k) := by rw [← Nat.pow_add, show k + 1 + (31 - k) = 32 by omega]
  have h1 : y < 2 ^ (31 - k) := by
    rw [e] at hx
    exact Nat.lt_of_mul_lt_mul_left hx
  have h2 := Nat.mul_le_mul_left (2 ^ (k + 1)) (Nat.succ_le_of_lt h1)
  rw [Nat.mul_succ, ← e] at h2
  have h3 : 2 ^ k < 2 ^ (k + 1) := Nat.pow_lt_pow_right (by omega) (by omega)
  omega
theorem word_dvd {l : List Nat} {i v : Nat} (hw : Wf 4294967296 l) (hd : 2 ^ (i + 1) ∣ val 4294967296 l) (h : l[i / 32]? = some v) : 2 ^ (i % 32 + 1) ∣ v := by
  obtain ⟨hi, hv⟩ := List.getElem?_eq_some_iff.1 h
  have e := val_take_drop 4294967296 l (i / 32) (by omega)
  rw [val_drop 4294967296 l (i / 32) hi, hv] at e
  have hp : (4294967296 : Nat) ^ (i / 32) = 2 ^ (32 * (i / 32)) := by rw [Nat.pow_mul]
  have hi' : i + 1 = 32 * (i / 32) + (i % 32 + 1) := by omega
  have hlow := val_lt (hw.take (i / 32))
  rw [List.length_take, Nat.min_eq_left (by omega), hp] at hlow
  rw [hp] at e
  have h1 : 2 ^ (32 * (i / 32)) ∣ val 4294967296 l := Nat.dvd_trans (Nat.pow_dvd_pow 2 (by omega)) hd
  have h0 : val 4294967296 (l.take (i / 32)) = 0 := by
    rw [e] at h1
    have := (Nat.dvd_add_left (Nat.dvd_mul_right _ _)).1 h1
    exact Nat.eq_zero_of_dvd_of_lt this hlow
  rw [e, h0, Nat.zero_add, hi', Nat.pow_add] at hd
  have h2 := Nat.dvd_of_mul_dvd_mul_left (Nat.two_pow_pos _) hd
  refine (Nat.dvd_add_left (Nat.dvd_trans ?_ (Nat.dvd_mul_right _ _))).1 h2
  have : (4294967296 : Nat) = 2 ^ 32 := by decide
  rw [this]
  exact Nat.pow_dvd_pow 2 (by omega)
theorem set_bit {l : List Nat} {i v : Nat} (h : l[i / 32]? = some v) : val 4294967296 (l.set (i / 32) (v + 2 ^ (i % 32))) = val 4294967296 l + 2 ^ i := by
  have h1 := val_set (b := 4294967296) h (v + 2 ^ (i % 32))
  have hp : (4294967296 : Nat) ^ (i / 32) = 2 ^ (32 * (i / 32)) := by rw [Nat.pow_mul]
  have e : 2 ^ i = 2 ^ (32 * (i / 32)) * 2 ^ (i % 32) := by rw [← Nat.pow_add]; congr 1; omega
  rw [Nat.mul_add, hp, ← e] at h1
  omega
theorem half_step {x d D : Nat} (hd : D % 2 = d) : (x + 4294967296 * D) / 2 = (x / 2 + 2147483648 * d) + 4294967296 * (D / 2) := by omega
theorem dec_step {A r k : Nat} (hk : 0 < k) : (A * 10 ^ k + r) % 10 = r % 10 ∧ (A * 10 ^ k + r) / 10 = A * 10 ^ (k - 1) + r / 10 := by
  obtain ⟨j, rfl⟩ : ∃ j, k = j + 1 := ⟨k - 1, by omega⟩
  rw [Nat.pow_succ, ← Nat.mul_assoc, Nat.add_sub_cancel]
  omega
theorem rest_step {r k : Nat} (hk : 0 < k) (h : r < 10 ^ k) : r / 10 < 10 ^ (k - 1) := by
  obtain ⟨j, rfl⟩ : ∃ j, k = j + 1 := ⟨k - 1, by omega⟩
  rw [Nat.pow_succ] at h
  rw [Nat.add_sub_cancel]
  omega
end Wx
