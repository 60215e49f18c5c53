import Derived.Test.YtlomlheajdgdoaaGreatProg
import Derived.Test.YtlomlheajdgdoaaGreatJPairs0
import Derived.Test.YtlomlheajdgdoaaGreatJPairs1
import Derived.Test.YtlomlheajdgdoaaGreatJPairs22
import Derived.Deep.QuietTactic
import Derived.BigQuiet
namespace Wx
set_option maxRecDepth 100000
open Go Go.RowKit Go.Proofs

theorem wf_getD {b : Nat} (hb : 0 < b) {l : List Nat} (h : Wf b l) (i : Nat) : l.getD i 0 < b := by
  rw [List.getD_eq_getElem?_getD]
  cases e : l[i]? with
  | none => simpa using hb
  | some z => exact h _ (List.mem_of_getElem? e)
theorem nsum_round {x y o : List Nat} {i cr vx vy L g : Nat} {wr w0 : World} (hol : o.length = i) (hlt : i < L) (wx : Wf b32 x) (wy : Wf b32 y) (hcr : cr ≤ 1) (hwo : Wf b32 o)
    (hx : x.getD i 0 = vx) (hy : y.getD i 0 = vy) (hr : Row wr .u32 49 g (o ++ List.replicate (L - i) 0)) (hbl : Below w0.heap.size w0 wr) (hg : w0.heap.size ≤ g)
    (hval : val b32 o + b32 ^ i * cr = val b32 (x.take i) + val b32 (y.take i)) :
    ∃ (o' : List Nat), (cr + vx + vy) / b32 ≤ 1 ∧ o'.length = i + 1 ∧ Wf b32 o' ∧
      Row (wr.setCell ⟨g, i, none⟩ (.int .u32 (((cr + vx + vy) % b32 : Nat) : Int))) .u32 49 g (o' ++ List.replicate (L - (i + 1)) 0) ∧
      Below w0.heap.size w0 (wr.setCell ⟨g, i, none⟩ (.int .u32 (((cr + vx + vy) % b32 : Nat) : Int))) ∧ val b32 o' + b32 ^ (i + 1) * ((cr + vx + vy) / b32) = val b32 (x.take (i + 1)) + val b32 (y.take (i + 1)) := by
  have hvx : vx < b32 := by rw [← hx]; exact wf_getD (by unfold b32; omega) wx i
  have hvy : vy < b32 := by rw [← hy]; exact wf_getD (by unfold b32; omega) wy i
  refine ⟨o ++ [(cr + vx + vy) % b32], by unfold b32 at *; omega, by simp [hol], hwo.append (Wf.cons (Nat.mod_lt _ (by unfold b32; omega)) (Wf.nil _)), ?_, hbl.setCell hg _, ?_⟩
  · have h := hr.set i ((cr + vx + vy) % b32)
    rw [show L - i = (L - (i + 1)) + 1 by omega, List.replicate_succ, set_mid hol] at h
    rw [List.append_assoc]
    exact h
  · exact sum_step hol hval (by rw [get_or_zero, hx]) (by rw [get_or_zero, hy]) (by have := Nat.mod_add_div (cr + vx + vy) b32; omega)
theorem nsum_end {b : Nat} {x y o : List Nat} {L cr s : Nat} (hb : 2 ≤ b) (wx : Wf b x) (wy : Wf b y) (hlx : x.length < L) (hly : y.length < L) (hval : val b o + b ^ L * cr = val b (x.take L) + val b (y.take L))
    (hs : val b x + val b y = s) : val b o = s := by
  rw [List.take_of_length_le (by omega), List.take_of_length_le (by omega), hs] at hval
  have h1 := val_lt wx
  have h2 := val_lt wy
  obtain ⟨K, rfl⟩ : ∃ K, L = K + 1 := ⟨L - 1, by omega⟩
  have h3 : b ^ x.length ≤ b ^ K := Nat.pow_le_pow_right (by omega) (by omega)
  have h4 : b ^ y.length ≤ b ^ K := Nat.pow_le_pow_right (by omega) (by omega)
  rcases Nat.eq_zero_or_pos cr with rfl | hc
  · omega
  · have h5 : b ^ (K + 1) ≤ b ^ (K + 1) * cr := Nat.le_mul_of_pos_right _ hc
    have h6 : 2 * b ^ K ≤ b ^ (K + 1) := by rw [Nat.pow_succ, Nat.mul_comm]; exact Nat.mul_le_mul_left _ hb
    omega
theorem u32_val {x : Nat} (h : x < b32) : (x : Int) ≤ 4294967295 := by unfold b32 at h; omega

set_option maxHeartbeats 1000000 in
theorem sum_num (w : World) (v1 v2 : Value) (m n : Nat) (h1 : Num .u32 b32 w v1 m) (h2 : Num .u32 b32 w v2 n) {j k : Nat} (hj : Bd j m) (hk : Bd k n) (hj1 : j ≤ 1000000000) (hk1 : k ≤ 1000000000) :
    Calls Tryz.prog 123 #[v1, v2] w (RetNum .u32 b32 w (m + n)) := by
  obtain ⟨A, c, rfl, ha⟩ := h1
  obtain ⟨B, d, rfl, hb⟩ := h2
  have hla := len32 hj
  have hlb := len32 hk
  have hv : val b32 (digs b32 m) + val b32 (digs b32 n) = m + n := by rw [val_digs two_le_b32, val_digs two_le_b32]
  have wa := digs_wf two_le_b32 m
  have wb := digs_wf two_le_b32 n
  clear hj hk
  generalize digs b32 m = x at *
  generalize digs b32 n = y at *
  generalize m + n = s at *
  have HV := Lib.hid hv
  clear hv
  have hlx : x.length ≤ 1000000000 := by omega
  have hly : y.length ≤ 1000000000 := by omega
  clear hla hlb
  go_enter Tryz.func123, Tryz.ntmps123
  go_upto_region 1 with (fail)
  go_cut [5] (fun v5 w' => ∃ L : Nat, v5 = .slice (some ⟨w.heap.size, 0, none⟩) (L + 1) (L + 1) ∧ x.length ≤ L ∧ y.length ≤ L ∧ L ≤ 1000000000 ∧ Row w' .u32 49 w.heap.size (List.replicate (L + 1) 0) ∧ Below w.heap.size w w')
  case first =>
    by_cases h : x.length < y.length
    · go_wp2_with (at_make; refine wpList_mk _ rfl _ _ _ rfl .u32 49 Tryz.underlying31 i32row _ _ rfl rfl (by omega) (by omega) (by omega) ?_; intro w1 hrow hbel hsz)
      go_meet
      case rel =>
        (try rw [show (max (x.length : Int) (y.length : Int) + 1).toNat = y.length + 1 by omega] at *)
        (try rw [show ((y.length : Int) + 1).toNat = y.length + 1 by omega] at *)
        exact ⟨y.length, rfl, by omega, by omega, by omega, hrow, hbel⟩
    · go_wp2_with (at_make; refine wpList_mk _ rfl _ _ _ rfl .u32 49 Tryz.underlying31 i32row _ _ rfl rfl (by omega) (by omega) (by omega) ?_; intro w1 hrow hbel hsz)
      go_meet
      case rel =>
        (try rw [show (max (x.length : Int) (y.length : Int) + 1).toNat = x.length + 1 by omega] at *)
        (try rw [show ((x.length : Int) + 1).toNat = x.length + 1 by omega] at *)
        exact ⟨x.length, rfl, by omega, by omega, by omega, hrow, hbel⟩
  case rest =>
    obtain ⟨L, rfl, hL1, hL2, hL3, hrow, hbel⟩ := hcut
    go_wp2_with fail
    go_loopw [6, 7] (fun s6 s7 wr => ∃ (i cr : Nat) (o : List Nat), i ≤ L + 1 ∧ s7 = .int .i64 i ∧ s6 = .int .u64 cr ∧ cr ≤ 1 ∧ o.length = i ∧ Wf b32 o ∧ Row wr .u32 49 w.heap.size (o ++ List.replicate (L + 1 - i) 0) ∧ Below w.heap.size w wr ∧ val b32 o + b32 ^ i * cr = val b32 (x.take i) + val b32 (y.take i))
      (fun _ s7 _ => L + 1 - (intOf s7).toNat)
    case atStart => exact ⟨0, 0, [], by omega, rfl, rfl, by omega, rfl, Wf.nil _, by simpa using hrow, hbel, by simp [val]⟩
    case round =>
      obtain ⟨i, cr, o, hi, rfl, rfl, hcr, hol, hwo, hr, hbl, hval⟩ := hrel
      have HVAL := Lib.hid hval
      have HOL := Lib.hid hol
      clear hval hol hrow hbel
      by_cases hlt : i < L + 1
      · obtain ⟨vo, hco, HVO⟩ := hr.get (i := i) (by have := HOL.out; simp; omega)
        have hcf := hr.frozen i
        by_cases hx1 : i < x.length
        · obtain ⟨bx, ox, vx, rfl, hcx, HVX⟩ := (ha.below hbl).get hx1
          have hvx := u32_val (wa _ (List.mem_of_getElem? HVX.out))
          by_cases hy1 : i < y.length
          · obtain ⟨by_, oy, vy, rfl, hcy, HVY⟩ := (hb.below hbl).get hy1
            have hvy := u32_val (wb _ (List.mem_of_getElem? HVY.out))
            go_wp2
            go_roundw
            case rel =>
              obtain ⟨o', hc', r⟩ := nsum_round (vx := vx) (vy := vy) HOL.out hlt wa wb hcr hwo (by rw [List.getD_eq_getElem?_getD, HVX.out]; rfl) (by rw [List.getD_eq_getElem?_getD, HVY.out]; rfl) hr hbl (Nat.le_refl _) HVAL.out
              exact ⟨i + 1, _, o', by omega, by go_num, by go_num, hc', r⟩
            case measure => simp [intOf]; omega
          · go_wp2
            go_roundw
            case rel =>
              obtain ⟨o', hc', r⟩ := nsum_round (vx := vx) (vy := 0) HOL.out hlt wa wb hcr hwo (by rw [List.getD_eq_getElem?_getD, HVX.out]; rfl) (by rw [List.getD_eq_getElem?_getD, List.getElem?_eq_none (by omega)]; rfl) hr hbl (Nat.le_refl _) HVAL.out
              exact ⟨i + 1, _, o', by omega, by go_num, by go_num, hc', r⟩
            case measure => simp [intOf]; omega
        · by_cases hy1 : i < y.length
          · obtain ⟨by_, oy, vy, rfl, hcy, HVY⟩ := (hb.below hbl).get hy1
            have hvy := u32_val (wb _ (List.mem_of_getElem? HVY.out))
            go_wp2
            go_roundw
            case rel =>
              obtain ⟨o', hc', r⟩ := nsum_round (vx := 0) (vy := vy) HOL.out hlt wa wb hcr hwo (by rw [List.getD_eq_getElem?_getD, List.getElem?_eq_none (by omega)]; rfl) (by rw [List.getD_eq_getElem?_getD, HVY.out]; rfl) hr hbl (Nat.le_refl _) HVAL.out
              exact ⟨i + 1, _, o', by omega, by go_num, by go_num, hc', r⟩
            case measure => simp [intOf]; omega
          · go_wp2
            go_roundw
            case rel =>
              obtain ⟨o', hc', r⟩ := nsum_round (vx := 0) (vy := 0) HOL.out hlt wa wb hcr hwo (by rw [List.getD_eq_getElem?_getD, List.getElem?_eq_none (by omega)]; rfl) (by rw [List.getD_eq_getElem?_getD, List.getElem?_eq_none (by omega)]; rfl) hr hbl (Nat.le_refl _) HVAL.out
              exact ⟨i + 1, _, o', by omega, by go_num, by go_num, hc', r⟩
            case measure => simp [intOf]; omega
      · obtain rfl : i = L + 1 := by omega
        have HF := Lib.hid (nsum_end two_le_b32 wa wb (by omega) (by omega) HVAL.out HV.out)
        rw [Nat.sub_self, List.replicate_zero, List.append_nil] at hr
        have hrd := hr.rd_all (c := L + 1) (by have := HOL.out; omega) (by unfold maxLen; omega)
        go_wp2_with fail
        refine (ncut_num _ _ _ o s hrd hwo _ HOL.out HF.out).mono ?_
        rintro e w' ⟨rfl, v, rfl, hv⟩
        go_wp2
        go_ret
        exact ⟨v, rfl, hv, hbl⟩
end Wx

namespace Wx
set_option maxRecDepth 100000
open Go Go.RowKit Go.Proofs

theorem ndiff_round {x y o : List Nat} {i br vx vy s t L g : Nat} {wr w0 : World} (hol : o.length = i) (hlt : i < L) (hwo : Wf b32 o) (hs : s + vy + br = vx + b32 * t) (hsl : s < b32)
    (hx : x.getD i 0 = vx) (hy : y.getD i 0 = vy) (hr : Row wr .u32 49 g (o ++ List.replicate (L - i) 0)) (hbl : Below w0.heap.size w0 wr) (hg : w0.heap.size ≤ g)
    (hval : val b32 o + val b32 (y.take i) = val b32 (x.take i) + b32 ^ i * br) :
    ∃ (o' : List Nat), o'.length = i + 1 ∧ Wf b32 o' ∧
      Row (wr.setCell ⟨g, i, none⟩ (.int .u32 (s : Int))) .u32 49 g (o' ++ List.replicate (L - (i + 1)) 0) ∧
      Below w0.heap.size w0 (wr.setCell ⟨g, i, none⟩ (.int .u32 (s : Int))) ∧ val b32 o' + val b32 (y.take (i + 1)) = val b32 (x.take (i + 1)) + b32 ^ (i + 1) * t := by
  refine ⟨o ++ [s], by simp [hol], hwo.append (Wf.cons hsl (Wf.nil _)), ?_, hbl.setCell hg _, ?_⟩
  · have h := hr.set i s
    rw [show L - i = (L - (i + 1)) + 1 by omega, List.replicate_succ, set_mid hol] at h
    rw [List.append_assoc]
    exact h
  · exact dif_step hol hval (by rw [get_or_zero, hx]) (by rw [get_or_zero, hy]) hs
theorem ndiff_end {b : Nat} {x y o : List Nat} {br m n : Nat} (hwo : Wf b o) (hol : o.length = x.length) (hly : y.length ≤ x.length) (hval : val b o + val b (y.take x.length) = val b (x.take x.length) + b ^ x.length * br)
    (hm : val b x = m) (hn : val b y = n) (hnm : n ≤ m) : val b o = m - n := by
  rw [List.take_of_length_le (Nat.le_refl _), List.take_of_length_le hly, hm, hn] at hval
  have hlt := val_lt hwo
  rw [hol] at hlt
  rcases Nat.eq_zero_or_pos br with rfl | hb
  · omega
  · have h5 : b ^ x.length ≤ b ^ x.length * br := Nat.le_mul_of_pos_right _ hb
    omega

set_option maxHeartbeats 1000000 in
theorem difference_numG (w : World) (v1 v2 : Value) (m n : Nat) (h1 : Num .u32 b32 w v1 m) (h2 : Num .u32 b32 w v2 n) (hnm : n ≤ m) {j : Nat} (hj : Bd j m) (hj1 : j ≤ 1000000000) :
    Calls Tryz.prog 124 #[v1, v2] w (RetNumG w (m - n)) := by
  obtain ⟨X, cx, rfl, hx⟩ := h1
  obtain ⟨Y, cy, rfl, hy⟩ := h2
  have hla := len32 hj
  have hyx : (digs b32 n).length ≤ (digs b32 m).length := by
    rcases Nat.lt_or_ge (digs b32 m).length (digs b32 n).length with h | h
    · have := val_lt_of_length two_le_b32 h; omega
    · exact h
  have wx := digs_wf two_le_b32 m
  have wy := digs_wf two_le_b32 n
  have hvx := val_digs two_le_b32 m
  have hvy := val_digs two_le_b32 n
  clear hj
  generalize digs b32 m = x at *
  generalize digs b32 n = y at *
  have hlx : x.length ≤ 1000000000 := by omega
  clear hla
  have HX := Lib.hid hvx
  have HY := Lib.hid hvy
  clear hvx hvy
  go_enter Tryz.func124, Tryz.ntmps124
  go_wp2_with (at_make; refine wpList_mk _ rfl _ _ _ rfl .u32 49 Tryz.underlying31 i32row _ _ rfl rfl (by omega) (by omega) (by omega) ?_; intro w1 hrow hbel hsz)
  rw [Int.toNat_natCast] at hrow
  go_loopw [6, 7] (fun s6 s7 wr => ∃ (i br : Nat) (o : List Nat), i ≤ x.length ∧ s7 = .int .i64 i ∧ s6 = .int .u64 br ∧ br ≤ 1 ∧ o.length = i ∧ Wf b32 o ∧ Row wr .u32 49 w.heap.size (o ++ List.replicate (x.length - i) 0) ∧ Below w.heap.size w wr ∧ val b32 o + val b32 (y.take i) = val b32 (x.take i) + b32 ^ i * br)
    (fun _ s7 _ => x.length - (intOf s7).toNat)
  case atStart => exact ⟨0, 0, [], by omega, rfl, rfl, by omega, rfl, Wf.nil _, by simpa using hrow, hbel, by simp [val]⟩
  case round =>
    obtain ⟨i, br, o, hi, rfl, rfl, hcr, hol, hwo, hr, hbl, hval⟩ := hrel
    have HVAL := Lib.hid hval
    have HOL := Lib.hid hol
    clear hval hol hrow hbel hsz
    by_cases hlt : i < x.length
    · obtain ⟨bx, ox, vx, rfl, hcx, HVX⟩ := (hx.below hbl).get hlt
      have hvx := u32_val (wx _ (List.mem_of_getElem? HVX.out))
      obtain ⟨vo, hco, HVO⟩ := hr.get (i := i) (by have := HOL.out; simp; omega)
      have hcf := hr.frozen i
      have hi0 : (0 : Int) ≤ (i : Int) := by omega
      have hi1 : (i : Int) < (x.length : Int) := by omega
      by_cases hy1 : i < y.length
      · obtain ⟨by_, oy, vy, rfl, hcy, HVY⟩ := (hy.below hbl).get hy1
        have hvy := u32_val (wy _ (List.mem_of_getElem? HVY.out))
        by_cases hlt2 : vx < br + vy
        · skip
          have hlt3 : (vx : Int) < (br : Int) + (vy : Int) := by omega
          have E := Lib.hid (show ((vx : Int) + 4294967296 - ((br : Int) + (vy : Int))) = (((vx + 4294967296 - (br + vy)) : Nat) : Int) by omega)
          have hw0 : (0 : Int) ≤ (vx : Int) + 4294967296 - ((br : Int) + (vy : Int)) := by omega
          go_wp2
          go_roundw
          case rel =>
            obtain ⟨o', r⟩ := ndiff_round (vx := vx) (vy := vy) (s := (vx + 4294967296 - (br + vy))) (t := 1) HOL.out hlt hwo (by unfold b32; omega) (by unfold b32; omega) (by rw [List.getD_eq_getElem?_getD, HVX.out]; rfl) (by rw [List.getD_eq_getElem?_getD, HVY.out]; rfl) hr hbl (Nat.le_refl _) HVAL.out
            rw [E.out]
            exact ⟨i + 1, 1, o', by omega, by go_num, rfl, by omega, r⟩
          case measure => simp [intOf]; omega
        · skip
          have hlt3 : ¬ ((vx : Int) < (br : Int) + (vy : Int)) := by omega
          have E := Lib.hid (show ((vx : Int) - ((br : Int) + (vy : Int))) = (((vx - (br + vy)) : Nat) : Int) by omega)
          have hw0 : (0 : Int) ≤ (vx : Int) - ((br : Int) + (vy : Int)) := by omega
          go_wp2
          go_roundw
          case rel =>
            obtain ⟨o', r⟩ := ndiff_round (vx := vx) (vy := vy) (s := (vx - (br + vy))) (t := 0) HOL.out hlt hwo (by unfold b32; omega) (by unfold b32; omega) (by rw [List.getD_eq_getElem?_getD, HVX.out]; rfl) (by rw [List.getD_eq_getElem?_getD, HVY.out]; rfl) hr hbl (Nat.le_refl _) HVAL.out
            rw [E.out]
            exact ⟨i + 1, 0, o', by omega, by go_num, rfl, by omega, r⟩
          case measure => simp [intOf]; omega
      · by_cases hlt2 : vx < br
        · skip
          have hlt3 : (vx : Int) < (br : Int) := by omega
          have E := Lib.hid (show ((vx : Int) + 4294967296 - (br : Int)) = (((vx + 4294967296 - (br + 0)) : Nat) : Int) by omega)
          have hw0 : (0 : Int) ≤ (vx : Int) + 4294967296 - (br : Int) := by omega
          go_wp2
          go_roundw
          case rel =>
            obtain ⟨o', r⟩ := ndiff_round (vx := vx) (vy := 0) (s := (vx + 4294967296 - (br + 0))) (t := 1) HOL.out hlt hwo (by unfold b32; omega) (by unfold b32; omega) (by rw [List.getD_eq_getElem?_getD, HVX.out]; rfl) (by rw [List.getD_eq_getElem?_getD, List.getElem?_eq_none (by omega)]; rfl) hr hbl (Nat.le_refl _) HVAL.out
            rw [E.out]
            exact ⟨i + 1, 1, o', by omega, by go_num, rfl, by omega, r⟩
          case measure => simp [intOf]; omega
        · skip
          have hlt3 : ¬ ((vx : Int) < (br : Int)) := by omega
          have E := Lib.hid (show ((vx : Int) - (br : Int)) = (((vx - (br + 0)) : Nat) : Int) by omega)
          have hw0 : (0 : Int) ≤ (vx : Int) - (br : Int) := by omega
          go_wp2
          go_roundw
          case rel =>
            obtain ⟨o', r⟩ := ndiff_round (vx := vx) (vy := 0) (s := (vx - (br + 0))) (t := 0) HOL.out hlt hwo (by unfold b32; omega) (by unfold b32; omega) (by rw [List.getD_eq_getElem?_getD, HVX.out]; rfl) (by rw [List.getD_eq_getElem?_getD, List.getElem?_eq_none (by omega)]; rfl) hr hbl (Nat.le_refl _) HVAL.out
            rw [E.out]
            exact ⟨i + 1, 0, o', by omega, by go_num, rfl, by omega, r⟩
          case measure => simp [intOf]; omega
    · obtain rfl : i = x.length := by omega
      have HF := Lib.hid (ndiff_end hwo HOL.out hyx HVAL.out HX.out HY.out hnm)
      rw [Nat.sub_self, List.replicate_zero, List.append_nil] at hr
      have hrd := hr.rd_all (c := x.length) (by have := HOL.out; omega) (by unfold maxLen; omega)
      go_wp2_with fail
      refine (ncut_numA _ _ _ o (m - n) hrd hwo _ HOL.out HF.out).mono ?_
      rintro e w' ⟨rfl, kn, rfl, hv⟩
      go_wp2
      go_ret
      exact ⟨_, _, _, Nat.le_refl _, rfl, hv, hbl⟩
theorem difference_num (w : World) (v1 v2 : Value) (m n : Nat) (h1 : Num .u32 b32 w v1 m) (h2 : Num .u32 b32 w v2 n) (hnm : n ≤ m) {j : Nat} (hj : Bd j m) (hj1 : j ≤ 1000000000) :
    Calls Tryz.prog 124 #[v1, v2] w (RetNum .u32 b32 w (m - n)) := (difference_numG w v1 v2 m n h1 h2 hnm hj hj1).mono fun _ _ h => h.num
end Wx

namespace Wx
set_option maxRecDepth 100000
open Go Go.RowKit Go.Proofs

@[irreducible] def npLo (x y u c : Nat) : Nat := (u + c + x * y) % 4294967296
@[irreducible] def npHi (x y u c : Nat) : Nat := (u + c + x * y) / 4294967296
theorem np_spec (x y u c : Nat) : npLo x y u c + b32 * npHi x y u c = x * y + u + c := by unfold npLo npHi b32; omega
theorem npLo_lt (x y u c : Nat) : npLo x y u c < b32 := by unfold npLo b32; omega
theorem npHi_lt {x y u c : Nat} (hx : x < b32) (hy : y < b32) (hu : u < b32) (hc : c < b32) : npHi x y u c < b32 ∧ u + c + x * y < 18446744073709551616 := by
  have hxy : x * y ≤ 4294967295 * 4294967295 := Nat.mul_le_mul (by unfold b32 at hx; omega) (by unfold b32 at hy; omega)
  unfold b32 npHi at *
  omega
theorem nprod_round {w0 wr : World} {g : Nat} {o b : List Nat} {i k c vx vy vu s N : Nat} (hk : k < b.length) (hc : c < b32) (hol : o.length = N) (hwo : Wf b32 o) (hx : vx < b32) (hy : vy < b32) (hu : vu < b32)
    (hr : Row wr .u32 49 g o) (hg : w0.heap.size ≤ g) (hbl : Below w0.heap.size w0 wr) (hz : ∀ p, i + b.length + 1 ≤ p → o.getD p 0 = 0) (hz0 : o.getD (i + b.length) 0 = 0) (hval : val b32 o + b32 ^ (i + k) * c = s + b32 ^ i * (vx * val b32 (b.take k)))
    (HU : o[i + k]? = some vu) (HY : b[k]? = some vy) :
    ∃ (o' : List Nat), npHi vx vy vu c < b32 ∧ o'.length = N ∧ Wf b32 o' ∧
      Row (wr.setCell ⟨g, i + k, none⟩ (.int .u32 (npLo vx vy vu c : Nat))) .u32 49 g o' ∧ Below w0.heap.size w0 (wr.setCell ⟨g, i + k, none⟩ (.int .u32 (npLo vx vy vu c : Nat))) ∧
      (∀ p, i + b.length + 1 ≤ p → o'.getD p 0 = 0) ∧ o'.getD (i + b.length) 0 = 0 ∧ val b32 o' + b32 ^ (i + (k + 1)) * npHi vx vy vu c = s + b32 ^ i * (vx * val b32 (b.take (k + 1))) := by
  refine ⟨o.set (i + k) (npLo vx vy vu c), (npHi_lt hx hy hu hc).1, by simp [hol], hwo.set (npLo_lt _ _ _ _), hr.set _ _, hbl.setCell hg _, ?_, ?_, mul_step hval HU HY (np_spec _ _ _ _)⟩
  · intro p hp
    rw [getD_set_ne (by omega)]; exact hz p hp
  · rw [getD_set_ne (by omega)]; exact hz0
theorem nprod_carry {w0 wr : World} {g : Nat} {o b : List Nat} {i c vx s N : Nat} (hc : c < b32) (hN : i + b.length < N) (hol : o.length = N) (hwo : Wf b32 o)
    (hr : Row wr .u32 49 g o) (hg : w0.heap.size ≤ g) (hbl : Below w0.heap.size w0 wr) (hz : ∀ p, i + b.length + 1 ≤ p → o.getD p 0 = 0) (hz0 : o.getD (i + b.length) 0 = 0) (hval : val b32 o + b32 ^ (i + b.length) * c = s + b32 ^ i * (vx * val b32 (b.take b.length))) :
    ∃ (o' : List Nat), o'.length = N ∧ Wf b32 o' ∧
      Row (wr.setCell ⟨g, i + b.length, none⟩ (.int .u32 (c : Nat))) .u32 49 g o' ∧ Below w0.heap.size w0 (wr.setCell ⟨g, i + b.length, none⟩ (.int .u32 (c : Nat))) ∧
      (∀ p, i + b.length + 1 ≤ p → o'.getD p 0 = 0) ∧ val b32 o' + b32 ^ (i + (b.length + 1)) * 0 = s + b32 ^ i * (vx * val b32 (b.take (b.length + 1))) := by
  refine ⟨o.set (i + b.length) c, by simp [hol], hwo.set hc, hr.set _ _, hbl.setCell hg _, fun p hp => by rw [getD_set_ne (by omega)]; exact hz p hp, ?_⟩
  have hu : o[i + b.length]? = some 0 := by
    rw [List.getD_eq_getElem?_getD, List.getElem?_eq_getElem (by omega)] at hz0
    rw [List.getElem?_eq_getElem (by omega)]
    simpa using hz0
  have h1 := val_set (b := b32) hu c
  rw [Nat.mul_zero, Nat.add_zero] at h1
  rw [h1, hval, Nat.mul_zero, Nat.add_zero, List.take_length, List.take_of_length_le (by omega)]
theorem nprod_row {b : Nat} {o o0 x y : List Nat} {i vx n k : Nat} (hk : y.length ≤ k) (hval : val b o + b ^ (i + k) * 0 = val b o0 + b ^ i * (vx * val b (y.take k))) (h0 : val b o0 = val b (x.take i) * n) (hb : val b y = n) (hx : x[i]? = some vx) :
    val b o = val b (x.take (i + 1)) * n := by
  rw [Nat.mul_zero, Nat.add_zero, List.take_of_length_le hk, hb] at hval
  rw [hval, h0, val_take_get hx, Nat.add_mul, Nat.mul_assoc]

theorem np_eqs {vx vy vu c : Nat} (hx : vx < b32) (hy : vy < b32) (hu : vu < b32) (hc : c < b32) :
    IntKind.u64.wrap ((IntKind.u64.wrap ((vu : Int) + (c : Int) + IntKind.u64.wrap ((vx : Int) * (vy : Int)))).tdiv 4294967296) = ((npHi vx vy vu c : Nat) : Int) ∧
    (IntKind.u64.wrap ((vu : Int) + (c : Int) + IntKind.u64.wrap ((vx : Int) * (vy : Int)))).tmod 4294967296 % 4294967296 = ((npLo vx vy vu c : Nat) : Int) := by
  obtain ⟨h1, h2⟩ := npHi_lt hx hy hu hc
  have e0 : IntKind.u64.wrap ((vx : Int) * (vy : Int)) = ((vx * vy : Nat) : Int) := by
    rw [← Int.natCast_mul, wrap_u64 (by omega) (by omega)]
  have e : (vu : Int) + (c : Int) + ((vx * vy : Nat) : Int) = ((vu + c + vx * vy : Nat) : Int) := by omega
  rw [e0, e]
  unfold npLo npHi at *
  generalize vu + c + vx * vy = N at *
  unfold b32 at h1
  rw [wrap_u64 (n := (N : Int)) (by omega) (by omega), Int.tdiv_eq_ediv_of_nonneg (by omega), Int.tmod_eq_emod_of_nonneg (by omega), wrap_u64 (by omega) (by omega)]
  omega

set_option maxHeartbeats 1000000 in
theorem product_numG (w : World) (v1 v2 : Value) (m n : Nat) (h1 : Num .u32 b32 w v1 m) (h2 : Num .u32 b32 w v2 n) {j k : Nat} (hj : Bd j m) (hk : Bd k n) (hj1 : j ≤ 1000000000) (hk1 : k ≤ 1000000000) :
    Calls Tryz.prog 63 #[v1, v2] w (RetNumG w (m * n)) := by
  obtain ⟨A, c, rfl, ha⟩ := h1
  obtain ⟨B, d, rfl, hb⟩ := h2
  have hla := len32 hj
  have hlb := len32 hk
  have hva := val_digs two_le_b32 m
  have hvb := val_digs two_le_b32 n
  have wa := digs_wf two_le_b32 m
  have wb := digs_wf two_le_b32 n
  clear hj hk
  go_enter Tryz.func63, Tryz.ntmps63
  generalize digs b32 m = a at *
  generalize digs b32 n = b at *
  have VA := Lib.hid hva
  have VB := Lib.hid hvb
  clear hva hvb
  have hla1 : a.length ≤ 100000000 := by omega
  have hlb1 : b.length ≤ 100000000 := by omega
  clear hla hlb
  go_wp2_with (at_make; refine wpList_mk _ rfl _ _ _ rfl .u32 49 Tryz.underlying31 i32row _ _ rfl rfl (by omega) (by omega) (by omega) ?_; intro w1 hrow hbel hsz)
  rw [show ((a.length : Int) + (b.length : Int)).toNat = a.length + b.length by omega] at hrow
  go_loopw [6] (fun s6 wr => ∃ (i : Nat) (o : List Nat), i ≤ a.length ∧ s6 = .int .i64 i ∧ o.length = a.length + b.length ∧ Wf b32 o ∧ Row wr .u32 49 w.heap.size o ∧ Below w.heap.size w wr ∧ (∀ p, i + b.length ≤ p → o.getD p 0 = 0) ∧ val b32 o = val b32 (a.take i) * n)
    (fun s6 _ => a.length - (intOf s6).toNat)
  case atStart => exact ⟨0, List.replicate (a.length + b.length) 0, by omega, rfl, by simp, Wf.replicate (by unfold b32; omega) _, hrow, hbel, fun p _ => by simp [List.getD_eq_getElem?_getD, List.getElem?_replicate]; split <;> rfl, by rw [val_replicate]; simp [val]⟩
  case round =>
    obtain ⟨i, o, hi, rfl, hol, hwo, hr, hbl, hz, hval⟩ := hrel
    have HVAL := Lib.hid hval
    have HOL := Lib.hid hol
    have HZ := Lib.hid hz
    clear hval hol hz hrow hbel hsz
    by_cases hlt : i < a.length
    · obtain ⟨gx, ox, vx, rfl, _, HVX⟩ := (ha.below hbl).get hlt
      have HLX := Lib.hid (wa _ (List.mem_of_getElem? HVX.out))
      have hvx := u32_val HLX.out
      have hi0 : (0 : Int) ≤ (i : Int) := by omega
      have hi1 : (i : Int) < (a.length : Int) := by omega
      go_wp2_with fail
      obtain ⟨wo, rfl⟩ : ∃ wo : World, wo = wr := ⟨_, rfl⟩
      go_loopw [7, 8] (fun s7 s8 wr => ∃ (k c : Nat) (o' : List Nat), k ≤ b.length + 1 ∧ s8 = .int .i64 k ∧ s7 = .int .u64 c ∧ Bx (c < b32 ∧ (k = b.length + 1 → c = 0)) ∧ Bx (o'.length = a.length + b.length) ∧ Wf b32 o' ∧ Row wr .u32 49 w.heap.size o' ∧ Below w.heap.size w wr ∧ Bx (∀ p, i + b.length + 1 ≤ p → o'.getD p 0 = 0) ∧ Bx (k ≤ b.length → o'.getD (i + b.length) 0 = 0) ∧ Bx (val b32 o' + b32 ^ (i + k) * c = val b32 o + b32 ^ i * (vx * val b32 (b.take k))))
        (fun _ s8 _ => b.length + 1 - (intOf s8).toNat)
      case atStart => exact ⟨0, 0, o, by omega, rfl, rfl, bx ⟨by unfold b32; omega, by omega⟩, bx HOL.out, hwo, hr, hbl, bx (fun p hp => HZ.out p (by omega)), bx (fun _ => HZ.out _ (Nat.le_refl _)), bx (by simp [val])⟩
      case round =>
        clear hr hwo
        obtain ⟨k, c, o', hk, rfl, rfl, HC, HOL', hwo', hr', hbl', HZ', HZ0, HVAL'⟩ := hrel
        have hcx := ((ha.below hbl').at_ hlt)
        by_cases hlk : k < b.length
        · obtain ⟨b1, o1, e1, hcx⟩ := hcx
          injection e1 with e1
          injection e1 with e1 e2
          subst e1 e2
          rw [List.getD_eq_getElem?_getD, HVX.out, Option.getD_some] at hcx
          obtain ⟨by_, oy, vy, rfl, hcy, HVY⟩ := (hb.below hbl').get hlk
          obtain ⟨vu, hcu, HVU⟩ := hr'.get (i := i + k) (by have := HOL'.out; omega)
          have hcf := hr'.frozen (i + k)
          have HLY := Lib.hid (wb _ (List.mem_of_getElem? HVY.out))
          have HLU := Lib.hid (hwo' _ (List.mem_of_getElem? HVU.out))
          have hvy := u32_val HLY.out
          have hvu := u32_val HLU.out
          have hvc := u32_val HC.out.1
          have hk0 : (0 : Int) ≤ (k : Int) := by omega
          have hk1 : (k : Int) < (b.length : Int) := by omega
          obtain ⟨q1, q2⟩ := np_eqs HLX.out HLY.out HLU.out HC.out.1
          have Q1 := bx q1
          have Q2 := bx q2
          clear q1 q2
          go_wp2
          go_quiet (fail)
          go_wp2
          rw [Q1.out, Q2.out]
          go_roundw
          case rel =>
            obtain ⟨o2, hc2, hl2, hw2, hr2, hb2, hz2, hz3, hv2⟩ := nprod_round hlk HC.out.1 HOL'.out hwo' HLX.out HLY.out HLU.out (hr'.drewN nq) (Nat.le_refl _) (below_drewN hbl' nq) HZ'.out (HZ0.out (by omega)) HVAL'.out HVU.out HVY.out
            exact ⟨k + 1, _, o2, by omega, by go_num, rfl, bx ⟨hc2, fun h => by omega⟩, bx hl2, hw2, hr2, hb2, bx hz2, bx (fun _ => hz3), bx hv2⟩
          case measure => (simp [intOf]; try omega)
        · clear hcx
          by_cases hkb : k = b.length
          · subst hkb
            rcases Nat.eq_zero_or_pos c with rfl | hc0
            · go_wp2
              go_roundw
              case rel =>
                exact ⟨i + 1, o', by omega, by go_num, HOL'.out, hwo', hr', hbl', fun p hp => by
                  rcases Nat.lt_or_ge p (i + b.length + 1) with h | h
                  · have := HZ0.out (Nat.le_refl _)
                    omega
                  · exact HZ'.out p h, nprod_row (Nat.le_refl _) HVAL'.out HVAL.out VB.out HVX.out⟩
              case measure => (simp [intOf]; try omega)
            · obtain ⟨vu, hcu, HVU⟩ := hr'.get (i := i + b.length) (by have := HOL'.out; omega)
              have hcf := hr'.frozen (i + b.length)
              have hu0 : vu = 0 := by
                have h := HZ0.out (Nat.le_refl _)
                rw [List.getD_eq_getElem?_getD, HVU.out] at h
                simpa using h
              subst hu0
              have hvc := u32_val HC.out.1
              have hc1 : (0 : Int) < (c : Int) := by omega
              have C1 := bx (show (c : Int) / 4294967296 = ((0 : Nat) : Int) by omega)
              have C2 := bx (show (c : Int) % 4294967296 = (c : Int) by omega)
              go_wp2
              rw [C1.out, C2.out]
              go_roundw
              case rel =>
                obtain ⟨o2, hl2, hw2, hr2, hb2, hz2, hv2⟩ := nprod_carry HC.out.1 (by omega) HOL'.out hwo' hr' (Nat.le_refl _) hbl' HZ'.out (HZ0.out (Nat.le_refl _)) HVAL'.out
                exact ⟨b.length + 1, 0, o2, by omega, by go_num, rfl, bx ⟨by unfold b32; omega, fun _ => rfl⟩, bx hl2, hw2, hr2, hb2, bx hz2, bx (fun h => by omega), bx hv2⟩
              case measure => (simp [intOf]; try omega)
          · obtain rfl : k = b.length + 1 := by omega
            obtain rfl : c = 0 := HC.out.2 rfl
            go_wp2
            go_roundw
            case rel =>
              exact ⟨i + 1, o', by omega, by go_num, HOL'.out, hwo', hr', hbl', fun p hp => HZ'.out p (by omega), nprod_row (by omega) HVAL'.out HVAL.out VB.out HVX.out⟩
            case measure => (simp [intOf]; try omega)
    · obtain rfl : i = a.length := by omega
      have hfin : val b32 o = m * n := by
        have h := HVAL.out
        rw [List.take_length, VA.out] at h
        exact h
      have HF := Lib.hid hfin
      clear hfin
      have hrd := hr.rd_all (c := a.length + b.length) (by have := HOL.out; omega) (by unfold maxLen; omega)
      go_wp2_with fail
      refine (ncut_numA _ _ _ o (m * n) hrd hwo _ HOL.out HF.out).mono ?_
      rintro e w' ⟨rfl, kn, rfl, hv⟩
      go_wp2
      go_ret
      exact ⟨_, _, _, Nat.le_refl _, rfl, hv, hbl⟩
theorem product_num (w : World) (v1 v2 : Value) (m n : Nat) (h1 : Num .u32 b32 w v1 m) (h2 : Num .u32 b32 w v2 n) {j k : Nat} (hj : Bd j m) (hk : Bd k n) (hj1 : j ≤ 1000000000) (hk1 : k ≤ 1000000000) :
    Calls Tryz.prog 63 #[v1, v2] w (RetNum .u32 b32 w (m * n)) := (product_numG w v1 v2 m n h1 h2 hj hk hj1 hk1).mono fun _ _ h => h.num
end Wx
