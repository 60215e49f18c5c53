import Derived.Test.YtioicklnneebnaaGreatProg
import Derived.Test.YtioicklnneebnaaGreatPlain1
import Derived.Test.YtioicklnneebnaaGreatMem
import Derived.Test.YtioicklnneebnaaGreatJRounds3
import Derived.Test.YtioicklnneebnaaGreatJRounds31
import Derived.Test.YtioicklnneebnaaGreatJRounds32
namespace Wx
open Go Go.RowKit Go.Proofs

/-- One round of Difference. -/
theorem ndiff_round {x y o : List Nat} {i br vx vy s t L g : Nat} {wr w0 : World} (hol : o.length = i) (hlt : i < L) (hwo : Wf b32 o) (hs : s + vy + br = vx + b32 * t) (hsl : s < b32)
    (hx : x.getD i 0 = vx) (hy : y.getD i 0 = vy) (hr : Row wr .u32 87 g (o ++ List.replicate (L - i) 0)) (hbl : Below w0.heap.size w0 wr) (hg : w0.heap.size ≤ g)
    (hval : val b32 o + val b32 (y.take i) = val b32 (x.take i) + b32 ^ i * br) :
    ∃ (o' : List Nat), o'.length = i + 1 ∧ Wf b32 o' ∧
      Row (wr.setCell ⟨g, i, none⟩ (.int .u32 (s : Int))) .u32 87 g (o' ++ List.replicate (L - (i + 1)) 0) ∧
      Below w0.heap.size w0 (wr.setCell ⟨g, i, none⟩ (.int .u32 (s : Int))) ∧ val b32 o' + val b32 (y.take (i + 1)) = val b32 (x.take (i + 1)) + b32 ^ (i + 1) * t := by
  refine ⟨o ++ [s], by simp [hol], hwo.append (Wf.cons hsl (Wf.nil _)), ?_, hbl.setCell hg _, ?_⟩
  · have h := hr.set i s
    rw [show L - i = (L - (i + 1)) + 1 by omega, List.replicate_succ, set_mid hol] at h
    rw [List.append_assoc]
    exact h
  · exact dif_step hol hval (by rw [get_or_zero, hx]) (by rw [get_or_zero, hy]) hs
theorem ndiff_end {b : Nat} {x y o : List Nat} {br m n : Nat} (hwo : Wf b o) (hol : o.length = x.length) (hly : y.length ≤ x.length) (hval : val b o + val b (y.take x.length) = val b (x.take x.length) + b ^ x.length * br)
    (hm : val b x = m) (hn : val b y = n) (hnm : n ≤ m) : val b o = m - n := by
  rw [List.take_of_length_le (Nat.le_refl _), List.take_of_length_le hly, hm, hn] at hval
  have hlt := val_lt hwo
  rw [hol] at hlt
  rcases Nat.eq_zero_or_pos br with rfl | hb
  · omega
  · have h5 : b ^ x.length ≤ b ^ x.length * br := Nat.le_mul_of_pos_right _ hb
    omega

set_option maxRecDepth 100000 in
set_option maxHeartbeats 1000000 in
theorem difference_numG (w : World) (v1 v2 : Value) (m n : Nat) (h1 : Num .u32 b32 w v1 m) (h2 : Num .u32 b32 w v2 n) (hnm : n ≤ m) {j : Nat} (hj : Bd j m) (hj1 : j ≤ 1000000000) :
    Calls Tryz.prog 55 #[v1, v2] w (RetNumG w (m - n)) := by
  obtain ⟨X, cx, rfl, hx⟩ := h1
  obtain ⟨Y, cy, rfl, hy⟩ := h2
  have hla := len32 hj
  have hyx : (digs b32 n).length ≤ (digs b32 m).length := by
    rcases Nat.lt_or_ge (digs b32 m).length (digs b32 n).length with h | h
    · have := val_lt_of_length two_le_b32 h; omega
    · exact h
  have wx := digs_wf two_le_b32 m
  have wy := digs_wf two_le_b32 n
  have hvx := val_digs two_le_b32 m
  have hvy := val_digs two_le_b32 n
  clear hj
  generalize digs b32 m = x at *
  generalize digs b32 n = y at *
  have hlx : x.length ≤ 1000000000 := by omega
  clear hla
  have HX := Lib.hid hvx
  have HY := Lib.hid hvy
  clear hvx hvy
  go_enter Tryz.func55, Tryz.ntmps55
  go_wp2_with (at_make; refine wpList_mk _ rfl _ _ _ rfl .u32 87 Tryz.underlying29 i32row _ _ rfl rfl (by omega) (by omega) (by omega) ?_; intro w1 hrow hbel hsz)
  rw [Int.toNat_natCast] at hrow
  go_loopw [6, 7] (fun s6 s7 wr => ∃ (i br : Nat) (o : List Nat), i ≤ x.length ∧ s7 = .int .i64 i ∧ s6 = .int .u64 br ∧ br ≤ 1 ∧ o.length = i ∧ Wf b32 o ∧ Row wr .u32 87 w.heap.size (o ++ List.replicate (x.length - i) 0) ∧ Below w.heap.size w wr ∧ val b32 o + val b32 (y.take i) = val b32 (x.take i) + b32 ^ i * br)
    (fun _ s7 _ => x.length - (intOf s7).toNat)
  case atStart => exact ⟨0, 0, [], by omega, rfl, rfl, by omega, rfl, Wf.nil _, by simpa using hrow, hbel, by simp [val]⟩
  case round =>
    obtain ⟨i, br, o, hi, rfl, rfl, hcr, hol, hwo, hr, hbl, hval⟩ := hrel
    have HVAL := Lib.hid hval
    have HOL := Lib.hid hol
    clear hval hol hrow hbel hsz
    by_cases hlt : i < x.length
    · obtain ⟨bx, ox, vx, rfl, hcx, HVX⟩ := (hx.below hbl).get hlt
      have hvx := u32_val (wx _ (List.mem_of_getElem? HVX.out))
      obtain ⟨vo, hco, HVO⟩ := hr.get (i := i) (by have := HOL.out; simp; omega)
      have hcf := hr.frozen i
      have hi0 : (0 : Int) ≤ (i : Int) := by omega
      have hi1 : (i : Int) < (x.length : Int) := by omega
      by_cases hy1 : i < y.length
      · obtain ⟨by_, oy, vy, rfl, hcy, HVY⟩ := (hy.below hbl).get hy1
        have hvy := u32_val (wy _ (List.mem_of_getElem? HVY.out))
        by_cases hlt2 : vx < br + vy
        · skip
          have hlt3 : (vx : Int) < (br : Int) + (vy : Int) := by omega
          have E := Lib.hid (show ((vx : Int) + 4294967296 - ((br : Int) + (vy : Int))) = (((vx + 4294967296 - (br + vy)) : Nat) : Int) by omega)
          have hw0 : (0 : Int) ≤ (vx : Int) + 4294967296 - ((br : Int) + (vy : Int)) := by omega
          go_wp2
          go_roundw
          case rel =>
            obtain ⟨o', r⟩ := ndiff_round (vx := vx) (vy := vy) (s := (vx + 4294967296 - (br + vy))) (t := 1) HOL.out hlt hwo (by unfold b32; omega) (by unfold b32; omega) (by rw [List.getD_eq_getElem?_getD, HVX.out]; rfl) (by rw [List.getD_eq_getElem?_getD, HVY.out]; rfl) hr hbl (Nat.le_refl _) HVAL.out
            rw [E.out]
            exact ⟨i + 1, 1, o', by omega, by go_num, rfl, by omega, r⟩
          case measure => simp [intOf]; omega
        · skip
          have hlt3 : ¬ ((vx : Int) < (br : Int) + (vy : Int)) := by omega
          have E := Lib.hid (show ((vx : Int) - ((br : Int) + (vy : Int))) = (((vx - (br + vy)) : Nat) : Int) by omega)
          have hw0 : (0 : Int) ≤ (vx : Int) - ((br : Int) + (vy : Int)) := by omega
          go_wp2
          go_roundw
          case rel =>
            obtain ⟨o', r⟩ := ndiff_round (vx := vx) (vy := vy) (s := (vx - (br + vy))) (t := 0) HOL.out hlt hwo (by unfold b32; omega) (by unfold b32; omega) (by rw [List.getD_eq_getElem?_getD, HVX.out]; rfl) (by rw [List.getD_eq_getElem?_getD, HVY.out]; rfl) hr hbl (Nat.le_refl _) HVAL.out
            rw [E.out]
            exact ⟨i + 1, 0, o', by omega, by go_num, rfl, by omega, r⟩
          case measure => simp [intOf]; omega
      · by_cases hlt2 : vx < br
        · skip
          have hlt3 : (vx : Int) < (br : Int) := by omega
          have E := Lib.hid (show ((vx : Int) + 4294967296 - (br : Int)) = (((vx + 4294967296 - (br + 0)) : Nat) : Int) by omega)
          have hw0 : (0 : Int) ≤ (vx : Int) + 4294967296 - (br : Int) := by omega
          go_wp2
          go_roundw
          case rel =>
            obtain ⟨o', r⟩ := ndiff_round (vx := vx) (vy := 0) (s := (vx + 4294967296 - (br + 0))) (t := 1) HOL.out hlt hwo (by unfold b32; omega) (by unfold b32; omega) (by rw [List.getD_eq_getElem?_getD, HVX.out]; rfl) (by rw [List.getD_eq_getElem?_getD, List.getElem?_eq_none (by omega)]; rfl) hr hbl (Nat.le_refl _) HVAL.out
            rw [E.out]
            exact ⟨i + 1, 1, o', by omega, by go_num, rfl, by omega, r⟩
          case measure => simp [intOf]; omega
        · skip
          have hlt3 : ¬ ((vx : Int) < (br : Int)) := by omega
          have E := Lib.hid (show ((vx : Int) - (br : Int)) = (((vx - (br + 0)) : Nat) : Int) by omega)
          have hw0 : (0 : Int) ≤ (vx : Int) - (br : Int) := by omega
          go_wp2
          go_roundw
          case rel =>
            obtain ⟨o', r⟩ := ndiff_round (vx := vx) (vy := 0) (s := (vx - (br + 0))) (t := 0) HOL.out hlt hwo (by unfold b32; omega) (by unfold b32; omega) (by rw [List.getD_eq_getElem?_getD, HVX.out]; rfl) (by rw [List.getD_eq_getElem?_getD, List.getElem?_eq_none (by omega)]; rfl) hr hbl (Nat.le_refl _) HVAL.out
            rw [E.out]
            exact ⟨i + 1, 0, o', by omega, by go_num, rfl, by omega, r⟩
          case measure => simp [intOf]; omega
    · obtain rfl : i = x.length := by omega
      have HF := Lib.hid (ndiff_end hwo HOL.out hyx HVAL.out HX.out HY.out hnm)
      rw [Nat.sub_self, List.replicate_zero, List.append_nil] at hr
      have hrd := hr.rd_all (c := x.length) (by have := HOL.out; omega) (by unfold maxLen; omega)
      go_wp2_with fail
      refine (ncut_numA _ _ _ o (m - n) hrd hwo _ HOL.out HF.out).mono ?_
      rintro e w' ⟨rfl, kn, rfl, hv⟩
      go_wp2
      go_ret
      exact ⟨_, _, _, Nat.le_refl _, rfl, hv, hbl⟩
theorem difference_num (w : World) (v1 v2 : Value) (m n : Nat) (h1 : Num .u32 b32 w v1 m) (h2 : Num .u32 b32 w v2 n) (hnm : n ≤ m) {j : Nat} (hj : Bd j m) (hj1 : j ≤ 1000000000) :
    Calls Tryz.prog 55 #[v1, v2] w (RetNum .u32 b32 w (m - n)) := (difference_numG w v1 v2 m n h1 h2 hnm hj hj1).mono fun _ _ h => h.num
end Wx
