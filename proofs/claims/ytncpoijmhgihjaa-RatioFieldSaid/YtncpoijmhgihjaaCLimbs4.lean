import Derived.Test.YtncpoijmhgihjaaProg
import Derived.Test.YtncpoijmhgihjaaPlain1
import Derived.Test.YtncpoijmhgihjaaMem
import Derived.Test.YtncpoijmhgihjaaJField3
namespace Wx
open Go Go.RowKit Go.Proofs

theorem sub64_at {x y c : Operand} {ops : Array Oper} {Q : Exit → Act → World → Prop} {o : Oper} {rest : List Oper} {a : Act} {w : World} (X Y C : Nat)
    (hx : a.eval x = .int .u64 X) (hy : a.eval y = .int .u64 Y) (hc : a.eval c = .int .u64 C) (c1 : C ≤ 1)
    (hK : wpList Try.prog ops Q rest (a.put o.dst (.tuple #[.int .u64 (subLo X Y C : Nat), .int .u64 (subHi X Y C : Nat)])) w) : Ext3 Try.prog 75 x y c ops Q o rest a w :=
  sub64_ext Try.func75 (by kernel_rfl) (by kernel_rfl) (by kernel_rfl) (by kernel_rfl) X Y C hx hy hc c1 hK

theorem minus_round {x y o : List Nat} {i br vx vy : Nat} {g : Nat} {wr w0 : World} (hol : o.length = i) (hlt : i < x.length) (wx : Wf b64 x) (wy : Wf b64 y) (hcr : br ≤ 1) (hwo : Wf b64 o)
    (hx : x[i]? = some vx) (hy : y.getD i 0 = vy) (hr : Row wr .u64 81 g (o ++ List.replicate (x.length - i) 0)) (hbl : Below w0.heap.size w0 wr) (hg : w0.heap.size ≤ g)
    (hval : val b64 o + val b64 (y.take i) = val b64 (x.take i) + b64 ^ i * br) :
    ∃ (o' : List Nat), o'.length = i + 1 ∧ Wf b64 o' ∧
      Row (wr.setCell ⟨g, i, none⟩ (.int .u64 (subLo vx vy br : Nat))) .u64 81 g (o' ++ List.replicate (x.length - (i + 1)) 0) ∧
      Below w0.heap.size w0 (wr.setCell ⟨g, i, none⟩ (.int .u64 (subLo vx vy br : Nat))) ∧ val b64 o' + val b64 (y.take (i + 1)) = val b64 (x.take (i + 1)) + b64 ^ (i + 1) * subHi vx vy br := by
  have hvx : vx < b64 := wx _ (List.mem_of_getElem? hx)
  have hvy : vy < b64 := by
    rw [← hy, List.getD_eq_getElem?_getD]
    cases h : y[i]? with
    | none => simp [b64]
    | some z => exact wy _ (List.mem_of_getElem? h)
  have hsp := sub_spec (x := vx) (y := vy) (by simpa [b64] using hvx) (by simpa [b64] using hvy) hcr
  refine ⟨o ++ [subLo vx vy br], by simp [hol], hwo.append (Wf.cons hsp.2 (Wf.nil _)), ?_, hbl.setCell hg _, ?_⟩
  · have h := hr.set i (subLo vx vy br)
    rw [show x.length - i = (x.length - (i + 1)) + 1 by omega, List.replicate_succ, set_mid hol] at h
    rw [List.append_assoc]
    exact h
  · exact dif_step hol hval (val_take_get hx) (by rw [get_or_zero, hy]) hsp.1

set_option maxHeartbeats 400000 in
theorem minus_num (w : World) (v1 v2 : Value) (m n : Nat) (h1 : Num .u64 b64 w v1 m) (h2 : Num .u64 b64 w v2 n) (hnm : n ≤ m) {j : Nat} (hj : Bd j m) (hj1 : j ≤ 1000000000) :
    Calls Try.prog 52 #[v1, v2] w (RetNum .u64 b64 w (m - n)) := by
  obtain ⟨X, cx, rfl, hx⟩ := h1
  obtain ⟨Y, cy, rfl, hy⟩ := h2
  have hla := len64 hj
  have hyx : (digs b64 n).length ≤ (digs b64 m).length := by
    rcases Nat.lt_or_ge (digs b64 m).length (digs b64 n).length with h | h
    · have := val_lt_of_length two_le_b64 h; omega
    · exact h
  have wx := digs_wf two_le_b64 m
  have wy := digs_wf two_le_b64 n
  have hvx := val_digs two_le_b64 m
  have hvy := val_digs two_le_b64 n
  have hlx := hx.len
  have hly := hy.len
  clear hj
  generalize digs b64 m = x at *
  generalize digs b64 n = y at *
  have HX := Lib.hid hvx
  have HY := Lib.hid hvy
  clear hvx hvy
  go_enter Try.func52, Try.ntmps52
  go_wp2_with (at_make; refine wpList_mk _ rfl _ _ _ rfl .u64 81 Try.underlying25 i64row _ _ rfl rfl (by omega) (by omega) (by omega) ?_; intro w1 hrow hbel hsz)
  go_loopw [6, 15] (fun s6 s15 wr => ∃ (i br : Nat) (o : List Nat), i ≤ x.length ∧ s15 = .int .i64 i ∧ s6 = .int .u64 br ∧ br ≤ 1 ∧ o.length = i ∧ Wf b64 o ∧ Row wr .u64 81 w.heap.size (o ++ List.replicate (x.length - i) 0) ∧ Below w.heap.size w wr ∧ val b64 o + val b64 (y.take i) = val b64 (x.take i) + b64 ^ i * br)
    (fun _ s15 _ => x.length - (intOf s15).toNat)
  case atStart => exact ⟨0, 0, [], by omega, rfl, rfl, by omega, rfl, Wf.nil _, by simpa using hrow, hbel, by simp [val]⟩
  case round =>
    obtain ⟨i, br, o, hi, rfl, rfl, hcr, hol, hwo, hr, hbl, hval⟩ := hrel
    have HVAL := Lib.hid hval
    have HOL := Lib.hid hol
    clear hval hol hrow hbel hsz
    by_cases hlt : i < x.length
    · obtain ⟨bx, ox, vx, rfl, hcx, HVX⟩ := (hx.below hbl).get hlt
      obtain ⟨vo, hco, HVO⟩ := hr.get (i := i) (by have := HOL.out; simp; omega)
      have hcf := hr.frozen i
      by_cases hy1 : i < y.length
      · obtain ⟨by_, oy, vy, rfl, hcy, HVY⟩ := (hy.below hbl).get hy1
        go_wp2_with ((with_reducible refine at_ext3 75 rfl rfl ?_); refine sub64_at vx vy br rfl rfl rfl (by omega) ?_)
        go_roundw
        case rel =>
          exact ⟨i + 1, subHi vx vy br, (minus_round (vy := vy) HOL.out hlt wx wy hcr hwo HVX.out (by rw [List.getD_eq_getElem?_getD, HVY.out]; rfl) hr hbl (Nat.le_refl _) HVAL.out).choose, by omega, by go_num, rfl, subHi_le _ _ _, (minus_round (vy := vy) HOL.out hlt wx wy hcr hwo HVX.out (by rw [List.getD_eq_getElem?_getD, HVY.out]; rfl) hr hbl (Nat.le_refl _) HVAL.out).choose_spec⟩
        case measure => simp [intOf]; omega
      · go_wp2_with ((with_reducible refine at_ext3 75 rfl rfl ?_); refine sub64_at vx 0 br rfl rfl rfl (by omega) ?_)
        go_roundw
        case rel =>
          obtain ⟨o', r⟩ := minus_round (vy := 0) HOL.out hlt wx wy hcr hwo HVX.out (by rw [List.getD_eq_getElem?_getD, List.getElem?_eq_none (by omega)]; rfl) hr hbl (Nat.le_refl _) HVAL.out
          exact ⟨i + 1, subHi vx 0 br, o', by omega, by go_num, rfl, subHi_le _ _ _, r⟩
        case measure => simp [intOf]; omega
    · obtain rfl : i = x.length := by omega
      have hfin : val b64 o = m - n := by
        have h := HVAL.out
        rw [List.take_of_length_le (Nat.le_refl _), List.take_of_length_le (by omega), HX.out, HY.out] at h
        have hlt := val_lt hwo
        rw [HOL.out] at hlt
        rcases Nat.eq_zero_or_pos br with rfl | hb
        · omega
        · obtain rfl : br = 1 := by omega
          omega
      have HF := Lib.hid hfin
      clear hfin
      rw [Nat.sub_self, List.replicate_zero, List.append_nil] at hr
      have hrd := hr.rd_all (c := x.length) (by have := HOL.out; omega) (by unfold maxLen; omega)
      go_wp2_with fail
      refine (cut_num _ _ _ o (m - n) hrd hwo _ HOL.out HF.out).mono ?_
      rintro e w' ⟨rfl, v, rfl, hv⟩
      go_wp2
      go_ret
      exact ⟨v, rfl, hv, hbl⟩
end Wx
