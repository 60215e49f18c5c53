import Derived.Test.YtpbpkfcplkdjhaaGreatProg
import Derived.Test.YtpbpkfcplkdjhaaGreatJRanges0
import Derived.Test.YtpbpkfcplkdjhaaGreatJRanges1
namespace Wx
open Go Go.RowKit Go.Proofs

theorem add64_at {x y c : Operand} {ops : Array Oper} {Q : Exit → Act → World → Prop} {o : Oper} {rest : List Oper} {a : Act} {w : World} {X Y C : Int}
    (hx : a.eval x = .int .u64 X) (hy : a.eval y = .int .u64 Y) (hc : a.eval c = .int .u64 C) (x0 : 0 ≤ X) (y0 : 0 ≤ Y) (c0 : 0 ≤ C) (c1 : C ≤ 1)
    (hK : wpList Tryz.prog ops Q rest (a.put o.dst (.tuple #[.int .u64 (addLo X Y C), .int .u64 (addHi X Y C)])) w) : Ext3 Tryz.prog 150 x y c ops Q o rest a w :=
  add64_ext Tryz.func150 (by kernel_rfl) (by kernel_rfl) (by kernel_rfl) (by kernel_rfl) hx hy hc x0 y0 c0 c1 hK

theorem addLo_nat (x y c : Nat) : addLo (x : Int) y c = (((x + y + c) % b64 : Nat) : Int) := by unfold addLo b64; omega
theorem addHi_nat (x y c : Nat) : addHi (x : Int) y c = (((x + y + c) / b64 : Nat) : Int) := by unfold addHi b64; omega
theorem addLo_nat0 (x c : Nat) : addLo (x : Int) 0 c = (((x + 0 + c) % b64 : Nat) : Int) := addLo_nat x 0 c
theorem addHi_nat0 (x c : Nat) : addHi (x : Int) 0 c = (((x + 0 + c) / b64 : Nat) : Int) := addHi_nat x 0 c
theorem carry_le {x y c : Nat} (hx : x < b64) (hy : y < b64) (hc : c ≤ 1) : (x + y + c) / b64 ≤ 1 := by unfold b64 at *; omega

/-- One round of plus. -/
theorem plus_round {x y o : List Nat} {i cr vx vy : Nat} {g : Nat} {wr w0 : World} (hol : o.length = i) (hlt : i < x.length) (wx : Wf b64 x) (wy : Wf b64 y) (hcr : cr ≤ 1) (hwo : Wf b64 o)
    (hx : x[i]? = some vx) (hy : y.getD i 0 = vy) (hr : Row wr .u64 137 g (o ++ List.replicate (x.length + 1 - i) 0)) (hbl : Below w0.heap.size w0 wr) (hg : w0.heap.size ≤ g)
    (hval : val b64 o + b64 ^ i * cr = val b64 (x.take i) + val b64 (y.take i)) :
    ∃ (cr' : Nat) (o' : List Nat), ((vx + vy + cr) / b64 = cr') ∧ cr' ≤ 1 ∧ o'.length = i + 1 ∧ Wf b64 o' ∧
      Row (wr.setCell ⟨g, i, none⟩ (.int .u64 (((vx + vy + cr) % b64 : Nat) : Int))) .u64 137 g (o' ++ List.replicate (x.length + 1 - (i + 1)) 0) ∧
      Below w0.heap.size w0 (wr.setCell ⟨g, i, none⟩ (.int .u64 (((vx + vy + cr) % b64 : Nat) : Int))) ∧ val b64 o' + b64 ^ (i + 1) * cr' = val b64 (x.take (i + 1)) + val b64 (y.take (i + 1)) := by
  have hvx : vx < b64 := wx _ (List.mem_of_getElem? hx)
  have hvy : vy < b64 := by
    rw [← hy, List.getD_eq_getElem?_getD]
    cases h : y[i]? with
    | none => simp [b64]
    | some z => exact wy _ (List.mem_of_getElem? h)
  refine ⟨_, o ++ [(vx + vy + cr) % b64], rfl, carry_le hvx hvy hcr, by simp [hol], hwo.append (Wf.cons (Nat.mod_lt _ (by unfold b64; omega)) (Wf.nil _)), ?_, hbl.setCell hg _, ?_⟩
  · have h := hr.set i ((vx + vy + cr) % b64)
    rw [show x.length + 1 - i = (x.length + 1 - (i + 1)) + 1 by omega, List.replicate_succ, set_mid hol] at h
    rw [List.append_assoc]
    exact h
  · exact sum_step hol hval (val_take_get hx) (by rw [get_or_zero, hy]) (by have := Nat.mod_add_div (vx + vy + cr) b64; omega)

theorem plus_top {x y o : List Nat} {cr : Nat} (hx : Top x) (wx : Wf b64 x) (wo : Wf b64 o) (hol : o.length = x.length) (hxl : 2 ≤ b64) (hval : val b64 o + b64 ^ o.length * cr = val b64 x + val b64 y) : cr = 0 → Top o := by
  rintro rfl
  refine top_of_pow wo ?_
  by_cases h : o = []
  · exact .inl h
  · refine .inr ?_
    have hd := digs_val hxl wx hx
    have hpos : 0 < val b64 x := by
      rcases Nat.eq_zero_or_pos (val b64 x) with h0 | h0
      · rw [h0, digs_zero] at hd
        rw [← hd] at hol
        exact absurd (List.eq_nil_of_length_eq_zero hol) h
      · exact h0
    have := pow_digs_le hxl hpos
    rw [hd] at this
    rw [hol]
    simp at hval
    omega

set_option maxHeartbeats 400000 in
theorem plus_num (w : World) (v1 v2 : Value) (m n : Nat) (h1 : Num .u64 b64 w v1 m) (h2 : Num .u64 b64 w v2 n) {j k : Nat} (hj : Bd j m) (hk : Bd k n) (hj1 : j ≤ 1000000000) (hk1 : k ≤ 1000000000) :
    Calls Tryz.prog 128 #[v1, v2] w (RetNum .u64 b64 w (m + n)) := by
  obtain ⟨A, c, rfl, ha⟩ := h1
  obtain ⟨B, d, rfl, hb⟩ := h2
  have hla := len64 hj
  have hlb := len64 hk
  have hv : val b64 (digs b64 m) + val b64 (digs b64 n) = m + n := by rw [val_digs two_le_b64, val_digs two_le_b64]
  have wa := digs_wf two_le_b64 m
  have wb := digs_wf two_le_b64 n
  have ta := digs_top two_le_b64 m
  have tb := digs_top two_le_b64 n
  clear hj hk
  generalize digs b64 m = a at *
  generalize digs b64 n = b at *
  generalize m + n = s at *
  go_enter Tryz.func128, Tryz.ntmps128
  go_upto_if 14 with fail
  go_cut [0, 1] (fun v0 v1 w' => w' = w ∧ ∃ X cx x Y cy y, v0 = .slice X x.length cx ∧ v1 = .slice Y y.length cy ∧ Rd w .u64 X cx x ∧ Rd w .u64 Y cy y ∧ Wf b64 x ∧ Wf b64 y ∧ Top x ∧ y.length ≤ x.length ∧ x.length ≤ 1000000000 ∧ val b64 x + val b64 y = s)
  case first =>
    by_cases h : a.length < b.length
    · go_wp2
      go_meet
      case rel => exact ⟨rfl, B, d, b, A, c, a, rfl, rfl, hb, ha, wb, wa, tb, by omega, by omega, by omega⟩
    · go_wp2
      go_meet
      case rel => exact ⟨rfl, A, c, a, B, d, b, rfl, rfl, ha, hb, wa, wb, ta, by omega, by omega, hv⟩
  case rest =>
    obtain ⟨rfl, X, cx, x, Y, cy, y, rfl, rfl, hx, hy, wx, wy, tx, hyx, hx1, hs⟩ := hcut
    clear ha hb wa wb ta tb hla hlb hv
    have HS := Lib.hid hs
    clear hs
    have hlx := hx.len
    have hly := hy.len
    go_wp2_with (at_make; refine wpList_mk _ rfl _ _ _ rfl .u64 137 Tryz.underlying26 i64row _ _ rfl rfl (by omega) (by omega) (by omega) ?_; intro w1 hrow hbel hsz)
    go_loopw [6, 25] (fun s6 s25 wr => ∃ (i cr : Nat) (o : List Nat), i ≤ x.length ∧ s25 = .int .i64 i ∧ s6 = .int .u64 cr ∧ cr ≤ 1 ∧ o.length = i ∧ Wf b64 o ∧ Row wr .u64 137 wc.heap.size (o ++ List.replicate (x.length + 1 - i) 0) ∧ Below wc.heap.size wc wr ∧ val b64 o + b64 ^ i * cr = val b64 (x.take i) + val b64 (y.take i))
      (fun _ s25 _ => x.length - (intOf s25).toNat)
    case atStart => exact ⟨0, 0, [], by omega, rfl, rfl, by omega, rfl, Wf.nil _, by simpa using hrow, hbel, by simp [val]⟩
    case round =>
      obtain ⟨i, cr, o, hi, rfl, rfl, hcr, hol, hwo, hr, hbl, hval⟩ := hrel
      have HVAL := Lib.hid hval
      have HOL := Lib.hid hol
      clear hval hol hrow hbel hsz
      by_cases hlt : i < x.length
      · obtain ⟨bx, ox, vx, rfl, hcx, HVX⟩ := (hx.below hbl).get hlt
        obtain ⟨vo, hco, HVO⟩ := hr.get (i := i) (by have := HOL.out; simp; omega)
        have hcf := hr.frozen i
        by_cases hy1 : i < y.length
        · obtain ⟨by_, oy, vy, rfl, hcy, HVY⟩ := (hy.below hbl).get hy1
          go_wp2_with ((with_reducible refine at_ext3 150 rfl rfl ?_); refine add64_at rfl rfl rfl (by omega) (by omega) (by omega) (by omega) ?_)
          go_roundw
          case rel =>
            rw [addLo_nat, addHi_nat]
            obtain ⟨cr', o', e, r⟩ := plus_round (vy := vy) HOL.out hlt wx wy hcr hwo HVX.out (by rw [List.getD_eq_getElem?_getD, HVY.out]; rfl) hr hbl (Nat.le_refl _) HVAL.out
            exact ⟨i + 1, cr', o', by omega, by go_num, by rw [e], r⟩
          case measure => simp [intOf]; omega
        · go_wp2_with ((with_reducible refine at_ext3 150 rfl rfl ?_); refine add64_at rfl rfl rfl (by omega) (by omega) (by omega) (by omega) ?_)
          go_roundw
          case rel =>
            rw [addLo_nat0, addHi_nat0]
            obtain ⟨cr', o', e, r⟩ := plus_round (vy := 0) HOL.out hlt wx wy hcr hwo HVX.out (by rw [List.getD_eq_getElem?_getD, List.getElem?_eq_none (by omega)]; rfl) hr hbl (Nat.le_refl _) HVAL.out
            exact ⟨i + 1, cr', o', by omega, by go_num, by rw [e], r⟩
          case measure => simp [intOf]; omega
      · obtain rfl : i = x.length := by omega
        have hfin : val b64 o + b64 ^ o.length * cr = s := by
          have := HVAL.out
          rw [HOL.out, this, List.take_of_length_le (Nat.le_refl _), List.take_of_length_le (by omega)]; exact HS.out
        have HF := Lib.hid hfin
        clear hfin
        rw [show x.length + 1 - x.length = 1 by omega, show List.replicate 1 0 = [0] from rfl] at hr
        rcases Nat.eq_zero_or_pos cr with rfl | hc0
        · go_wp2
          go_ret
          refine ⟨_, rfl, ?_, hbl⟩
          have h := hr.rd (n := x.length) (c := x.length + 1) (by simp; have := HOL.out; omega) (by omega) (by unfold maxLen; omega)
          rw [← HOL.out, List.take_left] at h
          have hF := HF.out
          rw [Nat.mul_zero, Nat.add_zero] at hF
          rw [← hF, ← HOL.out]
          exact Num.of two_le_b64 h rfl hwo (plus_top (y := y) tx wx hwo HOL.out two_le_b64 (by have h1 := HF.out; have h2 := HS.out; omega) rfl)
        · have hA := hr.keep ((Below.refl _ _).alloc (Nat.le_refl _) (.cells #[.int .u64 (cr : Int)] 137))
          obtain ⟨vo, hco, _⟩ := hA.get (i := x.length) (by simp; have := HOL.out; omega)
          have hcf := hA.frozen x.length
          go_wp2
          go_ret
          refine ⟨_, rfl, ?_, (hbl.alloc hbl.size _).setCell (Nat.le_refl _) _⟩
          have hR := hA.set x.length cr
          rw [set_mid HOL.out] at hR
          have hF := HF.out
          rw [← val_snoc] at hF
          rw [← hF]
          have hl : (o ++ [cr]).length = x.length + 1 := by simp [HOL.out]
          exact Num.of two_le_b64 (hR.rd_all (by omega) (by unfold maxLen; omega)) hl (hwo.append (Wf.cons (by unfold b64; omega) (Wf.nil _))) (by unfold Top; simp; omega)
end Wx
