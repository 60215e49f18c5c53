import Derived.Test.YtpiniclogfefjaaProg
import Derived.Test.YtpiniclogfefjaaCResidualShelf
import Derived.Test.YtpiniclogfefjaaJResidual0
import Derived.Test.YtpiniclogfefjaaJResidual8
import Derived.Test.YtpiniclogfefjaaCResidualMem
import Derived.Test.YtpiniclogfefjaaJResidual6
import Derived.Test.YtpiniclogfefjaaCResidualDiv64
import Derived.Test.YtpiniclogfefjaaJResidual10
import Derived.Test.YtpiniclogfefjaaJResidual11
namespace Wx
set_option maxRecDepth 100000
open Go Go.RowKit Go.Proofs

def RetTwo (w : World) (q r : Nat) (e : Ending) (w' : World) : Prop := ∃ v1 v2, e = .returned (.tuple #[v1, v2]) ∧ Num .u64 b64 w' v1 q ∧ Num .u64 b64 w' v2 r ∧ Below w.heap.size w w'

set_option maxHeartbeats 1000000 in
theorem divide_less (w : World) (v1 v2 : Value) (m n : Nat) (h1 : Num .u64 b64 w v1 m) (h2 : Num .u64 b64 w v2 n) (hlt : m < n) :
    Calls Try.prog 64 #[v1, v2] w (RetTwo w (m / n) (m % n)) := by
  rw [Nat.div_eq_of_lt hlt, Nat.mod_eq_of_lt hlt]
  go_enter Try.func64, Try.ntmps64
  go_wp2_with fail
  refine (cmp_num _ _ _ _ _ h1 h2).mono ?_
  rintro e w1 ⟨rfl, hb1⟩
  rw [show cmpI m n = -1 by unfold cmpI; rw [if_pos hlt]]
  have hn1 := h1.below hb1
  go_wp2
  go_ret2
  exact ⟨_, _, rfl, Num.zero _ _ _, hn1, hb1⟩

theorem cmpI_ge {m n : Nat} (h : n ≤ m) : ∃ z, cmpI m n = z ∧ ¬ (z < 0) := ⟨_, rfl, by unfold cmpI; rw [if_neg (by omega)]; split <;> omega⟩

set_option maxHeartbeats 1000000 in
theorem divide_word (w : World) (v1 v2 : Value) (m n : Nat) (h1 : Num .u64 b64 w v1 m) (h2 : Num .u64 b64 w v2 n) (hle : n ≤ m) (h0 : 0 < n) (hn : n < b64) {j : Nat} (hj : Bd j m) (hj1 : j ≤ 1000000000) :
    Calls Try.prog 64 #[v1, v2] w (RetTwo w (m / n) (m % n)) := by
  obtain ⟨z, hz, hz0⟩ := cmpI_ge hle
  have HZ := bx hz
  have hr : m % n < b64 := Nat.lt_trans (Nat.mod_lt m h0) hn
  have HR := bx hr
  have HN := bx hn
  clear hz hr hn
  have hc := cmp_num w v1 v2 m n h1 h2
  rw [HZ.out] at hc
  obtain ⟨b, o, c, rfl, hcell⟩ := h2.one h0 HN.out
  go_enter Try.func64, Try.ntmps64
  go_wp2_with fail
  refine hc.mono ?_
  rintro e w1 ⟨rfl, hb1⟩
  have hn1 := h1.below hb1
  have hcell1 : w1.cell? ⟨b, o, none⟩ = some (.int .u64 (n : Int)) := by rw [hb1.cell (World.block_lt_of_cell? w _ hcell)]; exact hcell
  clear hc hcell
  go_wp2_with fail
  refine (byWord_num w1 v1 m n hn1 hj hj1 h0 HN.out).mono ?_
  rintro e w2 ⟨vq, rfl, hq, hb2⟩
  go_wp2_with fail
  refine (word_num w2 (m % n) HR.out).mono ?_
  rintro e w3 ⟨vr, rfl, hr3, hb3⟩
  go_wp2
  go_ret2
  exact ⟨_, _, rfl, hq.below hb3, hr3, (hb1.trans (hb2.mono hb1.size)).trans (hb3.mono (Nat.le_trans hb1.size hb2.size))⟩

theorem long_end {m n T V Q : Nat} (hT : 0 < T) (h : V + Q * b64 ^ 0 * (n * T) = m * T) (hlt : V < n * T) : Q = m / n ∧ V / T = m % n ∧ V ≤ m * T := by
  rw [Nat.pow_zero, Nat.mul_one] at h
  obtain ⟨h1, h2⟩ := div_unique (m := m * T) (d := n * T) (q := Q) (r := V) (by omega) hlt
  rw [Nat.mul_div_mul_right _ _ hT] at h1
  rw [Nat.mul_mod_mul_right] at h2
  exact ⟨h1.symm, by rw [← h2, Nat.mul_div_cancel _ hT], by omega⟩
theorem Row.grown {w w' : World} {k : IntKind} {e : TypeId} {g g' : Nat} {l : List Nat} (h : Row w k e g l) (hg : w.grownBy w' (some g')) (hne : g' ≠ g) : Row w' k e g l := by
  obtain ⟨rest, h1⟩ := h
  exact ⟨rest, by rw [← h1]; exact hg.block g (Row.lt ⟨rest, h1⟩) (by simp; omega)⟩
theorem digs_length_ge2 {n : Nat} (h : b64 ≤ n) : 2 ≤ (digs b64 n).length := by
  rcases Nat.lt_or_ge (digs b64 n).length 2 with hl | hl
  · have := lt_pow_digs two_le_b64 n
    have : b64 ^ (digs b64 n).length ≤ b64 ^ 1 := Nat.pow_le_pow_right (by unfold b64; omega) (by omega)
    rw [Nat.pow_one] at this
    omega
  · exact hl
theorem digs_length_mono {m n : Nat} (h : n ≤ m) : (digs b64 n).length ≤ (digs b64 m).length := by
  rcases Nat.lt_or_ge (digs b64 m).length (digs b64 n).length with hl | hl
  · have := val_lt_of_length two_le_b64 hl; omega
  · exact hl

set_option maxHeartbeats 1000000 in
theorem divide_long (w : World) (v1 v2 : Value) (m n : Nat) (h1 : Num .u64 b64 w v1 m) (h2 : Num .u64 b64 w v2 n) (hle : n ≤ m) (hn : b64 ≤ n) {j : Nat} (hj : Bd j m) (hj1 : j ≤ 100000000) :
    Calls Try.prog 64 #[v1, v2] w (RetTwo w (m / n) (m % n)) := by
  obtain ⟨z, hz, hz0⟩ := cmpI_ge hle
  have hc := cmp_num w v1 v2 m n h1 h2
  rw [hz] at hc
  clear hz
  have hn2 := digs_length_ge2 hn
  have htopn := digs_top two_le_b64 n
  have hwn := digs_wf two_le_b64 n
  obtain ⟨B, d, rfl, hb⟩ := id h2
  obtain ⟨bb, ob, tb, rfl, hcb, HTB⟩ := hb.get (i := (digs b64 n).length - 1) (by omega)
  have htb : 0 < tb := by
    rcases Nat.eq_zero_or_pos tb with rfl | h
    · exfalso; apply htopn
      rw [List.getLast?_eq_getElem?]; exact HTB.out
    · exact h
  have htb1 : tb < b64 := hwn _ (List.mem_of_getElem? HTB.out)
  obtain ⟨s, hs, hs1⟩ : ∃ s, s = 64 - Lib.bitLen tb ∧ s ≤ 64 := ⟨_, rfl, by omega⟩
  have hbl := hb.len
  have HS := bx hs
  have HTP := bx (And.intro htb htb1)
  have hNe : (((digs b64 n).length : Int) == 1) = false := beq_eq_false_iff_ne.2 (by omega)
  have hN0 : (0 : Int) ≤ ((digs b64 n).length : Int) - 1 := by omega
  have hjs : Bd (j + 65) (m * 2 ^ s) := (hj.mul (show Bd 65 (2 ^ s) from Nat.pow_lt_pow_right (by omega) (by omega)))
  have hjn : Bd j n := hj.le hle
  have hmn : n * 2 ^ s ≤ m * 2 ^ s := Nat.mul_le_mul_right _ hle
  have hnV : b64 ≤ n * 2 ^ s := Nat.le_trans hn (Nat.le_mul_of_pos_right n (Nat.two_pow_pos s))
  have HH := bx (And.intro hmn hnV)
  have HJ := bx (And.intro hj (And.intro hjn hjs))
  clear hs htb htb1 hj hjn hjs hmn hnV htopn hn hwn
  generalize hN : (digs b64 n).length = N at *
  clear hN
  go_enter Try.func64, Try.ntmps64
  go_wp2_with fail
  refine hc.mono ?_
  rintro e w1 ⟨rfl, hb1⟩
  have h11 := h1.below hb1
  have h21 := h2.below hb1
  have hcb1 : w1.cell? ⟨bb, ob + (N - 1), none⟩ = some (.int .u64 (tb : Int)) := by rw [hb1.cell (World.block_lt_of_cell? w _ hcb)]; exact hcb
  clear hc hcb h1 h2 hb
  go_wp2_with fail
  refine (lz64 tb HTP.out.1 HTP.out.2 w1).mono ?_
  rintro e w' ⟨rfl, rfl⟩
  rw [← HS.out]
  go_wp2_with fail
  refine (left_num w1 _ n s h21 HJ.out.2.1 (by omega) (by omega)).mono ?_
  rintro e w2 ⟨v, rfl, hv2, hb2⟩
  have h12 := h11.below hb2
  have hb12 := hb1.trans (hb2.mono hb1.size)
  clear h11 h21 hcb1 hb1 hb2
  go_wp2_with fail
  have hal := (Below.refl w2.heap.size w2).alloc (Nat.le_refl _) (.cells #[] 81)
  refine (left_num _ _ m s (h12.below hal) HJ.out.1 (by omega) (by omega)).mono ?_
  rintro e w3 ⟨x, rfl, hx3, hb3⟩
  have hown0 : (w2.alloc (.cells #[] 81)).ownsRow w2.heap.size 81 1 (.slice (some ⟨w2.heap.size, 0, none⟩) 0 0) 0 (nums .u64 []) := World.ownsRow_made w2 #[] 0 (Nat.le_refl _) (Nat.zero_le _) rfl
  have hown3 := hown0.kept (grown_of_below hb3 none) (.inr (by simp [Value.ownBlock]))
  have hb23 : Below w2.heap.size w2 w3 := hal.trans (hb3.mono hal.size)
  have hv3 := hv2.below hb23
  have h13 := h12.below hb23
  clear hown0 hal hb3 h12
  obtain ⟨X, cx, rfl, hxr⟩ := hx3
  have hxl : (digs b64 (m * 2 ^ s)).length ≤ 100000000 := by
    have := len64 HJ.out.2.2; omega
  have hxl2 := digs_length_mono HH.out.1
  have hvl2 := digs_length_ge2 HH.out.2
  obtain ⟨V, cv, rfl, hvr⟩ := hv2
  clear hv3
  have hvB := (RdB.of hvr).grown' (grown_of_below hb23 none) (by intro g hg; cases hg)
  clear hvr
  have hVv := bx (val_digs two_le_b64 (n * 2 ^ s))
  have hVw := digs_wf two_le_b64 (n * 2 ^ s)
  have hVt := bx (digs_top two_le_b64 (n * 2 ^ s))
  have hXv := bx (val_digs two_le_b64 (m * 2 ^ s))
  have hXw := digs_wf two_le_b64 (m * 2 ^ s)
  generalize digs b64 (n * 2 ^ s) = vl at *
  generalize digs b64 (m * 2 ^ s) = al at *
  obtain ⟨bxx, ox, x0, rfl, hcx, _⟩ := hxr.get (i := 0) (by omega)
  clear hcx
  go_upto_region 9 with (first
    | (at_builtin; refine wpList_app _ rfl (.tmp 45) (.tmp 48) _ rfl .u64 81 w2.heap.size Try.underlying30 i64row (.slice (some ⟨w2.heap.size, 0, none⟩) 0 0) [] rfl hown3 _ _ _ al _ rfl rfl hxr (by simp; omega) hb23.size ?_; intro U4 A4 c4 w4 HU4 hown4 hg4)
    | (at_builtin; refine wpList_app _ rfl (.tmp 49) (.tmp 50) _ rfl .u64 81 w2.heap.size Try.underlying30 i64row (.slice A4 U4.length c4) U4 rfl (hown4.alloc _) _ _ _ [0] 1 rfl rfl ((Row.new w4 .u64 81 [0]).rd_all (c := 1) (by simp) (by simp [maxLen])) (by rw [HU4.out]; simp; omega) (by simp; have h5 := hb23.size; have h6 := hg4.size; omega) ?_; intro U A5 c5 w5 HU5 hown5 hg5))
  have hUl : U.length = al.length + 1 := by rw [HU5.out, HU4.out]; simp
  have hvB4 := hvB.grown' hg4 (by intro g hg; simp [Value.ownBlock] at hg; omega)
  have hrow5 : ∀ k, (Value.slice A4 U4.length c4).ownBlock = some k → w2.heap.size ≤ k := fun k hk => (hown4.lt k hk).1
  have hvB5 := (hvB4.grown' (World.grownBy_alloc w4 _ none) (by intro g hg; cases hg)).grown' hg5 hrow5
  have hB4 : Below w.heap.size w w4 := (hb12.trans (hb23.mono hb12.size)).grown hg4 (Nat.le_trans hb12.size hb23.size) (by intro g hg; simp [Value.ownBlock] at hg; have := hb12.size; omega)
  have hB5 : Below w.heap.size w w5 := (hB4.alloc hB4.size (.cells #[.int .u64 0] 81)).grown hg5 (by have := hB4.size; simp; omega) (by intro g hg; have := hrow5 g hg; have := hb12.size; omega)
  obtain ⟨g, rfl, hgB, hRU, hcu, hUm⟩ := row_of_owns hown5 (by omega)
  clear hvB hvB4 hrow5 hB4 hg4 hg5 hown3 hown4 hown5 h13 hxr
  have hVal : Bx (val b64 U + val b64 (List.drop (U.length - vl.length) (List.replicate (U.length - vl.length) 0)) * b64 ^ (U.length - vl.length) * (n * 2 ^ s) = m * 2 ^ s) := by
    refine bx ?_
    rw [List.drop_of_length_le (by simp), val_nil, Nat.zero_mul, Nat.zero_mul, Nat.add_zero, HU5.out, HU4.out, List.nil_append, val_append, hXv.out]
    simp [val]
  have hLow : Bx (val b64 (U.drop (U.length - vl.length)) < n * 2 ^ s) := by
    refine bx ?_
    have e1 : U.drop (U.length - vl.length) = (al.drop (U.length - vl.length)) ++ [0] := by
      rw [HU5.out, HU4.out, List.nil_append, List.drop_append_of_le_length (by simp; omega)]
    rw [e1, val_append]
    have h1 := val_lt (hXw.drop (U.length - vl.length))
    have h2 := pow_digs_le two_le_b64 (n := n * 2 ^ s) (by have := HH.out.2; unfold b64 at this; omega)
    have h3 : (digs b64 (n * 2 ^ s)).length = vl.length := by rw [← hVv.out, digs_val two_le_b64 hVw hVt.out]
    rw [h3] at h2
    rw [List.length_drop, show al.length - (U.length - vl.length) = vl.length - 1 by omega] at h1
    simp [val]
    omega
  have hUw : Wf b64 U := by rw [HU5.out, HU4.out]; exact (Wf.append (Wf.nil _) hXw).append (Wf.cons (by unfold b64; omega) (Wf.nil _))
  have hUl1 : vl.length + 1 ≤ U.length := by omega
  have hUl2 : U.length ≤ 100000001 := by omega
  clear HU4 HU5 hUl hXw hXv hxl hxl2
  go_wp2_with (at_make; go_loud (refine wpList_mk _ rfl _ _ _ rfl .u64 81 Try.underlying30 i64row _ _ rfl rfl (by omega) (by omega) (by omega) ?_); intro w6 hrow hbel hsz)
  rw [show ((U.length : Int) - (vl.length : Int)).toNat = U.length - vl.length by omega] at hrow
  rw [show decide (z < 0) = false from decide_eq_false (by omega)]
  have hRU6 := hRU.keep hbel
  have hvB6 := hvB5.grown' (grown_of_below hbel none) (by intro g hg; cases hg)
  have hB6 := hB5.trans (hbel.mono hB5.size)
  have hgq : g ≠ w5.heap.size := by have := hRU.lt; omega
  generalize hQn : U.length - vl.length = Qn at *
  have HQN := bx hQn
  have hq1 : (Qn : Int) ≤ 100000001 := by omega
  have hcc : c5 ≤ 9223372036854775807 := by unfold maxLen at hUm; omega
  have HGQ := bx hgq
  have HSZ := bx (And.intro hB5.size (show w2.heap.size ≤ w5.heap.size by have := hRU.lt; omega))
  have HSZ2 := bx (show w.heap.size ≤ g by have := hb12.size; omega)
  clear hRU hvB5 hB5 hbel hsz hQn hz0 hgq HTB hNe hN0 hbl hn2 hb12 hb23
  go_loopw [13] (fun s13 wr => ∃ (i : Nat) (M qs : List Nat), i ≤ Qn ∧ s13 = .int .i64 ((i : Int) - 1) ∧ Bx (M.length = U.length) ∧ Wf b64 M ∧ Bx (qs.length = Qn) ∧ Wf b64 qs ∧ Row wr .u64 81 g M ∧ Row wr .u64 81 w5.heap.size qs ∧ RdB wr w2.heap.size .u64 V cv vl ∧ Below w.heap.size w wr ∧
      Bx (val b64 M + val b64 (qs.drop i) * b64 ^ i * (n * 2 ^ s) = m * 2 ^ s) ∧ Bx (val b64 (M.drop i) < n * 2 ^ s)) (fun s13 _ => (intOf s13 + 1).toNat)
  case atStart => exact ⟨Qn, U, List.replicate Qn 0, Nat.le_refl _, rfl, bx rfl, hUw, bx (by simp), Wf.replicate (by unfold b64; omega) _, hRU6, hrow, hvB6, hB6, hVal, hLow⟩
  case round =>
    clear hRU6 hrow hvB6 hB6 hVal hLow
    obtain ⟨i, M, qs, hi, rfl, HML, hwM, HQL, hwq, hrM, hrq, hvr, hBr, HVAL, HLOW⟩ := hrel
    rcases Nat.eq_zero_or_pos i with rfl | hpos
    · rw [show (((0 : Nat) : Int) - 1) = -1 by omega]
      go_wp2_with fail
      obtain ⟨e1, e2, e3⟩ := long_end (Nat.two_pow_pos s) HVAL.out HLOW.out
      have E1 := bx e1
      have E2 := bx e2
      have E3 := bx (HJ.out.2.2.le e3)
      clear e1 e2 e3 hcc hq1
      refine (cut_num wr (some ⟨w5.heap.size, 0, none⟩) Qn qs (m / n) (hrq.rd_all (by rw [HQL.out]; exact Nat.le_refl _) (by have := HQN.out; unfold maxLen; omega)) hwq Qn HQL.out E1.out).mono ?_
      rintro e w' ⟨rfl, vq, rfl, hnq⟩
      go_wp2_with fail
      refine (cut_num wr (some ⟨g, 0, none⟩) c5 M _ (hrM.rd_all (by rw [HML.out]; exact hcu) hUm) hwM U.length HML.out rfl).mono ?_
      rintro e w' ⟨rfl, vM, rfl, hnM⟩
      go_wp2_with fail
      refine (right_num wr vM (val b64 M) s hnM E3.out (by omega) (by omega)).mono ?_
      rintro e wf ⟨vr, rfl, hnr, hbf⟩
      go_wp2
      go_ret2
      rw [E2.out] at hnr
      exact ⟨_, _, rfl, hnq.below hbf, hnr, hBr.trans (hbf.mono hBr.size)⟩
    · obtain ⟨k, rfl⟩ : ∃ k, i = k + 1 := ⟨i - 1, by omega⟩
      rw [show (((k + 1 : Nat) : Int) - 1) = (k : Int) by omega]
      have hk0 : (0 : Int) ≤ (k : Int) := by omega
      have hk1 : (k : Int) < (Qn : Int) := by omega
      have hk2 : (k : Int) + (vl.length : Int) + 1 ≤ (c5 : Int) := by have := HQN.out; omega
      go_wp2_with fail
      have hkU : k + (vl.length + 1) ≤ M.length := by have := HQN.out; have := HML.out; omega
      have hltw := long_window hkU hwM (V := n * 2 ^ s) HLOW.out
      rw [← hVv.out] at hltw
      have hcc1 : vl.length + 1 ≤ c5 - k := by omega
      rw [show k + vl.length + 1 - k = vl.length + 1 by omega]
      have hcm1 : c5 - k ≤ maxLen := Nat.le_trans (Nat.sub_le _ _) hUm
      have hvl9 : vl.length ≤ 1000000000 := by omega
      refine (digit_num wr w2.heap.size g k (c5 - k) M vl V cv hrM hwM hkU hcc1 hcm1 hvr hgB hVw hvl9 hvl2 hVt.out hltw).mono ?_
      clear hltw hcc1
      rintro e wd ⟨rfl, hgd, M', hM'l, hwM', hrM', htk, hdr, hmod⟩
      have hrq' := hrq.grown hgd HGQ.out
      have hvr' := hvr.grown hgd hgB
      have hBr' := hBr.grown hgd hBr.size (by intro g' hg'; injection hg' with hg'; have := HSZ2.out; omega)
      obtain ⟨l1, l2⟩ := long_step hM'l hkU (show n * 2 ^ s < b64 ^ vl.length by rw [← hVv.out]; exact val_lt hVw) (by rw [HQL.out]; omega) htk hdr (by rw [← hVv.out]; exact hmod) HLOW.out HVAL.out
      rw [hVv.out]
      have hqlt : val b64 (win M k (vl.length + 1)) / (n * 2 ^ s) < b64 := by
        rw [Nat.div_lt_iff_lt_mul (by have := HLOW.out; omega), Nat.mul_comm]
        exact long_window hkU hwM HLOW.out
      have HM'L := bx (hM'l.trans HML.out)
      generalize hqd : val b64 (win M k (vl.length + 1)) / (n * 2 ^ s) = qd at *
      have HL1 := bx l1
      have HL2 := bx l2
      have HQD := bx hqlt
      clear hcm1 hvl9 l1 l2 hqlt hqd htk hdr hmod hM'l hkU hrM hrq hvr hBr hwM HML hgd HVAL HLOW
      obtain ⟨vo, hco, HVO⟩ := hrq'.get (i := k) (by have := HQL.out; omega)
      have hcf := hrq'.frozen k
      go_wp2
      go_roundw
      case rel =>
        exact ⟨k, M', qs.set k qd, by omega, by go_num, HM'L, hwM', bx (by rw [List.length_set]; exact HQL.out), hwq.set HQD.out, hrM'.far (by simpa using HGQ.out) _, hrq'.set _ _, hvr'.grown' (grown_set _ _ _ _) (by intro g' hg'; injection hg' with hg'; have := HSZ.out.2; omega), hBr'.setCell HSZ.out.1 _, HL1, HL2⟩
      case measure => simp [intOf]

theorem divide_num (w : World) (v1 v2 : Value) (m n : Nat) (h1 : Num .u64 b64 w v1 m) (h2 : Num .u64 b64 w v2 n) (h0 : 0 < n) {j : Nat} (hj : Bd j m) (hj1 : j ≤ 100000000) :
    Calls Try.prog 64 #[v1, v2] w (RetTwo w (m / n) (m % n)) := by
  rcases Nat.lt_or_ge m n with hlt | hge
  · exact divide_less w v1 v2 m n h1 h2 hlt
  · rcases Nat.lt_or_ge n b64 with hn | hn
    · exact divide_word w v1 v2 m n h1 h2 hge h0 hn hj (by omega)
    · exact divide_long w v1 v2 m n h1 h2 hge hn hj hj1
end Wx

namespace Wx
open Go Go.RowKit Go.Proofs

theorem Rd.inj {w : World} {k : IntKind} {A : Option Addr} {c c' : Nat} {l r : List Nat} (h : Rd w k A c l) (g : Rd w k A c' r) (hl : l.length = r.length) : l = r := by
  apply List.ext_getElem hl
  intro i h1 h2
  obtain ⟨b, o, e, hc⟩ := h.at_ (i := i) h1
  obtain ⟨b', o', e', hc'⟩ := g.at_ (i := i) h2
  rw [e] at e'
  injection e' with e'
  injection e' with e1 e2
  subst e1 e2
  rw [hc] at hc'
  injection hc' with hc'
  injection hc' with _ hc'
  rw [List.getD_eq_getElem?_getD, List.getD_eq_getElem?_getD, List.getElem?_eq_getElem h1, List.getElem?_eq_getElem h2] at hc'
  simp only [Option.getD_some] at hc'
  omega
theorem Num.inj {w : World} {v : Value} {m n : Nat} {k : IntKind} (h : Num k b64 w v m) (g : Num k b64 w v n) : m = n := by
  obtain ⟨A, c, rfl, hr⟩ := h
  obtain ⟨A', c', e, gr⟩ := g
  injection e with e1 e2 e3
  subst e1
  exact digs_inj two_le_b64 (hr.inj gr e2)
open Classical in
noncomputable def numOf (w : World) (v : Value) : Nat := if h : ∃ n, Num .u64 b64 w v n then choose h else 0
theorem Num.of_eq {w : World} {v : Value} {n : Nat} (h : Num .u64 b64 w v n) : numOf w v = n := by
  have hx : ∃ n, Num .u64 b64 w v n := ⟨n, h⟩
  unfold numOf
  rw [dif_pos hx]
  exact (Classical.choose_spec hx).inj h

theorem len_le_one {n : Nat} (h : n < b64) : (digs b64 n).length ≤ 1 := digs_length_le two_le_b64 (by simpa using h)
theorem two_le_len {n : Nat} (h : ¬ n < b64) : 2 ≤ (digs b64 n).length := digs_length_ge2 (by omega)

set_option maxHeartbeats 1000000 in
theorem gcd_num (w : World) (v1 v2 : Value) (m n : Nat) (h1 : Num .u64 b64 w v1 m) (h2 : Num .u64 b64 w v2 n) {j : Nat} (hj : Bd j m) (hk : Bd j n) (hj1 : j ≤ 100000000) :
    Calls Try.prog 62 #[v1, v2] w (RetNum .u64 b64 w (Nat.gcd m n)) := by
  have HX := bx (And.intro hj hk)
  clear hj hk
  obtain ⟨G, hG⟩ : ∃ G, G = Nat.gcd m n := ⟨_, rfl⟩
  rw [← hG]
  have HG := bx hG
  clear hG
  go_enter Try.func62, Try.ntmps62
  go_wp2_with fail
  go_loopw [0, 1] (fun s0 s1 wr => ∃ x y : Nat, Num .u64 b64 wr s0 x ∧ Num .u64 b64 wr s1 y ∧ Bx (G = Nat.gcd x y) ∧ Bx (Bd j x ∧ Bd j y) ∧ Below w.heap.size w wr) (fun _ s1 wr => numOf wr s1)
  case atStart => exact ⟨_, _, h1, h2, HG, HX, Below.refl _ _⟩
  case round =>
    clear h1 h2 HG HX
    obtain ⟨x, y, hx, hy, HG, HX, hb⟩ := hrel
    rcases Nat.eq_zero_or_pos y with rfl | hy0
    · obtain ⟨A, c, rfl, hr⟩ := id hy
      rw [digs_zero] at hr ⊢
      go_wp2
      go_ret
      exact ⟨_, rfl, by rw [HG.out, Nat.gcd_zero_right]; exact hx, hb⟩
    · obtain ⟨A, c, rfl, hr⟩ := id hx
      obtain ⟨B, d, rfl, hs⟩ := id hy
      have hl1 : (1 : Int) ≤ ((digs b64 y).length : Int) := by have := (digs_length_pos (n := y) two_le_b64).2 hy0; omega
      by_cases hx1 : x < b64
      · by_cases hy1 : y < b64
        · have a1 : ((digs b64 x).length : Int) ≤ 1 := by have := len_le_one hx1; omega
          have a2 : ((digs b64 y).length : Int) ≤ 1 := by have := len_le_one hy1; omega
          have HX1 := bx hx1
          have HY1 := bx hy1
          have HY0 := bx hy0
          clear hx1 hy1 hy0
          go_wp2_with fail
          refine (small_num wr _ _ x y hx hy HX1.out HY1.out HY0.out).mono ?_
          rintro e w2 ⟨rfl, hb2⟩
          go_wp2_with fail
          refine (word_num w2 _ (Nat.lt_of_le_of_lt (Nat.gcd_le_right x HY0.out) HY1.out)).mono ?_
          rintro e w3 ⟨vr, rfl, hr3, hb3⟩
          go_wp2
          go_ret
          exact ⟨_, rfl, by rw [HG.out]; exact hr3, (hb.trans (hb2.mono hb.size)).trans (hb3.mono (Nat.le_trans hb.size hb2.size))⟩
        · have a1 : ((digs b64 x).length : Int) ≤ 1 := by have := len_le_one hx1; omega
          have a2 : (2 : Int) ≤ ((digs b64 y).length : Int) := by have := two_le_len hy1; omega
          have HY0 := bx hy0
          clear hx1 hy1 hy0
          go_wp2_with fail
          refine (divide_num wr _ _ x y hx hy HY0.out HX.out.1 hj1).mono ?_
          rintro e w2 ⟨vq, vr, rfl, hq, hr2, hb2⟩
          have hy2 := hy.below hb2
          go_wp2
          go_roundw
          case rel => exact ⟨y, x % y, hy2, hr2, bx (by rw [HG.out, Nat.gcd_comm x y, Nat.gcd_rec y x, Nat.gcd_comm]), bx ⟨HX.out.2, HX.out.2.le (Nat.le_of_lt (Nat.mod_lt _ HY0.out))⟩, hb.trans (hb2.mono hb.size)⟩
          case measure => rw [hr2.of_eq, hy.of_eq]; exact Nat.mod_lt _ HY0.out
      · have a1 : (2 : Int) ≤ ((digs b64 x).length : Int) := by have := two_le_len hx1; omega
        have HY0 := bx hy0
        clear hx1 hy0
        go_wp2_with fail
        refine (divide_num wr _ _ x y hx hy HY0.out HX.out.1 hj1).mono ?_
        rintro e w2 ⟨vq, vr, rfl, hq, hr2, hb2⟩
        have hy2 := hy.below hb2
        go_wp2
        go_roundw
        case rel => exact ⟨y, x % y, hy2, hr2, bx (by rw [HG.out, Nat.gcd_comm x y, Nat.gcd_rec y x, Nat.gcd_comm]), bx ⟨HX.out.2, HX.out.2.le (Nat.le_of_lt (Nat.mod_lt _ HY0.out))⟩, hb.trans (hb2.mono hb.size)⟩
        case measure => rw [hr2.of_eq, hy.of_eq]; exact Nat.mod_lt _ HY0.out
end Wx
