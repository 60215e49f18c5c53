import Derived.Test.YtlomlheajdgdoaaGreatProg
import Derived.Deep.QuietTactic
import Derived.BigQuiet
import Derived.Test.YtlomlheajdgdoaaGreatJPairs0
import Derived.Test.YtlomlheajdgdoaaGreatJPairs1
import Derived.Test.YtlomlheajdgdoaaGreatJPairs10
import Derived.Test.YtlomlheajdgdoaaGreatJPairs22
import Derived.Test.YtlomlheajdgdoaaGreatJPairs23
import Derived.Test.YtlomlheajdgdoaaGreatJPairs24
import Derived.Test.YtlomlheajdgdoaaGreatJPairs7
namespace Wx
set_option maxRecDepth 100000
open Go Go.RowKit Go.Proofs

def RetQuot (w : World) (q r : Nat) (e : Ending) (w' : World) : Prop := ∃ v u, e = .returned (.tuple #[v, u]) ∧ Num .u32 b32 w' v q ∧ Num .u32 b32 w' u r ∧ Below w.heap.size w w'
theorem digs32_one {n : Nat} (h : (digs b32 n).length = 1) : digs b32 n = [n] ∧ 0 < n ∧ n < b32 := by
  have h0 : 0 < n := (digs_length_pos two_le_b32).1 (by omega)
  have h1 := lt_pow_digs two_le_b32 n
  rw [h, Nat.pow_one] at h1
  exact ⟨digs_small two_le_b32 h0 h1, h0, h1⟩

set_option maxHeartbeats 1000000 in
theorem quot_one (w : World) (v1 v2 : Value) (m n : Nat) (h1 : Num .u32 b32 w v1 m) (h2 : Num .u32 b32 w v2 n) (hl : (digs b32 n).length = 1) {j : Nat} (hj : Bd j m) (hj1 : j ≤ 100000000) :
    Calls Tryz.prog 99 #[v1, v2] w (RetQuot w (m / n) (m % n)) := by
  obtain ⟨hd, hn0, hn1⟩ := digs32_one hl
  obtain ⟨B, d, rfl, hb⟩ := h2
  rw [hd] at hb ⊢
  obtain ⟨g, o, x, rfl, hc, HX⟩ := hb.get (i := 0) (by simp)
  obtain rfl : n = x := by have := HX.out; simpa using this
  rw [Nat.add_zero] at hc
  have HJ := bx hj
  have HN := bx (And.intro hn0 hn1)
  have hnu := u32_val hn1
  have hl1 : [n].length = 1 := rfl
  rw [hl1]
  clear hd hl HX hb hj hn1 hl1
  go_enter Tryz.func99, Tryz.ntmps99
  go_wp2_with fail
  refine Calls.mono (byDigit_num w v1 m n h1 HJ.out (by omega) HN.out.1 HN.out.2) ?_
  rintro e w2 ⟨vq, rfl, hq, hb2⟩
  have hr64 : m % n < b64 := by have h1 := Nat.mod_lt m HN.out.1; have h2 := HN.out.2; unfold b32 at h2; unfold b64; omega
  have hr32 : ((m % n : Nat) : Int) ≤ 4294967295 := by have h1 := Nat.mod_lt m HN.out.1; have h2 := HN.out.2; unfold b32 at h2; omega
  have HR := bx hr64
  clear hr64
  generalize m % n = r at *
  go_wp2_with fail
  refine Calls.mono (nat_num w2 r HR.out) ?_
  rintro e w3 ⟨vr, rfl, hr, hb3⟩
  go_wp2
  go_ret2
  exact ⟨_, _, rfl, hq.below hb3, hr, hb2.trans (hb3.mono hb2.size)⟩

set_option maxHeartbeats 1000000 in
theorem quot_less (w : World) (v1 v2 : Value) (m n : Nat) (h1 : Num .u32 b32 w v1 m) (h2 : Num .u32 b32 w v2 n) (hl : (digs b32 n).length ≠ 1) {j : Nat} (hj : Bd j m) (hk : Bd j n) (hj1 : j ≤ 100000000) (hlt : nbits m < nbits n) :
    Calls Tryz.prog 99 #[v1, v2] w (RetQuot w (m / n) (m % n)) := by
  have hmn := nbits_lt_of hlt
  rw [Nat.div_eq_of_lt hmn, Nat.mod_eq_of_lt hmn]
  have hc1 := bits_num w v1 m h1 hj (by omega)
  have hc2 := bits_num w v2 n h2 hk (by omega)
  have hbm := nbits_bd hj
  have hbn := nbits_bd hk
  have HM := bx h1
  obtain ⟨B, d, rfl, hb⟩ := h2
  have hlen := hb.len
  have hl1 : (((digs b32 n).length : Int) == 1) = false := beq_eq_false_iff_ne.2 (by omega)
  generalize (digs b32 n).length = L at *
  have hlt' : (nbits m : Int) < (nbits n : Int) := by omega
  have hbm1 : (nbits m : Int) ≤ 100000000 := by omega
  have hbn1 : (nbits n : Int) ≤ 100000000 := by omega
  have HC1 := bx hc1
  have HC2 := bx hc2
  clear hc1 hc2 hj hk hb hmn hbm hbn hlt h1
  generalize nbits m = bm at *
  generalize nbits n = bn at *
  go_enter Tryz.func99, Tryz.ntmps99
  go_wp2_with fail
  refine Calls.mono HC1.out ?_
  rintro e w' ⟨rfl, rfl⟩
  go_wp2_with fail
  refine Calls.mono HC2.out ?_
  rintro e w' ⟨rfl, rfl⟩
  go_wp2
  go_ret2
  exact ⟨_, _, rfl, Num.of two_le_b32 (l := []) ⟨Nat.le_refl _, Nat.zero_le _, fun h => absurd rfl h⟩ rfl (Wf.nil _) Top.nil, HM.out.below (Below.alloc (Below.refl _ _) (Nat.le_refl _) _), Below.alloc (Below.refl _ _) (Nat.le_refl _) _⟩

def NumN (g : Nat) (w : World) (v : Value) (n : Nat) : Prop := Num .u32 b32 w v n ∧ ∀ a l c, v = .slice (some a) l c → a.block ≠ g
theorem NumN.below {g : Nat} {w w' : World} {v : Value} {n : Nat} (h : NumN g w v n) (hb : Below w.heap.size w w') : NumN g w' v n := ⟨h.1.below hb, h.2⟩
theorem NumN.set {g : Nat} {w : World} {v : Value} {n : Nat} (h : NumN g w v n) (i : Nat) (u : Value) : NumN g (w.setCell ⟨g, i, none⟩ u) v n := by
  obtain ⟨⟨A, c, rfl, h1, h2, h3⟩, h4⟩ := h
  refine ⟨⟨A, c, rfl, h1, h2, fun hne => ?_⟩, h4⟩
  obtain ⟨b, o, rfl, hc⟩ := h3 hne
  refine ⟨b, o, rfl, fun k hk => ?_⟩
  rw [World.cell?_of_block (Below.heap_setCell w ⟨g, i, none⟩ u b (h4 _ _ _ rfl))]
  exact hc k hk
theorem NumN.new {g h L c : Nat} {w : World} {n : Nat} (hn : Num .u32 b32 w (.slice (some ⟨h, 0, none⟩) L c) n) (hg : g < h) : NumN g w (.slice (some ⟨h, 0, none⟩) L c) n := by
  refine ⟨hn, fun a l c e => ?_⟩
  injection e with e
  injection e with e
  subst e
  show h ≠ g
  omega
theorem NumN.old {w w' : World} {v : Value} {n : Nat} (h : Num .u32 b32 w v n) (hn : 0 < n) (hb : Below w.heap.size w w') : NumN w.heap.size w' v n := by
  refine ⟨h.below hb, fun a l c e => ?_⟩
  obtain ⟨A, c', rfl, hr⟩ := h
  obtain ⟨b, o, e', hc⟩ := hr.at_ ((digs_length_pos two_le_b32).2 hn)
  have := World.block_lt_of_cell? w _ hc
  rw [e'] at e
  injection e with e
  injection e with e
  subst e
  have : b < w.heap.size := this
  show b ≠ w.heap.size
  omega
theorem bit_eq {v i : Nat} (h : v + 2 ^ (i % 32) < 4294967296) : ((v : Int) + (2 : Int) ^ (i % 32)) % 4294967296 = ((v + 2 ^ (i % 32) : Nat) : Int) := by
  have e : ((2 : Int) ^ (i % 32)) = ((2 ^ (i % 32) : Nat) : Int) := by simp
  rw [e]
  generalize 2 ^ (i % 32) = P at *
  omega
theorem cmpI_lt' {m n : Nat} (h : m < n) : ∃ z, cmpI m n = z ∧ z < 0 := ⟨_, rfl, by unfold cmpI; rw [if_pos h]; omega⟩
def QInv (m n N i x y Q : Nat) (qs : List Nat) : Prop :=
  m = Q * n + x ∧ x < n * 2 ^ i ∧ 2 ^ i ∣ Q ∧ (0 < i → y = n * 2 ^ (i - 1)) ∧ val b32 qs = Q ∧ qs.length = N / 32 + 1 ∧ x ≤ m ∧ y ≤ n * 2 ^ N
theorem QInv.yes {m n N i x y Q : Nat} {qs : List Nat} {v : Nat} (h : QInv m n N (i + 1) x y Q qs) (hw : Wf b32 qs) (hv : qs[i / 32]? = some v) (hle : y ≤ x) :
    v + 2 ^ (i % 32) < 4294967296 ∧ QInv m n N i (x - y) (y / 2) (Q + 2 ^ i) (qs.set (i / 32) (v + 2 ^ (i % 32))) := by
  obtain ⟨h1, h2, h3, h4, h5, h6, h7, h8⟩ := h
  have hy := h4 (by omega)
  rw [Nat.add_sub_cancel] at hy
  have e : b32 = 4294967296 := rfl
  rw [e] at h5 hw
  have hvb : v < 4294967296 := hw _ (List.mem_of_getElem? hv)
  have hd := word_dvd (i := i) hw (by rw [h5]; exact h3) hv
  obtain ⟨k1, _⟩ := ldiv_step h1 h2 h3
  obtain ⟨a1, a2, a3⟩ := k1 (by rw [← hy]; exact hle)
  refine ⟨bit_room hvb (Nat.mod_lt _ (by omega)) hd, by rw [hy]; exact a1, by rw [hy]; exact a2, a3, fun hi => ?_, by rw [e, set_bit hv, h5], by rw [List.length_set]; exact h6, by omega, by omega⟩
  obtain ⟨k, rfl⟩ : ∃ k, i = k + 1 := ⟨i - 1, by omega⟩
  rw [hy, half_pow, Nat.add_sub_cancel]
theorem QInv.no {m n N i x y Q : Nat} {qs : List Nat} (h : QInv m n N (i + 1) x y Q qs) (hlt : x < y) : QInv m n N i x (y / 2) Q qs := by
  obtain ⟨h1, h2, h3, h4, h5, h6, h7, h8⟩ := h
  have hy := h4 (by omega)
  rw [Nat.add_sub_cancel] at hy
  refine ⟨h1, by omega, Nat.dvd_trans (Nat.pow_dvd_pow 2 (by omega)) h3, fun hi => ?_, h5, h6, h7, by omega⟩
  obtain ⟨k, rfl⟩ : ∃ k, i = k + 1 := ⟨i - 1, by omega⟩
  rw [hy, half_pow, Nat.add_sub_cancel]
theorem QInv.start {m n N : Nat} (hn : 0 < n) (hN : nbits m - nbits n = N) : QInv m n N (N + 1) m (n * 2 ^ N) 0 (List.replicate (N / 32 + 1) 0) := by
  refine ⟨by omega, ?_, Nat.dvd_zero _, fun _ => rfl, val_replicate _ _, by simp, Nat.le_refl _, Nat.le_refl _⟩
  rw [← hN]; exact nbits_start hn
theorem QInv.fin {m n N x y Q : Nat} {qs : List Nat} (h : QInv m n N 0 x y Q qs) : Q = m / n ∧ x = m % n := by
  obtain ⟨h1, h2, _⟩ := h
  rw [Nat.pow_zero, Nat.mul_one] at h2
  obtain ⟨e1, e2⟩ := div_unique h1 h2
  exact ⟨e1.symm, e2.symm⟩

set_option maxHeartbeats 4000000 in
theorem quot_long (w : World) (v1 v2 : Value) (m n N : Nat) (h1 : Num .u32 b32 w v1 m) (h2 : Num .u32 b32 w v2 n) (hl : (digs b32 n).length ≠ 1) (h0 : 0 < n) {j : Nat} (hj : Bd j m) (hk : Bd j n) (hj1 : j ≤ 10000000) (hN : nbits m = nbits n + N) :
    Calls Tryz.prog 99 #[v1, v2] w (RetQuot w (m / n) (m % n)) := by
  have hc1 := bits_num w v1 m h1 hj (by omega)
  have hc2 := bits_num w v2 n h2 hk (by omega)
  have hbm := nbits_bd hj
  have hbn := nbits_bd hk
  have hbn0 := nbits_pos h0
  have hm0 : 0 < m := by
    rcases Nat.eq_zero_or_pos m with rfl | h
    · rw [nbits_zero] at hN; omega
    · exact h
  have HQ := bx (QInv.start (m := m) (N := N) h0 (by omega))
  have HM := bx h1
  have HN := bx h2
  have HJ := bx (And.intro hj hk)
  have HY : Bx (Bd (2 * j + 1) (n * 2 ^ N)) := bx (by
    have := hk.mul (Bd.pow2 (K := N) (k := j + 1) (by omega))
    exact this.mono (by omega))
  have H0 := bx (And.intro hm0 h0)
  obtain ⟨B, d, rfl, hb⟩ := h2
  have hlen := hb.len
  have hl1 : (((digs b32 n).length : Int) == 1) = false := beq_eq_false_iff_ne.2 (by omega)
  generalize (digs b32 n).length = L at *
  have hNi : (nbits m : Int) - (nbits n : Int) = (N : Int) := by omega
  have hN1 : (N : Int) ≤ 10000000 := by omega
  have hbm1 : (nbits m : Int) ≤ 100000000 := by omega
  have hbn1 : (nbits n : Int) ≤ 100000000 := by omega
  have HC1 := bx hc1
  have HC2 := bx hc2
  have HNI := bx hNi
  clear hc1 hc2 hj hk hb hbm hbn hN hNi h1 hm0 h0 hbn0 hl
  generalize nbits m = bm at *
  generalize nbits n = bn at *
  go_enter Tryz.func99, Tryz.ntmps99
  go_upto_region 4 with (fail)
  go_cut [8] (fun v8 w' => w' = w ∧ v8 = .int .i64 (N : Int))
  case first =>
    go_wp2_with fail
    refine Calls.mono HC1.out ?_
    rintro e w' ⟨rfl, rfl⟩
    go_wp2_with fail
    refine Calls.mono HC2.out ?_
    rintro e w' ⟨rfl, rfl⟩
    go_wp2
    go_meet
    case rel => exact ⟨rfl, by rw [HNI.out]⟩
  case rest =>
    obtain ⟨rfl, rfl⟩ := hcut
    clear HC1 HC2 HNI hbm1 hbn1
    have hm32 : N / 32 + 1 ≤ 10000001 := by omega
    go_wp2_with (at_make; refine wpList_mk _ rfl _ _ _ rfl .u32 49 Tryz.underlying31 i32row ((N / 32 + 1 : Nat) : Int) ((N / 32 + 1 : Nat) : Int) rfl rfl (by omega) (by omega) (by omega) ?_; intro w1 hrow hbel hsz)
    rw [Int.toNat_natCast] at hrow
    refine Calls.mono (shifted_numG w1 _ n N (HN.out.below hbel) H0.out.2 HJ.out.2 (by omega) (by omega)) ?_
    rintro e w2 ⟨gd, Ld, cd, hgd, rfl, hd, hb2⟩
    have hrow := hrow.keep hb2
    have hdN := NumN.new (g := wc.heap.size) hd (by omega)
    have hxN := NumN.old HM.out H0.out.1 (hbel.trans (hb2.mono hbel.size))
    have hbl0 := hbel.trans (hb2.mono hbel.size)
    clear hd hb2 hgd hbel hsz HM HN
    go_wp2_with fail
    go_loopw [0, 10, 11] (fun s0 s10 s11 wr => ∃ (i x y Q : Nat) (qs : List Nat), i ≤ N + 1 ∧ s11 = .int .i64 ((i : Int) - 1) ∧ NumN wc.heap.size wr s0 x ∧ NumN wc.heap.size wr s10 y ∧ Bx (QInv m n N i x y Q qs) ∧ Wf b32 qs ∧ Row wr .u32 49 wc.heap.size qs ∧ Below wc.heap.size wc wr)
      (fun _ _ s11 _ => (intOf s11 + 1).toNat)
    case atStart => exact ⟨N + 1, m, n * 2 ^ N, 0, _, Nat.le_refl _, by go_num, hxN, hdN, HQ, Wf.replicate (by unfold b32; omega) _, hrow, hbl0⟩
    case round =>
      clear hrow hxN hdN hbl0
      obtain ⟨i, x, y, Q, qs, hi, rfl, hx, hy, HI, hwq, hr, hbl⟩ := hrel
      rcases Nat.eq_zero_or_pos i with rfl | hpos
      · rw [show (((0 : Nat) : Int) - 1) = -1 by omega]
        have HF := bx (QInv.fin HI.out)
        have hrd := hr.rd_all (c := N / 32 + 1) (by have := HI.out.2.2.2.2.2.1; omega) (by unfold maxLen; omega)
        have HL := bx HI.out.2.2.2.2.2.1
        have HV := bx HI.out.2.2.2.2.1
        go_wp2_with fail
        refine (ncut_num _ _ _ qs Q hrd hwq _ HL.out HV.out).mono ?_
        rintro e w' ⟨rfl, v, rfl, hv⟩
        go_wp2
        go_ret2
        rw [← HF.out.1, ← HF.out.2]
        exact ⟨_, _, rfl, hv, hx.1, hbl⟩
      · obtain ⟨k, rfl⟩ : ∃ k, i = k + 1 := ⟨i - 1, by omega⟩
        rw [show (((k + 1 : Nat) : Int) - 1) = (k : Int) by omega]
        have hk0 : (0 : Int) ≤ (k : Int) := by omega
        have hk1 : (k : Int) ≤ 10000000 := by omega
        have HXB := bx (show Bd j x from HJ.out.1.le HI.out.2.2.2.2.2.2.1)
        have HYB := bx (show Bd (2 * j + 1) y from HY.out.le HI.out.2.2.2.2.2.2.2)
        have hql : k / 32 < qs.length := by have := HI.out.2.2.2.2.2.1; omega
        rcases Nat.lt_or_ge x y with hxy | hxy
        · obtain ⟨zc, hzc, hz0⟩ := cmpI_lt' hxy
          have HZ := bx hzc
          have HI2 := bx (HI.out.no hxy)
          clear hzc hxy HI hql
          go_wp2_with fail
          have hc := order_num wr _ _ x y hx.1 hy.1
          rw [HZ.out] at hc
          refine Calls.mono hc ?_
          clear hc
          rintro e w3 ⟨rfl, hb3⟩
          have hx := hx.below hb3
          have hy := hy.below hb3
          have hr := hr.keep hb3
          have hbl := hbl.trans (hb3.mono hbl.size)
          clear hb3
          go_wp2_with fail
          refine Calls.mono (halved_numG w3 _ y hy.1 HYB.out (by omega)) ?_
          rintro e w4 ⟨g4, L4, c4, hg4, rfl, h4, hb4⟩
          have hlt4 : wc.heap.size < g4 := by have := hr.lt; omega
          go_wp2
          go_roundw
          case rel => exact ⟨k, x, y / 2, Q, qs, by omega, by go_num, hx.below hb4, NumN.new h4 hlt4, HI2, hwq, hr.keep hb4, hbl.trans (hb4.mono hbl.size)⟩
          case measure => simp [intOf]
        · obtain ⟨zc, hzc, hz0⟩ := cmpI_ge hxy
          have HZ := bx hzc
          have HGE := bx hxy
          clear hzc hxy
          go_wp2_with fail
          have hc := order_num wr _ _ x y hx.1 hy.1
          rw [HZ.out] at hc
          refine Calls.mono hc ?_
          clear hc
          rintro e w3 ⟨rfl, hb3⟩
          have hx := hx.below hb3
          have hy := hy.below hb3
          have hr := hr.keep hb3
          have hbl := hbl.trans (hb3.mono hbl.size)
          clear hb3
          go_wp2_with fail
          refine Calls.mono (difference_numG w3 _ _ x y hx.1 hy.1 HGE.out HXB.out (by omega)) ?_
          rintro e w4 ⟨g4, L4, c4, hg4, rfl, h4, hb4⟩
          have hlt4 : wc.heap.size < g4 := by have := hr.lt; omega
          have hx := NumN.new h4 hlt4
          have hy := hy.below hb4
          have hr := hr.keep hb4
          have hbl := hbl.trans (hb4.mono hbl.size)
          clear hb4 h4 hg4 hlt4
          obtain ⟨vq, hcq, HVQ⟩ := hr.get (i := k / 32) hql
          have hcf := hr.frozen (k / 32)
          obtain ⟨hroom, hi2⟩ := HI.out.yes hwq HVQ.out HGE.out
          have HI2 := bx hi2
          have HB := bx (bit_eq hroom)
          have HR := bx hroom
          clear hi2 hroom
          go_wp2_with fail
          rw [HB.out]
          have hx := hx.set (k / 32) (.int .u32 ((vq + 2 ^ (k % 32) : Nat) : Int))
          have hy := hy.set (k / 32) (.int .u32 ((vq + 2 ^ (k % 32) : Nat) : Int))
          have hr := hr.set (k / 32) (vq + 2 ^ (k % 32))
          have hbl := hbl.setCell (p := ⟨wc.heap.size, k / 32, none⟩) (Nat.le_refl _) (.int .u32 ((vq + 2 ^ (k % 32) : Nat) : Int))
          have hwq := hwq.set (i := k / 32) (x := vq + 2 ^ (k % 32)) (by have := HR.out; unfold b32; omega)
          clear hcq hcf
          generalize w4.setCell ⟨wc.heap.size, k / 32, none⟩ (.int .u32 ((vq + 2 ^ (k % 32) : Nat) : Int)) = w5 at *
          refine Calls.mono (halved_numG w5 _ y hy.1 HYB.out (by omega)) ?_
          rintro e w6 ⟨g6, L6, c6, hg6, rfl, h6, hb6⟩
          have hlt6 : wc.heap.size < g6 := by have := hr.lt; omega
          go_wp2
          go_roundw
          case rel => exact ⟨k, x - y, y / 2, _, _, by omega, by go_num, hx.below hb6, NumN.new h6 hlt6, HI2, hwq, hr.keep hb6, hbl.trans (hb6.mono hbl.size)⟩
          case measure => simp [intOf]
theorem quotient_num (w : World) (v1 v2 : Value) (m n : Nat) (h1 : Num .u32 b32 w v1 m) (h2 : Num .u32 b32 w v2 n) (h0 : 0 < n) {j : Nat} (hj : Bd j m) (hk : Bd j n) (hj1 : j ≤ 10000000) :
    Calls Tryz.prog 99 #[v1, v2] w (RetQuot w (m / n) (m % n)) := by
  by_cases hl : (digs b32 n).length = 1
  · exact quot_one w v1 v2 m n h1 h2 hl hj (by omega)
  · rcases Nat.lt_or_ge (nbits m) (nbits n) with h | h
    · exact quot_less w v1 v2 m n h1 h2 hl hj hk (by omega) h
    · exact quot_long w v1 v2 m n (nbits m - nbits n) h1 h2 hl h0 hj hk hj1 (by omega)
end Wx
