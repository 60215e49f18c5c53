import Derived.Test.YtlomlheajdgdoaaGreatProg
import Derived.Test.YtlomlheajdgdoaaGreatJFloats0
import Derived.Test.YtlomlheajdgdoaaGreatCFloatsMem
import Derived.Test.YtlomlheajdgdoaaGreatJFloats2
import Derived.Deep.QuietTactic
import Derived.BigQuiet
namespace Wx
open Go Go.RowKit Go.Proofs

def b32 : Nat := 4294967296
theorem b32_pow : b32 = 2 ^ 32 := by unfold b32; decide
theorem two_le_b32 : 2 ≤ b32 := by unfold b32; omega
theorem len32 {k n : Nat} (h : Bd k n) : (digs b32 n).length ≤ k / 32 + 1 := by rw [b32_pow]; exact h.digs (by omega)
theorem i32row : (Tryz.prog.info? 49).map (fun i => (i.zero, i.size, decide (i.bytes ≤ 8))) = some (some (.int .u32 0), 1, true) := by kernel_rfl
theorem ncut_any (w : World) (A : Option Addr) (c : Nat) (l : List Nat) (h : Rd w .u32 A c l) :
    Calls Tryz.prog 100 #[.slice A l.length c] w (CutPost w A c l) := by
  obtain ⟨hl, hm, hcell⟩ := h
  unfold maxLen at hm
  go_enter Tryz.func100, Tryz.ntmps100
  go_wp2
  go_loop [3] (fun v => ∃ n : Nat, n ≤ l.length ∧ v = .int .i64 n ∧ (∀ b, val b (l.take n) = val b l)) (fun v => (intOf v).toNat)
  case atStart => exact ⟨l.length, Nat.le_refl _, rfl, fun b => by rw [List.take_length]⟩
  case round =>
    obtain ⟨n, hn, rfl, hv⟩ := hrel
    have HV := Lib.hid hv
    clear hv
    rcases Nat.eq_zero_or_pos n with rfl | hpos
    · go_wp2
      go_ret
      exact ⟨0, hn, rfl, rfl, Top.nil, HV.out⟩
    · obtain ⟨b, o, rfl, hc⟩ := hcell (by rintro rfl; simp at hn; omega)
      have hc1 := hc (n - 1) (by omega)
      clear hc hcell
      obtain ⟨x, hx⟩ : ∃ x, x = l.getD (n - 1) 0 := ⟨_, rfl⟩
      rw [← hx] at hc1
      have HX := Lib.hid hx
      clear hx
      obtain ⟨k, rfl⟩ : ∃ k, n = k + 1 := ⟨n - 1, by omega⟩
      rw [Nat.add_sub_cancel] at hc1 HX
      rcases Nat.eq_zero_or_pos x with rfl | h0
      · go_wp2
        go_round
        case rel => exact ⟨k, by omega, by go_num, fun b => by rw [step_zero (by omega) HX.out.symm]; exact HV.out b⟩
        case measure => simp [intOf]
      · have h0' : ((x : Int) == 0) = false := beq_eq_false_iff_ne.2 (by omega)
        go_wp2
        go_ret
        exact ⟨k + 1, hn, rfl, rfl, top_of (l := l) (n := k) (by omega) (by have := HX.out; omega), HV.out⟩
theorem ncut_num (w : World) (A : Option Addr) (c : Nat) (l : List Nat) (n : Nat) (h : Rd w .u32 A c l) (hw : Wf b32 l) (L : Nat) (hL : l.length = L) (hn : val b32 l = n) :
    Calls Tryz.prog 100 #[.slice A L c] w (SameNum .u32 b32 w n) := by
  subst hL
  refine (ncut_any w A c l h).mono fun e w' ⟨k, hk, he, hw', ht, hv⟩ => ⟨hw', _, he, ?_⟩
  rw [← hn, ← hv b32]
  exact Num.of two_le_b32 (h.take k) (by rw [List.length_take]; omega) (hw.take k) ht

def RetNumG (w : World) (n : Nat) (e : Ending) (w' : World) : Prop := ∃ g L c, w.heap.size ≤ g ∧ e = .returned (.slice (some ⟨g, 0, none⟩) L c) ∧ Num .u32 b32 w' (.slice (some ⟨g, 0, none⟩) L c) n ∧ Below w.heap.size w w'
theorem RetNumG.num {w : World} {n : Nat} {e : Ending} {w' : World} (h : RetNumG w n e w') : RetNum .u32 b32 w n e w' := by
  obtain ⟨g, L, c, _, he, hn, hb⟩ := h
  exact ⟨_, he, hn, hb⟩
theorem ncut_numA (w : World) (A : Option Addr) (c : Nat) (l : List Nat) (n : Nat) (h : Rd w .u32 A c l) (hw : Wf b32 l) (L : Nat) (hL : l.length = L) (hn : val b32 l = n) :
    Calls Tryz.prog 100 #[.slice A L c] w (fun e w' => w = w' ∧ ∃ k, e = .returned (.slice A k c) ∧ Num .u32 b32 w (.slice A k c) n) := by
  subst hL
  refine (ncut_any w A c l h).mono fun e w' ⟨k, hk, he, hw', ht, hv⟩ => ⟨hw', _, he, ?_⟩
  rw [← hn, ← hv b32]
  exact Num.of two_le_b32 (h.take k) (by rw [List.length_take]; omega) (hw.take k) ht

theorem nat_num (w : World) (n : Nat) (hn : n < b64) : Calls Tryz.prog 59 #[.int .u64 (n : Int)] w (RetNum .u32 b32 w n) := by
  have e1 : (n : Int) % 4294967296 = ((n % b32 : Nat) : Int) := by unfold b32; omega
  have e2 : IntKind.u64.wrap ((n : Int) / 4294967296) % 4294967296 = ((n / b32 : Nat) : Int) := by
    unfold b64 at hn
    rw [wrap_u64 (by omega) (by omega)]; unfold b32; omega
  have hw : Wf b32 [n % b32, n / b32] := Wf.cons (Nat.mod_lt _ (by unfold b32; omega)) (Wf.cons (by unfold b32; unfold b64 at hn; omega) (Wf.nil _))
  have hv : val b32 [n % b32, n / b32] = n := by simp [val]; exact Nat.mod_add_div _ _
  have E1 := Lib.hid e1
  have E2 := Lib.hid e2
  have HV := Lib.hid hv
  clear e1 e2 hv hn
  go_enter Tryz.func59, Tryz.ntmps59
  go_wp2_with fail
  rw [E1.out, E2.out]
  have hR : Row (w.alloc (.cells #[.int .u32 ((n % b32 : Nat) : Int), .int .u32 ((n / b32 : Nat) : Int)] 49)) .u32 49 w.heap.size [n % b32, n / b32] := Row.new w .u32 49 [n % b32, n / b32]
  refine (ncut_num _ _ _ [n % b32, n / b32] n (hR.rd_all (Nat.le_refl _) (by simp [maxLen])) hw _ rfl HV.out).mono ?_
  rintro e w' ⟨rfl, v, rfl, hv⟩
  go_wp2
  go_ret
  exact ⟨v, rfl, hv, (Below.refl _ _).alloc (Nat.le_refl _) _⟩
end Wx

namespace Wx
open Go Go.RowKit Go.Proofs

set_option maxHeartbeats 400000 in
theorem order_dr (w : World) (v1 v2 : Value) (m n : Nat) (h1 : Num .u32 b32 w v1 m) (h2 : Num .u32 b32 w v2 n) :
    Calls Tryz.prog 98 #[v1, v2] w (RetDr w (.int .i64 (cmpI m n))) := by
  obtain ⟨A, c, rfl, ha⟩ := h1
  obtain ⟨B, d, rfl, hb⟩ := h2
  have hla := ha.len
  have hlb := hb.len
  by_cases hlt : (digs b32 m).length < (digs b32 n).length
  · have hmn := val_lt_of_length two_le_b32 hlt
    have e : cmpI m n = -1 := by unfold cmpI; rw [if_pos hmn]
    rw [e]
    go_enter Tryz.func98, Tryz.ntmps98
    go_wp2
    all_goals (go_ret; exact ⟨rfl, 0, rfl⟩)
  · by_cases hgt : (digs b32 n).length < (digs b32 m).length
    · have hmn := val_lt_of_length two_le_b32 hgt
      have e : cmpI m n = 1 := by unfold cmpI; rw [if_neg (by omega), if_pos hmn]
      rw [e]
      go_enter Tryz.func98, Tryz.ntmps98
      go_wp2
      all_goals (go_ret; exact ⟨rfl, 0, rfl⟩)
    · have hll : (digs b32 m).length = (digs b32 n).length := by omega
      have wa := digs_wf two_le_b32 m
      have wb := digs_wf two_le_b32 n
      have va := val_digs two_le_b32 m
      have vb := val_digs two_le_b32 n
      generalize digs b32 m = a at *
      generalize digs b32 n = b at *
      rw [← hll] at hlb ⊢
      have HL := Lib.hid hll
      have VA := Lib.hid va
      have VB := Lib.hid vb
      clear hll va vb hlt hgt hlb
      go_enter Tryz.func98, Tryz.ntmps98
      go_wp2
      go_loopw [5] (fun s5 wr => ∃ i : Nat, i ≤ a.length ∧ s5 = .int .i64 ((i : Int) - 1) ∧ a.drop i = b.drop i ∧ ∃ q, wr = w.drewN q)
        (fun s5 _ => (intOf s5 + 1).toNat)
      case atStart => exact ⟨a.length, Nat.le_refl _, rfl, by rw [List.drop_of_length_le (Nat.le_refl _), List.drop_of_length_le (by have := HL.out; omega)], 0, rfl⟩
      case round =>
        obtain ⟨i, hi, rfl, hd, q, rfl⟩ := hrel
        have HD := Lib.hid hd
        clear hd
        rcases Nat.eq_zero_or_pos i with rfl | hpos
        · rw [show (((0 : Nat) : Int) - 1) = -1 by omega]
          have : a = b := by simpa using HD.out
          have e : m = n := by rw [← VA.out, ← VB.out, this]
          have e0 : cmpI m n = 0 := by unfold cmpI; rw [if_neg (by omega), if_neg (by omega)]
          have E0 := Lib.hid e0
          clear e e0 this
          go_wp2
          go_ret
          exact ⟨ret_int E0.out.symm, _, rfl⟩
        · obtain ⟨j, rfl⟩ : ∃ j, i = j + 1 := ⟨i - 1, by omega⟩
          obtain ⟨b1, o1, x, rfl, hcx, HX⟩ := ha.get (i := j) (by omega)
          obtain ⟨b2, o2, y, rfl, hcy, HY⟩ := hb.get (i := j) (by have := HL.out; omega)
          rw [show (((j + 1 : Nat) : Int) - 1) = (j : Int) by omega]
          have hj0 : (0 : Int) ≤ (j : Int) := by omega
          have hj1 : (j : Int) < (a.length : Int) := by omega
          rcases Nat.lt_trichotomy x y with hxy | hxy | hxy
          · have hxy' : (x : Int) < (y : Int) := by omega
            have hmn : m < n := by
              rw [← VA.out, ← VB.out]
              exact val_lt_get wa HX.out HY.out HD.out hxy
            have E0 : Hid (cmpI m n = -1) := by show cmpI m n = -1; unfold cmpI; rw [if_pos hmn]
            clear hmn
            go_wp2
            go_quiet (fail)
            go_wp2
            go_ret
            exact ⟨ret_int E0.out.symm, _, World.drewN_drewN _ _ _⟩
          · subst hxy
            go_wp2
            go_quiet (fail)
            go_wp2
            go_quiet (fail)
            go_wp2
            go_roundw
            case rel => exact ⟨j, by omega, by go_num, drop_get HX.out HY.out HD.out, _, rfl⟩
            case measure => simp [intOf]
          · have hxy' : (y : Int) < (x : Int) := by omega
            have hmn : n < m := by
              rw [← VA.out, ← VB.out]
              exact val_lt_get wb HY.out HX.out HD.out.symm hxy
            have E0 : Hid (cmpI m n = 1) := by show cmpI m n = 1; unfold cmpI; rw [if_neg (by omega), if_pos hmn]
            clear hmn
            go_wp2
            go_quiet (fail)
            go_wp2
            go_quiet (fail)
            go_wp2
            go_ret
            exact ⟨ret_int E0.out.symm, _, (World.drewN_drewN _ _ _).trans (World.drewN_drewN _ _ _)⟩
theorem order_num (w : World) (v1 v2 : Value) (m n : Nat) (h1 : Num .u32 b32 w v1 m) (h2 : Num .u32 b32 w v2 n) :
    Calls Tryz.prog 98 #[v1, v2] w (RetIs w (.int .i64 (cmpI m n))) := (order_dr w v1 v2 m n h1 h2).mono fun _ _ h => h.is
end Wx

namespace Wx
open Go Go.RowKit Go.Proofs

theorem u32_val {x : Nat} (h : x < b32) : (x : Int) ≤ 4294967295 := by unfold b32 at h; omega

end Wx

namespace Wx
set_option maxRecDepth 100000
open Go Go.RowKit Go.Proofs

theorem ndiff_round {x y o : List Nat} {i br vx vy s t L g : Nat} {wr w0 : World} (hol : o.length = i) (hlt : i < L) (hwo : Wf b32 o) (hs : s + vy + br = vx + b32 * t) (hsl : s < b32)
    (hx : x.getD i 0 = vx) (hy : y.getD i 0 = vy) (hr : Row wr .u32 49 g (o ++ List.replicate (L - i) 0)) (hbl : Below w0.heap.size w0 wr) (hg : w0.heap.size ≤ g)
    (hval : val b32 o + val b32 (y.take i) = val b32 (x.take i) + b32 ^ i * br) :
    ∃ (o' : List Nat), o'.length = i + 1 ∧ Wf b32 o' ∧
      Row (wr.setCell ⟨g, i, none⟩ (.int .u32 (s : Int))) .u32 49 g (o' ++ List.replicate (L - (i + 1)) 0) ∧
      Below w0.heap.size w0 (wr.setCell ⟨g, i, none⟩ (.int .u32 (s : Int))) ∧ val b32 o' + val b32 (y.take (i + 1)) = val b32 (x.take (i + 1)) + b32 ^ (i + 1) * t := by
  refine ⟨o ++ [s], by simp [hol], hwo.append (Wf.cons hsl (Wf.nil _)), ?_, hbl.setCell hg _, ?_⟩
  · have h := hr.set i s
    rw [show L - i = (L - (i + 1)) + 1 by omega, List.replicate_succ, set_mid hol] at h
    rw [List.append_assoc]
    exact h
  · exact dif_step hol hval (by rw [get_or_zero, hx]) (by rw [get_or_zero, hy]) hs
theorem ndiff_end {b : Nat} {x y o : List Nat} {br m n : Nat} (hwo : Wf b o) (hol : o.length = x.length) (hly : y.length ≤ x.length) (hval : val b o + val b (y.take x.length) = val b (x.take x.length) + b ^ x.length * br)
    (hm : val b x = m) (hn : val b y = n) (hnm : n ≤ m) : val b o = m - n := by
  rw [List.take_of_length_le (Nat.le_refl _), List.take_of_length_le hly, hm, hn] at hval
  have hlt := val_lt hwo
  rw [hol] at hlt
  rcases Nat.eq_zero_or_pos br with rfl | hb
  · omega
  · have h5 : b ^ x.length ≤ b ^ x.length * br := Nat.le_mul_of_pos_right _ hb
    omega

set_option maxHeartbeats 1000000 in
theorem difference_numG (w : World) (v1 v2 : Value) (m n : Nat) (h1 : Num .u32 b32 w v1 m) (h2 : Num .u32 b32 w v2 n) (hnm : n ≤ m) {j : Nat} (hj : Bd j m) (hj1 : j ≤ 1000000000) :
    Calls Tryz.prog 124 #[v1, v2] w (RetNumG w (m - n)) := by
  obtain ⟨X, cx, rfl, hx⟩ := h1
  obtain ⟨Y, cy, rfl, hy⟩ := h2
  have hla := len32 hj
  have hyx : (digs b32 n).length ≤ (digs b32 m).length := by
    rcases Nat.lt_or_ge (digs b32 m).length (digs b32 n).length with h | h
    · have := val_lt_of_length two_le_b32 h; omega
    · exact h
  have wx := digs_wf two_le_b32 m
  have wy := digs_wf two_le_b32 n
  have hvx := val_digs two_le_b32 m
  have hvy := val_digs two_le_b32 n
  clear hj
  generalize digs b32 m = x at *
  generalize digs b32 n = y at *
  have hlx : x.length ≤ 1000000000 := by omega
  clear hla
  have HX := Lib.hid hvx
  have HY := Lib.hid hvy
  clear hvx hvy
  go_enter Tryz.func124, Tryz.ntmps124
  go_wp2_with (at_make; refine wpList_mk _ rfl _ _ _ rfl .u32 49 Tryz.underlying31 i32row _ _ rfl rfl (by omega) (by omega) (by omega) ?_; intro w1 hrow hbel hsz)
  rw [Int.toNat_natCast] at hrow
  go_loopw [6, 7] (fun s6 s7 wr => ∃ (i br : Nat) (o : List Nat), i ≤ x.length ∧ s7 = .int .i64 i ∧ s6 = .int .u64 br ∧ br ≤ 1 ∧ o.length = i ∧ Wf b32 o ∧ Row wr .u32 49 w.heap.size (o ++ List.replicate (x.length - i) 0) ∧ Below w.heap.size w wr ∧ val b32 o + val b32 (y.take i) = val b32 (x.take i) + b32 ^ i * br)
    (fun _ s7 _ => x.length - (intOf s7).toNat)
  case atStart => exact ⟨0, 0, [], by omega, rfl, rfl, by omega, rfl, Wf.nil _, by simpa using hrow, hbel, by simp [val]⟩
  case round =>
    obtain ⟨i, br, o, hi, rfl, rfl, hcr, hol, hwo, hr, hbl, hval⟩ := hrel
    have HVAL := Lib.hid hval
    have HOL := Lib.hid hol
    clear hval hol hrow hbel hsz
    by_cases hlt : i < x.length
    · obtain ⟨bx, ox, vx, rfl, hcx, HVX⟩ := (hx.below hbl).get hlt
      have hvx := u32_val (wx _ (List.mem_of_getElem? HVX.out))
      obtain ⟨vo, hco, HVO⟩ := hr.get (i := i) (by have := HOL.out; simp; omega)
      have hcf := hr.frozen i
      have hi0 : (0 : Int) ≤ (i : Int) := by omega
      have hi1 : (i : Int) < (x.length : Int) := by omega
      by_cases hy1 : i < y.length
      · obtain ⟨by_, oy, vy, rfl, hcy, HVY⟩ := (hy.below hbl).get hy1
        have hvy := u32_val (wy _ (List.mem_of_getElem? HVY.out))
        by_cases hlt2 : vx < br + vy
        · skip
          have hlt3 : (vx : Int) < (br : Int) + (vy : Int) := by omega
          have E := Lib.hid (show ((vx : Int) + 4294967296 - ((br : Int) + (vy : Int))) = (((vx + 4294967296 - (br + vy)) : Nat) : Int) by omega)
          have hw0 : (0 : Int) ≤ (vx : Int) + 4294967296 - ((br : Int) + (vy : Int)) := by omega
          go_wp2
          go_roundw
          case rel =>
            obtain ⟨o', r⟩ := ndiff_round (vx := vx) (vy := vy) (s := (vx + 4294967296 - (br + vy))) (t := 1) HOL.out hlt hwo (by unfold b32; omega) (by unfold b32; omega) (by rw [List.getD_eq_getElem?_getD, HVX.out]; rfl) (by rw [List.getD_eq_getElem?_getD, HVY.out]; rfl) hr hbl (Nat.le_refl _) HVAL.out
            rw [E.out]
            exact ⟨i + 1, 1, o', by omega, by go_num, rfl, by omega, r⟩
          case measure => simp [intOf]; omega
        · skip
          have hlt3 : ¬ ((vx : Int) < (br : Int) + (vy : Int)) := by omega
          have E := Lib.hid (show ((vx : Int) - ((br : Int) + (vy : Int))) = (((vx - (br + vy)) : Nat) : Int) by omega)
          have hw0 : (0 : Int) ≤ (vx : Int) - ((br : Int) + (vy : Int)) := by omega
          go_wp2
          go_roundw
          case rel =>
            obtain ⟨o', r⟩ := ndiff_round (vx := vx) (vy := vy) (s := (vx - (br + vy))) (t := 0) HOL.out hlt hwo (by unfold b32; omega) (by unfold b32; omega) (by rw [List.getD_eq_getElem?_getD, HVX.out]; rfl) (by rw [List.getD_eq_getElem?_getD, HVY.out]; rfl) hr hbl (Nat.le_refl _) HVAL.out
            rw [E.out]
            exact ⟨i + 1, 0, o', by omega, by go_num, rfl, by omega, r⟩
          case measure => simp [intOf]; omega
      · by_cases hlt2 : vx < br
        · skip
          have hlt3 : (vx : Int) < (br : Int) := by omega
          have E := Lib.hid (show ((vx : Int) + 4294967296 - (br : Int)) = (((vx + 4294967296 - (br + 0)) : Nat) : Int) by omega)
          have hw0 : (0 : Int) ≤ (vx : Int) + 4294967296 - (br : Int) := by omega
          go_wp2
          go_roundw
          case rel =>
            obtain ⟨o', r⟩ := ndiff_round (vx := vx) (vy := 0) (s := (vx + 4294967296 - (br + 0))) (t := 1) HOL.out hlt hwo (by unfold b32; omega) (by unfold b32; omega) (by rw [List.getD_eq_getElem?_getD, HVX.out]; rfl) (by rw [List.getD_eq_getElem?_getD, List.getElem?_eq_none (by omega)]; rfl) hr hbl (Nat.le_refl _) HVAL.out
            rw [E.out]
            exact ⟨i + 1, 1, o', by omega, by go_num, rfl, by omega, r⟩
          case measure => simp [intOf]; omega
        · skip
          have hlt3 : ¬ ((vx : Int) < (br : Int)) := by omega
          have E := Lib.hid (show ((vx : Int) - (br : Int)) = (((vx - (br + 0)) : Nat) : Int) by omega)
          have hw0 : (0 : Int) ≤ (vx : Int) - (br : Int) := by omega
          go_wp2
          go_roundw
          case rel =>
            obtain ⟨o', r⟩ := ndiff_round (vx := vx) (vy := 0) (s := (vx - (br + 0))) (t := 0) HOL.out hlt hwo (by unfold b32; omega) (by unfold b32; omega) (by rw [List.getD_eq_getElem?_getD, HVX.out]; rfl) (by rw [List.getD_eq_getElem?_getD, List.getElem?_eq_none (by omega)]; rfl) hr hbl (Nat.le_refl _) HVAL.out
            rw [E.out]
            exact ⟨i + 1, 0, o', by omega, by go_num, rfl, by omega, r⟩
          case measure => simp [intOf]; omega
    · obtain rfl : i = x.length := by omega
      have HF := Lib.hid (ndiff_end hwo HOL.out hyx HVAL.out HX.out HY.out hnm)
      rw [Nat.sub_self, List.replicate_zero, List.append_nil] at hr
      have hrd := hr.rd_all (c := x.length) (by have := HOL.out; omega) (by unfold maxLen; omega)
      go_wp2_with fail
      refine (ncut_numA _ _ _ o (m - n) hrd hwo _ HOL.out HF.out).mono ?_
      rintro e w' ⟨rfl, kn, rfl, hv⟩
      go_wp2
      go_ret
      exact ⟨_, _, _, Nat.le_refl _, rfl, hv, hbl⟩
end Wx
