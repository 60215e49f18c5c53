import Derived.Test.YtlomlheajdgdoaaGreatProg
import Derived.Test.YtlomlheajdgdoaaGreatJFloats0
import Derived.Test.YtlomlheajdgdoaaGreatCFloatsMem
import Derived.Deep.QuietTactic
import Derived.BigQuiet
namespace Wx
open Go Go.RowKit Go.Proofs

def CutPost (w : World) (A : Option Addr) (c : Nat) (l : List Nat) (e : Ending) (w' : World) : Prop :=
  ∃ n, n ≤ l.length ∧ e = .returned (.slice A n c) ∧ w = w' ∧ Top (l.take n) ∧ (∀ b, val b (l.take n) = val b l)

theorem step_zero {l : List Nat} {n : Nat} (hn : n < l.length) (h0 : l.getD n 0 = 0) (b : Nat) : val b (l.take n) = val b (l.take (n + 1)) := by
  rw [val_take_succ b l n hn]
  rw [List.getD_eq_getElem?_getD, List.getElem?_eq_getElem hn] at h0
  simp at h0
  simp [h0]
theorem top_of {l : List Nat} {n : Nat} (hn : n < l.length) (h0 : l.getD n 0 ≠ 0) : Top (l.take (n + 1)) := by
  unfold Top
  rw [List.take_succ_eq_append_getElem hn]
  rw [List.getD_eq_getElem?_getD, List.getElem?_eq_getElem hn] at h0
  simp at h0
  rw [List.getLast?_concat]; simpa using h0

theorem cut_any (w : World) (A : Option Addr) (c : Nat) (l : List Nat) (h : Rd w .u64 A c l) :
    Calls Tryz.prog 106 #[.slice A l.length c] w (CutPost w A c l) := by
  obtain ⟨hl, hm, hcell⟩ := h
  unfold maxLen at hm
  go_enter Tryz.func106, Tryz.ntmps106
  go_wp2
  go_loop [0] (fun v => ∃ n : Nat, n ≤ l.length ∧ v = .slice A n c ∧ (∀ b, val b (l.take n) = val b l)) (fun v => vlen v)
  case atStart => exact ⟨l.length, Nat.le_refl _, rfl, fun b => by rw [List.take_length]⟩
  case round =>
    obtain ⟨n, hn, rfl, hv⟩ := hrel
    have HV := Lib.hid hv
    clear hv
    rcases Nat.eq_zero_or_pos n with rfl | hpos
    · go_wp2
      go_ret
      exact ⟨0, hn, rfl, rfl, Top.nil, HV.out⟩
    · obtain ⟨b, o, rfl, hc⟩ := hcell (by rintro rfl; simp at hn; omega)
      have hc1 := hc (n - 1) (by omega)
      clear hc hcell
      obtain ⟨x, hx⟩ : ∃ x, x = l.getD (n - 1) 0 := ⟨_, rfl⟩
      rw [← hx] at hc1
      have HX := Lib.hid hx
      clear hx
      rcases Nat.eq_zero_or_pos x with rfl | h0
      · go_wp2
        go_round
        case rel => exact ⟨n - 1, by omega, rfl, fun b => by rw [step_zero (by omega) HX.out.symm, show n - 1 + 1 = n by omega, HV.out]⟩
        case measure => simp [vlen]; omega
      · go_wp2
        go_ret
        exact ⟨n, hn, rfl, rfl, by have := top_of (l := l) (n := n - 1) (by omega) (by have := HX.out; omega); rwa [show n - 1 + 1 = n by omega] at this, HV.out⟩

def b64 : Nat := 18446744073709551616
theorem b64_pow : b64 = 2 ^ 64 := by unfold b64; decide
theorem two_le_b64 : 2 ≤ b64 := by unfold b64; omega
theorem len64 {k n : Nat} (h : Bd k n) : (digs b64 n).length ≤ k / 64 + 1 := by rw [b64_pow]; exact h.digs (by omega)
theorem i64row : (Tryz.prog.info? 44).map (fun i => (i.zero, i.size, decide (i.bytes ≤ 8))) = some (some (.int .u64 0), 1, true) := by kernel_rfl

theorem cut_num (w : World) (A : Option Addr) (c : Nat) (l : List Nat) (n : Nat) (h : Rd w .u64 A c l) (hw : Wf b64 l) (L : Nat) (hL : l.length = L) (hn : val b64 l = n) :
    Calls Tryz.prog 106 #[.slice A L c] w (SameNum .u64 b64 w n) := by
  subst hL
  refine (cut_any w A c l h).mono fun e w' ⟨k, hk, he, hw', ht, hv⟩ => ⟨hw', _, he, ?_⟩
  rw [← hn, ← hv b64]
  exact Num.of two_le_b64 (h.take k) (by rw [List.length_take]; omega) (hw.take k) ht
end Wx

namespace Wx
open Go Go.RowKit Go.Proofs

theorem word_num (w : World) (n : Nat) (hn : n < b64) : Calls Tryz.prog 71 #[.int .u64 (n : Int)] w (RetNum .u64 b64 w n) := by
  go_enter Tryz.func71, Tryz.ntmps71
  go_wp2_with fail
  have hR : Row (w.alloc (.cells #[.int .u64 (n : Int)] 44)) .u64 44 w.heap.size [n] := Row.new w .u64 44 [n]
  refine (cut_num _ _ _ [n] n (hR.rd_all (Nat.le_refl _) (by simp [maxLen])) (Wf.cons hn (Wf.nil _)) _ rfl (by simp [val])).mono ?_
  rintro e w' ⟨rfl, v, rfl, hv⟩
  go_wp2
  go_ret
  exact ⟨v, rfl, hv, (Below.refl _ _).alloc (Nat.le_refl _) _⟩

theorem isOne_num (w : World) (v : Value) (n : Nat) (h : Num .u64 b64 w v n) : Calls Tryz.prog 102 #[v] w fun e w' => e = .returned (.bool (decide (n = 1))) ∧ w = w' := by
  obtain ⟨A, c, rfl, ha⟩ := h
  have hla := ha.len
  by_cases h1 : (digs b64 n).length = 1
  · obtain ⟨b, o, x, rfl, hc, HX⟩ := ha.get (i := 0) (by omega)
    have hn : digs b64 n = [x] := by
      have hx := HX.out
      match hd : digs b64 n, h1, hx with
      | [y], _, hx => simp at hx; rw [hx]
    have hnx : n = x := by have := val_digs two_le_b64 n; rw [hn] at this; simpa [val] using this.symm
    rw [h1]
    rw [Nat.add_zero] at hc
    subst hnx
    have HN := Lib.hid hn
    clear hn h1 HX ha hla
    go_enter Tryz.func102, Tryz.ntmps102
    by_cases hn1 : n = 1
    · subst hn1
      go_wp2
      go_ret
      exact ⟨rfl, rfl⟩
    · have hb : (((n : Nat) : Int) == 1) = false := by simp; omega
      have hd : decide (n = 1) = false := by simp [hn1]
      rw [hd]
      go_wp2
      go_ret
      exact ⟨rfl, rfl⟩
  · have hd : decide (n = 1) = false := by
      simp
      rintro rfl
      exact h1 (by rw [digs_small two_le_b64 (by omega) (by unfold b64; omega)]; rfl)
    rw [hd]
    generalize (digs b64 n).length = L at *
    have hb : ((L : Int) == 1) = false := by simp; omega
    go_enter Tryz.func102, Tryz.ntmps102
    go_wp2
    go_ret
    exact ⟨rfl, rfl⟩

def cmpI (m n : Nat) : Int := if m < n then -1 else if n < m then 1 else 0

set_option maxHeartbeats 400000 in
theorem cmp_dr (w : World) (v1 v2 : Value) (m n : Nat) (h1 : Num .u64 b64 w v1 m) (h2 : Num .u64 b64 w v2 n) :
    Calls Tryz.prog 121 #[v1, v2] w (RetDr w (.int .i64 (cmpI m n))) := by
  obtain ⟨A, c, rfl, ha⟩ := h1
  obtain ⟨B, d, rfl, hb⟩ := h2
  have hla := ha.len
  have hlb := hb.len
  by_cases hlt : (digs b64 m).length < (digs b64 n).length
  · have hmn := val_lt_of_length two_le_b64 hlt
    have e : cmpI m n = -1 := by unfold cmpI; rw [if_pos hmn]
    rw [e]
    go_enter Tryz.func121, Tryz.ntmps121
    go_wp2
    all_goals (go_ret; exact ⟨rfl, 0, rfl⟩)
  · by_cases hgt : (digs b64 n).length < (digs b64 m).length
    · have hmn := val_lt_of_length two_le_b64 hgt
      have e : cmpI m n = 1 := by unfold cmpI; rw [if_neg (by omega), if_pos hmn]
      rw [e]
      go_enter Tryz.func121, Tryz.ntmps121
      go_wp2
      all_goals (go_ret; exact ⟨rfl, 0, rfl⟩)
    · have hll : (digs b64 m).length = (digs b64 n).length := by omega
      have wa := digs_wf two_le_b64 m
      have wb := digs_wf two_le_b64 n
      have va := val_digs two_le_b64 m
      have vb := val_digs two_le_b64 n
      generalize digs b64 m = a at *
      generalize digs b64 n = b at *
      rw [← hll] at hlb ⊢
      have HL := Lib.hid hll
      have VA := Lib.hid va
      have VB := Lib.hid vb
      clear hll va vb hlt hgt hlb
      go_enter Tryz.func121, Tryz.ntmps121
      go_wp2
      go_loopw [5] (fun s5 wr => ∃ i : Nat, i ≤ a.length ∧ s5 = .int .i64 ((i : Int) - 1) ∧ a.drop i = b.drop i ∧ ∃ q, wr = w.drewN q)
        (fun s5 _ => (intOf s5 + 1).toNat)
      case atStart => exact ⟨a.length, Nat.le_refl _, rfl, by rw [List.drop_of_length_le (Nat.le_refl _), List.drop_of_length_le (by have := HL.out; omega)], 0, rfl⟩
      case round =>
        obtain ⟨i, hi, rfl, hd, q, rfl⟩ := hrel
        have HD := Lib.hid hd
        clear hd
        rcases Nat.eq_zero_or_pos i with rfl | hpos
        · rw [show (((0 : Nat) : Int) - 1) = -1 by omega]
          have : a = b := by simpa using HD.out
          have e : m = n := by rw [← VA.out, ← VB.out, this]
          have e0 : cmpI m n = 0 := by unfold cmpI; rw [if_neg (by omega), if_neg (by omega)]
          have E0 := Lib.hid e0
          clear e e0 this
          go_wp2
          go_ret
          exact ⟨ret_int E0.out.symm, _, rfl⟩
        · obtain ⟨j, rfl⟩ : ∃ j, i = j + 1 := ⟨i - 1, by omega⟩
          obtain ⟨b1, o1, x, rfl, hcx, HX⟩ := ha.get (i := j) (by omega)
          obtain ⟨b2, o2, y, rfl, hcy, HY⟩ := hb.get (i := j) (by have := HL.out; omega)
          rw [show (((j + 1 : Nat) : Int) - 1) = (j : Int) by omega]
          have hj0 : (0 : Int) ≤ (j : Int) := by omega
          have hj1 : (j : Int) < (a.length : Int) := by omega
          rcases Nat.lt_trichotomy x y with hxy | hxy | hxy
          · have hxy' : (x : Int) < (y : Int) := by omega
            have hmn : m < n := by
              rw [← VA.out, ← VB.out]
              exact val_lt_get wa HX.out HY.out HD.out hxy
            have E0 : Hid (cmpI m n = -1) := by show cmpI m n = -1; unfold cmpI; rw [if_pos hmn]
            clear hmn
            go_wp2
            go_quiet (fail)
            go_wp2
            go_ret
            exact ⟨ret_int E0.out.symm, _, World.drewN_drewN _ _ _⟩
          · subst hxy
            go_wp2
            go_quiet (fail)
            go_wp2
            go_quiet (fail)
            go_wp2
            go_roundw
            case rel => exact ⟨j, by omega, by go_num, drop_get HX.out HY.out HD.out, _, rfl⟩
            case measure => simp [intOf]
          · have hxy' : (y : Int) < (x : Int) := by omega
            have hmn : n < m := by
              rw [← VA.out, ← VB.out]
              exact val_lt_get wb HY.out HX.out HD.out.symm hxy
            have E0 : Hid (cmpI m n = 1) := by show cmpI m n = 1; unfold cmpI; rw [if_neg (by omega), if_pos hmn]
            clear hmn
            go_wp2
            go_quiet (fail)
            go_wp2
            go_quiet (fail)
            go_wp2
            go_ret
            exact ⟨ret_int E0.out.symm, _, (World.drewN_drewN _ _ _).trans (World.drewN_drewN _ _ _)⟩
theorem cmp_num (w : World) (v1 v2 : Value) (m n : Nat) (h1 : Num .u64 b64 w v1 m) (h2 : Num .u64 b64 w v2 n) :
    Calls Tryz.prog 121 #[v1, v2] w (RetIs w (.int .i64 (cmpI m n))) := (cmp_dr w v1 v2 m n h1 h2).mono fun _ _ h => h.is
end Wx
