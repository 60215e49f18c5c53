import Derived.Test.YtioicklnneebnaaProg
import Derived.Test.YtioicklnneebnaaPlain1
import Derived.Test.YtioicklnneebnaaMem
import Derived.Test.YtioicklnneebnaaJParses3
import Derived.Deep.QuietTactic
import Derived.BigQuiet
namespace Wx
open Go Go.RowKit Go.Proofs

def b32 : Nat := 4294967296
theorem b32_pow : b32 = 2 ^ 32 := by unfold b32; decide
theorem two_le_b32 : 2 ≤ b32 := by unfold b32; omega
theorem len32 {k n : Nat} (h : Bd k n) : (digs b32 n).length ≤ k / 32 + 1 := by rw [b32_pow]; exact h.digs (by omega)
theorem i32row : (Try.prog.info? 79).map (fun i => (i.zero, i.size, decide (i.bytes ≤ 8))) = some (some (.int .u32 0), 1, true) := by kernel_rfl
theorem wrap_u32 {n : Int} (h0 : 0 ≤ n) (h1 : n < 4294967296) : IntKind.u32.wrap n = n := by
  unfold IntKind.wrap
  simp [IntKind.bits, IntKind.signed]
  omega

theorem ncut_any (w : World) (A : Option Addr) (c : Nat) (l : List Nat) (h : Rd w .u32 A c l) :
    Calls Try.prog 62 #[.slice A l.length c] w (CutPost w A c l) := by
  obtain ⟨hl, hm, hcell⟩ := h
  unfold maxLen at hm
  go_enter Try.func62, Try.ntmps62
  go_wp2
  go_loop [3] (fun v => ∃ n : Nat, n ≤ l.length ∧ v = .int .i64 n ∧ (∀ b, val b (l.take n) = val b l)) (fun v => (intOf v).toNat)
  case atStart => exact ⟨l.length, Nat.le_refl _, rfl, fun b => by rw [List.take_length]⟩
  case round =>
    obtain ⟨n, hn, rfl, hv⟩ := hrel
    have HV := Lib.hid hv
    clear hv
    rcases Nat.eq_zero_or_pos n with rfl | hpos
    · go_wp2
      go_ret
      exact ⟨0, hn, rfl, rfl, Top.nil, HV.out⟩
    · obtain ⟨b, o, rfl, hc⟩ := hcell (by rintro rfl; simp at hn; omega)
      have hc1 := hc (n - 1) (by omega)
      clear hc hcell
      obtain ⟨x, hx⟩ : ∃ x, x = l.getD (n - 1) 0 := ⟨_, rfl⟩
      rw [← hx] at hc1
      have HX := Lib.hid hx
      clear hx
      obtain ⟨k, rfl⟩ : ∃ k, n = k + 1 := ⟨n - 1, by omega⟩
      rw [Nat.add_sub_cancel] at hc1 HX
      rcases Nat.eq_zero_or_pos x with rfl | h0
      · go_wp2
        go_round
        case rel => exact ⟨k, by omega, by go_num, fun b => by rw [step_zero (by omega) HX.out.symm]; exact HV.out b⟩
        case measure => simp [intOf]
      · have h0' : ((x : Int) == 0) = false := beq_eq_false_iff_ne.2 (by omega)
        go_wp2
        go_ret
        exact ⟨k + 1, hn, rfl, rfl, top_of (l := l) (n := k) (by omega) (by have := HX.out; omega), HV.out⟩
theorem ncut_num (w : World) (A : Option Addr) (c : Nat) (l : List Nat) (n : Nat) (h : Rd w .u32 A c l) (hw : Wf b32 l) (L : Nat) (hL : l.length = L) (hn : val b32 l = n) :
    Calls Try.prog 62 #[.slice A L c] w (SameNum .u32 b32 w n) := by
  subst hL
  refine (ncut_any w A c l h).mono fun e w' ⟨k, hk, he, hw', ht, hv⟩ => ⟨hw', _, he, ?_⟩
  rw [← hn, ← hv b32]
  exact Num.of two_le_b32 (h.take k) (by rw [List.length_take]; omega) (hw.take k) ht

/-- What a call hands back that returns a new number in a block of its own. -/
def RetNumG (w : World) (n : Nat) (e : Ending) (w' : World) : Prop := ∃ g L c, w.heap.size ≤ g ∧ e = .returned (.slice (some ⟨g, 0, none⟩) L c) ∧ Num .u32 b32 w' (.slice (some ⟨g, 0, none⟩) L c) n ∧ Below w.heap.size w w'
theorem RetNumG.num {w : World} {n : Nat} {e : Ending} {w' : World} (h : RetNumG w n e w') : RetNum .u32 b32 w n e w' := by
  obtain ⟨g, L, c, _, he, hn, hb⟩ := h
  exact ⟨_, he, hn, hb⟩
theorem ncut_numA (w : World) (A : Option Addr) (c : Nat) (l : List Nat) (n : Nat) (h : Rd w .u32 A c l) (hw : Wf b32 l) (L : Nat) (hL : l.length = L) (hn : val b32 l = n) :
    Calls Try.prog 62 #[.slice A L c] w (fun e w' => w = w' ∧ ∃ k, e = .returned (.slice A k c) ∧ Num .u32 b32 w (.slice A k c) n) := by
  subst hL
  refine (ncut_any w A c l h).mono fun e w' ⟨k, hk, he, hw', ht, hv⟩ => ⟨hw', _, he, ?_⟩
  rw [← hn, ← hv b32]
  exact Num.of two_le_b32 (h.take k) (by rw [List.length_take]; omega) (hw.take k) ht

theorem nat_num (w : World) (n : Nat) (hn : n < b64) : Calls Try.prog 39 #[.int .u64 (n : Int)] w (RetNum .u32 b32 w n) := by
  have e1 : (n : Int) % 4294967296 = ((n % b32 : Nat) : Int) := by unfold b32; omega
  have e2 : IntKind.u64.wrap ((n : Int) / 4294967296) % 4294967296 = ((n / b32 : Nat) : Int) := by
    unfold b64 at hn
    rw [wrap_u64 (by omega) (by omega)]; unfold b32; omega
  have hw : Wf b32 [n % b32, n / b32] := Wf.cons (Nat.mod_lt _ (by unfold b32; omega)) (Wf.cons (by unfold b32; unfold b64 at hn; omega) (Wf.nil _))
  have hv : val b32 [n % b32, n / b32] = n := by simp [val]; exact Nat.mod_add_div _ _
  have E1 := Lib.hid e1
  have E2 := Lib.hid e2
  have HV := Lib.hid hv
  clear e1 e2 hv hn
  go_enter Try.func39, Try.ntmps39
  go_wp2_with fail
  rw [E1.out, E2.out]
  have hR : Row (w.alloc (.cells #[.int .u32 ((n % b32 : Nat) : Int), .int .u32 ((n / b32 : Nat) : Int)] 79)) .u32 79 w.heap.size [n % b32, n / b32] := Row.new w .u32 79 [n % b32, n / b32]
  refine (ncut_num _ _ _ [n % b32, n / b32] n (hR.rd_all (Nat.le_refl _) (by simp [maxLen])) hw _ rfl HV.out).mono ?_
  rintro e w' ⟨rfl, v, rfl, hv⟩
  go_wp2
  go_ret
  exact ⟨v, rfl, hv, (Below.refl _ _).alloc (Nat.le_refl _) _⟩
end Wx

namespace Wx
open Go Go.RowKit Go.Proofs

set_option maxHeartbeats 400000 in
theorem order_dr (w : World) (v1 v2 : Value) (m n : Nat) (h1 : Num .u32 b32 w v1 m) (h2 : Num .u32 b32 w v2 n) :
    Calls Try.prog 51 #[v1, v2] w (RetDr w (.int .i64 (cmpI m n))) := by
  obtain ⟨A, c, rfl, ha⟩ := h1
  obtain ⟨B, d, rfl, hb⟩ := h2
  have hla := ha.len
  have hlb := hb.len
  by_cases hlt : (digs b32 m).length < (digs b32 n).length
  · have hmn := val_lt_of_length two_le_b32 hlt
    have e : cmpI m n = -1 := by unfold cmpI; rw [if_pos hmn]
    rw [e]
    go_enter Try.func51, Try.ntmps51
    go_wp2
    all_goals (go_ret; exact ⟨rfl, 0, rfl⟩)
  · by_cases hgt : (digs b32 n).length < (digs b32 m).length
    · have hmn := val_lt_of_length two_le_b32 hgt
      have e : cmpI m n = 1 := by unfold cmpI; rw [if_neg (by omega), if_pos hmn]
      rw [e]
      go_enter Try.func51, Try.ntmps51
      go_wp2
      all_goals (go_ret; exact ⟨rfl, 0, rfl⟩)
    · have hll : (digs b32 m).length = (digs b32 n).length := by omega
      have wa := digs_wf two_le_b32 m
      have wb := digs_wf two_le_b32 n
      have va := val_digs two_le_b32 m
      have vb := val_digs two_le_b32 n
      generalize digs b32 m = a at *
      generalize digs b32 n = b at *
      rw [← hll] at hlb ⊢
      have HL := Lib.hid hll
      have VA := Lib.hid va
      have VB := Lib.hid vb
      clear hll va vb hlt hgt hlb
      go_enter Try.func51, Try.ntmps51
      go_wp2
      go_loopw [5] (fun s5 wr => ∃ i : Nat, i ≤ a.length ∧ s5 = .int .i64 ((i : Int) - 1) ∧ a.drop i = b.drop i ∧ ∃ q, wr = w.drewN q)
        (fun s5 _ => (intOf s5 + 1).toNat)
      case atStart => exact ⟨a.length, Nat.le_refl _, rfl, by rw [List.drop_of_length_le (Nat.le_refl _), List.drop_of_length_le (by have := HL.out; omega)], 0, rfl⟩
      case round =>
        obtain ⟨i, hi, rfl, hd, q, rfl⟩ := hrel
        have HD := Lib.hid hd
        clear hd
        rcases Nat.eq_zero_or_pos i with rfl | hpos
        · rw [show (((0 : Nat) : Int) - 1) = -1 by omega]
          have : a = b := by simpa using HD.out
          have e : m = n := by rw [← VA.out, ← VB.out, this]
          have e0 : cmpI m n = 0 := by unfold cmpI; rw [if_neg (by omega), if_neg (by omega)]
          have E0 := Lib.hid e0
          clear e e0 this
          go_wp2
          go_ret
          exact ⟨ret_int E0.out.symm, _, rfl⟩
        · obtain ⟨j, rfl⟩ : ∃ j, i = j + 1 := ⟨i - 1, by omega⟩
          obtain ⟨b1, o1, x, rfl, hcx, HX⟩ := ha.get (i := j) (by omega)
          obtain ⟨b2, o2, y, rfl, hcy, HY⟩ := hb.get (i := j) (by have := HL.out; omega)
          rw [show (((j + 1 : Nat) : Int) - 1) = (j : Int) by omega]
          have hj0 : (0 : Int) ≤ (j : Int) := by omega
          have hj1 : (j : Int) < (a.length : Int) := by omega
          rcases Nat.lt_trichotomy x y with hxy | hxy | hxy
          · have hxy' : (x : Int) < (y : Int) := by omega
            have hmn : m < n := by
              rw [← VA.out, ← VB.out]
              exact val_lt_get wa HX.out HY.out HD.out hxy
            have E0 : Hid (cmpI m n = -1) := by show cmpI m n = -1; unfold cmpI; rw [if_pos hmn]
            clear hmn
            go_wp2
            go_quiet (fail)
            go_wp2
            go_ret
            exact ⟨ret_int E0.out.symm, _, World.drewN_drewN _ _ _⟩
          · subst hxy
            go_wp2
            go_quiet (fail)
            go_wp2
            go_quiet (fail)
            go_wp2
            go_roundw
            case rel => exact ⟨j, by omega, by go_num, drop_get HX.out HY.out HD.out, _, rfl⟩
            case measure => simp [intOf]
          · have hxy' : (y : Int) < (x : Int) := by omega
            have hmn : n < m := by
              rw [← VA.out, ← VB.out]
              exact val_lt_get wb HY.out HX.out HD.out.symm hxy
            have E0 : Hid (cmpI m n = 1) := by show cmpI m n = 1; unfold cmpI; rw [if_neg (by omega), if_pos hmn]
            clear hmn
            go_wp2
            go_quiet (fail)
            go_wp2
            go_quiet (fail)
            go_wp2
            go_ret
            exact ⟨ret_int E0.out.symm, _, (World.drewN_drewN _ _ _).trans (World.drewN_drewN _ _ _)⟩
theorem order_num (w : World) (v1 v2 : Value) (m n : Nat) (h1 : Num .u32 b32 w v1 m) (h2 : Num .u32 b32 w v2 n) :
    Calls Try.prog 51 #[v1, v2] w (RetIs w (.int .i64 (cmpI m n))) := (order_dr w v1 v2 m n h1 h2).mono fun _ _ h => h.is
end Wx
