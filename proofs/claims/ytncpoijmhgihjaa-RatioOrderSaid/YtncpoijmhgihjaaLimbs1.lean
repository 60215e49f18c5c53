import Derived.Test.YtncpoijmhgihjaaProg
import Derived.Test.YtncpoijmhgihjaaPlain1
import Derived.Test.YtncpoijmhgihjaaMem
namespace Wx
open Go Go.RowKit Go.Proofs

/-- What cut does to a list of numbers. -/
def CutPost (w : World) (A : Option Addr) (c : Nat) (l : List Nat) (e : Ending) (w' : World) : Prop :=
  ∃ n, n ≤ l.length ∧ e = .returned (.slice A n c) ∧ w = w' ∧ Top (l.take n) ∧ (∀ b, val b (l.take n) = val b l)

theorem step_zero {l : List Nat} {n : Nat} (hn : n < l.length) (h0 : l.getD n 0 = 0) (b : Nat) : val b (l.take n) = val b (l.take (n + 1)) := by
  rw [val_take_succ b l n hn]
  rw [List.getD_eq_getElem?_getD, List.getElem?_eq_getElem hn] at h0
  simp at h0
  simp [h0]
theorem top_of {l : List Nat} {n : Nat} (hn : n < l.length) (h0 : l.getD n 0 ≠ 0) : Top (l.take (n + 1)) := by
  unfold Top
  rw [List.take_succ_eq_append_getElem hn]
  rw [List.getD_eq_getElem?_getD, List.getElem?_eq_getElem hn] at h0
  simp at h0
  rw [List.getLast?_concat]; simpa using h0

theorem cut_any (w : World) (A : Option Addr) (c : Nat) (l : List Nat) (h : Rd w .u64 A c l) :
    Calls Try.prog 71 #[.slice A l.length c] w (CutPost w A c l) := by
  obtain ⟨hl, hm, hcell⟩ := h
  unfold maxLen at hm
  go_enter Try.func71, Try.ntmps71
  go_wp2
  go_loop [0] (fun v => ∃ n : Nat, n ≤ l.length ∧ v = .slice A n c ∧ (∀ b, val b (l.take n) = val b l)) (fun v => vlen v)
  case atStart => exact ⟨l.length, Nat.le_refl _, rfl, fun b => by rw [List.take_length]⟩
  case round =>
    obtain ⟨n, hn, rfl, hv⟩ := hrel
    have HV := Lib.hid hv
    clear hv
    rcases Nat.eq_zero_or_pos n with rfl | hpos
    · go_wp2
      go_ret
      exact ⟨0, hn, rfl, rfl, Top.nil, HV.out⟩
    · obtain ⟨b, o, rfl, hc⟩ := hcell (by rintro rfl; simp at hn; omega)
      have hc1 := hc (n - 1) (by omega)
      clear hc hcell
      obtain ⟨x, hx⟩ : ∃ x, x = l.getD (n - 1) 0 := ⟨_, rfl⟩
      rw [← hx] at hc1
      have HX := Lib.hid hx
      clear hx
      rcases Nat.eq_zero_or_pos x with rfl | h0
      · go_wp2
        go_round
        case rel => exact ⟨n - 1, by omega, rfl, fun b => by rw [step_zero (by omega) HX.out.symm, show n - 1 + 1 = n by omega, HV.out]⟩
        case measure => simp [vlen]; omega
      · go_wp2
        go_ret
        exact ⟨n, hn, rfl, rfl, by have := top_of (l := l) (n := n - 1) (by omega) (by have := HX.out; omega); rwa [show n - 1 + 1 = n by omega] at this, HV.out⟩

def b64 : Nat := 18446744073709551616
theorem b64_pow : b64 = 2 ^ 64 := by unfold b64; decide
theorem two_le_b64 : 2 ≤ b64 := by unfold b64; omega
theorem len64 {k n : Nat} (h : Bd k n) : (digs b64 n).length ≤ k / 64 + 1 := by rw [b64_pow]; exact h.digs (by omega)
theorem i64row : (Try.prog.info? 81).map (fun i => (i.zero, i.size, decide (i.bytes ≤ 8))) = some (some (.int .u64 0), 1, true) := by kernel_rfl

theorem cut_num (w : World) (A : Option Addr) (c : Nat) (l : List Nat) (n : Nat) (h : Rd w .u64 A c l) (hw : Wf b64 l) (L : Nat) (hL : l.length = L) (hn : val b64 l = n) :
    Calls Try.prog 71 #[.slice A L c] w (SameNum .u64 b64 w n) := by
  subst hL
  refine (cut_any w A c l h).mono fun e w' ⟨k, hk, he, hw', ht, hv⟩ => ⟨hw', _, he, ?_⟩
  rw [← hn, ← hv b64]
  exact Num.of two_le_b64 (h.take k) (by rw [List.length_take]; omega) (hw.take k) ht
end Wx
