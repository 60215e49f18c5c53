import Derived.Test.YtncpoijmhgihjaaProg
import Derived.Test.YtncpoijmhgihjaaShelf
import Derived.Test.YtncpoijmhgihjaaPlain1
import Derived.Test.YtncpoijmhgihjaaPlainDiv
import Derived.Test.YtncpoijmhgihjaaMem
import Derived.Test.YtncpoijmhgihjaaLimbs1
import Derived.Test.YtncpoijmhgihjaaLimbs3
namespace Wx
open Go Go.RowKit Go.Proofs

theorem Num.one {k : IntKind} {w : World} {v : Value} {n : Nat} (h : Num k b64 w v n) (h0 : 0 < n) (h1 : n < b64) : ∃ b o c, v = .slice (some ⟨b, o, none⟩) 1 c ∧ w.cell? ⟨b, o, none⟩ = some (.int k (n : Int)) := by
  obtain ⟨A, c, rfl, hr⟩ := h
  rw [digs_small two_le_b64 h0 h1] at hr ⊢
  obtain ⟨b, o, rfl, hc⟩ := hr.at_ (i := 0) (by simp)
  exact ⟨b, o, c, rfl, by simpa using hc⟩

set_option maxHeartbeats 1000000 in
theorem small_num (w : World) (v1 v2 : Value) (m n : Nat) (h1 : Num .u64 b64 w v1 m) (h2 : Num .u64 b64 w v2 n) (hm : m < b64) (hn : n < b64) (h0 : 0 < n) :
    Calls Try.prog 86 #[v1, v2] w (RetIs w (.int .u64 (Nat.gcd m n : Nat))) := by
  obtain ⟨bn, on, cn, rfl, hcn⟩ := h2.one h0 hn
  have HM := Lib.hid hm
  have HN := Lib.hid hn
  clear hm hn h2
  obtain ⟨G, hG⟩ : ∃ G, G = Nat.gcd m n := ⟨_, rfl⟩
  rw [← hG]
  have hx := Lib.hid hG
  clear hG
  have key : ∀ (A : Option Addr) (L c : Nat), ((L = 0 ∧ m = 0) ∨ (L = 1 ∧ 0 < m ∧ ∃ b o, A = some ⟨b, o, none⟩ ∧ w.cell? ⟨b, o, none⟩ = some (.int .u64 (m : Int)))) →
      Calls Try.prog 86 #[.slice A L c, .slice (some ⟨bn, on, none⟩) 1 cn] w (RetIs w (.int .u64 (G : Int))) := by
    intro A L c hL
    rcases hL with ⟨rfl, rfl⟩ | ⟨rfl, hm0, b, o, rfl, hc⟩
    all_goals
      go_enter Try.func86, Try.ntmps86
      go_wp2_with fail
      go_loopw [5, 6] (fun s5 s6 wr => ∃ x y : Nat, s5 = .int .u64 (x : Int) ∧ s6 = .int .u64 (y : Int) ∧ Hid (G = Nat.gcd x y) ∧ ∃ q, wr = w.drewN q) (fun _ s6 _ => (intOf s6).toNat)
      case atStart => exact ⟨_, _, rfl, rfl, hx, 0, rfl⟩
      case round =>
        obtain ⟨x, y, rfl, rfl, HG, q, rfl⟩ := hrel
        rcases Nat.eq_zero_or_pos y with rfl | hy
        · go_wp2
          go_ret
          refine ⟨ret_int ?_, below_drewN (Below.refl _ _) _⟩
          rw [HG.out, Nat.gcd_zero_right]
        · have hy1 : (1 : Int) ≤ (y : Int) := by omega
          have hb : ((y : Int) == 0) = false := beq_eq_false_iff_ne.2 (by omega)
          go_wp2
          go_quiet (fail)
          go_wp2
          go_roundw
          case rel => exact ⟨y, x % y, rfl, by rw [Int.natCast_emod], by show _ = _; rw [HG.out, Nat.gcd_comm x y, Nat.gcd_rec y x, Nat.gcd_comm], _, World.drewN_drewN _ _ _⟩
          case measure => simp [intOf]; rw [← Int.natCast_emod]; have := Nat.mod_lt x hy; omega
  rcases Nat.eq_zero_or_pos m with rfl | hm0
  · obtain ⟨A, c, rfl, _⟩ := h1
    exact key A _ c (.inl ⟨by rw [digs_zero]; rfl, rfl⟩)
  · obtain ⟨b, o, c, rfl, hc⟩ := h1.one hm0 HM.out
    exact key _ 1 c (.inr ⟨rfl, hm0, b, o, rfl, hc⟩)
end Wx
