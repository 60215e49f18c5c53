import Derived.Test.YtioicklnneebnaaProg
import Derived.Test.YtioicklnneebnaaPlain1
import Derived.Test.YtioicklnneebnaaMem
import Derived.Test.YtioicklnneebnaaJNews3
import Derived.Test.YtioicklnneebnaaJNews32
import Derived.Test.YtioicklnneebnaaCNQuot
namespace Wx
open Go Go.RowKit Go.Proofs

theorem Num.inj32 {w : World} {v : Value} {m n : Nat} {k : IntKind} (h : Num k b32 w v m) (g : Num k b32 w v n) : m = n := by
  obtain ⟨A, c, rfl, hr⟩ := h
  obtain ⟨A', c', e, gr⟩ := g
  injection e with e1 e2 e3
  subst e1
  exact digs_inj two_le_b32 (hr.inj gr e2)
open Classical in
/-- The number that a value stands for. -/
noncomputable def numOf32 (w : World) (v : Value) : Nat := if h : ∃ n, Num .u32 b32 w v n then choose h else 0
theorem Num.of_eq32 {w : World} {v : Value} {n : Nat} (h : Num .u32 b32 w v n) : numOf32 w v = n := by
  have hx : ∃ n, Num .u32 b32 w v n := ⟨n, h⟩
  unfold numOf32
  rw [dif_pos hx]
  exact (Classical.choose_spec hx).inj32 h

set_option maxHeartbeats 1000000 in
theorem divisor_num (w : World) (v1 v2 : Value) (m n : Nat) (h1 : Num .u32 b32 w v1 m) (h2 : Num .u32 b32 w v2 n) {j : Nat} (hj : Bd j m) (hk : Bd j n) (hj1 : j ≤ 10000000) :
    Calls Try.prog 64 #[v1, v2] w (RetNum .u32 b32 w (Nat.gcd m n)) := by
  have HX := bx (And.intro hj hk)
  clear hj hk
  obtain ⟨G, hG⟩ : ∃ G, G = Nat.gcd m n := ⟨_, rfl⟩
  rw [← hG]
  have HG := bx hG
  clear hG
  go_enter Try.func64, Try.ntmps64
  go_wp2_with fail
  go_loopw [0, 1] (fun s0 s1 wr => ∃ x y : Nat, Num .u32 b32 wr s0 x ∧ Num .u32 b32 wr s1 y ∧ Bx (G = Nat.gcd x y) ∧ Bx (Bd j x ∧ Bd j y) ∧ Below w.heap.size w wr) (fun _ s1 wr => numOf32 wr s1)
  case atStart => exact ⟨_, _, h1, h2, HG, HX, Below.refl _ _⟩
  case round =>
    clear h1 h2 HG HX
    obtain ⟨x, y, hx, hy, HG, HX, hb⟩ := hrel
    rcases Nat.eq_zero_or_pos y with rfl | hy0
    · obtain ⟨A, c, rfl, hr⟩ := id hy
      rw [digs_zero] at hr ⊢
      go_wp2
      go_ret
      exact ⟨_, rfl, by rw [HG.out, Nat.gcd_zero_right]; exact hx, hb⟩
    · obtain ⟨B, d, rfl, hs⟩ := id hy
      have hl1 : (0 : Int) < ((digs b32 y).length : Int) := by have := (digs_length_pos (n := y) two_le_b32).2 hy0; omega
      have HY0 := bx hy0
      have hlen := hs.len
      generalize (digs b32 y).length = L at *
      clear hy0 hs
      go_wp2_with fail
      refine (quotient_num wr _ _ x y hx hy HY0.out HX.out.1 HX.out.2 hj1).mono ?_
      rintro e w2 ⟨vq, vr, rfl, hq, hr, hb2⟩
      go_wp2
      go_roundw
      case rel =>
        exact ⟨y, x % y, hy.below hb2, hr, bx (by rw [HG.out, Nat.gcd_comm x y, Nat.gcd_rec y x, Nat.gcd_comm]), bx ⟨HX.out.2, HX.out.1.le (Nat.mod_le _ _)⟩, hb.trans (hb2.mono hb.size)⟩
      case measure =>
        rw [Num.of_eq32 hy, Num.of_eq32 hr]
        exact Nat.mod_lt _ HY0.out
end Wx
