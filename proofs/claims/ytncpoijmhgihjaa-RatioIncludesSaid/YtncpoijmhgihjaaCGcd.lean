import Derived.Test.YtncpoijmhgihjaaProg
import Derived.Test.YtncpoijmhgihjaaShelf
import Derived.Test.YtncpoijmhgihjaaPlain1
import Derived.Test.YtncpoijmhgihjaaMem
import Derived.Test.YtncpoijmhgihjaaJIncludes3
import Derived.Test.YtncpoijmhgihjaaJIncludes9
import Derived.Test.YtncpoijmhgihjaaCDivide
namespace Wx
open Go Go.RowKit Go.Proofs

theorem Rd.inj {w : World} {k : IntKind} {A : Option Addr} {c c' : Nat} {l r : List Nat} (h : Rd w k A c l) (g : Rd w k A c' r) (hl : l.length = r.length) : l = r := by
  apply List.ext_getElem hl
  intro i h1 h2
  obtain ⟨b, o, e, hc⟩ := h.at_ (i := i) h1
  obtain ⟨b', o', e', hc'⟩ := g.at_ (i := i) h2
  rw [e] at e'
  injection e' with e'
  injection e' with e1 e2
  subst e1 e2
  rw [hc] at hc'
  injection hc' with hc'
  injection hc' with _ hc'
  rw [List.getD_eq_getElem?_getD, List.getD_eq_getElem?_getD, List.getElem?_eq_getElem h1, List.getElem?_eq_getElem h2] at hc'
  simp only [Option.getD_some] at hc'
  omega
theorem Num.inj {w : World} {v : Value} {m n : Nat} {k : IntKind} (h : Num k b64 w v m) (g : Num k b64 w v n) : m = n := by
  obtain ⟨A, c, rfl, hr⟩ := h
  obtain ⟨A', c', e, gr⟩ := g
  injection e with e1 e2 e3
  subst e1
  exact digs_inj two_le_b64 (hr.inj gr e2)
open Classical in
/-- The number that a value stands for. -/
noncomputable def numOf (w : World) (v : Value) : Nat := if h : ∃ n, Num .u64 b64 w v n then choose h else 0
theorem Num.of_eq {w : World} {v : Value} {n : Nat} (h : Num .u64 b64 w v n) : numOf w v = n := by
  have hx : ∃ n, Num .u64 b64 w v n := ⟨n, h⟩
  unfold numOf
  rw [dif_pos hx]
  exact (Classical.choose_spec hx).inj h

theorem len_le_one {n : Nat} (h : n < b64) : (digs b64 n).length ≤ 1 := digs_length_le two_le_b64 (by simpa using h)
theorem two_le_len {n : Nat} (h : ¬ n < b64) : 2 ≤ (digs b64 n).length := digs_length_ge2 (by omega)

set_option maxHeartbeats 1000000 in
theorem gcd_num (w : World) (v1 v2 : Value) (m n : Nat) (h1 : Num .u64 b64 w v1 m) (h2 : Num .u64 b64 w v2 n) {j : Nat} (hj : Bd j m) (hk : Bd j n) (hj1 : j ≤ 100000000) :
    Calls Try.prog 73 #[v1, v2] w (RetNum .u64 b64 w (Nat.gcd m n)) := by
  have HX := bx (And.intro hj hk)
  clear hj hk
  obtain ⟨G, hG⟩ : ∃ G, G = Nat.gcd m n := ⟨_, rfl⟩
  rw [← hG]
  have HG := bx hG
  clear hG
  go_enter Try.func73, Try.ntmps73
  go_wp2_with fail
  go_loopw [0, 1] (fun s0 s1 wr => ∃ x y : Nat, Num .u64 b64 wr s0 x ∧ Num .u64 b64 wr s1 y ∧ Bx (G = Nat.gcd x y) ∧ Bx (Bd j x ∧ Bd j y) ∧ Below w.heap.size w wr) (fun _ s1 wr => numOf wr s1)
  case atStart => exact ⟨_, _, h1, h2, HG, HX, Below.refl _ _⟩
  case round =>
    clear h1 h2 HG HX
    obtain ⟨x, y, hx, hy, HG, HX, hb⟩ := hrel
    rcases Nat.eq_zero_or_pos y with rfl | hy0
    · obtain ⟨A, c, rfl, hr⟩ := id hy
      rw [digs_zero] at hr ⊢
      go_wp2
      go_ret
      exact ⟨_, rfl, by rw [HG.out, Nat.gcd_zero_right]; exact hx, hb⟩
    · obtain ⟨A, c, rfl, hr⟩ := id hx
      obtain ⟨B, d, rfl, hs⟩ := id hy
      have hl1 : (1 : Int) ≤ ((digs b64 y).length : Int) := by have := (digs_length_pos (n := y) two_le_b64).2 hy0; omega
      by_cases hx1 : x < b64
      · by_cases hy1 : y < b64
        · have a1 : ((digs b64 x).length : Int) ≤ 1 := by have := len_le_one hx1; omega
          have a2 : ((digs b64 y).length : Int) ≤ 1 := by have := len_le_one hy1; omega
          have HX1 := bx hx1
          have HY1 := bx hy1
          have HY0 := bx hy0
          clear hx1 hy1 hy0
          go_wp2_with fail
          refine (small_num wr _ _ x y hx hy HX1.out HY1.out HY0.out).mono ?_
          rintro e w2 ⟨rfl, hb2⟩
          go_wp2_with fail
          refine (word_num w2 _ (Nat.lt_of_le_of_lt (Nat.gcd_le_right x HY0.out) HY1.out)).mono ?_
          rintro e w3 ⟨vr, rfl, hr3, hb3⟩
          go_wp2
          go_ret
          exact ⟨_, rfl, by rw [HG.out]; exact hr3, (hb.trans (hb2.mono hb.size)).trans (hb3.mono (Nat.le_trans hb.size hb2.size))⟩
        · have a1 : ((digs b64 x).length : Int) ≤ 1 := by have := len_le_one hx1; omega
          have a2 : (2 : Int) ≤ ((digs b64 y).length : Int) := by have := two_le_len hy1; omega
          have HY0 := bx hy0
          clear hx1 hy1 hy0
          go_wp2_with fail
          refine (divide_num wr _ _ x y hx hy HY0.out HX.out.1 hj1).mono ?_
          rintro e w2 ⟨vq, vr, rfl, hq, hr2, hb2⟩
          have hy2 := hy.below hb2
          go_wp2
          go_roundw
          case rel => exact ⟨y, x % y, hy2, hr2, bx (by rw [HG.out, Nat.gcd_comm x y, Nat.gcd_rec y x, Nat.gcd_comm]), bx ⟨HX.out.2, HX.out.2.le (Nat.le_of_lt (Nat.mod_lt _ HY0.out))⟩, hb.trans (hb2.mono hb.size)⟩
          case measure => rw [hr2.of_eq, hy.of_eq]; exact Nat.mod_lt _ HY0.out
      · have a1 : (2 : Int) ≤ ((digs b64 x).length : Int) := by have := two_le_len hx1; omega
        have HY0 := bx hy0
        clear hx1 hy0
        go_wp2_with fail
        refine (divide_num wr _ _ x y hx hy HY0.out HX.out.1 hj1).mono ?_
        rintro e w2 ⟨vq, vr, rfl, hq, hr2, hb2⟩
        have hy2 := hy.below hb2
        go_wp2
        go_roundw
        case rel => exact ⟨y, x % y, hy2, hr2, bx (by rw [HG.out, Nat.gcd_comm x y, Nat.gcd_rec y x, Nat.gcd_comm]), bx ⟨HX.out.2, HX.out.2.le (Nat.le_of_lt (Nat.mod_lt _ HY0.out))⟩, hb.trans (hb2.mono hb.size)⟩
        case measure => rw [hr2.of_eq, hy.of_eq]; exact Nat.mod_lt _ HY0.out
end Wx
