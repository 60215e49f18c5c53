import Derived.Test.YtncpoijmhgihjaaProg
import Derived.Handy
import Derived.Test.YtncpoijmhgihjaaPlain1
import Derived.Test.YtncpoijmhgihjaaMem
import Derived.Test.YtncpoijmhgihjaaJIncludes3
import Derived.Test.YtncpoijmhgihjaaJIncludes16
import Derived.Test.YtncpoijmhgihjaaJIncludes5
import Derived.Test.YtncpoijmhgihjaaCLimbs5
import Derived.Test.YtncpoijmhgihjaaCDivide
import Derived.Test.YtncpoijmhgihjaaCGcd
import Derived.Test.YtncpoijmhgihjaaCRat1
import Derived.Test.YtncpoijmhgihjaaCRat2
import Derived.Test.YtncpoijmhgihjaaCRat3
import Derived.Test.YtncpoijmhgihjaaJIncludes18
namespace Wx
open Go Go.RowKit Go.Proofs

theorem size_num (w : World) (z : Int) (h1 : -9223372036854775808 ≤ z) (h2 : z ≤ 9223372036854775807) : Calls Try.prog 61 #[.int .i64 z] w (RetNum .u64 b64 w z.natAbs) := by
  have HLT : Bx (z.natAbs < b64) := bx (by unfold b64; omega)
  by_cases hz : z < 0
  · have e1 : IntKind.u64.wrap (-IntKind.u64.wrap z) = ((z.natAbs : Nat) : Int) := by
      simp [IntKind.wrap, IntKind.bits, IntKind.signed]; omega
    have E1 := bx e1
    clear e1
    go_enter Try.func61, Try.ntmps61
    go_wp2_with fail
    rw [E1.out]
    refine (word_num w _ HLT.out).mono ?_
    rintro e w3 ⟨vr, rfl, hr3, hb3⟩
    go_wp2
    go_ret
    exact ⟨_, rfl, hr3, hb3⟩
  · have e1 : z = ((z.natAbs : Nat) : Int) := by omega
    have E1 := bx e1
    clear e1
    go_enter Try.func61, Try.ntmps61
    go_wp2_with fail
    have hc := word_num w _ HLT.out
    rw [← E1.out] at hc
    refine hc.mono ?_
    rintro e w3 ⟨vr, rfl, hr3, hb3⟩
    go_wp2
    go_ret
    exact ⟨_, rfl, hr3, hb3⟩

theorem int_num (w : World) (z : Int) (h1 : -9223372036854775808 ≤ z) (h2 : z ≤ 9223372036854775807) : Calls Try.prog 27 #[.int .i64 z] w (RetRat w (z : Rat)) := by
  have H := bx (And.intro h1 h2)
  clear h1 h2
  go_enter Try.func27, Try.ntmps27
  go_wp2_with fail
  obtain ⟨w1, e1, o1, b1, s1⟩ := lay3 w (.bool false) (.slice none 0 0) (.slice none 0 0) 27
  rw [e1]
  refine (size_num w1 z H.out.1 H.out.2).mono ?_
  rintro e w2 ⟨v, rfl, hv, hb⟩
  obtain ⟨A1, c1, rfl, _⟩ := id hv
  have hz : HeldR w w.heap.size 27 [] w2 := ⟨b1.trans (hb.mono b1.size), Nat.le_refl _, by simp, _, _, _, o1.gone hb, notInt_bool _, notInt_slice _ _ _, notInt_slice _ _ _⟩
  obtain ⟨k0, k1, k2, k3, k4, k5⟩ := hz.cells
  clear e1
  go_wp2
  obtain ⟨wf, HW, f0, f1, f2, hfin⟩ := hz.fin (q := (z : Rat)) (A2 := none) (l2 := 0) (c2 := 0) rfl (by rw [Rat.num_intCast]; exact hv) (by rw [Rat.den_intCast]; exact Num.zero _ _ _)
  rw [Rat.num_intCast] at HW f0 hfin
  rw [HW]
  (try simp only [Exit.inBlock, Exit.then])
  refine bodyPost_ret (by simp [results, Try.results27, go_sem, f0, f1, f2]; try rfl) rfl ?_
  exact hfin

/-- A ratio and an error. -/
def RetRE (w : World) (q : Rat) (err : Int) (e : Ending) (w' : World) : Prop := ∃ v, e = .returned (.tuple #[v, .int .i64 err]) ∧ IsRat w' v q ∧ Below w.heap.size w w'
theorem RetRE.of {w : World} {q : Rat} {v : Value} {w' : World} (h : RetRat w q (.returned v) w') (err : Int) : RetRE w q err (.returned (.tuple #[v, .int .i64 err])) w' := by
  obtain ⟨v', e, h1, h2⟩ := h
  injection e with e
  subst e
  exact ⟨_, rfl, h1, h2⟩
/-- What New says. -/
def newR (n d : Int) : Rat := redR (!(decide (n < 0) == decide (d < 0))) n.natAbs d.natAbs

theorem new_zero (w : World) (n : Int) : Calls Try.prog 45 #[.int .i64 n, .int .i64 0] w (RetRE w 0 3) := by
  go_enter Try.func45, Try.ntmps45
  go_wp2
  go_returns
  exact ⟨_, rfl, isRat_zero _, Below.alloc (Below.refl _ _) (Nat.le_refl _) _⟩

theorem new_num (w : World) (n d : Int) (h1 : -9223372036854775808 ≤ n) (h2 : n ≤ 9223372036854775807) (h3 : -9223372036854775808 ≤ d) (h4 : d ≤ 9223372036854775807) (hd : d ≠ 0) :
    Calls Try.prog 45 #[.int .i64 n, .int .i64 d] w (RetRE w (newR n d) 0) := by
  have H := bx (And.intro (And.intro h1 h2) (And.intro h3 h4))
  have HD := bx hd
  have hde : (d == 0) = false := beq_eq_false_iff_ne.2 hd
  have B1 : Bx (Bd 64 n.natAbs) := bx (by unfold Bd; omega)
  have B2 : Bx (Bd 64 d.natAbs) := bx (by unfold Bd; omega)
  clear h1 h2 h3 h4 hd
  go_enter Try.func45, Try.ntmps45
  go_wp2_with fail
  obtain ⟨w1, e1, o1, b1, s1⟩ := lay3 w (.bool false) (.slice none 0 0) (.slice none 0 0) 27
  rw [e1]
  refine (size_num w1 n H.out.1.1 H.out.1.2).mono ?_
  rintro e w2 ⟨vn, rfl, hn, hb⟩
  go_wp2_with fail
  refine (size_num w2 d H.out.2.1 H.out.2.2).mono ?_
  rintro e w3 ⟨vd, rfl, hd, hb3⟩
  have hn3 := hn.below hb3
  go_wp2_with fail
  refine (reduced_num w3 _ _ _ _ _ hn3 hd (by have := HD.out; omega) B1.out B2.out (by omega)).mono ?_
  rintro e w4 ⟨vr, rfl, hrr, hb4⟩
  change IsRat w4 vr (newR n d) at hrr
  obtain ⟨vrn, vrd, rfl, hrn, hrd⟩ := hrr
  obtain ⟨Ar1, cr1, rfl, _⟩ := id hrn
  obtain ⟨Ar2, cr2, rfl, _⟩ := id hrd
  have o4 := ((o1.gone hb).gone hb3).gone hb4
  have hz : HeldR w w.heap.size 27 [] w4 := ⟨((b1.trans (hb.mono b1.size)).trans (hb3.mono (Nat.le_trans b1.size hb.size))).trans (hb4.mono (Nat.le_trans (Nat.le_trans b1.size hb.size) hb3.size)), Nat.le_refl _, by simp, _, _, _, o4, notInt_bool _, notInt_slice _ _ _, notInt_slice _ _ _⟩
  obtain ⟨k0, k1, k2, k3, k4, k5⟩ := hz.cells
  clear e1
  go_wp2
  obtain ⟨wf, HW, f0, f1, f2, hfin⟩ := hz.fin rfl hrn hrd
  rw [HW]
  (try simp only [Exit.inBlock, Exit.then])
  refine bodyPost_ret (by simp [results, Try.results45, go_sem, f0, f1, f2]; try rfl) rfl ?_
  exact RetRE.of hfin 0
end Wx
