import Derived.Test.YtncpoijmhgihjaaProg
import Derived.Handy
import Derived.Deep.RegionHeld3
import Derived.Test.YtncpoijmhgihjaaPlain1
import Derived.Test.YtncpoijmhgihjaaMem
import Derived.Test.YtncpoijmhgihjaaLimbs1
import Derived.Test.YtncpoijmhgihjaaLimbs3
import Derived.Test.YtncpoijmhgihjaaLimbs2
import Derived.Test.YtncpoijmhgihjaaLimbs4
import Derived.Test.YtncpoijmhgihjaaLimbs5
import Derived.Test.YtncpoijmhgihjaaDivide
import Derived.Test.YtncpoijmhgihjaaGcd
import Derived.Test.YtncpoijmhgihjaaRat1
import Derived.Test.YtncpoijmhgihjaaRat2
import Derived.Test.YtncpoijmhgihjaaPlainRat
import Derived.Test.YtncpoijmhgihjaaRat3
namespace Wx
open Go Go.RowKit Go.Proofs

def sgnI (x : Rat) : Int := if x.num < 0 then -1 else if x = 0 then 0 else 1
theorem sign_num (w : World) (vx : Value) (x : Rat) (hx : IsRat w vx x) : Calls Try.prog 10 #[vx] w (RetIs w (.int .i64 (sgnI x))) := by
  obtain ⟨vx1, vx2, rfl, hxa, hxb⟩ := id hx
  obtain ⟨Ax1, cx1, rfl, _⟩ := id hxa
  obtain ⟨Ax2, cx2, rfl, _⟩ := id hxb
  have hS : sgnI x = if x.num < 0 then -1 else if x = 0 then 0 else 1 := rfl
  generalize sgnI x = z at *
  by_cases h1 : x.num < 0
  · rw [if_pos h1] at hS
    subst hS
    rw [decide_eq_true h1] at *
    go_enter Try.func10, Try.ntmps10
    go_wp2
    go_ret
    exact ⟨rfl, Below.alloc (Below.refl _ _) (Nat.le_refl _) _⟩
  · rw [if_neg h1] at hS
    rw [decide_eq_false h1] at *
    by_cases h2 : x = 0
    · rw [if_pos h2] at hS
      subst hS
      have HD := bx (decide_eq_true h2)
      clear h2
      go_enter Try.func10, Try.ntmps10
      go_wp2_with fail
      obtain ⟨w1, e1, o1, b1, s1⟩ := lay3 w (.bool false) (.slice Ax1 (digs b64 x.num.natAbs).length cx1) (.slice Ax2 (digs b64 (denOf x.den)).length cx2) 27
      rw [e1]
      have hc := zero_num w1 _ x (hx.below b1)
      rw [HD.out] at hc
      refine hc.mono ?_
      rintro e w2 ⟨rfl, hb⟩
      go_wp2
      go_ret
      exact ⟨rfl, b1.trans (hb.mono b1.size)⟩
    · rw [if_neg h2] at hS
      subst hS
      have HD := bx (decide_eq_false h2)
      clear h2
      go_enter Try.func10, Try.ntmps10
      go_wp2_with fail
      obtain ⟨w1, e1, o1, b1, s1⟩ := lay3 w (.bool false) (.slice Ax1 (digs b64 x.num.natAbs).length cx1) (.slice Ax2 (digs b64 (denOf x.den)).length cx2) 27
      rw [e1]
      have hc := zero_num w1 _ x (hx.below b1)
      rw [HD.out] at hc
      refine hc.mono ?_
      rintro e w2 ⟨rfl, hb⟩
      go_wp2
      go_ret
      exact ⟨rfl, b1.trans (hb.mono b1.size)⟩
end Wx
