import Derived.Test.YtncpoijmhgihjaaProg
import Derived.Handy
import Derived.Test.YtncpoijmhgihjaaPlain1
import Derived.Test.YtncpoijmhgihjaaMem
import Derived.Test.YtncpoijmhgihjaaJField3
import Derived.Test.YtncpoijmhgihjaaCRat1
import Derived.Test.YtncpoijmhgihjaaCRat2
import Derived.Test.YtncpoijmhgihjaaCPlainRat
import Derived.Test.YtncpoijmhgihjaaJField21
import Derived.Test.YtncpoijmhgihjaaCHeld
namespace Wx
open Go Go.RowKit Go.Proofs

/-- The fraction of plain data. -/
def ofR (n d : Int) : Rat := if d ≤ 0 then (n : Rat) else newR n d
theorem bd_newR {n d : Int} (h1 : -9223372036854775808 ≤ n) (h2 : n ≤ 9223372036854775807) (h3 : -9223372036854775808 ≤ d) (h4 : d ≤ 9223372036854775807) (hd : d ≠ 0) : BdR 64 (newR n d) :=
  redR_bd (by omega) (by unfold Bd; omega) (by unfold Bd; omega)
theorem bd_ofR {n d : Int} (h1 : -9223372036854775808 ≤ n) (h2 : n ≤ 9223372036854775807) (h4 : d ≤ 9223372036854775807) : BdR 64 (ofR n d) := by
  unfold ofR
  split
  · exact ⟨by unfold Bd; rw [Rat.num_intCast]; omega, by unfold Bd; rw [Rat.den_intCast]; omega⟩
  · exact bd_newR h1 h2 (by omega) h4 (by omega)

set_option maxRecDepth 100000 in
theorem of_num (w : World) (n d : Int) (h1 : -9223372036854775808 ≤ n) (h2 : n ≤ 9223372036854775807) (h4 : d ≤ 9223372036854775807) :
    Calls Try.prog 6 #[.agg #[.int .i64 n, .int .i64 d]] w (RetRat w (ofR n d)) := by
  have HH := bx (And.intro h1 (And.intro h2 h4))
  by_cases hd : d ≤ 0
  · have hq : ofR n d = (n : Rat) := if_pos hd
    rw [hq]
    generalize hg : (n : Rat) = q
    have HG := bx hg
    clear h1 h2 h4 hq hg
    go_enter Try.func6, Try.ntmps6
    go_wp2_with fail
    obtain ⟨w1, e1, o1, b1, s1⟩ := layA w [.int .i64 n, .int .i64 d] 23
    obtain ⟨w2, e2, o2, b2, s2⟩ := layA w1 [.bool false, .slice none 0 0, .slice none 0 0] 27
    rw [e1, e2]
    rw [s1] at o2
    have hz : HeldN w (w.heap.size + 1) 3 27 [] w2 := ⟨b1.trans (b2.mono b1.size), by omega, by simp, _, rfl, o2, notInt3⟩
    clear e1 e2 s2
    have hc := int_num w2 n HH.out.1 HH.out.2.1
    rw [HG.out] at hc
    refine Calls.mono hc ?_
    clear hc
    rintro e w3 ⟨vr, rfl, hr, hb⟩
    obtain ⟨vrn, vrd, rfl, hrn, hrd⟩ := id hr
    obtain ⟨Ar1, cr1, rfl, _⟩ := id hrn
    obtain ⟨Ar2, cr2, rfl, _⟩ := id hrd
    have hz := HeldN.call (And.intro hz trivial) hb
    have k0 := hz.cellR (i := 0) (by omega)
    have k1 := hz.cellR (i := 1) (by omega)
    have k2 := hz.cellR (i := 2) (by omega)
    have k3 := hz.fzR 0
    have k4 := hz.fzR 1
    have k5 := hz.fzR 2
    go_wp2
    obtain ⟨wf, HW, ho, hB, hN⟩ := hz.fin [_, _, _] rfl (notInt3 (b := decide (q.num < 0)) (A1 := Ar1) (l1 := (digs b64 q.num.natAbs).length) (c1 := cr1) (A2 := Ar2) (l2 := (digs b64 (denOf q.den)).length) (c2 := cr2))
    simp only [setAll, Nat.reduceAdd] at HW
    rw [HW]
    (try simp only [Exit.inBlock, Exit.then])
    have f0 := ho.cell (i := 0) rfl
    have f1 := ho.cell (i := 1) rfl
    have f2 := ho.cell (i := 2) rfl
    refine bodyPost_ret (by simp [results, Try.results6, go_sem, f0, f1, f2]; try rfl) rfl ?_
    exact ⟨_, rfl, hr.into hN, hB⟩
  · have hq : ofR n d = newR n d := if_neg hd
    rw [hq]
    generalize hg : newR n d = q
    have HG := bx hg
    have hde : d ≠ 0 := by omega
    have HD := bx (And.intro hde (show -9223372036854775808 ≤ d by omega))
    clear h1 h2 h4 hq hg hde
    go_enter Try.func6, Try.ntmps6
    go_wp2_with fail
    obtain ⟨w1, e1, o1, b1, s1⟩ := layA w [.int .i64 n, .int .i64 d] 23
    obtain ⟨w2, e2, o2, b2, s2⟩ := layA w1 [.bool false, .slice none 0 0, .slice none 0 0] 27
    rw [e1, e2]
    rw [s1] at o2
    have hz : HeldN w (w.heap.size + 1) 3 27 [] w2 := ⟨b1.trans (b2.mono b1.size), by omega, by simp, _, rfl, o2, notInt3⟩
    clear e1 e2 s2
    have hc := new_num w2 n d HH.out.1 HH.out.2.1 HD.out.2 HH.out.2.2 HD.out.1
    rw [HG.out] at hc
    refine Calls.mono hc ?_
    clear hc
    rintro e w3 ⟨vr, rfl, hr, hb⟩
    obtain ⟨vrn, vrd, rfl, hrn, hrd⟩ := id hr
    obtain ⟨Ar1, cr1, rfl, _⟩ := id hrn
    obtain ⟨Ar2, cr2, rfl, _⟩ := id hrd
    have hz := HeldN.call (And.intro hz trivial) hb
    obtain ⟨w4, e4, o4, b4, s4⟩ := layA w3 [.bool (decide (q.num < 0)), .slice Ar1 (digs b64 q.num.natAbs).length cr1, .slice Ar2 (digs b64 (denOf q.den)).length cr2] 27
    have hr4 := hr.below b4
    have hz := HeldN.call (And.intro hz trivial) b4
    have k0 := hz.cellR (i := 0) (by omega)
    have k1 := hz.cellR (i := 1) (by omega)
    have k2 := hz.cellR (i := 2) (by omega)
    have k3 := hz.fzR 0
    have k4 := hz.fzR 1
    have k5 := hz.fzR 2
    have k6 := o4.cell (i := 0) rfl
    have k7 := o4.cell (i := 1) rfl
    have k8 := o4.cell (i := 2) rfl
    go_wp2
    obtain ⟨wf, HW, ho, hB, hN⟩ := hz.fin [_, _, _] rfl (notInt3 (b := decide (q.num < 0)) (A1 := Ar1) (l1 := (digs b64 q.num.natAbs).length) (c1 := cr1) (A2 := Ar2) (l2 := (digs b64 (denOf q.den)).length) (c2 := cr2))
    simp only [setAll, Nat.reduceAdd] at HW
    rw [HW]
    (try simp only [Exit.inBlock, Exit.then])
    have f0 := ho.cell (i := 0) rfl
    have f1 := ho.cell (i := 1) rfl
    have f2 := ho.cell (i := 2) rfl
    refine bodyPost_ret (by simp [results, Try.results6, go_sem, f0, f1, f2]; try rfl) rfl ?_
    exact ⟨_, rfl, hr4.into hN, hB⟩
end Wx
