import Derived.Test.YtioicklnneebnaaGreatProg
import Derived.Handy
import Derived.Deep.RegionHeld3
import Derived.Test.YtioicklnneebnaaGreatPlain1
import Derived.Test.YtioicklnneebnaaGreatMem
import Derived.Test.YtioicklnneebnaaGreatJRounds3
import Derived.Test.YtioicklnneebnaaGreatCRat1
import Derived.Test.YtioicklnneebnaaGreatCRat2
import Derived.Test.YtioicklnneebnaaGreatJRounds16
import Derived.Test.YtioicklnneebnaaGreatJRounds18
import Derived.Test.YtioicklnneebnaaGreatJRounds23
import Derived.Test.YtioicklnneebnaaGreatJRounds25
import Derived.Test.YtioicklnneebnaaGreatJRounds31
import Derived.Test.YtioicklnneebnaaGreatJRounds38
import Derived.Test.YtioicklnneebnaaGreatCNRat2
import Derived.Test.YtioicklnneebnaaGreatCNAdd
namespace Wx
open Go Go.RowKit Go.Proofs

set_option maxRecDepth 100000 in
set_option maxHeartbeats 2000000 in
theorem nsub_num (w : World) (vx vy : Value) (x y : Rat) (hx : IsRef w vx x) (hy : IsRef w vy y) {j k : Nat} (hj : BdR j x) (hk : BdR k y) (hjk : j + k + j + k + 1 ≤ 10000000) : Calls Tryz.prog 22 #[vx, vy] w (RetRef w (x - y)) := by
  obtain ⟨vx1, vx2, rfl, hxa, hxb⟩ := id hx
  obtain ⟨Ax1, cx1, rfl, _⟩ := id hxa
  obtain ⟨Ax2, cx2, rfl, _⟩ := id hxb
  obtain ⟨vy1, vy2, rfl, hya, hyb⟩ := id hy
  obtain ⟨Ay1, cy1, rfl, _⟩ := id hya
  obtain ⟨Ay2, cy2, rfl, _⟩ := id hyb
  have hx0 := hx
  have hy0 := hy
  clear hx hy hxa hxb hya hyb
  have HB := bx (And.intro hj hk.neg)
  have HQ := bx (Rat.sub_eq_add_neg x y)
  clear hj hk
  go_enter Tryz.func22, Tryz.ntmps22
  go_wp2_with fail
  obtain ⟨w1, e1, o1, b1, s1⟩ := layA w [.bool (decide (x.num < 0)), .slice Ax1 (digs b32 x.num.natAbs).length cx1, .slice Ax2 (digs b32 x.den).length cx2] 31
  obtain ⟨w2, e2, o2, b2, s2⟩ := layA w1 [.bool (decide (y.num < 0)), .slice Ay1 (digs b32 y.num.natAbs).length cy1, .slice Ay2 (digs b32 y.den).length cy2] 31
  obtain ⟨w3, e3, o3, b3, s3⟩ := layA w2 [.bool false, .slice none 0 0, .slice none 0 0] 31
  rw [e1, e2, e3]
  rw [s1] at o2
  rw [s2, s1] at o3
  have p1 := ((o1.gone b2).gone b3)
  have p2 := (o2.gone b3)
  have p3 := o3
  have B0 := ((b1.trans (b2.mono b1.size)).trans (b3.mono (b1.trans (b2.mono b1.size)).size))
  have hS : ∀ w', HeldN w (w.heap.size + 2) 3 31 [(w.heap.size, [.bool (decide (x.num < 0)), .slice Ax1 (digs b32 x.num.natAbs).length cx1, .slice Ax2 (digs b32 x.den).length cx2], 31), (w.heap.size + 1, [.bool (decide (y.num < 0)), .slice Ay1 (digs b32 y.num.natAbs).length cy1, .slice Ay2 (digs b32 y.den).length cy2], 31)] w' → HeldN w (w.heap.size + 2) 3 31 [(w.heap.size, [.bool (decide (x.num < 0)), .slice Ax1 (digs b32 x.num.natAbs).length cx1, .slice Ax2 (digs b32 x.den).length cx2], 31), (w.heap.size + 1, [.bool (decide (y.num < 0)), .slice Ay1 (digs b32 y.num.natAbs).length cy1, .slice Ay2 (digs b32 y.den).length cy2], 31)] w' ∧ w'.cell? ⟨w.heap.size, 0, none⟩ = some (.bool (decide (x.num < 0))) ∧ w'.cell? ⟨w.heap.size, 1, none⟩ = some (.slice Ax1 (digs b32 x.num.natAbs).length cx1) ∧ w'.cell? ⟨w.heap.size, 2, none⟩ = some (.slice Ax2 (digs b32 x.den).length cx2) ∧ w'.cell? ⟨w.heap.size + 1, 0, none⟩ = some (.bool (decide (y.num < 0))) ∧ w'.cell? ⟨w.heap.size + 1, 1, none⟩ = some (.slice Ay1 (digs b32 y.num.natAbs).length cy1) ∧ w'.cell? ⟨w.heap.size + 1, 2, none⟩ = some (.slice Ay2 (digs b32 y.den).length cy2) ∧ w'.cell? ⟨w.heap.size + 2, 0, none⟩ = some (cv w' ⟨w.heap.size + 2, 0, none⟩) ∧ w'.cell? ⟨w.heap.size + 2, 1, none⟩ = some (cv w' ⟨w.heap.size + 2, 1, none⟩) ∧ w'.cell? ⟨w.heap.size + 2, 2, none⟩ = some (cv w' ⟨w.heap.size + 2, 2, none⟩) ∧ w'.frozen? ⟨w.heap.size + 2, 0, none⟩ = false ∧ w'.frozen? ⟨w.heap.size + 2, 1, none⟩ = false ∧ w'.frozen? ⟨w.heap.size + 2, 2, none⟩ = false := fun w' hh => by
    have r1 := hh.par (p := (w.heap.size, [.bool (decide (x.num < 0)), .slice Ax1 (digs b32 x.num.natAbs).length cx1, .slice Ax2 (digs b32 x.den).length cx2], 31)) (by simp)
    have r2 := hh.par (p := (w.heap.size + 1, [.bool (decide (y.num < 0)), .slice Ay1 (digs b32 y.num.natAbs).length cy1, .slice Ay2 (digs b32 y.den).length cy2], 31)) (by simp)
    exact ⟨hh, r1.cell (i := 0) rfl, r1.cell (i := 1) rfl, r1.cell (i := 2) rfl, r2.cell (i := 0) rfl, r2.cell (i := 1) rfl, r2.cell (i := 2) rfl, hh.cellR (i := 0) (by omega), hh.cellR (i := 1) (by omega), hh.cellR (i := 2) (by omega), hh.fzR 0, hh.fzR 1, hh.fzR 2⟩
  have hz : HeldN w (w.heap.size + 2) 3 31 [(w.heap.size, [.bool (decide (x.num < 0)), .slice Ax1 (digs b32 x.num.natAbs).length cx1, .slice Ax2 (digs b32 x.den).length cx2], 31), (w.heap.size + 1, [.bool (decide (y.num < 0)), .slice Ay1 (digs b32 y.num.natAbs).length cy1, .slice Ay2 (digs b32 y.den).length cy2], 31)] w3 := ⟨B0, by omega, by intro q hq; simp at hq; rcases hq with rfl | rfl; exact ⟨by simp, p1⟩; exact ⟨by simp, p2⟩, _, rfl, p3, notInt3⟩
  clear e1 e2 e3 o1 b1 s1 p1 o2 b2 s2 p2 o3 b3 s3 p3
  clear B0
  have hz := hz.drew
  go_region_held3 (fun w' => HeldN w (w.heap.size + 2) 3 31 [(w.heap.size, [.bool (decide (x.num < 0)), .slice Ax1 (digs b32 x.num.natAbs).length cx1, .slice Ax2 (digs b32 x.den).length cx2], 31), (w.heap.size + 1, [.bool (decide (y.num < 0)), .slice Ay1 (digs b32 y.num.natAbs).length cy1, .slice Ay2 (digs b32 y.den).length cy2], 31)] w' ∧ w'.cell? ⟨w.heap.size, 0, none⟩ = some (.bool (decide (x.num < 0))) ∧ w'.cell? ⟨w.heap.size, 1, none⟩ = some (.slice Ax1 (digs b32 x.num.natAbs).length cx1) ∧ w'.cell? ⟨w.heap.size, 2, none⟩ = some (.slice Ax2 (digs b32 x.den).length cx2) ∧ w'.cell? ⟨w.heap.size + 1, 0, none⟩ = some (.bool (decide (y.num < 0))) ∧ w'.cell? ⟨w.heap.size + 1, 1, none⟩ = some (.slice Ay1 (digs b32 y.num.natAbs).length cy1) ∧ w'.cell? ⟨w.heap.size + 1, 2, none⟩ = some (.slice Ay2 (digs b32 y.den).length cy2) ∧ w'.cell? ⟨w.heap.size + 2, 0, none⟩ = some (cv w' ⟨w.heap.size + 2, 0, none⟩) ∧ w'.cell? ⟨w.heap.size + 2, 1, none⟩ = some (cv w' ⟨w.heap.size + 2, 1, none⟩) ∧ w'.cell? ⟨w.heap.size + 2, 2, none⟩ = some (cv w' ⟨w.heap.size + 2, 2, none⟩) ∧ w'.frozen? ⟨w.heap.size + 2, 0, none⟩ = false ∧ w'.frozen? ⟨w.heap.size + 2, 1, none⟩ = false ∧ w'.frozen? ⟨w.heap.size + 2, 2, none⟩ = false)
    (first | exact hS _ hz | exact hS _ (HeldN.sets3 hz))
    (first
      | (go_at_call 45; (with_reducible refine Calls.mono (nneg_num _ _ y (hy0.below hz.b)) ?_); rintro e wz ⟨vn, rfl, hn, hb⟩; have hz := HeldN.call (And.intro hz trivial) hb)
      | (go_at_call 21; (with_reducible refine Calls.mono (nadd_num _ _ _ x (-y) (hx0.below hz.b) hn HB.out.1 HB.out.2 hjk) ?_); rintro e wz ⟨vr, rfl, hr, hb⟩; have hz := HeldN.call (And.intro hz trivial) hb; rw [← HQ.out] at hr; obtain ⟨vr1, vr2, rfl, hra, hrb⟩ := id hr; obtain ⟨Ar1, cr1, rfl, _⟩ := id hra; obtain ⟨Ar2, cr2, rfl, _⟩ := id hrb))
  all_goals (
    go_wp2
    obtain ⟨wf, HW, ho, hB, hN⟩ := hz.fin [.bool (decide ((x - y).num < 0)), .slice Ar1 (digs b32 (x - y).num.natAbs).length cr1, .slice Ar2 (digs b32 (x - y).den).length cr2] rfl notInt3
    simp only [setAll, Nat.reduceAdd] at HW
    (try rw [HW])
    (try simp only [Exit.inBlock, Exit.then])
    have f0 := ho.cell (i := 0) rfl
    have f1 := ho.cell (i := 1) rfl
    have f2 := ho.cell (i := 2) rfl
    refine bodyPost_ret (by simp [results, Tryz.results22, go_sem, f0, f1, f2]; try rfl) rfl ?_
    exact ⟨_, rfl, hr.into hN, hB⟩)
end Wx
