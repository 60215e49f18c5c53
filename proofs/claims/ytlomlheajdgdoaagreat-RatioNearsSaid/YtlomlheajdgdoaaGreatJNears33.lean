import Derived.Test.YtlomlheajdgdoaaGreatProg
import Derived.Handy
import Derived.Deep.RegionHeld3
import Derived.Test.YtlomlheajdgdoaaGreatJNears0
import Derived.Test.YtlomlheajdgdoaaGreatJNears1
import Derived.Test.YtlomlheajdgdoaaGreatJNears10
import Derived.Test.YtlomlheajdgdoaaGreatJNears3
import Derived.Test.YtlomlheajdgdoaaGreatJNears8
import Derived.Test.YtlomlheajdgdoaaGreatCRat1
import Derived.Test.YtlomlheajdgdoaaGreatCRat3
import Derived.Test.YtlomlheajdgdoaaGreatJNears12
import Derived.Test.YtlomlheajdgdoaaGreatJNears20
import Derived.Test.YtlomlheajdgdoaaGreatJNears24
import Derived.Test.YtlomlheajdgdoaaGreatJNears25
import Derived.Test.YtlomlheajdgdoaaGreatJNears13
import Derived.Test.YtlomlheajdgdoaaGreatJNears21
namespace Wx
open Go Go.RowKit Go.Proofs
set_option linter.unusedVariables false

def HeldP (w : World) (e : TypeId) (ps : List (Nat × Value × Value × Value)) (w' : World) : Prop := Below w.heap.size w w' ∧ (∀ p ∈ ps, Obj3 w' p.1 p.2.1 p.2.2.1 p.2.2.2 e)
theorem HeldP.call {w : World} {e : TypeId} {ps : List (Nat × Value × Value × Value)} {w' w'' : World} {p : Prop} (h : HeldP w e ps w' ∧ p) (hb : Below w'.heap.size w' w'') : HeldP w e ps w'' := by
  obtain ⟨⟨h1, h3⟩, _⟩ := h
  exact ⟨h1.trans (hb.mono h1.size), fun p hp => (h3 p hp).gone hb⟩
theorem HeldP.drew {w : World} {e : TypeId} {ps : List (Nat × Value × Value × Value)} {w' : World} (h : HeldP w e ps w') : HeldP w e ps w'.drew := ⟨h.1.drew, h.2⟩
end Wx

namespace Wx
open Go Go.RowKit Go.Proofs

/-- The three-way comparison of fractions. -/
def cmpT (x y : Rat) : Int := if x < y then -1 else if x = y then 0 else 1
theorem num_lt_zero (q : Rat) : q.num < 0 ↔ q < 0 := by
  rw [Rat.lt_iff]
  simp
theorem sgnI_eq (q : Rat) : sgnI q = cmpT q 0 := by
  unfold sgnI cmpT
  by_cases h : q < 0
  · rw [if_pos ((num_lt_zero q).2 h), if_pos h]
  · rw [if_neg (fun h' => h ((num_lt_zero q).1 h')), if_neg h]
theorem cmpT_lt {x y : Rat} (h : x < y) : cmpT x y = -1 := if_pos h
theorem cmpT_eq {x y : Rat} (h : x = y) : cmpT x y = 0 := by unfold cmpT; rw [if_neg (by grind), if_pos h]
theorem cmpT_gt {x y : Rat} (h : y < x) : cmpT x y = 1 := by unfold cmpT; rw [if_neg (by grind), if_neg (by grind)]
theorem tri (x y : Rat) : x < y ∨ x = y ∨ y < x := by grind
theorem cmpI_val (m n : Nat) : (m < n ∧ cmpI m n = -1) ∨ (m = n ∧ cmpI m n = 0) ∨ (n < m ∧ cmpI m n = 1) := by
  unfold cmpI
  rcases Nat.lt_trichotomy m n with h | h | h
  · left; exact ⟨h, if_pos h⟩
  · right; left; exact ⟨h, by rw [if_neg (by omega), if_neg (by omega)]⟩
  · right; right; exact ⟨h, by rw [if_neg (by omega), if_pos h]⟩
theorem cmpT_sub (x y : Rat) : cmpT (x - y) 0 = cmpT x y := by
  rcases tri x y with h | h | h
  · rw [cmpT_lt h, cmpT_lt (by grind)]
  · rw [cmpT_eq h, cmpT_eq (by grind)]
  · rw [cmpT_gt h, cmpT_gt (by grind)]
theorem cmpT_mul (x y z : Rat) : cmpT (x * z) (y * z) = cmpT z 0 * cmpT x y := by
  rcases tri z 0 with hz | hz | hz
  · have hn : 0 < -z := by grind
    rcases tri x y with h | h | h
    · have h1 := Rat.mul_lt_mul_of_pos_right h hn
      rw [cmpT_lt hz, cmpT_lt h, cmpT_gt (by grind)]; rfl
    · rw [cmpT_lt hz, cmpT_eq h, cmpT_eq (by rw [h])]; rfl
    · have h1 := Rat.mul_lt_mul_of_pos_right h hn
      rw [cmpT_lt hz, cmpT_gt h, cmpT_lt (by grind)]; rfl
  · rw [cmpT_eq hz, Int.zero_mul, hz, cmpT_eq (by grind)]
  · rcases tri x y with h | h | h
    · rw [cmpT_gt hz, cmpT_lt h, cmpT_lt (Rat.mul_lt_mul_of_pos_right h hz)]; rfl
    · rw [cmpT_gt hz, cmpT_eq h, cmpT_eq (by rw [h])]; rfl
    · rw [cmpT_gt hz, cmpT_gt h, cmpT_gt (Rat.mul_lt_mul_of_pos_right h hz)]; rfl
end Wx

namespace Wx
open Go Go.RowKit Go.Proofs

set_option maxRecDepth 100000 in
set_option maxHeartbeats 1000000 in
theorem nsign_num (w : World) (vx : Value) (x : Rat) (hx : IsRef w vx x) : Calls Tryz.prog 142 #[vx] w (RetIs w (.int .i64 (sgnI x))) := by
  obtain ⟨vx1, vx2, rfl, hxa, hxb⟩ := id hx
  obtain ⟨Ax1, cx1, rfl, _⟩ := id hxa
  obtain ⟨Ax2, cx2, rfl, _⟩ := id hxb
  have hS : sgnI x = if x = 0 then 0 else if x.num < 0 then -1 else 1 := by
    unfold sgnI
    by_cases h : x = 0
    · subst h; rfl
    · rw [if_neg h, if_neg h]
  have hx0 := hx
  clear hx
  generalize sgnI x = z at *
  by_cases h2 : x = 0
  · rw [if_pos h2] at hS
    subst hS
    have HD := bx (decide_eq_true h2)
    clear h2
    go_enter Tryz.func142, Tryz.ntmps142
    go_wp2_with fail
    obtain ⟨w1, e1, oP, b1, s1⟩ := layA w [.bool (decide (x.num < 0)), .slice Ax1 (digs b32 x.num.natAbs).length cx1, .slice Ax2 (digs b32 x.den).length cx2] 33
    rw [e1]
    clear e1
    replace hx0 := hx0.below b1
    have B := b1
    clear b1
    have hc := nzero_num _ _ x hx0
    rw [HD.out] at hc
    refine Calls.mono (hc) ?_
    rintro e w2 ⟨rfl, b2⟩
    replace hx0 := hx0.below b2
    replace oP := oP.gone b2
    replace B := B.trans (b2.mono B.size)
    clear b2
    clear hc
    have k1 := oP.cell (i := 0) rfl
    have k2 := oP.cell (i := 1) rfl
    have k3 := oP.cell (i := 2) rfl
    go_wp2
    go_ret
    exact ⟨rfl, B⟩
  · rw [if_neg h2] at hS
    have HD := bx (decide_eq_false h2)
    clear h2
    by_cases h1 : x.num < 0
    · rw [if_pos h1] at hS
      subst hS
      rw [decide_eq_true h1] at *
      go_enter Tryz.func142, Tryz.ntmps142
      go_wp2_with fail
      obtain ⟨w1, e1, oP, b1, s1⟩ := layA w [.bool true, .slice Ax1 (digs b32 x.num.natAbs).length cx1, .slice Ax2 (digs b32 x.den).length cx2] 33
      rw [e1]
      clear e1
      replace hx0 := hx0.below b1
      have B := b1
      clear b1
      have hc := nzero_num _ _ x hx0
      rw [HD.out] at hc
      refine Calls.mono (hc) ?_
      rintro e w2 ⟨rfl, b2⟩
      replace hx0 := hx0.below b2
      replace oP := oP.gone b2
      replace B := B.trans (b2.mono B.size)
      clear b2
      clear hc
      have k1 := oP.cell (i := 0) rfl
      have k2 := oP.cell (i := 1) rfl
      have k3 := oP.cell (i := 2) rfl
      go_wp2
      go_ret
      exact ⟨rfl, B⟩
    · rw [if_neg h1] at hS
      subst hS
      rw [decide_eq_false h1] at *
      go_enter Tryz.func142, Tryz.ntmps142
      go_wp2_with fail
      obtain ⟨w1, e1, oP, b1, s1⟩ := layA w [.bool false, .slice Ax1 (digs b32 x.num.natAbs).length cx1, .slice Ax2 (digs b32 x.den).length cx2] 33
      rw [e1]
      clear e1
      replace hx0 := hx0.below b1
      have B := b1
      clear b1
      have hc := nzero_num _ _ x hx0
      rw [HD.out] at hc
      refine Calls.mono (hc) ?_
      rintro e w2 ⟨rfl, b2⟩
      replace hx0 := hx0.below b2
      replace oP := oP.gone b2
      replace B := B.trans (b2.mono B.size)
      clear b2
      clear hc
      have k1 := oP.cell (i := 0) rfl
      have k2 := oP.cell (i := 1) rfl
      have k3 := oP.cell (i := 2) rfl
      go_wp2
      go_ret
      exact ⟨rfl, B⟩
end Wx

namespace Wx
open Go Go.RowKit Go.Proofs

set_option maxRecDepth 100000 in
set_option maxHeartbeats 8000000 in
theorem nmul_num (w : World) (vx vy : Value) (x y : Rat) (hx : IsRef w vx x) (hy : IsRef w vy y) {j k : Nat} (hj : BdR j x) (hk : BdR k y) (hjk : j + k ≤ 10000000) : Calls Tryz.prog 14 #[vx, vy] w (RetRef w (x * y)) := by
  obtain ⟨vx1, vx2, rfl, hxa, hxb⟩ := id hx
  obtain ⟨Ax1, cx1, rfl, _⟩ := id hxa
  obtain ⟨Ax2, cx2, rfl, _⟩ := id hxb
  obtain ⟨vy1, vy2, rfl, hya, hyb⟩ := id hy
  obtain ⟨Ay1, cy1, rfl, _⟩ := id hya
  obtain ⟨Ay2, cy2, rfl, _⟩ := id hyb
  have hdx := x.den_pos
  have hdy := y.den_pos
  have HB := bx (And.intro hj hk)
  have hj1 : j ≤ 1000000000 := by omega
  have hk1 : k ≤ 1000000000 := by omega
  have hx0 := hx
  have hy0 := hy
  clear hj hk hx hy
  go_enter Tryz.func14, Tryz.ntmps14
  go_wp2_with fail
  obtain ⟨w1, e1, o1, b1, s1⟩ := layA w [.bool (decide (x.num < 0)), .slice Ax1 (digs b32 x.num.natAbs).length cx1, .slice Ax2 (digs b32 x.den).length cx2] 33
  obtain ⟨w2, e2, o2, b2, s2⟩ := layA w1 [.bool (decide (y.num < 0)), .slice Ay1 (digs b32 y.num.natAbs).length cy1, .slice Ay2 (digs b32 y.den).length cy2] 33
  obtain ⟨w3, e3, o3, b3, s3⟩ := layA w2 [.bool false, .slice none 0 0, .slice none 0 0] 33
  rw [e1, e2, e3]
  rw [s1] at o2
  rw [s2, s1] at o3
  have p1 := ((o1.gone b2).gone b3)
  have p2 := (o2.gone b3)
  have p3 := o3
  have B0 := ((b1.trans (b2.mono b1.size)).trans (b3.mono (b1.trans (b2.mono b1.size)).size))
  have hS : ∀ w', HeldN w (w.heap.size + 2) 3 33 [(w.heap.size, [.bool (decide (x.num < 0)), .slice Ax1 (digs b32 x.num.natAbs).length cx1, .slice Ax2 (digs b32 x.den).length cx2], 33), (w.heap.size + 1, [.bool (decide (y.num < 0)), .slice Ay1 (digs b32 y.num.natAbs).length cy1, .slice Ay2 (digs b32 y.den).length cy2], 33)] w' → HeldN w (w.heap.size + 2) 3 33 [(w.heap.size, [.bool (decide (x.num < 0)), .slice Ax1 (digs b32 x.num.natAbs).length cx1, .slice Ax2 (digs b32 x.den).length cx2], 33), (w.heap.size + 1, [.bool (decide (y.num < 0)), .slice Ay1 (digs b32 y.num.natAbs).length cy1, .slice Ay2 (digs b32 y.den).length cy2], 33)] w' ∧ w'.cell? ⟨w.heap.size, 0, none⟩ = some (.bool (decide (x.num < 0))) ∧ w'.cell? ⟨w.heap.size, 1, none⟩ = some (.slice Ax1 (digs b32 x.num.natAbs).length cx1) ∧ w'.cell? ⟨w.heap.size, 2, none⟩ = some (.slice Ax2 (digs b32 x.den).length cx2) ∧ w'.cell? ⟨w.heap.size + 1, 0, none⟩ = some (.bool (decide (y.num < 0))) ∧ w'.cell? ⟨w.heap.size + 1, 1, none⟩ = some (.slice Ay1 (digs b32 y.num.natAbs).length cy1) ∧ w'.cell? ⟨w.heap.size + 1, 2, none⟩ = some (.slice Ay2 (digs b32 y.den).length cy2) ∧ w'.cell? ⟨w.heap.size + 2, 0, none⟩ = some (cv w' ⟨w.heap.size + 2, 0, none⟩) ∧ w'.cell? ⟨w.heap.size + 2, 1, none⟩ = some (cv w' ⟨w.heap.size + 2, 1, none⟩) ∧ w'.cell? ⟨w.heap.size + 2, 2, none⟩ = some (cv w' ⟨w.heap.size + 2, 2, none⟩) ∧ w'.frozen? ⟨w.heap.size + 2, 0, none⟩ = false ∧ w'.frozen? ⟨w.heap.size + 2, 1, none⟩ = false ∧ w'.frozen? ⟨w.heap.size + 2, 2, none⟩ = false := fun w' hh => by
    have r1 := hh.par (p := (w.heap.size, [.bool (decide (x.num < 0)), .slice Ax1 (digs b32 x.num.natAbs).length cx1, .slice Ax2 (digs b32 x.den).length cx2], 33)) (by simp)
    have r2 := hh.par (p := (w.heap.size + 1, [.bool (decide (y.num < 0)), .slice Ay1 (digs b32 y.num.natAbs).length cy1, .slice Ay2 (digs b32 y.den).length cy2], 33)) (by simp)
    exact ⟨hh, r1.cell (i := 0) rfl, r1.cell (i := 1) rfl, r1.cell (i := 2) rfl, r2.cell (i := 0) rfl, r2.cell (i := 1) rfl, r2.cell (i := 2) rfl, hh.cellR (i := 0) (by omega), hh.cellR (i := 1) (by omega), hh.cellR (i := 2) (by omega), hh.fzR 0, hh.fzR 1, hh.fzR 2⟩
  have hz : HeldN w (w.heap.size + 2) 3 33 [(w.heap.size, [.bool (decide (x.num < 0)), .slice Ax1 (digs b32 x.num.natAbs).length cx1, .slice Ax2 (digs b32 x.den).length cx2], 33), (w.heap.size + 1, [.bool (decide (y.num < 0)), .slice Ay1 (digs b32 y.num.natAbs).length cy1, .slice Ay2 (digs b32 y.den).length cy2], 33)] w3 := ⟨B0, by omega, by intro q hq; simp at hq; rcases hq with rfl | rfl; exact ⟨by simp, p1⟩; exact ⟨by simp, p2⟩, _, rfl, p3, notInt3⟩
  clear e1 e2 e3 o1 b1 s1 p1 o2 b2 s2 p2 o3 b3 s3 p3
  clear B0
  have hz := hz.drew
  go_region_held3 (fun w' => HeldN w (w.heap.size + 2) 3 33 [(w.heap.size, [.bool (decide (x.num < 0)), .slice Ax1 (digs b32 x.num.natAbs).length cx1, .slice Ax2 (digs b32 x.den).length cx2], 33), (w.heap.size + 1, [.bool (decide (y.num < 0)), .slice Ay1 (digs b32 y.num.natAbs).length cy1, .slice Ay2 (digs b32 y.den).length cy2], 33)] w' ∧ w'.cell? ⟨w.heap.size, 0, none⟩ = some (.bool (decide (x.num < 0))) ∧ w'.cell? ⟨w.heap.size, 1, none⟩ = some (.slice Ax1 (digs b32 x.num.natAbs).length cx1) ∧ w'.cell? ⟨w.heap.size, 2, none⟩ = some (.slice Ax2 (digs b32 x.den).length cx2) ∧ w'.cell? ⟨w.heap.size + 1, 0, none⟩ = some (.bool (decide (y.num < 0))) ∧ w'.cell? ⟨w.heap.size + 1, 1, none⟩ = some (.slice Ay1 (digs b32 y.num.natAbs).length cy1) ∧ w'.cell? ⟨w.heap.size + 1, 2, none⟩ = some (.slice Ay2 (digs b32 y.den).length cy2) ∧ w'.cell? ⟨w.heap.size + 2, 0, none⟩ = some (cv w' ⟨w.heap.size + 2, 0, none⟩) ∧ w'.cell? ⟨w.heap.size + 2, 1, none⟩ = some (cv w' ⟨w.heap.size + 2, 1, none⟩) ∧ w'.cell? ⟨w.heap.size + 2, 2, none⟩ = some (cv w' ⟨w.heap.size + 2, 2, none⟩) ∧ w'.frozen? ⟨w.heap.size + 2, 0, none⟩ = false ∧ w'.frozen? ⟨w.heap.size + 2, 1, none⟩ = false ∧ w'.frozen? ⟨w.heap.size + 2, 2, none⟩ = false)
    (first | exact hS _ hz | exact hS _ (HeldN.sets3 hz))
    (first
      | (go_at_call 63; have hc := product_num _ _ _ _ _ (hxa.below hz.1) (hya.below hz.1) HB.out.1.1 HB.out.2.1 (by omega) (by omega); (with_reducible refine Calls.mono hc ?_); clear hc; rintro e wz ⟨vt1, rfl, ht1, hb⟩; (try have hux := hux.below hb); (try have huy := huy.below hb); (try have ht1 := ht1.below hb); (try have ht2 := ht2.below hb); (try have htd := htd.below hb); (try have hs1 := hs1.below hb); have hz := HeldN.call (And.intro hz trivial) hb)
      | (go_at_call 64; have hc := nunder_num _ _ x (hx0.below hz.1); (with_reducible refine Calls.mono hc ?_); clear hc; rintro e wz ⟨vux, rfl, hux, hb⟩; (try have hux := hux.below hb); (try have huy := huy.below hb); (try have ht1 := ht1.below hb); (try have ht2 := ht2.below hb); (try have htd := htd.below hb); (try have hs1 := hs1.below hb); have hz := HeldN.call (And.intro hz trivial) hb)
      | (go_at_call 64; have hc := nunder_num _ _ y (hy0.below hz.1); (with_reducible refine Calls.mono hc ?_); clear hc; rintro e wz ⟨vuy, rfl, huy, hb⟩; (try have hux := hux.below hb); (try have huy := huy.below hb); (try have ht1 := ht1.below hb); (try have ht2 := ht2.below hb); (try have htd := htd.below hb); (try have hs1 := hs1.below hb); have hz := HeldN.call (And.intro hz trivial) hb)
      | (go_at_call 63; have hc := product_num _ _ _ _ _ hux huy HB.out.1.2 HB.out.2.2 (by omega) (by omega); (with_reducible refine Calls.mono hc ?_); clear hc; rintro e wz ⟨vt2, rfl, ht2, hb⟩; (try have hux := hux.below hb); (try have huy := huy.below hb); (try have ht1 := ht1.below hb); (try have ht2 := ht2.below hb); (try have htd := htd.below hb); (try have hs1 := hs1.below hb); have hz := HeldN.call (And.intro hz trivial) hb)
      | (go_at_call 57; have hc := made_num _ (!(decide (x.num < 0) == decide (y.num < 0))) _ _ (x.num.natAbs * y.num.natAbs) (x.den * y.den) ht1 ht2 (Nat.mul_pos hdx hdy) (HB.out.1.1.mul HB.out.2.1) (HB.out.1.2.mul HB.out.2.2) hjk; (with_reducible refine Calls.mono hc ?_); clear hc; rintro e wz ⟨vr, rfl, hr, hb⟩; (try have hux := hux.below hb); (try have huy := huy.below hb); (try have ht1 := ht1.below hb); (try have ht2 := ht2.below hb); (try have htd := htd.below hb); (try have hs1 := hs1.below hb); have hz := HeldN.call (And.intro hz trivial) hb; replace hr := isRef_of hr (mul_red x y); obtain ⟨vr1, vr2, rfl, hra, hrb⟩ := id hr; obtain ⟨Ar1, cr1, rfl, _⟩ := id hra; obtain ⟨Ar2, cr2, rfl, _⟩ := id hrb))
  all_goals (
    go_wp2
    obtain ⟨wf, HW, ho, hB, hN⟩ := hz.fin [.bool (decide ((x * y).num < 0)), .slice Ar1 (digs b32 (x * y).num.natAbs).length cr1, .slice Ar2 (digs b32 (x * y).den).length cr2] rfl notInt3
    simp only [setAll, Nat.reduceAdd] at HW
    (try rw [HW])
    (try simp only [Exit.inBlock, Exit.then])
    have f0 := ho.cell (i := 0) rfl
    have f1 := ho.cell (i := 1) rfl
    have f2 := ho.cell (i := 2) rfl
    refine bodyPost_ret (by simp [results, Tryz.results14, go_sem, f0, f1, f2]; try rfl) rfl ?_
    exact ⟨_, rfl, hr.into hN, hB⟩)
end Wx

namespace Wx
open Go Go.RowKit Go.Proofs
end Wx
