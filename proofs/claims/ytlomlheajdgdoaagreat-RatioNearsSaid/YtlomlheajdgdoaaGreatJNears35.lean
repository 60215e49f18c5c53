import Derived.Test.YtlomlheajdgdoaaGreatProg
import Derived.Handy
import Derived.Deep.RegionHeld3
import Derived.Test.YtlomlheajdgdoaaGreatJNears0
import Derived.Test.YtlomlheajdgdoaaGreatJNears1
import Derived.Test.YtlomlheajdgdoaaGreatCRat1
import Derived.Test.YtlomlheajdgdoaaGreatJNears10
import Derived.Test.YtlomlheajdgdoaaGreatJNears13
import Derived.Test.YtlomlheajdgdoaaGreatJNears24
import Derived.Test.YtlomlheajdgdoaaGreatJNears20
import Derived.Test.YtlomlheajdgdoaaGreatJNears25
import Derived.Test.YtlomlheajdgdoaaGreatCNAdd
import Derived.Test.YtlomlheajdgdoaaGreatJNears12
import Derived.Test.YtlomlheajdgdoaaGreatJNears33
import Derived.Laws.IdiomStrings
import Derived.Test.YtlomlheajdgdoaaGreatJNears22
import Derived.Test.YtlomlheajdgdoaaGreatJNears15
import Derived.Test.YtlomlheajdgdoaaGreatCText
import Derived.Test.YtlomlheajdgdoaaGreatJNears18
import Derived.Test.YtlomlheajdgdoaaGreatCRat3
import Derived.Test.YtlomlheajdgdoaaGreatCSem
import Derived.Test.YtlomlheajdgdoaaGreatCSemOps
import Derived.Test.YtlomlheajdgdoaaGreatCSemMem
import Derived.Test.YtlomlheajdgdoaaGreatCSemCode
import Derived.Test.YtlomlheajdgdoaaGreatJNears30
import Derived.Test.YtlomlheajdgdoaaGreatJNears32
import Derived.Test.YtlomlheajdgdoaaGreatJNears3
import Derived.Test.YtlomlheajdgdoaaGreatJNears8
import Derived.Test.YtlomlheajdgdoaaGreatCDown
namespace Wx
open Go Go.RowKit Go.Proofs

set_option maxRecDepth 100000 in
set_option maxHeartbeats 2000000 in
theorem nsub_num (w : World) (vx vy : Value) (x y : Rat) (hx : IsRef w vx x) (hy : IsRef w vy y) {j k : Nat} (hj : BdR j x) (hk : BdR k y) (hjk : j + k + j + k + 1 ≤ 10000000) : Calls Tryz.prog 85 #[vx, vy] w (RetRef w (x - y)) := by
  obtain ⟨vx1, vx2, rfl, hxa, hxb⟩ := id hx
  obtain ⟨Ax1, cx1, rfl, _⟩ := id hxa
  obtain ⟨Ax2, cx2, rfl, _⟩ := id hxb
  obtain ⟨vy1, vy2, rfl, hya, hyb⟩ := id hy
  obtain ⟨Ay1, cy1, rfl, _⟩ := id hya
  obtain ⟨Ay2, cy2, rfl, _⟩ := id hyb
  have hx0 := hx
  have hy0 := hy
  clear hx hy hxa hxb hya hyb
  have HB := bx (And.intro hj hk.neg)
  have HQ := bx (Rat.sub_eq_add_neg x y)
  clear hj hk
  go_enter Tryz.func85, Tryz.ntmps85
  go_wp2_with fail
  obtain ⟨w1, e1, o1, b1, s1⟩ := layA w [.bool (decide (x.num < 0)), .slice Ax1 (digs b32 x.num.natAbs).length cx1, .slice Ax2 (digs b32 x.den).length cx2] 33
  obtain ⟨w2, e2, o2, b2, s2⟩ := layA w1 [.bool (decide (y.num < 0)), .slice Ay1 (digs b32 y.num.natAbs).length cy1, .slice Ay2 (digs b32 y.den).length cy2] 33
  obtain ⟨w3, e3, o3, b3, s3⟩ := layA w2 [.bool false, .slice none 0 0, .slice none 0 0] 33
  rw [e1, e2, e3]
  rw [s1] at o2
  rw [s2, s1] at o3
  have p1 := ((o1.gone b2).gone b3)
  have p2 := (o2.gone b3)
  have p3 := o3
  have B0 := ((b1.trans (b2.mono b1.size)).trans (b3.mono (b1.trans (b2.mono b1.size)).size))
  have hS : ∀ w', HeldN w (w.heap.size + 2) 3 33 [(w.heap.size, [.bool (decide (x.num < 0)), .slice Ax1 (digs b32 x.num.natAbs).length cx1, .slice Ax2 (digs b32 x.den).length cx2], 33), (w.heap.size + 1, [.bool (decide (y.num < 0)), .slice Ay1 (digs b32 y.num.natAbs).length cy1, .slice Ay2 (digs b32 y.den).length cy2], 33)] w' → HeldN w (w.heap.size + 2) 3 33 [(w.heap.size, [.bool (decide (x.num < 0)), .slice Ax1 (digs b32 x.num.natAbs).length cx1, .slice Ax2 (digs b32 x.den).length cx2], 33), (w.heap.size + 1, [.bool (decide (y.num < 0)), .slice Ay1 (digs b32 y.num.natAbs).length cy1, .slice Ay2 (digs b32 y.den).length cy2], 33)] w' ∧ w'.cell? ⟨w.heap.size, 0, none⟩ = some (.bool (decide (x.num < 0))) ∧ w'.cell? ⟨w.heap.size, 1, none⟩ = some (.slice Ax1 (digs b32 x.num.natAbs).length cx1) ∧ w'.cell? ⟨w.heap.size, 2, none⟩ = some (.slice Ax2 (digs b32 x.den).length cx2) ∧ w'.cell? ⟨w.heap.size + 1, 0, none⟩ = some (.bool (decide (y.num < 0))) ∧ w'.cell? ⟨w.heap.size + 1, 1, none⟩ = some (.slice Ay1 (digs b32 y.num.natAbs).length cy1) ∧ w'.cell? ⟨w.heap.size + 1, 2, none⟩ = some (.slice Ay2 (digs b32 y.den).length cy2) ∧ w'.cell? ⟨w.heap.size + 2, 0, none⟩ = some (cv w' ⟨w.heap.size + 2, 0, none⟩) ∧ w'.cell? ⟨w.heap.size + 2, 1, none⟩ = some (cv w' ⟨w.heap.size + 2, 1, none⟩) ∧ w'.cell? ⟨w.heap.size + 2, 2, none⟩ = some (cv w' ⟨w.heap.size + 2, 2, none⟩) ∧ w'.frozen? ⟨w.heap.size + 2, 0, none⟩ = false ∧ w'.frozen? ⟨w.heap.size + 2, 1, none⟩ = false ∧ w'.frozen? ⟨w.heap.size + 2, 2, none⟩ = false := fun w' hh => by
    have r1 := hh.par (p := (w.heap.size, [.bool (decide (x.num < 0)), .slice Ax1 (digs b32 x.num.natAbs).length cx1, .slice Ax2 (digs b32 x.den).length cx2], 33)) (by simp)
    have r2 := hh.par (p := (w.heap.size + 1, [.bool (decide (y.num < 0)), .slice Ay1 (digs b32 y.num.natAbs).length cy1, .slice Ay2 (digs b32 y.den).length cy2], 33)) (by simp)
    exact ⟨hh, r1.cell (i := 0) rfl, r1.cell (i := 1) rfl, r1.cell (i := 2) rfl, r2.cell (i := 0) rfl, r2.cell (i := 1) rfl, r2.cell (i := 2) rfl, hh.cellR (i := 0) (by omega), hh.cellR (i := 1) (by omega), hh.cellR (i := 2) (by omega), hh.fzR 0, hh.fzR 1, hh.fzR 2⟩
  have hz : HeldN w (w.heap.size + 2) 3 33 [(w.heap.size, [.bool (decide (x.num < 0)), .slice Ax1 (digs b32 x.num.natAbs).length cx1, .slice Ax2 (digs b32 x.den).length cx2], 33), (w.heap.size + 1, [.bool (decide (y.num < 0)), .slice Ay1 (digs b32 y.num.natAbs).length cy1, .slice Ay2 (digs b32 y.den).length cy2], 33)] w3 := ⟨B0, by omega, by intro q hq; simp at hq; rcases hq with rfl | rfl; exact ⟨by simp, p1⟩; exact ⟨by simp, p2⟩, _, rfl, p3, notInt3⟩
  clear e1 e2 e3 o1 b1 s1 p1 o2 b2 s2 p2 o3 b3 s3 p3
  clear B0
  have hz := hz.drew
  go_region_held3 (fun w' => HeldN w (w.heap.size + 2) 3 33 [(w.heap.size, [.bool (decide (x.num < 0)), .slice Ax1 (digs b32 x.num.natAbs).length cx1, .slice Ax2 (digs b32 x.den).length cx2], 33), (w.heap.size + 1, [.bool (decide (y.num < 0)), .slice Ay1 (digs b32 y.num.natAbs).length cy1, .slice Ay2 (digs b32 y.den).length cy2], 33)] w' ∧ w'.cell? ⟨w.heap.size, 0, none⟩ = some (.bool (decide (x.num < 0))) ∧ w'.cell? ⟨w.heap.size, 1, none⟩ = some (.slice Ax1 (digs b32 x.num.natAbs).length cx1) ∧ w'.cell? ⟨w.heap.size, 2, none⟩ = some (.slice Ax2 (digs b32 x.den).length cx2) ∧ w'.cell? ⟨w.heap.size + 1, 0, none⟩ = some (.bool (decide (y.num < 0))) ∧ w'.cell? ⟨w.heap.size + 1, 1, none⟩ = some (.slice Ay1 (digs b32 y.num.natAbs).length cy1) ∧ w'.cell? ⟨w.heap.size + 1, 2, none⟩ = some (.slice Ay2 (digs b32 y.den).length cy2) ∧ w'.cell? ⟨w.heap.size + 2, 0, none⟩ = some (cv w' ⟨w.heap.size + 2, 0, none⟩) ∧ w'.cell? ⟨w.heap.size + 2, 1, none⟩ = some (cv w' ⟨w.heap.size + 2, 1, none⟩) ∧ w'.cell? ⟨w.heap.size + 2, 2, none⟩ = some (cv w' ⟨w.heap.size + 2, 2, none⟩) ∧ w'.frozen? ⟨w.heap.size + 2, 0, none⟩ = false ∧ w'.frozen? ⟨w.heap.size + 2, 1, none⟩ = false ∧ w'.frozen? ⟨w.heap.size + 2, 2, none⟩ = false)
    (first | exact hS _ hz | exact hS _ (HeldN.sets3 hz))
    (first
      | (go_at_call 74; (with_reducible refine Calls.mono (nneg_num _ _ y (hy0.below hz.b)) ?_); rintro e wz ⟨vn, rfl, hn, hb⟩; have hz := HeldN.call (And.intro hz trivial) hb)
      | (go_at_call 83; (with_reducible refine Calls.mono (nadd_num _ _ _ x (-y) (hx0.below hz.b) hn HB.out.1 HB.out.2 hjk) ?_); rintro e wz ⟨vr, rfl, hr, hb⟩; have hz := HeldN.call (And.intro hz trivial) hb; rw [← HQ.out] at hr; obtain ⟨vr1, vr2, rfl, hra, hrb⟩ := id hr; obtain ⟨Ar1, cr1, rfl, _⟩ := id hra; obtain ⟨Ar2, cr2, rfl, _⟩ := id hrb))
  all_goals (
    go_wp2
    obtain ⟨wf, HW, ho, hB, hN⟩ := hz.fin [.bool (decide ((x - y).num < 0)), .slice Ar1 (digs b32 (x - y).num.natAbs).length cr1, .slice Ar2 (digs b32 (x - y).den).length cr2] rfl notInt3
    simp only [setAll, Nat.reduceAdd] at HW
    (try rw [HW])
    (try simp only [Exit.inBlock, Exit.then])
    have f0 := ho.cell (i := 0) rfl
    have f1 := ho.cell (i := 1) rfl
    have f2 := ho.cell (i := 2) rfl
    refine bodyPost_ret (by simp [results, Tryz.results85, go_sem, f0, f1, f2]; try rfl) rfl ?_
    exact ⟨_, rfl, hr.into hN, hB⟩)
end Wx

namespace Wx
open Go Go.RowKit Go.Proofs

theorem sgn_sub (x y : Rat) : sgnI (x - y) = cmpT x y := by rw [sgnI_eq]; exact cmpT_sub x y
set_option maxRecDepth 100000 in
set_option maxHeartbeats 1000000 in
theorem ncmp_num (w : World) (vx vy : Value) (x y : Rat) (hx : IsRef w vx x) (hy : IsRef w vy y) {j k : Nat} (hj : BdR j x) (hk : BdR k y) (hjk : j + k + j + k + 1 ≤ 10000000) : Calls Tryz.prog 113 #[vx, vy] w (RetIs w (.int .i64 (cmpT x y))) := by
  obtain ⟨vx1, vx2, rfl, hxa, hxb⟩ := id hx
  obtain ⟨Ax1, cx1, rfl, _⟩ := id hxa
  obtain ⟨Ax2, cx2, rfl, _⟩ := id hxb
  obtain ⟨vy1, vy2, rfl, hya, hyb⟩ := id hy
  obtain ⟨Ay1, cy1, rfl, _⟩ := id hya
  obtain ⟨Ay2, cy2, rfl, _⟩ := id hyb
  have hx0 := hx
  have hy0 := hy
  clear hx hy hxa hxb hya hyb
  have HB := bx (And.intro hj hk)
  clear hj hk
  go_enter Tryz.func113, Tryz.ntmps113
  go_wp2_with fail
  obtain ⟨w1, e1, oX, b1, s1⟩ := layA w [.bool (decide (x.num < 0)), .slice Ax1 (digs b32 x.num.natAbs).length cx1, .slice Ax2 (digs b32 x.den).length cx2] 33
  rw [e1]
  clear e1
  replace hx0 := hx0.below b1
  replace hy0 := hy0.below b1
  have B := b1
  clear b1
  obtain ⟨w2, e2, oY, b2, s2⟩ := layA w1 [.bool (decide (y.num < 0)), .slice Ay1 (digs b32 y.num.natAbs).length cy1, .slice Ay2 (digs b32 y.den).length cy2] 33
  rw [e2]
  rw [s1] at oY
  clear e2
  replace hx0 := hx0.below b2
  replace hy0 := hy0.below b2
  replace oX := oX.gone b2
  replace B := B.trans (b2.mono B.size)
  clear b2
  refine Calls.mono (nsub_num _ _ _ x y hx0 hy0 HB.out.1 HB.out.2 hjk) ?_
  rintro e w3 ⟨vr, rfl, hr, b3⟩
  replace hx0 := hx0.below b3
  replace hy0 := hy0.below b3
  replace oX := oX.gone b3
  replace oY := oY.gone b3
  replace B := B.trans (b3.mono B.size)
  clear b3
  go_wp2_with fail
  have hc := nsign_num _ _ (x - y) hr
  rw [sgn_sub] at hc
  refine Calls.mono (hc) ?_
  rintro e w4 ⟨rfl, b4⟩
  replace hx0 := hx0.below b4
  replace hy0 := hy0.below b4
  replace oX := oX.gone b4
  replace oY := oY.gone b4
  replace hr := hr.below b4
  replace B := B.trans (b4.mono B.size)
  clear b4
  clear hc
  go_wp2
  go_ret
  exact ⟨rfl, B⟩
end Wx

namespace Wx
open Go Go.RowKit Go.Proofs
end Wx

namespace Wx
open Go Go.RowKit Go.Proofs
end Wx

namespace Wx
open Go Go.RowKit Go.Proofs
end Wx

namespace Wx
open Go Go.RowKit Go.Proofs

/-- A fraction of the reference. -/
def pRef (q : Rat) : Pred := fun w v => IsRef w v q
theorem numlike_ref (q : Rat) : Numlike (pRef q) := by
  rintro M w v hM ⟨vn, vd, rfl, h1, h2⟩ w' he
  exact ⟨vn, vd, rfl, num_box hM (.inr rfl) h1 w' he, num_box hM (.inr rfl) h2 w' he⟩
theorem fits_ref (q : Rat) : Fits 3 true (pRef q) := by
  rintro w v ⟨vn, vd, rfl, h1, h2⟩
  obtain ⟨A, c, rfl, _⟩ := h1
  obtain ⟨B, d, rfl, _⟩ := h2
  refine ⟨[_, _, _], rfl, rfl, rfl, ?_⟩
  intro u hu
  simp at hu
  rcases hu with rfl | rfl | rfl
  · exact ⟨noU_bool _, rfl⟩
  · exact ⟨noU_slice _ _ _, rfl⟩
  · exact ⟨noU_slice _ _ _, rfl⟩
theorem pRef_eq {x y : Rat} (h : x = y) : ∀ w v, pRef x w v → pRef y w v := fun _ _ k => h ▸ k
theorem ret_fe {w : World} {q : Rat} {n : Int} {e : Ending} {w' : World} (h : RetFE w q n e w') : Ret (pTup2 (pRef q) (pI n)) w e w' := by
  obtain ⟨v, rfl, h1, h2⟩ := h
  exact ⟨_, rfl, ⟨v, _, rfl, h1, rfl⟩, h2⟩
theorem cn_sub {x y : Rat} {j k : Nat} (hx : BdR j x) (hy : BdR k y) (h : j + k + j + k + 1 ≤ 10000000) : ∀ w v1 v2, pRef x w v1 → pRef y w v2 → Calls Tryz.prog 85 #[v1, v2] w (Ret (pRef (x - y)) w) :=
  fun w v1 v2 h1 h2 => nsub_num w v1 v2 x y h1 h2 hx hy h
theorem cn_mul {x y : Rat} {j k : Nat} (hx : BdR j x) (hy : BdR k y) (h : j + k ≤ 10000000) : ∀ w v1 v2, pRef x w v1 → pRef y w v2 → Calls Tryz.prog 14 #[v1, v2] w (Ret (pRef (x * y)) w) :=
  fun w v1 v2 h1 h2 => nmul_num w v1 v2 x y h1 h2 hx hy h
theorem cn_zero (x : Rat) : ∀ w v1, pRef x w v1 → Calls Tryz.prog 88 #[v1] w (Ret (pB (decide (x = 0))) w) := fun w v1 h1 => (nzero_num w v1 x h1).mono fun _ _ => ret_is
theorem cn_cmp {x y : Rat} {j k : Nat} (hx : BdR j x) (hy : BdR k y) (h : j + k + j + k + 1 ≤ 10000000) : ∀ w v1 v2, pRef x w v1 → pRef y w v2 → Calls Tryz.prog 113 #[v1, v2] w (Ret (pI (cmpT x y)) w) :=
  fun w v1 v2 h1 h2 => (ncmp_num w v1 v2 x y h1 h2 hx hy h).mono fun _ _ => ret_is
theorem cn_int (n : Int) (h1 : -9223372036854775808 ≤ n) (h2 : n ≤ 9223372036854775807) : ∀ w v1, pI n w v1 → Calls Tryz.prog 10 #[v1] w (Ret (pRef (n : Rat)) w) := fun w v1 h => by
  have h : v1 = .int .i64 n := h
  rw [h]
  exact nint_num w n h1 h2
theorem cn_new_ok {n d : Int} (h1 : -9223372036854775808 ≤ n) (h2 : n ≤ 9223372036854775807) (h3 : -9223372036854775808 ≤ d) (h4 : d ≤ 9223372036854775807) (hd : d ≠ 0) : ∀ w v1 v2, pI n w v1 → pI d w v2 → Calls Tryz.prog 12 #[v1, v2] w (Ret (pTup2 (pRef (newR n d)) (pI 0)) w) := fun w v1 v2 e1 e2 => by
  have e1 : v1 = .int .i64 n := e1
  have e2 : v2 = .int .i64 d := e2
  rw [e1, e2]
  exact (nnew_num w n d h1 h2 h3 h4 hd).mono fun _ _ => ret_fe
end Wx

namespace Wx

/-- The greatest whole number not above q. -/
def floorR (q : Rat) : Rat := redR (decide (q.num < 0)) (q.num.natAbs / q.den + (if q.num < 0 ∧ 0 < q.num.natAbs % q.den then 1 else 0)) 1
theorem sg_floor (z : Int) (d : Nat) (hd : 0 < d) : sg (decide (z < 0)) (z.natAbs / d + (if z < 0 ∧ 0 < z.natAbs % d then 1 else 0)) = z / (d : Int) := by
  have h1 := Nat.div_add_mod z.natAbs d
  have h2 := Nat.mod_lt z.natAbs hd
  have h3 := Int.mul_ediv_add_emod z (d : Int)
  have h4 := Int.emod_nonneg z (show (d : Int) ≠ 0 by omega)
  have h5 := Int.emod_lt_of_pos z (show (0 : Int) < (d : Int) by omega)
  by_cases hz : z < 0
  · rw [decide_eq_true hz]
    simp only [sg, if_true]
    have e : z = -((z.natAbs : Nat) : Int) := by omega
    generalize z.natAbs = m at *
    subst e
    rcases Nat.eq_zero_or_pos (m % d) with h0 | h0
    · rw [if_neg (by omega), Nat.add_zero]
      symm
      have e2 : -((m : Nat) : Int) = (d : Int) * (-((m / d : Nat) : Int)) := by
        have : (m : Int) = (d : Int) * ((m / d : Nat) : Int) := by rw [← Int.natCast_mul]; omega
        rw [Int.mul_neg, ← this]
      rw [e2, Int.mul_ediv_cancel_left _ (by omega)]
    · rw [if_pos ⟨hz, h0⟩]
      symm
      have e2 : -((m : Nat) : Int) = (d : Int) * (-((m / d + 1 : Nat) : Int)) + ((d - m % d : Nat) : Int) := by
        have h6 : (m : Int) = (d : Int) * ((m / d : Nat) : Int) + ((m % d : Nat) : Int) := by rw [← Int.natCast_mul]; omega
        rw [Int.natCast_add, Int.neg_add, Int.mul_add, Int.mul_neg]
        omega
      rw [e2, Int.add_comm, Int.add_mul_ediv_left _ _ (by omega), Int.ediv_eq_zero_of_lt (by omega) (by omega)]
      omega
  · rw [decide_eq_false hz, if_neg (by omega), Nat.add_zero]
    simp only [sg, Bool.false_eq_true, if_false]
    have e : z = ((z.natAbs : Nat) : Int) := by omega
    generalize z.natAbs = m at *
    subst e
    exact Int.natCast_ediv m d
theorem floor_div (n : Int) (d : Nat) (hd : 0 < d) : ((n : Rat) / (d : Rat)).floor = n / (d : Int) := by
  have hd' : (0 : Rat) < ((d : Nat) : Rat) := by exact_mod_cast hd
  have key : ∀ z : Int, z ≤ ((n : Rat) / (d : Rat)).floor ↔ z ≤ n / (d : Int) := by
    intro z
    rw [Rat.le_floor_iff, Int.le_ediv_iff_mul_le (by omega)]
    rw [← Rat.not_lt, Rat.div_lt_iff hd']
    have e : (z : Rat) * ((d : Nat) : Rat) = ((z * (d : Int) : Int) : Rat) := by rw [Rat.intCast_mul, Rat.intCast_natCast]
    rw [e, Rat.intCast_lt_intCast]
    omega
  exact Int.le_antisymm ((key _).1 (Int.le_refl _)) ((key _).2 (Int.le_refl _))
theorem num_div_den (q : Rat) : (q.num : Rat) / ((q.den : Nat) : Rat) = q := by rw [← Rat.mkRat_eq_div, Rat.mkRat_self]
theorem floor_num_den (q : Rat) : q.floor = q.num / (q.den : Int) := by
  have := floor_div q.num q.den q.den_pos
  rwa [num_div_den] at this
theorem floorR_eq (q : Rat) : floorR q = (q.floor : Rat) := by
  unfold floorR redR
  rw [sg_floor _ _ q.den_pos, Rat.mkRat_one, floor_num_den]
end Wx

namespace Wx
open Go

/-- Whole: the number and whether it is one. -/
def wholeB (q : Rat) : Bool := decide (q.den = 1) && decide (-9223372036854775808 ≤ q.num ∧ q.num ≤ 9223372036854775807)
def wholeZ (q : Rat) : Int := if wholeB q then q.num else 0
theorem whole_int {z : Int} (h1 : -9223372036854775808 ≤ z) (h2 : z ≤ 9223372036854775807) : wholeB (z : Rat) = true ∧ wholeZ (z : Rat) = z := by
  have h : wholeB (z : Rat) = true := by
    unfold wholeB
    rw [Rat.num_intCast, Rat.den_intCast, decide_eq_true rfl, decide_eq_true ⟨h1, h2⟩]; rfl
  refine ⟨h, ?_⟩
  unfold wholeZ
  rw [if_pos h, Rat.num_intCast]
theorem whole_yes {q : Rat} (hd : q.den = 1) (h1 : -9223372036854775808 ≤ q.num) (h2 : q.num ≤ 9223372036854775807) : wholeB q = true ∧ wholeZ q = q.num := by
  have h : wholeB q = true := by
    unfold wholeB
    rw [decide_eq_true hd, decide_eq_true ⟨h1, h2⟩]; rfl
  exact ⟨h, by unfold wholeZ; rw [if_pos h]⟩
theorem whole_den {q : Rat} (hd : q.den ≠ 1) : wholeB q = false ∧ wholeZ q = 0 := by
  have h : wholeB q = false := by unfold wholeB; rw [decide_eq_false hd]; rfl
  exact ⟨h, by unfold wholeZ; rw [h]; rfl⟩
theorem whole_big {q : Rat} (h' : q.num < -9223372036854775808 ∨ 9223372036854775807 < q.num) : wholeB q = false ∧ wholeZ q = 0 := by
  have h : wholeB q = false := by
    unfold wholeB
    rw [decide_eq_false (p := _ ∧ _) (by omega), Bool.and_false]
  exact ⟨h, by unfold wholeZ; rw [h]; rfl⟩
end Wx

namespace Wx
open Go Go.RowKit Go.Proofs

/-- What Whole hands back. -/
def RetWhole (w : World) (q : Rat) (e : Ending) (w' : World) : Prop := e = .returned (.tuple #[.int .i64 (wholeZ q), .bool (wholeB q)]) ∧ Below w.heap.size w w'
theorem ret_whole {w w' : World} {q : Rat} {z : Int} {b : Bool} (h : wholeB q = b ∧ wholeZ q = z) (hb : Below w.heap.size w w') : RetWhole w q (.returned (.tuple #[.int .i64 z, .bool b])) w' := by
  unfold RetWhole
  rw [h.1, h.2]
  exact ⟨rfl, hb⟩
theorem natAbs_neg {z : Int} {n : Nat} (h : z.natAbs = n) (hn : z < 0) : z = -(n : Int) := by omega
theorem natAbs_pos {z : Int} {n : Nat} (h : z.natAbs = n) (hn : ¬ z < 0) : z = (n : Int) := by omega

end Wx

namespace Wx
open Go Go.RowKit Go.Proofs

/-- The size of a number. -/
def absR (q : Rat) : Rat := if q.num < 0 then -q else q
theorem absR_num (q : Rat) : (absR q).num.natAbs = q.num.natAbs ∧ (absR q).den = q.den ∧ decide ((absR q).num < 0) = false := by
  unfold absR
  split
  · next h => exact ⟨by rw [Rat.neg_num, Int.natAbs_neg], rfl, by rw [Rat.neg_num]; exact decide_eq_false (by omega)⟩
  · next h => exact ⟨rfl, rfl, decide_eq_false h⟩
end Wx

namespace Wx
open Go Go.RowKit Go.Proofs

set_option maxRecDepth 100000 in
set_option maxHeartbeats 1000000 in
theorem nabs_num (w : World) (vx : Value) (x : Rat) (hx : IsRef w vx x) : Calls Tryz.prog 114 #[vx] w (RetRef w (absR x)) := by
  obtain ⟨vx1, vx2, rfl, hxa, hxb⟩ := id hx
  obtain ⟨Ax1, cx1, rfl, _⟩ := id hxa
  obtain ⟨Ax2, cx2, rfl, _⟩ := id hxb
  obtain ⟨a1, a2, a3⟩ := absR_num x
  go_enter Tryz.func114, Tryz.ntmps114
  go_wp2
  obtain ⟨w1, e1, o1, b1, s1⟩ := layA w [.bool (decide (x.num < 0)), .slice Ax1 (digs b32 x.num.natAbs).length cx1, .slice Ax2 (digs b32 x.den).length cx2] 33
  obtain ⟨w2, e2, o2, b2, s2⟩ := layA w1 [.bool false, .slice Ax1 (digs b32 x.num.natAbs).length cx1, .slice Ax2 (digs b32 x.den).length cx2] 33
  rw [e1, e2]
  rw [s1] at o2
  have f0 := o2.cell (i := 0) rfl
  have f1 := o2.cell (i := 1) rfl
  have f2 := o2.cell (i := 2) rfl
  have B := b1.trans (b2.mono b1.size)
  refine bodyPost_ret (by simp [results, Tryz.results114, go_sem, f0, f1, f2]; try rfl) rfl ?_
  exact ⟨_, rfl, ⟨_, _, by rw [a3], by rw [a1]; exact hxa.below B, by rw [a2]; exact hxb.below B⟩, B⟩
end Wx

namespace Wx

/-- 2^k as a fraction. -/
def pw (k : Nat) : Rat := ((2 ^ k : Nat) : Rat)
theorem pw_pos (k : Nat) : 0 < pw k := by
  unfold pw
  exact_mod_cast Nat.two_pow_pos k
end Wx
