import Derived.Test.YtlomlheajdgdoaaGreatProg
import Derived.Handy
import Derived.Deep.RegionHeld3
import Derived.Test.YtlomlheajdgdoaaGreatJPairs0
import Derived.Test.YtlomlheajdgdoaaGreatJPairs1
import Derived.Test.YtlomlheajdgdoaaGreatCPairsRat1
import Derived.Test.YtlomlheajdgdoaaGreatJPairs9
import Derived.Test.YtlomlheajdgdoaaGreatJPairs18
import Derived.Test.YtlomlheajdgdoaaGreatJPairs26
import Derived.Test.YtlomlheajdgdoaaGreatJPairs22
import Derived.Test.YtlomlheajdgdoaaGreatJPairs23
import Derived.Test.YtlomlheajdgdoaaGreatCPairsNQuot
import Derived.Test.YtlomlheajdgdoaaGreatCPairsNAddS
import Derived.Test.YtlomlheajdgdoaaGreatJPairs29
import Derived.Laws.IdiomStrings
import Derived.Test.YtlomlheajdgdoaaGreatJPairs10
import Derived.Test.YtlomlheajdgdoaaGreatJPairs24
import Derived.Test.YtlomlheajdgdoaaGreatJPairs20
import Derived.Test.YtlomlheajdgdoaaGreatJPairs21
namespace Wx
open Go Go.RowKit Go.Proofs

theorem Num.drew' {k : IntKind} {b : Nat} {w : World} {v : Value} {n : Nat} (h : Num k b w v n) : Num k b w.drew v n := h
end Wx

namespace Wx
set_option maxRecDepth 100000
open Go Go.RowKit Go.Proofs

set_option maxHeartbeats 2000000 in
theorem nsub_num (w : World) (vx vy : Value) (x y : Rat) (hx : IsRef w vx x) (hy : IsRef w vy y) {j k : Nat} (hj : BdR j x) (hk : BdR k y) (hjk : j + k + j + k + 1 ≤ 10000000) : Calls Tryz.prog 85 #[vx, vy] w (RetRef w (x - y)) := by
  obtain ⟨vx1, vx2, rfl, hxa, hxb⟩ := id hx
  obtain ⟨Ax1, cx1, rfl, _⟩ := id hxa
  obtain ⟨Ax2, cx2, rfl, _⟩ := id hxb
  obtain ⟨vy1, vy2, rfl, hya, hyb⟩ := id hy
  obtain ⟨Ay1, cy1, rfl, _⟩ := id hya
  obtain ⟨Ay2, cy2, rfl, _⟩ := id hyb
  have hx0 := hx
  have hy0 := hy
  clear hx hy hxa hxb hya hyb
  have HB := bx (And.intro hj hk.neg)
  have HQ := bx (Rat.sub_eq_add_neg x y)
  clear hj hk
  go_enter Tryz.func85, Tryz.ntmps85
  go_wp2_with fail
  obtain ⟨w1, e1, o1, b1, s1⟩ := layA w [.bool (decide (x.num < 0)), .slice Ax1 (digs b32 x.num.natAbs).length cx1, .slice Ax2 (digs b32 x.den).length cx2] 33
  obtain ⟨w2, e2, o2, b2, s2⟩ := layA w1 [.bool (decide (y.num < 0)), .slice Ay1 (digs b32 y.num.natAbs).length cy1, .slice Ay2 (digs b32 y.den).length cy2] 33
  obtain ⟨w3, e3, o3, b3, s3⟩ := layA w2 [.bool false, .slice none 0 0, .slice none 0 0] 33
  rw [e1, e2, e3]
  rw [s1] at o2
  rw [s2, s1] at o3
  have p1 := ((o1.gone b2).gone b3)
  have p2 := (o2.gone b3)
  have p3 := o3
  have B0 := ((b1.trans (b2.mono b1.size)).trans (b3.mono (b1.trans (b2.mono b1.size)).size))
  have hS : ∀ w', HeldN w (w.heap.size + 2) 3 33 [(w.heap.size, [.bool (decide (x.num < 0)), .slice Ax1 (digs b32 x.num.natAbs).length cx1, .slice Ax2 (digs b32 x.den).length cx2], 33), (w.heap.size + 1, [.bool (decide (y.num < 0)), .slice Ay1 (digs b32 y.num.natAbs).length cy1, .slice Ay2 (digs b32 y.den).length cy2], 33)] w' → HeldN w (w.heap.size + 2) 3 33 [(w.heap.size, [.bool (decide (x.num < 0)), .slice Ax1 (digs b32 x.num.natAbs).length cx1, .slice Ax2 (digs b32 x.den).length cx2], 33), (w.heap.size + 1, [.bool (decide (y.num < 0)), .slice Ay1 (digs b32 y.num.natAbs).length cy1, .slice Ay2 (digs b32 y.den).length cy2], 33)] w' ∧ w'.cell? ⟨w.heap.size, 0, none⟩ = some (.bool (decide (x.num < 0))) ∧ w'.cell? ⟨w.heap.size, 1, none⟩ = some (.slice Ax1 (digs b32 x.num.natAbs).length cx1) ∧ w'.cell? ⟨w.heap.size, 2, none⟩ = some (.slice Ax2 (digs b32 x.den).length cx2) ∧ w'.cell? ⟨w.heap.size + 1, 0, none⟩ = some (.bool (decide (y.num < 0))) ∧ w'.cell? ⟨w.heap.size + 1, 1, none⟩ = some (.slice Ay1 (digs b32 y.num.natAbs).length cy1) ∧ w'.cell? ⟨w.heap.size + 1, 2, none⟩ = some (.slice Ay2 (digs b32 y.den).length cy2) ∧ w'.cell? ⟨w.heap.size + 2, 0, none⟩ = some (cv w' ⟨w.heap.size + 2, 0, none⟩) ∧ w'.cell? ⟨w.heap.size + 2, 1, none⟩ = some (cv w' ⟨w.heap.size + 2, 1, none⟩) ∧ w'.cell? ⟨w.heap.size + 2, 2, none⟩ = some (cv w' ⟨w.heap.size + 2, 2, none⟩) ∧ w'.frozen? ⟨w.heap.size + 2, 0, none⟩ = false ∧ w'.frozen? ⟨w.heap.size + 2, 1, none⟩ = false ∧ w'.frozen? ⟨w.heap.size + 2, 2, none⟩ = false := fun w' hh => by
    have r1 := hh.par (p := (w.heap.size, [.bool (decide (x.num < 0)), .slice Ax1 (digs b32 x.num.natAbs).length cx1, .slice Ax2 (digs b32 x.den).length cx2], 33)) (by simp)
    have r2 := hh.par (p := (w.heap.size + 1, [.bool (decide (y.num < 0)), .slice Ay1 (digs b32 y.num.natAbs).length cy1, .slice Ay2 (digs b32 y.den).length cy2], 33)) (by simp)
    exact ⟨hh, r1.cell (i := 0) rfl, r1.cell (i := 1) rfl, r1.cell (i := 2) rfl, r2.cell (i := 0) rfl, r2.cell (i := 1) rfl, r2.cell (i := 2) rfl, hh.cellR (i := 0) (by omega), hh.cellR (i := 1) (by omega), hh.cellR (i := 2) (by omega), hh.fzR 0, hh.fzR 1, hh.fzR 2⟩
  have hz : HeldN w (w.heap.size + 2) 3 33 [(w.heap.size, [.bool (decide (x.num < 0)), .slice Ax1 (digs b32 x.num.natAbs).length cx1, .slice Ax2 (digs b32 x.den).length cx2], 33), (w.heap.size + 1, [.bool (decide (y.num < 0)), .slice Ay1 (digs b32 y.num.natAbs).length cy1, .slice Ay2 (digs b32 y.den).length cy2], 33)] w3 := ⟨B0, by omega, by intro q hq; simp at hq; rcases hq with rfl | rfl; exact ⟨by simp, p1⟩; exact ⟨by simp, p2⟩, _, rfl, p3, notInt3⟩
  clear e1 e2 e3 o1 b1 s1 p1 o2 b2 s2 p2 o3 b3 s3 p3
  clear B0
  have hz := hz.drew
  go_region_held3 (fun w' => HeldN w (w.heap.size + 2) 3 33 [(w.heap.size, [.bool (decide (x.num < 0)), .slice Ax1 (digs b32 x.num.natAbs).length cx1, .slice Ax2 (digs b32 x.den).length cx2], 33), (w.heap.size + 1, [.bool (decide (y.num < 0)), .slice Ay1 (digs b32 y.num.natAbs).length cy1, .slice Ay2 (digs b32 y.den).length cy2], 33)] w' ∧ w'.cell? ⟨w.heap.size, 0, none⟩ = some (.bool (decide (x.num < 0))) ∧ w'.cell? ⟨w.heap.size, 1, none⟩ = some (.slice Ax1 (digs b32 x.num.natAbs).length cx1) ∧ w'.cell? ⟨w.heap.size, 2, none⟩ = some (.slice Ax2 (digs b32 x.den).length cx2) ∧ w'.cell? ⟨w.heap.size + 1, 0, none⟩ = some (.bool (decide (y.num < 0))) ∧ w'.cell? ⟨w.heap.size + 1, 1, none⟩ = some (.slice Ay1 (digs b32 y.num.natAbs).length cy1) ∧ w'.cell? ⟨w.heap.size + 1, 2, none⟩ = some (.slice Ay2 (digs b32 y.den).length cy2) ∧ w'.cell? ⟨w.heap.size + 2, 0, none⟩ = some (cv w' ⟨w.heap.size + 2, 0, none⟩) ∧ w'.cell? ⟨w.heap.size + 2, 1, none⟩ = some (cv w' ⟨w.heap.size + 2, 1, none⟩) ∧ w'.cell? ⟨w.heap.size + 2, 2, none⟩ = some (cv w' ⟨w.heap.size + 2, 2, none⟩) ∧ w'.frozen? ⟨w.heap.size + 2, 0, none⟩ = false ∧ w'.frozen? ⟨w.heap.size + 2, 1, none⟩ = false ∧ w'.frozen? ⟨w.heap.size + 2, 2, none⟩ = false)
    (first | exact hS _ hz | exact hS _ (HeldN.sets3 hz))
    (first
      | (go_at_call 74; (with_reducible refine Calls.mono (nneg_num _ _ y (hy0.below hz.b)) ?_); rintro e wz ⟨vn, rfl, hn, hb⟩; have hz := HeldN.call (And.intro hz trivial) hb)
      | (go_at_call 83; (with_reducible refine Calls.mono (nadd_num _ _ _ x (-y) (hx0.below hz.b) hn HB.out.1 HB.out.2 hjk) ?_); rintro e wz ⟨vr, rfl, hr, hb⟩; have hz := HeldN.call (And.intro hz trivial) hb; rw [← HQ.out] at hr; obtain ⟨vr1, vr2, rfl, hra, hrb⟩ := id hr; obtain ⟨Ar1, cr1, rfl, _⟩ := id hra; obtain ⟨Ar2, cr2, rfl, _⟩ := id hrb))
  all_goals (
    go_wp2
    obtain ⟨wf, HW, ho, hB, hN⟩ := hz.fin [.bool (decide ((x - y).num < 0)), .slice Ar1 (digs b32 (x - y).num.natAbs).length cr1, .slice Ar2 (digs b32 (x - y).den).length cr2] rfl notInt3
    simp only [setAll, Nat.reduceAdd] at HW
    (try rw [HW])
    (try simp only [Exit.inBlock, Exit.then])
    have f0 := ho.cell (i := 0) rfl
    have f1 := ho.cell (i := 1) rfl
    have f2 := ho.cell (i := 2) rfl
    refine bodyPost_ret (by simp [results, Tryz.results85, go_sem, f0, f1, f2]; try rfl) rfl ?_
    exact ⟨_, rfl, hr.into hN, hB⟩)
end Wx

namespace Wx
set_option maxRecDepth 100000
open Go Go.RowKit Go.Proofs

theorem sgn_sub (x y : Rat) : sgnI (x - y) = cmpT x y := by rw [sgnI_eq]; exact cmpT_sub x y
set_option maxHeartbeats 1000000 in
theorem ncmp_num (w : World) (vx vy : Value) (x y : Rat) (hx : IsRef w vx x) (hy : IsRef w vy y) {j k : Nat} (hj : BdR j x) (hk : BdR k y) (hjk : j + k + j + k + 1 ≤ 10000000) : Calls Tryz.prog 113 #[vx, vy] w (RetIs w (.int .i64 (cmpT x y))) := by
  obtain ⟨vx1, vx2, rfl, hxa, hxb⟩ := id hx
  obtain ⟨Ax1, cx1, rfl, _⟩ := id hxa
  obtain ⟨Ax2, cx2, rfl, _⟩ := id hxb
  obtain ⟨vy1, vy2, rfl, hya, hyb⟩ := id hy
  obtain ⟨Ay1, cy1, rfl, _⟩ := id hya
  obtain ⟨Ay2, cy2, rfl, _⟩ := id hyb
  have hx0 := hx
  have hy0 := hy
  clear hx hy hxa hxb hya hyb
  have HB := bx (And.intro hj hk)
  clear hj hk
  go_enter Tryz.func113, Tryz.ntmps113
  go_wp2_with fail
  obtain ⟨w1, e1, oX, b1, s1⟩ := layA w [.bool (decide (x.num < 0)), .slice Ax1 (digs b32 x.num.natAbs).length cx1, .slice Ax2 (digs b32 x.den).length cx2] 33
  rw [e1]
  clear e1
  replace hx0 := hx0.below b1
  replace hy0 := hy0.below b1
  have B := b1
  clear b1
  obtain ⟨w2, e2, oY, b2, s2⟩ := layA w1 [.bool (decide (y.num < 0)), .slice Ay1 (digs b32 y.num.natAbs).length cy1, .slice Ay2 (digs b32 y.den).length cy2] 33
  rw [e2]
  rw [s1] at oY
  clear e2
  replace hx0 := hx0.below b2
  replace hy0 := hy0.below b2
  replace oX := oX.gone b2
  replace B := B.trans (b2.mono B.size)
  clear b2
  refine Calls.mono (nsub_num _ _ _ x y hx0 hy0 HB.out.1 HB.out.2 hjk) ?_
  rintro e w3 ⟨vr, rfl, hr, b3⟩
  replace hx0 := hx0.below b3
  replace hy0 := hy0.below b3
  replace oX := oX.gone b3
  replace oY := oY.gone b3
  replace B := B.trans (b3.mono B.size)
  clear b3
  go_wp2_with fail
  have hc := nsign_num _ _ (x - y) hr
  rw [sgn_sub] at hc
  refine Calls.mono (hc) ?_
  rintro e w4 ⟨rfl, b4⟩
  replace hx0 := hx0.below b4
  replace hy0 := hy0.below b4
  replace oX := oX.gone b4
  replace oY := oY.gone b4
  replace hr := hr.below b4
  replace B := B.trans (b4.mono B.size)
  clear b4
  clear hc
  go_wp2
  go_ret
  exact ⟨rfl, B⟩
end Wx

namespace Wx
set_option maxRecDepth 100000
open Go Go.RowKit Go.Proofs

theorem dig_cut {d : Nat} (h : d < 10) : (⟨#[48, 49, 50, 51, 52, 53, 54, 55, 56, 57]⟩ : ByteArray).extract d (d + 1) = strOf [d + 48] := by
  match d, h with
  | 0, _ => rfl
  | 1, _ => rfl
  | 2, _ => rfl
  | 3, _ => rfl
  | 4, _ => rfl
  | 5, _ => rfl
  | 6, _ => rfl
  | 7, _ => rfl
  | 8, _ => rfl
  | 9, _ => rfl
  | n + 10, h => exact absurd h (by omega)
theorem dig_step {X S : List Nat} {x k r : Nat} (hk : k < 9) (h : X = decB (x * 10 ^ (9 - k) + r) ++ S) (h0 : 0 < x * 10 ^ (9 - k) + r) :
    X = decB (x * 10 ^ (9 - (k + 1)) + r / 10) ++ ((r % 10 + 48) :: S) := by
  obtain ⟨e1, e2⟩ := dec_step (A := x) (r := r) (k := 9 - k) (by omega)
  rw [h, decB_pos h0, e1, e2, show 9 - (k + 1) = 9 - k - 1 by omega, List.append_assoc]
  rfl

set_option maxHeartbeats 1000000 in
theorem ndigits_num (w : World) (v : Value) (n : Nat) (h : Num .u32 b32 w v n) {j : Nat} (hj : Bd j n) (hj1 : j ≤ 100000000) : Calls Tryz.prog 119 #[v] w (RetIs w (.string (strOf (textB n)))) := by
  rcases Nat.eq_zero_or_pos n with rfl | hn0
  · obtain ⟨A, c, rfl, hr⟩ := id h
    rw [digs_zero, textB_zero]
    go_enter Tryz.func119, Tryz.ntmps119
    go_wp2
    go_ret
    exact ⟨rfl, Below.refl _ _⟩
  · rw [textB_pos hn0]
    obtain ⟨A, c, rfl, hr⟩ := id h
    have hl1 : (((digs b32 n).length : Int) == 0) = false := beq_eq_false_iff_ne.2 (by have := (digs_length_pos (n := n) two_le_b32).2 hn0; omega)
    have HL := bx (show (decB n).length ≤ 100000000 from Nat.le_trans (decL_of hj) hj1)
    generalize (digs b32 n).length = L at *
    obtain ⟨X, hX⟩ : ∃ X, decB n = X := ⟨_, rfl⟩
    rw [hX] at HL ⊢
    have HX := bx hX
    have HJ := bx hj
    clear hX hj hr
    go_enter Tryz.func119, Tryz.ntmps119
    go_wp2_with fail
    go_loopw [0, 3] (fun s0 s3 wr => ∃ (x : Nat) (S : List Nat), Num .u32 b32 wr s0 x ∧ s3 = .string (strOf S) ∧ Bx (X = decB x ++ S) ∧ Bx (Bd j x) ∧ Below w.heap.size w wr) (fun s0 _ wr => numOf32 wr s0)
    case atStart => exact ⟨n, [], h, rfl, bx (by rw [HX.out, List.append_nil]), HJ, Below.refl _ _⟩
    case round =>
      clear h HJ
      obtain ⟨x, S, hx, rfl, HS, HJ, hb⟩ := hrel
      rcases Nat.eq_zero_or_pos x with rfl | hx0
      · obtain ⟨A, c, rfl, hr⟩ := id hx
        rw [digs_zero] at hr ⊢
        have e := HS.out
        rw [decB_zero, List.nil_append] at e
        have E := bx e
        clear e
        go_wp2
        go_ret
        rw [E.out]
        exact ⟨rfl, hb⟩
      · obtain ⟨A, c, rfl, hr⟩ := id hx
        have hl2 : (0 : Int) < ((digs b32 x).length : Int) := by have := (digs_length_pos (n := x) two_le_b32).2 hx0; omega
        have hlen := hr.len
        have HX0 := bx hx0
        generalize (digs b32 x).length = L2 at *
        clear hr hx0
        go_wp2_with fail
        refine Calls.mono (byDigit_num wr _ x 1000000000 hx HJ.out (by omega) (by omega) (by unfold b32; omega)) ?_
        rintro e w2 ⟨vq, rfl, hq, hb2⟩
        have hb3 := hb.trans (hb2.mono hb.size)
        have HR := bx (show x % 1000000000 < 10 ^ 9 from Nat.mod_lt _ (by omega))
        have HD := bx (show x / 1000000000 * 10 ^ 9 + x % 1000000000 = x from by have := Nat.div_add_mod x 1000000000; omega)
        have HQ := bx (show Bd j (x / 1000000000) from HJ.out.le (Nat.div_le_self _ _))
        have HM := bx (show x / 1000000000 < x from Nat.div_lt_self HX0.out (by omega))
        have HNx := bx hx
        clear hx
        generalize x / 1000000000 = y at *
        generalize x % 1000000000 = r0 at *
        obtain ⟨A2, c2, rfl, hr2⟩ := id hq
        have hlen2 := hr2.len
        clear hr2
        go_wp2_with fail
        obtain ⟨wo, rfl⟩ : ∃ wo : World, wo = w2 := ⟨_, rfl⟩
        go_loop [3, 5, 6] (fun s3 s5 s6 => ∃ (k r : Nat) (T : List Nat), k ≤ 9 ∧ s6 = .int .i64 (k : Int) ∧ s5 = .int .u32 (r : Int) ∧ s3 = .string (strOf T) ∧ Bx (r < 10 ^ (9 - k)) ∧ Bx (X = decB (y * 10 ^ (9 - k) + r) ++ T)) (fun _ _ s6 => 9 - (intOf s6).toNat)
        case atStart => exact ⟨0, r0, S, by omega, rfl, rfl, rfl, HR, bx (by rw [Nat.sub_zero, HD.out]; exact HS.out)⟩
        case round =>
          clear HS HR HD
          obtain ⟨k, r, T, hk, rfl, rfl, rfl, HR, HT⟩ := hrel
          by_cases hk9 : k < 9
          · rcases Nat.eq_zero_or_pos y with rfl | hy0
            · rw [digs_zero] at *
              rcases Nat.eq_zero_or_pos r with rfl | hr0
              · have hk9' : (k : Int) < 9 := by omega
                go_wp2
                go_roundw
                case rel => exact ⟨0, T, hq, rfl, bx (by rw [HT.out]; simp), HQ, hb3⟩
                case measure => rw [Num.of_eq32 HNx.out, Num.of_eq32 hq]; exact HM.out
              · have hr0' : (0 : Int) < (r : Int) := by omega
                have hT := dig_step hk9 HT.out (by omega)
                have hTl : T.length ≤ 100000000 := by have h1 := HL.out; have h2 := congrArg List.length HT.out; rw [List.length_append] at h2; omega
                have HT2 := bx hT
                have hz := strOf_size T
                have hc := dig_cut (d := r % 10) (by omega)
                have HC := bx hc
                have hap := strOf_append [r % 10 + 48] T
                have HAP := bx hap
                have hm1 : (0 : Int) ≤ (r : Int) % 10 := by omega
                have hm2 : (r : Int) % 10 ≤ 9 := by omega
                have hrr : (r : Int) ≤ 4294967295 := by have h1 := HR.out; have h2 : 10 ^ (9 - k) ≤ 10 ^ 9 := Nat.pow_le_pow_right (by omega) (by omega); omega
                have HR2 := bx (rest_step (by omega) HR.out)
                have hk9' : (k : Int) < 9 := by omega
                clear hT hc hap
                go_wp2
                rw [HC.out, HAP.out]
                go_round
                case rel => exact ⟨k + 1, r / 10, (r % 10 + 48) :: T, by omega, by go_num, by go_num, rfl, bx (by have := HR2.out; rwa [show 9 - (k + 1) = 9 - k - 1 by omega]), HT2⟩
                case measure => simp [intOf]; omega
            · have hl3 : (0 : Int) < ((digs b32 y).length : Int) := by have := (digs_length_pos (n := y) two_le_b32).2 hy0; omega
              generalize (digs b32 y).length = L3 at *
              have hT := dig_step hk9 HT.out (by have := Nat.mul_pos hy0 (Nat.pow_pos (n := 9 - k) (show 0 < 10 by omega)); omega)
              have hTl : T.length ≤ 100000000 := by have h1 := HL.out; have h2 := congrArg List.length HT.out; rw [List.length_append] at h2; omega
              have HT2 := bx hT
              have hz := strOf_size T
              have hc := dig_cut (d := r % 10) (by omega)
              have HC := bx hc
              have hap := strOf_append [r % 10 + 48] T
              have HAP := bx hap
              have hm1 : (0 : Int) ≤ (r : Int) % 10 := by omega
              have hm2 : (r : Int) % 10 ≤ 9 := by omega
              have hrr : (r : Int) ≤ 4294967295 := by have h1 := HR.out; have h2 : 10 ^ (9 - k) ≤ 10 ^ 9 := Nat.pow_le_pow_right (by omega) (by omega); omega
              have HR2 := bx (rest_step (by omega) HR.out)
              have hk9' : (k : Int) < 9 := by omega
              clear hT hc hap
              go_wp2
              rw [HC.out, HAP.out]
              go_round
              case rel => exact ⟨k + 1, r / 10, (r % 10 + 48) :: T, by omega, by go_num, by go_num, rfl, bx (by have := HR2.out; rwa [show 9 - (k + 1) = 9 - k - 1 by omega]), HT2⟩
              case measure => simp [intOf]; omega
          · obtain rfl : k = 9 := by omega
            have hr0 : r = 0 := by have := HR.out; simpa using this
            subst hr0
            go_wp2
            go_roundw
            case rel => exact ⟨y, T, hq, rfl, bx (by rw [HT.out]; simp), HQ, hb3⟩
            case measure => rw [Num.of_eq32 HNx.out, Num.of_eq32 hq]; exact HM.out
end Wx
