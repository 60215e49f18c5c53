import Derived.Test.YtlomlheajdgdoaaGreatProg
import Derived.Handy
import Derived.Deep.RegionHeld3
import Derived.Test.YtlomlheajdgdoaaGreatJPairs0
import Derived.Test.YtlomlheajdgdoaaGreatJPairs1
import Derived.Test.YtlomlheajdgdoaaGreatCPairsRat1
import Derived.Test.YtlomlheajdgdoaaGreatJPairs9
import Derived.Test.YtlomlheajdgdoaaGreatCPairsDown
import Derived.Test.YtlomlheajdgdoaaGreatJPairs33
import Derived.Test.YtlomlheajdgdoaaGreatJPairs18
import Derived.Test.YtlomlheajdgdoaaGreatJPairs26
import Derived.Test.YtlomlheajdgdoaaGreatJPairs22
import Derived.Test.YtlomlheajdgdoaaGreatJPairs23
import Derived.Test.YtlomlheajdgdoaaGreatJPairs24
import Derived.Test.YtlomlheajdgdoaaGreatCPairsNQuot
import Derived.Test.YtlomlheajdgdoaaGreatJPairs32
namespace Wx
set_option maxRecDepth 100000
open Go Go.RowKit Go.Proofs
def twoR (z : Int) : Rat := if z < 0 then 1 / pw z.natAbs else pw z.natAbs
theorem pw_num (K : Nat) : (pw K).num = 2 ^ K ∧ (pw K).den = 1 := by
  unfold pw
  refine ⟨?_, rfl⟩
  exact_mod_cast (rfl : ((2 ^ K : Nat) : Rat).num = ((2 ^ K : Nat) : Int))
theorem inv_pw (K : Nat) : (1 / pw K).num = 1 ∧ (1 / pw K).den = 2 ^ K := by
  have e : (1 : Rat) / pw K = mkRat 1 (2 ^ K) := by rw [Rat.mkRat_eq_div]; rfl
  rw [e, Rat.num_mkRat, Rat.den_mkRat, if_neg (by have := Nat.two_pow_pos K; omega)]
  simp
set_option maxHeartbeats 8000000 in
theorem ntwo_pos (w : World) (K : Nat) (hK : K ≤ 1000000) : Calls Tryz.prog 73 #[.int .i64 (K : Int)] w (RetRef w (pw K)) := by
  have hq : decide ((pw K).num < 0) = false ∧ (pw K).num.natAbs = 2 ^ K ∧ (pw K).den = 1 := by
    obtain ⟨h1, h2⟩ := pw_num K
    refine ⟨decide_eq_false (by rw [h1]; have : (0 : Int) < 2 ^ K := Int.pow_pos (by omega); omega), by rw [h1, Int.natAbs_pow]; rfl, h2⟩
  have HQ := bx hq
  clear hq
  generalize pw K = q at *
  go_enter Tryz.func73, Tryz.ntmps73
  go_wp2_with fail
  obtain ⟨w1, e1, oR, b1, s1⟩ := layA w [.bool false, .slice none 0 0, .slice none 0 0] 33
  rw [e1]
  clear e1
  have B := b1
  clear b1
  refine Calls.mono (nat_num _ 1 (by unfold b64; omega)) ?_
  rintro e w2 ⟨v1, rfl, h2, b2⟩
  replace oR := oR.gone b2
  replace B := B.trans (b2.mono B.size)
  clear b2
  go_wp2_with fail
  refine Calls.mono (shifted_num _ _ 1 K h2 (by omega) (j := 1) (by unfold Bd; omega) (by omega) (by omega)) ?_
  rintro e w3 ⟨v3, rfl, h3, b3⟩
  replace oR := oR.gone b3
  replace h2 := h2.below b3
  replace B := B.trans (b3.mono B.size)
  clear b3
  go_wp2_with fail
  rw [Nat.one_mul] at h3
  clear h2
  refine Calls.mono (nat_num _ 1 (by unfold b64; omega)) ?_
  rintro e w4 ⟨v4, rfl, h1, b4⟩
  replace oR := oR.gone b4
  replace h3 := h3.below b4
  replace B := B.trans (b4.mono B.size)
  clear b4
  obtain ⟨Aa, ca, rfl, _⟩ := id h3
  obtain ⟨Ab, cb, rfl, _⟩ := id h1
  generalize hP : 2 ^ K = P at *
  have k1 := oR.cell (i := 0) rfl
  have k2 := oR.fz 0
  have k3 := oR.cell (i := 1) rfl
  have k4 := oR.fz 1
  have k5 := oR.cell (i := 2) rfl
  have k6 := oR.fz 2
  go_wp2
  obtain ⟨wf, HW, ho, _, hN, hBf, _⟩ := oR.put notInt_z3 [.bool false, .slice Aa (digs b32 P).length ca, .slice Ab (digs b32 1).length cb] rfl notInt3
  simp only [setAll, Nat.reduceAdd] at HW
  (try rw [HW])
  (try simp only [Exit.inBlock, Exit.then])
  have f0 := ho.cell (i := 0) rfl
  have f1 := ho.cell (i := 1) rfl
  have f2 := ho.cell (i := 2) rfl
  refine bodyPost_ret (by simp [results, Tryz.results73, go_sem, f0, f1, f2]; try rfl) rfl ?_
  have HB := hBf _ (by omega) B
  exact ⟨_, rfl, ⟨_, _, by rw [HQ.out.1], by rw [HQ.out.2.1]; exact hN _ _ _ _ h3, by rw [HQ.out.2.2]; exact hN _ _ _ _ h1⟩, HB⟩
set_option maxHeartbeats 8000000 in
theorem ntwo_neg (w : World) (z : Int) (K : Nat) (hz : z = -(K : Int)) (h0 : 0 < K) (hK : K ≤ 1000000) : Calls Tryz.prog 73 #[.int .i64 z] w (RetRef w (1 / pw K)) := by
  have hq : decide ((1 / pw K).num < 0) = false ∧ (1 / pw K).num.natAbs = 1 ∧ (1 / pw K).den = 2 ^ K := by
    obtain ⟨h1, h2⟩ := inv_pw K
    refine ⟨decide_eq_false (by rw [h1]; omega), by rw [h1]; rfl, h2⟩
  have HQ := bx hq
  have hlt : z < 0 := by omega
  have hz1 : -1000000 ≤ z := by omega
  have HE := bx (show -z = (K : Int) by omega)
  clear hq hz
  generalize 1 / pw K = q at *
  go_enter Tryz.func73, Tryz.ntmps73
  go_wp2_with fail
  obtain ⟨w1, e1, oR, b1, s1⟩ := layA w [.bool false, .slice none 0 0, .slice none 0 0] 33
  rw [e1]
  clear e1
  have B := b1
  clear b1
  refine Calls.mono (nat_num _ 1 (by unfold b64; omega)) ?_
  rintro e w2 ⟨v1, rfl, h1, b2⟩
  replace oR := oR.gone b2
  replace B := B.trans (b2.mono B.size)
  clear b2
  go_wp2_with fail
  refine Calls.mono (nat_num _ 1 (by unfold b64; omega)) ?_
  rintro e w3 ⟨v2, rfl, h2, b3⟩
  replace oR := oR.gone b3
  replace h1 := h1.below b3
  replace B := B.trans (b3.mono B.size)
  clear b3
  go_wp2_with fail
  rw [HE.out]
  refine Calls.mono (shifted_num _ _ 1 K h2 (by omega) (j := 1) (by unfold Bd; omega) (by omega) (by omega)) ?_
  rintro e w4 ⟨v3, rfl, h3, b4⟩
  replace oR := oR.gone b4
  replace h1 := h1.below b4
  replace h2 := h2.below b4
  replace B := B.trans (b4.mono B.size)
  clear b4
  rw [Nat.one_mul] at h3
  clear h2
  obtain ⟨Aa, ca, rfl, _⟩ := id h1
  obtain ⟨Ab, cb, rfl, _⟩ := id h3
  generalize hP : 2 ^ K = P at *
  have k1 := oR.cell (i := 0) rfl
  have k2 := oR.fz 0
  have k3 := oR.cell (i := 1) rfl
  have k4 := oR.fz 1
  have k5 := oR.cell (i := 2) rfl
  have k6 := oR.fz 2
  go_wp2
  obtain ⟨wf, HW, ho, _, hN, hBf, _⟩ := oR.put notInt_z3 [.bool false, .slice Aa (digs b32 1).length ca, .slice Ab (digs b32 P).length cb] rfl notInt3
  simp only [setAll, Nat.reduceAdd] at HW
  (try rw [HW])
  (try simp only [Exit.inBlock, Exit.then])
  have f0 := ho.cell (i := 0) rfl
  have f1 := ho.cell (i := 1) rfl
  have f2 := ho.cell (i := 2) rfl
  refine bodyPost_ret (by simp [results, Tryz.results73, go_sem, f0, f1, f2]; try rfl) rfl ?_
  have HB := hBf _ (by omega) B
  exact ⟨_, rfl, ⟨_, _, by rw [HQ.out.1], by rw [HQ.out.2.1]; exact hN _ _ _ _ h1, by rw [HQ.out.2.2]; exact hN _ _ _ _ h3⟩, HB⟩
set_option maxHeartbeats 4000000 in
theorem nfloor_a (w : World) (vx : Value) (x : Rat) (hx : IsRef w vx x) {j : Nat} (hj : BdR j x) (hjk : j ≤ 1000000) (hn : x.num < 0) (hr : 0 < x.num.natAbs % x.den) : Calls Tryz.prog 116 #[vx] w (RetRef w (floorR x)) := by
  obtain ⟨vx1, vx2, rfl, hxa, hxb⟩ := id hx
  obtain ⟨Ax1, cx1, rfl, _⟩ := id hxa
  obtain ⟨Ax2, cx2, rfl, _⟩ := id hxb
  have hf : decide (x.num < 0) = true := decide_eq_true hn
  have hQ : floorR x = redR true (x.num.natAbs / x.den + 1) 1 := by unfold floorR; rw [hf, if_pos ⟨hn, hr⟩]
  have HQ := bx hQ
  have HB : Bx (Bd j x.num.natAbs ∧ Bd j x.den) := bx hj
  have HBQ : Bx (Bd (j + 2) (x.num.natAbs / x.den + 1)) := bx (by have h1 := hj.1.le (Nat.div_le_self x.num.natAbs x.den); exact (h1.add (show Bd 1 1 by unfold Bd; omega)).mono (by omega))
  have hdx := x.den_pos
  have hl : ∀ L : Nat, L = (digs b32 (x.num.natAbs % x.den)).length → (0 : Int) < (L : Int) := fun L h => by have := (digs_length_pos (n := x.num.natAbs % x.den) two_le_b32).2 hr; omega
  have HL := bx hl
  have hx0 := hx
  rw [hQ]
  rw [hf] at hx0
  try rw [hf]
  clear hx hj hQ hf hn hr hl
  go_enter Tryz.func116, Tryz.ntmps116
  go_wp2_with fail
  obtain ⟨w1, e1, o1, b1, s1⟩ := layA w [.bool true, .slice Ax1 (digs b32 x.num.natAbs).length cx1, .slice Ax2 (digs b32 x.den).length cx2] 33
  obtain ⟨w2, e2, o2, b2, s2⟩ := layA w1 [.bool false, .slice none 0 0, .slice none 0 0] 33
  rw [e1, e2]
  rw [s1] at o2
  have p1 := (o1.gone b2)
  have p2 := o2
  have B0 := (b1.trans (b2.mono b1.size))
  have hS : ∀ w', HeldN w (w.heap.size + 1) 3 33 [(w.heap.size, [.bool true, .slice Ax1 (digs b32 x.num.natAbs).length cx1, .slice Ax2 (digs b32 x.den).length cx2], 33)] w' → HeldN w (w.heap.size + 1) 3 33 [(w.heap.size, [.bool true, .slice Ax1 (digs b32 x.num.natAbs).length cx1, .slice Ax2 (digs b32 x.den).length cx2], 33)] w' ∧ w'.cell? ⟨w.heap.size, 0, none⟩ = some (.bool true) ∧ w'.cell? ⟨w.heap.size, 1, none⟩ = some (.slice Ax1 (digs b32 x.num.natAbs).length cx1) ∧ w'.cell? ⟨w.heap.size, 2, none⟩ = some (.slice Ax2 (digs b32 x.den).length cx2) ∧ w'.cell? ⟨w.heap.size + 1, 0, none⟩ = some (cv w' ⟨w.heap.size + 1, 0, none⟩) ∧ w'.cell? ⟨w.heap.size + 1, 1, none⟩ = some (cv w' ⟨w.heap.size + 1, 1, none⟩) ∧ w'.cell? ⟨w.heap.size + 1, 2, none⟩ = some (cv w' ⟨w.heap.size + 1, 2, none⟩) ∧ w'.frozen? ⟨w.heap.size + 1, 0, none⟩ = false ∧ w'.frozen? ⟨w.heap.size + 1, 1, none⟩ = false ∧ w'.frozen? ⟨w.heap.size + 1, 2, none⟩ = false := fun w' hh => by
    have r1 := hh.par (p := (w.heap.size, [.bool true, .slice Ax1 (digs b32 x.num.natAbs).length cx1, .slice Ax2 (digs b32 x.den).length cx2], 33)) (by simp)
    exact ⟨hh, r1.cell (i := 0) rfl, r1.cell (i := 1) rfl, r1.cell (i := 2) rfl, hh.cellR (i := 0) (by omega), hh.cellR (i := 1) (by omega), hh.cellR (i := 2) (by omega), hh.fzR 0, hh.fzR 1, hh.fzR 2⟩
  have hz : HeldN w (w.heap.size + 1) 3 33 [(w.heap.size, [.bool true, .slice Ax1 (digs b32 x.num.natAbs).length cx1, .slice Ax2 (digs b32 x.den).length cx2], 33)] w2 := ⟨B0, by omega, by intro q hq; simp at hq; subst hq; exact ⟨by simp, p1⟩, _, rfl, p2, notInt3⟩
  clear e1 e2 o1 b1 s1 p1 o2 b2 s2 p2
  clear B0
  have hz := hz.drew
  (try have hux := Num.drew' hux)
  (try have hq := Num.drew' hq)
  (try have hr1 := Num.drew' hr1)
  (try have hs1 := Num.drew' hs1)
  (try have h1n := Num.drew' h1n)
  go_region_held3 (fun w' => HeldN w (w.heap.size + 1) 3 33 [(w.heap.size, [.bool true, .slice Ax1 (digs b32 x.num.natAbs).length cx1, .slice Ax2 (digs b32 x.den).length cx2], 33)] w' ∧ w'.cell? ⟨w.heap.size, 0, none⟩ = some (.bool true) ∧ w'.cell? ⟨w.heap.size, 1, none⟩ = some (.slice Ax1 (digs b32 x.num.natAbs).length cx1) ∧ w'.cell? ⟨w.heap.size, 2, none⟩ = some (.slice Ax2 (digs b32 x.den).length cx2) ∧ w'.cell? ⟨w.heap.size + 1, 0, none⟩ = some (cv w' ⟨w.heap.size + 1, 0, none⟩) ∧ w'.cell? ⟨w.heap.size + 1, 1, none⟩ = some (cv w' ⟨w.heap.size + 1, 1, none⟩) ∧ w'.cell? ⟨w.heap.size + 1, 2, none⟩ = some (cv w' ⟨w.heap.size + 1, 2, none⟩) ∧ w'.frozen? ⟨w.heap.size + 1, 0, none⟩ = false ∧ w'.frozen? ⟨w.heap.size + 1, 1, none⟩ = false ∧ w'.frozen? ⟨w.heap.size + 1, 2, none⟩ = false)
    (first | exact hS _ hz | exact hS _ (HeldN.sets3 hz))
    (first
      | (go_at_call 64; (with_reducible refine Calls.mono (nunder_num _ _ x (hx0.below hz.b)) ?_); rintro e wz ⟨vux, rfl, hux, hb⟩; (try have hux := hux.below hb); (try have hq := hq.below hb); (try have hr1 := hr1.below hb); (try have hs1 := hs1.below hb); (try have h1n := h1n.below hb); have hz := HeldN.call (And.intro hz trivial) hb)
      | (go_at_call 99; (with_reducible refine Calls.mono (quotient_num _ _ _ _ _ (hxa.below hz.b) hux hdx HB.out.1 HB.out.2 (by omega)) ?_); rintro e wz ⟨vq, vr, rfl, hq, hr1, hb⟩; (try have hux := hux.below hb); (try have hq := hq.below hb); (try have hr1 := hr1.below hb); (try have hs1 := hs1.below hb); (try have h1n := h1n.below hb); have hz := HeldN.call (And.intro hz trivial) hb))
  all_goals (
    obtain ⟨_, k0, k1, k2, _⟩ := hS _ hz
    obtain ⟨Ar0, cr0, rfl, hr0⟩ := id hr1
    have hlr := HL.out _ rfl
    have hlen := hr0.len
    generalize (digs b32 (x.num.natAbs % x.den)).length = L0 at *
    go_wp2_with fail
    clear k0 k1 k2
    refine Calls.mono (nat_num _ 1 (by unfold b64; omega)) ?_
    rintro e wz ⟨v1n, rfl, h1n, hb⟩
    have hq := hq.below hb
    have hz := HeldN.call (And.intro hz trivial) hb
    go_wp2_with fail
    refine Calls.mono (sum_num _ _ _ _ 1 hq h1n (HB.out.1.le (Nat.div_le_self _ _)) (k := 1) (by unfold Bd; omega) (by omega) (by omega)) ?_
    rintro e wz ⟨vs, rfl, hs1, hb⟩
    have hz := HeldN.call (And.intro hz trivial) hb
    clear hq h1n
    obtain ⟨_, k0, k1, k2, _⟩ := hS _ hz
    go_wp2_with fail
    clear k0 k1 k2
    have hz := hz.drew
    (try have hux := Num.drew' hux)
    (try have hq := Num.drew' hq)
    (try have hr1 := Num.drew' hr1)
    (try have hs1 := Num.drew' hs1)
    (try have h1n := Num.drew' h1n)
    go_region_held3 (fun w' => HeldN w (w.heap.size + 1) 3 33 [(w.heap.size, [.bool true, .slice Ax1 (digs b32 x.num.natAbs).length cx1, .slice Ax2 (digs b32 x.den).length cx2], 33)] w' ∧ w'.cell? ⟨w.heap.size, 0, none⟩ = some (.bool true) ∧ w'.cell? ⟨w.heap.size, 1, none⟩ = some (.slice Ax1 (digs b32 x.num.natAbs).length cx1) ∧ w'.cell? ⟨w.heap.size, 2, none⟩ = some (.slice Ax2 (digs b32 x.den).length cx2) ∧ w'.cell? ⟨w.heap.size + 1, 0, none⟩ = some (cv w' ⟨w.heap.size + 1, 0, none⟩) ∧ w'.cell? ⟨w.heap.size + 1, 1, none⟩ = some (cv w' ⟨w.heap.size + 1, 1, none⟩) ∧ w'.cell? ⟨w.heap.size + 1, 2, none⟩ = some (cv w' ⟨w.heap.size + 1, 2, none⟩) ∧ w'.frozen? ⟨w.heap.size + 1, 0, none⟩ = false ∧ w'.frozen? ⟨w.heap.size + 1, 1, none⟩ = false ∧ w'.frozen? ⟨w.heap.size + 1, 2, none⟩ = false)
      (first | exact hS _ hz | exact hS _ (HeldN.sets3 hz))
      (first
        | (go_at_call 59; (with_reducible refine Calls.mono (nat_num _ 1 (by unfold b64; omega)) ?_); rintro e wz ⟨vo, rfl, h1n, hb⟩; (try have hux := hux.below hb); (try have hq := hq.below hb); (try have hr1 := hr1.below hb); (try have hs1 := hs1.below hb); (try have h1n := h1n.below hb); have hz := HeldN.call (And.intro hz trivial) hb)
        | (go_at_call 57; (with_reducible refine Calls.mono (made_num _ true _ _ (x.num.natAbs / x.den + 1) 1 hs1 h1n (by omega) HBQ.out (by unfold Bd; have := Nat.pow_lt_pow_right (show 1 < 2 by omega) (show 0 < j + 2 by omega); omega) (by omega)) ?_); rintro e wz ⟨vr, rfl, hr, hb⟩; (try have hux := hux.below hb); (try have hq := hq.below hb); (try have hr1 := hr1.below hb); (try have hs1 := hs1.below hb); (try have h1n := h1n.below hb); have hz := HeldN.call (And.intro hz trivial) hb; obtain ⟨vr1, vr2, rfl, hra, hrb⟩ := id hr; obtain ⟨Ar1, cr1, rfl, _⟩ := id hra; obtain ⟨Ar2, cr2, rfl, _⟩ := id hrb))
    all_goals (
      generalize redR true (x.num.natAbs / x.den + 1) 1 = qq at *
      go_wp2
      obtain ⟨wf, HW, ho, hB, hN⟩ := hz.fin [.bool (decide (qq.num < 0)), .slice Ar1 (digs b32 qq.num.natAbs).length cr1, .slice Ar2 (digs b32 qq.den).length cr2] rfl notInt3
      simp only [setAll, Nat.reduceAdd] at HW
      (try rw [HW])
      (try simp only [Exit.inBlock, Exit.then])
      have f0 := ho.cell (i := 0) rfl
      have f1 := ho.cell (i := 1) rfl
      have f2 := ho.cell (i := 2) rfl
      refine bodyPost_ret (by simp [results, Tryz.results116, go_sem, f0, f1, f2]; try rfl) rfl ?_
      exact ⟨_, rfl, hr.into hN, hB⟩))
set_option maxHeartbeats 4000000 in
theorem nfloor_b (w : World) (vx : Value) (x : Rat) (hx : IsRef w vx x) {j : Nat} (hj : BdR j x) (hjk : j ≤ 1000000) (hn : x.num < 0) (hr : ¬ 0 < x.num.natAbs % x.den) : Calls Tryz.prog 116 #[vx] w (RetRef w (floorR x)) := by
  obtain ⟨vx1, vx2, rfl, hxa, hxb⟩ := id hx
  obtain ⟨Ax1, cx1, rfl, _⟩ := id hxa
  obtain ⟨Ax2, cx2, rfl, _⟩ := id hxb
  have hf : decide (x.num < 0) = true := decide_eq_true hn
  have hQ : floorR x = redR true (x.num.natAbs / x.den) 1 := by unfold floorR; rw [hf, if_neg (fun h => hr h.2), Nat.add_zero]
  have HQ := bx hQ
  have HB : Bx (Bd j x.num.natAbs ∧ Bd j x.den) := bx hj
  have HBQ : Bx (Bd (j + 2) (x.num.natAbs / x.den)) := bx (by have h1 := hj.1.le (Nat.div_le_self x.num.natAbs x.den); exact h1.mono (by omega))
  have hdx := x.den_pos
  have hl : x.num.natAbs % x.den = 0 := by omega
  have HL := bx hl
  have hx0 := hx
  rw [hQ]
  rw [hf] at hx0
  try rw [hf]
  clear hx hj hQ hf hn hr hl
  go_enter Tryz.func116, Tryz.ntmps116
  go_wp2_with fail
  obtain ⟨w1, e1, o1, b1, s1⟩ := layA w [.bool true, .slice Ax1 (digs b32 x.num.natAbs).length cx1, .slice Ax2 (digs b32 x.den).length cx2] 33
  obtain ⟨w2, e2, o2, b2, s2⟩ := layA w1 [.bool false, .slice none 0 0, .slice none 0 0] 33
  rw [e1, e2]
  rw [s1] at o2
  have p1 := (o1.gone b2)
  have p2 := o2
  have B0 := (b1.trans (b2.mono b1.size))
  have hS : ∀ w', HeldN w (w.heap.size + 1) 3 33 [(w.heap.size, [.bool true, .slice Ax1 (digs b32 x.num.natAbs).length cx1, .slice Ax2 (digs b32 x.den).length cx2], 33)] w' → HeldN w (w.heap.size + 1) 3 33 [(w.heap.size, [.bool true, .slice Ax1 (digs b32 x.num.natAbs).length cx1, .slice Ax2 (digs b32 x.den).length cx2], 33)] w' ∧ w'.cell? ⟨w.heap.size, 0, none⟩ = some (.bool true) ∧ w'.cell? ⟨w.heap.size, 1, none⟩ = some (.slice Ax1 (digs b32 x.num.natAbs).length cx1) ∧ w'.cell? ⟨w.heap.size, 2, none⟩ = some (.slice Ax2 (digs b32 x.den).length cx2) ∧ w'.cell? ⟨w.heap.size + 1, 0, none⟩ = some (cv w' ⟨w.heap.size + 1, 0, none⟩) ∧ w'.cell? ⟨w.heap.size + 1, 1, none⟩ = some (cv w' ⟨w.heap.size + 1, 1, none⟩) ∧ w'.cell? ⟨w.heap.size + 1, 2, none⟩ = some (cv w' ⟨w.heap.size + 1, 2, none⟩) ∧ w'.frozen? ⟨w.heap.size + 1, 0, none⟩ = false ∧ w'.frozen? ⟨w.heap.size + 1, 1, none⟩ = false ∧ w'.frozen? ⟨w.heap.size + 1, 2, none⟩ = false := fun w' hh => by
    have r1 := hh.par (p := (w.heap.size, [.bool true, .slice Ax1 (digs b32 x.num.natAbs).length cx1, .slice Ax2 (digs b32 x.den).length cx2], 33)) (by simp)
    exact ⟨hh, r1.cell (i := 0) rfl, r1.cell (i := 1) rfl, r1.cell (i := 2) rfl, hh.cellR (i := 0) (by omega), hh.cellR (i := 1) (by omega), hh.cellR (i := 2) (by omega), hh.fzR 0, hh.fzR 1, hh.fzR 2⟩
  have hz : HeldN w (w.heap.size + 1) 3 33 [(w.heap.size, [.bool true, .slice Ax1 (digs b32 x.num.natAbs).length cx1, .slice Ax2 (digs b32 x.den).length cx2], 33)] w2 := ⟨B0, by omega, by intro q hq; simp at hq; subst hq; exact ⟨by simp, p1⟩, _, rfl, p2, notInt3⟩
  clear e1 e2 o1 b1 s1 p1 o2 b2 s2 p2
  clear B0
  have hz := hz.drew
  (try have hux := Num.drew' hux)
  (try have hq := Num.drew' hq)
  (try have hr1 := Num.drew' hr1)
  (try have hs1 := Num.drew' hs1)
  (try have h1n := Num.drew' h1n)
  go_region_held3 (fun w' => HeldN w (w.heap.size + 1) 3 33 [(w.heap.size, [.bool true, .slice Ax1 (digs b32 x.num.natAbs).length cx1, .slice Ax2 (digs b32 x.den).length cx2], 33)] w' ∧ w'.cell? ⟨w.heap.size, 0, none⟩ = some (.bool true) ∧ w'.cell? ⟨w.heap.size, 1, none⟩ = some (.slice Ax1 (digs b32 x.num.natAbs).length cx1) ∧ w'.cell? ⟨w.heap.size, 2, none⟩ = some (.slice Ax2 (digs b32 x.den).length cx2) ∧ w'.cell? ⟨w.heap.size + 1, 0, none⟩ = some (cv w' ⟨w.heap.size + 1, 0, none⟩) ∧ w'.cell? ⟨w.heap.size + 1, 1, none⟩ = some (cv w' ⟨w.heap.size + 1, 1, none⟩) ∧ w'.cell? ⟨w.heap.size + 1, 2, none⟩ = some (cv w' ⟨w.heap.size + 1, 2, none⟩) ∧ w'.frozen? ⟨w.heap.size + 1, 0, none⟩ = false ∧ w'.frozen? ⟨w.heap.size + 1, 1, none⟩ = false ∧ w'.frozen? ⟨w.heap.size + 1, 2, none⟩ = false)
    (first | exact hS _ hz | exact hS _ (HeldN.sets3 hz))
    (first
      | (go_at_call 64; (with_reducible refine Calls.mono (nunder_num _ _ x (hx0.below hz.b)) ?_); rintro e wz ⟨vux, rfl, hux, hb⟩; (try have hux := hux.below hb); (try have hq := hq.below hb); (try have hr1 := hr1.below hb); (try have hs1 := hs1.below hb); (try have h1n := h1n.below hb); have hz := HeldN.call (And.intro hz trivial) hb)
      | (go_at_call 99; (with_reducible refine Calls.mono (quotient_num _ _ _ _ _ (hxa.below hz.b) hux hdx HB.out.1 HB.out.2 (by omega)) ?_); rintro e wz ⟨vq, vr, rfl, hq, hr1, hb⟩; (try have hux := hux.below hb); (try have hq := hq.below hb); (try have hr1 := hr1.below hb); (try have hs1 := hs1.below hb); (try have h1n := h1n.below hb); have hz := HeldN.call (And.intro hz trivial) hb))
  all_goals (
    obtain ⟨_, k0, k1, k2, _⟩ := hS _ hz
    obtain ⟨Ar0, cr0, rfl, hr0⟩ := id hr1
    rw [HL.out, digs_zero]
    go_wp2_with fail
    clear k0 k1 k2
    have hz := hz.drew
    (try have hux := Num.drew' hux)
    (try have hq := Num.drew' hq)
    (try have hr1 := Num.drew' hr1)
    (try have hs1 := Num.drew' hs1)
    (try have h1n := Num.drew' h1n)
    go_region_held3 (fun w' => HeldN w (w.heap.size + 1) 3 33 [(w.heap.size, [.bool true, .slice Ax1 (digs b32 x.num.natAbs).length cx1, .slice Ax2 (digs b32 x.den).length cx2], 33)] w' ∧ w'.cell? ⟨w.heap.size, 0, none⟩ = some (.bool true) ∧ w'.cell? ⟨w.heap.size, 1, none⟩ = some (.slice Ax1 (digs b32 x.num.natAbs).length cx1) ∧ w'.cell? ⟨w.heap.size, 2, none⟩ = some (.slice Ax2 (digs b32 x.den).length cx2) ∧ w'.cell? ⟨w.heap.size + 1, 0, none⟩ = some (cv w' ⟨w.heap.size + 1, 0, none⟩) ∧ w'.cell? ⟨w.heap.size + 1, 1, none⟩ = some (cv w' ⟨w.heap.size + 1, 1, none⟩) ∧ w'.cell? ⟨w.heap.size + 1, 2, none⟩ = some (cv w' ⟨w.heap.size + 1, 2, none⟩) ∧ w'.frozen? ⟨w.heap.size + 1, 0, none⟩ = false ∧ w'.frozen? ⟨w.heap.size + 1, 1, none⟩ = false ∧ w'.frozen? ⟨w.heap.size + 1, 2, none⟩ = false)
      (first | exact hS _ hz | exact hS _ (HeldN.sets3 hz))
      (first
        | (go_at_call 59; (with_reducible refine Calls.mono (nat_num _ 1 (by unfold b64; omega)) ?_); rintro e wz ⟨vo, rfl, h1n, hb⟩; (try have hux := hux.below hb); (try have hq := hq.below hb); (try have hr1 := hr1.below hb); (try have hs1 := hs1.below hb); (try have h1n := h1n.below hb); have hz := HeldN.call (And.intro hz trivial) hb)
        | (go_at_call 57; (with_reducible refine Calls.mono (made_num _ true _ _ (x.num.natAbs / x.den) 1 hq h1n (by omega) HBQ.out (by unfold Bd; have := Nat.pow_lt_pow_right (show 1 < 2 by omega) (show 0 < j + 2 by omega); omega) (by omega)) ?_); rintro e wz ⟨vr, rfl, hr, hb⟩; (try have hux := hux.below hb); (try have hq := hq.below hb); (try have hr1 := hr1.below hb); (try have hs1 := hs1.below hb); (try have h1n := h1n.below hb); have hz := HeldN.call (And.intro hz trivial) hb; obtain ⟨vr1, vr2, rfl, hra, hrb⟩ := id hr; obtain ⟨Ar1, cr1, rfl, _⟩ := id hra; obtain ⟨Ar2, cr2, rfl, _⟩ := id hrb))
    all_goals (
      generalize redR true (x.num.natAbs / x.den) 1 = qq at *
      go_wp2
      obtain ⟨wf, HW, ho, hB, hN⟩ := hz.fin [.bool (decide (qq.num < 0)), .slice Ar1 (digs b32 qq.num.natAbs).length cr1, .slice Ar2 (digs b32 qq.den).length cr2] rfl notInt3
      simp only [setAll, Nat.reduceAdd] at HW
      (try rw [HW])
      (try simp only [Exit.inBlock, Exit.then])
      have f0 := ho.cell (i := 0) rfl
      have f1 := ho.cell (i := 1) rfl
      have f2 := ho.cell (i := 2) rfl
      refine bodyPost_ret (by simp [results, Tryz.results116, go_sem, f0, f1, f2]; try rfl) rfl ?_
      exact ⟨_, rfl, hr.into hN, hB⟩))
set_option maxHeartbeats 4000000 in
theorem nfloor_c (w : World) (vx : Value) (x : Rat) (hx : IsRef w vx x) {j : Nat} (hj : BdR j x) (hjk : j ≤ 1000000) (hn : ¬ x.num < 0) : Calls Tryz.prog 116 #[vx] w (RetRef w (floorR x)) := by
  obtain ⟨vx1, vx2, rfl, hxa, hxb⟩ := id hx
  obtain ⟨Ax1, cx1, rfl, _⟩ := id hxa
  obtain ⟨Ax2, cx2, rfl, _⟩ := id hxb
  have hf : decide (x.num < 0) = false := decide_eq_false hn
  have hQ : floorR x = redR false (x.num.natAbs / x.den) 1 := by unfold floorR; rw [hf, if_neg (fun h => hn h.1), Nat.add_zero]
  have HQ := bx hQ
  have HB : Bx (Bd j x.num.natAbs ∧ Bd j x.den) := bx hj
  have HBQ : Bx (Bd (j + 2) (x.num.natAbs / x.den)) := bx (by have h1 := hj.1.le (Nat.div_le_self x.num.natAbs x.den); exact h1.mono (by omega))
  have hdx := x.den_pos
  have hx0 := hx
  rw [hQ]
  rw [hf] at hx0
  try rw [hf]
  clear hx hj hQ hf hn
  go_enter Tryz.func116, Tryz.ntmps116
  go_wp2_with fail
  obtain ⟨w1, e1, o1, b1, s1⟩ := layA w [.bool false, .slice Ax1 (digs b32 x.num.natAbs).length cx1, .slice Ax2 (digs b32 x.den).length cx2] 33
  obtain ⟨w2, e2, o2, b2, s2⟩ := layA w1 [.bool false, .slice none 0 0, .slice none 0 0] 33
  rw [e1, e2]
  rw [s1] at o2
  have p1 := (o1.gone b2)
  have p2 := o2
  have B0 := (b1.trans (b2.mono b1.size))
  have hS : ∀ w', HeldN w (w.heap.size + 1) 3 33 [(w.heap.size, [.bool false, .slice Ax1 (digs b32 x.num.natAbs).length cx1, .slice Ax2 (digs b32 x.den).length cx2], 33)] w' → HeldN w (w.heap.size + 1) 3 33 [(w.heap.size, [.bool false, .slice Ax1 (digs b32 x.num.natAbs).length cx1, .slice Ax2 (digs b32 x.den).length cx2], 33)] w' ∧ w'.cell? ⟨w.heap.size, 0, none⟩ = some (.bool false) ∧ w'.cell? ⟨w.heap.size, 1, none⟩ = some (.slice Ax1 (digs b32 x.num.natAbs).length cx1) ∧ w'.cell? ⟨w.heap.size, 2, none⟩ = some (.slice Ax2 (digs b32 x.den).length cx2) ∧ w'.cell? ⟨w.heap.size + 1, 0, none⟩ = some (cv w' ⟨w.heap.size + 1, 0, none⟩) ∧ w'.cell? ⟨w.heap.size + 1, 1, none⟩ = some (cv w' ⟨w.heap.size + 1, 1, none⟩) ∧ w'.cell? ⟨w.heap.size + 1, 2, none⟩ = some (cv w' ⟨w.heap.size + 1, 2, none⟩) ∧ w'.frozen? ⟨w.heap.size + 1, 0, none⟩ = false ∧ w'.frozen? ⟨w.heap.size + 1, 1, none⟩ = false ∧ w'.frozen? ⟨w.heap.size + 1, 2, none⟩ = false := fun w' hh => by
    have r1 := hh.par (p := (w.heap.size, [.bool false, .slice Ax1 (digs b32 x.num.natAbs).length cx1, .slice Ax2 (digs b32 x.den).length cx2], 33)) (by simp)
    exact ⟨hh, r1.cell (i := 0) rfl, r1.cell (i := 1) rfl, r1.cell (i := 2) rfl, hh.cellR (i := 0) (by omega), hh.cellR (i := 1) (by omega), hh.cellR (i := 2) (by omega), hh.fzR 0, hh.fzR 1, hh.fzR 2⟩
  have hz : HeldN w (w.heap.size + 1) 3 33 [(w.heap.size, [.bool false, .slice Ax1 (digs b32 x.num.natAbs).length cx1, .slice Ax2 (digs b32 x.den).length cx2], 33)] w2 := ⟨B0, by omega, by intro q hq; simp at hq; subst hq; exact ⟨by simp, p1⟩, _, rfl, p2, notInt3⟩
  clear e1 e2 o1 b1 s1 p1 o2 b2 s2 p2
  clear B0
  have hz := hz.drew
  (try have hux := Num.drew' hux)
  (try have hq := Num.drew' hq)
  (try have hr1 := Num.drew' hr1)
  (try have hs1 := Num.drew' hs1)
  (try have h1n := Num.drew' h1n)
  go_region_held3 (fun w' => HeldN w (w.heap.size + 1) 3 33 [(w.heap.size, [.bool false, .slice Ax1 (digs b32 x.num.natAbs).length cx1, .slice Ax2 (digs b32 x.den).length cx2], 33)] w' ∧ w'.cell? ⟨w.heap.size, 0, none⟩ = some (.bool false) ∧ w'.cell? ⟨w.heap.size, 1, none⟩ = some (.slice Ax1 (digs b32 x.num.natAbs).length cx1) ∧ w'.cell? ⟨w.heap.size, 2, none⟩ = some (.slice Ax2 (digs b32 x.den).length cx2) ∧ w'.cell? ⟨w.heap.size + 1, 0, none⟩ = some (cv w' ⟨w.heap.size + 1, 0, none⟩) ∧ w'.cell? ⟨w.heap.size + 1, 1, none⟩ = some (cv w' ⟨w.heap.size + 1, 1, none⟩) ∧ w'.cell? ⟨w.heap.size + 1, 2, none⟩ = some (cv w' ⟨w.heap.size + 1, 2, none⟩) ∧ w'.frozen? ⟨w.heap.size + 1, 0, none⟩ = false ∧ w'.frozen? ⟨w.heap.size + 1, 1, none⟩ = false ∧ w'.frozen? ⟨w.heap.size + 1, 2, none⟩ = false)
    (first | exact hS _ hz | exact hS _ (HeldN.sets3 hz))
    (first
      | (go_at_call 64; (with_reducible refine Calls.mono (nunder_num _ _ x (hx0.below hz.b)) ?_); rintro e wz ⟨vux, rfl, hux, hb⟩; (try have hux := hux.below hb); (try have hq := hq.below hb); (try have hr1 := hr1.below hb); (try have hs1 := hs1.below hb); (try have h1n := h1n.below hb); have hz := HeldN.call (And.intro hz trivial) hb)
      | (go_at_call 99; (with_reducible refine Calls.mono (quotient_num _ _ _ _ _ (hxa.below hz.b) hux hdx HB.out.1 HB.out.2 (by omega)) ?_); rintro e wz ⟨vq, vr, rfl, hq, hr1, hb⟩; (try have hux := hux.below hb); (try have hq := hq.below hb); (try have hr1 := hr1.below hb); (try have hs1 := hs1.below hb); (try have h1n := h1n.below hb); have hz := HeldN.call (And.intro hz trivial) hb))
  all_goals (
    obtain ⟨_, k0, k1, k2, _⟩ := hS _ hz
    obtain ⟨Ar0, cr0, rfl, hr0⟩ := id hr1
    generalize (digs b32 (x.num.natAbs % x.den)).length = L0 at *
    go_wp2_with fail
    clear k0 k1 k2
    have hz := hz.drew
    (try have hux := Num.drew' hux)
    (try have hq := Num.drew' hq)
    (try have hr1 := Num.drew' hr1)
    (try have hs1 := Num.drew' hs1)
    (try have h1n := Num.drew' h1n)
    go_region_held3 (fun w' => HeldN w (w.heap.size + 1) 3 33 [(w.heap.size, [.bool false, .slice Ax1 (digs b32 x.num.natAbs).length cx1, .slice Ax2 (digs b32 x.den).length cx2], 33)] w' ∧ w'.cell? ⟨w.heap.size, 0, none⟩ = some (.bool false) ∧ w'.cell? ⟨w.heap.size, 1, none⟩ = some (.slice Ax1 (digs b32 x.num.natAbs).length cx1) ∧ w'.cell? ⟨w.heap.size, 2, none⟩ = some (.slice Ax2 (digs b32 x.den).length cx2) ∧ w'.cell? ⟨w.heap.size + 1, 0, none⟩ = some (cv w' ⟨w.heap.size + 1, 0, none⟩) ∧ w'.cell? ⟨w.heap.size + 1, 1, none⟩ = some (cv w' ⟨w.heap.size + 1, 1, none⟩) ∧ w'.cell? ⟨w.heap.size + 1, 2, none⟩ = some (cv w' ⟨w.heap.size + 1, 2, none⟩) ∧ w'.frozen? ⟨w.heap.size + 1, 0, none⟩ = false ∧ w'.frozen? ⟨w.heap.size + 1, 1, none⟩ = false ∧ w'.frozen? ⟨w.heap.size + 1, 2, none⟩ = false)
      (first | exact hS _ hz | exact hS _ (HeldN.sets3 hz))
      (first
        | (go_at_call 59; (with_reducible refine Calls.mono (nat_num _ 1 (by unfold b64; omega)) ?_); rintro e wz ⟨vo, rfl, h1n, hb⟩; (try have hux := hux.below hb); (try have hq := hq.below hb); (try have hr1 := hr1.below hb); (try have hs1 := hs1.below hb); (try have h1n := h1n.below hb); have hz := HeldN.call (And.intro hz trivial) hb)
        | (go_at_call 57; (with_reducible refine Calls.mono (made_num _ false _ _ (x.num.natAbs / x.den) 1 hq h1n (by omega) HBQ.out (by unfold Bd; have := Nat.pow_lt_pow_right (show 1 < 2 by omega) (show 0 < j + 2 by omega); omega) (by omega)) ?_); rintro e wz ⟨vr, rfl, hr, hb⟩; (try have hux := hux.below hb); (try have hq := hq.below hb); (try have hr1 := hr1.below hb); (try have hs1 := hs1.below hb); (try have h1n := h1n.below hb); have hz := HeldN.call (And.intro hz trivial) hb; obtain ⟨vr1, vr2, rfl, hra, hrb⟩ := id hr; obtain ⟨Ar1, cr1, rfl, _⟩ := id hra; obtain ⟨Ar2, cr2, rfl, _⟩ := id hrb))
    all_goals (
      generalize redR false (x.num.natAbs / x.den) 1 = qq at *
      go_wp2
      obtain ⟨wf, HW, ho, hB, hN⟩ := hz.fin [.bool (decide (qq.num < 0)), .slice Ar1 (digs b32 qq.num.natAbs).length cr1, .slice Ar2 (digs b32 qq.den).length cr2] rfl notInt3
      simp only [setAll, Nat.reduceAdd] at HW
      (try rw [HW])
      (try simp only [Exit.inBlock, Exit.then])
      have f0 := ho.cell (i := 0) rfl
      have f1 := ho.cell (i := 1) rfl
      have f2 := ho.cell (i := 2) rfl
      refine bodyPost_ret (by simp [results, Tryz.results116, go_sem, f0, f1, f2]; try rfl) rfl ?_
      exact ⟨_, rfl, hr.into hN, hB⟩))
theorem nfloor_num (w : World) (vx : Value) (x : Rat) (hx : IsRef w vx x) {j : Nat} (hj : BdR j x) (hjk : j ≤ 1000000) : Calls Tryz.prog 116 #[vx] w (RetRef w (floorR x)) := by
  by_cases hn : x.num < 0
  · by_cases hr : 0 < x.num.natAbs % x.den
    · exact nfloor_a w vx x hx hj hjk hn hr
    · exact nfloor_b w vx x hx hj hjk hn hr
  · exact nfloor_c w vx x hx hj hjk hn
end Wx
