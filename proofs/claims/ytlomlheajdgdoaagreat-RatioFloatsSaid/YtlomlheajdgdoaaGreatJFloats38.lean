import Derived.Test.YtlomlheajdgdoaaGreatProg
import Derived.Handy
import Derived.Laws.IdiomStrings
import Derived.Deep.RegionHeld3
import Derived.Test.YtlomlheajdgdoaaGreatJFloats0
import Derived.Test.YtlomlheajdgdoaaGreatCFloatsMem
import Derived.Test.YtlomlheajdgdoaaGreatJFloats2
import Derived.Test.YtlomlheajdgdoaaGreatCFloatsRat1
import Derived.Test.YtlomlheajdgdoaaGreatJFloats12
import Derived.Test.YtlomlheajdgdoaaGreatJFloats28
import Derived.Test.YtlomlheajdgdoaaGreatJFloats33
import Derived.Test.YtlomlheajdgdoaaGreatJFloats29
import Derived.Test.YtlomlheajdgdoaaGreatJFloats37
import Derived.Test.YtlomlheajdgdoaaGreatJFloats24
import Derived.Test.YtlomlheajdgdoaaGreatCFloatsText
import Derived.Test.YtlomlheajdgdoaaGreatJFloats27
import Derived.Test.YtlomlheajdgdoaaGreatJFloats22
import Derived.Test.YtlomlheajdgdoaaGreatJFloats36
import Derived.Test.YtlomlheajdgdoaaGreatCFloatsInv
import Derived.Test.YtlomlheajdgdoaaGreatCFloatsNRat2
import Derived.Test.YtlomlheajdgdoaaGreatCFloatsSem
import Derived.Test.YtlomlheajdgdoaaGreatCFloatsSemOps
import Derived.Test.YtlomlheajdgdoaaGreatCFloatsSemMem
import Derived.Test.YtlomlheajdgdoaaGreatCFloatsSemCode
import Derived.Test.YtlomlheajdgdoaaGreatJFloats19
import Derived.Test.YtlomlheajdgdoaaGreatJFloats14
import Derived.Test.YtlomlheajdgdoaaGreatJFloats4
import Derived.Test.YtlomlheajdgdoaaGreatJFloats10
import Derived.Test.YtlomlheajdgdoaaGreatCFloatsDown
import Derived.Test.YtlomlheajdgdoaaGreatJFloats31
import Derived.Test.YtlomlheajdgdoaaGreatCFloatsNQuot
import Derived.Test.YtlomlheajdgdoaaGreatJFloats7
import Derived.Lib.BitFns
namespace Wx
set_option maxRecDepth 100000
open Go Go.RowKit Go.Proofs

set_option maxHeartbeats 1000000 in
theorem is_yes (w : World) (vx vy : Value) (x : Rat) (hx : IsRat w vx x) (hy : IsRef w vy x) {j : Nat} (hj : BdR j x) (hj1 : j ≤ 100000000) : Calls Tryz.prog 25 #[vx, vy] w (RetIs w (.bool true)) := by
  obtain ⟨vx1, vx2, rfl, hxa, hxb⟩ := id hx
  obtain ⟨Ax1, cx1, rfl, _⟩ := id hxa
  obtain ⟨Ax2, cx2, rfl, _⟩ := id hxb
  obtain ⟨vy1, vy2, rfl, hya, hyb⟩ := id hy
  obtain ⟨Ay1, cy1, rfl, _⟩ := id hya
  obtain ⟨Ay2, cy2, rfl, _⟩ := id hyb
  have HB := bx hj
  have hx0 := hx
  have hy0 := hy

  clear hj hx hy
  go_enter Tryz.func25, Tryz.ntmps25
  go_wp2_with fail
  obtain ⟨w1, e1, o1, b1, s1⟩ := layA w [.bool (decide (x.num < 0)), .slice Ax1 (digs b64 x.num.natAbs).length cx1, .slice Ax2 (digs b64 (denOf x.den)).length cx2] 29
  obtain ⟨w2, e2, o2, b2, s2⟩ := layA w1 [.bool (decide (x.num < 0)), .slice Ay1 (digs b32 x.num.natAbs).length cy1, .slice Ay2 (digs b32 x.den).length cy2] 33
  rw [e1, e2]
  rw [s1] at o2
  have p1 := (o1.gone b2)
  have p2 := o2
  have B0 := (b1.trans (b2.mono b1.size))
  have hS : ∀ w', HeldQ w [(w.heap.size, [.bool (decide (x.num < 0)), .slice Ax1 (digs b64 x.num.natAbs).length cx1, .slice Ax2 (digs b64 (denOf x.den)).length cx2], 29), (w.heap.size + 1, [.bool (decide (x.num < 0)), .slice Ay1 (digs b32 x.num.natAbs).length cy1, .slice Ay2 (digs b32 x.den).length cy2], 33)] w' → HeldQ w [(w.heap.size, [.bool (decide (x.num < 0)), .slice Ax1 (digs b64 x.num.natAbs).length cx1, .slice Ax2 (digs b64 (denOf x.den)).length cx2], 29), (w.heap.size + 1, [.bool (decide (x.num < 0)), .slice Ay1 (digs b32 x.num.natAbs).length cy1, .slice Ay2 (digs b32 x.den).length cy2], 33)] w' ∧ w'.cell? ⟨w.heap.size, 0, none⟩ = some (.bool (decide (x.num < 0))) ∧ w'.cell? ⟨w.heap.size, 1, none⟩ = some (.slice Ax1 (digs b64 x.num.natAbs).length cx1) ∧ w'.cell? ⟨w.heap.size, 2, none⟩ = some (.slice Ax2 (digs b64 (denOf x.den)).length cx2) ∧ w'.cell? ⟨w.heap.size + 1, 0, none⟩ = some (.bool (decide (x.num < 0))) ∧ w'.cell? ⟨w.heap.size + 1, 1, none⟩ = some (.slice Ay1 (digs b32 x.num.natAbs).length cy1) ∧ w'.cell? ⟨w.heap.size + 1, 2, none⟩ = some (.slice Ay2 (digs b32 x.den).length cy2) := fun w' hh => by
    have r1 := hh.at_ (p := (w.heap.size, [.bool (decide (x.num < 0)), .slice Ax1 (digs b64 x.num.natAbs).length cx1, .slice Ax2 (digs b64 (denOf x.den)).length cx2], 29)) (by simp)
    have r2 := hh.at_ (p := (w.heap.size + 1, [.bool (decide (x.num < 0)), .slice Ay1 (digs b32 x.num.natAbs).length cy1, .slice Ay2 (digs b32 x.den).length cy2], 33)) (by simp)
    exact ⟨hh, r1.cell (i := 0) rfl, r1.cell (i := 1) rfl, r1.cell (i := 2) rfl, r2.cell (i := 0) rfl, r2.cell (i := 1) rfl, r2.cell (i := 2) rfl⟩
  have hz : HeldQ w [(w.heap.size, [.bool (decide (x.num < 0)), .slice Ax1 (digs b64 x.num.natAbs).length cx1, .slice Ax2 (digs b64 (denOf x.den)).length cx2], 29), (w.heap.size + 1, [.bool (decide (x.num < 0)), .slice Ay1 (digs b32 x.num.natAbs).length cy1, .slice Ay2 (digs b32 x.den).length cy2], 33)] w2 := ⟨B0, by intro q hq; simp at hq; rcases hq with rfl | rfl; exact p1; exact p2⟩
  clear e1 e2 o1 b1 s1 p1 o2 b2 s2 p2
  clear B0
  have hz := hz.drew
  go_region_held3 (fun w' => HeldQ w [(w.heap.size, [.bool (decide (x.num < 0)), .slice Ax1 (digs b64 x.num.natAbs).length cx1, .slice Ax2 (digs b64 (denOf x.den)).length cx2], 29), (w.heap.size + 1, [.bool (decide (x.num < 0)), .slice Ay1 (digs b32 x.num.natAbs).length cy1, .slice Ay2 (digs b32 x.den).length cy2], 33)] w' ∧ w'.cell? ⟨w.heap.size, 0, none⟩ = some (.bool (decide (x.num < 0))) ∧ w'.cell? ⟨w.heap.size, 1, none⟩ = some (.slice Ax1 (digs b64 x.num.natAbs).length cx1) ∧ w'.cell? ⟨w.heap.size, 2, none⟩ = some (.slice Ax2 (digs b64 (denOf x.den)).length cx2) ∧ w'.cell? ⟨w.heap.size + 1, 0, none⟩ = some (.bool (decide (x.num < 0))) ∧ w'.cell? ⟨w.heap.size + 1, 1, none⟩ = some (.slice Ay1 (digs b32 x.num.natAbs).length cy1) ∧ w'.cell? ⟨w.heap.size + 1, 2, none⟩ = some (.slice Ay2 (digs b32 x.den).length cy2))
    (exact hS _ hz)
    (first
      | (go_at_call 54; (with_reducible refine Calls.mono (rtext_num _ _ x (hx0.below hz.b) HB.out hj1) ?_); rintro e wz ⟨rfl, hb⟩; have hz := HeldQ.call (And.intro hz trivial) hb)
      | (go_at_call 75; (with_reducible refine Calls.mono (ntext_num _ _ x (hy0.below hz.b) HB.out hj1) ?_); rintro e wz ⟨rfl, hb⟩; have hz := HeldQ.call (And.intro hz trivial) hb))
  all_goals (
    go_wp2
    go_ret
    exact ⟨rfl, hz.b⟩)
end Wx

namespace Wx
open Go Go.RowKit Go.Proofs

theorem cn_mul {x y : Rat} {j k : Nat} (hx : BdR j x) (hy : BdR k y) (h : j + k ≤ 10000000) : ∀ w v1 v2, pRef x w v1 → pRef y w v2 → Calls Tryz.prog 14 #[v1, v2] w (Ret (pRef (x * y)) w) :=
  fun w v1 v2 h1 h2 => nmul_num w v1 v2 x y h1 h2 hx hy h
theorem cn_neg (x : Rat) : ∀ w v1, pRef x w v1 → Calls Tryz.prog 74 #[v1] w (Ret (pRef (-x)) w) := fun w v1 h1 => nneg_num w v1 x h1
theorem cn_int (n : Int) (h1 : -9223372036854775808 ≤ n) (h2 : n ≤ 9223372036854775807) : ∀ w v1, pI n w v1 → Calls Tryz.prog 10 #[v1] w (Ret (pRef (n : Rat)) w) := fun w v1 h => by
  have h : v1 = .int .i64 n := h
  rw [h]
  exact nint_num w n h1 h2
theorem c_is {x y : Rat} {j : Nat} (hx : BdR j x) (hj : j ≤ 100000000) (h : x = y) : ∀ w v1 v2, pRat x w v1 → pRef y w v2 → Calls Tryz.prog 25 #[v1, v2] w (Ret (pB true) w) := fun w v1 v2 h1 h2 => by
  subst h
  exact (is_yes w v1 v2 x h1 h2 hx hj).mono fun _ _ => ret_is
end Wx

namespace Wx

end Wx

namespace Wx
open Go

end Wx

namespace Wx
open Go Go.RowKit Go.Proofs

end Wx

namespace Wx
open Go Go.RowKit Go.Proofs

end Wx

namespace Wx
open Go Go.RowKit Go.Proofs

end Wx

namespace Wx

def pw (k : Nat) : Rat := ((2 ^ k : Nat) : Rat)
end Wx

namespace Wx
set_option maxRecDepth 100000
open Go Go.RowKit Go.Proofs
def twoR (z : Int) : Rat := if z < 0 then 1 / pw z.natAbs else pw z.natAbs
theorem pw_num (K : Nat) : (pw K).num = 2 ^ K ∧ (pw K).den = 1 := by
  unfold pw
  refine ⟨?_, rfl⟩
  exact_mod_cast (rfl : ((2 ^ K : Nat) : Rat).num = ((2 ^ K : Nat) : Int))
theorem inv_pw (K : Nat) : (1 / pw K).num = 1 ∧ (1 / pw K).den = 2 ^ K := by
  have e : (1 : Rat) / pw K = mkRat 1 (2 ^ K) := by rw [Rat.mkRat_eq_div]; rfl
  rw [e, Rat.num_mkRat, Rat.den_mkRat, if_neg (by have := Nat.two_pow_pos K; omega)]
  simp
set_option maxHeartbeats 8000000 in
theorem ntwo_pos (w : World) (K : Nat) (hK : K ≤ 1000000) : Calls Tryz.prog 73 #[.int .i64 (K : Int)] w (RetRef w (pw K)) := by
  have hq : decide ((pw K).num < 0) = false ∧ (pw K).num.natAbs = 2 ^ K ∧ (pw K).den = 1 := by
    obtain ⟨h1, h2⟩ := pw_num K
    refine ⟨decide_eq_false (by rw [h1]; have : (0 : Int) < 2 ^ K := Int.pow_pos (by omega); omega), by rw [h1, Int.natAbs_pow]; rfl, h2⟩
  have HQ := bx hq
  clear hq
  generalize pw K = q at *
  go_enter Tryz.func73, Tryz.ntmps73
  go_wp2_with fail
  obtain ⟨w1, e1, oR, b1, s1⟩ := layA w [.bool false, .slice none 0 0, .slice none 0 0] 33
  rw [e1]
  clear e1
  have B := b1
  clear b1
  refine Calls.mono (nat_num _ 1 (by unfold b64; omega)) ?_
  rintro e w2 ⟨v1, rfl, h2, b2⟩
  replace oR := oR.gone b2
  replace B := B.trans (b2.mono B.size)
  clear b2
  go_wp2_with fail
  refine Calls.mono (shifted_num _ _ 1 K h2 (by omega) (j := 1) (by unfold Bd; omega) (by omega) (by omega)) ?_
  rintro e w3 ⟨v3, rfl, h3, b3⟩
  replace oR := oR.gone b3
  replace h2 := h2.below b3
  replace B := B.trans (b3.mono B.size)
  clear b3
  go_wp2_with fail
  rw [Nat.one_mul] at h3
  clear h2
  refine Calls.mono (nat_num _ 1 (by unfold b64; omega)) ?_
  rintro e w4 ⟨v4, rfl, h1, b4⟩
  replace oR := oR.gone b4
  replace h3 := h3.below b4
  replace B := B.trans (b4.mono B.size)
  clear b4
  obtain ⟨Aa, ca, rfl, _⟩ := id h3
  obtain ⟨Ab, cb, rfl, _⟩ := id h1
  generalize hP : 2 ^ K = P at *
  have k1 := oR.cell (i := 0) rfl
  have k2 := oR.fz 0
  have k3 := oR.cell (i := 1) rfl
  have k4 := oR.fz 1
  have k5 := oR.cell (i := 2) rfl
  have k6 := oR.fz 2
  go_wp2
  obtain ⟨wf, HW, ho, _, hN, hBf, _⟩ := oR.put notInt_z3 [.bool false, .slice Aa (digs b32 P).length ca, .slice Ab (digs b32 1).length cb] rfl notInt3
  simp only [setAll, Nat.reduceAdd] at HW
  (try rw [HW])
  (try simp only [Exit.inBlock, Exit.then])
  have f0 := ho.cell (i := 0) rfl
  have f1 := ho.cell (i := 1) rfl
  have f2 := ho.cell (i := 2) rfl
  refine bodyPost_ret (by simp [results, Tryz.results73, go_sem, f0, f1, f2]; try rfl) rfl ?_
  have HB := hBf _ (by omega) B
  exact ⟨_, rfl, ⟨_, _, by rw [HQ.out.1], by rw [HQ.out.2.1]; exact hN _ _ _ _ h3, by rw [HQ.out.2.2]; exact hN _ _ _ _ h1⟩, HB⟩
set_option maxHeartbeats 8000000 in
theorem ntwo_neg (w : World) (z : Int) (K : Nat) (hz : z = -(K : Int)) (h0 : 0 < K) (hK : K ≤ 1000000) : Calls Tryz.prog 73 #[.int .i64 z] w (RetRef w (1 / pw K)) := by
  have hq : decide ((1 / pw K).num < 0) = false ∧ (1 / pw K).num.natAbs = 1 ∧ (1 / pw K).den = 2 ^ K := by
    obtain ⟨h1, h2⟩ := inv_pw K
    refine ⟨decide_eq_false (by rw [h1]; omega), by rw [h1]; rfl, h2⟩
  have HQ := bx hq
  have hlt : z < 0 := by omega
  have hz1 : -1000000 ≤ z := by omega
  have HE := bx (show -z = (K : Int) by omega)
  clear hq hz
  generalize 1 / pw K = q at *
  go_enter Tryz.func73, Tryz.ntmps73
  go_wp2_with fail
  obtain ⟨w1, e1, oR, b1, s1⟩ := layA w [.bool false, .slice none 0 0, .slice none 0 0] 33
  rw [e1]
  clear e1
  have B := b1
  clear b1
  refine Calls.mono (nat_num _ 1 (by unfold b64; omega)) ?_
  rintro e w2 ⟨v1, rfl, h1, b2⟩
  replace oR := oR.gone b2
  replace B := B.trans (b2.mono B.size)
  clear b2
  go_wp2_with fail
  refine Calls.mono (nat_num _ 1 (by unfold b64; omega)) ?_
  rintro e w3 ⟨v2, rfl, h2, b3⟩
  replace oR := oR.gone b3
  replace h1 := h1.below b3
  replace B := B.trans (b3.mono B.size)
  clear b3
  go_wp2_with fail
  rw [HE.out]
  refine Calls.mono (shifted_num _ _ 1 K h2 (by omega) (j := 1) (by unfold Bd; omega) (by omega) (by omega)) ?_
  rintro e w4 ⟨v3, rfl, h3, b4⟩
  replace oR := oR.gone b4
  replace h1 := h1.below b4
  replace h2 := h2.below b4
  replace B := B.trans (b4.mono B.size)
  clear b4
  rw [Nat.one_mul] at h3
  clear h2
  obtain ⟨Aa, ca, rfl, _⟩ := id h1
  obtain ⟨Ab, cb, rfl, _⟩ := id h3
  generalize hP : 2 ^ K = P at *
  have k1 := oR.cell (i := 0) rfl
  have k2 := oR.fz 0
  have k3 := oR.cell (i := 1) rfl
  have k4 := oR.fz 1
  have k5 := oR.cell (i := 2) rfl
  have k6 := oR.fz 2
  go_wp2
  obtain ⟨wf, HW, ho, _, hN, hBf, _⟩ := oR.put notInt_z3 [.bool false, .slice Aa (digs b32 1).length ca, .slice Ab (digs b32 P).length cb] rfl notInt3
  simp only [setAll, Nat.reduceAdd] at HW
  (try rw [HW])
  (try simp only [Exit.inBlock, Exit.then])
  have f0 := ho.cell (i := 0) rfl
  have f1 := ho.cell (i := 1) rfl
  have f2 := ho.cell (i := 2) rfl
  refine bodyPost_ret (by simp [results, Tryz.results73, go_sem, f0, f1, f2]; try rfl) rfl ?_
  have HB := hBf _ (by omega) B
  exact ⟨_, rfl, ⟨_, _, by rw [HQ.out.1], by rw [HQ.out.2.1]; exact hN _ _ _ _ h1, by rw [HQ.out.2.2]; exact hN _ _ _ _ h3⟩, HB⟩
end Wx

namespace Wx
open Go Go.RowKit Go.Proofs

end Wx

namespace Wx
open Go Go.RowKit Go.Proofs

end Wx

namespace Wx
open Go

theorem bitLen_nbits {x : Nat} (h : x < 2 ^ 64) : Lib.bitLen x = nbits x := by
  have key : ∀ f x, x < 2 ^ f → Lib.bitLenAux f x = nbits x := by
    intro f
    induction f with
    | zero =>
      intro x hx
      have h0 : x = 0 := by simpa using hx
      subst h0
      rfl
    | succ f ih =>
      intro x hx
      by_cases h0 : x = 0
      · subst h0; rfl
      · show (if x = 0 then 0 else 1 + Lib.bitLenAux f (x / 2)) = _
        rw [if_neg h0, ih (x / 2) (by rw [Nat.pow_succ] at hx; omega)]
        rcases Nat.eq_zero_or_pos (x / 2) with h1 | h1
        · have : x = 1 := by omega
          subst this
          rfl
        · have a1 := nbits_lt (x / 2)
          have a2 := nbits_le h1
          have a3 := nbits_pos h1
          have := nbits_unique (n := x) (k := nbits (x / 2)) (by
            obtain ⟨q, hq⟩ : ∃ q, nbits (x / 2) = q + 1 := ⟨nbits (x / 2) - 1, by omega⟩
            rw [hq, Nat.add_sub_cancel] at a2
            rw [hq, Nat.pow_succ]; omega) (by rw [Nat.pow_succ]; omega)
          omega
  exact key 64 x h
theorem nbits_digs64 {n t : Nat} (h0 : 0 < n) (ht : (digs b64 n)[(digs b64 n).length - 1]? = some t) : nbits n = 64 * ((digs b64 n).length - 1) + nbits t := by
  have hb : 2 ≤ b64 := by decide
  have key : ∀ n, 0 < n → ∀ t, (digs b64 n)[(digs b64 n).length - 1]? = some t → nbits n = 64 * ((digs b64 n).length - 1) + nbits t := by
    intro n
    induction n using Nat.strongRecOn with
    | _ n ih =>
      intro h0 t ht
      rw [digs_pos hb h0] at ht ⊢
      rcases Nat.eq_zero_or_pos (n / b64) with h1 | h1
      · rw [h1, digs_zero] at ht ⊢
        simp at ht
        have hlt : n < b64 := by
          rcases Nat.lt_or_ge n b64 with h | h
          · exact h
          · have := Nat.div_pos h (by decide); omega
        rw [Nat.mod_eq_of_lt hlt] at ht
        simp [ht]
      · have hl := (digs_length_pos hb (n := n / b64)).2 h1
        have hlt : n / b64 < n := Nat.div_lt_self h0 (by decide)
        simp only [List.length_cons, Nat.add_sub_cancel] at ht ⊢
        obtain ⟨q, hq⟩ : ∃ q, (digs b64 (n / b64)).length = q + 1 := ⟨(digs b64 (n / b64)).length - 1, by omega⟩
        rw [hq, List.getElem?_cons_succ] at ht
        have := ih (n / b64) hlt h1 t (by rw [hq, Nat.add_sub_cancel]; exact ht)
        rw [hq, Nat.add_sub_cancel] at this
        rw [hq]
        have a1 := nbits_lt (n / b64)
        have a2 := nbits_le h1
        have a3 := nbits_pos h1
        have e : nbits n = nbits (n / b64) + 64 := by
          have hd := Nat.div_add_mod n b64
          have hm := Nat.mod_lt n (show 0 < b64 by decide)
          have e64 : b64 = 2 ^ 64 := by decide
          have := nbits_unique (n := n) (k := nbits (n / b64) - 1 + 64) (by
            rw [Nat.pow_add, ← e64]
            calc 2 ^ (nbits (n / b64) - 1) * b64 ≤ n / b64 * b64 := Nat.mul_le_mul_right _ a2
              _ ≤ n := Nat.div_mul_le_self n b64) (by
            have e2 : nbits (n / b64) - 1 + 64 + 1 = nbits (n / b64) + 64 := by omega
            rw [e2, Nat.pow_add, ← e64]
            have : (n / b64 + 1) * b64 ≤ 2 ^ nbits (n / b64) * b64 := Nat.mul_le_mul_right _ a1
            rw [Nat.add_mul, Nat.one_mul, Nat.mul_comm] at this
            omega)
          omega
        omega
  exact key n h0 t ht
end Wx
