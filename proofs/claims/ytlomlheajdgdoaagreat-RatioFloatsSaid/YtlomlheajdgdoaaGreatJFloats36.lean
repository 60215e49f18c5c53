import Derived.Handy
import Derived.Test.YtlomlheajdgdoaaGreatJFloats35
import GoSem.Core.Float
import Derived.Test.YtlomlheajdgdoaaGreatJFloats0
import Derived.Test.YtlomlheajdgdoaaGreatCFloatsMem
import Derived.Test.YtlomlheajdgdoaaGreatCFloatsInv
import Derived.Test.YtlomlheajdgdoaaGreatCFloatsSem
import Derived.Test.YtlomlheajdgdoaaGreatCFloatsSemOps
import Derived.Test.YtlomlheajdgdoaaGreatCFloatsSemMem
import Derived.Test.YtlomlheajdgdoaaGreatCFloatsSemCode
import Derived.Test.YtlomlheajdgdoaaGreatJFloats19
import Derived.Test.YtlomlheajdgdoaaGreatJFloats20
import Derived.IntWalk
import Derived.KernelRfl
import Derived.Test.YtlomlheajdgdoaaGreatProg
import Derived.Test.YtlomlheajdgdoaaGreatJFloats2
import Derived.Test.YtlomlheajdgdoaaGreatJFloats14
import Derived.Test.YtlomlheajdgdoaaGreatJFloats4
import Derived.Test.YtlomlheajdgdoaaGreatJFloats10
import Derived.Test.YtlomlheajdgdoaaGreatCFloatsRat1
import Derived.Test.YtlomlheajdgdoaaGreatJFloats12
import Derived.Test.YtlomlheajdgdoaaGreatJFloats22
import Derived.Test.YtlomlheajdgdoaaGreatJFloats28
import Derived.Deep.RegionHeld3
import Derived.Test.YtlomlheajdgdoaaGreatJFloats29
import Derived.Test.YtlomlheajdgdoaaGreatJFloats33
import Derived.Test.YtlomlheajdgdoaaGreatCFloatsNRat2
import Derived.Test.YtlomlheajdgdoaaGreatCFloatsNProd
namespace Wx
open Ieee

theorem double_least : double.leastPlace = -1074 := by decide
theorem min_aux {t r B : Nat} (h1 : t ≤ 2045) (h2 : r < 2 * B) : min (t * B + r) (2047 * B) = t * B + r := Nat.min_eq_left (by have := Nat.mul_le_mul_right B h1; omega)
theorem nearest_normal {m : Nat} {e : Int} (h : InDouble m e) (hn : -1022 ≤ e + m.log2) (neg : Bool) : double.nearest neg m e = double.word neg ((e + m.log2 + 1022).toNat * 2 ^ 52 + m * 2 ^ (52 - m.log2)) := by
  obtain ⟨h0, h1, h2, h3⟩ := h
  unfold Format.nearest
  rw [if_neg h0]
  have hl : max (e + (m.log2 : Int) - (double.fractionBits : Int)) double.leastPlace = e + m.log2 - 52 := by rw [double_least]; show max (e + (m.log2 : Int) - 52) (-1074) = _; omega
  simp only [hl]
  have a1 : (e - (e + (m.log2 : Int) - 52)).toNat = 52 - m.log2 := by omega
  have a2 : (e + (m.log2 : Int) - 52 - e).toNat = 0 := by omega
  have a3 : (e + (m.log2 : Int) - 52 - double.leastPlace).toNat = (e + m.log2 + 1022).toNat := by rw [double_least]; omega
  have hb : double.binade = 2 ^ 52 := rfl
  have hinf : double.infRung = 2047 * 2 ^ 52 := by decide
  rw [a1, a2, a3, cut_none, Nat.shiftLeft_eq, hb, hinf]
  congr 1
  have hup : m * 2 ^ (52 - m.log2) < 2 ^ 53 := by
    have h4 : m < 2 ^ (m.log2 + 1) := (Nat.log2_lt h0).1 (Nat.lt_succ_self _)
    calc m * 2 ^ (52 - m.log2) < 2 ^ (m.log2 + 1) * 2 ^ (52 - m.log2) := Nat.mul_lt_mul_of_pos_right h4 (Nat.two_pow_pos _)
      _ = 2 ^ 53 := by rw [← Nat.pow_add]; congr 1; omega
  have h5 : (e + m.log2 + 1022).toNat ≤ 2045 := by omega
  have hup2 : m * 2 ^ (52 - m.log2) < 2 * 2 ^ 52 := by rw [Nat.pow_succ] at hup; omega
  exact min_aux h5 hup2
theorem frac_bounds {m : Nat} (h0 : m ≠ 0) (h1 : m.log2 ≤ 52) : 2 ^ 52 ≤ m * 2 ^ (52 - m.log2) ∧ m * 2 ^ (52 - m.log2) < 2 ^ 53 := by
  constructor
  · have h4 : 2 ^ m.log2 ≤ m := (Nat.le_log2 h0).1 (Nat.le_refl _)
    calc 2 ^ 52 = 2 ^ m.log2 * 2 ^ (52 - m.log2) := by rw [← Nat.pow_add]; congr 1; omega
      _ ≤ m * 2 ^ (52 - m.log2) := Nat.mul_le_mul_right _ h4
  · have h4 : m < 2 ^ (m.log2 + 1) := (Nat.log2_lt h0).1 (Nat.lt_succ_self _)
    calc m * 2 ^ (52 - m.log2) < 2 ^ (m.log2 + 1) * 2 ^ (52 - m.log2) := Nat.mul_lt_mul_of_pos_right h4 (Nat.two_pow_pos _)
      _ = 2 ^ 53 := by rw [← Nat.pow_add]; congr 1; omega
theorem read_tiny : double.read 4368491638549381120 = .number false (2 ^ 52) (-105) := by decide +kernel
theorem double_tiny {m : Nat} {e : Int} (h : InDouble m e) (neg : Bool) : double.mul 4368491638549381120 (double.nearest neg m e) = some (double.nearest neg m (e - 53)) := by
  obtain ⟨k, h1, _⟩ := h.read neg
  unfold Format.mul
  rw [h1, read_tiny]
  simp only [Datum.product, Option.map_some, Format.write, Bool.false_xor]
  have := nearest_scale double neg m (e - 53) (52 + k)
  rw [Nat.pow_add, ← Nat.mul_assoc, Nat.mul_comm m, Nat.mul_assoc] at this
  rw [← this]
  congr 2
  omega
theorem ldexp_bits {m : Nat} {e0 e : Int} (h : InDouble m e0) (hn0 : -1022 ≤ e0 + m.log2) (h' : InDouble m e) (hn : -1022 ≤ e + m.log2) :
    double.nearest false m e0 / 2 ^ 52 = (e0 + m.log2 + 1023).toNat ∧ double.nearest false m e0 % 2 ^ 52 + (e + m.log2 + 1023).toNat * 2 ^ 52 = double.nearest false m e := by
  have hb := frac_bounds h.pos h.bits
  rw [nearest_normal h hn0, nearest_normal h' hn]
  simp only [Format.word, Bool.false_eq_true, if_false]
  generalize m * 2 ^ (52 - m.log2) = r at *
  obtain ⟨t, ht⟩ : ∃ t : Nat, (e0 + (m.log2 : Int) + 1022).toNat = t := ⟨_, rfl⟩
  have a1 : (e0 + (m.log2 : Int) + 1023).toNat = t + 1 := by omega
  rw [ht, a1]
  obtain ⟨q, hq⟩ : ∃ q, r = 2 ^ 52 + q := ⟨r - 2 ^ 52, by omega⟩
  have hq2 : q < 2 ^ 52 := by omega
  subst hq
  have e1 : t * 2 ^ 52 + (2 ^ 52 + q) = q + (t + 1) * 2 ^ 52 := by omega
  rw [e1]
  constructor
  · rw [Nat.add_mul_div_right _ _ (Nat.two_pow_pos 52), Nat.div_eq_of_lt hq2, Nat.zero_add]
  · rw [Nat.add_mul_mod_self_right, Nat.mod_eq_of_lt hq2]
    have : (e + (m.log2 : Int) + 1023).toNat = (e + (m.log2 : Int) + 1022).toNat + 1 := by omega
    rw [this, Nat.add_mul]
    omega
theorem nearest_neg (f : Format) (m : Nat) (e : Int) : f.nearest true m e = f.signWeight + f.nearest false m e := by
  unfold Format.nearest Format.word
  split <;> rfl
theorem nearest_zero (f : Format) (neg : Bool) (e : Int) : f.nearest neg 0 e = f.word neg 0 := by simp [Format.nearest]
end Wx

namespace Wx
open Go Go.RowKit

def pF (b : Nat) : Pred := pEq (.float .f64 b)
def pF32 (b : Nat) : Pred := pEq (.float .f32 b)
theorem pF_eq {b c : Nat} (h : b = c) : ∀ w v, pF b w v → pF c w v := fun _ _ k => h ▸ k
section
variable {P : Program} {ops : Array Oper} {ms : List Nat} {c : Cfg} {V : List Vr} {A : List Al} {G : List Ent} {i : Nat}
variable {d : Nat} {x y : Operand} {ty : TypeId} {pos : String} {aft : Array Edge}
theorem op_native1 {f : FuncId} {ts : Array TypeId} {v u : Value} (h : Has ms G i x (pEq v)) (hf : ∀ w, (callFunc f #[v]).run P w = .ok (.value u) w) (hp : Post G i (pEq u)) : OpOk P ops ms c V A G i ⟨some d, .call ⟨.value (.func f), #[x], ts⟩, ty, pos, aft, none⟩ :=
  op_val rfl rfl rfl (.inl rfl) hp fun L β a w hI hd => ⟨u, w, by
    have h : a.eval x = v := (h.spec hI hd).out
    have := hf w
    simp only [execOp, resolve, Act.eval, Deferred.ofValue, pure_bind, invoke] at h ⊢
    rw [show (#[x] : Array Operand).map a.eval = #[a.eval x] by simp]
    simp only [Act.eval, h]
    rw [show (#[] : Array Value) ++ #[v] ++ #[] = #[v] by simp]
    exact this, Below.refl _ _, fun _ _ => rfl⟩
theorem op_callB0 {f : FuncId} {ts : Array TypeId} {p : Pred} (hf : CanEnter P f) (hp : Post G i p) (hc : ∀ M w, Mid M w → Calls P f #[] w (RetB M p w)) : OpOk P ops ms c V A G i ⟨some d, .call ⟨.value (.func f), #[], ts⟩, ty, pos, aft, none⟩ :=
  op_call hf hp fun _ _ a w hI _ => (by
    rw [show (#[] : Array Operand).map a.eval = #[] by simp]
    exact hc _ w (mid_own hI))
theorem op_fbin {op : BinOp} {xt yt : TypeId} {k k' : FloatKind} {m n : Nat} {v : Value} (h1 : Has ms G i x (pEq (.float k m))) (h2 : Has ms G i y (pEq (.float k' n))) (hr : ∀ w, (Go.binOp op xt (.float k m) (.float k' n)).run P w = .ok v w) (hp : Post G i (pEq v)) :
    OpOk P ops ms c V A G i ⟨some d, .binOp op xt x y yt, ty, pos, aft, none⟩ :=
  op_val2 rfl rfl rfl rfl h1 h2 hp fun ρ w h1 h2 => ⟨v, by
    have h1 : ρ x = .float k m := h1
    have h2 : ρ y = .float k' n := h2
    show (do pure (Next.value (← (do eqGuard op xt x y (ρ x) (ρ y); Go.binOp op xt (ρ x) (ρ y))))).run P w = _
    rw [h1, h2]
    have hgd : eqGuard op xt x y (.float k m) (.float k' n) = pure () := by unfold eqGuard; split <;> rfl
    rw [hgd]
    have := hr w
    simp only [pure_bind, Sem.run_bind, this, Result.andThen_ok, Sem.run_pure], fun _ _ _ => rfl⟩
theorem op_fmul {xt yt : TypeId} {m n r : Nat} (h1 : Has ms G i x (pF m)) (h2 : Has ms G i y (pF n)) (hr : Ieee.double.mul m n = some r) (hp : Post G i (pF r)) : OpOk P ops ms c V A G i ⟨some d, .binOp .mul xt x y yt, ty, pos, aft, none⟩ := by
  refine op_fbin h1 h2 (fun w => ?_) hp
  show (Op.floatArith .mul .f64 m n).run P w = _
  have e : FloatKind.f64.format = Ieee.double := rfl
  simp only [Op.floatArith, e, hr, pure_bind, Sem.run_pure]
theorem op_fneg {xt : TypeId} {m : Nat} (h : Has ms G i x (pF m)) (hp : Post G i (pF (Op.negFloat .f64 m))) : OpOk P ops ms c V A G i ⟨some d, .unOp .neg xt x, ty, pos, aft, none⟩ :=
  op_val1 rfl rfl rfl rfl h hp fun ρ w h => ⟨.float .f64 (Op.negFloat .f64 m), by
    have h : ρ x = .float .f64 m := h
    show (do pure (Next.value (← Op.unary .neg (ρ x)))).run P w = _
    rw [h]; rfl, fun _ _ => rfl⟩
theorem op_neg {xt : TypeId} {n : Int} (h : Has ms G i x (pI n)) (hn : -9223372036854775807 ≤ n ∧ n ≤ 9223372036854775807) (hp : Post G i (pI (-n))) : OpOk P ops ms c V A G i ⟨some d, .unOp .neg xt x, ty, pos, aft, none⟩ :=
  op_val1 rfl rfl rfl rfl h hp fun ρ w h => ⟨.int .i64 (-n), by
    have h : ρ x = .int .i64 n := h
    show (do pure (Next.value (← Op.unary .neg (ρ x)))).run P w = _
    rw [h]
    show Result.ok (Next.value (.int .i64 (IntKind.i64.wrap (0 - n)))) w = _
    rw [IntWalk.i64_in (0 - n) (by omega)]
    congr 3
    omega, fun _ _ => rfl⟩
theorem f64_nat (n : Nat) : FloatKind.f64.nearest (n : Int) = Ieee.double.nearest false n 0 := by
  have e : FloatKind.f64.format = Ieee.double := rfl
  have h : decide ((n : Int) < 0) = false := decide_eq_false (by omega)
  simp only [FloatKind.nearest, FloatKind.encode, e, Ieee.Format.write, h, Int.natAbs_natCast]
theorem op_andI {xt yt : TypeId} {z m : Int} {N k : Nat} (h1 : Has ms G i x (pI z)) (h2 : Has ms G i y (pI m)) (hm : m = ((2 ^ k - 1 : Nat) : Int)) (hz : z = (N : Int)) (hk : k ≤ 62) (hN : N < 2 ^ k) (hp : Post G i (pI (N : Int))) : OpOk P ops ms c V A G i ⟨some d, .binOp .and xt x y yt, ty, pos, aft, none⟩ := by
  refine op_bin h1 h2 (fun w => ?_) hp
  have h64 : (2 : Nat) ^ k ≤ 2 ^ 62 := Nat.pow_le_pow_right (by omega) hk
  show Result.ok (Value.int .i64 (IntKind.i64.wrap ((BitVec.ofInt 64 z &&& BitVec.ofInt 64 m).toNat : Int))) w = _
  have hN2 : N < 2 ^ 62 := Nat.lt_of_lt_of_le hN h64
  rw [hz, hm, and_maskN (Nat.lt_of_lt_of_le hN2 (by decide)) (by omega), Nat.mod_eq_of_lt hN, IntWalk.i64_in (N : Int) (by omega)]
def maxZ (m n : Int) : Int := if n > m then n else m
theorem maxZ_spec (m n : Int) : m ≤ maxZ m n ∧ n ≤ maxZ m n ∧ (maxZ m n = m ∨ maxZ m n = n) := by unfold maxZ; split <;> omega
theorem op_max2 {ts : Array TypeId} {m n : Int} (h1 : Has ms G i x (pI m)) (h2 : Has ms G i y (pI n)) (hp : Post G i (pI (maxZ m n))) : OpOk P ops ms c V A G i ⟨some d, .call ⟨.builtin .max, #[x, y], ts⟩, ty, pos, aft, none⟩ :=
  op_val2 rfl rfl rfl rfl h1 h2 hp fun ρ w h1 h2 => ⟨.int .i64 (maxZ m n), by
    have h1 : ρ x = .int .i64 m := h1
    have h2 : ρ y = .int .i64 n := h2
    show (do let d ← resolve ρ ⟨.builtin .max, #[x, y], ts⟩ ty; invoke d.target d.args).run P w = _
    simp only [resolve, invoke, pure_bind, builtin]
    rw [show (#[x, y] : Array Operand).map ρ = #[ρ x, ρ y] by simp, h1, h2]
    rfl, fun _ _ _ => rfl⟩
end
end Wx

namespace Wx
open Go Go.RowKit

section
variable {P : Program} {ops : Array Oper} {ms : List Nat} {c : Cfg} {V : List Vr} {A : List Al} {G : List Ent} {i d : Nat} {x y : Operand} {ty : TypeId} {pos : String} {aft : Array Edge}
end
end Wx

namespace Wx
open Go Go.RowKit Go.Proofs

end Wx

namespace Wx
open Go Go.RowKit Go.Proofs

end Wx

namespace Wx
open Go Go.RowKit Go.Proofs

theorem bd_zero : BdR 1 (0 : Rat) := ⟨by show (0 : Rat).num.natAbs < 2 ^ 1; decide, by show (0 : Rat).den < 2 ^ 1; decide⟩
theorem ret_is {w : World} {v : Value} {e : Ending} {w' : World} (h : RetIs w v e w') : Ret (pEq v) w e w' := ⟨v, h.1, rfl, h.2⟩
end Wx

namespace Wx
open Go Go.RowKit Go.Proofs
set_option linter.unusedVariables false

theorem c_awake : ∀ w, Calls Tryz.prog 6 #[] w (Ret (pB true) w) := fun w => (awake_num w).mono fun _ _ => ret_is
theorem bd_int {z : Int} (h1 : -9223372036854775808 ≤ z) (h2 : z ≤ 9223372036854775807) : BdR 64 (z : Rat) := ⟨by unfold Bd; rw [Rat.num_intCast]; omega, by unfold Bd; rw [Rat.den_intCast]; omega⟩
theorem law_true {f : FuncId} {P : Program} {args : Array Value} {W : World} (h : Calls P f args W (RetB (fun _ _ => False) (pB true) W)) : Calls P f args W fun e w' => e = .returned (.bool true) ∧ Below W.heap.size W w' :=
  h.mono fun e w' h => by
    obtain ⟨v, rfl, hv, hb⟩ := h
    have : v = .bool true := hv.out
    exact ⟨by rw [this], hb⟩
end Wx

namespace Wx
open Go Go.RowKit Go.Proofs
set_option linter.unusedVariables false

end Wx

namespace Wx
open Go Go.RowKit Go.Proofs

end Wx

namespace Wx
open Go Go.RowKit Go.Proofs

end Wx

namespace Wx
open Go Go.RowKit Go.Proofs

end Wx

namespace Wx
set_option maxRecDepth 100000
open Go Go.RowKit Go.Proofs

set_option maxHeartbeats 8000000 in
theorem nmul_num (w : World) (vx vy : Value) (x y : Rat) (hx : IsRef w vx x) (hy : IsRef w vy y) {j k : Nat} (hj : BdR j x) (hk : BdR k y) (hjk : j + k ≤ 10000000) : Calls Tryz.prog 14 #[vx, vy] w (RetRef w (x * y)) := by
  obtain ⟨vx1, vx2, rfl, hxa, hxb⟩ := id hx
  obtain ⟨Ax1, cx1, rfl, _⟩ := id hxa
  obtain ⟨Ax2, cx2, rfl, _⟩ := id hxb
  obtain ⟨vy1, vy2, rfl, hya, hyb⟩ := id hy
  obtain ⟨Ay1, cy1, rfl, _⟩ := id hya
  obtain ⟨Ay2, cy2, rfl, _⟩ := id hyb
  have hdx := x.den_pos
  have hdy := y.den_pos
  have HB := bx (And.intro hj hk)
  have hj1 : j ≤ 1000000000 := by omega
  have hk1 : k ≤ 1000000000 := by omega
  have hx0 := hx
  have hy0 := hy
  clear hj hk hx hy
  go_enter Tryz.func14, Tryz.ntmps14
  go_wp2_with fail
  obtain ⟨w1, e1, o1, b1, s1⟩ := layA w [.bool (decide (x.num < 0)), .slice Ax1 (digs b32 x.num.natAbs).length cx1, .slice Ax2 (digs b32 x.den).length cx2] 33
  obtain ⟨w2, e2, o2, b2, s2⟩ := layA w1 [.bool (decide (y.num < 0)), .slice Ay1 (digs b32 y.num.natAbs).length cy1, .slice Ay2 (digs b32 y.den).length cy2] 33
  obtain ⟨w3, e3, o3, b3, s3⟩ := layA w2 [.bool false, .slice none 0 0, .slice none 0 0] 33
  rw [e1, e2, e3]
  rw [s1] at o2
  rw [s2, s1] at o3
  have p1 := ((o1.gone b2).gone b3)
  have p2 := (o2.gone b3)
  have p3 := o3
  have B0 := ((b1.trans (b2.mono b1.size)).trans (b3.mono (b1.trans (b2.mono b1.size)).size))
  have hS : ∀ w', HeldN w (w.heap.size + 2) 3 33 [(w.heap.size, [.bool (decide (x.num < 0)), .slice Ax1 (digs b32 x.num.natAbs).length cx1, .slice Ax2 (digs b32 x.den).length cx2], 33), (w.heap.size + 1, [.bool (decide (y.num < 0)), .slice Ay1 (digs b32 y.num.natAbs).length cy1, .slice Ay2 (digs b32 y.den).length cy2], 33)] w' → HeldN w (w.heap.size + 2) 3 33 [(w.heap.size, [.bool (decide (x.num < 0)), .slice Ax1 (digs b32 x.num.natAbs).length cx1, .slice Ax2 (digs b32 x.den).length cx2], 33), (w.heap.size + 1, [.bool (decide (y.num < 0)), .slice Ay1 (digs b32 y.num.natAbs).length cy1, .slice Ay2 (digs b32 y.den).length cy2], 33)] w' ∧ w'.cell? ⟨w.heap.size, 0, none⟩ = some (.bool (decide (x.num < 0))) ∧ w'.cell? ⟨w.heap.size, 1, none⟩ = some (.slice Ax1 (digs b32 x.num.natAbs).length cx1) ∧ w'.cell? ⟨w.heap.size, 2, none⟩ = some (.slice Ax2 (digs b32 x.den).length cx2) ∧ w'.cell? ⟨w.heap.size + 1, 0, none⟩ = some (.bool (decide (y.num < 0))) ∧ w'.cell? ⟨w.heap.size + 1, 1, none⟩ = some (.slice Ay1 (digs b32 y.num.natAbs).length cy1) ∧ w'.cell? ⟨w.heap.size + 1, 2, none⟩ = some (.slice Ay2 (digs b32 y.den).length cy2) ∧ w'.cell? ⟨w.heap.size + 2, 0, none⟩ = some (cv w' ⟨w.heap.size + 2, 0, none⟩) ∧ w'.cell? ⟨w.heap.size + 2, 1, none⟩ = some (cv w' ⟨w.heap.size + 2, 1, none⟩) ∧ w'.cell? ⟨w.heap.size + 2, 2, none⟩ = some (cv w' ⟨w.heap.size + 2, 2, none⟩) ∧ w'.frozen? ⟨w.heap.size + 2, 0, none⟩ = false ∧ w'.frozen? ⟨w.heap.size + 2, 1, none⟩ = false ∧ w'.frozen? ⟨w.heap.size + 2, 2, none⟩ = false := fun w' hh => by
    have r1 := hh.par (p := (w.heap.size, [.bool (decide (x.num < 0)), .slice Ax1 (digs b32 x.num.natAbs).length cx1, .slice Ax2 (digs b32 x.den).length cx2], 33)) (by simp)
    have r2 := hh.par (p := (w.heap.size + 1, [.bool (decide (y.num < 0)), .slice Ay1 (digs b32 y.num.natAbs).length cy1, .slice Ay2 (digs b32 y.den).length cy2], 33)) (by simp)
    exact ⟨hh, r1.cell (i := 0) rfl, r1.cell (i := 1) rfl, r1.cell (i := 2) rfl, r2.cell (i := 0) rfl, r2.cell (i := 1) rfl, r2.cell (i := 2) rfl, hh.cellR (i := 0) (by omega), hh.cellR (i := 1) (by omega), hh.cellR (i := 2) (by omega), hh.fzR 0, hh.fzR 1, hh.fzR 2⟩
  have hz : HeldN w (w.heap.size + 2) 3 33 [(w.heap.size, [.bool (decide (x.num < 0)), .slice Ax1 (digs b32 x.num.natAbs).length cx1, .slice Ax2 (digs b32 x.den).length cx2], 33), (w.heap.size + 1, [.bool (decide (y.num < 0)), .slice Ay1 (digs b32 y.num.natAbs).length cy1, .slice Ay2 (digs b32 y.den).length cy2], 33)] w3 := ⟨B0, by omega, by intro q hq; simp at hq; rcases hq with rfl | rfl; exact ⟨by simp, p1⟩; exact ⟨by simp, p2⟩, _, rfl, p3, notInt3⟩
  clear e1 e2 e3 o1 b1 s1 p1 o2 b2 s2 p2 o3 b3 s3 p3
  clear B0
  have hz := hz.drew
  go_region_held3 (fun w' => HeldN w (w.heap.size + 2) 3 33 [(w.heap.size, [.bool (decide (x.num < 0)), .slice Ax1 (digs b32 x.num.natAbs).length cx1, .slice Ax2 (digs b32 x.den).length cx2], 33), (w.heap.size + 1, [.bool (decide (y.num < 0)), .slice Ay1 (digs b32 y.num.natAbs).length cy1, .slice Ay2 (digs b32 y.den).length cy2], 33)] w' ∧ w'.cell? ⟨w.heap.size, 0, none⟩ = some (.bool (decide (x.num < 0))) ∧ w'.cell? ⟨w.heap.size, 1, none⟩ = some (.slice Ax1 (digs b32 x.num.natAbs).length cx1) ∧ w'.cell? ⟨w.heap.size, 2, none⟩ = some (.slice Ax2 (digs b32 x.den).length cx2) ∧ w'.cell? ⟨w.heap.size + 1, 0, none⟩ = some (.bool (decide (y.num < 0))) ∧ w'.cell? ⟨w.heap.size + 1, 1, none⟩ = some (.slice Ay1 (digs b32 y.num.natAbs).length cy1) ∧ w'.cell? ⟨w.heap.size + 1, 2, none⟩ = some (.slice Ay2 (digs b32 y.den).length cy2) ∧ w'.cell? ⟨w.heap.size + 2, 0, none⟩ = some (cv w' ⟨w.heap.size + 2, 0, none⟩) ∧ w'.cell? ⟨w.heap.size + 2, 1, none⟩ = some (cv w' ⟨w.heap.size + 2, 1, none⟩) ∧ w'.cell? ⟨w.heap.size + 2, 2, none⟩ = some (cv w' ⟨w.heap.size + 2, 2, none⟩) ∧ w'.frozen? ⟨w.heap.size + 2, 0, none⟩ = false ∧ w'.frozen? ⟨w.heap.size + 2, 1, none⟩ = false ∧ w'.frozen? ⟨w.heap.size + 2, 2, none⟩ = false)
    (first | exact hS _ hz | exact hS _ (HeldN.sets3 hz))
    (first
      | (go_at_call 63; have hc := product_num _ _ _ _ _ (hxa.below hz.1) (hya.below hz.1) HB.out.1.1 HB.out.2.1 (by omega) (by omega); (with_reducible refine Calls.mono hc ?_); clear hc; rintro e wz ⟨vt1, rfl, ht1, hb⟩; (try have hux := hux.below hb); (try have huy := huy.below hb); (try have ht1 := ht1.below hb); (try have ht2 := ht2.below hb); (try have htd := htd.below hb); (try have hs1 := hs1.below hb); have hz := HeldN.call (And.intro hz trivial) hb)
      | (go_at_call 64; have hc := nunder_num _ _ x (hx0.below hz.1); (with_reducible refine Calls.mono hc ?_); clear hc; rintro e wz ⟨vux, rfl, hux, hb⟩; (try have hux := hux.below hb); (try have huy := huy.below hb); (try have ht1 := ht1.below hb); (try have ht2 := ht2.below hb); (try have htd := htd.below hb); (try have hs1 := hs1.below hb); have hz := HeldN.call (And.intro hz trivial) hb)
      | (go_at_call 64; have hc := nunder_num _ _ y (hy0.below hz.1); (with_reducible refine Calls.mono hc ?_); clear hc; rintro e wz ⟨vuy, rfl, huy, hb⟩; (try have hux := hux.below hb); (try have huy := huy.below hb); (try have ht1 := ht1.below hb); (try have ht2 := ht2.below hb); (try have htd := htd.below hb); (try have hs1 := hs1.below hb); have hz := HeldN.call (And.intro hz trivial) hb)
      | (go_at_call 63; have hc := product_num _ _ _ _ _ hux huy HB.out.1.2 HB.out.2.2 (by omega) (by omega); (with_reducible refine Calls.mono hc ?_); clear hc; rintro e wz ⟨vt2, rfl, ht2, hb⟩; (try have hux := hux.below hb); (try have huy := huy.below hb); (try have ht1 := ht1.below hb); (try have ht2 := ht2.below hb); (try have htd := htd.below hb); (try have hs1 := hs1.below hb); have hz := HeldN.call (And.intro hz trivial) hb)
      | (go_at_call 57; have hc := made_num _ (!(decide (x.num < 0) == decide (y.num < 0))) _ _ (x.num.natAbs * y.num.natAbs) (x.den * y.den) ht1 ht2 (Nat.mul_pos hdx hdy) (HB.out.1.1.mul HB.out.2.1) (HB.out.1.2.mul HB.out.2.2) hjk; (with_reducible refine Calls.mono hc ?_); clear hc; rintro e wz ⟨vr, rfl, hr, hb⟩; (try have hux := hux.below hb); (try have huy := huy.below hb); (try have ht1 := ht1.below hb); (try have ht2 := ht2.below hb); (try have htd := htd.below hb); (try have hs1 := hs1.below hb); have hz := HeldN.call (And.intro hz trivial) hb; replace hr := isRef_of hr (mul_red x y); obtain ⟨vr1, vr2, rfl, hra, hrb⟩ := id hr; obtain ⟨Ar1, cr1, rfl, _⟩ := id hra; obtain ⟨Ar2, cr2, rfl, _⟩ := id hrb))
  all_goals (
    go_wp2
    obtain ⟨wf, HW, ho, hB, hN⟩ := hz.fin [.bool (decide ((x * y).num < 0)), .slice Ar1 (digs b32 (x * y).num.natAbs).length cr1, .slice Ar2 (digs b32 (x * y).den).length cr2] rfl notInt3
    simp only [setAll, Nat.reduceAdd] at HW
    (try rw [HW])
    (try simp only [Exit.inBlock, Exit.then])
    have f0 := ho.cell (i := 0) rfl
    have f1 := ho.cell (i := 1) rfl
    have f2 := ho.cell (i := 2) rfl
    refine bodyPost_ret (by simp [results, Tryz.results14, go_sem, f0, f1, f2]; try rfl) rfl ?_
    exact ⟨_, rfl, hr.into hN, hB⟩)
end Wx
