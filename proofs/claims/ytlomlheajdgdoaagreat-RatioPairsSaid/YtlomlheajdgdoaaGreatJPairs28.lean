import Derived.Handy
import Derived.Test.YtlomlheajdgdoaaGreatJPairs27
import GoSem.Core.Float
import Derived.Test.YtlomlheajdgdoaaGreatJPairs0
import Derived.Test.YtlomlheajdgdoaaGreatJPairs1
import Derived.Test.YtlomlheajdgdoaaGreatJPairs10
import Derived.Test.YtlomlheajdgdoaaGreatCPairsSem
import Derived.Test.YtlomlheajdgdoaaGreatCPairsSemOps
import Derived.Test.YtlomlheajdgdoaaGreatCPairsSemMem
import Derived.Test.YtlomlheajdgdoaaGreatCPairsSemCode
import Derived.Test.YtlomlheajdgdoaaGreatJPairs15
import Derived.IntWalk
import Derived.KernelRfl
import Derived.Test.YtlomlheajdgdoaaGreatProg
import Derived.Test.YtlomlheajdgdoaaGreatJPairs16
namespace Wx
open Ieee

theorem double_least : double.leastPlace = -1074 := by decide
theorem min_aux {t r B : Nat} (h1 : t ≤ 2045) (h2 : r < 2 * B) : min (t * B + r) (2047 * B) = t * B + r := Nat.min_eq_left (by have := Nat.mul_le_mul_right B h1; omega)
theorem nearest_normal {m : Nat} {e : Int} (h : InDouble m e) (hn : -1022 ≤ e + m.log2) (neg : Bool) : double.nearest neg m e = double.word neg ((e + m.log2 + 1022).toNat * 2 ^ 52 + m * 2 ^ (52 - m.log2)) := by
  obtain ⟨h0, h1, h2, h3⟩ := h
  unfold Format.nearest
  rw [if_neg h0]
  have hl : max (e + (m.log2 : Int) - (double.fractionBits : Int)) double.leastPlace = e + m.log2 - 52 := by rw [double_least]; show max (e + (m.log2 : Int) - 52) (-1074) = _; omega
  simp only [hl]
  have a1 : (e - (e + (m.log2 : Int) - 52)).toNat = 52 - m.log2 := by omega
  have a2 : (e + (m.log2 : Int) - 52 - e).toNat = 0 := by omega
  have a3 : (e + (m.log2 : Int) - 52 - double.leastPlace).toNat = (e + m.log2 + 1022).toNat := by rw [double_least]; omega
  have hb : double.binade = 2 ^ 52 := rfl
  have hinf : double.infRung = 2047 * 2 ^ 52 := by decide
  rw [a1, a2, a3, cut_none, Nat.shiftLeft_eq, hb, hinf]
  congr 1
  have hup : m * 2 ^ (52 - m.log2) < 2 ^ 53 := by
    have h4 : m < 2 ^ (m.log2 + 1) := (Nat.log2_lt h0).1 (Nat.lt_succ_self _)
    calc m * 2 ^ (52 - m.log2) < 2 ^ (m.log2 + 1) * 2 ^ (52 - m.log2) := Nat.mul_lt_mul_of_pos_right h4 (Nat.two_pow_pos _)
      _ = 2 ^ 53 := by rw [← Nat.pow_add]; congr 1; omega
  have h5 : (e + m.log2 + 1022).toNat ≤ 2045 := by omega
  have hup2 : m * 2 ^ (52 - m.log2) < 2 * 2 ^ 52 := by rw [Nat.pow_succ] at hup; omega
  exact min_aux h5 hup2
theorem frac_bounds {m : Nat} (h0 : m ≠ 0) (h1 : m.log2 ≤ 52) : 2 ^ 52 ≤ m * 2 ^ (52 - m.log2) ∧ m * 2 ^ (52 - m.log2) < 2 ^ 53 := by
  constructor
  · have h4 : 2 ^ m.log2 ≤ m := (Nat.le_log2 h0).1 (Nat.le_refl _)
    calc 2 ^ 52 = 2 ^ m.log2 * 2 ^ (52 - m.log2) := by rw [← Nat.pow_add]; congr 1; omega
      _ ≤ m * 2 ^ (52 - m.log2) := Nat.mul_le_mul_right _ h4
  · have h4 : m < 2 ^ (m.log2 + 1) := (Nat.log2_lt h0).1 (Nat.lt_succ_self _)
    calc m * 2 ^ (52 - m.log2) < 2 ^ (m.log2 + 1) * 2 ^ (52 - m.log2) := Nat.mul_lt_mul_of_pos_right h4 (Nat.two_pow_pos _)
      _ = 2 ^ 53 := by rw [← Nat.pow_add]; congr 1; omega
theorem read_tiny : double.read 4368491638549381120 = .number false (2 ^ 52) (-105) := by decide +kernel
theorem double_tiny {m : Nat} {e : Int} (h : InDouble m e) (neg : Bool) : double.mul 4368491638549381120 (double.nearest neg m e) = some (double.nearest neg m (e - 53)) := by
  obtain ⟨k, h1, _⟩ := h.read neg
  unfold Format.mul
  rw [h1, read_tiny]
  simp only [Datum.product, Option.map_some, Format.write, Bool.false_xor]
  have := nearest_scale double neg m (e - 53) (52 + k)
  rw [Nat.pow_add, ← Nat.mul_assoc, Nat.mul_comm m, Nat.mul_assoc] at this
  rw [← this]
  congr 2
  omega
theorem ldexp_bits {m : Nat} {e0 e : Int} (h : InDouble m e0) (hn0 : -1022 ≤ e0 + m.log2) (h' : InDouble m e) (hn : -1022 ≤ e + m.log2) :
    double.nearest false m e0 / 2 ^ 52 = (e0 + m.log2 + 1023).toNat ∧ double.nearest false m e0 % 2 ^ 52 + (e + m.log2 + 1023).toNat * 2 ^ 52 = double.nearest false m e := by
  have hb := frac_bounds h.pos h.bits
  rw [nearest_normal h hn0, nearest_normal h' hn]
  simp only [Format.word, Bool.false_eq_true, if_false]
  generalize m * 2 ^ (52 - m.log2) = r at *
  obtain ⟨t, ht⟩ : ∃ t : Nat, (e0 + (m.log2 : Int) + 1022).toNat = t := ⟨_, rfl⟩
  have a1 : (e0 + (m.log2 : Int) + 1023).toNat = t + 1 := by omega
  rw [ht, a1]
  obtain ⟨q, hq⟩ : ∃ q, r = 2 ^ 52 + q := ⟨r - 2 ^ 52, by omega⟩
  have hq2 : q < 2 ^ 52 := by omega
  subst hq
  have e1 : t * 2 ^ 52 + (2 ^ 52 + q) = q + (t + 1) * 2 ^ 52 := by omega
  rw [e1]
  constructor
  · rw [Nat.add_mul_div_right _ _ (Nat.two_pow_pos 52), Nat.div_eq_of_lt hq2, Nat.zero_add]
  · rw [Nat.add_mul_mod_self_right, Nat.mod_eq_of_lt hq2]
    have : (e + (m.log2 : Int) + 1023).toNat = (e + (m.log2 : Int) + 1022).toNat + 1 := by omega
    rw [this, Nat.add_mul]
    omega
theorem nearest_neg (f : Format) (m : Nat) (e : Int) : f.nearest true m e = f.signWeight + f.nearest false m e := by
  unfold Format.nearest Format.word
  split <;> rfl
theorem nearest_zero (f : Format) (neg : Bool) (e : Int) : f.nearest neg 0 e = f.word neg 0 := by simp [Format.nearest]
end Wx

namespace Wx
open Go Go.RowKit

def pF (b : Nat) : Pred := pEq (.float .f64 b)
def pF32 (b : Nat) : Pred := pEq (.float .f32 b)
theorem pF_eq {b c : Nat} (h : b = c) : ∀ w v, pF b w v → pF c w v := fun _ _ k => h ▸ k
section
variable {P : Program} {ops : Array Oper} {ms : List Nat} {c : Cfg} {V : List Vr} {A : List Al} {G : List Ent} {i : Nat}
variable {d : Nat} {x y : Operand} {ty : TypeId} {pos : String} {aft : Array Edge}
theorem op_native1 {f : FuncId} {ts : Array TypeId} {v u : Value} (h : Has ms G i x (pEq v)) (hf : ∀ w, (callFunc f #[v]).run P w = .ok (.value u) w) (hp : Post G i (pEq u)) : OpOk P ops ms c V A G i ⟨some d, .call ⟨.value (.func f), #[x], ts⟩, ty, pos, aft, none⟩ :=
  op_val rfl rfl rfl (.inl rfl) hp fun L β a w hI hd => ⟨u, w, by
    have h : a.eval x = v := (h.spec hI hd).out
    have := hf w
    simp only [execOp, resolve, Act.eval, Deferred.ofValue, pure_bind, invoke] at h ⊢
    rw [show (#[x] : Array Operand).map a.eval = #[a.eval x] by simp]
    simp only [Act.eval, h]
    rw [show (#[] : Array Value) ++ #[v] ++ #[] = #[v] by simp]
    exact this, Below.refl _ _, fun _ _ => rfl⟩
theorem op_callB0 {f : FuncId} {ts : Array TypeId} {p : Pred} (hf : CanEnter P f) (hp : Post G i p) (hc : ∀ M w, Mid M w → Calls P f #[] w (RetB M p w)) : OpOk P ops ms c V A G i ⟨some d, .call ⟨.value (.func f), #[], ts⟩, ty, pos, aft, none⟩ :=
  op_call hf hp fun _ _ a w hI _ => (by
    rw [show (#[] : Array Operand).map a.eval = #[] by simp]
    exact hc _ w (mid_own hI))
theorem op_fbin {op : BinOp} {xt yt : TypeId} {k k' : FloatKind} {m n : Nat} {v : Value} (h1 : Has ms G i x (pEq (.float k m))) (h2 : Has ms G i y (pEq (.float k' n))) (hr : ∀ w, (Go.binOp op xt (.float k m) (.float k' n)).run P w = .ok v w) (hp : Post G i (pEq v)) :
    OpOk P ops ms c V A G i ⟨some d, .binOp op xt x y yt, ty, pos, aft, none⟩ :=
  op_val2 rfl rfl rfl rfl h1 h2 hp fun ρ w h1 h2 => ⟨v, by
    have h1 : ρ x = .float k m := h1
    have h2 : ρ y = .float k' n := h2
    show (do pure (Next.value (← (do eqGuard op xt x y (ρ x) (ρ y); Go.binOp op xt (ρ x) (ρ y))))).run P w = _
    rw [h1, h2]
    have hgd : eqGuard op xt x y (.float k m) (.float k' n) = pure () := by unfold eqGuard; split <;> rfl
    rw [hgd]
    have := hr w
    simp only [pure_bind, Sem.run_bind, this, Result.andThen_ok, Sem.run_pure], fun _ _ _ => rfl⟩
theorem op_fmul {xt yt : TypeId} {m n r : Nat} (h1 : Has ms G i x (pF m)) (h2 : Has ms G i y (pF n)) (hr : Ieee.double.mul m n = some r) (hp : Post G i (pF r)) : OpOk P ops ms c V A G i ⟨some d, .binOp .mul xt x y yt, ty, pos, aft, none⟩ := by
  refine op_fbin h1 h2 (fun w => ?_) hp
  show (Op.floatArith .mul .f64 m n).run P w = _
  have e : FloatKind.f64.format = Ieee.double := rfl
  simp only [Op.floatArith, e, hr, pure_bind, Sem.run_pure]
theorem op_fquo {xt yt : TypeId} {m n r : Nat} (h1 : Has ms G i x (pF m)) (h2 : Has ms G i y (pF n)) (hr : Ieee.double.div m n = some r) (hp : Post G i (pF r)) : OpOk P ops ms c V A G i ⟨some d, .binOp .quo xt x y yt, ty, pos, aft, none⟩ := by
  refine op_fbin h1 h2 (fun w => ?_) hp
  show (Op.floatArith .quo .f64 m n).run P w = _
  have e : FloatKind.f64.format = Ieee.double := rfl
  simp only [Op.floatArith, e, hr, pure_bind, Sem.run_pure]
theorem op_fneg {xt : TypeId} {m : Nat} (h : Has ms G i x (pF m)) (hp : Post G i (pF (Op.negFloat .f64 m))) : OpOk P ops ms c V A G i ⟨some d, .unOp .neg xt x, ty, pos, aft, none⟩ :=
  op_val1 rfl rfl rfl rfl h hp fun ρ w h => ⟨.float .f64 (Op.negFloat .f64 m), by
    have h : ρ x = .float .f64 m := h
    show (do pure (Next.value (← Op.unary .neg (ρ x)))).run P w = _
    rw [h]; rfl, fun _ _ => rfl⟩
theorem op_neg {xt : TypeId} {n : Int} (h : Has ms G i x (pI n)) (hn : -9223372036854775807 ≤ n ∧ n ≤ 9223372036854775807) (hp : Post G i (pI (-n))) : OpOk P ops ms c V A G i ⟨some d, .unOp .neg xt x, ty, pos, aft, none⟩ :=
  op_val1 rfl rfl rfl rfl h hp fun ρ w h => ⟨.int .i64 (-n), by
    have h : ρ x = .int .i64 n := h
    show (do pure (Next.value (← Op.unary .neg (ρ x)))).run P w = _
    rw [h]
    show Result.ok (Next.value (.int .i64 (IntKind.i64.wrap (0 - n)))) w = _
    rw [IntWalk.i64_in (0 - n) (by omega)]
    congr 3
    omega, fun _ _ => rfl⟩
theorem f64_nat (n : Nat) : FloatKind.f64.nearest (n : Int) = Ieee.double.nearest false n 0 := by
  have e : FloatKind.f64.format = Ieee.double := rfl
  have h : decide ((n : Int) < 0) = false := decide_eq_false (by omega)
  simp only [FloatKind.nearest, FloatKind.encode, e, Ieee.Format.write, h, Int.natAbs_natCast]
theorem op_andI {xt yt : TypeId} {z m : Int} {N k : Nat} (h1 : Has ms G i x (pI z)) (h2 : Has ms G i y (pI m)) (hm : m = ((2 ^ k - 1 : Nat) : Int)) (hz : z = (N : Int)) (hk : k ≤ 62) (hN : N < 2 ^ k) (hp : Post G i (pI (N : Int))) : OpOk P ops ms c V A G i ⟨some d, .binOp .and xt x y yt, ty, pos, aft, none⟩ := by
  refine op_bin h1 h2 (fun w => ?_) hp
  have h64 : (2 : Nat) ^ k ≤ 2 ^ 62 := Nat.pow_le_pow_right (by omega) hk
  show Result.ok (Value.int .i64 (IntKind.i64.wrap ((BitVec.ofInt 64 z &&& BitVec.ofInt 64 m).toNat : Int))) w = _
  have hN2 : N < 2 ^ 62 := Nat.lt_of_lt_of_le hN h64
  rw [hz, hm, and_maskN (Nat.lt_of_lt_of_le hN2 (by decide)) (by omega), Nat.mod_eq_of_lt hN, IntWalk.i64_in (N : Int) (by omega)]
def maxZ (m n : Int) : Int := if n > m then n else m
theorem maxZ_spec (m n : Int) : m ≤ maxZ m n ∧ n ≤ maxZ m n ∧ (maxZ m n = m ∨ maxZ m n = n) := by unfold maxZ; split <;> omega
theorem op_max2 {ts : Array TypeId} {m n : Int} (h1 : Has ms G i x (pI m)) (h2 : Has ms G i y (pI n)) (hp : Post G i (pI (maxZ m n))) : OpOk P ops ms c V A G i ⟨some d, .call ⟨.builtin .max, #[x, y], ts⟩, ty, pos, aft, none⟩ :=
  op_val2 rfl rfl rfl rfl h1 h2 hp fun ρ w h1 h2 => ⟨.int .i64 (maxZ m n), by
    have h1 : ρ x = .int .i64 m := h1
    have h2 : ρ y = .int .i64 n := h2
    show (do let d ← resolve ρ ⟨.builtin .max, #[x, y], ts⟩ ty; invoke d.target d.args).run P w = _
    simp only [resolve, invoke, pure_bind, builtin]
    rw [show (#[x, y] : Array Operand).map ρ = #[ρ x, ρ y] by simp, h1, h2]
    rfl, fun _ _ _ => rfl⟩
end
end Wx

namespace Wx
open Go Go.RowKit

section
variable {P : Program} {ops : Array Oper} {ms : List Nat} {c : Cfg} {V : List Vr} {A : List Al} {G : List Ent} {i d : Nat} {x y : Operand} {ty : TypeId} {pos : String} {aft : Array Edge}
theorem op_callB4 {z u : Operand} {f : FuncId} {ts : Array TypeId} {p p1 p2 p3 p4 : Pred} (hf : CanEnter P f) (h1 : Has ms G i x p1) (h2 : Has ms G i y p2) (h3 : Has ms G i z p3) (h4 : Has ms G i u p4) (hp : Post G i p)
    (hc : ∀ M w v1 v2 v3 v4, Mid M w → Box M (fun w => p1 w v1) w → Box M (fun w => p2 w v2) w → Box M (fun w => p3 w v3) w → Box M (fun w => p4 w v4) w → Calls P f #[v1, v2, v3, v4] w (RetB M p w)) : OpOk P ops ms c V A G i ⟨some d, .call ⟨.value (.func f), #[x, y, z, u], ts⟩, ty, pos, aft, none⟩ :=
  op_call hf hp fun _ _ a w hI hd => (by
    rw [show (#[x, y, z, u] : Array Operand).map a.eval = #[a.eval x, a.eval y, a.eval z, a.eval u] by simp]
    exact hc _ w _ _ _ _ (mid_own hI) (h1.spec hI hd) (h2.spec hI hd) (h3.spec hI hd) (h4.spec hI hd))
end
end Wx

namespace Wx
open Go Go.RowKit

section
variable {P : Program} {ops : Array Oper} {ms : List Nat} {c : Cfg} {V : List Vr} {A : List Al} {G : List Ent} {i : Nat}
variable {d : Nat} {x y : Operand} {ty : TypeId} {pos : String} {aft : Array Edge}
theorem op_real {ts : Array TypeId} {k : FloatKind} {m n : Nat} (h : Has ms G i x (pEq (.complex k m n))) (hp : Post G i (pEq (.float k m))) : OpOk P ops ms c V A G i ⟨some d, .call ⟨.builtin .real, #[x], ts⟩, ty, pos, aft, none⟩ :=
  op_val1 rfl rfl rfl rfl h hp fun ρ w h => ⟨.float k m, by
    have h : ρ x = .complex k m n := h
    show (do let d ← resolve ρ ⟨.builtin .real, #[x], ts⟩ ty; invoke d.target d.args).run P w = _
    simp only [resolve, invoke, pure_bind, builtin]
    rw [show (#[x] : Array Operand).map ρ = #[ρ x] by simp, h]
    rfl, fun _ _ => rfl⟩
theorem op_imag {ts : Array TypeId} {k : FloatKind} {m n : Nat} (h : Has ms G i x (pEq (.complex k m n))) (hp : Post G i (pEq (.float k n))) : OpOk P ops ms c V A G i ⟨some d, .call ⟨.builtin .imag, #[x], ts⟩, ty, pos, aft, none⟩ :=
  op_val1 rfl rfl rfl rfl h hp fun ρ w h => ⟨.float k n, by
    have h : ρ x = .complex k m n := h
    show (do let d ← resolve ρ ⟨.builtin .imag, #[x], ts⟩ ty; invoke d.target d.args).run P w = _
    simp only [resolve, invoke, pure_bind, builtin]
    rw [show (#[x] : Array Operand).map ρ = #[ρ x] by simp, h]
    rfl, fun _ _ => rfl⟩
theorem op_complex64 {ts : Array TypeId} {m n : Nat} (h1 : Has ms G i x (pF m)) (h2 : Has ms G i y (pF n)) (hp : Post G i (pEq (.complex .f64 m n))) : OpOk P ops ms c V A G i ⟨some d, .call ⟨.builtin .complex, #[x, y], ts⟩, ty, pos, aft, none⟩ :=
  op_val2 rfl rfl rfl rfl h1 h2 hp fun ρ w h1 h2 => ⟨.complex .f64 m n, by
    have h1 : ρ x = .float .f64 m := h1
    have h2 : ρ y = .float .f64 n := h2
    show (do let d ← resolve ρ ⟨.builtin .complex, #[x, y], ts⟩ ty; invoke d.target d.args).run P w = _
    simp only [resolve, invoke, pure_bind, builtin]
    rw [show (#[x, y] : Array Operand).map ρ = #[ρ x, ρ y] by simp, h1, h2]
    rfl, fun _ _ _ => rfl⟩
theorem op_complex32 {ts : Array TypeId} {m n : Nat} (h1 : Has ms G i x (pF32 m)) (h2 : Has ms G i y (pF32 n)) (hp : Post G i (pEq (.complex .f32 m n))) : OpOk P ops ms c V A G i ⟨some d, .call ⟨.builtin .complex, #[x, y], ts⟩, ty, pos, aft, none⟩ :=
  op_val2 rfl rfl rfl rfl h1 h2 hp fun ρ w h1 h2 => ⟨.complex .f32 m n, by
    have h1 : ρ x = .float .f32 m := h1
    have h2 : ρ y = .float .f32 n := h2
    show (do let d ← resolve ρ ⟨.builtin .complex, #[x, y], ts⟩ ty; invoke d.target d.args).run P w = _
    simp only [resolve, invoke, pure_bind, builtin]
    rw [show (#[x, y] : Array Operand).map ρ = #[ρ x, ρ y] by simp, h1, h2]
    rfl, fun _ _ _ => rfl⟩
end
end Wx

namespace Wx
open Go Go.RowKit

def pArr (vs : List Value) : Pred := fun w v => ∃ g, v = .pointer (some ⟨g, 0, none⟩) ∧ ∀ j u, vs[j]? = some u → w.cell? ⟨g, j, none⟩ = some u
theorem own_old {c : Cfg} {V : List Vr} {A : List Al} {G : List Ent} {L : Nat → Bool} {β : Nat → Nat → Prop} {a : Act} {w : World} (hI : InvB c V A G L β a w) {k o : Nat} (h : own c V L β k o) : k < w.heap.size := (mid_own hI k o h).1
section
variable {P : Program} {ops : Array Oper} {ms : List Nat} {c : Cfg} {V : List Vr} {A : List Al} {G : List Ent} {i d : Nat} {x y : Operand} {ty : TypeId} {pos : String} {aft : Array Edge}
theorem op_boxArr {T : TypeId} {vs : List Value} (h : Has ms G i x (pEq (.agg vs.toArray))) (hb : (V.all fun x => x.born != some i && x.dead != some i) = true) (hA : (A.all fun q => q.tag != some i) = true) (hp : Post G i (pArr vs)) : OpOk P ops ms c V A G i ⟨some d, .box T x, ty, pos, aft, none⟩ :=
  op_valN rfl (fun _ x hx => by
      rw [List.all_eq_true] at hb
      have := hb x hx
      rw [Bool.and_eq_true, bne_iff_ne, bne_iff_ne] at this
      exact this) rfl (.inr hA) hp fun L β a w hI hd => by
    have k := (h.spec hI hd).out
    have k : a.eval x = .agg vs.toArray := k
    refine ⟨.pointer (some ⟨w.heap.size, 0, none⟩), w.alloc (.cells vs.toArray T), ?_, (Below.refl _ _).alloc (Nat.le_refl _) _, fun w' he => ⟨w.heap.size, rfl, fun j u hj => ?_⟩⟩
    · show (do pure (Next.value (← Instr.box T (a.eval x)))).run P w = _
      rw [k]
      simp only [Instr.box, newVar, newRow, Value.cells]
      rfl
    · refine he.cell w.heap.size j u (fun ho => Nat.lt_irrefl _ (own_old hI ho)) ?_
      have e : (w.alloc (.cells vs.toArray T)).heap[w.heap.size]? = some (.cells vs.toArray T) := by
        show (w.heap.push _)[w.heap.size]? = _
        exact Array.getElem?_push_size
      simp only [World.cell?, e]
      simpa using hj
theorem op_indexArr {S : TypeId} {vs : List Value} {u : Value} (k : Nat) (hk : vs[k]? = some u) (h : Has ms G i x (pArr vs)) (hf : ∀ b w, (Instr.indexAt S (.pointer (some ⟨b, 0, none⟩)) (.int .i64 (k : Int))).run P w = .ok (.pointer (some ⟨b, k, none⟩)) w) (hy : Has ms G i y (pI (k : Int))) (hA : (A.all fun q => q.tag != some i) = true) (hp : Post G i (pPtr 1 false (pEq u))) : OpOk P ops ms c V A G i ⟨some d, .indexAddr S x y, ty, pos, aft, none⟩ :=
  op_val rfl rfl rfl (.inr hA) hp fun L β a w hI hd => by
    have hr := h.spec hI hd
    have hi : a.eval y = .int .i64 (k : Int) := (hy.spec hI hd).out
    obtain ⟨g, e, _⟩ := hr.out
    refine ⟨.pointer (some ⟨g, k, none⟩), w, ?_, Below.refl _ _, fun w' he => ?_⟩
    · show (do pure (Next.value (← Instr.indexAt S (a.eval x) (a.eval y)))).run P w = _
      rw [e, hi, Sem.run_bind, hf g w]
      rfl
    · obtain ⟨g2, e2, hc⟩ := hr w' he
      rw [e] at e2
      injection e2 with e2
      injection e2 with e2
      injection e2 with e2
      subst e2
      refine ⟨g, k, [u], rfl, rfl, fun j v hj => ?_, rfl⟩
      cases j with
      | zero => simp at hj; subst hj; exact hc k u hk
      | succ j => simp at hj
end
end Wx

namespace Wx
open Go Go.RowKit Go.Proofs

theorem ty_u32s : Ty Tryz.prog 31 false 1 := ⟨fun _ => by kernel_rfl, fun _ => by kernel_rfl, by decide⟩
theorem ty_uint32 : Ty Tryz.prog 49 false 1 := ⟨fun _ => by kernel_rfl, fun _ => by kernel_rfl, by decide⟩
end Wx
