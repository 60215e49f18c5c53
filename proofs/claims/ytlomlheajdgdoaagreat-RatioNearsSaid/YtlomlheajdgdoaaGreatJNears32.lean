import Derived.Handy
import Derived.Test.YtlomlheajdgdoaaGreatJNears31
import GoSem.Core.Float
import Derived.Test.YtlomlheajdgdoaaGreatJNears0
import Derived.Test.YtlomlheajdgdoaaGreatJNears1
import Derived.Test.YtlomlheajdgdoaaGreatJNears12
import Derived.Test.YtlomlheajdgdoaaGreatCSem
import Derived.Test.YtlomlheajdgdoaaGreatCSemOps
import Derived.Test.YtlomlheajdgdoaaGreatCSemMem
import Derived.Test.YtlomlheajdgdoaaGreatCSemCode
import Derived.Test.YtlomlheajdgdoaaGreatJNears30
import Derived.IntWalk
import Derived.KernelRfl
import Derived.Test.YtlomlheajdgdoaaGreatProg
import Derived.Test.YtlomlheajdgdoaaGreatJNears10
import Derived.Test.YtlomlheajdgdoaaGreatJNears3
import Derived.Test.YtlomlheajdgdoaaGreatJNears8
import Derived.Test.YtlomlheajdgdoaaGreatCRat1
import Derived.Test.YtlomlheajdgdoaaGreatCRat3
import Derived.Test.YtlomlheajdgdoaaGreatJNears13
namespace Wx
open Ieee

theorem double_least : double.leastPlace = -1074 := by decide
theorem min_aux {t r B : Nat} (h1 : t ≤ 2045) (h2 : r < 2 * B) : min (t * B + r) (2047 * B) = t * B + r := Nat.min_eq_left (by have := Nat.mul_le_mul_right B h1; omega)
/-- The word of a number that is not too small: its exponent's field and its fraction's. -/
theorem nearest_normal {m : Nat} {e : Int} (h : InDouble m e) (hn : -1022 ≤ e + m.log2) (neg : Bool) : double.nearest neg m e = double.word neg ((e + m.log2 + 1022).toNat * 2 ^ 52 + m * 2 ^ (52 - m.log2)) := by
  obtain ⟨h0, h1, h2, h3⟩ := h
  unfold Format.nearest
  rw [if_neg h0]
  have hl : max (e + (m.log2 : Int) - (double.fractionBits : Int)) double.leastPlace = e + m.log2 - 52 := by rw [double_least]; show max (e + (m.log2 : Int) - 52) (-1074) = _; omega
  simp only [hl]
  have a1 : (e - (e + (m.log2 : Int) - 52)).toNat = 52 - m.log2 := by omega
  have a2 : (e + (m.log2 : Int) - 52 - e).toNat = 0 := by omega
  have a3 : (e + (m.log2 : Int) - 52 - double.leastPlace).toNat = (e + m.log2 + 1022).toNat := by rw [double_least]; omega
  have hb : double.binade = 2 ^ 52 := rfl
  have hinf : double.infRung = 2047 * 2 ^ 52 := by decide
  rw [a1, a2, a3, cut_none, Nat.shiftLeft_eq, hb, hinf]
  congr 1
  have hup : m * 2 ^ (52 - m.log2) < 2 ^ 53 := by
    have h4 : m < 2 ^ (m.log2 + 1) := (Nat.log2_lt h0).1 (Nat.lt_succ_self _)
    calc m * 2 ^ (52 - m.log2) < 2 ^ (m.log2 + 1) * 2 ^ (52 - m.log2) := Nat.mul_lt_mul_of_pos_right h4 (Nat.two_pow_pos _)
      _ = 2 ^ 53 := by rw [← Nat.pow_add]; congr 1; omega
  have h5 : (e + m.log2 + 1022).toNat ≤ 2045 := by omega
  have hup2 : m * 2 ^ (52 - m.log2) < 2 * 2 ^ 52 := by rw [Nat.pow_succ] at hup; omega
  exact min_aux h5 hup2
/-- The fraction of a number of float64, from the first bit on. -/
theorem frac_bounds {m : Nat} (h0 : m ≠ 0) (h1 : m.log2 ≤ 52) : 2 ^ 52 ≤ m * 2 ^ (52 - m.log2) ∧ m * 2 ^ (52 - m.log2) < 2 ^ 53 := by
  constructor
  · have h4 : 2 ^ m.log2 ≤ m := (Nat.le_log2 h0).1 (Nat.le_refl _)
    calc 2 ^ 52 = 2 ^ m.log2 * 2 ^ (52 - m.log2) := by rw [← Nat.pow_add]; congr 1; omega
      _ ≤ m * 2 ^ (52 - m.log2) := Nat.mul_le_mul_right _ h4
  · have h4 : m < 2 ^ (m.log2 + 1) := (Nat.log2_lt h0).1 (Nat.lt_succ_self _)
    calc m * 2 ^ (52 - m.log2) < 2 ^ (m.log2 + 1) * 2 ^ (52 - m.log2) := Nat.mul_lt_mul_of_pos_right h4 (Nat.two_pow_pos _)
      _ = 2 ^ 53 := by rw [← Nat.pow_add]; congr 1; omega
/-- Times 2^-53. -/
theorem read_tiny : double.read 4368491638549381120 = .number false (2 ^ 52) (-105) := by decide +kernel
theorem double_tiny {m : Nat} {e : Int} (h : InDouble m e) (neg : Bool) : double.mul 4368491638549381120 (double.nearest neg m e) = some (double.nearest neg m (e - 53)) := by
  obtain ⟨k, h1, _⟩ := h.read neg
  unfold Format.mul
  rw [h1, read_tiny]
  simp only [Datum.product, Option.map_some, Format.write, Bool.false_xor]
  have := nearest_scale double neg m (e - 53) (52 + k)
  rw [Nat.pow_add, ← Nat.mul_assoc, Nat.mul_comm m, Nat.mul_assoc] at this
  rw [← this]
  congr 2
  omega
/-- ldexp's bits: the exponent's field is taken out and put in anew. -/
theorem ldexp_bits {m : Nat} {e0 e : Int} (h : InDouble m e0) (hn0 : -1022 ≤ e0 + m.log2) (h' : InDouble m e) (hn : -1022 ≤ e + m.log2) :
    double.nearest false m e0 / 2 ^ 52 = (e0 + m.log2 + 1023).toNat ∧ double.nearest false m e0 % 2 ^ 52 + (e + m.log2 + 1023).toNat * 2 ^ 52 = double.nearest false m e := by
  have hb := frac_bounds h.pos h.bits
  rw [nearest_normal h hn0, nearest_normal h' hn]
  simp only [Format.word, Bool.false_eq_true, if_false]
  generalize m * 2 ^ (52 - m.log2) = r at *
  obtain ⟨t, ht⟩ : ∃ t : Nat, (e0 + (m.log2 : Int) + 1022).toNat = t := ⟨_, rfl⟩
  have a1 : (e0 + (m.log2 : Int) + 1023).toNat = t + 1 := by omega
  rw [ht, a1]
  obtain ⟨q, hq⟩ : ∃ q, r = 2 ^ 52 + q := ⟨r - 2 ^ 52, by omega⟩
  have hq2 : q < 2 ^ 52 := by omega
  subst hq
  have e1 : t * 2 ^ 52 + (2 ^ 52 + q) = q + (t + 1) * 2 ^ 52 := by omega
  rw [e1]
  constructor
  · rw [Nat.add_mul_div_right _ _ (Nat.two_pow_pos 52), Nat.div_eq_of_lt hq2, Nat.zero_add]
  · rw [Nat.add_mul_mod_self_right, Nat.mod_eq_of_lt hq2]
    have : (e + (m.log2 : Int) + 1023).toNat = (e + (m.log2 : Int) + 1022).toNat + 1 := by omega
    rw [this, Nat.add_mul]
    omega
/-- Signs. -/
theorem nearest_neg (f : Format) (m : Nat) (e : Int) : f.nearest true m e = f.signWeight + f.nearest false m e := by
  unfold Format.nearest Format.word
  split <;> rfl
end Wx

namespace Wx
open Go Go.RowKit

/-- A float64, a float32, by its word. -/
def pF (b : Nat) : Pred := pEq (.float .f64 b)
def pF32 (b : Nat) : Pred := pEq (.float .f32 b)
theorem pF_eq {b c : Nat} (h : b = c) : ∀ w v, pF b w v → pF c w v := fun _ _ k => h ▸ k
section
variable {P : Program} {ops : Array Oper} {ms : List Nat} {c : Cfg} {V : List Vr} {A : List Al} {G : List Ent} {i : Nat}
variable {d : Nat} {x y : Operand} {ty : TypeId} {pos : String} {aft : Array Edge}
/-- A function that the model runs itself. -/
theorem op_native1 {f : FuncId} {ts : Array TypeId} {v u : Value} (h : Has ms G i x (pEq v)) (hf : ∀ w, (callFunc f #[v]).run P w = .ok (.value u) w) (hp : Post G i (pEq u)) : OpOk P ops ms c V A G i ⟨some d, .call ⟨.value (.func f), #[x], ts⟩, ty, pos, aft, none⟩ :=
  op_val rfl rfl rfl (.inl rfl) hp fun L β a w hI hd => ⟨u, w, by
    have h : a.eval x = v := (h.spec hI hd).out
    have := hf w
    simp only [execOp, resolve, Act.eval, Deferred.ofValue, pure_bind, invoke] at h ⊢
    rw [show (#[x] : Array Operand).map a.eval = #[a.eval x] by simp]
    simp only [Act.eval, h]
    rw [show (#[] : Array Value) ++ #[v] ++ #[] = #[v] by simp]
    exact this, Below.refl _ _, fun _ _ => rfl⟩
theorem op_callB0 {f : FuncId} {ts : Array TypeId} {p : Pred} (hf : CanEnter P f) (hp : Post G i p) (hc : ∀ M w, Mid M w → Calls P f #[] w (RetB M p w)) : OpOk P ops ms c V A G i ⟨some d, .call ⟨.value (.func f), #[], ts⟩, ty, pos, aft, none⟩ :=
  op_call hf hp fun _ _ a w hI _ => (by
    rw [show (#[] : Array Operand).map a.eval = #[] by simp]
    exact hc _ w (mid_own hI))
theorem op_fbin {op : BinOp} {xt yt : TypeId} {k k' : FloatKind} {m n : Nat} {v : Value} (h1 : Has ms G i x (pEq (.float k m))) (h2 : Has ms G i y (pEq (.float k' n))) (hr : ∀ w, (Go.binOp op xt (.float k m) (.float k' n)).run P w = .ok v w) (hp : Post G i (pEq v)) :
    OpOk P ops ms c V A G i ⟨some d, .binOp op xt x y yt, ty, pos, aft, none⟩ :=
  op_val2 rfl rfl rfl rfl h1 h2 hp fun ρ w h1 h2 => ⟨v, by
    have h1 : ρ x = .float k m := h1
    have h2 : ρ y = .float k' n := h2
    show (do pure (Next.value (← (do eqGuard op xt x y (ρ x) (ρ y); Go.binOp op xt (ρ x) (ρ y))))).run P w = _
    rw [h1, h2]
    have hgd : eqGuard op xt x y (.float k m) (.float k' n) = pure () := by unfold eqGuard; split <;> rfl
    rw [hgd]
    have := hr w
    simp only [pure_bind, Sem.run_bind, this, Result.andThen_ok, Sem.run_pure], fun _ _ _ => rfl⟩
theorem op_fmul {xt yt : TypeId} {m n r : Nat} (h1 : Has ms G i x (pF m)) (h2 : Has ms G i y (pF n)) (hr : Ieee.double.mul m n = some r) (hp : Post G i (pF r)) : OpOk P ops ms c V A G i ⟨some d, .binOp .mul xt x y yt, ty, pos, aft, none⟩ := by
  refine op_fbin h1 h2 (fun w => ?_) hp
  show (Op.floatArith .mul .f64 m n).run P w = _
  have e : FloatKind.f64.format = Ieee.double := rfl
  simp only [Op.floatArith, e, hr, pure_bind, Sem.run_pure]
theorem op_fquo {xt yt : TypeId} {m n r : Nat} (h1 : Has ms G i x (pF m)) (h2 : Has ms G i y (pF n)) (hr : Ieee.double.div m n = some r) (hp : Post G i (pF r)) : OpOk P ops ms c V A G i ⟨some d, .binOp .quo xt x y yt, ty, pos, aft, none⟩ := by
  refine op_fbin h1 h2 (fun w => ?_) hp
  show (Op.floatArith .quo .f64 m n).run P w = _
  have e : FloatKind.f64.format = Ieee.double := rfl
  simp only [Op.floatArith, e, hr, pure_bind, Sem.run_pure]
theorem op_fneg {xt : TypeId} {m : Nat} (h : Has ms G i x (pF m)) (hp : Post G i (pF (Op.negFloat .f64 m))) : OpOk P ops ms c V A G i ⟨some d, .unOp .neg xt x, ty, pos, aft, none⟩ :=
  op_val1 rfl rfl rfl rfl h hp fun ρ w h => ⟨.float .f64 (Op.negFloat .f64 m), by
    have h : ρ x = .float .f64 m := h
    show (do pure (Next.value (← Op.unary .neg (ρ x)))).run P w = _
    rw [h]; rfl, fun _ _ => rfl⟩
theorem op_neg {xt : TypeId} {n : Int} (h : Has ms G i x (pI n)) (hn : -9223372036854775807 ≤ n ∧ n ≤ 9223372036854775807) (hp : Post G i (pI (-n))) : OpOk P ops ms c V A G i ⟨some d, .unOp .neg xt x, ty, pos, aft, none⟩ :=
  op_val1 rfl rfl rfl rfl h hp fun ρ w h => ⟨.int .i64 (-n), by
    have h : ρ x = .int .i64 n := h
    show (do pure (Next.value (← Op.unary .neg (ρ x)))).run P w = _
    rw [h]
    show Result.ok (Next.value (.int .i64 (IntKind.i64.wrap (0 - n)))) w = _
    rw [IntWalk.i64_in (0 - n) (by omega)]
    congr 3
    omega, fun _ _ => rfl⟩
theorem f64_nat (n : Nat) : FloatKind.f64.nearest (n : Int) = Ieee.double.nearest false n 0 := by
  have e : FloatKind.f64.format = Ieee.double := rfl
  have h : decide ((n : Int) < 0) = false := decide_eq_false (by omega)
  simp only [FloatKind.nearest, FloatKind.encode, e, Ieee.Format.write, h, Int.natAbs_natCast]
theorem op_andI {xt yt : TypeId} {z m : Int} {N k : Nat} (h1 : Has ms G i x (pI z)) (h2 : Has ms G i y (pI m)) (hm : m = ((2 ^ k - 1 : Nat) : Int)) (hz : z = (N : Int)) (hk : k ≤ 62) (hN : N < 2 ^ k) (hp : Post G i (pI (N : Int))) : OpOk P ops ms c V A G i ⟨some d, .binOp .and xt x y yt, ty, pos, aft, none⟩ := by
  refine op_bin h1 h2 (fun w => ?_) hp
  have h64 : (2 : Nat) ^ k ≤ 2 ^ 62 := Nat.pow_le_pow_right (by omega) hk
  show Result.ok (Value.int .i64 (IntKind.i64.wrap ((BitVec.ofInt 64 z &&& BitVec.ofInt 64 m).toNat : Int))) w = _
  have hN2 : N < 2 ^ 62 := Nat.lt_of_lt_of_le hN h64
  rw [hz, hm, and_maskN (Nat.lt_of_lt_of_le hN2 (by decide)) (by omega), Nat.mod_eq_of_lt hN, IntWalk.i64_in (N : Int) (by omega)]
/-- The greater one of two ints, as the model has it. -/
def maxZ (m n : Int) : Int := if n > m then n else m
theorem maxZ_spec (m n : Int) : m ≤ maxZ m n ∧ n ≤ maxZ m n ∧ (maxZ m n = m ∨ maxZ m n = n) := by unfold maxZ; split <;> omega
theorem op_max2 {ts : Array TypeId} {m n : Int} (h1 : Has ms G i x (pI m)) (h2 : Has ms G i y (pI n)) (hp : Post G i (pI (maxZ m n))) : OpOk P ops ms c V A G i ⟨some d, .call ⟨.builtin .max, #[x, y], ts⟩, ty, pos, aft, none⟩ :=
  op_val2 rfl rfl rfl rfl h1 h2 hp fun ρ w h1 h2 => ⟨.int .i64 (maxZ m n), by
    have h1 : ρ x = .int .i64 m := h1
    have h2 : ρ y = .int .i64 n := h2
    show (do let d ← resolve ρ ⟨.builtin .max, #[x, y], ts⟩ ty; invoke d.target d.args).run P w = _
    simp only [resolve, invoke, pure_bind, builtin]
    rw [show (#[x, y] : Array Operand).map ρ = #[ρ x, ρ y] by simp, h1, h2]
    rfl, fun _ _ _ => rfl⟩
end
end Wx

namespace Wx
open Go Go.RowKit

theorem i16_in (n : Int) (h : -32768 ≤ n ∧ n ≤ 32767) : IntKind.i16.wrap n = n := by
  simp only [IntKind.wrap, IntKind.bits, IntKind.signed]
  simp
  omega
theorem p16_eq {b c : Int} (h : b = c) : ∀ w v, pEq (.int .i16 b) w v → pEq (.int .i16 c) w v := fun _ _ k => h ▸ k
theorem add16 {P : Program} {xt : TypeId} {a b : Int} (h : -32768 ≤ a + b ∧ a + b ≤ 32767) (w : World) : (Go.binOp .add xt (.int .i16 a) (.int .i16 b)).run P w = .ok (.int .i16 (a + b)) w := by
  show Result.ok (Value.int .i16 (IntKind.i16.wrap (a + b))) w = _
  rw [i16_in _ h]
section
variable {P : Program} {ops : Array Oper} {ms : List Nat} {c : Cfg} {V : List Vr} {A : List Al} {G : List Ent} {i d : Nat} {x y : Operand} {ty : TypeId} {pos : String} {aft : Array Edge}
theorem op_neg16 {xt : TypeId} {n : Int} (h : Has ms G i x (pEq (.int .i16 n))) (hn : -32767 ≤ n ∧ n ≤ 32767) (hp : Post G i (pEq (.int .i16 (-n)))) : OpOk P ops ms c V A G i ⟨some d, .unOp .neg xt x, ty, pos, aft, none⟩ :=
  op_val1 rfl rfl rfl rfl h hp fun ρ w h => ⟨.int .i16 (-n), by
    have h : ρ x = .int .i16 n := h
    show (do pure (Next.value (← Op.unary .neg (ρ x)))).run P w = _
    rw [h]
    show Result.ok (Next.value (.int .i16 (IntKind.i16.wrap (0 - n)))) w = _
    rw [i16_in (0 - n) (by omega)]
    congr 3
    omega, fun _ _ => rfl⟩
theorem op_callB4 {z u : Operand} {f : FuncId} {ts : Array TypeId} {p p1 p2 p3 p4 : Pred} (hf : CanEnter P f) (h1 : Has ms G i x p1) (h2 : Has ms G i y p2) (h3 : Has ms G i z p3) (h4 : Has ms G i u p4) (hp : Post G i p)
    (hc : ∀ M w v1 v2 v3 v4, Mid M w → Box M (fun w => p1 w v1) w → Box M (fun w => p2 w v2) w → Box M (fun w => p3 w v3) w → Box M (fun w => p4 w v4) w → Calls P f #[v1, v2, v3, v4] w (RetB M p w)) : OpOk P ops ms c V A G i ⟨some d, .call ⟨.value (.func f), #[x, y, z, u], ts⟩, ty, pos, aft, none⟩ :=
  op_call hf hp fun _ _ a w hI hd => (by
    rw [show (#[x, y, z, u] : Array Operand).map a.eval = #[a.eval x, a.eval y, a.eval z, a.eval u] by simp]
    exact hc _ w _ _ _ _ (mid_own hI) (h1.spec hI hd) (h2.spec hI hd) (h3.spec hI hd) (h4.spec hI hd))
end
end Wx

namespace Wx
open Go Go.RowKit Go.Proofs

theorem ty_Ratio : Ty Tryz.prog 29 true 3 := ⟨fun _ => by kernel_rfl, fun _ => by kernel_rfl, by decide⟩
theorem zv_Ratio : ∀ w, (zeroValue 29).run Tryz.prog w = .ok (.agg #[.bool false, .slice none 0 0, .slice none 0 0]) w := fun _ => by kernel_rfl
theorem fa_Ratio_0 : ∀ b o w, (Instr.fieldAt 29 (.pointer (some ⟨b, o, none⟩)) 0).run Tryz.prog w = .ok (.pointer (some ⟨b, o + 0, none⟩)) w := fun _ _ _ => by kernel_rfl
theorem fa_Ratio_1 : ∀ b o w, (Instr.fieldAt 29 (.pointer (some ⟨b, o, none⟩)) 1).run Tryz.prog w = .ok (.pointer (some ⟨b, o + 1, none⟩)) w := fun _ _ _ => by kernel_rfl
theorem fa_Ratio_2 : ∀ b o w, (Instr.fieldAt 29 (.pointer (some ⟨b, o, none⟩)) 2).run Tryz.prog w = .ok (.pointer (some ⟨b, o + 2, none⟩)) w := fun _ _ _ => by kernel_rfl
theorem ty_Frac : Ty Tryz.prog 23 true 2 := ⟨fun _ => by kernel_rfl, fun _ => by kernel_rfl, by decide⟩
theorem ty_int : Ty Tryz.prog 3 false 1 := ⟨fun _ => by kernel_rfl, fun _ => by kernel_rfl, by decide⟩
theorem ty_bool : Ty Tryz.prog 4 false 1 := ⟨fun _ => by kernel_rfl, fun _ => by kernel_rfl, by decide⟩
theorem ty_R : Ty Tryz.prog 33 true 3 := ⟨fun _ => by kernel_rfl, fun _ => by kernel_rfl, by decide⟩
theorem zv_R : ∀ w, (zeroValue 33).run Tryz.prog w = .ok (.agg #[.bool false, .slice none 0 0, .slice none 0 0]) w := fun _ => by kernel_rfl
theorem fa_R_0 : ∀ b o w, (Instr.fieldAt 33 (.pointer (some ⟨b, o, none⟩)) 0).run Tryz.prog w = .ok (.pointer (some ⟨b, o + 0, none⟩)) w := fun _ _ _ => by kernel_rfl
theorem fa_R_1 : ∀ b o w, (Instr.fieldAt 33 (.pointer (some ⟨b, o, none⟩)) 1).run Tryz.prog w = .ok (.pointer (some ⟨b, o + 1, none⟩)) w := fun _ _ _ => by kernel_rfl
theorem ty_format : Ty Tryz.prog 102 true 3 := ⟨fun _ => by kernel_rfl, fun _ => by kernel_rfl, by decide⟩
theorem zv_format : ∀ w, (zeroValue 102).run Tryz.prog w = .ok (.agg #[.int .i64 0, .int .i64 0, .int .i64 0]) w := fun _ => by kernel_rfl
theorem bt_format : BuildTy Tryz.prog 102 #[(0, 1), (1, 1), (2, 1)] [.int .i64 0, .int .i64 0, .int .i64 0] := fun _ => by kernel_rfl
theorem fa_format_0 : ∀ b o w, (Instr.fieldAt 102 (.pointer (some ⟨b, o, none⟩)) 0).run Tryz.prog w = .ok (.pointer (some ⟨b, o + 0, none⟩)) w := fun _ _ _ => by kernel_rfl
theorem fa_format_1 : ∀ b o w, (Instr.fieldAt 102 (.pointer (some ⟨b, o, none⟩)) 1).run Tryz.prog w = .ok (.pointer (some ⟨b, o + 1, none⟩)) w := fun _ _ _ => by kernel_rfl
theorem fa_format_2 : ∀ b o w, (Instr.fieldAt 102 (.pointer (some ⟨b, o, none⟩)) 2).run Tryz.prog w = .ok (.pointer (some ⟨b, o + 2, none⟩)) w := fun _ _ _ => by kernel_rfl
theorem ty_limbs : Ty Tryz.prog 27 false 1 := ⟨fun _ => by kernel_rfl, fun _ => by kernel_rfl, by decide⟩
theorem ty_uint64 : Ty Tryz.prog 44 false 1 := ⟨fun _ => by kernel_rfl, fun _ => by kernel_rfl, by decide⟩
theorem sl_limbs : SlTy Tryz.prog 27 44 1 := ⟨by kernel_rfl, fun _ => by kernel_rfl⟩
end Wx

namespace Wx
open Go Go.RowKit Go.Proofs

theorem ty_u32s : Ty Tryz.prog 31 false 1 := ⟨fun _ => by kernel_rfl, fun _ => by kernel_rfl, by decide⟩
end Wx

namespace Wx
open Go Go.RowKit Go.Proofs
end Wx

namespace Wx
open Go Go.RowKit Go.Proofs
theorem BdR.sub_ {j k : Nat} {x y : Rat} (h : BdR j x) (g : BdR k y) : BdR (j + k + j + k + 1) (x - y) := by rw [Rat.sub_eq_add_neg]; exact h.add g.neg
theorem BdR.quo {j k : Nat} {x y : Rat} (h : BdR j x) (g : BdR k y) : BdR (j + k) (x / y) := by
  by_cases hy : y = 0
  · rw [hy, Rat.div_def, Rat.inv_zero, Rat.mul_zero]
    have h2 : x.den < 2 ^ j := h.2
    have h3 := x.den_pos
    have hj : j ≠ 0 := by rintro rfl; simp at h2; omega
    refine ⟨?_, ?_⟩
    · show (0 : Rat).num.natAbs < 2 ^ (j + k)
      exact Nat.two_pow_pos _
    · show (0 : Rat).den < 2 ^ (j + k)
      show 1 < 2 ^ (j + k)
      exact Nat.one_lt_two_pow (by omega)
  · exact h.div g (fun h => hy ((num_zero_iff y).1 (by omega)))
theorem ret_is {w : World} {v : Value} {e : Ending} {w' : World} (h : RetIs w v e w') : Ret (pEq v) w e w' := ⟨v, h.1, rfl, h.2⟩
theorem ret_re {w : World} {q : Rat} {n : Int} {e : Ending} {w' : World} (h : RetRE w q n e w') : Ret (pTup2 (pRat q) (pI n)) w e w' := by
  obtain ⟨v, rfl, h1, h2⟩ := h
  exact ⟨_, rfl, ⟨v, _, rfl, h1, rfl⟩, h2⟩
theorem c_mul {x y : Rat} {j k : Nat} (hx : BdR j x) (hy : BdR k y) (h : j + k ≤ 100000000) : ∀ w v1 v2, pRat x w v1 → pRat y w v2 → Calls Tryz.prog 13 #[v1, v2] w (Ret (pRat (x * y)) w) :=
  fun w v1 v2 h1 h2 => mul_num w v1 v2 x y h1 h2 hx hy h
theorem c_int (n : Int) (h1 : -9223372036854775808 ≤ n) (h2 : n ≤ 9223372036854775807) : ∀ w v1, pI n w v1 → Calls Tryz.prog 9 #[v1] w (Ret (pRat (n : Rat)) w) := fun w v1 h => by
  have h : v1 = .int .i64 n := h
  rw [h]
  exact int_num w n h1 h2
theorem c_new_ok {n d : Int} (h1 : -9223372036854775808 ≤ n) (h2 : n ≤ 9223372036854775807) (h3 : -9223372036854775808 ≤ d) (h4 : d ≤ 9223372036854775807) (hd : d ≠ 0) : ∀ w v1 v2, pI n w v1 → pI d w v2 → Calls Tryz.prog 11 #[v1, v2] w (Ret (pTup2 (pRat (newR n d)) (pI 0)) w) := fun w v1 v2 e1 e2 => by
  have e1 : v1 = .int .i64 n := e1
  have e2 : v2 = .int .i64 d := e2
  rw [e1, e2]
  exact (new_num w n d h1 h2 h3 h4 hd).mono fun _ _ => ret_re
end Wx
