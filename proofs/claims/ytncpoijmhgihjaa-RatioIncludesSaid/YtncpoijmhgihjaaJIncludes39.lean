import Derived.Handy
import Derived.KernelRfl
import Derived.Test.YtncpoijmhgihjaaProg
import Derived.Test.YtncpoijmhgihjaaSem
import Derived.Test.YtncpoijmhgihjaaSemOps
import Derived.Test.YtncpoijmhgihjaaSemMem
import Derived.Test.YtncpoijmhgihjaaCSemBuild
import Derived.Test.YtncpoijmhgihjaaCSemRow
import Derived.Test.YtncpoijmhgihjaaPlain1
import Derived.Test.YtncpoijmhgihjaaMem
import Derived.Test.YtncpoijmhgihjaaJIncludes3
import Derived.Test.YtncpoijmhgihjaaCRat1
import Derived.Test.YtncpoijmhgihjaaCRat2
import Derived.Test.YtncpoijmhgihjaaJIncludes16
import Derived.Test.YtncpoijmhgihjaaCRat3
import Derived.Test.YtncpoijmhgihjaaJIncludes18
import Derived.Test.YtncpoijmhgihjaaCSame
import Derived.Test.YtncpoijmhgihjaaCInt
import Derived.Test.YtncpoijmhgihjaaInv
import Derived.Test.YtncpoijmhgihjaaSemCode
import Derived.Test.YtncpoijmhgihjaaCSemData
namespace Wx
open Go Go.RowKit Go.Proofs

theorem ty_Ratio : Ty Try.prog 27 true 3 := ⟨fun _ => by kernel_rfl, fun _ => by kernel_rfl, by decide⟩
theorem zv_Ratio : ∀ w, (zeroValue 27).run Try.prog w = .ok (.agg #[.bool false, .slice none 0 0, .slice none 0 0]) w := fun _ => by kernel_rfl
theorem bt_Ratio : BuildTy Try.prog 27 #[(0, 1), (1, 1), (2, 1)] [.bool false, .slice none 0 0, .slice none 0 0] := fun _ => by kernel_rfl
theorem fa_Ratio_0 : ∀ b o w, (Instr.fieldAt 27 (.pointer (some ⟨b, o, none⟩)) 0).run Try.prog w = .ok (.pointer (some ⟨b, o + 0, none⟩)) w := fun _ _ _ => by kernel_rfl
theorem fa_Ratio_1 : ∀ b o w, (Instr.fieldAt 27 (.pointer (some ⟨b, o, none⟩)) 1).run Try.prog w = .ok (.pointer (some ⟨b, o + 1, none⟩)) w := fun _ _ _ => by kernel_rfl
theorem fa_Ratio_2 : ∀ b o w, (Instr.fieldAt 27 (.pointer (some ⟨b, o, none⟩)) 2).run Try.prog w = .ok (.pointer (some ⟨b, o + 2, none⟩)) w := fun _ _ _ => by kernel_rfl
theorem ty_Pair : Ty Try.prog 43 true 6 := ⟨fun _ => by kernel_rfl, fun _ => by kernel_rfl, by decide⟩
theorem zv_Pair : ∀ w, (zeroValue 43).run Try.prog w = .ok (.agg #[.bool false, .slice none 0 0, .slice none 0 0, .bool false, .slice none 0 0, .slice none 0 0]) w := fun _ => by kernel_rfl
theorem bt_Pair : BuildTy Try.prog 43 #[(0, 3), (3, 3)] [.bool false, .slice none 0 0, .slice none 0 0, .bool false, .slice none 0 0, .slice none 0 0] := fun _ => by kernel_rfl
theorem fa_Pair_0 : ∀ b o w, (Instr.fieldAt 43 (.pointer (some ⟨b, o, none⟩)) 0).run Try.prog w = .ok (.pointer (some ⟨b, o + 0, none⟩)) w := fun _ _ _ => by kernel_rfl
theorem fa_Pair_1 : ∀ b o w, (Instr.fieldAt 43 (.pointer (some ⟨b, o, none⟩)) 1).run Try.prog w = .ok (.pointer (some ⟨b, o + 3, none⟩)) w := fun _ _ _ => by kernel_rfl
theorem ty_Range : Ty Try.prog 54 true 6 := ⟨fun _ => by kernel_rfl, fun _ => by kernel_rfl, by decide⟩
theorem zv_Range : ∀ w, (zeroValue 54).run Try.prog w = .ok (.agg #[.bool false, .slice none 0 0, .slice none 0 0, .bool false, .slice none 0 0, .slice none 0 0]) w := fun _ => by kernel_rfl
theorem bt_Range : BuildTy Try.prog 54 #[(0, 3), (3, 3)] [.bool false, .slice none 0 0, .slice none 0 0, .bool false, .slice none 0 0, .slice none 0 0] := fun _ => by kernel_rfl
theorem fa_Range_0 : ∀ b o w, (Instr.fieldAt 54 (.pointer (some ⟨b, o, none⟩)) 0).run Try.prog w = .ok (.pointer (some ⟨b, o + 0, none⟩)) w := fun _ _ _ => by kernel_rfl
theorem fa_Range_1 : ∀ b o w, (Instr.fieldAt 54 (.pointer (some ⟨b, o, none⟩)) 1).run Try.prog w = .ok (.pointer (some ⟨b, o + 3, none⟩)) w := fun _ _ _ => by kernel_rfl
theorem ty_Frac : Ty Try.prog 23 true 2 := ⟨fun _ => by kernel_rfl, fun _ => by kernel_rfl, by decide⟩
theorem zv_Frac : ∀ w, (zeroValue 23).run Try.prog w = .ok (.agg #[.int .i64 0, .int .i64 0]) w := fun _ => by kernel_rfl
theorem bt_Frac : BuildTy Try.prog 23 #[(0, 1), (1, 1)] [.int .i64 0, .int .i64 0] := fun _ => by kernel_rfl
theorem fa_Frac_0 : ∀ b o w, (Instr.fieldAt 23 (.pointer (some ⟨b, o, none⟩)) 0).run Try.prog w = .ok (.pointer (some ⟨b, o + 0, none⟩)) w := fun _ _ _ => by kernel_rfl
theorem fa_Frac_1 : ∀ b o w, (Instr.fieldAt 23 (.pointer (some ⟨b, o, none⟩)) 1).run Try.prog w = .ok (.pointer (some ⟨b, o + 1, none⟩)) w := fun _ _ _ => by kernel_rfl
theorem ty_Frac2 : Ty Try.prog 39 true 4 := ⟨fun _ => by kernel_rfl, fun _ => by kernel_rfl, by decide⟩
theorem zv_Frac2 : ∀ w, (zeroValue 39).run Try.prog w = .ok (.agg #[.int .i64 0, .int .i64 0, .int .i64 0, .int .i64 0]) w := fun _ => by kernel_rfl
theorem ty_int : Ty Try.prog 3 false 1 := ⟨fun _ => by kernel_rfl, fun _ => by kernel_rfl, by decide⟩
theorem zv_int : ∀ w, (zeroValue 3).run Try.prog w = .ok (.int .i64 0) w := fun _ => by kernel_rfl
theorem ty_int64 : Ty Try.prog 2 false 1 := ⟨fun _ => by kernel_rfl, fun _ => by kernel_rfl, by decide⟩
theorem zv_int64 : ∀ w, (zeroValue 2).run Try.prog w = .ok (.int .i64 0) w := fun _ => by kernel_rfl
theorem ty_bool : Ty Try.prog 4 false 1 := ⟨fun _ => by kernel_rfl, fun _ => by kernel_rfl, by decide⟩
theorem zv_bool : ∀ w, (zeroValue 4).run Try.prog w = .ok (.bool false) w := fun _ => by kernel_rfl
theorem ty_Errno : Ty Try.prog 33 false 1 := ⟨fun _ => by kernel_rfl, fun _ => by kernel_rfl, by decide⟩
theorem zv_Errno : ∀ w, (zeroValue 33).run Try.prog w = .ok (.int .i64 0) w := fun _ => by kernel_rfl
theorem sl_Ratios : SlTy Try.prog 102 27 3 := ⟨by kernel_rfl, fun _ => by kernel_rfl⟩
end Wx

namespace Wx
open Go Go.RowKit Go.Proofs

theorem bd_zero : BdR 1 (0 : Rat) := ⟨by show (0 : Rat).num.natAbs < 2 ^ 1; decide, by show (0 : Rat).den < 2 ^ 1; decide⟩
theorem BdR.sub_ {j k : Nat} {x y : Rat} (h : BdR j x) (g : BdR k y) : BdR (j + k + j + k + 1) (x - y) := by rw [Rat.sub_eq_add_neg]; exact h.add g.neg
theorem BdR.quo {j k : Nat} {x y : Rat} (h : BdR j x) (g : BdR k y) : BdR (j + k) (x / y) := by
  by_cases hy : y = 0
  · rw [hy, Rat.div_def, Rat.inv_zero, Rat.mul_zero]
    have h2 : x.den < 2 ^ j := h.2
    have h3 := x.den_pos
    have hj : j ≠ 0 := by rintro rfl; simp at h2; omega
    refine ⟨?_, ?_⟩
    · show (0 : Rat).num.natAbs < 2 ^ (j + k)
      exact Nat.two_pow_pos _
    · show (0 : Rat).den < 2 ^ (j + k)
      show 1 < 2 ^ (j + k)
      exact Nat.one_lt_two_pow (by omega)
  · exact h.div g (fun h => hy ((num_zero_iff y).1 (by omega)))
theorem ret_is {w : World} {v : Value} {e : Ending} {w' : World} (h : RetIs w v e w') : Ret (pEq v) w e w' := ⟨v, h.1, rfl, h.2⟩
theorem ret_re {w : World} {q : Rat} {n : Int} {e : Ending} {w' : World} (h : RetRE w q n e w') : Ret (pTup2 (pRat q) (pI n)) w e w' := by
  obtain ⟨v, rfl, h1, h2⟩ := h
  exact ⟨_, rfl, ⟨v, _, rfl, h1, rfl⟩, h2⟩
theorem c_add {x y : Rat} {j k : Nat} (hx : BdR j x) (hy : BdR k y) (h : j + k + j + k + 1 ≤ 100000000) : ∀ w v1 v2, pRat x w v1 → pRat y w v2 → Calls Try.prog 12 #[v1, v2] w (Ret (pRat (x + y)) w) :=
  fun w v1 v2 h1 h2 => add_num w v1 v2 x y h1 h2 hx hy h
theorem c_sub {x y : Rat} {j k : Nat} (hx : BdR j x) (hy : BdR k y) (h : j + k + j + k + 1 ≤ 100000000) : ∀ w v1 v2, pRat x w v1 → pRat y w v2 → Calls Try.prog 9 #[v1, v2] w (Ret (pRat (x - y)) w) :=
  fun w v1 v2 h1 h2 => sub_num w v1 v2 x y h1 h2 hx hy h
theorem c_mul {x y : Rat} {j k : Nat} (hx : BdR j x) (hy : BdR k y) (h : j + k ≤ 100000000) : ∀ w v1 v2, pRat x w v1 → pRat y w v2 → Calls Try.prog 11 #[v1, v2] w (Ret (pRat (x * y)) w) :=
  fun w v1 v2 h1 h2 => mul_num w v1 v2 x y h1 h2 hx hy h
theorem c_by {x y : Rat} {j k : Nat} (hx : BdR j x) (hy : BdR k y) (h : j + k ≤ 100000000) (h0 : y ≠ 0) : ∀ w v1 v2, pRat x w v1 → pRat y w v2 → Calls Try.prog 59 #[v1, v2] w (Ret (pRat (x / y)) w) :=
  fun w v1 v2 h1 h2 => by_num w v1 v2 x y h1 h2 (fun h => h0 ((num_zero_iff y).1 (by omega))) hx hy h
theorem c_neg (x : Rat) : ∀ w v1, pRat x w v1 → Calls Try.prog 16 #[v1] w (Ret (pRat (-x)) w) := fun w v1 h1 => neg_num w v1 x h1
theorem c_zero (x : Rat) : ∀ w v1, pRat x w v1 → Calls Try.prog 17 #[v1] w (Ret (pB (decide (x = 0))) w) := fun w v1 h1 => (zero_num w v1 x h1).mono fun _ _ => ret_is
theorem c_same (x y : Rat) : ∀ w v1 v2, pRat x w v1 → pRat y w v2 → Calls Try.prog 8 #[v1, v2] w (Ret (pB (decide (x = y))) w) := fun w v1 v2 h1 h2 => (same_num w v1 v2 x y h1 h2).mono fun _ _ => ret_is
theorem c_sign (x : Rat) : ∀ w v1, pRat x w v1 → Calls Try.prog 10 #[v1] w (Ret (pI (sgnI x)) w) := fun w v1 h1 => (sign_num w v1 x h1).mono fun _ _ => ret_is
theorem c_int (n : Int) (h1 : -9223372036854775808 ≤ n) (h2 : n ≤ 9223372036854775807) : ∀ w v1, pI n w v1 → Calls Try.prog 27 #[v1] w (Ret (pRat (n : Rat)) w) := fun w v1 h => by
  have h : v1 = .int .i64 n := h
  rw [h]
  exact int_num w n h1 h2
theorem c_new_ok {n d : Int} (h1 : -9223372036854775808 ≤ n) (h2 : n ≤ 9223372036854775807) (h3 : -9223372036854775808 ≤ d) (h4 : d ≤ 9223372036854775807) (hd : d ≠ 0) : ∀ w v1 v2, pI n w v1 → pI d w v2 → Calls Try.prog 45 #[v1, v2] w (Ret (pTup2 (pRat (newR n d)) (pI 0)) w) := fun w v1 v2 e1 e2 => by
  have e1 : v1 = .int .i64 n := e1
  have e2 : v2 = .int .i64 d := e2
  rw [e1, e2]
  exact (new_num w n d h1 h2 h3 h4 hd).mono fun _ _ => ret_re
theorem c_div_ok {x y : Rat} {j k : Nat} (hx : BdR j x) (hy : BdR k y) (h : j + k ≤ 100000000) (h0 : y ≠ 0) : ∀ w v1 v2, pRat x w v1 → pRat y w v2 → Calls Try.prog 18 #[v1, v2] w (Ret (pTup2 (pRat (x / y)) (pI 0)) w) :=
  fun w v1 v2 h1 h2 => (div_ok w v1 v2 x y h1 h2 hx hy h h0).mono fun _ _ => ret_re
theorem c_div_zero (x : Rat) {y : Rat} (h0 : y = 0) : ∀ w v1 v2, pRat x w v1 → pRat y w v2 → Calls Try.prog 18 #[v1, v2] w (Ret (pTup2 (pRat 0) (pI 3)) w) :=
  fun w v1 v2 h1 h2 => (div_zero w v1 v2 x y h1 h2 h0).mono fun _ _ => ret_re
theorem c_div {x y : Rat} {j k : Nat} (hx : BdR j x) (hy : BdR k y) (h : j + k ≤ 100000000) : ∀ w v1 v2, pRat x w v1 → pRat y w v2 → Calls Try.prog 18 #[v1, v2] w (Ret (pTup2 (pRat (x / y)) (pI (if y = 0 then 3 else 0))) w) := by
  by_cases h0 : y = 0
  · rw [if_pos h0, show x / y = 0 by rw [h0, Rat.div_def, Rat.inv_zero, Rat.mul_zero]]; exact c_div_zero x h0
  · rw [if_neg h0]; exact c_div_ok hx hy h h0
/-- An answer that is known. -/
theorem c_known {f : FuncId} {P : Program} {p1 p2 : Pred} {a b : Bool} (h : ∀ w v1 v2, p1 w v1 → p2 w v2 → Calls P f #[v1, v2] w (Ret (pB a) w)) (e : a = b) : ∀ w v1 v2, p1 w v1 → p2 w v2 → Calls P f #[v1, v2] w (Ret (pB b) w) := e ▸ h
theorem c_known1 {f : FuncId} {P : Program} {p1 : Pred} {a b : Bool} (h : ∀ w v1, p1 w v1 → Calls P f #[v1] w (Ret (pB a) w)) (e : a = b) : ∀ w v1, p1 w v1 → Calls P f #[v1] w (Ret (pB b) w) := e ▸ h
theorem cb_known2 {f : FuncId} {P : Program} {p1 p2 : Pred} {a b : Bool} (h : ∀ (M : Nat → Prop) (w : World) (v1 v2 : Value), Mid M w → Box M (fun w => p1 w v1) w → Box M (fun w => p2 w v2) w → Calls P f #[v1, v2] w (RetB M (pB a) w)) (e : a = b) : ∀ (M : Nat → Prop) (w : World) (v1 v2 : Value), Mid M w → Box M (fun w => p1 w v1) w → Box M (fun w => p2 w v2) w → Calls P f #[v1, v2] w (RetB M (pB b) w) := e ▸ h
theorem cb_known1 {f : FuncId} {P : Program} {p1 : Pred} {a b : Bool} (h : ∀ (M : Nat → Prop) (w : World) (v1 : Value), Mid M w → Box M (fun w => p1 w v1) w → Calls P f #[v1] w (RetB M (pB a) w)) (e : a = b) : ∀ (M : Nat → Prop) (w : World) (v1 : Value), Mid M w → Box M (fun w => p1 w v1) w → Calls P f #[v1] w (RetB M (pB b) w) := e ▸ h
/-- A contract of numbers, said of what lives on. -/
theorem box1 {f : FuncId} {P : Program} {p1 p : Pred} (hn : Numlike p) (h : ∀ w v1, p1 w v1 → Calls P f #[v1] w (Ret p w)) : ∀ (M : Nat → Prop) (w : World) (v1 : Value), Mid M w → Box M (fun w => p1 w v1) w → Calls P f #[v1] w (RetB M p w) :=
  fun _ w v1 hM h1 => (h w v1 h1.out).mono fun _ _ h => ret_box hn hM h
theorem box2 {f : FuncId} {P : Program} {p1 p2 p : Pred} (hn : Numlike p) (h : ∀ w v1 v2, p1 w v1 → p2 w v2 → Calls P f #[v1, v2] w (Ret p w)) : ∀ (M : Nat → Prop) (w : World) (v1 v2 : Value), Mid M w → Box M (fun w => p1 w v1) w → Box M (fun w => p2 w v2) w → Calls P f #[v1, v2] w (RetB M p w) :=
  fun _ w v1 v2 hM h1 h2 => (h w v1 v2 h1.out h2.out).mono fun _ _ h => ret_box hn hM h
end Wx
