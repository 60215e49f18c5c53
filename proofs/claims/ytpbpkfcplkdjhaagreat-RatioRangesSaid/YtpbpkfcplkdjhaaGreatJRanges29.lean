import Derived.Handy
import Derived.KernelRfl
import Derived.Test.YtpbpkfcplkdjhaaGreatProg
import Derived.Test.YtpbpkfcplkdjhaaGreatCSem
import Derived.Test.YtpbpkfcplkdjhaaGreatCSemOps
import Derived.Test.YtpbpkfcplkdjhaaGreatCSemMem
import Derived.Test.YtpbpkfcplkdjhaaGreatJRanges27
import Derived.Test.YtpbpkfcplkdjhaaGreatCSemRow
import Derived.Test.YtpbpkfcplkdjhaaGreatJRanges0
import Derived.Test.YtpbpkfcplkdjhaaGreatJRanges1
import Derived.Test.YtpbpkfcplkdjhaaGreatCLimbs2
import Derived.Test.YtpbpkfcplkdjhaaGreatJRanges3
import Derived.Test.YtpbpkfcplkdjhaaGreatJRanges8
import Derived.Test.YtpbpkfcplkdjhaaGreatCRat1
import Derived.Test.YtpbpkfcplkdjhaaGreatJRanges10
import Derived.Test.YtpbpkfcplkdjhaaGreatCRat3
import Derived.Test.YtpbpkfcplkdjhaaGreatJRanges14
import Derived.Test.YtpbpkfcplkdjhaaGreatCLess
import Derived.Test.YtpbpkfcplkdjhaaGreatInv
import Derived.Test.YtpbpkfcplkdjhaaGreatCSemCode
import Derived.Deep.QuietTactic
import Derived.BigQuiet
namespace Wx
open Go Go.RowKit Go.Proofs

theorem ty_Ratio : Ty Tryz.prog 28 true 3 := ⟨fun _ => by kernel_rfl, fun _ => by kernel_rfl, by decide⟩
theorem zv_Ratio : ∀ w, (zeroValue 28).run Tryz.prog w = .ok (.agg #[.bool false, .slice none 0 0, .slice none 0 0]) w := fun _ => by kernel_rfl
theorem bt_Ratio : BuildTy Tryz.prog 28 #[(0, 1), (1, 1), (2, 1)] [.bool false, .slice none 0 0, .slice none 0 0] := fun _ => by kernel_rfl
theorem fa_Ratio_0 : ∀ b o w, (Instr.fieldAt 28 (.pointer (some ⟨b, o, none⟩)) 0).run Tryz.prog w = .ok (.pointer (some ⟨b, o + 0, none⟩)) w := fun _ _ _ => by kernel_rfl
theorem fa_Ratio_1 : ∀ b o w, (Instr.fieldAt 28 (.pointer (some ⟨b, o, none⟩)) 1).run Tryz.prog w = .ok (.pointer (some ⟨b, o + 1, none⟩)) w := fun _ _ _ => by kernel_rfl
theorem fa_Ratio_2 : ∀ b o w, (Instr.fieldAt 28 (.pointer (some ⟨b, o, none⟩)) 2).run Tryz.prog w = .ok (.pointer (some ⟨b, o + 2, none⟩)) w := fun _ _ _ => by kernel_rfl
theorem ty_Range : Ty Tryz.prog 30 true 6 := ⟨fun _ => by kernel_rfl, fun _ => by kernel_rfl, by decide⟩
theorem zv_Range : ∀ w, (zeroValue 30).run Tryz.prog w = .ok (.agg #[.bool false, .slice none 0 0, .slice none 0 0, .bool false, .slice none 0 0, .slice none 0 0]) w := fun _ => by kernel_rfl
theorem bt_Range : BuildTy Tryz.prog 30 #[(0, 3), (3, 3)] [.bool false, .slice none 0 0, .slice none 0 0, .bool false, .slice none 0 0, .slice none 0 0] := fun _ => by kernel_rfl
theorem fa_Range_0 : ∀ b o w, (Instr.fieldAt 30 (.pointer (some ⟨b, o, none⟩)) 0).run Tryz.prog w = .ok (.pointer (some ⟨b, o + 0, none⟩)) w := fun _ _ _ => by kernel_rfl
theorem fa_Range_1 : ∀ b o w, (Instr.fieldAt 30 (.pointer (some ⟨b, o, none⟩)) 1).run Tryz.prog w = .ok (.pointer (some ⟨b, o + 3, none⟩)) w := fun _ _ _ => by kernel_rfl
theorem ty_Frac : Ty Tryz.prog 23 true 2 := ⟨fun _ => by kernel_rfl, fun _ => by kernel_rfl, by decide⟩
theorem zv_Frac : ∀ w, (zeroValue 23).run Tryz.prog w = .ok (.agg #[.int .i64 0, .int .i64 0]) w := fun _ => by kernel_rfl
theorem bt_Frac : BuildTy Tryz.prog 23 #[(0, 1), (1, 1)] [.int .i64 0, .int .i64 0] := fun _ => by kernel_rfl
theorem fa_Frac_0 : ∀ b o w, (Instr.fieldAt 23 (.pointer (some ⟨b, o, none⟩)) 0).run Tryz.prog w = .ok (.pointer (some ⟨b, o + 0, none⟩)) w := fun _ _ _ => by kernel_rfl
theorem fa_Frac_1 : ∀ b o w, (Instr.fieldAt 23 (.pointer (some ⟨b, o, none⟩)) 1).run Tryz.prog w = .ok (.pointer (some ⟨b, o + 1, none⟩)) w := fun _ _ _ => by kernel_rfl
theorem ty_Frac2 : Ty Tryz.prog 24 true 4 := ⟨fun _ => by kernel_rfl, fun _ => by kernel_rfl, by decide⟩
theorem zv_Frac2 : ∀ w, (zeroValue 24).run Tryz.prog w = .ok (.agg #[.int .i64 0, .int .i64 0, .int .i64 0, .int .i64 0]) w := fun _ => by kernel_rfl
theorem ty_int : Ty Tryz.prog 3 false 1 := ⟨fun _ => by kernel_rfl, fun _ => by kernel_rfl, by decide⟩
theorem zv_int : ∀ w, (zeroValue 3).run Tryz.prog w = .ok (.int .i64 0) w := fun _ => by kernel_rfl
theorem ty_int64 : Ty Tryz.prog 2 false 1 := ⟨fun _ => by kernel_rfl, fun _ => by kernel_rfl, by decide⟩
theorem zv_int64 : ∀ w, (zeroValue 2).run Tryz.prog w = .ok (.int .i64 0) w := fun _ => by kernel_rfl
theorem ty_bool : Ty Tryz.prog 4 false 1 := ⟨fun _ => by kernel_rfl, fun _ => by kernel_rfl, by decide⟩
theorem zv_bool : ∀ w, (zeroValue 4).run Tryz.prog w = .ok (.bool false) w := fun _ => by kernel_rfl
theorem ty_Errno : Ty Tryz.prog 31 false 1 := ⟨fun _ => by kernel_rfl, fun _ => by kernel_rfl, by decide⟩
theorem zv_Errno : ∀ w, (zeroValue 31).run Tryz.prog w = .ok (.int .i64 0) w := fun _ => by kernel_rfl
theorem ty_R : Ty Tryz.prog 37 true 3 := ⟨fun _ => by kernel_rfl, fun _ => by kernel_rfl, by decide⟩
theorem zv_R : ∀ w, (zeroValue 37).run Tryz.prog w = .ok (.agg #[.bool false, .slice none 0 0, .slice none 0 0]) w := fun _ => by kernel_rfl
theorem bt_R : BuildTy Tryz.prog 37 #[(0, 1), (1, 1), (2, 1)] [.bool false, .slice none 0 0, .slice none 0 0] := fun _ => by kernel_rfl
theorem fa_R_0 : ∀ b o w, (Instr.fieldAt 37 (.pointer (some ⟨b, o, none⟩)) 0).run Tryz.prog w = .ok (.pointer (some ⟨b, o + 0, none⟩)) w := fun _ _ _ => by kernel_rfl
theorem fa_R_1 : ∀ b o w, (Instr.fieldAt 37 (.pointer (some ⟨b, o, none⟩)) 1).run Tryz.prog w = .ok (.pointer (some ⟨b, o + 1, none⟩)) w := fun _ _ _ => by kernel_rfl
theorem fa_R_2 : ∀ b o w, (Instr.fieldAt 37 (.pointer (some ⟨b, o, none⟩)) 2).run Tryz.prog w = .ok (.pointer (some ⟨b, o + 2, none⟩)) w := fun _ _ _ => by kernel_rfl
theorem ty_S : Ty Tryz.prog 39 true 6 := ⟨fun _ => by kernel_rfl, fun _ => by kernel_rfl, by decide⟩
theorem zv_S : ∀ w, (zeroValue 39).run Tryz.prog w = .ok (.agg #[.bool false, .slice none 0 0, .slice none 0 0, .bool false, .slice none 0 0, .slice none 0 0]) w := fun _ => by kernel_rfl
theorem bt_S : BuildTy Tryz.prog 39 #[(0, 3), (3, 3)] [.bool false, .slice none 0 0, .slice none 0 0, .bool false, .slice none 0 0, .slice none 0 0] := fun _ => by kernel_rfl
theorem fa_S_0 : ∀ b o w, (Instr.fieldAt 39 (.pointer (some ⟨b, o, none⟩)) 0).run Tryz.prog w = .ok (.pointer (some ⟨b, o + 0, none⟩)) w := fun _ _ _ => by kernel_rfl
theorem fa_S_1 : ∀ b o w, (Instr.fieldAt 39 (.pointer (some ⟨b, o, none⟩)) 1).run Tryz.prog w = .ok (.pointer (some ⟨b, o + 3, none⟩)) w := fun _ _ _ => by kernel_rfl
theorem ty_string : Ty Tryz.prog 9 false 1 := ⟨fun _ => by kernel_rfl, fun _ => by kernel_rfl, by decide⟩
theorem zv_string : ∀ w, (zeroValue 9).run Tryz.prog w = .ok (.string ⟨#[]⟩) w := fun _ => by kernel_rfl
theorem sl_Ratios : SlTy Tryz.prog 73 28 3 := ⟨by kernel_rfl, fun _ => by kernel_rfl⟩
theorem sl_Rows : SlTy Tryz.prog 69 73 1 := ⟨by kernel_rfl, fun _ => by kernel_rfl⟩
end Wx

namespace Wx
open Go Go.RowKit Go.Proofs

theorem denOf_inj {m n : Nat} (hm : 0 < m) (hn : 0 < n) (h : denOf m = denOf n) : m = n := by
  unfold denOf at h
  split at h <;> split at h <;> omega
theorem rat_eq_iff (x y : Rat) : x = y ↔ decide (x.num < 0) = decide (y.num < 0) ∧ x.num.natAbs = y.num.natAbs ∧ denOf x.den = denOf y.den := by
  refine ⟨fun h => by subst h; exact ⟨rfl, rfl, rfl⟩, fun ⟨h1, h2, h3⟩ => ?_⟩
  have hd := denOf_inj x.den_pos y.den_pos h3
  refine Rat.ext ?_ hd
  rw [← sg_mk x.num, ← sg_mk y.num, h1, h2]
theorem cmpI_eq (m : Nat) : cmpI m m = 0 := by unfold cmpI; simp
theorem cmpI_ne {m n : Nat} (h : m ≠ n) : ∃ z, cmpI m n = z ∧ (z == 0) = false := by
  refine ⟨_, rfl, ?_⟩
  unfold cmpI
  rcases Nat.lt_or_gt_of_ne h with h1 | h1
  · rw [if_pos h1]; rfl
  · rw [if_neg (by omega)]; split <;> first | rfl | omega
end Wx

namespace Wx
open Go Go.RowKit Go.Proofs

theorem bd_zero : BdR 1 (0 : Rat) := ⟨by show (0 : Rat).num.natAbs < 2 ^ 1; decide, by show (0 : Rat).den < 2 ^ 1; decide⟩
theorem BdR.sub_ {j k : Nat} {x y : Rat} (h : BdR j x) (g : BdR k y) : BdR (j + k + j + k + 1) (x - y) := by rw [Rat.sub_eq_add_neg]; exact h.add g.neg
theorem BdR.quo {j k : Nat} {x y : Rat} (h : BdR j x) (g : BdR k y) : BdR (j + k) (x / y) := by
  by_cases hy : y = 0
  · rw [hy, Rat.div_def, Rat.inv_zero, Rat.mul_zero]
    have h2 : x.den < 2 ^ j := h.2
    have h3 := x.den_pos
    have hj : j ≠ 0 := by rintro rfl; simp at h2; omega
    refine ⟨?_, ?_⟩
    · show (0 : Rat).num.natAbs < 2 ^ (j + k)
      exact Nat.two_pow_pos _
    · show (0 : Rat).den < 2 ^ (j + k)
      show 1 < 2 ^ (j + k)
      exact Nat.one_lt_two_pow (by omega)
  · exact h.div g (fun h => hy ((num_zero_iff y).1 (by omega)))
theorem ret_is {w : World} {v : Value} {e : Ending} {w' : World} (h : RetIs w v e w') : Ret (pEq v) w e w' := ⟨v, h.1, rfl, h.2⟩
theorem ret_re {w : World} {q : Rat} {n : Int} {e : Ending} {w' : World} (h : RetRE w q n e w') : Ret (pTup2 (pRat q) (pI n)) w e w' := by
  obtain ⟨v, rfl, h1, h2⟩ := h
  exact ⟨_, rfl, ⟨v, _, rfl, h1, rfl⟩, h2⟩
theorem c_add {x y : Rat} {j k : Nat} (hx : BdR j x) (hy : BdR k y) (h : j + k + j + k + 1 ≤ 100000000) : ∀ w v1 v2, pRat x w v1 → pRat y w v2 → Calls Tryz.prog 78 #[v1, v2] w (Ret (pRat (x + y)) w) :=
  fun w v1 v2 h1 h2 => add_num w v1 v2 x y h1 h2 hx hy h
theorem c_sub {x y : Rat} {j k : Nat} (hx : BdR j x) (hy : BdR k y) (h : j + k + j + k + 1 ≤ 100000000) : ∀ w v1 v2, pRat x w v1 → pRat y w v2 → Calls Tryz.prog 75 #[v1, v2] w (Ret (pRat (x - y)) w) :=
  fun w v1 v2 h1 h2 => sub_num w v1 v2 x y h1 h2 hx hy h
theorem c_mul {x y : Rat} {j k : Nat} (hx : BdR j x) (hy : BdR k y) (h : j + k ≤ 100000000) : ∀ w v1 v2, pRat x w v1 → pRat y w v2 → Calls Tryz.prog 81 #[v1, v2] w (Ret (pRat (x * y)) w) :=
  fun w v1 v2 h1 h2 => mul_num w v1 v2 x y h1 h2 hx hy h
theorem c_by {x y : Rat} {j k : Nat} (hx : BdR j x) (hy : BdR k y) (h : j + k ≤ 100000000) (h0 : y ≠ 0) : ∀ w v1 v2, pRat x w v1 → pRat y w v2 → Calls Tryz.prog 84 #[v1, v2] w (Ret (pRat (x / y)) w) :=
  fun w v1 v2 h1 h2 => by_num w v1 v2 x y h1 h2 (fun h => h0 ((num_zero_iff y).1 (by omega))) hx hy h
theorem c_neg (x : Rat) : ∀ w v1, pRat x w v1 → Calls Tryz.prog 83 #[v1] w (Ret (pRat (-x)) w) := fun w v1 h1 => neg_num w v1 x h1
theorem c_zero (x : Rat) : ∀ w v1, pRat x w v1 → Calls Tryz.prog 132 #[v1] w (Ret (pB (decide (x = 0))) w) := fun w v1 h1 => (zero_num w v1 x h1).mono fun _ _ => ret_is
theorem c_sign (x : Rat) : ∀ w v1, pRat x w v1 → Calls Tryz.prog 110 #[v1] w (Ret (pI (sgnI x)) w) := fun w v1 h1 => (sign_num w v1 x h1).mono fun _ _ => ret_is
theorem c_int (n : Int) (h1 : -9223372036854775808 ≤ n) (h2 : n ≤ 9223372036854775807) : ∀ w v1, pI n w v1 → Calls Tryz.prog 64 #[v1] w (Ret (pRat (n : Rat)) w) := fun w v1 h => by
  have h : v1 = .int .i64 n := h
  rw [h]
  exact int_num w n h1 h2
theorem c_new_ok {n d : Int} (h1 : -9223372036854775808 ≤ n) (h2 : n ≤ 9223372036854775807) (h3 : -9223372036854775808 ≤ d) (h4 : d ≤ 9223372036854775807) (hd : d ≠ 0) : ∀ w v1 v2, pI n w v1 → pI d w v2 → Calls Tryz.prog 65 #[v1, v2] w (Ret (pTup2 (pRat (newR n d)) (pI 0)) w) := fun w v1 v2 e1 e2 => by
  have e1 : v1 = .int .i64 n := e1
  have e2 : v2 = .int .i64 d := e2
  rw [e1, e2]
  exact (new_num w n d h1 h2 h3 h4 hd).mono fun _ _ => ret_re
/-- An answer that is known. -/
theorem c_known {f : FuncId} {P : Program} {p1 p2 : Pred} {a b : Bool} (h : ∀ w v1 v2, p1 w v1 → p2 w v2 → Calls P f #[v1, v2] w (Ret (pB a) w)) (e : a = b) : ∀ w v1 v2, p1 w v1 → p2 w v2 → Calls P f #[v1, v2] w (Ret (pB b) w) := e ▸ h
theorem c_known1 {f : FuncId} {P : Program} {p1 : Pred} {a b : Bool} (h : ∀ w v1, p1 w v1 → Calls P f #[v1] w (Ret (pB a) w)) (e : a = b) : ∀ w v1, p1 w v1 → Calls P f #[v1] w (Ret (pB b) w) := e ▸ h
theorem cb_known2 {f : FuncId} {P : Program} {p1 p2 : Pred} {a b : Bool} (h : ∀ (M : Nat → Nat → Prop) (w : World) (v1 v2 : Value), Mid M w → Box M (fun w => p1 w v1) w → Box M (fun w => p2 w v2) w → Calls P f #[v1, v2] w (RetB M (pB a) w)) (e : a = b) : ∀ (M : Nat → Nat → Prop) (w : World) (v1 v2 : Value), Mid M w → Box M (fun w => p1 w v1) w → Box M (fun w => p2 w v2) w → Calls P f #[v1, v2] w (RetB M (pB b) w) := e ▸ h
theorem cb_known1 {f : FuncId} {P : Program} {p1 : Pred} {a b : Bool} (h : ∀ (M : Nat → Nat → Prop) (w : World) (v1 : Value), Mid M w → Box M (fun w => p1 w v1) w → Calls P f #[v1] w (RetB M (pB a) w)) (e : a = b) : ∀ (M : Nat → Nat → Prop) (w : World) (v1 : Value), Mid M w → Box M (fun w => p1 w v1) w → Calls P f #[v1] w (RetB M (pB b) w) := e ▸ h
/-- A contract of numbers, said of what lives on. -/
theorem box1 {f : FuncId} {P : Program} {p1 p : Pred} (hn : Numlike p) (h : ∀ w v1, p1 w v1 → Calls P f #[v1] w (Ret p w)) : ∀ (M : Nat → Nat → Prop) (w : World) (v1 : Value), Mid M w → Box M (fun w => p1 w v1) w → Calls P f #[v1] w (RetB M p w) :=
  fun _ w v1 hM h1 => (h w v1 h1.out).mono fun _ _ h => ret_box hn hM h
theorem box2 {f : FuncId} {P : Program} {p1 p2 p : Pred} (hn : Numlike p) (h : ∀ w v1 v2, p1 w v1 → p2 w v2 → Calls P f #[v1, v2] w (Ret p w)) : ∀ (M : Nat → Nat → Prop) (w : World) (v1 v2 : Value), Mid M w → Box M (fun w => p1 w v1) w → Box M (fun w => p2 w v2) w → Calls P f #[v1, v2] w (RetB M p w) :=
  fun _ w v1 v2 hM h1 h2 => (h w v1 v2 h1.out h2.out).mono fun _ _ h => ret_box hn hM h
end Wx

namespace Wx
open Go Go.RowKit Go.Proofs

def b32 : Nat := 4294967296
theorem b32_pow : b32 = 2 ^ 32 := by unfold b32; decide
theorem two_le_b32 : 2 ≤ b32 := by unfold b32; omega
theorem len32 {k n : Nat} (h : Bd k n) : (digs b32 n).length ≤ k / 32 + 1 := by rw [b32_pow]; exact h.digs (by omega)
theorem i32row : (Tryz.prog.info? 169).map (fun i => (i.zero, i.size, decide (i.bytes ≤ 8))) = some (some (.int .u32 0), 1, true) := by kernel_rfl
theorem wrap_u32 {n : Int} (h0 : 0 ≤ n) (h1 : n < 4294967296) : IntKind.u32.wrap n = n := by
  unfold IntKind.wrap
  simp [IntKind.bits, IntKind.signed]
  omega

theorem ncut_any (w : World) (A : Option Addr) (c : Nat) (l : List Nat) (h : Rd w .u32 A c l) :
    Calls Tryz.prog 155 #[.slice A l.length c] w (CutPost w A c l) := by
  obtain ⟨hl, hm, hcell⟩ := h
  unfold maxLen at hm
  go_enter Tryz.func155, Tryz.ntmps155
  go_wp2
  go_loop [3] (fun v => ∃ n : Nat, n ≤ l.length ∧ v = .int .i64 n ∧ (∀ b, val b (l.take n) = val b l)) (fun v => (intOf v).toNat)
  case atStart => exact ⟨l.length, Nat.le_refl _, rfl, fun b => by rw [List.take_length]⟩
  case round =>
    obtain ⟨n, hn, rfl, hv⟩ := hrel
    have HV := Lib.hid hv
    clear hv
    rcases Nat.eq_zero_or_pos n with rfl | hpos
    · go_wp2
      go_ret
      exact ⟨0, hn, rfl, rfl, Top.nil, HV.out⟩
    · obtain ⟨b, o, rfl, hc⟩ := hcell (by rintro rfl; simp at hn; omega)
      have hc1 := hc (n - 1) (by omega)
      clear hc hcell
      obtain ⟨x, hx⟩ : ∃ x, x = l.getD (n - 1) 0 := ⟨_, rfl⟩
      rw [← hx] at hc1
      have HX := Lib.hid hx
      clear hx
      obtain ⟨k, rfl⟩ : ∃ k, n = k + 1 := ⟨n - 1, by omega⟩
      rw [Nat.add_sub_cancel] at hc1 HX
      rcases Nat.eq_zero_or_pos x with rfl | h0
      · go_wp2
        go_round
        case rel => exact ⟨k, by omega, by go_num, fun b => by rw [step_zero (by omega) HX.out.symm]; exact HV.out b⟩
        case measure => simp [intOf]
      · have h0' : ((x : Int) == 0) = false := beq_eq_false_iff_ne.2 (by omega)
        go_wp2
        go_ret
        exact ⟨k + 1, hn, rfl, rfl, top_of (l := l) (n := k) (by omega) (by have := HX.out; omega), HV.out⟩
theorem ncut_num (w : World) (A : Option Addr) (c : Nat) (l : List Nat) (n : Nat) (h : Rd w .u32 A c l) (hw : Wf b32 l) (L : Nat) (hL : l.length = L) (hn : val b32 l = n) :
    Calls Tryz.prog 155 #[.slice A L c] w (SameNum .u32 b32 w n) := by
  subst hL
  refine (ncut_any w A c l h).mono fun e w' ⟨k, hk, he, hw', ht, hv⟩ => ⟨hw', _, he, ?_⟩
  rw [← hn, ← hv b32]
  exact Num.of two_le_b32 (h.take k) (by rw [List.length_take]; omega) (hw.take k) ht

/-- What a call hands back that returns a new number in a block of its own. -/
def RetNumG (w : World) (n : Nat) (e : Ending) (w' : World) : Prop := ∃ g L c, w.heap.size ≤ g ∧ e = .returned (.slice (some ⟨g, 0, none⟩) L c) ∧ Num .u32 b32 w' (.slice (some ⟨g, 0, none⟩) L c) n ∧ Below w.heap.size w w'
theorem RetNumG.num {w : World} {n : Nat} {e : Ending} {w' : World} (h : RetNumG w n e w') : RetNum .u32 b32 w n e w' := by
  obtain ⟨g, L, c, _, he, hn, hb⟩ := h
  exact ⟨_, he, hn, hb⟩
theorem ncut_numA (w : World) (A : Option Addr) (c : Nat) (l : List Nat) (n : Nat) (h : Rd w .u32 A c l) (hw : Wf b32 l) (L : Nat) (hL : l.length = L) (hn : val b32 l = n) :
    Calls Tryz.prog 155 #[.slice A L c] w (fun e w' => w = w' ∧ ∃ k, e = .returned (.slice A k c) ∧ Num .u32 b32 w (.slice A k c) n) := by
  subst hL
  refine (ncut_any w A c l h).mono fun e w' ⟨k, hk, he, hw', ht, hv⟩ => ⟨hw', _, he, ?_⟩
  rw [← hn, ← hv b32]
  exact Num.of two_le_b32 (h.take k) (by rw [List.length_take]; omega) (hw.take k) ht

theorem nat_num (w : World) (n : Nat) (hn : n < b64) : Calls Tryz.prog 119 #[.int .u64 (n : Int)] w (RetNum .u32 b32 w n) := by
  have e1 : (n : Int) % 4294967296 = ((n % b32 : Nat) : Int) := by unfold b32; omega
  have e2 : IntKind.u64.wrap ((n : Int) / 4294967296) % 4294967296 = ((n / b32 : Nat) : Int) := by
    unfold b64 at hn
    rw [wrap_u64 (by omega) (by omega)]; unfold b32; omega
  have hw : Wf b32 [n % b32, n / b32] := Wf.cons (Nat.mod_lt _ (by unfold b32; omega)) (Wf.cons (by unfold b32; unfold b64 at hn; omega) (Wf.nil _))
  have hv : val b32 [n % b32, n / b32] = n := by simp [val]; exact Nat.mod_add_div _ _
  have E1 := Lib.hid e1
  have E2 := Lib.hid e2
  have HV := Lib.hid hv
  clear e1 e2 hv hn
  go_enter Tryz.func119, Tryz.ntmps119
  go_wp2_with fail
  rw [E1.out, E2.out]
  have hR : Row (w.alloc (.cells #[.int .u32 ((n % b32 : Nat) : Int), .int .u32 ((n / b32 : Nat) : Int)] 169)) .u32 169 w.heap.size [n % b32, n / b32] := Row.new w .u32 169 [n % b32, n / b32]
  refine (ncut_num _ _ _ [n % b32, n / b32] n (hR.rd_all (Nat.le_refl _) (by simp [maxLen])) hw _ rfl HV.out).mono ?_
  rintro e w' ⟨rfl, v, rfl, hv⟩
  go_wp2
  go_ret
  exact ⟨v, rfl, hv, (Below.refl _ _).alloc (Nat.le_refl _) _⟩
end Wx

namespace Wx
open Go Go.RowKit Go.Proofs

set_option maxHeartbeats 400000 in
theorem order_dr (w : World) (v1 v2 : Value) (m n : Nat) (h1 : Num .u32 b32 w v1 m) (h2 : Num .u32 b32 w v2 n) :
    Calls Tryz.prog 122 #[v1, v2] w (RetDr w (.int .i64 (cmpI m n))) := by
  obtain ⟨A, c, rfl, ha⟩ := h1
  obtain ⟨B, d, rfl, hb⟩ := h2
  have hla := ha.len
  have hlb := hb.len
  by_cases hlt : (digs b32 m).length < (digs b32 n).length
  · have hmn := val_lt_of_length two_le_b32 hlt
    have e : cmpI m n = -1 := by unfold cmpI; rw [if_pos hmn]
    rw [e]
    go_enter Tryz.func122, Tryz.ntmps122
    go_wp2
    all_goals (go_ret; exact ⟨rfl, 0, rfl⟩)
  · by_cases hgt : (digs b32 n).length < (digs b32 m).length
    · have hmn := val_lt_of_length two_le_b32 hgt
      have e : cmpI m n = 1 := by unfold cmpI; rw [if_neg (by omega), if_pos hmn]
      rw [e]
      go_enter Tryz.func122, Tryz.ntmps122
      go_wp2
      all_goals (go_ret; exact ⟨rfl, 0, rfl⟩)
    · have hll : (digs b32 m).length = (digs b32 n).length := by omega
      have wa := digs_wf two_le_b32 m
      have wb := digs_wf two_le_b32 n
      have va := val_digs two_le_b32 m
      have vb := val_digs two_le_b32 n
      generalize digs b32 m = a at *
      generalize digs b32 n = b at *
      rw [← hll] at hlb ⊢
      have HL := Lib.hid hll
      have VA := Lib.hid va
      have VB := Lib.hid vb
      clear hll va vb hlt hgt hlb
      go_enter Tryz.func122, Tryz.ntmps122
      go_wp2
      go_loopw [5] (fun s5 wr => ∃ i : Nat, i ≤ a.length ∧ s5 = .int .i64 ((i : Int) - 1) ∧ a.drop i = b.drop i ∧ ∃ q, wr = w.drewN q)
        (fun s5 _ => (intOf s5 + 1).toNat)
      case atStart => exact ⟨a.length, Nat.le_refl _, rfl, by rw [List.drop_of_length_le (Nat.le_refl _), List.drop_of_length_le (by have := HL.out; omega)], 0, rfl⟩
      case round =>
        obtain ⟨i, hi, rfl, hd, q, rfl⟩ := hrel
        have HD := Lib.hid hd
        clear hd
        rcases Nat.eq_zero_or_pos i with rfl | hpos
        · rw [show (((0 : Nat) : Int) - 1) = -1 by omega]
          have : a = b := by simpa using HD.out
          have e : m = n := by rw [← VA.out, ← VB.out, this]
          have e0 : cmpI m n = 0 := by unfold cmpI; rw [if_neg (by omega), if_neg (by omega)]
          have E0 := Lib.hid e0
          clear e e0 this
          go_wp2
          go_ret
          exact ⟨ret_int E0.out.symm, _, rfl⟩
        · obtain ⟨j, rfl⟩ : ∃ j, i = j + 1 := ⟨i - 1, by omega⟩
          obtain ⟨b1, o1, x, rfl, hcx, HX⟩ := ha.get (i := j) (by omega)
          obtain ⟨b2, o2, y, rfl, hcy, HY⟩ := hb.get (i := j) (by have := HL.out; omega)
          rw [show (((j + 1 : Nat) : Int) - 1) = (j : Int) by omega]
          have hj0 : (0 : Int) ≤ (j : Int) := by omega
          have hj1 : (j : Int) < (a.length : Int) := by omega
          rcases Nat.lt_trichotomy x y with hxy | hxy | hxy
          · have hxy' : (x : Int) < (y : Int) := by omega
            have hmn : m < n := by
              rw [← VA.out, ← VB.out]
              exact val_lt_get wa HX.out HY.out HD.out hxy
            have E0 : Hid (cmpI m n = -1) := by show cmpI m n = -1; unfold cmpI; rw [if_pos hmn]
            clear hmn
            go_wp2
            go_quiet (fail)
            go_wp2
            go_ret
            exact ⟨ret_int E0.out.symm, _, World.drewN_drewN _ _ _⟩
          · subst hxy
            go_wp2
            go_quiet (fail)
            go_wp2
            go_quiet (fail)
            go_wp2
            go_roundw
            case rel => exact ⟨j, by omega, by go_num, drop_get HX.out HY.out HD.out, _, rfl⟩
            case measure => simp [intOf]
          · have hxy' : (y : Int) < (x : Int) := by omega
            have hmn : n < m := by
              rw [← VA.out, ← VB.out]
              exact val_lt_get wb HY.out HX.out HD.out.symm hxy
            have E0 : Hid (cmpI m n = 1) := by show cmpI m n = 1; unfold cmpI; rw [if_neg (by omega), if_pos hmn]
            clear hmn
            go_wp2
            go_quiet (fail)
            go_wp2
            go_quiet (fail)
            go_wp2
            go_ret
            exact ⟨ret_int E0.out.symm, _, (World.drewN_drewN _ _ _).trans (World.drewN_drewN _ _ _)⟩
theorem order_num (w : World) (v1 v2 : Value) (m n : Nat) (h1 : Num .u32 b32 w v1 m) (h2 : Num .u32 b32 w v2 n) :
    Calls Tryz.prog 122 #[v1, v2] w (RetIs w (.int .i64 (cmpI m n))) := (order_dr w v1 v2 m n h1 h2).mono fun _ _ h => h.is
end Wx
