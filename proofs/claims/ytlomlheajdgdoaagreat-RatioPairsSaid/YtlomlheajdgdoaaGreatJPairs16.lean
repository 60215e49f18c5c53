import Derived.Handy
import Derived.KernelRfl
import Derived.Test.YtlomlheajdgdoaaGreatProg
import Derived.Test.YtlomlheajdgdoaaGreatCPairsSem
import Derived.Test.YtlomlheajdgdoaaGreatCPairsSemOps
import Derived.Test.YtlomlheajdgdoaaGreatCPairsSemMem
import Derived.Test.YtlomlheajdgdoaaGreatJPairs15
import Derived.Test.YtlomlheajdgdoaaGreatJPairs0
import Derived.Test.YtlomlheajdgdoaaGreatJPairs1
import Derived.Test.YtlomlheajdgdoaaGreatJPairs9
import Derived.Test.YtlomlheajdgdoaaGreatJPairs5
import Derived.Test.YtlomlheajdgdoaaGreatJPairs7
import Derived.Test.YtlomlheajdgdoaaGreatCPairsRat1
import Derived.Test.YtlomlheajdgdoaaGreatJPairs10
import Derived.Test.YtlomlheajdgdoaaGreatCPairsSemCode
import Derived.Test.YtlomlheajdgdoaaGreatJPairs3
namespace Wx
open Go Go.RowKit Go.Proofs

theorem ty_Ratio : Ty Tryz.prog 29 true 3 := ⟨fun _ => by kernel_rfl, fun _ => by kernel_rfl, by decide⟩
theorem zv_Ratio : ∀ w, (zeroValue 29).run Tryz.prog w = .ok (.agg #[.bool false, .slice none 0 0, .slice none 0 0]) w := fun _ => by kernel_rfl
theorem bt_Ratio : BuildTy Tryz.prog 29 #[(0, 1), (1, 1), (2, 1)] [.bool false, .slice none 0 0, .slice none 0 0] := fun _ => by kernel_rfl
theorem fa_Ratio_0 : ∀ b o w, (Instr.fieldAt 29 (.pointer (some ⟨b, o, none⟩)) 0).run Tryz.prog w = .ok (.pointer (some ⟨b, o + 0, none⟩)) w := fun _ _ _ => by kernel_rfl
theorem fa_Ratio_1 : ∀ b o w, (Instr.fieldAt 29 (.pointer (some ⟨b, o, none⟩)) 1).run Tryz.prog w = .ok (.pointer (some ⟨b, o + 1, none⟩)) w := fun _ _ _ => by kernel_rfl
theorem fa_Ratio_2 : ∀ b o w, (Instr.fieldAt 29 (.pointer (some ⟨b, o, none⟩)) 2).run Tryz.prog w = .ok (.pointer (some ⟨b, o + 2, none⟩)) w := fun _ _ _ => by kernel_rfl
theorem ty_Pair : Ty Tryz.prog 65 true 6 := ⟨fun _ => by kernel_rfl, fun _ => by kernel_rfl, by decide⟩
theorem zv_Pair : ∀ w, (zeroValue 65).run Tryz.prog w = .ok (.agg #[.bool false, .slice none 0 0, .slice none 0 0, .bool false, .slice none 0 0, .slice none 0 0]) w := fun _ => by kernel_rfl
theorem bt_Pair : BuildTy Tryz.prog 65 #[(0, 3), (3, 3)] [.bool false, .slice none 0 0, .slice none 0 0, .bool false, .slice none 0 0, .slice none 0 0] := fun _ => by kernel_rfl
theorem fa_Pair_0 : ∀ b o w, (Instr.fieldAt 65 (.pointer (some ⟨b, o, none⟩)) 0).run Tryz.prog w = .ok (.pointer (some ⟨b, o + 0, none⟩)) w := fun _ _ _ => by kernel_rfl
theorem fa_Pair_1 : ∀ b o w, (Instr.fieldAt 65 (.pointer (some ⟨b, o, none⟩)) 1).run Tryz.prog w = .ok (.pointer (some ⟨b, o + 3, none⟩)) w := fun _ _ _ => by kernel_rfl
theorem ty_Frac : Ty Tryz.prog 23 true 2 := ⟨fun _ => by kernel_rfl, fun _ => by kernel_rfl, by decide⟩
theorem ty_Frac2 : Ty Tryz.prog 62 true 4 := ⟨fun _ => by kernel_rfl, fun _ => by kernel_rfl, by decide⟩
theorem ty_int : Ty Tryz.prog 3 false 1 := ⟨fun _ => by kernel_rfl, fun _ => by kernel_rfl, by decide⟩
theorem ty_bool : Ty Tryz.prog 4 false 1 := ⟨fun _ => by kernel_rfl, fun _ => by kernel_rfl, by decide⟩
theorem ty_R : Ty Tryz.prog 33 true 3 := ⟨fun _ => by kernel_rfl, fun _ => by kernel_rfl, by decide⟩
theorem zv_R : ∀ w, (zeroValue 33).run Tryz.prog w = .ok (.agg #[.bool false, .slice none 0 0, .slice none 0 0]) w := fun _ => by kernel_rfl
theorem fa_R_0 : ∀ b o w, (Instr.fieldAt 33 (.pointer (some ⟨b, o, none⟩)) 0).run Tryz.prog w = .ok (.pointer (some ⟨b, o + 0, none⟩)) w := fun _ _ _ => by kernel_rfl
theorem fa_R_1 : ∀ b o w, (Instr.fieldAt 33 (.pointer (some ⟨b, o, none⟩)) 1).run Tryz.prog w = .ok (.pointer (some ⟨b, o + 1, none⟩)) w := fun _ _ _ => by kernel_rfl
theorem ty_P : Ty Tryz.prog 68 true 6 := ⟨fun _ => by kernel_rfl, fun _ => by kernel_rfl, by decide⟩
theorem zv_P : ∀ w, (zeroValue 68).run Tryz.prog w = .ok (.agg #[.bool false, .slice none 0 0, .slice none 0 0, .bool false, .slice none 0 0, .slice none 0 0]) w := fun _ => by kernel_rfl
theorem bt_P : BuildTy Tryz.prog 68 #[(0, 3), (3, 3)] [.bool false, .slice none 0 0, .slice none 0 0, .bool false, .slice none 0 0, .slice none 0 0] := fun _ => by kernel_rfl
theorem fa_P_0 : ∀ b o w, (Instr.fieldAt 68 (.pointer (some ⟨b, o, none⟩)) 0).run Tryz.prog w = .ok (.pointer (some ⟨b, o + 0, none⟩)) w := fun _ _ _ => by kernel_rfl
theorem fa_P_1 : ∀ b o w, (Instr.fieldAt 68 (.pointer (some ⟨b, o, none⟩)) 1).run Tryz.prog w = .ok (.pointer (some ⟨b, o + 3, none⟩)) w := fun _ _ _ => by kernel_rfl
theorem ty_format : Ty Tryz.prog 102 true 3 := ⟨fun _ => by kernel_rfl, fun _ => by kernel_rfl, by decide⟩
theorem zv_format : ∀ w, (zeroValue 102).run Tryz.prog w = .ok (.agg #[.int .i64 0, .int .i64 0, .int .i64 0]) w := fun _ => by kernel_rfl
theorem bt_format : BuildTy Tryz.prog 102 #[(0, 1), (1, 1), (2, 1)] [.int .i64 0, .int .i64 0, .int .i64 0] := fun _ => by kernel_rfl
theorem fa_format_0 : ∀ b o w, (Instr.fieldAt 102 (.pointer (some ⟨b, o, none⟩)) 0).run Tryz.prog w = .ok (.pointer (some ⟨b, o + 0, none⟩)) w := fun _ _ _ => by kernel_rfl
theorem fa_format_1 : ∀ b o w, (Instr.fieldAt 102 (.pointer (some ⟨b, o, none⟩)) 1).run Tryz.prog w = .ok (.pointer (some ⟨b, o + 1, none⟩)) w := fun _ _ _ => by kernel_rfl
theorem fa_format_2 : ∀ b o w, (Instr.fieldAt 102 (.pointer (some ⟨b, o, none⟩)) 2).run Tryz.prog w = .ok (.pointer (some ⟨b, o + 2, none⟩)) w := fun _ _ _ => by kernel_rfl
theorem ty_limbs : Ty Tryz.prog 27 false 1 := ⟨fun _ => by kernel_rfl, fun _ => by kernel_rfl, by decide⟩
theorem ty_uint64 : Ty Tryz.prog 44 false 1 := ⟨fun _ => by kernel_rfl, fun _ => by kernel_rfl, by decide⟩
theorem sl_limbs : SlTy Tryz.prog 27 44 1 := ⟨by kernel_rfl, fun _ => by kernel_rfl⟩
end Wx

namespace Wx
open Go Go.RowKit Go.Proofs

def pNum (n : Nat) : Pred := fun w v => Num .u64 b64 w v n
theorem numlike_num (n : Nat) : Numlike (pNum n) := fun _ _ _ hM h => num_box hM (.inl rfl) h
theorem fits_num (n : Nat) : Fits 1 false (pNum n) := by
  rintro w v ⟨A, c, rfl, _⟩
  refine ⟨[_], rfl, rfl, rfl, ?_⟩
  intro u hu
  simp at hu
  subst hu
  exact ⟨noU_slice _ _ _, rfl⟩
theorem pNum_eq {m n : Nat} (h : m = n) : ∀ w v, pNum m w v → pNum n w v := fun _ _ k => h ▸ k
def ratFs (q : Rat) : List Fd := [⟨false, 1, pB (decide (q.num < 0))⟩, ⟨false, 1, pNum q.num.natAbs⟩, ⟨false, 1, pNum (denOf q.den)⟩]
theorem rat_S (q : Rat) : ∀ w v, pRat q w v → pS (ratFs q) w v := by
  rintro w v ⟨vn, vd, rfl, h1, h2⟩
  exact pS_of' (cs := [.bool (decide (q.num < 0)), vn, vd]) ⟨by simp, rfl, by simp, h1, by simp, h2, rfl⟩
theorem S_rat (q : Rat) : ∀ w v, pS (ratFs q) w v → pRat q w v := by
  rintro w v ⟨cs, rfl, hc⟩
  have hl := pCells_len hc
  match cs, hl, hc with
  | [x, y, z], _, hc =>
    obtain ⟨_, h1, _, h2, _, h3, _⟩ := hc
    have e1 : x = .bool (decide (q.num < 0)) := h1
    subst e1
    exact ⟨y, z, rfl, h2, h3⟩
theorem fits_ratS (q : Rat) : Fits 3 true (pS (ratFs q)) := fits_s (fs := ratFs q) ⟨fits_bool _, fits_num _, fits_num _, trivial⟩ rfl
theorem ret_num {w : World} {n : Nat} {e : Ending} {w' : World} (h : RetNum .u64 b64 w n e w') : Ret (pNum n) w e w' := h
theorem c_left {m j : Nat} (hj : Bd j m) (hj1 : j ≤ 1000000000) {k : Int} (hk0 : 0 ≤ k) (hk : k ≤ 1000000000) : ∀ w v1 v2, pNum m w v1 → pI k w v2 → Calls Tryz.prog 72 #[v1, v2] w (Ret (pNum (m * 2 ^ k.toNat)) w) := fun w v1 v2 h1 h2 => by
  have h2 : v2 = .int .i64 k := h2
  have e : ((k.toNat : Nat) : Int) = k := Int.toNat_of_nonneg hk0
  rw [h2]
  have := left_num w v1 m k.toNat h1 hj hj1 (by omega)
  rw [e] at this
  exact this.mono fun _ _ => ret_num
theorem c_divide {m n j : Nat} (hj : Bd j m) (hj1 : j ≤ 100000000) (h0 : 0 < n) : ∀ w v1 v2, pNum m w v1 → pNum n w v2 → Calls Tryz.prog 103 #[v1, v2] w (Ret (pTup2 (pNum (m / n)) (pNum (m % n))) w) := fun w v1 v2 h1 h2 =>
  (divide_num w v1 v2 m n h1 h2 h0 hj hj1).mono fun _ _ ⟨u1, u2, e, k1, k2, k3⟩ => ⟨_, e, ⟨u1, u2, rfl, k1, k2⟩, k3⟩
theorem c_lcmp (m n : Nat) : ∀ w v1 v2, pNum m w v1 → pNum n w v2 → Calls Tryz.prog 121 #[v1, v2] w (Ret (pI (cmpI m n)) w) := fun w v1 v2 h1 h2 => (cmp_num w v1 v2 m n h1 h2).mono fun _ _ h => ⟨_, h.1, rfl, h.2⟩
theorem c_plus {m n j k : Nat} (hj : Bd j m) (hk : Bd k n) (hj1 : j ≤ 1000000000) (hk1 : k ≤ 1000000000) : ∀ w v1 v2, pNum m w v1 → pNum n w v2 → Calls Tryz.prog 120 #[v1, v2] w (Ret (pNum (m + n)) w) := fun w v1 v2 h1 h2 => (plus_num w v1 v2 m n h1 h2 hj hk hj1 hk1).mono fun _ _ => ret_num
theorem c_under {d : Nat} (hd : 0 < d) : ∀ w v1, pNum (denOf d) w v1 → Calls Tryz.prog 62 #[v1] w (Ret (pNum d) w) := fun w v1 h1 => (under_num w v1 d h1 hd).mono fun _ _ => ret_num
theorem c_word {n : Nat} (hn : n < b64) : ∀ w v1, pEq (.int .u64 (n : Int)) w v1 → Calls Tryz.prog 71 #[v1] w (Ret (pNum n) w) := fun w v1 h1 => by
  have h1 : v1 = .int .u64 (n : Int) := h1
  rw [h1]
  exact (word_num w n hn).mono fun _ _ => ret_num
theorem num_row (n : Nat) : ∀ w v, pNum n w v → pRow 1 false (digs b64 n).length (fun i => pEq (.int .u64 (((digs b64 n).getD i 0 : Nat) : Int))) w v := by
  rintro w v ⟨A, c, rfl, h1, h2, h3⟩
  refine ⟨A, c, rfl, h1, h2, fun hpos => ?_⟩
  obtain ⟨b, o, e, hc⟩ := h3 (by rintro h; rw [h] at hpos; exact absurd hpos (Nat.lt_irrefl 0))
  refine ⟨b, o, e, fun i hi => ⟨[_], rfl, fun j u hj => ?_, rfl⟩⟩
  have hj0 : j = 0 := by
    rcases Nat.eq_zero_or_pos j with h | h
    · exact h
    · rw [List.getElem?_eq_none (by simp; omega)] at hj; cases hj
  subst hj0
  simp at hj
  subst hj
  rw [Nat.mul_one, Nat.add_zero]
  exact hc i hi
section
variable {P : Program} {ops : Array Oper} {ms : List Nat} {c : Cfg} {V : List Vr} {A : List Al} {G : List Ent} {i : Nat} {L : Nat → Bool} {β : Nat → Nat → Prop} {a : Act} {w : World} {o : Oper}
variable {d : Nat} {x y z : Operand} {ty : TypeId} {pos : String} {aft : Array Edge}
theorem op_loadEq {T : TypeId} {v : Value} (h : Has ms G i x (pPtr 1 false (pEq v))) (ht : Ty P T false 1) (hp : Post G i (pEq v)) : OpOk P ops ms c V A G i ⟨some d, .load T x, ty, pos, aft, none⟩ :=
  op_val1 rfl rfl rfl rfl h hp fun ρ w h => by
    obtain ⟨b, o, cs, e, hl, hc, hv⟩ := h
    refine ⟨wrapV false cs, ?_, fun _ _ => hv⟩
    show (do pure (Next.value (← Instr.loadAt T (ρ x)))).run P w = _
    rw [e, Sem.run_bind, run_load_at ht hc hl]
    rfl
end
end Wx

namespace Wx
set_option maxRecDepth 100000
open Go Go.RowKit Go.Proofs
set_option linter.unusedVariables false

theorem cmpI_cases (m n : Nat) : (m < n ∧ cmpI m n = -1) ∨ (m = n ∧ cmpI m n = 0) ∨ (n < m ∧ cmpI m n = 1) := by
  unfold cmpI
  rcases Nat.lt_trichotomy m n with h | h | h
  · exact .inl ⟨h, if_pos h⟩
  · exact .inr (.inl ⟨h, by rw [if_neg (by omega), if_neg (by omega)]⟩)
  · exact .inr (.inr ⟨h, by rw [if_neg (by omega), if_pos h]⟩)
theorem cmpI_at {m n : Nat} (h : cmpI m n ≥ (0 : Int)) : n ≤ m := by
  rcases cmpI_cases m n with ⟨h1, e⟩ | ⟨h1, e⟩ | ⟨h1, e⟩ <;> omega
theorem cmpI_below {m n : Nat} (h : ¬ cmpI m n ≥ (0 : Int)) : m ≤ n := by
  rcases cmpI_cases m n with ⟨h1, e⟩ | ⟨h1, e⟩ | ⟨h1, e⟩ <;> omega
theorem pRat_eqS {x y : Rat} (h : x = y) : ∀ w v, pRat x w v → pRat y w v := fun _ _ k => h ▸ k
theorem c_timesS {m n j k : Nat} (hj : Bd j m) (hk : Bd k n) (h1 : j ≤ 1000000000) (h2 : k ≤ 1000000000) : ∀ w v1 v2, pNum m w v1 → pNum n w v2 → Calls Tryz.prog 61 #[v1, v2] w (Ret (pNum (m * n)) w) := fun w v1 v2 a b => times_num w v1 v2 m n a b hj hk h1 h2
theorem c_minusS {m n j : Nat} (hnm : n ≤ m) (hj : Bd j m) (h1 : j ≤ 1000000000) : ∀ w v1 v2, pNum m w v1 → pNum n w v2 → Calls Tryz.prog 122 #[v1, v2] w (Ret (pNum (m - n)) w) := fun w v1 v2 a b => minus_num w v1 v2 m n a b hnm hj h1
theorem c_reducedS {neg : Bool} {n d j : Nat} (hj : Bd j n) (hk : Bd j d) (hd : 0 < d) (hj1 : j ≤ 100000000) : ∀ w v1 v2 v3, pB neg w v1 → pNum n w v2 → pNum d w v3 → Calls Tryz.prog 60 #[v1, v2, v3] w (Ret (pRat (redR neg n d)) w) := fun w v1 v2 v3 h1 h2 h3 => by
  have h1 : v1 = .bool neg := h1
  rw [h1]
  exact reduced_num w neg v2 v3 n d h2 h3 hd hj hk hj1
theorem c_addS {x y : Rat} {j k : Nat} (hx : BdR j x) (hy : BdR k y) (hjk : j + k + j + k + 1 ≤ 100000000) : ∀ (M : Nat → Nat → Prop) (w : World) (v0 v1 : Value), Mid M w → Box M (fun w => (pRat x) w v0) w → Box M (fun w => (pRat y) w v1) w → Calls Tryz.prog 82 #[v0, v1] w (RetB M (pRat (x + y)) w) := by
  intro M w0 v0 v1 hM hv0 hv1
  have b1 := (hx.1.mul hy.2).add (hy.1.mul hx.2)
  have b2 : Bd (j + k + (k + j) + 1) (x.num.natAbs * y.den - y.num.natAbs * x.den) := ((hx.1.mul hy.2).mono (by omega)).le (Nat.sub_le _ _)
  have b3 : Bd (j + k + (k + j) + 1) (y.num.natAbs * x.den - x.num.natAbs * y.den) := ((hy.1.mul hx.2).mono (by omega)).le (Nat.sub_le _ _)
  have b4 : Bd (j + k + (k + j) + 1) (x.den * y.den) := (hx.2.mul hy.2).mono (by omega)
  have hd : 0 < x.den * y.den := Nat.mul_pos x.den_pos y.den_pos
  refine calls_start (N := 58) Tryz.func82 rfl rfl rfl hM (show EntsA M w0 [v0, v1] [⟨none, none, 0, pRat x⟩, ⟨none, none, 1, pRat y⟩] from ⟨⟨rfl, _, rfl, hv0⟩, ⟨rfl, _, rfl, hv1⟩, trivial⟩) fun a hI => ?_
  refine seq_text (V1 := [⟨2, 2, some 0, none, .ptr, 29, 3, true, pv (pS (ratFs x)), []⟩, ⟨3, 3, some 1, none, .ptr, 29, 3, true, pv (pS (ratFs y)), []⟩, ⟨4, 4, some 2, none, .ptr, 29, 3, true, pv (pRat 0), []⟩]) (A1 := []) (G1 := [⟨none, none, 0, pRat x⟩, ⟨none, none, 1, pRat y⟩]) (V2 := [⟨2, 2, none, none, .ptr, 29, 3, true, pv (pS (ratFs x)), []⟩, ⟨3, 3, none, none, .ptr, 29, 3, true, pv (pS (ratFs y)), []⟩, ⟨4, 4, none, none, .ptr, 29, 3, true, pv (pRat 0), []⟩]) (G2 := []) hI rfl rfl rfl [0, 1, 3] (by kernel_rfl) (by kernel_rfl) ?_ [0, 1, 2] [] rfl rfl fun a w hI => ?_
  · exact ⟨op_box 0 rfl rfl (by kernel_rfl) (by kernel_rfl) rfl rfl rfl (.imp (.tmp 0 rfl rfl) (rat_S _)) (fits_ratS _) rfl, op_box 1 rfl rfl (by kernel_rfl) (by kernel_rfl) rfl rfl rfl (.imp (.tmp 1 rfl rfl) (rat_S _)) (fits_ratS _) rfl, op_alloc 2 rfl rfl (by kernel_rfl) (by kernel_rfl) rfl rfl rfl zv_Ratio rfl rfl (by simp [NoU]) rfl (fun w => isRat_zero w), trivial⟩
  refine seq_drawn (V1 := [⟨2, 2, none, none, .ptr, 29, 3, true, pv (pS (ratFs x)), []⟩, ⟨3, 3, none, none, .ptr, 29, 3, true, pv (pS (ratFs y)), []⟩, ⟨4, 4, none, none, .ptr, 29, 3, true, pv (pRat 0), []⟩]) (A1 := [⟨some 0, 9, 2, 2, True⟩, ⟨some 3, 12, 3, 2, True⟩]) (G1 := [⟨some 1, none, 10, pNum (denOf x.den)⟩, ⟨some 2, none, 11, pNum x.den⟩, ⟨some 4, none, 13, pNum (denOf y.den)⟩, ⟨some 5, none, 14, pNum y.den⟩, ⟨some 6, none, 5, pNum x.den⟩, ⟨some 7, none, 6, pNum y.den⟩]) (V2 := [⟨2, 2, none, none, .ptr, 29, 3, true, pv (pS (ratFs x)), []⟩, ⟨3, 3, none, none, .ptr, 29, 3, true, pv (pS (ratFs y)), []⟩, ⟨4, 4, none, none, .ptr, 29, 3, true, pv (pRat 0), []⟩]) (G2 := [⟨none, none, 5, pNum x.den⟩, ⟨none, none, 6, pNum y.den⟩]) hI rfl rfl rfl [0, 1, 3, 0, 8, 31, 63, 127] (by kernel_rfl) (by kernel_rfl) (by kernel_rfl) (by kernel_rfl) ?_ [0, 1, 2] [4, 5] rfl rfl fun a w hI => ?_
  · exact ⟨op_field 0 rfl rfl rfl 0 rfl rfl rfl rfl (.inl ⟨rfl, rfl⟩) rfl (by kernel_rfl) (fun b w => fa_Ratio_2 b 0 w), op_loadAl 0 rfl 0 rfl rfl rfl rfl rfl trivial rfl rfl (by kernel_rfl) ty_limbs rfl rfl (fd_get (fs := (ratFs x)) 2 (f := ⟨false, 1, pNum (denOf x.den)⟩) rfl (off := 2) rfl) (.here 0 rfl), op_call1 (fun _ _ => by kernel_rfl) (numlike_num _) (.tmp 0 rfl rfl) (.here 1 rfl) (c_under (Rat.den_pos _)), op_field 1 rfl rfl rfl 1 rfl rfl rfl rfl (.inl ⟨rfl, rfl⟩) rfl (by kernel_rfl) (fun b w => fa_Ratio_2 b 0 w), op_loadAl 1 rfl 1 rfl rfl rfl rfl rfl trivial rfl rfl (by kernel_rfl) ty_limbs rfl rfl (fd_get (fs := (ratFs y)) 2 (f := ⟨false, 1, pNum (denOf y.den)⟩) rfl (off := 2) rfl) (.here 2 rfl), op_call1 (fun _ _ => by kernel_rfl) (numlike_num _) (.tmp 2 rfl rfl) (.here 3 rfl) (c_under (Rat.den_pos _)), op_assign (.tmp 1 rfl rfl) (.here 4 rfl), op_assign (.tmp 3 rfl rfl) (.here 5 rfl), trivial⟩
  refine seq_drawn (V1 := [⟨2, 2, none, none, .ptr, 29, 3, true, pv (pS (ratFs x)), []⟩, ⟨3, 3, none, none, .ptr, 29, 3, true, pv (pS (ratFs y)), []⟩, ⟨4, 4, none, none, .ptr, 29, 3, true, pv (pRat 0), []⟩]) (A1 := [⟨some 0, 15, 2, 1, True⟩, ⟨some 4, 19, 3, 1, True⟩]) (G1 := [⟨none, none, 5, pNum x.den⟩, ⟨none, none, 6, pNum y.den⟩, ⟨some 1, none, 16, pNum x.num.natAbs⟩, ⟨some 2, none, 17, pNum y.den⟩, ⟨some 3, none, 18, pNum (x.num.natAbs * y.den)⟩, ⟨some 5, none, 20, pNum y.num.natAbs⟩, ⟨some 6, none, 21, pNum x.den⟩, ⟨some 7, none, 22, pNum (y.num.natAbs * x.den)⟩, ⟨some 8, none, 7, pNum (x.num.natAbs * y.den)⟩, ⟨some 9, none, 8, pNum (y.num.natAbs * x.den)⟩]) (V2 := [⟨2, 2, none, none, .ptr, 29, 3, true, pv (pS (ratFs x)), []⟩, ⟨3, 3, none, none, .ptr, 29, 3, true, pv (pS (ratFs y)), []⟩, ⟨4, 4, none, none, .ptr, 29, 3, true, pv (pRat 0), []⟩]) (G2 := [⟨none, none, 5, pNum x.den⟩, ⟨none, none, 6, pNum y.den⟩, ⟨none, none, 7, pNum (x.num.natAbs * y.den)⟩, ⟨none, none, 8, pNum (y.num.natAbs * x.den)⟩]) hI rfl rfl rfl [0, 1, 0, 7, 0, 16, 0, 127, 255, 511] (by kernel_rfl) (by kernel_rfl) (by kernel_rfl) (by kernel_rfl) ?_ [0, 1, 2] [0, 1, 8, 9] rfl rfl fun a w hI => ?_
  · exact ⟨op_field 0 rfl rfl rfl 0 rfl rfl rfl rfl (.inl ⟨rfl, rfl⟩) rfl (by kernel_rfl) (fun b w => fa_Ratio_1 b 0 w), op_loadAl 0 rfl 0 rfl rfl rfl rfl rfl trivial rfl rfl (by kernel_rfl) ty_limbs rfl rfl (fd_get (fs := (ratFs x)) 1 (f := ⟨false, 1, pNum x.num.natAbs⟩) rfl (off := 1) rfl) (.here 2 rfl), op_move (.tmp 1 rfl rfl) (.here 3 rfl), op_call2 (fun _ _ => by kernel_rfl) (numlike_num _) (.tmp 2 rfl rfl) (.tmp 3 rfl rfl) (.here 4 rfl) (c_timesS (hx).1 hy.2 (by omega) (by omega)), op_field 1 rfl rfl rfl 1 rfl rfl rfl rfl (.inl ⟨rfl, rfl⟩) rfl (by kernel_rfl) (fun b w => fa_Ratio_1 b 0 w), op_loadAl 1 rfl 1 rfl rfl rfl rfl rfl trivial rfl rfl (by kernel_rfl) ty_limbs rfl rfl (fd_get (fs := (ratFs y)) 1 (f := ⟨false, 1, pNum y.num.natAbs⟩) rfl (off := 1) rfl) (.here 5 rfl), op_move (.tmp 0 rfl rfl) (.here 6 rfl), op_call2 (fun _ _ => by kernel_rfl) (numlike_num _) (.tmp 5 rfl rfl) (.tmp 6 rfl rfl) (.here 7 rfl) (c_timesS (hy).1 hx.2 (by omega) (by omega)), op_assign (.tmp 4 rfl rfl) (.here 8 rfl), op_assign (.tmp 7 rfl rfl) (.here 9 rfl), trivial⟩
  refine seq_text (V1 := [⟨2, 2, none, none, .ptr, 29, 3, true, pv (pS (ratFs x)), []⟩, ⟨3, 3, none, none, .ptr, 29, 3, true, pv (pS (ratFs y)), []⟩, ⟨4, 4, none, none, .ptr, 29, 3, true, pv (pRat 0), []⟩]) (A1 := []) (G1 := [⟨none, some 3, 5, pNum x.den⟩, ⟨none, none, 6, pNum y.den⟩, ⟨none, none, 7, pNum (x.num.natAbs * y.den)⟩, ⟨none, none, 8, pNum (y.num.natAbs * x.den)⟩, ⟨some 0, none, 23, pNum x.den⟩, ⟨some 1, none, 24, pNum y.den⟩, ⟨some 2, none, 25, pNum (x.den * y.den)⟩, ⟨some 3, none, 5, pNum (x.den * y.den)⟩]) (V2 := [⟨2, 2, none, none, .ptr, 29, 3, true, pv (pS (ratFs x)), []⟩, ⟨3, 3, none, none, .ptr, 29, 3, true, pv (pS (ratFs y)), []⟩, ⟨4, 4, none, none, .ptr, 29, 3, true, pv (pRat 0), []⟩]) (G2 := [⟨none, none, 7, pNum (x.num.natAbs * y.den)⟩, ⟨none, none, 8, pNum (y.num.natAbs * x.den)⟩, ⟨none, none, 5, pNum (x.den * y.den)⟩]) hI rfl rfl rfl [0, 1, 3, 7] (by kernel_rfl) (by kernel_rfl) ?_ [0, 1, 2] [1, 2, 6] rfl rfl fun a w hI => ?_
  · exact ⟨op_move (.tmp 0 rfl rfl) (.here 4 rfl), op_move (.tmp 1 rfl rfl) (.here 5 rfl), op_call2 (fun _ _ => by kernel_rfl) (numlike_num _) (.tmp 4 rfl rfl) (.tmp 5 rfl rfl) (.here 6 rfl) (c_timesS hx.2 hy.2 (by omega) (by omega)), op_assign (.tmp 6 rfl rfl) (.here 7 rfl), trivial⟩
  refine wp_seq ?_
  refine wp_block ?_
  refine seq_text (V1 := [⟨2, 2, none, none, .ptr, 29, 3, true, pv (pS (ratFs x)), []⟩, ⟨3, 3, none, none, .ptr, 29, 3, true, pv (pS (ratFs y)), []⟩, ⟨4, 4, none, none, .ptr, 29, 3, true, pv (pRat 0), []⟩]) (A1 := [⟨some 0, 27, 2, 0, True⟩, ⟨some 2, 29, 3, 0, True⟩]) (G1 := [⟨none, none, 7, pNum (x.num.natAbs * y.den)⟩, ⟨none, none, 8, pNum (y.num.natAbs * x.den)⟩, ⟨none, none, 5, pNum (x.den * y.den)⟩, ⟨some 1, none, 28, pB (decide (x.num < 0))⟩, ⟨some 3, none, 30, pB (decide (y.num < 0))⟩, ⟨some 4, none, 31, pB ((decide (x.num < 0)) == (decide (y.num < 0)))⟩, ⟨some 5, none, 26, pB ((decide (x.num < 0)) == (decide (y.num < 0)))⟩]) (V2 := [⟨2, 2, none, none, .ptr, 29, 3, true, pv (pS (ratFs x)), []⟩, ⟨3, 3, none, none, .ptr, 29, 3, true, pv (pS (ratFs y)), []⟩, ⟨4, 4, none, none, .ptr, 29, 3, true, pv (pRat 0), []⟩]) (G2 := [⟨none, none, 7, pNum (x.num.natAbs * y.den)⟩, ⟨none, none, 8, pNum (y.num.natAbs * x.den)⟩, ⟨none, none, 5, pNum (x.den * y.den)⟩, ⟨none, none, 26, pB ((decide (x.num < 0)) == (decide (y.num < 0)))⟩]) hI rfl rfl rfl [0, 1, 3, 7, 15, 31] (by kernel_rfl) (by kernel_rfl) ?_ [0, 1, 2] [0, 1, 2, 6] rfl rfl fun a w hI => ?_
  · exact ⟨op_field 0 rfl rfl rfl 0 rfl rfl rfl rfl (.inl ⟨rfl, rfl⟩) rfl (by kernel_rfl) (fun b w => fa_Ratio_0 b 0 w), op_loadAl 0 rfl 0 rfl rfl rfl rfl rfl trivial rfl rfl (by kernel_rfl) ty_bool rfl rfl (fd_get (fs := (ratFs x)) 0 (f := ⟨false, 1, pB (decide (x.num < 0))⟩) rfl (off := 0) rfl) (.here 3 rfl), op_field 1 rfl rfl rfl 1 rfl rfl rfl rfl (.inl ⟨rfl, rfl⟩) rfl (by kernel_rfl) (fun b w => fa_Ratio_0 b 0 w), op_loadAl 1 rfl 1 rfl rfl rfl rfl rfl trivial rfl rfl (by kernel_rfl) ty_bool rfl rfl (fd_get (fs := (ratFs y)) 0 (f := ⟨false, 1, pB (decide (y.num < 0))⟩) rfl (off := 0) rfl) (.here 4 rfl), op_bin_bool (v := .bool ((decide (x.num < 0)) == (decide (y.num < 0)))) (.tmp 3 rfl rfl) (.tmp 4 rfl rfl) (fun _ => by kernel_rfl) (.here 5 rfl), op_assign (.tmp 5 rfl rfl) (.here 6 rfl), trivial⟩
  refine cond_if hI 3 rfl (fun ht => ?_) (fun ht => ?_)
  · have t1 := ht
    refine seq_drawn (V1 := [⟨2, 2, none, none, .ptr, 29, 3, true, pv (pS (ratFs x)), []⟩, ⟨3, 3, none, none, .ptr, 29, 3, true, pv (pS (ratFs y)), []⟩, ⟨4, 4, none, none, .ptr, 29, 3, true, pv (pRat 0), [(7, pv (pRat (redR (decide (x.num < 0)) ((x.num.natAbs * y.den) + (y.num.natAbs * x.den)) (x.den * y.den))))]⟩]) (A1 := [⟨some 0, 32, 2, 0, True⟩]) (G1 := [⟨none, none, 7, pNum (x.num.natAbs * y.den)⟩, ⟨none, none, 8, pNum (y.num.natAbs * x.den)⟩, ⟨none, none, 5, pNum (x.den * y.den)⟩, ⟨none, none, 26, pB ((decide (x.num < 0)) == (decide (y.num < 0)))⟩, ⟨some 1, none, 33, pB (decide (x.num < 0))⟩, ⟨some 2, none, 34, pNum (x.num.natAbs * y.den)⟩, ⟨some 3, none, 35, pNum (y.num.natAbs * x.den)⟩, ⟨some 4, none, 36, pNum ((x.num.natAbs * y.den) + (y.num.natAbs * x.den))⟩, ⟨some 5, none, 37, pNum (x.den * y.den)⟩, ⟨some 6, none, 38, pRat (redR (decide (x.num < 0)) ((x.num.natAbs * y.den) + (y.num.natAbs * x.den)) (x.den * y.den))⟩]) (V2 := [⟨2, 2, none, none, .ptr, 29, 3, true, pv (pS (ratFs x)), []⟩, ⟨3, 3, none, none, .ptr, 29, 3, true, pv (pS (ratFs y)), []⟩, ⟨4, 4, none, none, .ptr, 29, 3, true, pv (pRat (redR (decide (x.num < 0)) ((x.num.natAbs * y.den) + (y.num.natAbs * x.den)) (x.den * y.den))), []⟩]) (G2 := [⟨none, none, 7, pNum (x.num.natAbs * y.den)⟩, ⟨none, none, 8, pNum (y.num.natAbs * x.den)⟩, ⟨none, none, 5, pNum (x.den * y.den)⟩]) hI rfl rfl rfl [0, 1, 0, 0, 12, 0, 63, 127] (by kernel_rfl) (by kernel_rfl) (by kernel_rfl) (by kernel_rfl) ?_ [0, 1, 2] [0, 1, 2] rfl rfl fun a w hI => ?_
    · exact ⟨op_field 0 rfl rfl rfl 0 rfl rfl rfl rfl (.inl ⟨rfl, rfl⟩) rfl (by kernel_rfl) (fun b w => fa_Ratio_0 b 0 w), op_loadAl 0 rfl 0 rfl rfl rfl rfl rfl trivial rfl rfl (by kernel_rfl) ty_bool rfl rfl (fd_get (fs := (ratFs x)) 0 (f := ⟨false, 1, pB (decide (x.num < 0))⟩) rfl (off := 0) rfl) (.here 4 rfl), op_move (.tmp 0 rfl rfl) (.here 5 rfl), op_move (.tmp 1 rfl rfl) (.here 6 rfl), op_call2 (fun _ _ => by kernel_rfl) (numlike_num _) (.tmp 5 rfl rfl) (.tmp 6 rfl rfl) (.here 7 rfl) (c_plus (((hx).1).mul hy.2) (((hy).1).mul hx.2) (by omega) (by omega)), op_move (.tmp 2 rfl rfl) (.here 8 rfl), op_call3 (fun _ _ => by kernel_rfl) (numlike_rat _) (.tmp 4 rfl rfl) (.tmp 7 rfl rfl) (.tmp 8 rfl rfl) (.here 9 rfl) (c_reducedS b1 b4 hd (by omega)), op_store 2 rfl rfl rfl rfl 0 rfl (by kernel_rfl) (by kernel_rfl) ty_Ratio (.tmp 9 rfl rfl) (fits_rat _), trivial⟩
    refine wp_ret ?_
    refine block_ret ?_
    refine then_ret ?_
    exact fin1 hI rfl (.imp (.cell 2 rfl rfl rfl rfl ty_Ratio rfl) (pRat_eqS (add_same x y (beq_iff_eq.1 t1)).symm))
  · have t2 := ht
    refine seq_text (V1 := [⟨2, 2, none, none, .ptr, 29, 3, true, pv (pS (ratFs x)), []⟩, ⟨3, 3, none, none, .ptr, 29, 3, true, pv (pS (ratFs y)), []⟩, ⟨4, 4, none, none, .ptr, 29, 3, true, pv (pRat 0), []⟩]) (A1 := []) (G1 := [⟨none, none, 7, pNum (x.num.natAbs * y.den)⟩, ⟨none, none, 8, pNum (y.num.natAbs * x.den)⟩, ⟨none, none, 5, pNum (x.den * y.den)⟩, ⟨none, none, 26, pB ((decide (x.num < 0)) == (decide (y.num < 0)))⟩, ⟨some 0, none, 40, pNum (x.num.natAbs * y.den)⟩, ⟨some 1, none, 41, pNum (y.num.natAbs * x.den)⟩, ⟨some 2, none, 42, pI (cmpI (x.num.natAbs * y.den) (y.num.natAbs * x.den))⟩, ⟨some 3, none, 43, pB (decide ((cmpI (x.num.natAbs * y.den) (y.num.natAbs * x.den)) ≥ (0 : Int)))⟩, ⟨some 4, none, 39, pB (decide ((cmpI (x.num.natAbs * y.den) (y.num.natAbs * x.den)) ≥ (0 : Int)))⟩]) (V2 := [⟨2, 2, none, none, .ptr, 29, 3, true, pv (pS (ratFs x)), []⟩, ⟨3, 3, none, none, .ptr, 29, 3, true, pv (pS (ratFs y)), []⟩, ⟨4, 4, none, none, .ptr, 29, 3, true, pv (pRat 0), []⟩]) (G2 := [⟨none, none, 7, pNum (x.num.natAbs * y.den)⟩, ⟨none, none, 8, pNum (y.num.natAbs * x.den)⟩, ⟨none, none, 5, pNum (x.den * y.den)⟩, ⟨none, none, 39, pB (decide ((cmpI (x.num.natAbs * y.den) (y.num.natAbs * x.den)) ≥ (0 : Int)))⟩]) hI rfl rfl rfl [0, 1, 3, 7, 15] (by kernel_rfl) (by kernel_rfl) ?_ [0, 1, 2] [0, 1, 2, 8] rfl rfl fun a w hI => ?_
    · exact ⟨op_move (.tmp 0 rfl rfl) (.here 4 rfl), op_move (.tmp 1 rfl rfl) (.here 5 rfl), op_call2 (fun _ _ => by kernel_rfl) (numlike_eq _) (.tmp 4 rfl rfl) (.tmp 5 rfl rfl) (.here 6 rfl) (c_lcmp _ _), op_bin (v := .bool (decide ((cmpI (x.num.natAbs * y.den) (y.num.natAbs * x.den)) ≥ (0 : Int)))) (.tmp 6 rfl rfl) (.const _) (fun _ => rfl) (.here 7 rfl), op_assign (.tmp 7 rfl rfl) (.here 8 rfl), trivial⟩
    refine cond_if hI 3 rfl (fun ht => ?_) (fun ht => ?_)
    · have t3 := of_decide_eq_true ht
      refine seq_drawn (V1 := [⟨2, 2, none, none, .ptr, 29, 3, true, pv (pS (ratFs x)), []⟩, ⟨3, 3, none, none, .ptr, 29, 3, true, pv (pS (ratFs y)), []⟩, ⟨4, 4, none, none, .ptr, 29, 3, true, pv (pRat 0), [(7, pv (pRat (redR (decide (x.num < 0)) ((x.num.natAbs * y.den) - (y.num.natAbs * x.den)) (x.den * y.den))))]⟩]) (A1 := [⟨some 0, 44, 2, 0, True⟩]) (G1 := [⟨none, none, 7, pNum (x.num.natAbs * y.den)⟩, ⟨none, none, 8, pNum (y.num.natAbs * x.den)⟩, ⟨none, none, 5, pNum (x.den * y.den)⟩, ⟨none, none, 39, pB (decide ((cmpI (x.num.natAbs * y.den) (y.num.natAbs * x.den)) ≥ (0 : Int)))⟩, ⟨some 1, none, 45, pB (decide (x.num < 0))⟩, ⟨some 2, none, 46, pNum (x.num.natAbs * y.den)⟩, ⟨some 3, none, 47, pNum (y.num.natAbs * x.den)⟩, ⟨some 4, none, 48, pNum ((x.num.natAbs * y.den) - (y.num.natAbs * x.den))⟩, ⟨some 5, none, 49, pNum (x.den * y.den)⟩, ⟨some 6, none, 50, pRat (redR (decide (x.num < 0)) ((x.num.natAbs * y.den) - (y.num.natAbs * x.den)) (x.den * y.den))⟩]) (V2 := [⟨2, 2, none, none, .ptr, 29, 3, true, pv (pS (ratFs x)), []⟩, ⟨3, 3, none, none, .ptr, 29, 3, true, pv (pS (ratFs y)), []⟩, ⟨4, 4, none, none, .ptr, 29, 3, true, pv (pRat (redR (decide (x.num < 0)) ((x.num.natAbs * y.den) - (y.num.natAbs * x.den)) (x.den * y.den))), []⟩]) (G2 := [⟨none, none, 7, pNum (x.num.natAbs * y.den)⟩, ⟨none, none, 8, pNum (y.num.natAbs * x.den)⟩, ⟨none, none, 5, pNum (x.den * y.den)⟩]) hI rfl rfl rfl [0, 1, 0, 0, 12, 0, 63, 127] (by kernel_rfl) (by kernel_rfl) (by kernel_rfl) (by kernel_rfl) ?_ [0, 1, 2] [0, 1, 2] rfl rfl fun a w hI => ?_
      · exact ⟨op_field 0 rfl rfl rfl 0 rfl rfl rfl rfl (.inl ⟨rfl, rfl⟩) rfl (by kernel_rfl) (fun b w => fa_Ratio_0 b 0 w), op_loadAl 0 rfl 0 rfl rfl rfl rfl rfl trivial rfl rfl (by kernel_rfl) ty_bool rfl rfl (fd_get (fs := (ratFs x)) 0 (f := ⟨false, 1, pB (decide (x.num < 0))⟩) rfl (off := 0) rfl) (.here 4 rfl), op_move (.tmp 0 rfl rfl) (.here 5 rfl), op_move (.tmp 1 rfl rfl) (.here 6 rfl), op_call2 (fun _ _ => by kernel_rfl) (numlike_num _) (.tmp 5 rfl rfl) (.tmp 6 rfl rfl) (.here 7 rfl) (c_minusS (cmpI_at t3) (((hx).1).mul hy.2) (by omega)), op_move (.tmp 2 rfl rfl) (.here 8 rfl), op_call3 (fun _ _ => by kernel_rfl) (numlike_rat _) (.tmp 4 rfl rfl) (.tmp 7 rfl rfl) (.tmp 8 rfl rfl) (.here 9 rfl) (c_reducedS b2 b4 hd (by omega)), op_store 2 rfl rfl rfl rfl 0 rfl (by kernel_rfl) (by kernel_rfl) ty_Ratio (.tmp 9 rfl rfl) (fits_rat _), trivial⟩
      refine wp_ret ?_
      refine block_ret ?_
      refine then_ret ?_
      exact fin1 hI rfl (.imp (.cell 2 rfl rfl rfl rfl ty_Ratio rfl) (pRat_eqS (add_ge x y (beq_eq_false_iff_ne.1 t2) (cmpI_at t3)).symm))
    · have t4 := of_decide_eq_false ht
      refine wp_skip ?_
      refine block_of ?_
      refine then_of ?_
      refine seq_drawn (V1 := [⟨2, 2, none, none, .ptr, 29, 3, true, pv (pS (ratFs x)), []⟩, ⟨3, 3, none, none, .ptr, 29, 3, true, pv (pS (ratFs y)), []⟩, ⟨4, 4, none, none, .ptr, 29, 3, true, pv (pRat 0), [(7, pv (pRat (redR (decide (y.num < 0)) ((y.num.natAbs * x.den) - (x.num.natAbs * y.den)) (x.den * y.den))))]⟩]) (A1 := [⟨some 0, 51, 3, 0, True⟩]) (G1 := [⟨none, none, 7, pNum (x.num.natAbs * y.den)⟩, ⟨none, none, 8, pNum (y.num.natAbs * x.den)⟩, ⟨none, none, 5, pNum (x.den * y.den)⟩, ⟨none, none, 39, pB (decide ((cmpI (x.num.natAbs * y.den) (y.num.natAbs * x.den)) ≥ (0 : Int)))⟩, ⟨some 1, none, 52, pB (decide (y.num < 0))⟩, ⟨some 2, none, 53, pNum (y.num.natAbs * x.den)⟩, ⟨some 3, none, 54, pNum (x.num.natAbs * y.den)⟩, ⟨some 4, none, 55, pNum ((y.num.natAbs * x.den) - (x.num.natAbs * y.den))⟩, ⟨some 5, none, 56, pNum (x.den * y.den)⟩, ⟨some 6, none, 57, pRat (redR (decide (y.num < 0)) ((y.num.natAbs * x.den) - (x.num.natAbs * y.den)) (x.den * y.den))⟩]) (V2 := [⟨2, 2, none, none, .ptr, 29, 3, true, pv (pS (ratFs x)), []⟩, ⟨3, 3, none, none, .ptr, 29, 3, true, pv (pS (ratFs y)), []⟩, ⟨4, 4, none, none, .ptr, 29, 3, true, pv (pRat (redR (decide (y.num < 0)) ((y.num.natAbs * x.den) - (x.num.natAbs * y.den)) (x.den * y.den))), []⟩]) (G2 := []) hI rfl rfl rfl [0, 1, 0, 0, 12, 0, 63, 127] (by kernel_rfl) (by kernel_rfl) (by kernel_rfl) (by kernel_rfl) ?_ [0, 1, 2] [] rfl rfl fun a w hI => ?_
      · exact ⟨op_field 1 rfl rfl rfl 0 rfl rfl rfl rfl (.inl ⟨rfl, rfl⟩) rfl (by kernel_rfl) (fun b w => fa_Ratio_0 b 0 w), op_loadAl 1 rfl 0 rfl rfl rfl rfl rfl trivial rfl rfl (by kernel_rfl) ty_bool rfl rfl (fd_get (fs := (ratFs y)) 0 (f := ⟨false, 1, pB (decide (y.num < 0))⟩) rfl (off := 0) rfl) (.here 4 rfl), op_move (.tmp 1 rfl rfl) (.here 5 rfl), op_move (.tmp 0 rfl rfl) (.here 6 rfl), op_call2 (fun _ _ => by kernel_rfl) (numlike_num _) (.tmp 5 rfl rfl) (.tmp 6 rfl rfl) (.here 7 rfl) (c_minusS (cmpI_below t4) (((hy).1).mul hx.2) (by omega)), op_move (.tmp 2 rfl rfl) (.here 8 rfl), op_call3 (fun _ _ => by kernel_rfl) (numlike_rat _) (.tmp 4 rfl rfl) (.tmp 7 rfl rfl) (.tmp 8 rfl rfl) (.here 9 rfl) (c_reducedS b3 b4 hd (by omega)), op_store 2 rfl rfl rfl rfl 0 rfl (by kernel_rfl) (by kernel_rfl) ty_Ratio (.tmp 9 rfl rfl) (fits_rat _), trivial⟩
      refine wp_ret ?_
      exact fin1 hI rfl (.imp (.cell 2 rfl rfl rfl rfl ty_Ratio rfl) (pRat_eqS (add_lt x y (beq_eq_false_iff_ne.1 t2) (cmpI_below t4)).symm))
theorem add_num (w : World) (vx vy : Value) (x y : Rat) (hx : IsRat w vx x) (hy : IsRat w vy y) {j k : Nat} (hj : BdR j x) (hk : BdR k y) (hjk : j + k + j + k + 1 ≤ 100000000) : Calls Tryz.prog 82 #[vx, vy] w (RetRat w (x + y)) :=
  (c_addS hj hk hjk (fun _ _ => False) w vx vy (mid_none w) (numlike_rat x _ w vx (mid_none w) hx) (numlike_rat y _ w vy (mid_none w) hy)).mono fun _ _ h => h.ret
end Wx
