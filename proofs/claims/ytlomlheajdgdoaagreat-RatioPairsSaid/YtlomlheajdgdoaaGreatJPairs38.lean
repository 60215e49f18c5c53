import Derived.Handy
import Derived.Lib.BitFns
import Derived.Test.YtlomlheajdgdoaaGreatJPairs0
import Derived.Test.YtlomlheajdgdoaaGreatJPairs1
import Derived.Test.YtlomlheajdgdoaaGreatJPairs10
import Derived.KernelRfl
import Derived.Test.YtlomlheajdgdoaaGreatProg
import Derived.Test.YtlomlheajdgdoaaGreatJPairs9
import Derived.Test.YtlomlheajdgdoaaGreatCPairsRat1
import Derived.Test.YtlomlheajdgdoaaGreatCPairsShelf
import Derived.Test.YtlomlheajdgdoaaGreatCPairsSem
import Derived.Test.YtlomlheajdgdoaaGreatCPairsSemOps
import Derived.Test.YtlomlheajdgdoaaGreatCPairsSemMem
import Derived.Test.YtlomlheajdgdoaaGreatCPairsSemCode
import Derived.Test.YtlomlheajdgdoaaGreatJPairs15
import Derived.Test.YtlomlheajdgdoaaGreatJPairs27
import Derived.Test.YtlomlheajdgdoaaGreatJPairs28
import Derived.Test.YtlomlheajdgdoaaGreatJPairs16
import Derived.Test.YtlomlheajdgdoaaGreatJPairs29
namespace Wx
open Go

theorem bitLen_nbits {x : Nat} (h : x < 2 ^ 64) : Lib.bitLen x = nbits x := by
  have key : ∀ f x, x < 2 ^ f → Lib.bitLenAux f x = nbits x := by
    intro f
    induction f with
    | zero =>
      intro x hx
      have h0 : x = 0 := by simpa using hx
      subst h0
      rfl
    | succ f ih =>
      intro x hx
      by_cases h0 : x = 0
      · subst h0; rfl
      · show (if x = 0 then 0 else 1 + Lib.bitLenAux f (x / 2)) = _
        rw [if_neg h0, ih (x / 2) (by rw [Nat.pow_succ] at hx; omega)]
        rcases Nat.eq_zero_or_pos (x / 2) with h1 | h1
        · have : x = 1 := by omega
          subst this
          rfl
        · have a1 := nbits_lt (x / 2)
          have a2 := nbits_le h1
          have a3 := nbits_pos h1
          have := nbits_unique (n := x) (k := nbits (x / 2)) (by
            obtain ⟨q, hq⟩ : ∃ q, nbits (x / 2) = q + 1 := ⟨nbits (x / 2) - 1, by omega⟩
            rw [hq, Nat.add_sub_cancel] at a2
            rw [hq, Nat.pow_succ]; omega) (by rw [Nat.pow_succ]; omega)
          omega
  exact key 64 x h
theorem nbits_digs64 {n t : Nat} (h0 : 0 < n) (ht : (digs b64 n)[(digs b64 n).length - 1]? = some t) : nbits n = 64 * ((digs b64 n).length - 1) + nbits t := by
  have hb : 2 ≤ b64 := by decide
  have key : ∀ n, 0 < n → ∀ t, (digs b64 n)[(digs b64 n).length - 1]? = some t → nbits n = 64 * ((digs b64 n).length - 1) + nbits t := by
    intro n
    induction n using Nat.strongRecOn with
    | _ n ih =>
      intro h0 t ht
      rw [digs_pos hb h0] at ht ⊢
      rcases Nat.eq_zero_or_pos (n / b64) with h1 | h1
      · rw [h1, digs_zero] at ht ⊢
        simp at ht
        have hlt : n < b64 := by
          rcases Nat.lt_or_ge n b64 with h | h
          · exact h
          · have := Nat.div_pos h (by decide); omega
        rw [Nat.mod_eq_of_lt hlt] at ht
        simp [ht]
      · have hl := (digs_length_pos hb (n := n / b64)).2 h1
        have hlt : n / b64 < n := Nat.div_lt_self h0 (by decide)
        simp only [List.length_cons, Nat.add_sub_cancel] at ht ⊢
        obtain ⟨q, hq⟩ : ∃ q, (digs b64 (n / b64)).length = q + 1 := ⟨(digs b64 (n / b64)).length - 1, by omega⟩
        rw [hq, List.getElem?_cons_succ] at ht
        have := ih (n / b64) hlt h1 t (by rw [hq, Nat.add_sub_cancel]; exact ht)
        rw [hq, Nat.add_sub_cancel] at this
        rw [hq]
        have a1 := nbits_lt (n / b64)
        have a2 := nbits_le h1
        have a3 := nbits_pos h1
        have e : nbits n = nbits (n / b64) + 64 := by
          have hd := Nat.div_add_mod n b64
          have hm := Nat.mod_lt n (show 0 < b64 by decide)
          have e64 : b64 = 2 ^ 64 := by decide
          have := nbits_unique (n := n) (k := nbits (n / b64) - 1 + 64) (by
            rw [Nat.pow_add, ← e64]
            calc 2 ^ (nbits (n / b64) - 1) * b64 ≤ n / b64 * b64 := Nat.mul_le_mul_right _ a2
              _ ≤ n := Nat.div_mul_le_self n b64) (by
            have e2 : nbits (n / b64) - 1 + 64 + 1 = nbits (n / b64) + 64 := by omega
            rw [e2, Nat.pow_add, ← e64]
            have : (n / b64 + 1) * b64 ≤ 2 ^ nbits (n / b64) * b64 := Nat.mul_le_mul_right _ a1
            rw [Nat.add_mul, Nat.one_mul, Nat.mul_comm] at this
            omega)
          omega
        omega
  exact key n h0 t ht
end Wx

namespace Wx
set_option maxRecDepth 100000
open Go Go.RowKit Go.Proofs
set_option linter.unusedVariables false

theorem dig_lt (n i : Nat) : (digs b64 n).getD i 0 < 2 ^ 64 := by
  rw [List.getD_eq_getElem?_getD]
  cases h : (digs b64 n)[i]? with
  | none => exact Nat.two_pow_pos 64
  | some x => exact digs_wf (by decide) n x (List.mem_of_getElem? h)
theorem nbits_le64 {x : Nat} (h : x < 2 ^ 64) : nbits x ≤ 64 := nbits_bd (show Bd 64 x from h)
theorem c_len64 {x : Nat} (h : x < 2 ^ 64) : ∀ w v1, pU x w v1 → Calls Tryz.prog 138 #[v1] w (Ret (pI (nbits x : Int)) w) := fun w v1 h1 => by
  have h1 : v1 = .int .u64 (x : Int) := h1
  rw [h1]
  refine (Tryz.bits_Len64 (x : Int) w (Int.natCast_nonneg x) (by have : ((x : Nat) : Int) < ((2 ^ 64 : Nat) : Int) := Int.ofNat_lt.2 h; omega)).mono ?_
  rintro e w' ⟨rfl, rfl⟩
  refine ⟨_, rfl, ?_, Below.refl _ _⟩
  show Value.int .i64 ((Lib.bitLen ((x : Int)).toNat : Nat) : Int) = .int .i64 (nbits x : Int)
  rw [Int.toNat_natCast, bitLen_nbits h]
theorem size_zero {n : Nat} (h : ((digs b64 n).length : Int) = 0) : (0 : Int) = (nbits n : Int) := by
  have h1 : (digs b64 n).length = 0 := by omega
  have h2 := (digs_nil_iff (b := b64) (by decide)).1 (List.eq_nil_of_length_eq_zero h1)
  rw [h2]; rfl
theorem size_pos {n : Nat} (h : ((digs b64 n).length : Int) ≠ 0) : (64 : Int) * (((digs b64 n).length : Int) - 1) + (nbits ((digs b64 n).getD (((digs b64 n).length : Int) - 1).toNat 0) : Int) = (nbits n : Int) := by
  have hL : 0 < (digs b64 n).length := by omega
  have e : (((digs b64 n).length : Int) - 1).toNat = (digs b64 n).length - 1 := by omega
  rw [e]
  have ht : (digs b64 n)[(digs b64 n).length - 1]? = some ((digs b64 n).getD ((digs b64 n).length - 1) 0) := by
    rw [List.getD_eq_getElem?_getD, List.getElem?_eq_getElem (by omega)]; rfl
  have := nbits_digs64 ((digs_length_pos (b := b64) (by decide)).1 hL) ht
  omega
theorem c_lsize {n j : Nat} (hj : Bd j n) (hj1 : j ≤ 1000000000) : ∀ (M : Nat → Nat → Prop) (w : World) (v0 : Value), Mid M w → Box M (fun w => (pNum n) w v0) w → Calls Tryz.prog 107 #[v0] w (RetB M (pI (nbits n : Int)) w) := by
  intro M w0 v0 hM hv0
  have hl : (digs b64 n).length ≤ 100000000 := Nat.le_trans (len64 hj) (by omega)
  have B1 : nbits ((digs b64 n).getD (((digs b64 n).length : Int) - (1 : Int)).toNat 0) ≤ 64 := nbits_le64 (dig_lt _ _)
  refine calls_start (N := 18) Tryz.func107 rfl rfl rfl hM (show EntsA M w0 [v0] [⟨none, none, 0, pNum n⟩] from ⟨⟨rfl, _, rfl, hv0⟩, trivial⟩) fun a hI => ?_
  refine seq_text (V1 := []) (A1 := []) (G1 := [⟨none, none, 0, pNum n⟩, ⟨some 0, none, 2, pI 0⟩]) (V2 := []) (G2 := [⟨none, none, 0, pNum n⟩, ⟨none, none, 2, pI 0⟩]) hI rfl rfl rfl [0] (by kernel_rfl) (by kernel_rfl) ?_ [] [0, 1] rfl rfl fun a w hI => ?_
  · exact ⟨op_assign (.const _) (.here 1 rfl), trivial⟩
  refine wp_seq ?_
  refine seq_text (V1 := []) (A1 := []) (G1 := [⟨none, none, 0, pNum n⟩, ⟨none, none, 2, pI 0⟩, ⟨some 0, none, 3, pNum n⟩, ⟨some 1, none, 4, pI ((digs b64 n).length : Int)⟩, ⟨some 2, none, 5, pB (((digs b64 n).length : Int) == (0 : Int))⟩]) (V2 := []) (G2 := [⟨none, none, 0, pNum n⟩, ⟨none, none, 2, pI 0⟩, ⟨none, none, 5, pB (((digs b64 n).length : Int) == (0 : Int))⟩]) hI rfl rfl rfl [0, 1, 3] (by kernel_rfl) (by kernel_rfl) ?_ [] [0, 1, 4] rfl rfl fun a w hI => ?_
  · exact ⟨op_move (.tmp 0 rfl rfl) (.here 2 rfl), op_len (.imp (.tmp 2 rfl rfl) (num_row _)) (sl_limbs).under (.here 3 rfl), op_bin (v := .bool ((((digs b64 n).length : Int) == (0 : Int)))) (.tmp 3 rfl rfl) (.const _) (fun _ => rfl) (.here 4 rfl), trivial⟩
  refine cond_if hI 2 rfl (fun ht => ?_) (fun ht => ?_)
  · have t1 := eq_of_beq ht
    refine seq_text (V1 := []) (A1 := []) (G1 := [⟨none, none, 0, pNum n⟩, ⟨none, some 0, 2, pI 0⟩, ⟨none, none, 5, pB (((digs b64 n).length : Int) == (0 : Int))⟩, ⟨some 0, none, 2, pI 0⟩]) (V2 := []) (G2 := [⟨none, none, 0, pNum n⟩, ⟨none, none, 2, pI 0⟩]) hI rfl rfl rfl [0] (by kernel_rfl) (by kernel_rfl) ?_ [] [0, 2] rfl rfl fun a w hI => ?_
    · exact ⟨op_assign (.const _) (.here 3 rfl), trivial⟩
    refine wp_ret ?_
    refine then_ret ?_
    exact fin1 hI rfl (.imp (.tmp 1 rfl) (pI_eq (size_zero t1)))
  · have t2 := beq_eq_false_iff_ne.1 ht
    refine wp_skip ?_
    refine then_of ?_
    refine seq_text (V1 := []) (A1 := []) (G1 := [⟨none, none, 0, pNum n⟩, ⟨none, some 12, 2, pI 0⟩, ⟨none, none, 5, pB (((digs b64 n).length : Int) == (0 : Int))⟩, ⟨some 0, none, 6, pNum n⟩, ⟨some 1, none, 7, pI ((digs b64 n).length : Int)⟩, ⟨some 2, none, 8, pI (((digs b64 n).length : Int) - (1 : Int))⟩, ⟨some 3, none, 9, pI ((64 : Int) * (((digs b64 n).length : Int) - (1 : Int)))⟩, ⟨some 4, none, 10, pNum n⟩, ⟨some 5, none, 11, pNum n⟩, ⟨some 6, none, 12, pI ((digs b64 n).length : Int)⟩, ⟨some 7, none, 13, pI (((digs b64 n).length : Int) - (1 : Int))⟩, ⟨some 8, none, 14, pPtr 1 false (pU ((digs b64 n).getD (((digs b64 n).length : Int) - (1 : Int)).toNat 0))⟩, ⟨some 9, none, 15, pU ((digs b64 n).getD (((digs b64 n).length : Int) - (1 : Int)).toNat 0)⟩, ⟨some 10, none, 16, pI (nbits ((digs b64 n).getD (((digs b64 n).length : Int) - (1 : Int)).toNat 0) : Int)⟩, ⟨some 11, none, 17, pI (((64 : Int) * (((digs b64 n).length : Int) - (1 : Int))) + (nbits ((digs b64 n).getD (((digs b64 n).length : Int) - (1 : Int)).toNat 0) : Int))⟩, ⟨some 12, none, 2, pI (((64 : Int) * (((digs b64 n).length : Int) - (1 : Int))) + (nbits ((digs b64 n).getD (((digs b64 n).length : Int) - (1 : Int)).toNat 0) : Int))⟩]) (V2 := []) (G2 := [⟨none, none, 2, pI (((64 : Int) * (((digs b64 n).length : Int) - (1 : Int))) + (nbits ((digs b64 n).getD (((digs b64 n).length : Int) - (1 : Int)).toNat 0) : Int))⟩]) hI rfl rfl rfl [0, 1, 3, 7, 15, 31, 63, 127, 255, 511, 1023, 2047, 4095] (by kernel_rfl) (by kernel_rfl) ?_ [] [14] rfl rfl fun a w hI => ?_
    · exact ⟨op_move (.tmp 0 rfl rfl) (.here 3 rfl), op_len (.imp (.tmp 3 rfl rfl) (num_row _)) (sl_limbs).under (.here 4 rfl), op_bin (v := .int .i64 (IntKind.i64.wrap (((digs b64 n).length : Int) - (1 : Int)))) (.tmp 4 rfl rfl) (.const _) (fun _ => rfl) (.at_ 5 _ _ rfl (pI_wrap (by omega))), op_bin (v := .int .i64 (IntKind.i64.wrap ((64 : Int) * (((digs b64 n).length : Int) - (1 : Int))))) (.const _) (.tmp 5 rfl rfl) (fun _ => rfl) (.at_ 6 _ _ rfl (pI_wrap (by omega))), op_move (.tmp 0 rfl rfl) (.here 7 rfl), op_move (.tmp 0 rfl rfl) (.here 8 rfl), op_len (.imp (.tmp 8 rfl rfl) (num_row _)) (sl_limbs).under (.here 9 rfl), op_bin (v := .int .i64 (IntKind.i64.wrap (((digs b64 n).length : Int) - (1 : Int)))) (.tmp 9 rfl rfl) (.const _) (fun _ => rfl) (.at_ 10 _ _ rfl (pI_wrap (by omega))), op_indexRow (.imp (.tmp 7 rfl rfl) (num_row _)) (.tmp 10 rfl rfl) sl_limbs (by omega) (by omega) (by kernel_rfl) (.here 11 rfl), op_loadEq (.tmp 11 rfl rfl) ty_uint64 (.here 12 rfl), op_call1 (fun _ _ => by kernel_rfl) (numlike_eq _) (.tmp 12 rfl rfl) (.here 13 rfl) (c_len64 (dig_lt _ _)), op_bin (v := .int .i64 (IntKind.i64.wrap (((64 : Int) * (((digs b64 n).length : Int) - (1 : Int))) + (nbits ((digs b64 n).getD (((digs b64 n).length : Int) - (1 : Int)).toNat 0) : Int)))) (.tmp 6 rfl rfl) (.tmp 13 rfl rfl) (fun _ => rfl) (.at_ 14 _ _ rfl (pI_wrap (by omega))), op_assign (.tmp 14 rfl rfl) (.here 15 rfl), trivial⟩
    refine wp_ret ?_
    exact fin1 hI rfl (.imp (.tmp 0 rfl) (pI_eq (size_pos t2)))
theorem pU_eq {m n : Nat} (h : m = n) : ∀ w v, pU m w v → pU n w v := fun _ _ k => h ▸ k
theorem bd_shift {j n : Nat} (h : Bd j n) (k : Nat) : Bd (j + k) (n * 2 ^ k) := by
  show n * 2 ^ k < 2 ^ (j + k)
  rw [Nat.pow_add]
  exact Nat.mul_lt_mul_of_pos_right h (Nat.two_pow_pos k)
theorem bd_div {j n : Nat} (h : Bd j n) (m : Nat) : Bd j (n / m) := Nat.lt_of_le_of_lt (Nat.div_le_self n m) h
theorem bd_mod {j n : Nat} (h : Bd j n) (m : Nat) : Bd j (n % m) := Nat.lt_of_le_of_lt (Nat.mod_le n m) h
theorem bd_one : Bd 1 1 := show 1 < 2 ^ 1 by decide
theorem bd_word {n : Nat} (h : n < b64) : Bd 64 n := h
theorem bit_none {n : Nat} (h : ((digs b64 n).length : Int) ≤ 0) : 0 = n % 2 := by
  have h1 : (digs b64 n).length = 0 := by omega
  rw [(digs_nil_iff (b := b64) (by decide)).1 (List.eq_nil_of_length_eq_zero h1)]
theorem bit_first {n : Nat} (h : ¬ ((digs b64 n).length : Int) ≤ 0) : (digs b64 n).getD 0 0 / 2 ^ 0 % 2 ^ 1 = n % 2 := by
  have h0 : 0 < n := (digs_length_pos (b := b64) (by decide)).1 (by omega)
  rw [digs_pos (by decide) h0]
  show n % b64 / 2 ^ 0 % 2 ^ 1 = n % 2
  have : b64 = 2 * 9223372036854775808 := by decide
  rw [Nat.pow_zero, Nat.div_one, Nat.pow_one, this, Nat.mod_mul_right_mod]
theorem c_bit0 (n : Nat) : ∀ (M : Nat → Nat → Prop) (w : World) (v0 v1 : Value), Mid M w → Box M (fun w => (pNum n) w v0) w → Box M (fun w => (pI 0) w v1) w → Calls Tryz.prog 139 #[v0, v1] w (RetB M (pU (n % 2)) w) := by
  intro M w0 v0 v1 hM hv0 hv1
  refine calls_start (N := 23) Tryz.func139 rfl rfl rfl hM (show EntsA M w0 [v0, v1] [⟨none, none, 0, pNum n⟩, ⟨none, none, 1, pI 0⟩] from ⟨⟨rfl, _, rfl, hv0⟩, ⟨rfl, _, rfl, hv1⟩, trivial⟩) fun a hI => ?_
  refine seq_text (V1 := []) (A1 := []) (G1 := [⟨none, none, 0, pNum n⟩, ⟨none, none, 1, pI 0⟩, ⟨some 0, none, 4, pEq (.int .u64 0)⟩]) (V2 := []) (G2 := [⟨none, none, 0, pNum n⟩, ⟨none, none, 1, pI 0⟩, ⟨none, none, 4, pEq (.int .u64 0)⟩]) hI rfl rfl rfl [0] (by kernel_rfl) (by kernel_rfl) ?_ [] [0, 1, 2] rfl rfl fun a w hI => ?_
  · exact ⟨op_assign (.const _) (.here 2 rfl), trivial⟩
  refine wp_seq ?_
  refine seq_text (V1 := []) (A1 := []) (G1 := [⟨none, none, 0, pNum n⟩, ⟨none, none, 1, pI 0⟩, ⟨none, none, 4, pEq (.int .u64 0)⟩, ⟨some 0, none, 5, pI 0⟩, ⟨some 1, none, 6, pB false⟩, ⟨some 2, none, 7, pB false⟩, ⟨some 3, none, 8, pI 0⟩, ⟨some 4, none, 9, pI 0⟩, ⟨some 5, none, 10, pNum n⟩, ⟨some 6, none, 11, pI ((digs b64 n).length : Int)⟩, ⟨some 7, none, 12, pB (decide ((0 : Int) ≥ ((digs b64 n).length : Int)))⟩, ⟨some 8, none, 13, pB (decide ((0 : Int) ≥ ((digs b64 n).length : Int)))⟩]) (V2 := []) (G2 := [⟨none, none, 0, pNum n⟩, ⟨none, none, 1, pI 0⟩, ⟨none, none, 4, pEq (.int .u64 0)⟩, ⟨none, none, 13, pB (decide ((0 : Int) ≥ ((digs b64 n).length : Int)))⟩]) hI rfl rfl rfl [0, 1, 3, 7, 15, 31, 63, 127, 255] (by kernel_rfl) (by kernel_rfl) ?_ [] [0, 1, 2, 11] rfl rfl fun a w hI => ?_
  · exact ⟨op_move (.tmp 1 rfl rfl) (.here 3 rfl), op_bin (v := .bool (false)) (.tmp 3 rfl rfl) (.const _) (fun _ => rfl) (.here 4 rfl), op_move (.tmp 4 rfl rfl) (.here 5 rfl), op_yes 5 rfl rfl (op_move (.tmp 1 rfl rfl) (.here 6 rfl)), op_yes 5 rfl rfl (op_bin (.tmp 6 rfl rfl) (.const _) (fun _ => by kernel_rfl) (.here 7 rfl)), op_yes 5 rfl rfl (op_move (.tmp 0 rfl rfl) (.here 8 rfl)), op_yes 5 rfl rfl (op_len (.imp (.tmp 8 rfl rfl) (num_row _)) (sl_limbs).under (.here 9 rfl)), op_yes 5 rfl rfl (op_bin (v := .bool (decide ((0 : Int) ≥ ((digs b64 n).length : Int)))) (.tmp 7 rfl rfl) (.tmp 9 rfl rfl) (fun _ => rfl) (.here 10 rfl)), op_pick (b := false) (.tmp 5 rfl rfl) (fun h => by cases h) (fun _ => (.tmp 10 rfl rfl)) (.here 11 rfl), trivial⟩
  refine cond_if hI 3 rfl (fun ht => ?_) (fun ht => ?_)
  · have t1 := of_decide_eq_true ht
    refine seq_text (V1 := []) (A1 := []) (G1 := [⟨none, none, 0, pNum n⟩, ⟨none, none, 1, pI 0⟩, ⟨none, some 0, 4, pEq (.int .u64 0)⟩, ⟨none, none, 13, pB (decide ((0 : Int) ≥ ((digs b64 n).length : Int)))⟩, ⟨some 0, none, 4, pEq (.int .u64 0)⟩]) (V2 := []) (G2 := [⟨none, none, 0, pNum n⟩, ⟨none, none, 1, pI 0⟩, ⟨none, none, 4, pEq (.int .u64 0)⟩]) hI rfl rfl rfl [0] (by kernel_rfl) (by kernel_rfl) ?_ [] [0, 1, 3] rfl rfl fun a w hI => ?_
    · exact ⟨op_assign (.const _) (.here 4 rfl), trivial⟩
    refine wp_ret ?_
    refine then_ret ?_
    exact fin1 hI rfl (.imp (.tmp 2 rfl) (pU_eq (bit_none t1)))
  · have t2 := of_decide_eq_false ht
    refine wp_skip ?_
    refine then_of ?_
    refine seq_text (V1 := []) (A1 := []) (G1 := [⟨none, none, 0, pNum n⟩, ⟨none, none, 1, pI 0⟩, ⟨none, some 9, 4, pEq (.int .u64 0)⟩, ⟨none, none, 13, pB (decide ((0 : Int) ≥ ((digs b64 n).length : Int)))⟩, ⟨some 0, none, 14, pNum n⟩, ⟨some 1, none, 15, pI 0⟩, ⟨some 2, none, 16, pI 0⟩, ⟨some 3, none, 17, pPtr 1 false (pU ((digs b64 n).getD 0 0))⟩, ⟨some 4, none, 18, pU ((digs b64 n).getD 0 0)⟩, ⟨some 5, none, 19, pI 0⟩, ⟨some 6, none, 20, pI 0⟩, ⟨some 7, none, 21, pU (((digs b64 n).getD 0 0) / 2 ^ 0)⟩, ⟨some 8, none, 22, pU ((((digs b64 n).getD 0 0) / 2 ^ 0) % 2 ^ 1)⟩, ⟨some 9, none, 4, pU ((((digs b64 n).getD 0 0) / 2 ^ 0) % 2 ^ 1)⟩]) (V2 := []) (G2 := [⟨none, none, 4, pU ((((digs b64 n).getD 0 0) / 2 ^ 0) % 2 ^ 1)⟩]) hI rfl rfl rfl [0, 1, 3, 7, 15, 31, 63, 127, 255, 511] (by kernel_rfl) (by kernel_rfl) ?_ [] [12] rfl rfl fun a w hI => ?_
    · exact ⟨op_move (.tmp 0 rfl rfl) (.here 4 rfl), op_move (.tmp 1 rfl rfl) (.here 5 rfl), op_bin (.tmp 5 rfl rfl) (.const _) (fun _ => by kernel_rfl) (.here 6 rfl), op_indexRow (.imp (.tmp 4 rfl rfl) (num_row _)) (.tmp 6 rfl rfl) sl_limbs (by omega) (by omega) (by kernel_rfl) (.here 7 rfl), op_loadEq (.tmp 7 rfl rfl) ty_uint64 (.here 8 rfl), op_move (.tmp 1 rfl rfl) (.here 9 rfl), op_bin (.tmp 9 rfl rfl) (.const _) (fun _ => by kernel_rfl) (.here 10 rfl), op_shr (s := 0) (.tmp 8 rfl rfl) (.tmp 10 rfl rfl) (by decide) (.here 11 rfl), op_andMask (k := 1) (.tmp 11 rfl rfl) (.const _) (Nat.lt_of_le_of_lt (Nat.div_le_self _ _) (dig_lt _ _)) (by decide) (by decide) (.here 12 rfl), op_assign (.tmp 12 rfl rfl) (.here 13 rfl), trivial⟩
    refine wp_ret ?_
    exact fin1 hI rfl (.imp (.tmp 0 rfl) (pU_eq (bit_first t2)))
def rndC (N D : Nat) : Bool := (decide (cmpI (N % D * 2 ^ 1) D > (0 : Int))) || ((cmpI (N % D * 2 ^ 1) D == (0 : Int)) && (((N / D % 2 : Nat) : Int) == (1 : Int)))
def rndR (N D : Nat) : Nat := if rndC N D = true then N / D + 1 else N / D
def shN (a : Nat) (last : Int) : Nat := a * 2 ^ (maxZ (-last) (0 : Int)).toNat
def shD (d : Nat) (last : Int) : Nat := d * 2 ^ (maxZ last (0 : Int)).toNat
theorem c_rounded {u d j k : Nat} {last : Int} (hj : Bd j u) (hk : Bd k d) (hd : 0 < d) (hj1 : j ≤ 1000000) (hk1 : k ≤ 1000000) (h1 : -1000000 ≤ last) (h2 : last ≤ 1000000) : ∀ (M : Nat → Nat → Prop) (w : World) (v0 v1 v2 : Value), Mid M w → Box M (fun w => (pNum u) w v0) w → Box M (fun w => (pNum d) w v1) w → Box M (fun w => (pI last) w v2) w → Calls Tryz.prog 108 #[v0, v1, v2] w (RetB M (pNum (rndR (shN u last) (shD d last))) w) := by
  intro M w0 v0 v1 v2 hM hv0 hv1 hv2
  have B1 : last ≤ maxZ last (0 : Int) ∧ (0 : Int) ≤ maxZ last (0 : Int) ∧ (maxZ last (0 : Int) = last ∨ maxZ last (0 : Int) = (0 : Int)) := maxZ_spec _ _
  have B2 : (-last) ≤ maxZ (-last) (0 : Int) ∧ (0 : Int) ≤ maxZ (-last) (0 : Int) ∧ (maxZ (-last) (0 : Int) = (-last) ∨ maxZ (-last) (0 : Int) = (0 : Int)) := maxZ_spec _ _
  refine calls_start (N := 43) Tryz.func108 rfl rfl rfl hM (show EntsA M w0 [v0, v1, v2] [⟨none, none, 0, pNum u⟩, ⟨none, none, 1, pNum d⟩, ⟨none, none, 2, pI last⟩] from ⟨⟨rfl, _, rfl, hv0⟩, ⟨rfl, _, rfl, hv1⟩, ⟨rfl, _, rfl, hv2⟩, trivial⟩) fun a hI => ?_
  refine seq_text (V1 := []) (A1 := []) (G1 := [⟨none, none, 0, pNum u⟩, ⟨none, none, 1, pNum d⟩, ⟨none, none, 2, pI last⟩, ⟨some 0, none, 6, pEq ((Value.slice none 0 0))⟩]) (V2 := []) (G2 := [⟨none, none, 0, pNum u⟩, ⟨none, none, 1, pNum d⟩, ⟨none, none, 2, pI last⟩, ⟨none, none, 6, pEq ((Value.slice none 0 0))⟩]) hI rfl rfl rfl [0] (by kernel_rfl) (by kernel_rfl) ?_ [] [0, 1, 2, 3] rfl rfl fun a w hI => ?_
  · exact ⟨op_assign (.const _) (.here 3 rfl), trivial⟩
  refine seq_text (V1 := []) (A1 := []) (G1 := [⟨none, none, 0, pNum u⟩, ⟨none, some 4, 1, pNum d⟩, ⟨none, none, 2, pI last⟩, ⟨none, none, 6, pEq ((Value.slice none 0 0))⟩, ⟨some 0, none, 10, pNum d⟩, ⟨some 1, none, 11, pI last⟩, ⟨some 2, none, 12, pI (maxZ last (0 : Int))⟩, ⟨some 3, none, 13, pNum (d * 2 ^ (maxZ last (0 : Int)).toNat)⟩, ⟨some 4, none, 1, pNum (d * 2 ^ (maxZ last (0 : Int)).toNat)⟩]) (V2 := []) (G2 := [⟨none, none, 0, pNum u⟩, ⟨none, none, 2, pI last⟩, ⟨none, none, 6, pEq ((Value.slice none 0 0))⟩, ⟨none, none, 1, pNum (d * 2 ^ (maxZ last (0 : Int)).toNat)⟩]) hI rfl rfl rfl [0, 1, 3, 7, 15] (by kernel_rfl) (by kernel_rfl) ?_ [] [0, 1, 2, 7] rfl rfl fun a w hI => ?_
  · exact ⟨op_move (.tmp 1 rfl rfl) (.here 4 rfl), op_move (.tmp 2 rfl rfl) (.here 5 rfl), op_max2 (.tmp 5 rfl rfl) (.const _) (.here 6 rfl), op_call2 (fun _ _ => by kernel_rfl) (numlike_num _) (.tmp 4 rfl rfl) (.tmp 6 rfl rfl) (.here 7 rfl) (c_left hk (by omega) (by omega) (by omega)), op_assign (.tmp 7 rfl rfl) (.here 8 rfl), trivial⟩
  refine seq_text (V1 := []) (A1 := []) (G1 := [⟨none, none, 0, pNum u⟩, ⟨none, none, 2, pI last⟩, ⟨none, none, 6, pEq ((Value.slice none 0 0))⟩, ⟨none, none, 1, pNum (d * 2 ^ (maxZ last (0 : Int)).toNat)⟩, ⟨some 0, none, 15, pNum u⟩, ⟨some 1, none, 16, pI last⟩, ⟨some 2, none, 17, pI (-last)⟩, ⟨some 3, none, 18, pI (maxZ (-last) (0 : Int))⟩, ⟨some 4, none, 19, pNum (u * 2 ^ (maxZ (-last) (0 : Int)).toNat)⟩, ⟨some 5, none, 20, pNum (d * 2 ^ (maxZ last (0 : Int)).toNat)⟩, ⟨some 6, none, 21, pTup2 (pNum ((u * 2 ^ (maxZ (-last) (0 : Int)).toNat) / (d * 2 ^ (maxZ last (0 : Int)).toNat))) (pNum ((u * 2 ^ (maxZ (-last) (0 : Int)).toNat) % (d * 2 ^ (maxZ last (0 : Int)).toNat)))⟩, ⟨some 7, none, 14, pTup2 (pNum ((u * 2 ^ (maxZ (-last) (0 : Int)).toNat) / (d * 2 ^ (maxZ last (0 : Int)).toNat))) (pNum ((u * 2 ^ (maxZ (-last) (0 : Int)).toNat) % (d * 2 ^ (maxZ last (0 : Int)).toNat)))⟩, ⟨some 8, none, 22, pNum ((u * 2 ^ (maxZ (-last) (0 : Int)).toNat) / (d * 2 ^ (maxZ last (0 : Int)).toNat))⟩, ⟨some 9, none, 23, pNum ((u * 2 ^ (maxZ (-last) (0 : Int)).toNat) % (d * 2 ^ (maxZ last (0 : Int)).toNat))⟩, ⟨some 10, none, 7, pNum ((u * 2 ^ (maxZ (-last) (0 : Int)).toNat) / (d * 2 ^ (maxZ last (0 : Int)).toNat))⟩, ⟨some 11, none, 8, pNum ((u * 2 ^ (maxZ (-last) (0 : Int)).toNat) % (d * 2 ^ (maxZ last (0 : Int)).toNat))⟩]) (V2 := []) (G2 := [⟨none, none, 6, pEq ((Value.slice none 0 0))⟩, ⟨none, none, 1, pNum (d * 2 ^ (maxZ last (0 : Int)).toNat)⟩, ⟨none, none, 7, pNum ((u * 2 ^ (maxZ (-last) (0 : Int)).toNat) / (d * 2 ^ (maxZ last (0 : Int)).toNat))⟩, ⟨none, none, 8, pNum ((u * 2 ^ (maxZ (-last) (0 : Int)).toNat) % (d * 2 ^ (maxZ last (0 : Int)).toNat))⟩]) hI rfl rfl rfl [0, 1, 3, 7, 15, 31, 63, 127, 255, 511, 1023, 2047] (by kernel_rfl) (by kernel_rfl) ?_ [] [2, 3, 14, 15] rfl rfl fun a w hI => ?_
  · exact ⟨op_move (.tmp 0 rfl rfl) (.here 4 rfl), op_move (.tmp 1 rfl rfl) (.here 5 rfl), op_neg (.tmp 5 rfl rfl) (by omega) (.here 6 rfl), op_max2 (.tmp 6 rfl rfl) (.const _) (.here 7 rfl), op_call2 (fun _ _ => by kernel_rfl) (numlike_num _) (.tmp 4 rfl rfl) (.tmp 7 rfl rfl) (.here 8 rfl) (c_left hj (by omega) (by omega) (by omega)), op_move (.tmp 3 rfl rfl) (.here 9 rfl), op_call2 (fun _ _ => by kernel_rfl) (numlike_tup2 (numlike_num _) (numlike_num _)) (.tmp 8 rfl rfl) (.tmp 9 rfl rfl) (.here 10 rfl) (c_divide (bd_shift hj _) (by omega) (Nat.mul_pos hd (Nat.two_pow_pos _))), op_move (.tmp 10 rfl rfl) (.here 11 rfl), op_extract (.tmp 11 rfl rfl) ex2_0 (.here 12 rfl), op_extract (.tmp 11 rfl rfl) ex2_1 (.here 13 rfl), op_assign (.tmp 12 rfl rfl) (.here 14 rfl), op_assign (.tmp 13 rfl rfl) (.here 15 rfl), trivial⟩
  refine wp_seq ?_
  refine seq_text (V1 := []) (A1 := []) (G1 := [⟨none, none, 6, pEq ((Value.slice none 0 0))⟩, ⟨none, none, 1, pNum (d * 2 ^ (maxZ last (0 : Int)).toNat)⟩, ⟨none, none, 7, pNum ((u * 2 ^ (maxZ (-last) (0 : Int)).toNat) / (d * 2 ^ (maxZ last (0 : Int)).toNat))⟩, ⟨none, none, 8, pNum ((u * 2 ^ (maxZ (-last) (0 : Int)).toNat) % (d * 2 ^ (maxZ last (0 : Int)).toNat))⟩, ⟨some 0, none, 24, pNum ((u * 2 ^ (maxZ (-last) (0 : Int)).toNat) % (d * 2 ^ (maxZ last (0 : Int)).toNat))⟩, ⟨some 1, none, 25, pNum (((u * 2 ^ (maxZ (-last) (0 : Int)).toNat) % (d * 2 ^ (maxZ last (0 : Int)).toNat)) * 2 ^ 1)⟩, ⟨some 2, none, 26, pNum (d * 2 ^ (maxZ last (0 : Int)).toNat)⟩, ⟨some 3, none, 27, pI (cmpI (((u * 2 ^ (maxZ (-last) (0 : Int)).toNat) % (d * 2 ^ (maxZ last (0 : Int)).toNat)) * 2 ^ 1) (d * 2 ^ (maxZ last (0 : Int)).toNat))⟩, ⟨some 4, none, 9, pI (cmpI (((u * 2 ^ (maxZ (-last) (0 : Int)).toNat) % (d * 2 ^ (maxZ last (0 : Int)).toNat)) * 2 ^ 1) (d * 2 ^ (maxZ last (0 : Int)).toNat))⟩]) (V2 := []) (G2 := [⟨none, none, 6, pEq ((Value.slice none 0 0))⟩, ⟨none, none, 7, pNum ((u * 2 ^ (maxZ (-last) (0 : Int)).toNat) / (d * 2 ^ (maxZ last (0 : Int)).toNat))⟩, ⟨none, none, 9, pI (cmpI (((u * 2 ^ (maxZ (-last) (0 : Int)).toNat) % (d * 2 ^ (maxZ last (0 : Int)).toNat)) * 2 ^ 1) (d * 2 ^ (maxZ last (0 : Int)).toNat))⟩]) hI rfl rfl rfl [0, 1, 3, 7, 15] (by kernel_rfl) (by kernel_rfl) ?_ [] [0, 2, 8] rfl rfl fun a w hI => ?_
  · exact ⟨op_move (.tmp 3 rfl rfl) (.here 4 rfl), op_call2 (fun _ _ => by kernel_rfl) (numlike_num _) (.tmp 4 rfl rfl) (.const _) (.here 5 rfl) (c_left (bd_mod (bd_shift hj _) _) (by omega) (by omega) (by omega)), op_move (.tmp 1 rfl rfl) (.here 6 rfl), op_call2 (fun _ _ => by kernel_rfl) (numlike_eq _) (.tmp 5 rfl rfl) (.tmp 6 rfl rfl) (.here 7 rfl) (c_lcmp _ _), op_assign (.tmp 7 rfl rfl) (.here 8 rfl), trivial⟩
  refine seq_text (V1 := []) (A1 := []) (G1 := [⟨none, none, 6, pEq ((Value.slice none 0 0))⟩, ⟨none, none, 7, pNum ((u * 2 ^ (maxZ (-last) (0 : Int)).toNat) / (d * 2 ^ (maxZ last (0 : Int)).toNat))⟩, ⟨none, none, 9, pI (cmpI (((u * 2 ^ (maxZ (-last) (0 : Int)).toNat) % (d * 2 ^ (maxZ last (0 : Int)).toNat)) * 2 ^ 1) (d * 2 ^ (maxZ last (0 : Int)).toNat))⟩, ⟨some 0, none, 28, pI (cmpI (((u * 2 ^ (maxZ (-last) (0 : Int)).toNat) % (d * 2 ^ (maxZ last (0 : Int)).toNat)) * 2 ^ 1) (d * 2 ^ (maxZ last (0 : Int)).toNat))⟩, ⟨some 1, none, 29, pB (decide ((cmpI (((u * 2 ^ (maxZ (-last) (0 : Int)).toNat) % (d * 2 ^ (maxZ last (0 : Int)).toNat)) * 2 ^ 1) (d * 2 ^ (maxZ last (0 : Int)).toNat)) > (0 : Int)))⟩, ⟨some 2, none, 30, pB (decide ((cmpI (((u * 2 ^ (maxZ (-last) (0 : Int)).toNat) % (d * 2 ^ (maxZ last (0 : Int)).toNat)) * 2 ^ 1) (d * 2 ^ (maxZ last (0 : Int)).toNat)) > (0 : Int)))⟩, ⟨some 3, none, 31, pSel ((decide ((cmpI (((u * 2 ^ (maxZ (-last) (0 : Int)).toNat) % (d * 2 ^ (maxZ last (0 : Int)).toNat)) * 2 ^ 1) (d * 2 ^ (maxZ last (0 : Int)).toNat)) > (0 : Int))) = false) (pI (cmpI (((u * 2 ^ (maxZ (-last) (0 : Int)).toNat) % (d * 2 ^ (maxZ last (0 : Int)).toNat)) * 2 ^ 1) (d * 2 ^ (maxZ last (0 : Int)).toNat)))⟩, ⟨some 4, none, 32, pSel ((decide ((cmpI (((u * 2 ^ (maxZ (-last) (0 : Int)).toNat) % (d * 2 ^ (maxZ last (0 : Int)).toNat)) * 2 ^ 1) (d * 2 ^ (maxZ last (0 : Int)).toNat)) > (0 : Int))) = false) (pB ((cmpI (((u * 2 ^ (maxZ (-last) (0 : Int)).toNat) % (d * 2 ^ (maxZ last (0 : Int)).toNat)) * 2 ^ 1) (d * 2 ^ (maxZ last (0 : Int)).toNat)) == (0 : Int)))⟩, ⟨some 5, none, 33, pSel ((decide ((cmpI (((u * 2 ^ (maxZ (-last) (0 : Int)).toNat) % (d * 2 ^ (maxZ last (0 : Int)).toNat)) * 2 ^ 1) (d * 2 ^ (maxZ last (0 : Int)).toNat)) > (0 : Int))) = false) (pB ((cmpI (((u * 2 ^ (maxZ (-last) (0 : Int)).toNat) % (d * 2 ^ (maxZ last (0 : Int)).toNat)) * 2 ^ 1) (d * 2 ^ (maxZ last (0 : Int)).toNat)) == (0 : Int)))⟩, ⟨some 6, none, 34, pSel (((decide ((cmpI (((u * 2 ^ (maxZ (-last) (0 : Int)).toNat) % (d * 2 ^ (maxZ last (0 : Int)).toNat)) * 2 ^ 1) (d * 2 ^ (maxZ last (0 : Int)).toNat)) > (0 : Int))) = false) ∧ ((cmpI (((u * 2 ^ (maxZ (-last) (0 : Int)).toNat) % (d * 2 ^ (maxZ last (0 : Int)).toNat)) * 2 ^ 1) (d * 2 ^ (maxZ last (0 : Int)).toNat)) == (0 : Int)) = true) (pNum ((u * 2 ^ (maxZ (-last) (0 : Int)).toNat) / (d * 2 ^ (maxZ last (0 : Int)).toNat)))⟩, ⟨some 7, none, 35, pSel (((decide ((cmpI (((u * 2 ^ (maxZ (-last) (0 : Int)).toNat) % (d * 2 ^ (maxZ last (0 : Int)).toNat)) * 2 ^ 1) (d * 2 ^ (maxZ last (0 : Int)).toNat)) > (0 : Int))) = false) ∧ ((cmpI (((u * 2 ^ (maxZ (-last) (0 : Int)).toNat) % (d * 2 ^ (maxZ last (0 : Int)).toNat)) * 2 ^ 1) (d * 2 ^ (maxZ last (0 : Int)).toNat)) == (0 : Int)) = true) (pU (((u * 2 ^ (maxZ (-last) (0 : Int)).toNat) / (d * 2 ^ (maxZ last (0 : Int)).toNat)) % 2))⟩, ⟨some 8, none, 36, pSel (((decide ((cmpI (((u * 2 ^ (maxZ (-last) (0 : Int)).toNat) % (d * 2 ^ (maxZ last (0 : Int)).toNat)) * 2 ^ 1) (d * 2 ^ (maxZ last (0 : Int)).toNat)) > (0 : Int))) = false) ∧ ((cmpI (((u * 2 ^ (maxZ (-last) (0 : Int)).toNat) % (d * 2 ^ (maxZ last (0 : Int)).toNat)) * 2 ^ 1) (d * 2 ^ (maxZ last (0 : Int)).toNat)) == (0 : Int)) = true) (pB (((((u * 2 ^ (maxZ (-last) (0 : Int)).toNat) / (d * 2 ^ (maxZ last (0 : Int)).toNat)) % 2 : Nat) : Int) == (1 : Int)))⟩, ⟨some 9, none, 37, pSel ((decide ((cmpI (((u * 2 ^ (maxZ (-last) (0 : Int)).toNat) % (d * 2 ^ (maxZ last (0 : Int)).toNat)) * 2 ^ 1) (d * 2 ^ (maxZ last (0 : Int)).toNat)) > (0 : Int))) = false) (pB (((cmpI (((u * 2 ^ (maxZ (-last) (0 : Int)).toNat) % (d * 2 ^ (maxZ last (0 : Int)).toNat)) * 2 ^ 1) (d * 2 ^ (maxZ last (0 : Int)).toNat)) == (0 : Int)) && (((((u * 2 ^ (maxZ (-last) (0 : Int)).toNat) / (d * 2 ^ (maxZ last (0 : Int)).toNat)) % 2 : Nat) : Int) == (1 : Int))))⟩, ⟨some 10, none, 38, pB ((decide ((cmpI (((u * 2 ^ (maxZ (-last) (0 : Int)).toNat) % (d * 2 ^ (maxZ last (0 : Int)).toNat)) * 2 ^ 1) (d * 2 ^ (maxZ last (0 : Int)).toNat)) > (0 : Int))) || (((cmpI (((u * 2 ^ (maxZ (-last) (0 : Int)).toNat) % (d * 2 ^ (maxZ last (0 : Int)).toNat)) * 2 ^ 1) (d * 2 ^ (maxZ last (0 : Int)).toNat)) == (0 : Int)) && (((((u * 2 ^ (maxZ (-last) (0 : Int)).toNat) / (d * 2 ^ (maxZ last (0 : Int)).toNat)) % 2 : Nat) : Int) == (1 : Int))))⟩]) (V2 := []) (G2 := [⟨none, none, 6, pEq ((Value.slice none 0 0))⟩, ⟨none, none, 7, pNum ((u * 2 ^ (maxZ (-last) (0 : Int)).toNat) / (d * 2 ^ (maxZ last (0 : Int)).toNat))⟩, ⟨none, none, 38, pB ((decide ((cmpI (((u * 2 ^ (maxZ (-last) (0 : Int)).toNat) % (d * 2 ^ (maxZ last (0 : Int)).toNat)) * 2 ^ 1) (d * 2 ^ (maxZ last (0 : Int)).toNat)) > (0 : Int))) || (((cmpI (((u * 2 ^ (maxZ (-last) (0 : Int)).toNat) % (d * 2 ^ (maxZ last (0 : Int)).toNat)) * 2 ^ 1) (d * 2 ^ (maxZ last (0 : Int)).toNat)) == (0 : Int)) && (((((u * 2 ^ (maxZ (-last) (0 : Int)).toNat) / (d * 2 ^ (maxZ last (0 : Int)).toNat)) % 2 : Nat) : Int) == (1 : Int))))⟩]) hI rfl rfl rfl [0, 1, 3, 7, 15, 31, 63, 127, 255, 511, 1023] (by kernel_rfl) (by kernel_rfl) ?_ [] [0, 1, 13] rfl rfl fun a w hI => ?_
  · exact ⟨op_move (.tmp 2 rfl rfl) (.here 3 rfl), op_bin (v := .bool (decide ((cmpI (((u * 2 ^ (maxZ (-last) (0 : Int)).toNat) % (d * 2 ^ (maxZ last (0 : Int)).toNat)) * 2 ^ 1) (d * 2 ^ (maxZ last (0 : Int)).toNat)) > (0 : Int)))) (.tmp 3 rfl rfl) (.const _) (fun _ => rfl) (.here 4 rfl), op_move (.tmp 4 rfl rfl) (.here 5 rfl), op_if 5 rfl rfl (fun hc => op_move (.tmp 2 rfl rfl) (.sel hc 6 rfl)) (by kernel_rfl) (fun _ => .none (by kernel_rfl)) (fun hc => .sel_no hc 6 rfl), op_if 5 rfl rfl (fun hc => op_bin (v := .bool (((cmpI (((u * 2 ^ (maxZ (-last) (0 : Int)).toNat) % (d * 2 ^ (maxZ last (0 : Int)).toNat)) * 2 ^ 1) (d * 2 ^ (maxZ last (0 : Int)).toNat)) == (0 : Int)))) (.sel (.tmp 6 rfl rfl) hc) (.const _) (fun _ => rfl) (.sel hc 7 rfl)) (by kernel_rfl) (fun _ => .none (by kernel_rfl)) (fun hc => .sel_no hc 7 rfl), op_if 5 rfl rfl (fun hc => op_move (.sel (.tmp 7 rfl rfl) hc) (.sel hc 8 rfl)) (by kernel_rfl) (fun _ => .none (by kernel_rfl)) (fun hc => .sel_no hc 8 rfl), op_if2 8 rfl rfl (fun hc => op_move (.tmp 1 rfl rfl) (.sel hc 9 rfl)) (by kernel_rfl) (fun _ => .none (by kernel_rfl)) (fun hc => .sel_no hc 9 rfl), op_if2 8 rfl rfl (fun hc => op_callB2 (fun _ _ => by kernel_rfl) (.sel (.tmp 9 rfl rfl) hc) (.const _) (.sel hc 10 rfl) (c_bit0 _)) (by kernel_rfl) (fun _ => .none (by kernel_rfl)) (fun hc => .sel_no hc 10 rfl), op_if2 8 rfl rfl (fun hc => op_bin (v := .bool ((((((u * 2 ^ (maxZ (-last) (0 : Int)).toNat) / (d * 2 ^ (maxZ last (0 : Int)).toNat)) % 2 : Nat) : Int) == (1 : Int)))) (.sel (.tmp 10 rfl rfl) hc) (.const _) (fun _ => rfl) (.sel hc 11 rfl)) (by kernel_rfl) (fun _ => .none (by kernel_rfl)) (fun hc => .sel_no hc 11 rfl), op_if 5 rfl rfl (fun hc => op_pick (.sel (.tmp 8 rfl rfl) hc) (fun h => .imp (.sel (.tmp 11 rfl rfl) (⟨hc, h⟩)) fun _ _ e => by rw [h]; exact e) (fun h => .imp (.const _) fun _ _ e => by rw [h]; exact e) (.sel hc 12 rfl)) (by kernel_rfl) (fun _ => .none (by kernel_rfl)) (fun hc => .sel_no hc 12 rfl), op_pick (.tmp 5 rfl rfl) (fun h => .imp (.const _) fun _ _ e => by rw [h]; exact e) (fun h => .imp (.sel (.tmp 12 rfl rfl) (h)) fun _ _ e => by rw [h]; exact e) (.here 13 rfl), trivial⟩
  refine cond_if hI 2 rfl (fun ht => ?_) (fun ht => ?_)
  · have t1 := ht
    refine sem_text (V1 := []) (A1 := []) (G1 := [⟨none, none, 6, pEq ((Value.slice none 0 0))⟩, ⟨none, some 3, 7, pNum ((u * 2 ^ (maxZ (-last) (0 : Int)).toNat) / (d * 2 ^ (maxZ last (0 : Int)).toNat))⟩, ⟨none, none, 38, pB ((decide ((cmpI (((u * 2 ^ (maxZ (-last) (0 : Int)).toNat) % (d * 2 ^ (maxZ last (0 : Int)).toNat)) * 2 ^ 1) (d * 2 ^ (maxZ last (0 : Int)).toNat)) > (0 : Int))) || (((cmpI (((u * 2 ^ (maxZ (-last) (0 : Int)).toNat) % (d * 2 ^ (maxZ last (0 : Int)).toNat)) * 2 ^ 1) (d * 2 ^ (maxZ last (0 : Int)).toNat)) == (0 : Int)) && (((((u * 2 ^ (maxZ (-last) (0 : Int)).toNat) / (d * 2 ^ (maxZ last (0 : Int)).toNat)) % 2 : Nat) : Int) == (1 : Int))))⟩, ⟨some 0, none, 39, pNum ((u * 2 ^ (maxZ (-last) (0 : Int)).toNat) / (d * 2 ^ (maxZ last (0 : Int)).toNat))⟩, ⟨some 1, none, 40, pNum 1⟩, ⟨some 2, none, 41, pNum (((u * 2 ^ (maxZ (-last) (0 : Int)).toNat) / (d * 2 ^ (maxZ last (0 : Int)).toNat)) + 1)⟩, ⟨some 3, none, 7, pNum (((u * 2 ^ (maxZ (-last) (0 : Int)).toNat) / (d * 2 ^ (maxZ last (0 : Int)).toNat)) + 1)⟩]) (V2 := []) (G2 := [⟨none, none, 6, pEq ((Value.slice none 0 0))⟩, ⟨none, none, 7, pNum (((u * 2 ^ (maxZ (-last) (0 : Int)).toNat) / (d * 2 ^ (maxZ last (0 : Int)).toNat)) + 1)⟩]) hI rfl rfl rfl [0, 1, 3, 7] (by kernel_rfl) (by kernel_rfl) ?_ [] [0, 5] rfl rfl fun a w hI => ?_
    · exact ⟨op_move (.tmp 1 rfl rfl) (.here 3 rfl), op_call1 (fun _ _ => by kernel_rfl) (numlike_num _) (.const _) (.here 4 rfl) (c_word (n := 1) (by decide)), op_call2 (fun _ _ => by kernel_rfl) (numlike_num _) (.tmp 3 rfl rfl) (.tmp 4 rfl rfl) (.here 5 rfl) (c_plus (bd_div (bd_shift hj _) _) bd_one (by omega) (by omega)), op_assign (.tmp 5 rfl rfl) (.here 6 rfl), trivial⟩
    refine then_of ?_
    refine seq_text (V1 := []) (A1 := []) (G1 := [⟨none, some 1, 6, pEq ((Value.slice none 0 0))⟩, ⟨none, none, 7, pNum (((u * 2 ^ (maxZ (-last) (0 : Int)).toNat) / (d * 2 ^ (maxZ last (0 : Int)).toNat)) + 1)⟩, ⟨some 0, none, 42, pNum (((u * 2 ^ (maxZ (-last) (0 : Int)).toNat) / (d * 2 ^ (maxZ last (0 : Int)).toNat)) + 1)⟩, ⟨some 1, none, 6, pNum (((u * 2 ^ (maxZ (-last) (0 : Int)).toNat) / (d * 2 ^ (maxZ last (0 : Int)).toNat)) + 1)⟩]) (V2 := []) (G2 := [⟨none, none, 6, pNum (((u * 2 ^ (maxZ (-last) (0 : Int)).toNat) / (d * 2 ^ (maxZ last (0 : Int)).toNat)) + 1)⟩]) hI rfl rfl rfl [0, 1] (by kernel_rfl) (by kernel_rfl) ?_ [] [2] rfl rfl fun a w hI => ?_
    · exact ⟨op_move (.tmp 1 rfl rfl) (.here 2 rfl), op_assign (.tmp 2 rfl rfl) (.here 3 rfl), trivial⟩
    refine wp_ret ?_
    exact fin1 hI rfl (.imp (.tmp 0 rfl) (pNum_eq ((if_pos (show rndC (shN u last) (shD d last) = true from t1)).symm)))
  · have t2 := ht
    refine wp_skip ?_
    refine then_of ?_
    refine seq_text (V1 := []) (A1 := []) (G1 := [⟨none, some 1, 6, pEq ((Value.slice none 0 0))⟩, ⟨none, none, 7, pNum ((u * 2 ^ (maxZ (-last) (0 : Int)).toNat) / (d * 2 ^ (maxZ last (0 : Int)).toNat))⟩, ⟨none, none, 38, pB ((decide ((cmpI (((u * 2 ^ (maxZ (-last) (0 : Int)).toNat) % (d * 2 ^ (maxZ last (0 : Int)).toNat)) * 2 ^ 1) (d * 2 ^ (maxZ last (0 : Int)).toNat)) > (0 : Int))) || (((cmpI (((u * 2 ^ (maxZ (-last) (0 : Int)).toNat) % (d * 2 ^ (maxZ last (0 : Int)).toNat)) * 2 ^ 1) (d * 2 ^ (maxZ last (0 : Int)).toNat)) == (0 : Int)) && (((((u * 2 ^ (maxZ (-last) (0 : Int)).toNat) / (d * 2 ^ (maxZ last (0 : Int)).toNat)) % 2 : Nat) : Int) == (1 : Int))))⟩, ⟨some 0, none, 42, pNum ((u * 2 ^ (maxZ (-last) (0 : Int)).toNat) / (d * 2 ^ (maxZ last (0 : Int)).toNat))⟩, ⟨some 1, none, 6, pNum ((u * 2 ^ (maxZ (-last) (0 : Int)).toNat) / (d * 2 ^ (maxZ last (0 : Int)).toNat))⟩]) (V2 := []) (G2 := [⟨none, none, 6, pNum ((u * 2 ^ (maxZ (-last) (0 : Int)).toNat) / (d * 2 ^ (maxZ last (0 : Int)).toNat))⟩]) hI rfl rfl rfl [0, 1] (by kernel_rfl) (by kernel_rfl) ?_ [] [3] rfl rfl fun a w hI => ?_
    · exact ⟨op_move (.tmp 1 rfl rfl) (.here 3 rfl), op_assign (.tmp 3 rfl rfl) (.here 4 rfl), trivial⟩
    refine wp_ret ?_
    exact fin1 hI rfl (.imp (.tmp 0 rfl) (pNum_eq ((if_neg (show ¬ rndC (shN u last) (shD d last) = true from by rw [show rndC (shN u last) (shD d last) = false from t2]; exact Bool.false_ne_true)).symm)))
end Wx
