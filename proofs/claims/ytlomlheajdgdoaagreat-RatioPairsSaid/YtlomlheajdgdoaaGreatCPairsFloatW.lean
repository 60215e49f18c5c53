import Derived.Handy
import Derived.KernelRfl
import Derived.Test.YtlomlheajdgdoaaGreatProg
import Derived.Test.YtlomlheajdgdoaaGreatJPairs0
import Derived.Test.YtlomlheajdgdoaaGreatJPairs1
import Derived.Test.YtlomlheajdgdoaaGreatCPairsRat1
import Derived.Test.YtlomlheajdgdoaaGreatJPairs9
import Derived.Test.YtlomlheajdgdoaaGreatJPairs10
import Derived.Test.YtlomlheajdgdoaaGreatJPairs22
import Derived.Test.YtlomlheajdgdoaaGreatJPairs26
import Derived.Test.YtlomlheajdgdoaaGreatCPairsSem
import Derived.Test.YtlomlheajdgdoaaGreatCPairsSemOps
import Derived.Test.YtlomlheajdgdoaaGreatCPairsSemMem
import Derived.Test.YtlomlheajdgdoaaGreatCPairsSemCode
import Derived.Test.YtlomlheajdgdoaaGreatJPairs27
import Derived.Test.YtlomlheajdgdoaaGreatJPairs15
import Derived.Test.YtlomlheajdgdoaaGreatJPairs28
import Derived.Test.YtlomlheajdgdoaaGreatJPairs16
import Derived.Test.YtlomlheajdgdoaaGreatJPairs35
import Derived.Test.YtlomlheajdgdoaaGreatJPairs29
import Derived.Test.YtlomlheajdgdoaaGreatJPairs33
import Derived.Test.YtlomlheajdgdoaaGreatJPairs43
import Derived.Test.YtlomlheajdgdoaaGreatJPairs38
import Derived.Test.YtlomlheajdgdoaaGreatCPairsMathF
import Derived.Test.YtlomlheajdgdoaaGreatJPairs41
import Derived.Test.YtlomlheajdgdoaaGreatCPairsNNear
import Derived.Test.YtlomlheajdgdoaaGreatCPairsPlainFloat3
import Derived.Test.YtlomlheajdgdoaaGreatJPairs45
namespace Wx
set_option maxRecDepth 100000
open Go Go.RowKit Go.Proofs
set_option linter.unusedVariables false

theorem c_reduced {neg : Bool} {n d j : Nat} (hj : Bd j n) (hk : Bd j d) (hd : 0 < d) (hj1 : j ≤ 100000000) : ∀ w v1 v2 v3, pB neg w v1 → pNum n w v2 → pNum d w v3 → Calls Tryz.prog 60 #[v1, v2, v3] w (Ret (pRat (redR neg n d)) w) := fun w v1 v2 v3 h1 h2 h3 => by
  have h1 : v1 = .bool neg := h1
  rw [h1]
  exact reduced_num w neg v2 v3 n d h2 h3 hd hj hk hj1
theorem cn_made {neg : Bool} {n d j : Nat} (hj : Bd j n) (hk : Bd j d) (hd : 0 < d) (hj1 : j ≤ 10000000) : ∀ w v1 v2 v3, pB neg w v1 → pNatR n w v2 → pNatR d w v3 → Calls Tryz.prog 57 #[v1, v2, v3] w (Ret (pRef (redR neg n d)) w) := fun w v1 v2 v3 h1 h2 h3 => by
  have h1 : v1 = .bool neg := h1
  rw [h1]
  exact made_num w neg v2 v3 n d h2 h3 hd hj hk hj1
theorem cn_Nat {n : Nat} (hn : n < b64) : ∀ w v1, pU n w v1 → Calls Tryz.prog 59 #[v1] w (Ret (pNatR n) w) := fun w v1 h1 => by
  have h1 : v1 = .int .u64 (n : Int) := h1
  rw [h1]
  exact nat_num w n hn
theorem pU_eqF {m n : Nat} (h : m = n) : ∀ w v, pU m w v → pU n w v := fun _ _ k => h ▸ k
theorem add_u64 {P : Program} {xt : TypeId} {a b : Nat} (h : a + b < 2 ^ 64) (w : World) : (Go.binOp .add xt (.int .u64 (a : Int)) (.int .u64 (b : Int))).run P w = .ok (.int .u64 ((a + b : Nat) : Int)) w := by
  show Result.ok (Value.int .u64 (IntKind.u64.wrap ((a : Int) + (b : Int)))) w = _
  rw [show (a : Int) + (b : Int) = ((a + b : Nat) : Int) by omega, wrap_n64 h]
theorem exp_cast (X : Nat) (h : X / 2 ^ 52 % 2 ^ 11 = 0) : (1 : Int) = placeW Ieee.double X + 1075 := by rw [dbl_place, if_pos h]
theorem exp_cast2 (X : Nat) (h : ¬ X / 2 ^ 52 % 2 ^ 11 = 0) : ((X / 2 ^ 52 % 2 ^ 11 : Nat) : Int) = placeW Ieee.double X + 1075 := by rw [dbl_place, if_neg h]
theorem man_cast (X : Nat) (h : X / 2 ^ 52 % 2 ^ 11 = 0) : X % 2 ^ 52 = manW Ieee.double X := by rw [dbl_man, if_pos h]
theorem man_cast2 (X : Nat) (h : ¬ X / 2 ^ 52 % 2 ^ 11 = 0) : X % 2 ^ 52 + 2 ^ 52 = manW Ieee.double X := by rw [dbl_man, if_neg h]
theorem fx_hi {X : Nat} (hX : X < 2 ^ 64) (h : placeW Ieee.double X + 1075 ≥ (1075 : Int)) : redR (((X / 2 ^ 63 : Nat) : Int) == (1 : Int)) (manW Ieee.double X * 2 ^ (placeW Ieee.double X).toNat) 1 = floatX X := by
  rw [← dbl_neg hX]
  exact floatR_hi (by omega)
theorem fx_lo {X : Nat} (hX : X < 2 ^ 64) (h : ¬ placeW Ieee.double X + 1075 ≥ (1075 : Int)) : redR (((X / 2 ^ 63 : Nat) : Int) == (1 : Int)) (manW Ieee.double X) (1 * 2 ^ (-(placeW Ieee.double X)).toNat) = floatX X := by
  rw [← dbl_neg hX]
  exact floatR_lo (by omega)
theorem fx_neg {X : Nat} (hX : X < 2 ^ 64) (h : ((X / 2 ^ 63 : Nat) : Int) = (1 : Int)) : -(redR false (manW Ieee.double X) 1 * twoR (placeW Ieee.double X)) = floatX X := by
  rw [floatR_ref, floatR_opp]
  unfold floatX
  rw [dbl_neg hX, beq_iff_eq.2 h]
theorem fx_pos {X : Nat} (hX : X < 2 ^ 64) (h : ((X / 2 ^ 63 : Nat) : Int) ≠ (1 : Int)) : redR false (manW Ieee.double X) 1 * twoR (placeW Ieee.double X) = floatX X := by
  rw [floatR_ref]
  unfold floatX
  rw [dbl_neg hX, beq_eq_false_iff_ne.2 h]
theorem c_isinfA {X : Nat} (hx : X < 2 ^ 64) : ∀ (M : Nat → Nat → Prop) (w : World) (v0 v1 : Value), Mid M w → Box M (fun w => (pF X) w v0) w → Box M (fun w => (pI 0) w v1) w → Calls Tryz.prog 70 #[v0, v1] w (RetB M (pB (Ieee.double.order (X % 2 ^ 63) 9218868437227405311 == some .gt)) w) := by
  intro M w0 v0 v1 hM hv0 hv1
  refine calls_start (N := 15) Tryz.func70 rfl rfl rfl hM (show EntsA M w0 [v0, v1] [⟨none, none, 0, pF X⟩, ⟨none, none, 1, pI 0⟩] from ⟨⟨rfl, _, rfl, hv0⟩, ⟨rfl, _, rfl, hv1⟩, trivial⟩) fun a hI => ?_
  refine seq_text (V1 := []) (A1 := []) (G1 := [⟨none, none, 0, pF X⟩, ⟨none, none, 1, pI 0⟩, ⟨some 0, none, 4, pB false⟩]) (V2 := []) (G2 := [⟨none, none, 0, pF X⟩, ⟨none, none, 1, pI 0⟩, ⟨none, none, 4, pB false⟩]) hI rfl rfl rfl [0] (by kernel_rfl) (by kernel_rfl) ?_ [] [0, 1, 2] rfl rfl fun a w hI => ?_
  · exact ⟨op_assign (.const _) (.here 2 rfl), trivial⟩
  refine wp_seq ?_
  refine seq_text (V1 := []) (A1 := []) (G1 := [⟨none, none, 0, pF X⟩, ⟨none, none, 1, pI 0⟩, ⟨none, none, 4, pB false⟩, ⟨some 0, none, 5, pI 0⟩, ⟨some 1, none, 6, pB true⟩]) (V2 := []) (G2 := [⟨none, none, 0, pF X⟩, ⟨none, none, 1, pI 0⟩, ⟨none, none, 4, pB false⟩, ⟨none, none, 6, pB true⟩]) hI rfl rfl rfl [0, 1] (by kernel_rfl) (by kernel_rfl) ?_ [] [0, 1, 2, 4] rfl rfl fun a w hI => ?_
  · exact ⟨op_move (.tmp 1 rfl rfl) (.here 3 rfl), op_bin (v := .bool (true)) (.tmp 3 rfl rfl) (.const _) (fun _ => rfl) (.here 4 rfl), trivial⟩
  refine cond_yes hI 3 rfl ?_
  refine sem_text (V1 := []) (A1 := []) (G1 := [⟨none, some 2, 0, pF X⟩, ⟨none, none, 1, pI 0⟩, ⟨none, none, 4, pB false⟩, ⟨none, none, 6, pB true⟩, ⟨some 0, none, 7, pF X⟩, ⟨some 1, none, 8, pF (X % 2 ^ 63)⟩, ⟨some 2, none, 0, pF (X % 2 ^ 63)⟩]) (V2 := []) (G2 := [⟨none, none, 4, pB false⟩, ⟨none, none, 0, pF (X % 2 ^ 63)⟩]) hI rfl rfl rfl [0, 1, 3] (by kernel_rfl) (by kernel_rfl) ?_ [] [1, 5] rfl rfl fun a w hI => ?_
  · exact ⟨op_move (.tmp 0 rfl rfl) (.here 4 rfl), op_callB1 (fun _ _ => by kernel_rfl) (.tmp 4 rfl rfl) (.here 5 rfl) (c_fabs hx), op_assign (.tmp 5 rfl rfl) (.here 6 rfl), trivial⟩
  refine then_of ?_
  refine seq_text (V1 := []) (A1 := []) (G1 := [⟨none, some 2, 4, pB false⟩, ⟨none, none, 0, pF (X % 2 ^ 63)⟩, ⟨some 0, none, 13, pF (X % 2 ^ 63)⟩, ⟨some 1, none, 14, pB (Ieee.double.order (X % 2 ^ 63) 9218868437227405311 == some .gt)⟩, ⟨some 2, none, 4, pB (Ieee.double.order (X % 2 ^ 63) 9218868437227405311 == some .gt)⟩]) (V2 := []) (G2 := [⟨none, none, 4, pB (Ieee.double.order (X % 2 ^ 63) 9218868437227405311 == some .gt)⟩]) hI rfl rfl rfl [0, 1, 3] (by kernel_rfl) (by kernel_rfl) ?_ [] [3] rfl rfl fun a w hI => ?_
  · exact ⟨op_move (.tmp 1 rfl rfl) (.here 2 rfl), op_fbin (v := .bool (Ieee.double.order (X % 2 ^ 63) 9218868437227405311 == some .gt)) (.tmp 2 rfl rfl) (.const _) (fun _ => rfl) (.here 3 rfl), op_assign (.tmp 3 rfl rfl) (.here 4 rfl), trivial⟩
  refine wp_ret ?_
  exact fin1 hI rfl (.tmp 0 rfl)
theorem c_isnanA {X : Nat} : ∀ (M : Nat → Nat → Prop) (w : World) (v0 : Value), Mid M w → Box M (fun w => (pF X) w v0) w → Calls Tryz.prog 69 #[v0] w (RetB M (pB (Ieee.double.order X X != some .eq)) w) := by
  intro M w0 v0 hM hv0
  refine calls_start (N := 6) Tryz.func69 rfl rfl rfl hM (show EntsA M w0 [v0] [⟨none, none, 0, pF X⟩] from ⟨⟨rfl, _, rfl, hv0⟩, trivial⟩) fun a hI => ?_
  refine seq_text (V1 := []) (A1 := []) (G1 := [⟨none, none, 0, pF X⟩, ⟨some 0, none, 2, pB false⟩]) (V2 := []) (G2 := [⟨none, none, 0, pF X⟩, ⟨none, none, 2, pB false⟩]) hI rfl rfl rfl [0] (by kernel_rfl) (by kernel_rfl) ?_ [] [0, 1] rfl rfl fun a w hI => ?_
  · exact ⟨op_assign (.const _) (.here 1 rfl), trivial⟩
  refine seq_text (V1 := []) (A1 := []) (G1 := [⟨none, none, 0, pF X⟩, ⟨none, some 3, 2, pB false⟩, ⟨some 0, none, 3, pF X⟩, ⟨some 1, none, 4, pF X⟩, ⟨some 2, none, 5, pB (Ieee.double.order X X != some .eq)⟩, ⟨some 3, none, 2, pB (Ieee.double.order X X != some .eq)⟩]) (V2 := []) (G2 := [⟨none, none, 2, pB (Ieee.double.order X X != some .eq)⟩]) hI rfl rfl rfl [0, 1, 3, 7] (by kernel_rfl) (by kernel_rfl) ?_ [] [4] rfl rfl fun a w hI => ?_
  · exact ⟨op_move (.tmp 0 rfl rfl) (.here 2 rfl), op_move (.tmp 0 rfl rfl) (.here 3 rfl), op_fbin (v := .bool (Ieee.double.order X X != some .eq)) (.tmp 2 rfl rfl) (.tmp 3 rfl rfl) (fun _ => rfl) (.here 4 rfl), op_assign (.tmp 4 rfl rfl) (.here 5 rfl), trivial⟩
  refine wp_ret ?_
  exact fin1 hI rfl (.tmp 0 rfl)
theorem pRat_eqF {x y : Rat} (h : x = y) : ∀ w v, pRat x w v → pRat y w v := fun _ _ k => h ▸ k
theorem c_Float_ok {X : Nat} (hx : X < 2 ^ 64) (hf : FinW Ieee.double X) : ∀ (M : Nat → Nat → Prop) (w : World) (v0 : Value), Mid M w → Box M (fun w => (pF X) w v0) w → Calls Tryz.prog 23 #[v0] w (RetB M (pTup2 (pRat (floatX X)) (pI 0)) w) := by
  intro M w0 v0 hM hv0
  have hb1 : Bd 2200 1 := bd_pw (a := 0) (by omega)
  have hbd : manW Ieee.double X < 2 ^ 53 ∧ -1074 ≤ placeW Ieee.double X ∧ placeW Ieee.double X ≤ 971 := dbl_bounds hf
  have hmb : manW Ieee.double X < b64 := Nat.lt_of_lt_of_le hbd.1 (by decide)
  have hm53 : Bd 53 (manW Ieee.double X) := hbd.1
  refine calls_start (N := 48) Tryz.func23 rfl rfl rfl hM (show EntsA M w0 [v0] [⟨none, none, 0, pF X⟩] from ⟨⟨rfl, _, rfl, hv0⟩, trivial⟩) fun a hI => ?_
  refine seq_text (V1 := [⟨2, 2, some 0, none, .ptr, 29, 3, true, pv (pRat 0), []⟩]) (A1 := []) (G1 := [⟨none, none, 0, pF X⟩, ⟨some 1, none, 3, pI 0⟩]) (V2 := [⟨2, 2, none, none, .ptr, 29, 3, true, pv (pRat 0), []⟩]) (G2 := [⟨none, none, 0, pF X⟩, ⟨none, none, 3, pI 0⟩]) hI rfl rfl rfl [0, 1] (by kernel_rfl) (by kernel_rfl) ?_ [0] [0, 1] rfl rfl fun a w hI => ?_
  · exact ⟨op_alloc 0 rfl rfl (by kernel_rfl) (by kernel_rfl) rfl rfl rfl zv_Ratio rfl rfl (by simp [NoU]) rfl (fun w => isRat_zero w), op_assign (.const _) (.here 1 rfl), trivial⟩
  refine wp_seq ?_
  refine seq_text (V1 := [⟨2, 2, none, none, .ptr, 29, 3, true, pv (pRat 0), []⟩]) (A1 := []) (G1 := [⟨none, none, 0, pF X⟩, ⟨none, none, 3, pI 0⟩, ⟨some 0, none, 7, pF X⟩, ⟨some 1, none, 8, pB (Ieee.double.order X X != some .eq)⟩, ⟨some 2, none, 9, pB (Ieee.double.order X X != some .eq)⟩, ⟨some 3, none, 10, pSel ((Ieee.double.order X X != some .eq) = false) (pF X)⟩, ⟨some 4, none, 11, pSel ((Ieee.double.order X X != some .eq) = false) (pB (Ieee.double.order (X % 2 ^ 63) 9218868437227405311 == some .gt))⟩, ⟨some 5, none, 12, pB false⟩]) (V2 := [⟨2, 2, none, none, .ptr, 29, 3, true, pv (pRat 0), []⟩]) (G2 := [⟨none, none, 0, pF X⟩, ⟨none, none, 3, pI 0⟩, ⟨none, none, 12, pB false⟩]) hI rfl rfl rfl [0, 1, 3, 7, 15, 31] (by kernel_rfl) (by kernel_rfl) ?_ [0] [0, 1, 7] rfl rfl fun a w hI => ?_
  · exact ⟨op_move (.tmp 0 rfl rfl) (.here 2 rfl), op_callB1 (fun _ _ => by kernel_rfl) (.tmp 2 rfl rfl) (.here 3 rfl) (c_isnanA), op_move (.tmp 3 rfl rfl) (.here 4 rfl), op_if 4 rfl rfl (fun hc => op_move (.tmp 0 rfl rfl) (.sel hc 5 rfl)) (by kernel_rfl) (fun _ => .none (by kernel_rfl)) (fun hc => .sel_no hc 5 rfl), op_if 4 rfl rfl (fun hc => op_callB2 (fun _ _ => by kernel_rfl) (.sel (.tmp 5 rfl rfl) hc) (.const _) (.sel hc 6 rfl) (c_isinfA hx)) (by kernel_rfl) (fun _ => .none (by kernel_rfl)) (fun hc => .sel_no hc 6 rfl), op_pick (.tmp 4 rfl rfl) (fun h => .imp (.const _) fun _ _ e => by rw [h]; exact e) (fun h => .imp (.sel (.tmp 6 rfl rfl) (h)) fun _ _ e => by rw [h]; exact e) (.at_ 7 _ _ rfl (pB_eq (show ((Ieee.double.order X X != some .eq) || (Ieee.double.order (X % 2 ^ 63) 9218868437227405311 == some .gt)) = false from fin_test.trans (decide_eq_false (dbl_fin.1 hf))))), trivial⟩
  refine cond_no hI 2 rfl ?_
  refine wp_skip ?_
  refine then_of ?_
  refine seq_text (V1 := [⟨2, 2, none, none, .ptr, 29, 3, true, pv (pRat 0), []⟩]) (A1 := []) (G1 := [⟨none, none, 0, pF X⟩, ⟨none, none, 3, pI 0⟩, ⟨none, none, 12, pB false⟩, ⟨some 0, none, 14, pF X⟩, ⟨some 1, none, 15, pU X⟩, ⟨some 2, none, 4, pU X⟩]) (V2 := [⟨2, 2, none, none, .ptr, 29, 3, true, pv (pRat 0), []⟩]) (G2 := [⟨none, none, 3, pI 0⟩, ⟨none, none, 4, pU X⟩]) hI rfl rfl rfl [0, 1, 3] (by kernel_rfl) (by kernel_rfl) ?_ [0] [1, 5] rfl rfl fun a w hI => ?_
  · exact ⟨op_move (.tmp 0 rfl rfl) (.here 3 rfl), op_native1 (.tmp 3 rfl rfl) (fun _ => by kernel_rfl) (.here 4 rfl), op_assign (.tmp 4 rfl rfl) (.here 5 rfl), trivial⟩
  refine seq_text (V1 := [⟨2, 2, none, none, .ptr, 29, 3, true, pv (pRat 0), []⟩]) (A1 := []) (G1 := [⟨none, none, 3, pI 0⟩, ⟨none, none, 4, pU X⟩, ⟨some 0, none, 16, pU X⟩, ⟨some 1, none, 17, pU (X % 2 ^ 52)⟩, ⟨some 2, none, 18, pU X⟩, ⟨some 3, none, 19, pU (X / 2 ^ 52)⟩, ⟨some 4, none, 20, pU ((X / 2 ^ 52) % 2 ^ 11)⟩, ⟨some 5, none, 21, pI (((X / 2 ^ 52) % 2 ^ 11 : Nat) : Int)⟩, ⟨some 6, none, 5, pU (X % 2 ^ 52)⟩, ⟨some 7, none, 6, pI (((X / 2 ^ 52) % 2 ^ 11 : Nat) : Int)⟩]) (V2 := [⟨2, 2, none, none, .ptr, 29, 3, true, pv (pRat 0), []⟩]) (G2 := [⟨none, none, 3, pI 0⟩, ⟨none, none, 4, pU X⟩, ⟨none, none, 5, pU (X % 2 ^ 52)⟩, ⟨none, none, 6, pI (((X / 2 ^ 52) % 2 ^ 11 : Nat) : Int)⟩]) hI rfl rfl rfl [0, 1, 3, 7, 15, 31, 63, 127] (by kernel_rfl) (by kernel_rfl) ?_ [0] [0, 1, 8, 9] rfl rfl fun a w hI => ?_
  · exact ⟨op_move (.tmp 1 rfl rfl) (.here 2 rfl), op_andMask (k := 52) (.tmp 2 rfl rfl) (.const _) hx (by decide) (by decide) (.here 3 rfl), op_move (.tmp 1 rfl rfl) (.here 4 rfl), op_shr (s := 52) (.tmp 4 rfl rfl) (.const _) (by decide) (.here 5 rfl), op_andMask (k := 11) (.tmp 5 rfl rfl) (.const _) (Nat.lt_of_le_of_lt (Nat.div_le_self _ _) hx) (by decide) (by decide) (.here 6 rfl), op_conv (.tmp 6 rfl rfl) (fun _ => by kernel_rfl) (.at_ 7 _ _ rfl (pI_wrap (by omega))), op_assign (.tmp 3 rfl rfl) (.here 8 rfl), op_assign (.tmp 7 rfl rfl) (.here 9 rfl), trivial⟩
  refine wp_seq ?_
  refine seq_text (V1 := [⟨2, 2, none, none, .ptr, 29, 3, true, pv (pRat 0), []⟩]) (A1 := []) (G1 := [⟨none, none, 3, pI 0⟩, ⟨none, none, 4, pU X⟩, ⟨none, none, 5, pU (X % 2 ^ 52)⟩, ⟨none, none, 6, pI (((X / 2 ^ 52) % 2 ^ 11 : Nat) : Int)⟩, ⟨some 0, none, 22, pI (((X / 2 ^ 52) % 2 ^ 11 : Nat) : Int)⟩, ⟨some 1, none, 23, pB ((((X / 2 ^ 52) % 2 ^ 11 : Nat) : Int) == (0 : Int))⟩]) (V2 := [⟨2, 2, none, none, .ptr, 29, 3, true, pv (pRat 0), []⟩]) (G2 := [⟨none, none, 3, pI 0⟩, ⟨none, none, 4, pU X⟩, ⟨none, none, 5, pU (X % 2 ^ 52)⟩, ⟨none, none, 6, pI (((X / 2 ^ 52) % 2 ^ 11 : Nat) : Int)⟩, ⟨none, none, 23, pB ((((X / 2 ^ 52) % 2 ^ 11 : Nat) : Int) == (0 : Int))⟩]) hI rfl rfl rfl [0, 1] (by kernel_rfl) (by kernel_rfl) ?_ [0] [0, 1, 2, 3, 5] rfl rfl fun a w hI => ?_
  · exact ⟨op_move (.tmp 3 rfl rfl) (.here 4 rfl), op_bin (v := .bool (((((X / 2 ^ 52) % 2 ^ 11 : Nat) : Int) == (0 : Int)))) (.tmp 4 rfl rfl) (.const _) (fun _ => rfl) (.here 5 rfl), trivial⟩
  refine wp_joinT (fun a w => Inv ⟨48, w0, M, fun _ => False⟩ [⟨2, 2, none, none, .ptr, 29, 3, true, pv (pRat 0), []⟩] [] [⟨none, none, 3, pI 0⟩, ⟨none, none, 4, pU X⟩, ⟨none, none, 5, pU (manW Ieee.double X)⟩, ⟨none, none, 6, pI (placeW Ieee.double X + (1075 : Int))⟩] none_ a w) ?_ ?_
  ·
    refine cond_if hI 4 rfl (fun ht => ?_) (fun ht => ?_)
    · have t1 := eq_of_beq ht
      refine sem_text (V1 := [⟨2, 2, none, none, .ptr, 29, 3, true, pv (pRat 0), []⟩]) (A1 := []) (G1 := [⟨none, none, 3, pI 0⟩, ⟨none, none, 4, pU X⟩, ⟨none, none, 5, pU (X % 2 ^ 52)⟩, ⟨none, some 0, 6, pI (((X / 2 ^ 52) % 2 ^ 11 : Nat) : Int)⟩, ⟨none, none, 23, pB ((((X / 2 ^ 52) % 2 ^ 11 : Nat) : Int) == (0 : Int))⟩, ⟨some 0, none, 6, pI 1⟩]) (V2 := [⟨2, 2, none, none, .ptr, 29, 3, true, pv (pRat 0), []⟩]) (G2 := [⟨none, none, 3, pI 0⟩, ⟨none, none, 4, pU X⟩, ⟨none, none, 5, pU (X % 2 ^ 52)⟩, ⟨none, none, 6, pI 1⟩]) hI rfl rfl rfl [0] (by kernel_rfl) (by kernel_rfl) ?_ [0] [0, 1, 2, 4] rfl rfl fun a w hI => ?_
      · exact ⟨op_assign (.const _) (.here 5 rfl), trivial⟩
      refine then_of ?_
      exact (hI.conv ⟨⟨0, _, _, rfl, ⟨rfl, rfl, rfl⟩, rfl, fun _ => fun _ _ h => h⟩, trivial⟩ ⟨⟨rfl, rfl, 0, _, rfl, fun _ _ h => h⟩, ⟨rfl, rfl, 1, _, rfl, fun _ _ h => h⟩, ⟨rfl, rfl, 2, _, rfl, (pU_eqF (man_cast X (by omega)))⟩, ⟨rfl, rfl, 3, _, rfl, (pI_eq (exp_cast X (by omega)))⟩, trivial⟩)
    · have t2 := beq_eq_false_iff_ne.1 ht
      refine sem_text (V1 := [⟨2, 2, none, none, .ptr, 29, 3, true, pv (pRat 0), []⟩]) (A1 := []) (G1 := [⟨none, none, 3, pI 0⟩, ⟨none, none, 4, pU X⟩, ⟨none, some 2, 5, pU (X % 2 ^ 52)⟩, ⟨none, none, 6, pI (((X / 2 ^ 52) % 2 ^ 11 : Nat) : Int)⟩, ⟨none, none, 23, pB ((((X / 2 ^ 52) % 2 ^ 11 : Nat) : Int) == (0 : Int))⟩, ⟨some 0, none, 24, pU (X % 2 ^ 52)⟩, ⟨some 1, none, 25, pU (X % 2 ^ 52 + 2 ^ 52)⟩, ⟨some 2, none, 5, pU (X % 2 ^ 52 + 2 ^ 52)⟩]) (V2 := [⟨2, 2, none, none, .ptr, 29, 3, true, pv (pRat 0), []⟩]) (G2 := [⟨none, none, 3, pI 0⟩, ⟨none, none, 4, pU X⟩, ⟨none, none, 6, pI (((X / 2 ^ 52) % 2 ^ 11 : Nat) : Int)⟩, ⟨none, none, 5, pU (X % 2 ^ 52 + 2 ^ 52)⟩]) hI rfl rfl rfl [0, 1, 3] (by kernel_rfl) (by kernel_rfl) ?_ [0] [0, 1, 2, 6] rfl rfl fun a w hI => ?_
      · exact ⟨op_move (.tmp 2 rfl rfl) (.here 5 rfl), op_orDisj (q := 1) (k := 52) (.tmp 5 rfl rfl) (.const _) rfl (Nat.mod_lt _ (by decide)) (by omega) (by omega) (.here 6 rfl), op_assign (.tmp 6 rfl rfl) (.here 7 rfl), trivial⟩
      refine then_of ?_
      exact (hI.conv ⟨⟨0, _, _, rfl, ⟨rfl, rfl, rfl⟩, rfl, fun _ => fun _ _ h => h⟩, trivial⟩ ⟨⟨rfl, rfl, 0, _, rfl, fun _ _ h => h⟩, ⟨rfl, rfl, 1, _, rfl, fun _ _ h => h⟩, ⟨rfl, rfl, 3, _, rfl, (pU_eqF (man_cast2 X (by omega)))⟩, ⟨rfl, rfl, 2, _, rfl, (pI_eq (exp_cast2 X (by omega)))⟩, trivial⟩)
  ·
    intro a w hI
    refine wp_seq ?_
    refine seq_text (V1 := [⟨2, 2, none, none, .ptr, 29, 3, true, pv (pRat 0), []⟩]) (A1 := []) (G1 := [⟨none, none, 3, pI 0⟩, ⟨none, none, 4, pU X⟩, ⟨none, none, 5, pU (manW Ieee.double X)⟩, ⟨none, none, 6, pI (placeW Ieee.double X + (1075 : Int))⟩, ⟨some 0, none, 26, pI (placeW Ieee.double X + (1075 : Int))⟩, ⟨some 1, none, 27, pB (decide ((placeW Ieee.double X + (1075 : Int)) ≥ (1075 : Int)))⟩]) (V2 := [⟨2, 2, none, none, .ptr, 29, 3, true, pv (pRat 0), []⟩]) (G2 := [⟨none, none, 3, pI 0⟩, ⟨none, none, 4, pU X⟩, ⟨none, none, 5, pU (manW Ieee.double X)⟩, ⟨none, none, 6, pI (placeW Ieee.double X + (1075 : Int))⟩, ⟨none, none, 27, pB (decide ((placeW Ieee.double X + (1075 : Int)) ≥ (1075 : Int)))⟩]) hI rfl rfl rfl [0, 1] (by kernel_rfl) (by kernel_rfl) ?_ [0] [0, 1, 2, 3, 5] rfl rfl fun a w hI => ?_
    · exact ⟨op_move (.tmp 3 rfl rfl) (.here 4 rfl), op_bin (v := .bool (decide ((placeW Ieee.double X + (1075 : Int)) ≥ (1075 : Int)))) (.tmp 4 rfl rfl) (.const _) (fun _ => rfl) (.here 5 rfl), trivial⟩
    refine cond_if hI 4 rfl (fun ht => ?_) (fun ht => ?_)
    · have t3 := of_decide_eq_true ht
      refine seq_text (V1 := [⟨2, 2, none, none, .ptr, 29, 3, true, pv (pRat 0), [(10, pv (pRat (redR (((X / 2 ^ 63 : Nat) : Int) == (1 : Int)) ((manW Ieee.double X) * 2 ^ (placeW Ieee.double X).toNat) 1)))]⟩]) (A1 := []) (G1 := [⟨none, some 11, 3, pI 0⟩, ⟨none, none, 4, pU X⟩, ⟨none, none, 5, pU (manW Ieee.double X)⟩, ⟨none, none, 6, pI (placeW Ieee.double X + (1075 : Int))⟩, ⟨none, none, 27, pB (decide ((placeW Ieee.double X + (1075 : Int)) ≥ (1075 : Int)))⟩, ⟨some 0, none, 28, pU X⟩, ⟨some 1, none, 29, pU (X / 2 ^ 63)⟩, ⟨some 2, none, 30, pB (((X / 2 ^ 63 : Nat) : Int) == (1 : Int))⟩, ⟨some 3, none, 31, pU (manW Ieee.double X)⟩, ⟨some 4, none, 32, pNum (manW Ieee.double X)⟩, ⟨some 5, none, 33, pI (placeW Ieee.double X + (1075 : Int))⟩, ⟨some 6, none, 34, pI (placeW Ieee.double X)⟩, ⟨some 7, none, 35, pNum ((manW Ieee.double X) * 2 ^ (placeW Ieee.double X).toNat)⟩, ⟨some 8, none, 36, pNum 1⟩, ⟨some 9, none, 37, pRat (redR (((X / 2 ^ 63 : Nat) : Int) == (1 : Int)) ((manW Ieee.double X) * 2 ^ (placeW Ieee.double X).toNat) 1)⟩, ⟨some 11, none, 3, pI 0⟩]) (V2 := [⟨2, 2, none, none, .ptr, 29, 3, true, pv (pRat (redR (((X / 2 ^ 63 : Nat) : Int) == (1 : Int)) ((manW Ieee.double X) * 2 ^ (placeW Ieee.double X).toNat) 1)), []⟩]) (G2 := [⟨none, none, 4, pU X⟩, ⟨none, none, 5, pU (manW Ieee.double X)⟩, ⟨none, none, 6, pI (placeW Ieee.double X + (1075 : Int))⟩, ⟨none, none, 3, pI 0⟩]) hI rfl rfl rfl [0, 1, 3, 7, 15, 31, 63, 127, 255, 511, 1023, 2047] (by kernel_rfl) (by kernel_rfl) ?_ [0] [0, 1, 2, 14] rfl rfl fun a w hI => ?_
      · exact ⟨op_move (.tmp 1 rfl rfl) (.here 5 rfl), op_shr (s := 63) (.tmp 5 rfl rfl) (.const _) (by decide) (.here 6 rfl), op_bin (v := .bool ((((X / 2 ^ 63 : Nat) : Int) == (1 : Int)))) (.tmp 6 rfl rfl) (.const _) (fun _ => rfl) (.here 7 rfl), op_move (.tmp 2 rfl rfl) (.here 8 rfl), op_call1 (fun _ _ => by kernel_rfl) (numlike_num _) (.tmp 8 rfl rfl) (.here 9 rfl) (c_word hmb), op_move (.tmp 3 rfl rfl) (.here 10 rfl), op_bin (.tmp 10 rfl rfl) (.const _) (fun w => (bin_sub (by omega) w).trans (by rw [Int.add_sub_cancel])) (.here 11 rfl), op_call2 (fun _ _ => by kernel_rfl) (numlike_num _) (.tmp 9 rfl rfl) (.tmp 11 rfl rfl) (.here 12 rfl) (c_left (bd_word hmb) (by omega) (by omega) (by omega)), op_call1 (fun _ _ => by kernel_rfl) (numlike_num _) (.const _) (.here 13 rfl) (c_word (n := 1) (by decide)), op_call3 (fun _ _ => by kernel_rfl) (numlike_rat _) (.tmp 7 rfl rfl) (.tmp 12 rfl rfl) (.tmp 13 rfl rfl) (.here 14 rfl) (c_reduced (j := 2200) (bd_shl hbd.1 (by omega)) (hb1) (by decide) (by omega)), op_store 0 rfl rfl rfl rfl 0 rfl (by kernel_rfl) (by kernel_rfl) ty_Ratio (.tmp 14 rfl rfl) (fits_rat _), op_assign (.const _) (.here 15 rfl), trivial⟩
      refine wp_ret ?_
      refine then_ret ?_
      exact fin2 hI rfl (.imp (.cell 0 rfl rfl rfl rfl ty_Ratio rfl) (pRat_eqF (fx_hi hx t3))) (.tmp 3 rfl)
    · have t4 := of_decide_eq_false ht
      refine wp_skip ?_
      refine then_of ?_
      refine seq_text (V1 := [⟨2, 2, none, none, .ptr, 29, 3, true, pv (pRat 0), [(10, pv (pRat (redR (((X / 2 ^ 63 : Nat) : Int) == (1 : Int)) (manW Ieee.double X) (1 * 2 ^ (-(placeW Ieee.double X)).toNat))))]⟩]) (A1 := []) (G1 := [⟨none, some 11, 3, pI 0⟩, ⟨none, none, 4, pU X⟩, ⟨none, none, 5, pU (manW Ieee.double X)⟩, ⟨none, none, 6, pI (placeW Ieee.double X + (1075 : Int))⟩, ⟨none, none, 27, pB (decide ((placeW Ieee.double X + (1075 : Int)) ≥ (1075 : Int)))⟩, ⟨some 0, none, 38, pU X⟩, ⟨some 1, none, 39, pU (X / 2 ^ 63)⟩, ⟨some 2, none, 40, pB (((X / 2 ^ 63 : Nat) : Int) == (1 : Int))⟩, ⟨some 3, none, 41, pU (manW Ieee.double X)⟩, ⟨some 4, none, 42, pNum (manW Ieee.double X)⟩, ⟨some 5, none, 43, pNum 1⟩, ⟨some 6, none, 44, pI (placeW Ieee.double X + (1075 : Int))⟩, ⟨some 7, none, 45, pI (-(placeW Ieee.double X))⟩, ⟨some 8, none, 46, pNum (1 * 2 ^ (-(placeW Ieee.double X)).toNat)⟩, ⟨some 9, none, 47, pRat (redR (((X / 2 ^ 63 : Nat) : Int) == (1 : Int)) (manW Ieee.double X) (1 * 2 ^ (-(placeW Ieee.double X)).toNat))⟩, ⟨some 11, none, 3, pI 0⟩]) (V2 := [⟨2, 2, none, none, .ptr, 29, 3, true, pv (pRat (redR (((X / 2 ^ 63 : Nat) : Int) == (1 : Int)) (manW Ieee.double X) (1 * 2 ^ (-(placeW Ieee.double X)).toNat))), []⟩]) (G2 := [⟨none, none, 3, pI 0⟩]) hI rfl rfl rfl [0, 1, 3, 7, 15, 31, 63, 127, 255, 511, 1023, 2047] (by kernel_rfl) (by kernel_rfl) ?_ [0] [14] rfl rfl fun a w hI => ?_
      · exact ⟨op_move (.tmp 1 rfl rfl) (.here 5 rfl), op_shr (s := 63) (.tmp 5 rfl rfl) (.const _) (by decide) (.here 6 rfl), op_bin (v := .bool ((((X / 2 ^ 63 : Nat) : Int) == (1 : Int)))) (.tmp 6 rfl rfl) (.const _) (fun _ => rfl) (.here 7 rfl), op_move (.tmp 2 rfl rfl) (.here 8 rfl), op_call1 (fun _ _ => by kernel_rfl) (numlike_num _) (.tmp 8 rfl rfl) (.here 9 rfl) (c_word hmb), op_call1 (fun _ _ => by kernel_rfl) (numlike_num _) (.const _) (.here 10 rfl) (c_word (n := 1) (by decide)), op_move (.tmp 3 rfl rfl) (.here 11 rfl), op_bin (.const _) (.tmp 11 rfl rfl) (fun w => (bin_sub (by omega) w).trans (by rw [show (1075 : Int) - (placeW Ieee.double X + 1075) = -(placeW Ieee.double X) by omega])) (.here 12 rfl), op_call2 (fun _ _ => by kernel_rfl) (numlike_num _) (.tmp 10 rfl rfl) (.tmp 12 rfl rfl) (.here 13 rfl) (c_left bd_one (by omega) (by omega) (by omega)), op_call3 (fun _ _ => by kernel_rfl) (numlike_rat _) (.tmp 7 rfl rfl) (.tmp 9 rfl rfl) (.tmp 13 rfl rfl) (.here 14 rfl) (c_reduced (j := 2200) (hm53.mono (by omega)) (by rw [Nat.one_mul]; exact bd_pw (by omega)) (Nat.mul_pos (by decide) (Nat.two_pow_pos _)) (by omega)), op_store 0 rfl rfl rfl rfl 0 rfl (by kernel_rfl) (by kernel_rfl) ty_Ratio (.tmp 14 rfl rfl) (fits_rat _), op_assign (.const _) (.here 15 rfl), trivial⟩
      refine wp_ret ?_
      exact fin2 hI rfl (.imp (.cell 0 rfl rfl rfl rfl ty_Ratio rfl) (pRat_eqF (fx_lo hx t4))) (.tmp 0 rfl)
theorem c_Float_bad {X : Nat} (hx : X < 2 ^ 64) (hf : ¬ FinW Ieee.double X) : ∀ (M : Nat → Nat → Prop) (w : World) (v0 : Value), Mid M w → Box M (fun w => (pF X) w v0) w → Calls Tryz.prog 23 #[v0] w (RetB M (pTup2 (pRat 0) (pI 1)) w) := by
  intro M w0 v0 hM hv0
  have hb1 : Bd 2200 1 := bd_pw (a := 0) (by omega)
  refine calls_start (N := 48) Tryz.func23 rfl rfl rfl hM (show EntsA M w0 [v0] [⟨none, none, 0, pF X⟩] from ⟨⟨rfl, _, rfl, hv0⟩, trivial⟩) fun a hI => ?_
  refine seq_text (V1 := [⟨2, 2, some 0, none, .ptr, 29, 3, true, pv (pRat 0), []⟩]) (A1 := []) (G1 := [⟨none, none, 0, pF X⟩, ⟨some 1, none, 3, pI 0⟩]) (V2 := [⟨2, 2, none, none, .ptr, 29, 3, true, pv (pRat 0), []⟩]) (G2 := [⟨none, none, 0, pF X⟩, ⟨none, none, 3, pI 0⟩]) hI rfl rfl rfl [0, 1] (by kernel_rfl) (by kernel_rfl) ?_ [0] [0, 1] rfl rfl fun a w hI => ?_
  · exact ⟨op_alloc 0 rfl rfl (by kernel_rfl) (by kernel_rfl) rfl rfl rfl zv_Ratio rfl rfl (by simp [NoU]) rfl (fun w => isRat_zero w), op_assign (.const _) (.here 1 rfl), trivial⟩
  refine wp_seq ?_
  refine seq_text (V1 := [⟨2, 2, none, none, .ptr, 29, 3, true, pv (pRat 0), []⟩]) (A1 := []) (G1 := [⟨none, none, 0, pF X⟩, ⟨none, none, 3, pI 0⟩, ⟨some 0, none, 7, pF X⟩, ⟨some 1, none, 8, pB (Ieee.double.order X X != some .eq)⟩, ⟨some 2, none, 9, pB (Ieee.double.order X X != some .eq)⟩, ⟨some 3, none, 10, pSel ((Ieee.double.order X X != some .eq) = false) (pF X)⟩, ⟨some 4, none, 11, pSel ((Ieee.double.order X X != some .eq) = false) (pB (Ieee.double.order (X % 2 ^ 63) 9218868437227405311 == some .gt))⟩, ⟨some 5, none, 12, pB true⟩]) (V2 := [⟨2, 2, none, none, .ptr, 29, 3, true, pv (pRat 0), []⟩]) (G2 := [⟨none, none, 0, pF X⟩, ⟨none, none, 3, pI 0⟩, ⟨none, none, 12, pB true⟩]) hI rfl rfl rfl [0, 1, 3, 7, 15, 31] (by kernel_rfl) (by kernel_rfl) ?_ [0] [0, 1, 7] rfl rfl fun a w hI => ?_
  · exact ⟨op_move (.tmp 0 rfl rfl) (.here 2 rfl), op_callB1 (fun _ _ => by kernel_rfl) (.tmp 2 rfl rfl) (.here 3 rfl) (c_isnanA), op_move (.tmp 3 rfl rfl) (.here 4 rfl), op_if 4 rfl rfl (fun hc => op_move (.tmp 0 rfl rfl) (.sel hc 5 rfl)) (by kernel_rfl) (fun _ => .none (by kernel_rfl)) (fun hc => .sel_no hc 5 rfl), op_if 4 rfl rfl (fun hc => op_callB2 (fun _ _ => by kernel_rfl) (.sel (.tmp 5 rfl rfl) hc) (.const _) (.sel hc 6 rfl) (c_isinfA hx)) (by kernel_rfl) (fun _ => .none (by kernel_rfl)) (fun hc => .sel_no hc 6 rfl), op_pick (.tmp 4 rfl rfl) (fun h => .imp (.const _) fun _ _ e => by rw [h]; exact e) (fun h => .imp (.sel (.tmp 6 rfl rfl) (h)) fun _ _ e => by rw [h]; exact e) (.at_ 7 _ _ rfl (pB_eq (show ((Ieee.double.order X X != some .eq) || (Ieee.double.order (X % 2 ^ 63) 9218868437227405311 == some .gt)) = true from fin_test.trans (decide_eq_true (Decidable.not_not.1 fun h => hf (dbl_fin.2 h)))))), trivial⟩
  refine cond_yes hI 2 rfl ?_
  refine seq_text (V1 := [⟨2, 2, none, none, .ptr, 29, 3, true, pv (pRat 0), [(1, pv (pRat 0))]⟩]) (A1 := []) (G1 := [⟨none, none, 0, pF X⟩, ⟨none, some 2, 3, pI 0⟩, ⟨none, none, 12, pB true⟩, ⟨some 0, none, 13, pRat 0⟩, ⟨some 2, none, 3, pI 1⟩]) (V2 := [⟨2, 2, none, none, .ptr, 29, 3, true, pv (pRat 0), []⟩]) (G2 := [⟨none, none, 0, pF X⟩, ⟨none, none, 3, pI 1⟩]) hI rfl rfl rfl [0, 1, 3] (by kernel_rfl) (by kernel_rfl) ?_ [0] [0, 3] rfl rfl fun a w hI => ?_
  · exact ⟨op_zero bt_Ratio (fun w => isRat_zero w) (.here 3 rfl), op_store 0 rfl rfl rfl rfl 0 rfl (by kernel_rfl) (by kernel_rfl) ty_Ratio (.tmp 3 rfl rfl) (fits_rat _), op_assign (.const _) (.here 4 rfl), trivial⟩
  refine wp_ret ?_
  refine then_ret ?_
  exact fin2 hI rfl (.cell 0 rfl rfl rfl rfl ty_Ratio rfl) (.tmp 1 rfl)
theorem cn_Float_ok {X : Nat} (hx : X < 2 ^ 64) (hf : FinW Ieee.double X) : ∀ (M : Nat → Nat → Prop) (w : World) (v0 : Value), Mid M w → Box M (fun w => (pF X) w v0) w → Calls Tryz.prog 24 #[v0] w (RetB M (pTup2 (pRef (floatX X)) (pI 0)) w) := by
  intro M w0 v0 hM hv0
  have hb1 : Bd 2200 1 := bd_pw (a := 0) (by omega)
  have hbd : manW Ieee.double X < 2 ^ 53 ∧ -1074 ≤ placeW Ieee.double X ∧ placeW Ieee.double X ≤ 971 := dbl_bounds hf
  have hmb : manW Ieee.double X < b64 := Nat.lt_of_lt_of_le hbd.1 (by decide)
  have hm53 : Bd 53 (manW Ieee.double X) := hbd.1
  refine calls_start (N := 37) Tryz.func24 rfl rfl rfl hM (show EntsA M w0 [v0] [⟨none, none, 0, pF X⟩] from ⟨⟨rfl, _, rfl, hv0⟩, trivial⟩) fun a hI => ?_
  refine seq_text (V1 := [⟨2, 2, some 0, none, .ptr, 33, 3, true, pv pAny, []⟩]) (A1 := []) (G1 := [⟨none, none, 0, pF X⟩, ⟨some 1, none, 3, pI 0⟩]) (V2 := [⟨2, 2, none, none, .ptr, 33, 3, true, pv pAny, []⟩]) (G2 := [⟨none, none, 0, pF X⟩, ⟨none, none, 3, pI 0⟩]) hI rfl rfl rfl [0, 1] (by kernel_rfl) (by kernel_rfl) ?_ [0] [0, 1] rfl rfl fun a w hI => ?_
  · exact ⟨op_alloc 0 rfl rfl (by kernel_rfl) (by kernel_rfl) rfl rfl rfl zv_R rfl rfl (by simp [NoU]) rfl (fun _ => trivial), op_assign (.const _) (.here 1 rfl), trivial⟩
  refine seq_text (V1 := [⟨2, 2, none, none, .ptr, 33, 3, true, pv pAny, []⟩]) (A1 := []) (G1 := [⟨none, none, 0, pF X⟩, ⟨none, none, 3, pI 0⟩, ⟨some 0, none, 8, pF X⟩, ⟨some 1, none, 9, pU X⟩, ⟨some 2, none, 4, pU X⟩]) (V2 := [⟨2, 2, none, none, .ptr, 33, 3, true, pv pAny, []⟩]) (G2 := [⟨none, none, 3, pI 0⟩, ⟨none, none, 4, pU X⟩]) hI rfl rfl rfl [0, 1, 3] (by kernel_rfl) (by kernel_rfl) ?_ [0] [1, 4] rfl rfl fun a w hI => ?_
  · exact ⟨op_move (.tmp 0 rfl rfl) (.here 2 rfl), op_native1 (.tmp 2 rfl rfl) (fun _ => by kernel_rfl) (.here 3 rfl), op_assign (.tmp 3 rfl rfl) (.here 4 rfl), trivial⟩
  refine seq_text (V1 := [⟨2, 2, none, none, .ptr, 33, 3, true, pv pAny, []⟩]) (A1 := []) (G1 := [⟨none, none, 3, pI 0⟩, ⟨none, none, 4, pU X⟩, ⟨some 0, none, 10, pU X⟩, ⟨some 1, none, 11, pU (X / 2 ^ 52)⟩, ⟨some 2, none, 12, pU ((X / 2 ^ 52) % 2 ^ 11)⟩, ⟨some 3, none, 13, pI (((X / 2 ^ 52) % 2 ^ 11 : Nat) : Int)⟩, ⟨some 4, none, 5, pI (((X / 2 ^ 52) % 2 ^ 11 : Nat) : Int)⟩]) (V2 := [⟨2, 2, none, none, .ptr, 33, 3, true, pv pAny, []⟩]) (G2 := [⟨none, none, 3, pI 0⟩, ⟨none, none, 4, pU X⟩, ⟨none, none, 5, pI (((X / 2 ^ 52) % 2 ^ 11 : Nat) : Int)⟩]) hI rfl rfl rfl [0, 1, 3, 7, 15] (by kernel_rfl) (by kernel_rfl) ?_ [0] [0, 1, 6] rfl rfl fun a w hI => ?_
  · exact ⟨op_move (.tmp 1 rfl rfl) (.here 2 rfl), op_shr (s := 52) (.tmp 2 rfl rfl) (.const _) (by decide) (.here 3 rfl), op_andMask (k := 11) (.tmp 3 rfl rfl) (.const _) (Nat.lt_of_le_of_lt (Nat.div_le_self _ _) hx) (by decide) (by decide) (.here 4 rfl), op_conv (.tmp 4 rfl rfl) (fun _ => by kernel_rfl) (.at_ 5 _ _ rfl (pI_wrap (by omega))), op_assign (.tmp 5 rfl rfl) (.here 6 rfl), trivial⟩
  refine wp_seq ?_
  refine seq_text (V1 := [⟨2, 2, none, none, .ptr, 33, 3, true, pv pAny, []⟩]) (A1 := []) (G1 := [⟨none, none, 3, pI 0⟩, ⟨none, none, 4, pU X⟩, ⟨none, none, 5, pI (((X / 2 ^ 52) % 2 ^ 11 : Nat) : Int)⟩, ⟨some 0, none, 14, pI (((X / 2 ^ 52) % 2 ^ 11 : Nat) : Int)⟩, ⟨some 1, none, 15, pB false⟩]) (V2 := [⟨2, 2, none, none, .ptr, 33, 3, true, pv pAny, []⟩]) (G2 := [⟨none, none, 3, pI 0⟩, ⟨none, none, 4, pU X⟩, ⟨none, none, 5, pI (((X / 2 ^ 52) % 2 ^ 11 : Nat) : Int)⟩, ⟨none, none, 15, pB false⟩]) hI rfl rfl rfl [0, 1] (by kernel_rfl) (by kernel_rfl) ?_ [0] [0, 1, 2, 4] rfl rfl fun a w hI => ?_
  · exact ⟨op_move (.tmp 2 rfl rfl) (.here 3 rfl), op_bin (v := .bool (((((X / 2 ^ 52) % 2 ^ 11 : Nat) : Int) == (2047 : Int)))) (.tmp 3 rfl rfl) (.const _) (fun _ => rfl) (.at_ 4 _ _ rfl (pB_eq (show (((X / 2 ^ 52 % 2 ^ 11 : Nat) : Int) == (2047 : Int)) = false from beq_eq_false_iff_ne.2 (fun h => dbl_fin.1 hf (by omega))))), trivial⟩
  refine cond_no hI 3 rfl ?_
  refine wp_skip ?_
  refine then_of ?_
  refine seq_text (V1 := [⟨2, 2, none, none, .ptr, 33, 3, true, pv pAny, []⟩]) (A1 := []) (G1 := [⟨none, none, 3, pI 0⟩, ⟨none, none, 4, pU X⟩, ⟨none, none, 5, pI (((X / 2 ^ 52) % 2 ^ 11 : Nat) : Int)⟩, ⟨none, none, 15, pB false⟩, ⟨some 0, none, 17, pU X⟩, ⟨some 1, none, 18, pU (X % 2 ^ 52)⟩, ⟨some 2, none, 6, pU (X % 2 ^ 52)⟩]) (V2 := [⟨2, 2, none, none, .ptr, 33, 3, true, pv pAny, []⟩]) (G2 := [⟨none, none, 3, pI 0⟩, ⟨none, none, 4, pU X⟩, ⟨none, none, 5, pI (((X / 2 ^ 52) % 2 ^ 11 : Nat) : Int)⟩, ⟨none, none, 6, pU (X % 2 ^ 52)⟩]) hI rfl rfl rfl [0, 1, 3] (by kernel_rfl) (by kernel_rfl) ?_ [0] [0, 1, 2, 6] rfl rfl fun a w hI => ?_
  · exact ⟨op_move (.tmp 1 rfl rfl) (.here 4 rfl), op_andMask (k := 52) (.tmp 4 rfl rfl) (.const _) hx (by decide) (by decide) (.here 5 rfl), op_assign (.tmp 5 rfl rfl) (.here 6 rfl), trivial⟩
  refine wp_seq ?_
  refine seq_text (V1 := [⟨2, 2, none, none, .ptr, 33, 3, true, pv pAny, []⟩]) (A1 := []) (G1 := [⟨none, none, 3, pI 0⟩, ⟨none, none, 4, pU X⟩, ⟨none, none, 5, pI (((X / 2 ^ 52) % 2 ^ 11 : Nat) : Int)⟩, ⟨none, none, 6, pU (X % 2 ^ 52)⟩, ⟨some 0, none, 19, pI (((X / 2 ^ 52) % 2 ^ 11 : Nat) : Int)⟩, ⟨some 1, none, 20, pB (decide ((((X / 2 ^ 52) % 2 ^ 11 : Nat) : Int) > (0 : Int)))⟩]) (V2 := [⟨2, 2, none, none, .ptr, 33, 3, true, pv pAny, []⟩]) (G2 := [⟨none, none, 3, pI 0⟩, ⟨none, none, 4, pU X⟩, ⟨none, none, 5, pI (((X / 2 ^ 52) % 2 ^ 11 : Nat) : Int)⟩, ⟨none, none, 6, pU (X % 2 ^ 52)⟩, ⟨none, none, 20, pB (decide ((((X / 2 ^ 52) % 2 ^ 11 : Nat) : Int) > (0 : Int)))⟩]) hI rfl rfl rfl [0, 1] (by kernel_rfl) (by kernel_rfl) ?_ [0] [0, 1, 2, 3, 5] rfl rfl fun a w hI => ?_
  · exact ⟨op_move (.tmp 2 rfl rfl) (.here 4 rfl), op_bin (v := .bool (decide ((((X / 2 ^ 52) % 2 ^ 11 : Nat) : Int) > (0 : Int)))) (.tmp 4 rfl rfl) (.const _) (fun _ => rfl) (.here 5 rfl), trivial⟩
  refine wp_joinT (fun a w => Inv ⟨37, w0, M, fun _ => False⟩ [⟨2, 2, none, none, .ptr, 33, 3, true, pv pAny, []⟩] [] [⟨none, none, 3, pI 0⟩, ⟨none, none, 4, pU X⟩, ⟨none, none, 5, pI (placeW Ieee.double X + (1075 : Int))⟩, ⟨none, none, 6, pU (manW Ieee.double X)⟩] none_ a w) ?_ ?_
  ·
    refine cond_if hI 4 rfl (fun ht => ?_) (fun ht => ?_)
    · have t1 := of_decide_eq_true ht
      refine sem_text (V1 := [⟨2, 2, none, none, .ptr, 33, 3, true, pv pAny, []⟩]) (A1 := []) (G1 := [⟨none, none, 3, pI 0⟩, ⟨none, none, 4, pU X⟩, ⟨none, none, 5, pI (((X / 2 ^ 52) % 2 ^ 11 : Nat) : Int)⟩, ⟨none, some 2, 6, pU (X % 2 ^ 52)⟩, ⟨none, none, 20, pB (decide ((((X / 2 ^ 52) % 2 ^ 11 : Nat) : Int) > (0 : Int)))⟩, ⟨some 0, none, 21, pU (X % 2 ^ 52)⟩, ⟨some 1, none, 22, pU (X % 2 ^ 52 + 2 ^ 52)⟩, ⟨some 2, none, 6, pU (X % 2 ^ 52 + 2 ^ 52)⟩]) (V2 := [⟨2, 2, none, none, .ptr, 33, 3, true, pv pAny, []⟩]) (G2 := [⟨none, none, 3, pI 0⟩, ⟨none, none, 4, pU X⟩, ⟨none, none, 5, pI (((X / 2 ^ 52) % 2 ^ 11 : Nat) : Int)⟩, ⟨none, none, 6, pU (X % 2 ^ 52 + 2 ^ 52)⟩]) hI rfl rfl rfl [0, 1, 3] (by kernel_rfl) (by kernel_rfl) ?_ [0] [0, 1, 2, 6] rfl rfl fun a w hI => ?_
      · exact ⟨op_move (.tmp 3 rfl rfl) (.here 5 rfl), op_bin (n := ((4503599627370496 : Nat) : Int)) (.tmp 5 rfl rfl) (.const _) (add_u64 (by omega)) (.here 6 rfl), op_assign (.tmp 6 rfl rfl) (.here 7 rfl), trivial⟩
      refine then_of ?_
      exact (hI.conv ⟨⟨0, _, _, rfl, ⟨rfl, rfl, rfl⟩, rfl, fun _ => fun _ _ h => h⟩, trivial⟩ ⟨⟨rfl, rfl, 0, _, rfl, fun _ _ h => h⟩, ⟨rfl, rfl, 1, _, rfl, fun _ _ h => h⟩, ⟨rfl, rfl, 2, _, rfl, (pI_eq (exp_cast2 X (by omega)))⟩, ⟨rfl, rfl, 3, _, rfl, (pU_eqF (man_cast2 X (by omega)))⟩, trivial⟩)
    · have t2 := of_decide_eq_false ht
      refine sem_text (V1 := [⟨2, 2, none, none, .ptr, 33, 3, true, pv pAny, []⟩]) (A1 := []) (G1 := [⟨none, none, 3, pI 0⟩, ⟨none, none, 4, pU X⟩, ⟨none, some 0, 5, pI (((X / 2 ^ 52) % 2 ^ 11 : Nat) : Int)⟩, ⟨none, none, 6, pU (X % 2 ^ 52)⟩, ⟨none, none, 20, pB (decide ((((X / 2 ^ 52) % 2 ^ 11 : Nat) : Int) > (0 : Int)))⟩, ⟨some 0, none, 5, pI 1⟩]) (V2 := [⟨2, 2, none, none, .ptr, 33, 3, true, pv pAny, []⟩]) (G2 := [⟨none, none, 3, pI 0⟩, ⟨none, none, 4, pU X⟩, ⟨none, none, 6, pU (X % 2 ^ 52)⟩, ⟨none, none, 5, pI 1⟩]) hI rfl rfl rfl [0] (by kernel_rfl) (by kernel_rfl) ?_ [0] [0, 1, 2, 4] rfl rfl fun a w hI => ?_
      · exact ⟨op_assign (.const _) (.here 5 rfl), trivial⟩
      refine then_of ?_
      exact (hI.conv ⟨⟨0, _, _, rfl, ⟨rfl, rfl, rfl⟩, rfl, fun _ => fun _ _ h => h⟩, trivial⟩ ⟨⟨rfl, rfl, 0, _, rfl, fun _ _ h => h⟩, ⟨rfl, rfl, 1, _, rfl, fun _ _ h => h⟩, ⟨rfl, rfl, 3, _, rfl, (pI_eq (exp_cast X (by omega)))⟩, ⟨rfl, rfl, 2, _, rfl, (pU_eqF (man_cast X (by omega)))⟩, trivial⟩)
  ·
    intro a w hI
    refine seq_text (V1 := [⟨2, 2, none, none, .ptr, 33, 3, true, pv pAny, []⟩, ⟨7, 7, some 8, none, .ptr, 33, 3, true, pv pAny, [(9, pv (pRef ((redR false (manW Ieee.double X) 1) * (twoR (placeW Ieee.double X)))))]⟩]) (A1 := []) (G1 := [⟨none, none, 3, pI 0⟩, ⟨none, none, 4, pU X⟩, ⟨none, none, 5, pI (placeW Ieee.double X + (1075 : Int))⟩, ⟨none, none, 6, pU (manW Ieee.double X)⟩, ⟨some 0, none, 23, pU (manW Ieee.double X)⟩, ⟨some 1, none, 24, pNatR (manW Ieee.double X)⟩, ⟨some 2, none, 25, pNatR 1⟩, ⟨some 3, none, 26, pRef (redR false (manW Ieee.double X) 1)⟩, ⟨some 4, none, 27, pI (placeW Ieee.double X + (1075 : Int))⟩, ⟨some 5, none, 28, pI (placeW Ieee.double X)⟩, ⟨some 6, none, 29, pRef (twoR (placeW Ieee.double X))⟩, ⟨some 7, none, 30, pRef ((redR false (manW Ieee.double X) 1) * (twoR (placeW Ieee.double X)))⟩]) (V2 := [⟨2, 2, none, none, .ptr, 33, 3, true, pv pAny, []⟩, ⟨7, 7, none, none, .ptr, 33, 3, true, pv (pRef ((redR false (manW Ieee.double X) 1) * (twoR (placeW Ieee.double X)))), []⟩]) (G2 := [⟨none, none, 3, pI 0⟩, ⟨none, none, 4, pU X⟩]) hI rfl rfl rfl [0, 1, 3, 7, 15, 31, 63, 127, 255, 511] (by kernel_rfl) (by kernel_rfl) ?_ [0, 1] [0, 1] rfl rfl fun a w hI => ?_
    · exact ⟨op_move (.tmp 3 rfl rfl) (.here 4 rfl), op_call1 (fun _ _ => by kernel_rfl) (numlike_natR _) (.tmp 4 rfl rfl) (.here 5 rfl) (cn_Nat hmb), op_call1 (fun _ _ => by kernel_rfl) (numlike_natR _) (.const _) (.here 6 rfl) (cn_Nat (n := 1) (by decide)), op_call3 (fun _ _ => by kernel_rfl) (numlike_ref _) (.const _) (.tmp 5 rfl rfl) (.tmp 6 rfl rfl) (.here 7 rfl) (cn_made (j := 53) hm53 (bd_pw (a := 0) (by omega)) (by decide) (by omega)), op_move (.tmp 2 rfl rfl) (.here 8 rfl), op_bin (.tmp 8 rfl rfl) (.const _) (fun w => (bin_sub (by omega) w).trans (by rw [Int.add_sub_cancel])) (.here 9 rfl), op_call1 (fun _ _ => by kernel_rfl) (numlike_ref _) (.tmp 9 rfl rfl) (.here 10 rfl) (cn_two (by omega)), op_call2 (fun _ _ => by kernel_rfl) (numlike_ref _) (.tmp 7 rfl rfl) (.tmp 10 rfl rfl) (.here 11 rfl) (cn_mul (redR_bd (by decide) hm53 (bd_pw (a := 0) (by omega))) (bd_twoR _) (by omega)), op_alloc 1 rfl rfl (by kernel_rfl) (by kernel_rfl) rfl rfl rfl zv_R rfl rfl (by simp [NoU]) rfl (fun _ => trivial), op_store 1 rfl rfl rfl rfl 0 rfl (by kernel_rfl) (by kernel_rfl) ty_R (.tmp 11 rfl rfl) (fits_ref _), trivial⟩
    refine wp_seq ?_
    refine seq_text (V1 := [⟨2, 2, none, none, .ptr, 33, 3, true, pv pAny, []⟩, ⟨7, 7, none, none, .ptr, 33, 3, true, pv (pRef ((redR false (manW Ieee.double X) 1) * (twoR (placeW Ieee.double X)))), []⟩]) (A1 := []) (G1 := [⟨none, none, 3, pI 0⟩, ⟨none, none, 4, pU X⟩, ⟨some 0, none, 31, pU X⟩, ⟨some 1, none, 32, pU (X / 2 ^ 63)⟩, ⟨some 2, none, 33, pB (((X / 2 ^ 63 : Nat) : Int) == (1 : Int))⟩]) (V2 := [⟨2, 2, none, none, .ptr, 33, 3, true, pv pAny, []⟩, ⟨7, 7, none, none, .ptr, 33, 3, true, pv (pRef ((redR false (manW Ieee.double X) 1) * (twoR (placeW Ieee.double X)))), []⟩]) (G2 := [⟨none, none, 3, pI 0⟩, ⟨none, none, 33, pB (((X / 2 ^ 63 : Nat) : Int) == (1 : Int))⟩]) hI rfl rfl rfl [0, 1, 3] (by kernel_rfl) (by kernel_rfl) ?_ [0, 1] [0, 4] rfl rfl fun a w hI => ?_
    · exact ⟨op_move (.tmp 1 rfl rfl) (.here 2 rfl), op_shr (s := 63) (.tmp 2 rfl rfl) (.const _) (by decide) (.here 3 rfl), op_bin (v := .bool ((((X / 2 ^ 63 : Nat) : Int) == (1 : Int)))) (.tmp 3 rfl rfl) (.const _) (fun _ => rfl) (.here 4 rfl), trivial⟩
    refine wp_joinT (fun a w => Inv ⟨37, w0, M, fun _ => False⟩ [⟨2, 2, none, none, .ptr, 33, 3, true, pv pAny, []⟩, ⟨7, 7, none, none, .ptr, 33, 3, true, pv (pRef (floatX X)), []⟩] [] [⟨none, none, 3, pI 0⟩] none_ a w) ?_ ?_
    ·
      refine cond_if hI 1 rfl (fun ht => ?_) (fun ht => ?_)
      · have t3 := eq_of_beq ht
        refine sem_text (V1 := [⟨2, 2, none, none, .ptr, 33, 3, true, pv pAny, []⟩, ⟨7, 7, none, none, .ptr, 33, 3, true, pv (pRef ((redR false (manW Ieee.double X) 1) * (twoR (placeW Ieee.double X)))), [(2, pv (pRef (-((redR false (manW Ieee.double X) 1) * (twoR (placeW Ieee.double X))))))]⟩]) (A1 := []) (G1 := [⟨none, none, 3, pI 0⟩, ⟨none, none, 33, pB (((X / 2 ^ 63 : Nat) : Int) == (1 : Int))⟩, ⟨some 0, none, 34, pRef ((redR false (manW Ieee.double X) 1) * (twoR (placeW Ieee.double X)))⟩, ⟨some 1, none, 35, pRef (-((redR false (manW Ieee.double X) 1) * (twoR (placeW Ieee.double X))))⟩]) (V2 := [⟨2, 2, none, none, .ptr, 33, 3, true, pv pAny, []⟩, ⟨7, 7, none, none, .ptr, 33, 3, true, pv (pRef (-((redR false (manW Ieee.double X) 1) * (twoR (placeW Ieee.double X))))), []⟩]) (G2 := [⟨none, none, 3, pI 0⟩]) hI rfl rfl rfl [0, 1, 3] (by kernel_rfl) (by kernel_rfl) ?_ [0, 1] [0] rfl rfl fun a w hI => ?_
        · exact ⟨op_load 1 rfl rfl rfl rfl (by kernel_rfl) ty_R rfl (.here 2 rfl), op_call1 (fun _ _ => by kernel_rfl) (numlike_ref _) (.tmp 2 rfl rfl) (.here 3 rfl) (cn_neg _), op_store 1 rfl rfl rfl rfl 0 rfl (by kernel_rfl) (by kernel_rfl) ty_R (.tmp 3 rfl rfl) (fits_ref _), trivial⟩
        refine then_of ?_
        exact (hI.conv ⟨⟨0, _, _, rfl, ⟨rfl, rfl, rfl⟩, rfl, fun _ => fun _ _ h => h⟩, ⟨1, _, _, rfl, ⟨rfl, rfl, rfl⟩, rfl, fun _ => (pRef_eq (fx_neg hx t3))⟩, trivial⟩ ⟨⟨rfl, rfl, 0, _, rfl, fun _ _ h => h⟩, trivial⟩)
      · have t4 := beq_eq_false_iff_ne.1 ht
        refine wp_skip ?_
        refine then_of ?_
        exact (hI.conv ⟨⟨0, _, _, rfl, ⟨rfl, rfl, rfl⟩, rfl, fun _ => fun _ _ h => h⟩, ⟨1, _, _, rfl, ⟨rfl, rfl, rfl⟩, rfl, fun _ => (pRef_eq (fx_pos hx t4))⟩, trivial⟩ ⟨⟨rfl, rfl, 0, _, rfl, fun _ _ h => h⟩, trivial⟩)
    ·
      intro a w hI
      refine seq_text (V1 := [⟨2, 2, none, none, .ptr, 33, 3, true, pv pAny, [(1, pv (pRef (floatX X)))]⟩, ⟨7, 7, none, none, .ptr, 33, 3, true, pv (pRef (floatX X)), []⟩]) (A1 := []) (G1 := [⟨none, some 2, 3, pI 0⟩, ⟨some 0, none, 36, pRef (floatX X)⟩, ⟨some 2, none, 3, pI 0⟩]) (V2 := [⟨2, 2, none, none, .ptr, 33, 3, true, pv (pRef (floatX X)), []⟩, ⟨7, 7, none, none, .ptr, 33, 3, true, pv (pRef (floatX X)), []⟩]) (G2 := [⟨none, none, 3, pI 0⟩]) hI rfl rfl rfl [0, 1, 3] (by kernel_rfl) (by kernel_rfl) ?_ [0, 1] [1] rfl rfl fun a w hI => ?_
      · exact ⟨op_load 1 rfl rfl rfl rfl (by kernel_rfl) ty_R rfl (.here 1 rfl), op_store 0 rfl rfl rfl rfl 0 rfl (by kernel_rfl) (by kernel_rfl) ty_R (.tmp 1 rfl rfl) (fits_ref _), op_assign (.const _) (.here 2 rfl), trivial⟩
      refine wp_ret ?_
      exact fin2 hI rfl (.cell 0 rfl rfl rfl rfl ty_R rfl) (.tmp 0 rfl)
theorem cn_Float_bad {X : Nat} (hx : X < 2 ^ 64) (hf : ¬ FinW Ieee.double X) : ∀ (M : Nat → Nat → Prop) (w : World) (v0 : Value), Mid M w → Box M (fun w => (pF X) w v0) w → Calls Tryz.prog 24 #[v0] w (RetB M (pTup2 (pRef 0) (pI 1)) w) := by
  intro M w0 v0 hM hv0
  have hb1 : Bd 2200 1 := bd_pw (a := 0) (by omega)
  have B1 : BdR 64 ((0 : Int) : Rat) := BdR.mono (bd_int (by omega) (by omega)) (by omega)
  refine calls_start (N := 37) Tryz.func24 rfl rfl rfl hM (show EntsA M w0 [v0] [⟨none, none, 0, pF X⟩] from ⟨⟨rfl, _, rfl, hv0⟩, trivial⟩) fun a hI => ?_
  refine seq_text (V1 := [⟨2, 2, some 0, none, .ptr, 33, 3, true, pv pAny, []⟩]) (A1 := []) (G1 := [⟨none, none, 0, pF X⟩, ⟨some 1, none, 3, pI 0⟩]) (V2 := [⟨2, 2, none, none, .ptr, 33, 3, true, pv pAny, []⟩]) (G2 := [⟨none, none, 0, pF X⟩, ⟨none, none, 3, pI 0⟩]) hI rfl rfl rfl [0, 1] (by kernel_rfl) (by kernel_rfl) ?_ [0] [0, 1] rfl rfl fun a w hI => ?_
  · exact ⟨op_alloc 0 rfl rfl (by kernel_rfl) (by kernel_rfl) rfl rfl rfl zv_R rfl rfl (by simp [NoU]) rfl (fun _ => trivial), op_assign (.const _) (.here 1 rfl), trivial⟩
  refine seq_text (V1 := [⟨2, 2, none, none, .ptr, 33, 3, true, pv pAny, []⟩]) (A1 := []) (G1 := [⟨none, none, 0, pF X⟩, ⟨none, none, 3, pI 0⟩, ⟨some 0, none, 8, pF X⟩, ⟨some 1, none, 9, pU X⟩, ⟨some 2, none, 4, pU X⟩]) (V2 := [⟨2, 2, none, none, .ptr, 33, 3, true, pv pAny, []⟩]) (G2 := [⟨none, none, 3, pI 0⟩, ⟨none, none, 4, pU X⟩]) hI rfl rfl rfl [0, 1, 3] (by kernel_rfl) (by kernel_rfl) ?_ [0] [1, 4] rfl rfl fun a w hI => ?_
  · exact ⟨op_move (.tmp 0 rfl rfl) (.here 2 rfl), op_native1 (.tmp 2 rfl rfl) (fun _ => by kernel_rfl) (.here 3 rfl), op_assign (.tmp 3 rfl rfl) (.here 4 rfl), trivial⟩
  refine seq_text (V1 := [⟨2, 2, none, none, .ptr, 33, 3, true, pv pAny, []⟩]) (A1 := []) (G1 := [⟨none, none, 3, pI 0⟩, ⟨none, none, 4, pU X⟩, ⟨some 0, none, 10, pU X⟩, ⟨some 1, none, 11, pU (X / 2 ^ 52)⟩, ⟨some 2, none, 12, pU ((X / 2 ^ 52) % 2 ^ 11)⟩, ⟨some 3, none, 13, pI (((X / 2 ^ 52) % 2 ^ 11 : Nat) : Int)⟩, ⟨some 4, none, 5, pI (((X / 2 ^ 52) % 2 ^ 11 : Nat) : Int)⟩]) (V2 := [⟨2, 2, none, none, .ptr, 33, 3, true, pv pAny, []⟩]) (G2 := [⟨none, none, 3, pI 0⟩, ⟨none, none, 4, pU X⟩, ⟨none, none, 5, pI (((X / 2 ^ 52) % 2 ^ 11 : Nat) : Int)⟩]) hI rfl rfl rfl [0, 1, 3, 7, 15] (by kernel_rfl) (by kernel_rfl) ?_ [0] [0, 1, 6] rfl rfl fun a w hI => ?_
  · exact ⟨op_move (.tmp 1 rfl rfl) (.here 2 rfl), op_shr (s := 52) (.tmp 2 rfl rfl) (.const _) (by decide) (.here 3 rfl), op_andMask (k := 11) (.tmp 3 rfl rfl) (.const _) (Nat.lt_of_le_of_lt (Nat.div_le_self _ _) hx) (by decide) (by decide) (.here 4 rfl), op_conv (.tmp 4 rfl rfl) (fun _ => by kernel_rfl) (.at_ 5 _ _ rfl (pI_wrap (by omega))), op_assign (.tmp 5 rfl rfl) (.here 6 rfl), trivial⟩
  refine wp_seq ?_
  refine seq_text (V1 := [⟨2, 2, none, none, .ptr, 33, 3, true, pv pAny, []⟩]) (A1 := []) (G1 := [⟨none, none, 3, pI 0⟩, ⟨none, none, 4, pU X⟩, ⟨none, none, 5, pI (((X / 2 ^ 52) % 2 ^ 11 : Nat) : Int)⟩, ⟨some 0, none, 14, pI (((X / 2 ^ 52) % 2 ^ 11 : Nat) : Int)⟩, ⟨some 1, none, 15, pB true⟩]) (V2 := [⟨2, 2, none, none, .ptr, 33, 3, true, pv pAny, []⟩]) (G2 := [⟨none, none, 3, pI 0⟩, ⟨none, none, 4, pU X⟩, ⟨none, none, 5, pI (((X / 2 ^ 52) % 2 ^ 11 : Nat) : Int)⟩, ⟨none, none, 15, pB true⟩]) hI rfl rfl rfl [0, 1] (by kernel_rfl) (by kernel_rfl) ?_ [0] [0, 1, 2, 4] rfl rfl fun a w hI => ?_
  · exact ⟨op_move (.tmp 2 rfl rfl) (.here 3 rfl), op_bin (v := .bool (((((X / 2 ^ 52) % 2 ^ 11 : Nat) : Int) == (2047 : Int)))) (.tmp 3 rfl rfl) (.const _) (fun _ => rfl) (.at_ 4 _ _ rfl (pB_eq (show (((X / 2 ^ 52 % 2 ^ 11 : Nat) : Int) == (2047 : Int)) = true from beq_iff_eq.2 (by have := Decidable.not_not.1 fun h => hf (dbl_fin.2 h); omega)))), trivial⟩
  refine cond_yes hI 3 rfl ?_
  refine seq_text (V1 := [⟨2, 2, none, none, .ptr, 33, 3, true, pv pAny, [(1, pv (pRef ((0 : Int) : Rat)))]⟩]) (A1 := []) (G1 := [⟨none, some 2, 3, pI 0⟩, ⟨none, none, 4, pU X⟩, ⟨none, none, 5, pI (((X / 2 ^ 52) % 2 ^ 11 : Nat) : Int)⟩, ⟨none, none, 15, pB true⟩, ⟨some 0, none, 16, pRef ((0 : Int) : Rat)⟩, ⟨some 2, none, 3, pI 1⟩]) (V2 := [⟨2, 2, none, none, .ptr, 33, 3, true, pv (pRef ((0 : Int) : Rat)), []⟩]) (G2 := [⟨none, none, 4, pU X⟩, ⟨none, none, 5, pI (((X / 2 ^ 52) % 2 ^ 11 : Nat) : Int)⟩, ⟨none, none, 3, pI 1⟩]) hI rfl rfl rfl [0, 1, 3] (by kernel_rfl) (by kernel_rfl) ?_ [0] [0, 1, 4] rfl rfl fun a w hI => ?_
  · exact ⟨op_call1 (fun _ _ => by kernel_rfl) (numlike_ref _) (.const _) (.here 4 rfl) (cn_int 0 (by omega) (by omega)), op_store 0 rfl rfl rfl rfl 0 rfl (by kernel_rfl) (by kernel_rfl) ty_R (.tmp 4 rfl rfl) (fits_ref _), op_assign (.const _) (.here 5 rfl), trivial⟩
  refine wp_ret ?_
  refine then_ret ?_
  exact fin2 hI rfl (.imp (.cell 0 rfl rfl rfl rfl ty_R rfl) (pRef_eq rfl)) (.tmp 2 rfl)
instance (f : Ieee.Format) (c : Nat) : Decidable (FinW f c) := Nat.decLt _ _
def fracD (c : Nat) : Rat := if FinW Ieee.single c then floatX (D32 c) else 0
def errD (c : Nat) : Int := if FinW Ieee.single c then 0 else 1
theorem c_FloatD (c : Nat) : ∀ (M : Nat → Nat → Prop) (w : World) (v0 : Value), Mid M w → Box M (fun w => (pD c) w v0) w → Calls Tryz.prog 23 #[v0] w (RetB M (pTup2 (pRat (fracD c)) (pI (errD c))) w) := by
  intro M w v0 hM hv
  obtain ⟨D, rfl, hD, h1, h2⟩ := hv.out
  unfold fracD errD
  by_cases hf : FinW Ieee.single c
  · rw [if_pos hf, if_pos hf, ← h1 hf]
    exact c_Float_ok hD (h1 hf ▸ D32_ok hf) M w _ hM (fun _ _ => rfl)
  · rw [if_neg hf, if_neg hf]
    exact c_Float_bad hD (h2 hf) M w _ hM (fun _ _ => rfl)
theorem cn_FloatD (c : Nat) : ∀ (M : Nat → Nat → Prop) (w : World) (v0 : Value), Mid M w → Box M (fun w => (pD c) w v0) w → Calls Tryz.prog 24 #[v0] w (RetB M (pTup2 (pRef (fracD c)) (pI (errD c))) w) := by
  intro M w v0 hM hv
  obtain ⟨D, rfl, hD, h1, h2⟩ := hv.out
  unfold fracD errD
  by_cases hf : FinW Ieee.single c
  · rw [if_pos hf, if_pos hf, ← h1 hf]
    exact cn_Float_ok hD (h1 hf ▸ D32_ok hf) M w _ hM (fun _ _ => rfl)
  · rw [if_neg hf, if_neg hf]
    exact cn_Float_bad hD (h2 hf) M w _ hM (fun _ _ => rfl)
theorem bd_fracD (c : Nat) : BdR 2200 (fracD c) := by
  unfold fracD
  split
  · rename_i hf; exact bd_floatX (D32_ok hf)
  · exact bd_zero.mono (by omega)
end Wx
