import Derived.Handy
import Derived.KernelRfl
import Derived.Test.YtlomlheajdgdoaaGreatProg
import Derived.Test.YtlomlheajdgdoaaGreatJNears0
import Derived.Test.YtlomlheajdgdoaaGreatJNears1
import Derived.Test.YtlomlheajdgdoaaGreatCRat1
import Derived.Test.YtlomlheajdgdoaaGreatJNears10
import Derived.Test.YtlomlheajdgdoaaGreatJNears33
import Derived.Test.YtlomlheajdgdoaaGreatJNears35
import Derived.Test.YtlomlheajdgdoaaGreatJNears12
import Derived.Test.YtlomlheajdgdoaaGreatJNears20
import Derived.Test.YtlomlheajdgdoaaGreatCNFloor
import Derived.Test.YtlomlheajdgdoaaGreatCSem
import Derived.Test.YtlomlheajdgdoaaGreatCSemOps
import Derived.Test.YtlomlheajdgdoaaGreatCSemMem
import Derived.Test.YtlomlheajdgdoaaGreatCSemCode
import Derived.Test.YtlomlheajdgdoaaGreatJNears30
import Derived.Test.YtlomlheajdgdoaaGreatJNears31
import Derived.Test.YtlomlheajdgdoaaGreatJNears32
import Derived.Test.YtlomlheajdgdoaaGreatJNears42
import Derived.Test.YtlomlheajdgdoaaGreatJNears37
import Derived.Test.YtlomlheajdgdoaaGreatCNums
import Derived.Test.YtlomlheajdgdoaaGreatCPlainFloat3
import Derived.Test.YtlomlheajdgdoaaGreatCMathF
import Derived.Test.YtlomlheajdgdoaaGreatCNearest
import Derived.Test.YtlomlheajdgdoaaGreatJNears43
namespace Wx
open Go Go.RowKit Go.Proofs
set_option linter.unusedVariables false

theorem bd_absR {j : Nat} {x : Rat} (h : BdR j x) : BdR j (absR x) := by
  obtain ⟨h1, h2, _⟩ := absR_num x
  exact ⟨by unfold Bd; rw [h1]; exact h.1, by unfold Bd; rw [h2]; exact h.2⟩
theorem bd_twoR (z : Int) : BdR (z.natAbs + 1) (twoR z) := by
  have h := Nat.pow_lt_pow_right (a := 2) (by omega) (Nat.lt_succ_self z.natAbs)
  have h1 : 1 < 2 ^ (z.natAbs + 1) := Nat.one_lt_two_pow (by omega)
  unfold twoR
  split
  · obtain ⟨e1, e2⟩ := inv_pw z.natAbs
    exact ⟨by unfold Bd; rw [e1]; exact h1, by unfold Bd; rw [e2]; exact h⟩
  · obtain ⟨e1, e2⟩ := pw_num z.natAbs
    refine ⟨?_, by unfold Bd; rw [e2]; exact h1⟩
    unfold Bd
    rw [e1]
    have : ((2 : Int) ^ z.natAbs).natAbs = 2 ^ z.natAbs := by
      rw [Int.natAbs_pow]
      rfl
    rw [this]
    exact h
def quoN (x : Rat) (l : Int) : Nat := shN x.num.natAbs l / shD x.den l
def cmpN (x : Rat) (l : Int) : Int := cmpI (shN x.num.natAbs l % shD x.den l * 2 ^ 1) (shD x.den l)
theorem cn_floor_near {x : Rat} {l : Int} {j : Nat} (hx : BdR j (absR x * twoR (-l))) (hj : j ≤ 1000000) : ∀ w v1, pRef (absR x * twoR (-l)) w v1 → Calls Tryz.prog 116 #[v1] w (Ret (pRef (((quoN x l : Nat) : Int) : Rat)) w) := by
  have := cn_floor hx hj
  rw [floor_near] at this
  exact this
theorem cn_whole_nat {n : Nat} (h : n ≤ 9223372036854775807) : ∀ w v1, pRef (((n : Nat) : Int) : Rat) w v1 → Calls Tryz.prog 115 #[v1] w (Ret (pTup2 (pI ((n : Nat) : Int)) (pB true)) w) := by
  have := cn_whole (((n : Nat) : Int) : Rat)
  rw [(whole_nat h).1, (whole_nat h).2] at this
  exact this
theorem c_knownI {f : FuncId} {P : Program} {p1 p2 : Pred} {a b : Int} (h : ∀ w v1 v2, p1 w v1 → p2 w v2 → Calls P f #[v1, v2] w (Ret (pI a) w)) (e : a = b) : ∀ w v1 v2, p1 w v1 → p2 w v2 → Calls P f #[v1, v2] w (Ret (pI b) w) := e ▸ h
/-- 1 with a fraction's sign. -/
def sgnOne (x : Rat) : Nat := if x.num < 0 then 13830554455654793216 else 4607182418800017408
theorem sgn_mul (x : Rat) {m : Nat} {e : Int} (h : InDouble m e) : Ieee.double.mul (sgnOne x) (Ieee.double.nearest false m e) = some (sgnF x (Ieee.double.nearest false m e)) := by
  unfold sgnOne sgnF
  split
  · rw [neg_nearest]; exact double_sign h true false
  · exact double_sign h false false
theorem sgn_mul_inf (x : Rat) : Ieee.double.mul (sgnOne x) 9218868437227405312 = some (sgnF x 9218868437227405312) := by
  unfold sgnOne sgnF
  split <;> decide +kernel
theorem in_mid {m : Nat} {a b e : Int} (h1 : InDouble m a) (h2 : InDouble m b) (h : (a ≤ e ∧ e ≤ b) ∨ (b ≤ e ∧ e ≤ a)) : InDouble m e := ⟨h1.pos, h1.bits, by have := h1.least; have := h2.least; omega, by have := h1.top; have := h2.top; omega⟩
theorem exp_le2 (x : Rat) : (nbits x.num.natAbs : Int) - nbits x.den - 1 ≤ expR x ∧ expR x ≤ (nbits x.num.natAbs : Int) - nbits x.den := by
  unfold expR
  split <;> omega
theorem exp_dec {x : Rat} (h : cmpT (absR x) (twoR ((nbits x.num.natAbs : Int) - (nbits x.den : Int))) < (0 : Int)) : (nbits x.num.natAbs : Int) - (nbits x.den : Int) - (1 : Int) = expR x := by
  have h1 : absR x < twoR ((nbits x.num.natAbs : Int) - (nbits x.den : Int)) := by
    rcases tri (absR x) (twoR ((nbits x.num.natAbs : Int) - (nbits x.den : Int))) with k | k | k
    · exact k
    · rw [cmpT_eq k] at h; omega
    · rw [cmpT_gt k] at h; omega
  unfold expR
  rw [if_pos ((below_twoR x _).1 h1)]
theorem exp_keep {x : Rat} (h : ¬ cmpT (absR x) (twoR ((nbits x.num.natAbs : Int) - (nbits x.den : Int))) < (0 : Int)) : (nbits x.num.natAbs : Int) - (nbits x.den : Int) = expR x := by
  have h1 : ¬ absR x < twoR ((nbits x.num.natAbs : Int) - (nbits x.den : Int)) := fun k => h (by rw [cmpT_lt k]; decide)
  unfold expR
  rw [if_neg (fun k => h1 ((below_twoR x _).2 k))]
theorem tmod_two (n : Nat) : (((n : Nat) : Int).tmod 2 == (1 : Int)) = ((((n % 2 : Nat)) : Int) == (1 : Int)) := by
  rw [Int.tmod_eq_emod_of_nonneg (by omega)]
  rfl
theorem near_up {x : Rat} {bits least : Int} (h : ((decide (cmpN x (lastR x bits least) > (0 : Int))) || ((cmpN x (lastR x bits least) == (0 : Int)) && ((((quoN x (lastR x bits least)) : Nat) : Int).tmod 2 == (1 : Int)))) = true) : (((quoN x (lastR x bits least)) : Nat) : Int) + (1 : Int) = ((nearM x bits least : Nat) : Int) := by
  rw [tmod_two] at h
  unfold nearM rndR
  rw [if_pos (show rndC _ _ = true from h)]
  unfold quoN
  omega
theorem near_same {x : Rat} {bits least : Int} (h : ((decide (cmpN x (lastR x bits least) > (0 : Int))) || ((cmpN x (lastR x bits least) == (0 : Int)) && ((((quoN x (lastR x bits least)) : Nat) : Int).tmod 2 == (1 : Int)))) = false) : (((quoN x (lastR x bits least)) : Nat) : Int) = ((nearM x bits least : Nat) : Int) := by
  rw [tmod_two] at h
  unfold nearM rndR
  rw [if_neg (show ¬ rndC _ _ = true from fun k => by rw [show rndC _ _ = false from h] at k; cases k)]
  rfl
section
variable {x : Rat} {bits : Nat} {least beyond : Int}
theorem nearW_zero (h : x = 0) : nearW x bits least beyond = 0 := by
  unfold nearW
  rw [if_pos ((num_zero_iff x).2 h)]
theorem nearW_over (h0 : x ≠ 0) (hb : 1 ≤ bits) (hl : least + bits + 1 ≤ beyond) (h : expR x > beyond - 1 ∨ (nearM x bits least = 2 ^ bits ∧ lastR x bits least = beyond - bits)) : nearW x bits least beyond = sgnF x 9218868437227405312 := by
  have h1 : x.num.natAbs ≠ 0 := fun k => h0 ((num_zero_iff x).1 k)
  unfold nearW
  rw [if_neg h1, if_pos (decide_eq_true ((over_ref h1 hb hl).2 h))]
theorem near_in_range (h0 : x ≠ 0) (hb : 1 ≤ bits) (hl : least + bits + 1 ≤ beyond) (h : ¬ expR x > beyond - 1) (h2 : ¬ (nearM x bits least = 2 ^ bits ∧ lastR x bits least = beyond - bits)) : decide ((nbits (nearM x bits least) : Int) + lastR x bits least > beyond) = false := by
  have h1 : x.num.natAbs ≠ 0 := fun k => h0 ((num_zero_iff x).1 k)
  exact decide_eq_false fun k => ((over_ref h1 hb hl).1 k).elim h h2
theorem nearW_nil (h0 : x ≠ 0) (hb : 1 ≤ bits) (hl : least + bits + 1 ≤ beyond) (h : ¬ expR x > beyond - 1) (h2 : ((nearM x bits least : Nat) : Int) = 0) : nearW x bits least beyond = 0 := by
  have h1 : x.num.natAbs ≠ 0 := fun k => h0 ((num_zero_iff x).1 k)
  have h3 := near_in_range h0 hb hl h (fun k => by have := Nat.two_pow_pos bits; omega)
  unfold nearW
  rw [if_neg h1, if_neg (by rw [h3]; decide), if_pos (by omega)]
theorem nearW_ok (h0 : x ≠ 0) (h3 : decide ((nbits (nearM x bits least) : Int) + lastR x bits least > beyond) = false) (h2 : ¬ ((nearM x bits least : Nat) : Int) = 0) : nearW x bits least beyond = sgnF x (Ieee.double.nearest false (nearM x bits least) (lastR x bits least)) := by
  have h1 : x.num.natAbs ≠ 0 := fun k => h0 ((num_zero_iff x).1 k)
  unfold nearW
  rw [if_neg h1, if_neg (by rw [h3]; decide), if_neg (by omega)]
theorem not_top {t m : Nat} {l : Int} (h : ((((m : Nat) : Int) == ((2 ^ bits : Nat) : Int)) && (l == (beyond - 1) - (bits : Int) + (1 : Int))) = false) : ¬ (m = 2 ^ bits ∧ l = beyond - bits) := by
  rintro ⟨h1, h2⟩
  rw [Bool.and_eq_false_iff, beq_eq_false_iff_ne, beq_eq_false_iff_ne] at h
  rcases h with h | h
  · exact h (by rw [h1])
  · exact h (by omega)
theorem at_top {m : Nat} {l : Int} (h : ((((m : Nat) : Int) == ((2 ^ bits : Nat) : Int)) && (l == (beyond - 1) - (bits : Int) + (1 : Int))) = true) : m = 2 ^ bits ∧ l = beyond - bits := by
  rw [Bool.and_eq_true, beq_iff_eq, beq_iff_eq] at h
  exact ⟨Int.ofNat_inj.1 h.1, by omega⟩
end
set_option maxRecDepth 100000 in
theorem cn_nearest {x : Rat} {j bits : Nat} {least beyond : Int} (hx : BdR j x) (hj : j ≤ 100000) (hb : 1 ≤ bits ∧ bits ≤ 53) (hl : -1074 ≤ least ∧ least ≤ 0) (hbe : 0 ≤ beyond ∧ beyond ≤ 1024) (hlb : least + bits + 1 ≤ beyond) (hcv : ∀ w, (Go.convert 3 107 (.int .i64 (bits : Int))).run Tryz.prog w = .ok (.int .u64 (bits : Int)) w) (hsh : ∀ w, (Go.binOp .shl 2 (.int .i64 1) (.int .u64 (bits : Int))).run Tryz.prog w = .ok (.int .i64 ((2 ^ bits : Nat) : Int)) w) : ∀ (M : Nat → Nat → Prop) (w : World) (v0 v1 v2 v3 : Value), Mid M w → Box M (fun w => (pRef x) w v0) w → Box M (fun w => (pI (bits : Int)) w v1) w → Box M (fun w => (pI least) w v2) w → Box M (fun w => (pI (beyond - 1)) w v3) w → Calls Tryz.prog 67 #[v0, v1, v2, v3] w (RetB M (pF (nearW x (bits : Int) least beyond)) w) := by
  intro M w0 v0 v1 v2 v3 hM hv0 hv1 hv2 hv3
  have B1 : nbits x.num.natAbs ≤ j := nbits_bd hx.1
  have B2 : nbits x.den ≤ j := nbits_bd hx.2
  have B3 : _ := exp_le2 x
  have B4 : _ := maxZ_spec (expR x - (bits : Int) + (1 : Int)) least
  have hL : lastR x (bits : Int) least = maxZ (expR x - (bits : Int) + (1 : Int)) least := last_ref x bits least
  have hQ : quoN x (lastR x (bits : Int) least) ≤ 9007199254740992 := Nat.le_trans (quo_near x bits least) (Nat.pow_le_pow_right (by omega) hb.2)
  have B5 : BdR 64 (((((quoN x (lastR x (bits : Int) least)) : Nat) : Int) : Int) : Rat) := BdR.mono (bd_int (by omega) (by omega)) (by omega)
  refine calls_start (N := 114) Tryz.func67 rfl rfl rfl hM (show EntsA M w0 [v0, v1, v2, v3] [⟨none, none, 0, pRef x⟩, ⟨none, none, 1, pI (bits : Int)⟩, ⟨none, none, 2, pI least⟩, ⟨none, none, 3, pI (beyond - 1)⟩] from ⟨⟨rfl, _, rfl, hv0⟩, ⟨rfl, _, rfl, hv1⟩, ⟨rfl, _, rfl, hv2⟩, ⟨rfl, _, rfl, hv3⟩, trivial⟩) fun a hI => ?_
  refine seq_text (V1 := [⟨4, 4, some 0, none, .ptr, 33, 3, true, pv (pS (refFs x)), []⟩]) (A1 := []) (G1 := [⟨none, none, 0, pRef x⟩, ⟨none, none, 1, pI (bits : Int)⟩, ⟨none, none, 2, pI least⟩, ⟨none, none, 3, pI (beyond - 1)⟩, ⟨some 1, none, 8, pF 0⟩]) (V2 := [⟨4, 4, none, none, .ptr, 33, 3, true, pv (pS (refFs x)), []⟩]) (G2 := [⟨none, none, 1, pI (bits : Int)⟩, ⟨none, none, 2, pI least⟩, ⟨none, none, 3, pI (beyond - 1)⟩, ⟨none, none, 8, pF 0⟩]) hI rfl rfl rfl [0, 1] (by kernel_rfl) (by kernel_rfl) ?_ [0] [1, 2, 3, 4] rfl rfl fun a w hI => ?_
  · exact ⟨op_box 0 rfl rfl (by kernel_rfl) (by kernel_rfl) rfl rfl rfl (.imp (.tmp 0 rfl rfl) (ref_S _)) (fits_refS _) rfl,
      op_assign (.const _) (.here 4 rfl),
      trivial⟩
  refine wp_seq ?_
  refine seq_text (V1 := [⟨4, 4, none, none, .ptr, 33, 3, true, pv (pS (refFs x)), []⟩]) (A1 := []) (G1 := [⟨none, none, 1, pI (bits : Int)⟩, ⟨none, none, 2, pI least⟩, ⟨none, none, 3, pI (beyond - 1)⟩, ⟨none, none, 8, pF 0⟩, ⟨some 0, none, 17, pRef x⟩, ⟨some 1, none, 18, pB (decide (x = 0))⟩]) (V2 := [⟨4, 4, none, none, .ptr, 33, 3, true, pv (pS (refFs x)), []⟩]) (G2 := [⟨none, none, 1, pI (bits : Int)⟩, ⟨none, none, 2, pI least⟩, ⟨none, none, 3, pI (beyond - 1)⟩, ⟨none, none, 8, pF 0⟩, ⟨none, none, 18, pB (decide (x = 0))⟩]) hI rfl rfl rfl [0, 1] (by kernel_rfl) (by kernel_rfl) ?_ [0] [0, 1, 2, 3, 5] rfl rfl fun a w hI => ?_
  · exact ⟨op_load 0 rfl rfl rfl rfl (by kernel_rfl) ty_R rfl (.at_ 4 _ _ rfl (S_ref _)),
      op_call1 (fun _ _ => by kernel_rfl) (numlike_eq _) (.tmp 4 rfl rfl) (.here 5 rfl) (cn_zero x),
      trivial⟩
  refine cond_if hI 4 rfl (fun ht => ?_) (fun ht => ?_)
  · have t1 := of_decide_eq_true ht
    refine seq_text (V1 := [⟨4, 4, none, none, .ptr, 33, 3, true, pv (pS (refFs x)), []⟩]) (A1 := []) (G1 := [⟨none, none, 1, pI (bits : Int)⟩, ⟨none, none, 2, pI least⟩, ⟨none, none, 3, pI (beyond - 1)⟩, ⟨none, some 0, 8, pF 0⟩, ⟨none, none, 18, pB (decide (x = 0))⟩, ⟨some 0, none, 8, pF 0⟩]) (V2 := [⟨4, 4, none, none, .ptr, 33, 3, true, pv (pS (refFs x)), []⟩]) (G2 := [⟨none, none, 1, pI (bits : Int)⟩, ⟨none, none, 2, pI least⟩, ⟨none, none, 3, pI (beyond - 1)⟩, ⟨none, none, 8, pF 0⟩]) hI rfl rfl rfl [0] (by kernel_rfl) (by kernel_rfl) ?_ [0] [0, 1, 2, 4] rfl rfl fun a w hI => ?_
    · exact ⟨op_assign (.const _) (.here 5 rfl),
        trivial⟩
    refine wp_ret ?_
    refine then_ret ?_
    exact fin1 hI rfl (.imp (.tmp 3 rfl) (pF_eq (nearW_zero t1).symm))
  · have t2 := of_decide_eq_false ht
    refine wp_skip ?_
    refine then_of ?_
    refine seq_text (V1 := [⟨4, 4, none, none, .ptr, 33, 3, true, pv (pS (refFs x)), []⟩]) (A1 := []) (G1 := [⟨none, none, 1, pI (bits : Int)⟩, ⟨none, none, 2, pI least⟩, ⟨none, none, 3, pI (beyond - 1)⟩, ⟨none, none, 8, pF 0⟩, ⟨none, none, 18, pB (decide (x = 0))⟩, ⟨some 0, none, 9, pF 4607182418800017408⟩]) (V2 := [⟨4, 4, none, none, .ptr, 33, 3, true, pv (pS (refFs x)), []⟩]) (G2 := [⟨none, none, 1, pI (bits : Int)⟩, ⟨none, none, 2, pI least⟩, ⟨none, none, 3, pI (beyond - 1)⟩, ⟨none, none, 8, pF 0⟩, ⟨none, none, 9, pF 4607182418800017408⟩]) hI rfl rfl rfl [0] (by kernel_rfl) (by kernel_rfl) ?_ [0] [0, 1, 2, 3, 5] rfl rfl fun a w hI => ?_
    · exact ⟨op_assign (.const _) (.here 5 rfl),
        trivial⟩
    refine wp_seq ?_
    refine seq_text (V1 := [⟨4, 4, none, none, .ptr, 33, 3, true, pv (pS (refFs x)), []⟩]) (A1 := [⟨some 0, 19, 4, 0, True⟩]) (G1 := [⟨none, none, 1, pI (bits : Int)⟩, ⟨none, none, 2, pI least⟩, ⟨none, none, 3, pI (beyond - 1)⟩, ⟨none, none, 8, pF 0⟩, ⟨none, none, 9, pF 4607182418800017408⟩, ⟨some 1, none, 20, pB (decide (x.num < 0))⟩]) (V2 := [⟨4, 4, none, none, .ptr, 33, 3, true, pv (pS (refFs x)), []⟩]) (G2 := [⟨none, none, 1, pI (bits : Int)⟩, ⟨none, none, 2, pI least⟩, ⟨none, none, 3, pI (beyond - 1)⟩, ⟨none, none, 8, pF 0⟩, ⟨none, none, 9, pF 4607182418800017408⟩, ⟨none, none, 20, pB (decide (x.num < 0))⟩]) hI rfl rfl rfl [0, 1] (by kernel_rfl) (by kernel_rfl) ?_ [0] [0, 1, 2, 3, 4, 5] rfl rfl fun a w hI => ?_
    · exact ⟨op_field 0 rfl rfl rfl 0 rfl rfl rfl rfl (.inl ⟨rfl, rfl⟩) rfl (by kernel_rfl) (fun b w => fa_R_0 b 0 w),
        op_loadAl 0 rfl 0 rfl rfl rfl rfl rfl trivial rfl rfl (by kernel_rfl) ty_bool rfl rfl (fd_get (fs := (refFs x)) 0 (f := ⟨false, 1, pB (decide (x.num < 0))⟩) rfl (off := 0) rfl) (.here 5 rfl),
        trivial⟩
    refine wp_joinT (fun a w => Inv ⟨114, w0, M, fun _ => False⟩ [⟨4, 4, none, none, .ptr, 33, 3, true, pv (pS (refFs x)), []⟩] [] [⟨none, none, 1, pI (bits : Int)⟩, ⟨none, none, 2, pI least⟩, ⟨none, none, 3, pI (beyond - 1)⟩, ⟨none, none, 8, pF 0⟩, ⟨none, none, 9, pF (sgnOne x)⟩] none_ a w) ?_ ?_
    ·
      refine cond_if hI 5 rfl (fun ht => ?_) (fun ht => ?_)
      · have t3 := of_decide_eq_true ht
        refine sem_text (V1 := [⟨4, 4, none, none, .ptr, 33, 3, true, pv (pS (refFs x)), []⟩]) (A1 := []) (G1 := [⟨none, none, 1, pI (bits : Int)⟩, ⟨none, none, 2, pI least⟩, ⟨none, none, 3, pI (beyond - 1)⟩, ⟨none, none, 8, pF 0⟩, ⟨none, some 0, 9, pF 4607182418800017408⟩, ⟨none, none, 20, pB (decide (x.num < 0))⟩, ⟨some 0, none, 9, pF 13830554455654793216⟩]) (V2 := [⟨4, 4, none, none, .ptr, 33, 3, true, pv (pS (refFs x)), []⟩]) (G2 := [⟨none, none, 1, pI (bits : Int)⟩, ⟨none, none, 2, pI least⟩, ⟨none, none, 3, pI (beyond - 1)⟩, ⟨none, none, 8, pF 0⟩, ⟨none, none, 9, pF 13830554455654793216⟩]) hI rfl rfl rfl [0] (by kernel_rfl) (by kernel_rfl) ?_ [0] [0, 1, 2, 3, 5] rfl rfl fun a w hI => ?_
        · exact ⟨op_assign (.const _) (.here 6 rfl),
            trivial⟩
        refine then_of ?_
        exact (hI.conv ⟨⟨0, _, _, rfl, ⟨rfl, rfl, rfl⟩, rfl, fun _ => fun _ _ h => h⟩, trivial⟩ ⟨⟨rfl, rfl, 0, _, rfl, fun _ _ h => h⟩, ⟨rfl, rfl, 1, _, rfl, fun _ _ h => h⟩, ⟨rfl, rfl, 2, _, rfl, fun _ _ h => h⟩, ⟨rfl, rfl, 3, _, rfl, fun _ _ h => h⟩, ⟨rfl, rfl, 4, _, rfl, (pF_eq (if_pos t3).symm)⟩, trivial⟩)
      · have t4 := of_decide_eq_false ht
        refine wp_skip ?_
        refine then_of ?_
        exact (hI.conv ⟨⟨0, _, _, rfl, ⟨rfl, rfl, rfl⟩, rfl, fun _ => fun _ _ h => h⟩, trivial⟩ ⟨⟨rfl, rfl, 0, _, rfl, fun _ _ h => h⟩, ⟨rfl, rfl, 1, _, rfl, fun _ _ h => h⟩, ⟨rfl, rfl, 2, _, rfl, fun _ _ h => h⟩, ⟨rfl, rfl, 3, _, rfl, fun _ _ h => h⟩, ⟨rfl, rfl, 4, _, rfl, (pF_eq (if_neg t4).symm)⟩, trivial⟩)
    ·
      intro a w hI
      refine seq_drawn (V1 := [⟨4, 4, none, none, .ptr, 33, 3, true, pv (pS (refFs x)), []⟩]) (A1 := [⟨some 0, 21, 4, 1, True⟩]) (G1 := [⟨none, none, 1, pI (bits : Int)⟩, ⟨none, none, 2, pI least⟩, ⟨none, none, 3, pI (beyond - 1)⟩, ⟨none, none, 8, pF 0⟩, ⟨none, none, 9, pF (sgnOne x)⟩, ⟨some 1, none, 22, pNatR x.num.natAbs⟩, ⟨some 2, none, 23, pI (nbits x.num.natAbs : Int)⟩, ⟨some 3, none, 24, pRef x⟩, ⟨some 4, none, 25, pNatR x.den⟩, ⟨some 5, none, 26, pI (nbits x.den : Int)⟩, ⟨some 6, none, 27, pI ((nbits x.num.natAbs : Int) - (nbits x.den : Int))⟩, ⟨some 7, none, 10, pI ((nbits x.num.natAbs : Int) - (nbits x.den : Int))⟩]) (V2 := [⟨4, 4, none, none, .ptr, 33, 3, true, pv (pS (refFs x)), []⟩]) (G2 := [⟨none, none, 1, pI (bits : Int)⟩, ⟨none, none, 2, pI least⟩, ⟨none, none, 3, pI (beyond - 1)⟩, ⟨none, none, 8, pF 0⟩, ⟨none, none, 9, pF (sgnOne x)⟩, ⟨none, none, 10, pI ((nbits x.num.natAbs : Int) - (nbits x.den : Int))⟩]) hI rfl rfl rfl [0, 1, 3, 0, 15, 31, 63, 127] (by kernel_rfl) (by kernel_rfl) (by kernel_rfl) (by kernel_rfl) ?_ [0] [0, 1, 2, 3, 4, 11] rfl rfl fun a w hI => ?_
      · exact ⟨op_field 0 rfl rfl rfl 0 rfl rfl rfl rfl (.inl ⟨rfl, rfl⟩) rfl (by kernel_rfl) (fun b w => fa_R_1 b 0 w),
          op_loadAl 0 rfl 0 rfl rfl rfl rfl rfl trivial rfl rfl (by kernel_rfl) ty_u32s rfl rfl (fd_get (fs := (refFs x)) 1 (f := ⟨false, 1, pNatR x.num.natAbs⟩) rfl (off := 1) rfl) (.here 5 rfl),
          op_call1 (fun _ _ => by kernel_rfl) (numlike_eq _) (.tmp 5 rfl rfl) (.here 6 rfl) (cn_bits (hx).1 (by omega)),
          op_load 0 rfl rfl rfl rfl (by kernel_rfl) ty_R rfl (.at_ 7 _ _ rfl (S_ref _)),
          op_call1 (fun _ _ => by kernel_rfl) (numlike_natR _) (.tmp 7 rfl rfl) (.here 8 rfl) (cn_under _),
          op_call1 (fun _ _ => by kernel_rfl) (numlike_eq _) (.tmp 8 rfl rfl) (.here 9 rfl) (cn_bits (hx).2 (by omega)),
          op_bin (v := .int .i64 (IntKind.i64.wrap ((nbits x.num.natAbs : Int) - (nbits x.den : Int)))) (.tmp 6 rfl rfl) (.tmp 9 rfl rfl) (fun _ => rfl) (.at_ 10 _ _ rfl (pI_wrap (by omega))),
          op_assign (.tmp 10 rfl rfl) (.here 11 rfl),
          trivial⟩
      refine wp_seq ?_
      refine seq_text (V1 := [⟨4, 4, none, none, .ptr, 33, 3, true, pv (pS (refFs x)), []⟩]) (A1 := []) (G1 := [⟨none, none, 1, pI (bits : Int)⟩, ⟨none, none, 2, pI least⟩, ⟨none, none, 3, pI (beyond - 1)⟩, ⟨none, none, 8, pF 0⟩, ⟨none, none, 9, pF (sgnOne x)⟩, ⟨none, none, 10, pI ((nbits x.num.natAbs : Int) - (nbits x.den : Int))⟩, ⟨some 0, none, 28, pRef x⟩, ⟨some 1, none, 29, pRef (absR x)⟩, ⟨some 2, none, 30, pI ((nbits x.num.natAbs : Int) - (nbits x.den : Int))⟩, ⟨some 3, none, 31, pRef (twoR ((nbits x.num.natAbs : Int) - (nbits x.den : Int)))⟩, ⟨some 4, none, 32, pI (cmpT (absR x) (twoR ((nbits x.num.natAbs : Int) - (nbits x.den : Int))))⟩, ⟨some 5, none, 33, pB (decide ((cmpT (absR x) (twoR ((nbits x.num.natAbs : Int) - (nbits x.den : Int)))) < (0 : Int)))⟩]) (V2 := [⟨4, 4, none, none, .ptr, 33, 3, true, pv (pS (refFs x)), []⟩]) (G2 := [⟨none, none, 1, pI (bits : Int)⟩, ⟨none, none, 2, pI least⟩, ⟨none, none, 3, pI (beyond - 1)⟩, ⟨none, none, 8, pF 0⟩, ⟨none, none, 9, pF (sgnOne x)⟩, ⟨none, none, 10, pI ((nbits x.num.natAbs : Int) - (nbits x.den : Int))⟩, ⟨none, none, 33, pB (decide ((cmpT (absR x) (twoR ((nbits x.num.natAbs : Int) - (nbits x.den : Int)))) < (0 : Int)))⟩]) hI rfl rfl rfl [0, 1, 3, 7, 15, 31] (by kernel_rfl) (by kernel_rfl) ?_ [0] [0, 1, 2, 3, 4, 5, 11] rfl rfl fun a w hI => ?_
      · exact ⟨op_load 0 rfl rfl rfl rfl (by kernel_rfl) ty_R rfl (.at_ 6 _ _ rfl (S_ref _)),
          op_call1 (fun _ _ => by kernel_rfl) (numlike_ref _) (.tmp 6 rfl rfl) (.here 7 rfl) (cn_abs _),
          op_move (.tmp 5 rfl rfl) (.here 8 rfl),
          op_call1 (fun _ _ => by kernel_rfl) (numlike_ref _) (.tmp 8 rfl rfl) (.here 9 rfl) (cn_two (by omega)),
          op_call2 (fun _ _ => by kernel_rfl) (numlike_eq _) (.tmp 7 rfl rfl) (.tmp 9 rfl rfl) (.here 10 rfl) (cn_cmp (bd_absR hx) (bd_twoR _) (by omega)),
          op_bin (v := .bool (decide ((cmpT (absR x) (twoR ((nbits x.num.natAbs : Int) - (nbits x.den : Int)))) < (0 : Int)))) (.tmp 10 rfl rfl) (.const _) (fun _ => rfl) (.here 11 rfl),
          trivial⟩
      refine wp_joinT (fun a w => Inv ⟨114, w0, M, fun _ => False⟩ [⟨4, 4, none, none, .ptr, 33, 3, true, pv (pS (refFs x)), []⟩] [] [⟨none, none, 1, pI (bits : Int)⟩, ⟨none, none, 2, pI least⟩, ⟨none, none, 3, pI (beyond - 1)⟩, ⟨none, none, 8, pF 0⟩, ⟨none, none, 9, pF (sgnOne x)⟩, ⟨none, none, 10, pI (expR x)⟩] none_ a w) ?_ ?_
      ·
        refine cond_if hI 6 rfl (fun ht => ?_) (fun ht => ?_)
        · have t5 := of_decide_eq_true ht
          refine sem_text (V1 := [⟨4, 4, none, none, .ptr, 33, 3, true, pv (pS (refFs x)), []⟩]) (A1 := []) (G1 := [⟨none, none, 1, pI (bits : Int)⟩, ⟨none, none, 2, pI least⟩, ⟨none, none, 3, pI (beyond - 1)⟩, ⟨none, none, 8, pF 0⟩, ⟨none, none, 9, pF (sgnOne x)⟩, ⟨none, some 2, 10, pI ((nbits x.num.natAbs : Int) - (nbits x.den : Int))⟩, ⟨none, none, 33, pB (decide ((cmpT (absR x) (twoR ((nbits x.num.natAbs : Int) - (nbits x.den : Int)))) < (0 : Int)))⟩, ⟨some 0, none, 34, pI ((nbits x.num.natAbs : Int) - (nbits x.den : Int))⟩, ⟨some 1, none, 35, pI (((nbits x.num.natAbs : Int) - (nbits x.den : Int)) - (1 : Int))⟩, ⟨some 2, none, 10, pI (((nbits x.num.natAbs : Int) - (nbits x.den : Int)) - (1 : Int))⟩]) (V2 := [⟨4, 4, none, none, .ptr, 33, 3, true, pv (pS (refFs x)), []⟩]) (G2 := [⟨none, none, 1, pI (bits : Int)⟩, ⟨none, none, 2, pI least⟩, ⟨none, none, 3, pI (beyond - 1)⟩, ⟨none, none, 8, pF 0⟩, ⟨none, none, 9, pF (sgnOne x)⟩, ⟨none, none, 10, pI (((nbits x.num.natAbs : Int) - (nbits x.den : Int)) - (1 : Int))⟩]) hI rfl rfl rfl [0, 1, 3] (by kernel_rfl) (by kernel_rfl) ?_ [0] [0, 1, 2, 3, 4, 8] rfl rfl fun a w hI => ?_
          · exact ⟨op_move (.tmp 5 rfl rfl) (.here 7 rfl),
              op_bin (v := .int .i64 (IntKind.i64.wrap (((nbits x.num.natAbs : Int) - (nbits x.den : Int)) - (1 : Int)))) (.tmp 7 rfl rfl) (.const _) (fun _ => rfl) (.at_ 8 _ _ rfl (pI_wrap (by omega))),
              op_assign (.tmp 8 rfl rfl) (.here 9 rfl),
              trivial⟩
          refine then_of ?_
          exact (hI.conv ⟨⟨0, _, _, rfl, ⟨rfl, rfl, rfl⟩, rfl, fun _ => fun _ _ h => h⟩, trivial⟩ ⟨⟨rfl, rfl, 0, _, rfl, fun _ _ h => h⟩, ⟨rfl, rfl, 1, _, rfl, fun _ _ h => h⟩, ⟨rfl, rfl, 2, _, rfl, fun _ _ h => h⟩, ⟨rfl, rfl, 3, _, rfl, fun _ _ h => h⟩, ⟨rfl, rfl, 4, _, rfl, fun _ _ h => h⟩, ⟨rfl, rfl, 5, _, rfl, (pI_eq (exp_dec t5))⟩, trivial⟩)
        · have t6 := of_decide_eq_false ht
          refine wp_skip ?_
          refine then_of ?_
          exact (hI.conv ⟨⟨0, _, _, rfl, ⟨rfl, rfl, rfl⟩, rfl, fun _ => fun _ _ h => h⟩, trivial⟩ ⟨⟨rfl, rfl, 0, _, rfl, fun _ _ h => h⟩, ⟨rfl, rfl, 1, _, rfl, fun _ _ h => h⟩, ⟨rfl, rfl, 2, _, rfl, fun _ _ h => h⟩, ⟨rfl, rfl, 3, _, rfl, fun _ _ h => h⟩, ⟨rfl, rfl, 4, _, rfl, fun _ _ h => h⟩, ⟨rfl, rfl, 5, _, rfl, (pI_eq (exp_keep t6))⟩, trivial⟩)
      ·
        intro a w hI
        refine wp_seq ?_
        refine seq_text (V1 := [⟨4, 4, none, none, .ptr, 33, 3, true, pv (pS (refFs x)), []⟩]) (A1 := []) (G1 := [⟨none, none, 1, pI (bits : Int)⟩, ⟨none, none, 2, pI least⟩, ⟨none, none, 3, pI (beyond - 1)⟩, ⟨none, none, 8, pF 0⟩, ⟨none, none, 9, pF (sgnOne x)⟩, ⟨none, none, 10, pI (expR x)⟩, ⟨some 0, none, 36, pI (expR x)⟩, ⟨some 1, none, 37, pI (beyond - 1)⟩, ⟨some 2, none, 38, pB (decide ((expR x) > (beyond - 1)))⟩]) (V2 := [⟨4, 4, none, none, .ptr, 33, 3, true, pv (pS (refFs x)), []⟩]) (G2 := [⟨none, none, 1, pI (bits : Int)⟩, ⟨none, none, 2, pI least⟩, ⟨none, none, 3, pI (beyond - 1)⟩, ⟨none, none, 8, pF 0⟩, ⟨none, none, 9, pF (sgnOne x)⟩, ⟨none, none, 10, pI (expR x)⟩, ⟨none, none, 38, pB (decide ((expR x) > (beyond - 1)))⟩]) hI rfl rfl rfl [0, 1, 3] (by kernel_rfl) (by kernel_rfl) ?_ [0] [0, 1, 2, 3, 4, 5, 8] rfl rfl fun a w hI => ?_
        · exact ⟨op_move (.tmp 5 rfl rfl) (.here 6 rfl),
            op_move (.tmp 2 rfl rfl) (.here 7 rfl),
            op_bin (v := .bool (decide ((expR x) > (beyond - 1)))) (.tmp 6 rfl rfl) (.tmp 7 rfl rfl) (fun _ => rfl) (.here 8 rfl),
            trivial⟩
        refine cond_if hI 6 rfl (fun ht => ?_) (fun ht => ?_)
        · have t7 := of_decide_eq_true ht
          refine seq_text (V1 := [⟨4, 4, none, none, .ptr, 33, 3, true, pv (pS (refFs x)), []⟩]) (A1 := []) (G1 := [⟨none, none, 1, pI (bits : Int)⟩, ⟨none, none, 2, pI least⟩, ⟨none, none, 3, pI (beyond - 1)⟩, ⟨none, some 3, 8, pF 0⟩, ⟨none, none, 9, pF (sgnOne x)⟩, ⟨none, none, 10, pI (expR x)⟩, ⟨none, none, 38, pB (decide ((expR x) > (beyond - 1)))⟩, ⟨some 0, none, 39, pF (sgnOne x)⟩, ⟨some 1, none, 40, pF 9218868437227405312⟩, ⟨some 2, none, 41, pF (sgnF x 9218868437227405312)⟩, ⟨some 3, none, 8, pF (sgnF x 9218868437227405312)⟩]) (V2 := [⟨4, 4, none, none, .ptr, 33, 3, true, pv (pS (refFs x)), []⟩]) (G2 := [⟨none, none, 1, pI (bits : Int)⟩, ⟨none, none, 2, pI least⟩, ⟨none, none, 3, pI (beyond - 1)⟩, ⟨none, none, 9, pF (sgnOne x)⟩, ⟨none, none, 10, pI (expR x)⟩, ⟨none, none, 8, pF (sgnF x 9218868437227405312)⟩]) hI rfl rfl rfl [0, 1, 3, 7] (by kernel_rfl) (by kernel_rfl) ?_ [0] [0, 1, 2, 3, 4, 9] rfl rfl fun a w hI => ?_
          · exact ⟨op_move (.tmp 4 rfl rfl) (.here 7 rfl),
              op_callB1 (fun _ _ => by kernel_rfl) (.const _) (.here 8 rfl) (c_inf),
              op_fmul (.tmp 7 rfl rfl) (.tmp 8 rfl rfl) (sgn_mul_inf x) (.here 9 rfl),
              op_assign (.tmp 9 rfl rfl) (.here 10 rfl),
              trivial⟩
          refine wp_ret ?_
          refine then_ret ?_
          exact fin1 hI rfl (.imp (.tmp 5 rfl) (pF_eq (nearW_over t2 hb.1 hlb (.inl t7)).symm))
        · have t8 := of_decide_eq_false ht
          refine wp_skip ?_
          refine then_of ?_
          refine seq_text (V1 := [⟨4, 4, none, none, .ptr, 33, 3, true, pv (pS (refFs x)), []⟩]) (A1 := []) (G1 := [⟨none, none, 1, pI (bits : Int)⟩, ⟨none, none, 2, pI least⟩, ⟨none, none, 3, pI (beyond - 1)⟩, ⟨none, none, 8, pF 0⟩, ⟨none, none, 9, pF (sgnOne x)⟩, ⟨none, none, 10, pI (expR x)⟩, ⟨none, none, 38, pB (decide ((expR x) > (beyond - 1)))⟩, ⟨some 0, none, 42, pI (expR x)⟩, ⟨some 1, none, 43, pI (bits : Int)⟩, ⟨some 2, none, 44, pI ((expR x) - (bits : Int))⟩, ⟨some 3, none, 45, pI (((expR x) - (bits : Int)) + (1 : Int))⟩, ⟨some 4, none, 46, pI least⟩, ⟨some 5, none, 47, pI (lastR x (bits : Int) least)⟩, ⟨some 6, none, 11, pI (lastR x (bits : Int) least)⟩]) (V2 := [⟨4, 4, none, none, .ptr, 33, 3, true, pv (pS (refFs x)), []⟩]) (G2 := [⟨none, none, 1, pI (bits : Int)⟩, ⟨none, none, 3, pI (beyond - 1)⟩, ⟨none, none, 8, pF 0⟩, ⟨none, none, 9, pF (sgnOne x)⟩, ⟨none, none, 11, pI (lastR x (bits : Int) least)⟩]) hI rfl rfl rfl [0, 1, 3, 7, 15, 31, 63] (by kernel_rfl) (by kernel_rfl) ?_ [0] [0, 2, 3, 4, 13] rfl rfl fun a w hI => ?_
          · exact ⟨op_move (.tmp 5 rfl rfl) (.here 7 rfl),
              op_move (.tmp 0 rfl rfl) (.here 8 rfl),
              op_bin (v := .int .i64 (IntKind.i64.wrap ((expR x) - (bits : Int)))) (.tmp 7 rfl rfl) (.tmp 8 rfl rfl) (fun _ => rfl) (.at_ 9 _ _ rfl (pI_wrap (by omega))),
              op_bin (v := .int .i64 (IntKind.i64.wrap (((expR x) - (bits : Int)) + (1 : Int)))) (.tmp 9 rfl rfl) (.const _) (fun _ => rfl) (.at_ 10 _ _ rfl (pI_wrap (by omega))),
              op_move (.tmp 1 rfl rfl) (.here 11 rfl),
              op_max2 (.tmp 10 rfl rfl) (.tmp 11 rfl rfl) (.at_ 12 _ _ rfl (pI_eq (last_ref x bits least).symm)),
              op_assign (.tmp 12 rfl rfl) (.here 13 rfl),
              trivial⟩
          refine seq_text (V1 := [⟨4, 4, none, none, .ptr, 33, 3, true, pv (pS (refFs x)), []⟩, ⟨12, 12, some 6, none, .ptr, 33, 3, true, pv pAny, [(7, pv (pRef ((absR x) * (twoR (-(lastR x (bits : Int) least))))))]⟩]) (A1 := []) (G1 := [⟨none, none, 1, pI (bits : Int)⟩, ⟨none, none, 3, pI (beyond - 1)⟩, ⟨none, none, 8, pF 0⟩, ⟨none, none, 9, pF (sgnOne x)⟩, ⟨none, none, 11, pI (lastR x (bits : Int) least)⟩, ⟨some 0, none, 48, pRef x⟩, ⟨some 1, none, 49, pRef (absR x)⟩, ⟨some 2, none, 50, pI (lastR x (bits : Int) least)⟩, ⟨some 3, none, 51, pI (-(lastR x (bits : Int) least))⟩, ⟨some 4, none, 52, pRef (twoR (-(lastR x (bits : Int) least)))⟩, ⟨some 5, none, 53, pRef ((absR x) * (twoR (-(lastR x (bits : Int) least))))⟩]) (V2 := [⟨4, 4, none, none, .ptr, 33, 3, true, pv (pS (refFs x)), []⟩, ⟨12, 12, none, none, .ptr, 33, 3, true, pv (pRef ((absR x) * (twoR (-(lastR x (bits : Int) least))))), []⟩]) (G2 := [⟨none, none, 1, pI (bits : Int)⟩, ⟨none, none, 3, pI (beyond - 1)⟩, ⟨none, none, 8, pF 0⟩, ⟨none, none, 9, pF (sgnOne x)⟩, ⟨none, none, 11, pI (lastR x (bits : Int) least)⟩]) hI rfl rfl rfl [0, 1, 3, 7, 15, 31, 63, 127] (by kernel_rfl) (by kernel_rfl) ?_ [0, 1] [0, 1, 2, 3, 4] rfl rfl fun a w hI => ?_
          · exact ⟨op_load 0 rfl rfl rfl rfl (by kernel_rfl) ty_R rfl (.at_ 5 _ _ rfl (S_ref _)),
              op_call1 (fun _ _ => by kernel_rfl) (numlike_ref _) (.tmp 5 rfl rfl) (.here 6 rfl) (cn_abs _),
              op_move (.tmp 4 rfl rfl) (.here 7 rfl),
              op_neg (.tmp 7 rfl rfl) (by omega) (.here 8 rfl),
              op_call1 (fun _ _ => by kernel_rfl) (numlike_ref _) (.tmp 8 rfl rfl) (.here 9 rfl) (cn_two (by omega)),
              op_call2 (fun _ _ => by kernel_rfl) (numlike_ref _) (.tmp 6 rfl rfl) (.tmp 9 rfl rfl) (.here 10 rfl) (cn_mul (bd_absR hx) (bd_twoR _) (by omega)),
              op_alloc 1 rfl rfl (by kernel_rfl) (by kernel_rfl) rfl rfl rfl zv_R rfl rfl (by simp [NoU]) rfl (fun _ => trivial),
              op_store 1 rfl rfl rfl rfl 0 rfl (by kernel_rfl) (by kernel_rfl) ty_R (.tmp 10 rfl rfl) (fits_ref _),
              trivial⟩
          refine seq_text (V1 := [⟨4, 4, none, none, .ptr, 33, 3, true, pv (pS (refFs x)), []⟩, ⟨12, 12, none, none, .ptr, 33, 3, true, pv (pRef ((absR x) * (twoR (-(lastR x (bits : Int) least))))), []⟩]) (A1 := []) (G1 := [⟨none, none, 1, pI (bits : Int)⟩, ⟨none, none, 3, pI (beyond - 1)⟩, ⟨none, none, 8, pF 0⟩, ⟨none, none, 9, pF (sgnOne x)⟩, ⟨none, none, 11, pI (lastR x (bits : Int) least)⟩, ⟨some 0, none, 55, pRef ((absR x) * (twoR (-(lastR x (bits : Int) least))))⟩, ⟨some 1, none, 56, pRef ((((quoN x (lastR x (bits : Int) least)) : Nat) : Int) : Rat)⟩, ⟨some 2, none, 57, pTup2 (pI (((quoN x (lastR x (bits : Int) least)) : Nat) : Int)) (pB true)⟩, ⟨some 3, none, 54, pTup2 (pI (((quoN x (lastR x (bits : Int) least)) : Nat) : Int)) (pB true)⟩, ⟨some 4, none, 58, pI (((quoN x (lastR x (bits : Int) least)) : Nat) : Int)⟩, ⟨some 5, none, 59, pB true⟩, ⟨some 6, none, 13, pI (((quoN x (lastR x (bits : Int) least)) : Nat) : Int)⟩, ⟨some 7, none, 14, pB true⟩]) (V2 := [⟨4, 4, none, none, .ptr, 33, 3, true, pv (pS (refFs x)), []⟩, ⟨12, 12, none, none, .ptr, 33, 3, true, pv (pRef ((absR x) * (twoR (-(lastR x (bits : Int) least))))), []⟩]) (G2 := [⟨none, none, 1, pI (bits : Int)⟩, ⟨none, none, 3, pI (beyond - 1)⟩, ⟨none, none, 8, pF 0⟩, ⟨none, none, 9, pF (sgnOne x)⟩, ⟨none, none, 11, pI (lastR x (bits : Int) least)⟩, ⟨none, none, 13, pI (((quoN x (lastR x (bits : Int) least)) : Nat) : Int)⟩]) hI rfl rfl rfl [0, 1, 3, 7, 15, 31, 63, 127] (by kernel_rfl) (by kernel_rfl) ?_ [0, 1] [0, 1, 2, 3, 4, 11] rfl rfl fun a w hI => ?_
          · exact ⟨op_load 1 rfl rfl rfl rfl (by kernel_rfl) ty_R rfl (.here 5 rfl),
              op_call1 (fun _ _ => by kernel_rfl) (numlike_ref _) (.tmp 5 rfl rfl) (.here 6 rfl) (cn_floor_near (((bd_absR hx)).mul (bd_twoR _)) (by omega)),
              op_call1 (fun _ _ => by kernel_rfl) (numlike_tup2 (numlike_eq _) (numlike_eq _)) (.tmp 6 rfl rfl) (.here 7 rfl) (cn_whole_nat (by omega)),
              op_move (.tmp 7 rfl rfl) (.here 8 rfl),
              op_extract (.tmp 8 rfl rfl) ex2_0 (.here 9 rfl),
              op_extract (.tmp 8 rfl rfl) ex2_1 (.here 10 rfl),
              op_assign (.tmp 9 rfl rfl) (.here 11 rfl),
              op_assign (.tmp 10 rfl rfl) (.here 12 rfl),
              trivial⟩
          refine seq_drawn (V1 := [⟨4, 4, none, none, .ptr, 33, 3, true, pv (pS (refFs x)), []⟩, ⟨12, 12, none, none, .ptr, 33, 3, true, pv (pRef ((absR x) * (twoR (-(lastR x (bits : Int) least))))), []⟩]) (A1 := []) (G1 := [⟨none, none, 1, pI (bits : Int)⟩, ⟨none, none, 3, pI (beyond - 1)⟩, ⟨none, none, 8, pF 0⟩, ⟨none, none, 9, pF (sgnOne x)⟩, ⟨none, none, 11, pI (lastR x (bits : Int) least)⟩, ⟨none, none, 13, pI (((quoN x (lastR x (bits : Int) least)) : Nat) : Int)⟩, ⟨some 0, none, 60, pRef ((absR x) * (twoR (-(lastR x (bits : Int) least))))⟩, ⟨some 1, none, 61, pI (((quoN x (lastR x (bits : Int) least)) : Nat) : Int)⟩, ⟨some 2, none, 62, pRef (((((quoN x (lastR x (bits : Int) least)) : Nat) : Int) : Int) : Rat)⟩, ⟨some 3, none, 63, pRef (((absR x) * (twoR (-(lastR x (bits : Int) least)))) - (((((quoN x (lastR x (bits : Int) least)) : Nat) : Int) : Int) : Rat))⟩, ⟨some 4, none, 64, pRef (twoR (-1))⟩, ⟨some 5, none, 65, pI (cmpN x (lastR x (bits : Int) least))⟩, ⟨some 6, none, 15, pI (cmpN x (lastR x (bits : Int) least))⟩]) (V2 := [⟨4, 4, none, none, .ptr, 33, 3, true, pv (pS (refFs x)), []⟩, ⟨12, 12, none, none, .ptr, 33, 3, true, pv (pRef ((absR x) * (twoR (-(lastR x (bits : Int) least))))), []⟩]) (G2 := [⟨none, none, 1, pI (bits : Int)⟩, ⟨none, none, 3, pI (beyond - 1)⟩, ⟨none, none, 8, pF 0⟩, ⟨none, none, 9, pF (sgnOne x)⟩, ⟨none, none, 11, pI (lastR x (bits : Int) least)⟩, ⟨none, none, 13, pI (((quoN x (lastR x (bits : Int) least)) : Nat) : Int)⟩, ⟨none, none, 15, pI (cmpN x (lastR x (bits : Int) least))⟩]) hI rfl rfl rfl [0, 0, 2, 7, 15, 31, 63] (by kernel_rfl) (by kernel_rfl) (by kernel_rfl) (by kernel_rfl) ?_ [0, 1] [0, 1, 2, 3, 4, 5, 12] rfl rfl fun a w hI => ?_
          · exact ⟨op_load 1 rfl rfl rfl rfl (by kernel_rfl) ty_R rfl (.here 6 rfl),
              op_move (.tmp 5 rfl rfl) (.here 7 rfl),
              op_call1 (fun _ _ => by kernel_rfl) (numlike_ref _) (.tmp 7 rfl rfl) (.here 8 rfl) (cn_int (((quoN x (lastR x (bits : Int) least)) : Nat) : Int) (by omega) (by omega)),
              op_call2 (fun _ _ => by kernel_rfl) (numlike_ref _) (.tmp 6 rfl rfl) (.tmp 8 rfl rfl) (.here 9 rfl) (cn_sub (((bd_absR hx)).mul (bd_twoR _)) B5 (by omega)),
              op_call1 (fun _ _ => by kernel_rfl) (numlike_ref _) (.const _) (.here 10 rfl) (cn_two (by omega)),
              op_call2 (fun _ _ => by kernel_rfl) (numlike_eq _) (.tmp 9 rfl rfl) (.tmp 10 rfl rfl) (.here 11 rfl) (c_knownI (b := cmpN x (lastR x (bits : Int) least)) (cn_cmp (((((bd_absR hx)).mul (bd_twoR _))).sub_ B5) (bd_twoR _) (by omega)) (cmp_near x _)),
              op_assign (.tmp 11 rfl rfl) (.here 12 rfl),
              trivial⟩
          refine wp_seq ?_
          refine seq_text (V1 := [⟨4, 4, none, none, .ptr, 33, 3, true, pv (pS (refFs x)), []⟩, ⟨12, 12, none, none, .ptr, 33, 3, true, pv (pRef ((absR x) * (twoR (-(lastR x (bits : Int) least))))), []⟩]) (A1 := []) (G1 := [⟨none, none, 1, pI (bits : Int)⟩, ⟨none, none, 3, pI (beyond - 1)⟩, ⟨none, none, 8, pF 0⟩, ⟨none, none, 9, pF (sgnOne x)⟩, ⟨none, none, 11, pI (lastR x (bits : Int) least)⟩, ⟨none, none, 13, pI (((quoN x (lastR x (bits : Int) least)) : Nat) : Int)⟩, ⟨none, none, 15, pI (cmpN x (lastR x (bits : Int) least))⟩, ⟨some 0, none, 66, pI (cmpN x (lastR x (bits : Int) least))⟩, ⟨some 1, none, 67, pB (decide ((cmpN x (lastR x (bits : Int) least)) > (0 : Int)))⟩, ⟨some 2, none, 68, pB (decide ((cmpN x (lastR x (bits : Int) least)) > (0 : Int)))⟩, ⟨some 3, none, 69, pSel ((decide ((cmpN x (lastR x (bits : Int) least)) > (0 : Int))) = false) (pI (cmpN x (lastR x (bits : Int) least)))⟩, ⟨some 4, none, 70, pSel ((decide ((cmpN x (lastR x (bits : Int) least)) > (0 : Int))) = false) (pB ((cmpN x (lastR x (bits : Int) least)) == (0 : Int)))⟩, ⟨some 5, none, 71, pSel ((decide ((cmpN x (lastR x (bits : Int) least)) > (0 : Int))) = false) (pB ((cmpN x (lastR x (bits : Int) least)) == (0 : Int)))⟩, ⟨some 6, none, 72, pSel (((decide ((cmpN x (lastR x (bits : Int) least)) > (0 : Int))) = false) ∧ ((cmpN x (lastR x (bits : Int) least)) == (0 : Int)) = true) (pI (((quoN x (lastR x (bits : Int) least)) : Nat) : Int))⟩, ⟨some 7, none, 73, pSel (((decide ((cmpN x (lastR x (bits : Int) least)) > (0 : Int))) = false) ∧ ((cmpN x (lastR x (bits : Int) least)) == (0 : Int)) = true) (pI (((((quoN x (lastR x (bits : Int) least)) : Nat) : Int)).tmod 2))⟩, ⟨some 8, none, 74, pSel (((decide ((cmpN x (lastR x (bits : Int) least)) > (0 : Int))) = false) ∧ ((cmpN x (lastR x (bits : Int) least)) == (0 : Int)) = true) (pB ((((((quoN x (lastR x (bits : Int) least)) : Nat) : Int)).tmod 2) == (1 : Int)))⟩, ⟨some 9, none, 75, pSel ((decide ((cmpN x (lastR x (bits : Int) least)) > (0 : Int))) = false) (pB (((cmpN x (lastR x (bits : Int) least)) == (0 : Int)) && ((((((quoN x (lastR x (bits : Int) least)) : Nat) : Int)).tmod 2) == (1 : Int))))⟩, ⟨some 10, none, 76, pB ((decide ((cmpN x (lastR x (bits : Int) least)) > (0 : Int))) || (((cmpN x (lastR x (bits : Int) least)) == (0 : Int)) && ((((((quoN x (lastR x (bits : Int) least)) : Nat) : Int)).tmod 2) == (1 : Int))))⟩]) (V2 := [⟨4, 4, none, none, .ptr, 33, 3, true, pv (pS (refFs x)), []⟩, ⟨12, 12, none, none, .ptr, 33, 3, true, pv (pRef ((absR x) * (twoR (-(lastR x (bits : Int) least))))), []⟩]) (G2 := [⟨none, none, 1, pI (bits : Int)⟩, ⟨none, none, 3, pI (beyond - 1)⟩, ⟨none, none, 8, pF 0⟩, ⟨none, none, 9, pF (sgnOne x)⟩, ⟨none, none, 11, pI (lastR x (bits : Int) least)⟩, ⟨none, none, 13, pI (((quoN x (lastR x (bits : Int) least)) : Nat) : Int)⟩, ⟨none, none, 76, pB ((decide ((cmpN x (lastR x (bits : Int) least)) > (0 : Int))) || (((cmpN x (lastR x (bits : Int) least)) == (0 : Int)) && ((((((quoN x (lastR x (bits : Int) least)) : Nat) : Int)).tmod 2) == (1 : Int))))⟩]) hI rfl rfl rfl [0, 1, 3, 7, 15, 31, 63, 127, 255, 511, 1023] (by kernel_rfl) (by kernel_rfl) ?_ [0, 1] [0, 1, 2, 3, 4, 5, 17] rfl rfl fun a w hI => ?_
          · exact ⟨op_move (.tmp 6 rfl rfl) (.here 7 rfl),
              op_bin (v := .bool (decide ((cmpN x (lastR x (bits : Int) least)) > (0 : Int)))) (.tmp 7 rfl rfl) (.const _) (fun _ => rfl) (.here 8 rfl),
              op_move (.tmp 8 rfl rfl) (.here 9 rfl),
              op_if 9 rfl rfl (fun hc => op_move (.tmp 6 rfl rfl) (.sel hc 10 rfl)) (by kernel_rfl) (fun _ => .none (by kernel_rfl)) (fun hc => .sel_no hc 10 rfl),
              op_if 9 rfl rfl (fun hc => op_bin (v := .bool (((cmpN x (lastR x (bits : Int) least)) == (0 : Int)))) (.sel (.tmp 10 rfl rfl) hc) (.const _) (fun _ => rfl) (.sel hc 11 rfl)) (by kernel_rfl) (fun _ => .none (by kernel_rfl)) (fun hc => .sel_no hc 11 rfl),
              op_if 9 rfl rfl (fun hc => op_move (.sel (.tmp 11 rfl rfl) hc) (.sel hc 12 rfl)) (by kernel_rfl) (fun _ => .none (by kernel_rfl)) (fun hc => .sel_no hc 12 rfl),
              op_if2 12 rfl rfl (fun hc => op_move (.tmp 5 rfl rfl) (.sel hc 13 rfl)) (by kernel_rfl) (fun _ => .none (by kernel_rfl)) (fun hc => .sel_no hc 13 rfl),
              op_if2 12 rfl rfl (fun hc => op_bin (.sel (.tmp 13 rfl rfl) hc) (.const _) (fun _ => rfl) (.sel hc 14 rfl)) (by kernel_rfl) (fun _ => .none (by kernel_rfl)) (fun hc => .sel_no hc 14 rfl),
              op_if2 12 rfl rfl (fun hc => op_bin (v := .bool (((((((quoN x (lastR x (bits : Int) least)) : Nat) : Int)).tmod 2) == (1 : Int)))) (.sel (.tmp 14 rfl rfl) hc) (.const _) (fun _ => rfl) (.sel hc 15 rfl)) (by kernel_rfl) (fun _ => .none (by kernel_rfl)) (fun hc => .sel_no hc 15 rfl),
              op_if 9 rfl rfl (fun hc => op_pick (.sel (.tmp 12 rfl rfl) hc) (fun h => .imp (.sel (.tmp 15 rfl rfl) (⟨hc, h⟩)) fun _ _ e => by rw [h]; exact e) (fun h => .imp (.const _) fun _ _ e => by rw [h]; exact e) (.sel hc 16 rfl)) (by kernel_rfl) (fun _ => .none (by kernel_rfl)) (fun hc => .sel_no hc 16 rfl),
              op_pick (.tmp 9 rfl rfl) (fun h => .imp (.const _) fun _ _ e => by rw [h]; exact e) (fun h => .imp (.sel (.tmp 16 rfl rfl) (h)) fun _ _ e => by rw [h]; exact e) (.here 17 rfl),
              trivial⟩
          refine wp_joinT (fun a w => Inv ⟨114, w0, M, fun _ => False⟩ [⟨4, 4, none, none, .ptr, 33, 3, true, pv (pS (refFs x)), []⟩, ⟨12, 12, none, none, .ptr, 33, 3, true, pv (pRef ((absR x) * (twoR (-(lastR x (bits : Int) least))))), []⟩] [] [⟨none, none, 1, pI (bits : Int)⟩, ⟨none, none, 3, pI (beyond - 1)⟩, ⟨none, none, 8, pF 0⟩, ⟨none, none, 9, pF (sgnOne x)⟩, ⟨none, none, 11, pI (lastR x (bits : Int) least)⟩, ⟨none, none, 13, pI ((nearM x (bits : Int) least : Nat) : Int)⟩] none_ a w) ?_ ?_
          ·
            refine cond_if hI 6 rfl (fun ht => ?_) (fun ht => ?_)
            · have t9 := ht
              refine sem_text (V1 := [⟨4, 4, none, none, .ptr, 33, 3, true, pv (pS (refFs x)), []⟩, ⟨12, 12, none, none, .ptr, 33, 3, true, pv (pRef ((absR x) * (twoR (-(lastR x (bits : Int) least))))), []⟩]) (A1 := []) (G1 := [⟨none, none, 1, pI (bits : Int)⟩, ⟨none, none, 3, pI (beyond - 1)⟩, ⟨none, none, 8, pF 0⟩, ⟨none, none, 9, pF (sgnOne x)⟩, ⟨none, none, 11, pI (lastR x (bits : Int) least)⟩, ⟨none, some 2, 13, pI (((quoN x (lastR x (bits : Int) least)) : Nat) : Int)⟩, ⟨none, none, 76, pB ((decide ((cmpN x (lastR x (bits : Int) least)) > (0 : Int))) || (((cmpN x (lastR x (bits : Int) least)) == (0 : Int)) && ((((((quoN x (lastR x (bits : Int) least)) : Nat) : Int)).tmod 2) == (1 : Int))))⟩, ⟨some 0, none, 77, pI (((quoN x (lastR x (bits : Int) least)) : Nat) : Int)⟩, ⟨some 1, none, 78, pI ((((quoN x (lastR x (bits : Int) least)) : Nat) : Int) + (1 : Int))⟩, ⟨some 2, none, 13, pI ((((quoN x (lastR x (bits : Int) least)) : Nat) : Int) + (1 : Int))⟩]) (V2 := [⟨4, 4, none, none, .ptr, 33, 3, true, pv (pS (refFs x)), []⟩, ⟨12, 12, none, none, .ptr, 33, 3, true, pv (pRef ((absR x) * (twoR (-(lastR x (bits : Int) least))))), []⟩]) (G2 := [⟨none, none, 1, pI (bits : Int)⟩, ⟨none, none, 3, pI (beyond - 1)⟩, ⟨none, none, 8, pF 0⟩, ⟨none, none, 9, pF (sgnOne x)⟩, ⟨none, none, 11, pI (lastR x (bits : Int) least)⟩, ⟨none, none, 13, pI ((((quoN x (lastR x (bits : Int) least)) : Nat) : Int) + (1 : Int))⟩]) hI rfl rfl rfl [0, 1, 3] (by kernel_rfl) (by kernel_rfl) ?_ [0, 1] [0, 1, 2, 3, 4, 8] rfl rfl fun a w hI => ?_
              · exact ⟨op_move (.tmp 5 rfl rfl) (.here 7 rfl),
                  op_bin (v := .int .i64 (IntKind.i64.wrap ((((quoN x (lastR x (bits : Int) least)) : Nat) : Int) + (1 : Int)))) (.tmp 7 rfl rfl) (.const _) (fun _ => rfl) (.at_ 8 _ _ rfl (pI_wrap (by omega))),
                  op_assign (.tmp 8 rfl rfl) (.here 9 rfl),
                  trivial⟩
              refine then_of ?_
              exact (hI.conv ⟨⟨0, _, _, rfl, ⟨rfl, rfl, rfl⟩, rfl, fun _ => fun _ _ h => h⟩, ⟨1, _, _, rfl, ⟨rfl, rfl, rfl⟩, rfl, fun _ => fun _ _ h => h⟩, trivial⟩ ⟨⟨rfl, rfl, 0, _, rfl, fun _ _ h => h⟩, ⟨rfl, rfl, 1, _, rfl, fun _ _ h => h⟩, ⟨rfl, rfl, 2, _, rfl, fun _ _ h => h⟩, ⟨rfl, rfl, 3, _, rfl, fun _ _ h => h⟩, ⟨rfl, rfl, 4, _, rfl, fun _ _ h => h⟩, ⟨rfl, rfl, 5, _, rfl, (pI_eq (near_up t9))⟩, trivial⟩)
            · have t10 := ht
              refine wp_skip ?_
              refine then_of ?_
              exact (hI.conv ⟨⟨0, _, _, rfl, ⟨rfl, rfl, rfl⟩, rfl, fun _ => fun _ _ h => h⟩, ⟨1, _, _, rfl, ⟨rfl, rfl, rfl⟩, rfl, fun _ => fun _ _ h => h⟩, trivial⟩ ⟨⟨rfl, rfl, 0, _, rfl, fun _ _ h => h⟩, ⟨rfl, rfl, 1, _, rfl, fun _ _ h => h⟩, ⟨rfl, rfl, 2, _, rfl, fun _ _ h => h⟩, ⟨rfl, rfl, 3, _, rfl, fun _ _ h => h⟩, ⟨rfl, rfl, 4, _, rfl, fun _ _ h => h⟩, ⟨rfl, rfl, 5, _, rfl, (pI_eq (near_same t10))⟩, trivial⟩)
          ·
            intro a w hI
            refine wp_seq ?_
            refine seq_text (V1 := [⟨4, 4, none, none, .ptr, 33, 3, true, pv (pS (refFs x)), []⟩, ⟨12, 12, none, none, .ptr, 33, 3, true, pv (pRef ((absR x) * (twoR (-(lastR x (bits : Int) least))))), []⟩]) (A1 := []) (G1 := [⟨none, none, 1, pI (bits : Int)⟩, ⟨none, none, 3, pI (beyond - 1)⟩, ⟨none, none, 8, pF 0⟩, ⟨none, none, 9, pF (sgnOne x)⟩, ⟨none, none, 11, pI (lastR x (bits : Int) least)⟩, ⟨none, none, 13, pI ((nearM x (bits : Int) least : Nat) : Int)⟩, ⟨some 0, none, 79, pI ((nearM x (bits : Int) least : Nat) : Int)⟩, ⟨some 1, none, 80, pB (((nearM x (bits : Int) least : Nat) : Int) == (0 : Int))⟩]) (V2 := [⟨4, 4, none, none, .ptr, 33, 3, true, pv (pS (refFs x)), []⟩, ⟨12, 12, none, none, .ptr, 33, 3, true, pv (pRef ((absR x) * (twoR (-(lastR x (bits : Int) least))))), []⟩]) (G2 := [⟨none, none, 1, pI (bits : Int)⟩, ⟨none, none, 3, pI (beyond - 1)⟩, ⟨none, none, 8, pF 0⟩, ⟨none, none, 9, pF (sgnOne x)⟩, ⟨none, none, 11, pI (lastR x (bits : Int) least)⟩, ⟨none, none, 13, pI ((nearM x (bits : Int) least : Nat) : Int)⟩, ⟨none, none, 80, pB (((nearM x (bits : Int) least : Nat) : Int) == (0 : Int))⟩]) hI rfl rfl rfl [0, 1] (by kernel_rfl) (by kernel_rfl) ?_ [0, 1] [0, 1, 2, 3, 4, 5, 7] rfl rfl fun a w hI => ?_
            · exact ⟨op_move (.tmp 5 rfl rfl) (.here 6 rfl),
                op_bin (v := .bool ((((nearM x (bits : Int) least : Nat) : Int) == (0 : Int)))) (.tmp 6 rfl rfl) (.const _) (fun _ => rfl) (.here 7 rfl),
                trivial⟩
            refine cond_if hI 6 rfl (fun ht => ?_) (fun ht => ?_)
            · have t11 := eq_of_beq ht
              refine seq_text (V1 := [⟨4, 4, none, none, .ptr, 33, 3, true, pv (pS (refFs x)), []⟩, ⟨12, 12, none, none, .ptr, 33, 3, true, pv (pRef ((absR x) * (twoR (-(lastR x (bits : Int) least))))), []⟩]) (A1 := []) (G1 := [⟨none, none, 1, pI (bits : Int)⟩, ⟨none, none, 3, pI (beyond - 1)⟩, ⟨none, some 0, 8, pF 0⟩, ⟨none, none, 9, pF (sgnOne x)⟩, ⟨none, none, 11, pI (lastR x (bits : Int) least)⟩, ⟨none, none, 13, pI ((nearM x (bits : Int) least : Nat) : Int)⟩, ⟨none, none, 80, pB (((nearM x (bits : Int) least : Nat) : Int) == (0 : Int))⟩, ⟨some 0, none, 8, pF 0⟩]) (V2 := [⟨4, 4, none, none, .ptr, 33, 3, true, pv (pS (refFs x)), []⟩, ⟨12, 12, none, none, .ptr, 33, 3, true, pv (pRef ((absR x) * (twoR (-(lastR x (bits : Int) least))))), []⟩]) (G2 := [⟨none, none, 1, pI (bits : Int)⟩, ⟨none, none, 3, pI (beyond - 1)⟩, ⟨none, none, 9, pF (sgnOne x)⟩, ⟨none, none, 11, pI (lastR x (bits : Int) least)⟩, ⟨none, none, 13, pI ((nearM x (bits : Int) least : Nat) : Int)⟩, ⟨none, none, 8, pF 0⟩]) hI rfl rfl rfl [0] (by kernel_rfl) (by kernel_rfl) ?_ [0, 1] [0, 1, 2, 3, 4, 6] rfl rfl fun a w hI => ?_
              · exact ⟨op_assign (.const _) (.here 7 rfl),
                  trivial⟩
              refine wp_ret ?_
              refine then_ret ?_
              exact fin1 hI rfl (.imp (.tmp 5 rfl) (pF_eq (nearW_nil t2 hb.1 hlb t8 t11).symm))
            · have t12 := beq_eq_false_iff_ne.1 ht
              refine wp_skip ?_
              refine then_of ?_
              refine wp_seq ?_
              refine seq_text (V1 := [⟨4, 4, none, none, .ptr, 33, 3, true, pv (pS (refFs x)), []⟩, ⟨12, 12, none, none, .ptr, 33, 3, true, pv (pRef ((absR x) * (twoR (-(lastR x (bits : Int) least))))), []⟩]) (A1 := []) (G1 := [⟨none, none, 1, pI (bits : Int)⟩, ⟨none, none, 3, pI (beyond - 1)⟩, ⟨none, none, 8, pF 0⟩, ⟨none, none, 9, pF (sgnOne x)⟩, ⟨none, none, 11, pI (lastR x (bits : Int) least)⟩, ⟨none, none, 13, pI ((nearM x (bits : Int) least : Nat) : Int)⟩, ⟨none, none, 80, pB (((nearM x (bits : Int) least : Nat) : Int) == (0 : Int))⟩, ⟨some 0, none, 81, pI ((nearM x (bits : Int) least : Nat) : Int)⟩, ⟨some 1, none, 82, pI (bits : Int)⟩, ⟨some 2, none, 83, pEq (.int .u64 (bits : Int))⟩, ⟨some 3, none, 84, pI ((2 ^ bits : Nat) : Int)⟩, ⟨some 4, none, 85, pB (((nearM x (bits : Int) least : Nat) : Int) == ((2 ^ bits : Nat) : Int))⟩, ⟨some 5, none, 86, pB (((nearM x (bits : Int) least : Nat) : Int) == ((2 ^ bits : Nat) : Int))⟩, ⟨some 6, none, 87, pSel ((((nearM x (bits : Int) least : Nat) : Int) == ((2 ^ bits : Nat) : Int)) = true) (pI (lastR x (bits : Int) least))⟩, ⟨some 7, none, 88, pSel ((((nearM x (bits : Int) least : Nat) : Int) == ((2 ^ bits : Nat) : Int)) = true) (pI (beyond - 1))⟩, ⟨some 8, none, 89, pSel ((((nearM x (bits : Int) least : Nat) : Int) == ((2 ^ bits : Nat) : Int)) = true) (pI (bits : Int))⟩, ⟨some 9, none, 90, pSel ((((nearM x (bits : Int) least : Nat) : Int) == ((2 ^ bits : Nat) : Int)) = true) (pI ((beyond - 1) - (bits : Int)))⟩, ⟨some 10, none, 91, pSel ((((nearM x (bits : Int) least : Nat) : Int) == ((2 ^ bits : Nat) : Int)) = true) (pI (((beyond - 1) - (bits : Int)) + (1 : Int)))⟩, ⟨some 11, none, 92, pSel ((((nearM x (bits : Int) least : Nat) : Int) == ((2 ^ bits : Nat) : Int)) = true) (pB ((lastR x (bits : Int) least) == (((beyond - 1) - (bits : Int)) + (1 : Int))))⟩, ⟨some 12, none, 93, pB ((((nearM x (bits : Int) least : Nat) : Int) == ((2 ^ bits : Nat) : Int)) && ((lastR x (bits : Int) least) == (((beyond - 1) - (bits : Int)) + (1 : Int))))⟩]) (V2 := [⟨4, 4, none, none, .ptr, 33, 3, true, pv (pS (refFs x)), []⟩, ⟨12, 12, none, none, .ptr, 33, 3, true, pv (pRef ((absR x) * (twoR (-(lastR x (bits : Int) least))))), []⟩]) (G2 := [⟨none, none, 8, pF 0⟩, ⟨none, none, 9, pF (sgnOne x)⟩, ⟨none, none, 11, pI (lastR x (bits : Int) least)⟩, ⟨none, none, 13, pI ((nearM x (bits : Int) least : Nat) : Int)⟩, ⟨none, none, 93, pB ((((nearM x (bits : Int) least : Nat) : Int) == ((2 ^ bits : Nat) : Int)) && ((lastR x (bits : Int) least) == (((beyond - 1) - (bits : Int)) + (1 : Int))))⟩]) hI rfl rfl rfl [0, 1, 3, 7, 15, 31, 63, 127, 255, 511, 1023, 2047, 4095] (by kernel_rfl) (by kernel_rfl) ?_ [0, 1] [2, 3, 4, 5, 19] rfl rfl fun a w hI => ?_
              · exact ⟨op_move (.tmp 5 rfl rfl) (.here 7 rfl),
                  op_move (.tmp 0 rfl rfl) (.here 8 rfl),
                  op_conv (.tmp 8 rfl rfl) hcv (.here 9 rfl),
                  op_bin (.const _) (.tmp 9 rfl rfl) hsh (.here 10 rfl),
                  op_bin (v := .bool ((((nearM x (bits : Int) least : Nat) : Int) == ((2 ^ bits : Nat) : Int)))) (.tmp 7 rfl rfl) (.tmp 10 rfl rfl) (fun _ => rfl) (.here 11 rfl),
                  op_move (.tmp 11 rfl rfl) (.here 12 rfl),
                  op_if 12 rfl rfl (fun hc => op_move (.tmp 4 rfl rfl) (.sel hc 13 rfl)) (by kernel_rfl) (fun _ => .none (by kernel_rfl)) (fun hc => .sel_no hc 13 rfl),
                  op_if 12 rfl rfl (fun hc => op_move (.tmp 1 rfl rfl) (.sel hc 14 rfl)) (by kernel_rfl) (fun _ => .none (by kernel_rfl)) (fun hc => .sel_no hc 14 rfl),
                  op_if 12 rfl rfl (fun hc => op_move (.tmp 0 rfl rfl) (.sel hc 15 rfl)) (by kernel_rfl) (fun _ => .none (by kernel_rfl)) (fun hc => .sel_no hc 15 rfl),
                  op_if 12 rfl rfl (fun hc => op_bin (.sel (.tmp 14 rfl rfl) hc) (.sel (.tmp 15 rfl rfl) hc) (bin_sub (by omega)) (.sel hc 16 rfl)) (by kernel_rfl) (fun _ => .none (by kernel_rfl)) (fun hc => .sel_no hc 16 rfl),
                  op_if 12 rfl rfl (fun hc => op_bin (.sel (.tmp 16 rfl rfl) hc) (.const _) (bin_add (by omega)) (.sel hc 17 rfl)) (by kernel_rfl) (fun _ => .none (by kernel_rfl)) (fun hc => .sel_no hc 17 rfl),
                  op_if 12 rfl rfl (fun hc => op_bin (v := .bool (((lastR x (bits : Int) least) == (((beyond - 1) - (bits : Int)) + (1 : Int))))) (.sel (.tmp 13 rfl rfl) hc) (.sel (.tmp 17 rfl rfl) hc) (fun _ => rfl) (.sel hc 18 rfl)) (by kernel_rfl) (fun _ => .none (by kernel_rfl)) (fun hc => .sel_no hc 18 rfl),
                  op_pick (.tmp 12 rfl rfl) (fun h => .imp (.sel (.tmp 18 rfl rfl) (h)) fun _ _ e => by rw [h]; exact e) (fun h => .imp (.const _) fun _ _ e => by rw [h]; exact e) (.here 19 rfl),
                  trivial⟩
              refine cond_if hI 4 rfl (fun ht => ?_) (fun ht => ?_)
              · have t13 := ht
                refine seq_text (V1 := [⟨4, 4, none, none, .ptr, 33, 3, true, pv (pS (refFs x)), []⟩, ⟨12, 12, none, none, .ptr, 33, 3, true, pv (pRef ((absR x) * (twoR (-(lastR x (bits : Int) least))))), []⟩]) (A1 := []) (G1 := [⟨none, some 3, 8, pF 0⟩, ⟨none, none, 9, pF (sgnOne x)⟩, ⟨none, none, 11, pI (lastR x (bits : Int) least)⟩, ⟨none, none, 13, pI ((nearM x (bits : Int) least : Nat) : Int)⟩, ⟨none, none, 93, pB ((((nearM x (bits : Int) least : Nat) : Int) == ((2 ^ bits : Nat) : Int)) && ((lastR x (bits : Int) least) == (((beyond - 1) - (bits : Int)) + (1 : Int))))⟩, ⟨some 0, none, 94, pF (sgnOne x)⟩, ⟨some 1, none, 95, pF 9218868437227405312⟩, ⟨some 2, none, 96, pF (sgnF x 9218868437227405312)⟩, ⟨some 3, none, 8, pF (sgnF x 9218868437227405312)⟩]) (V2 := [⟨4, 4, none, none, .ptr, 33, 3, true, pv (pS (refFs x)), []⟩, ⟨12, 12, none, none, .ptr, 33, 3, true, pv (pRef ((absR x) * (twoR (-(lastR x (bits : Int) least))))), []⟩]) (G2 := [⟨none, none, 9, pF (sgnOne x)⟩, ⟨none, none, 11, pI (lastR x (bits : Int) least)⟩, ⟨none, none, 13, pI ((nearM x (bits : Int) least : Nat) : Int)⟩, ⟨none, none, 8, pF (sgnF x 9218868437227405312)⟩]) hI rfl rfl rfl [0, 1, 3, 7] (by kernel_rfl) (by kernel_rfl) ?_ [0, 1] [0, 1, 2, 7] rfl rfl fun a w hI => ?_
                · exact ⟨op_move (.tmp 1 rfl rfl) (.here 5 rfl),
                    op_callB1 (fun _ _ => by kernel_rfl) (.const _) (.here 6 rfl) (c_inf),
                    op_fmul (.tmp 5 rfl rfl) (.tmp 6 rfl rfl) (sgn_mul_inf x) (.here 7 rfl),
                    op_assign (.tmp 7 rfl rfl) (.here 8 rfl),
                    trivial⟩
                refine wp_ret ?_
                refine then_ret ?_
                exact fin1 hI rfl (.imp (.tmp 3 rfl) (pF_eq (nearW_over t2 hb.1 hlb (.inr (at_top t13))).symm))
              · have t14 := ht
                refine wp_skip ?_
                refine then_of ?_
                refine seq_text (V1 := [⟨4, 4, none, none, .ptr, 33, 3, true, pv (pS (refFs x)), []⟩, ⟨12, 12, none, none, .ptr, 33, 3, true, pv (pRef ((absR x) * (twoR (-(lastR x (bits : Int) least))))), []⟩]) (A1 := []) (G1 := [⟨none, none, 8, pF 0⟩, ⟨none, none, 9, pF (sgnOne x)⟩, ⟨none, none, 11, pI (lastR x (bits : Int) least)⟩, ⟨none, none, 13, pI ((nearM x (bits : Int) least : Nat) : Int)⟩, ⟨none, none, 93, pB ((((nearM x (bits : Int) least : Nat) : Int) == ((2 ^ bits : Nat) : Int)) && ((lastR x (bits : Int) least) == (((beyond - 1) - (bits : Int)) + (1 : Int))))⟩, ⟨some 0, none, 97, pI ((nearM x (bits : Int) least : Nat) : Int)⟩, ⟨some 1, none, 98, pF (Ieee.double.nearest false (nearM x (bits : Int) least) 0)⟩, ⟨some 2, none, 16, pF (Ieee.double.nearest false (nearM x (bits : Int) least) 0)⟩]) (V2 := [⟨4, 4, none, none, .ptr, 33, 3, true, pv (pS (refFs x)), []⟩, ⟨12, 12, none, none, .ptr, 33, 3, true, pv (pRef ((absR x) * (twoR (-(lastR x (bits : Int) least))))), []⟩]) (G2 := [⟨none, none, 8, pF 0⟩, ⟨none, none, 9, pF (sgnOne x)⟩, ⟨none, none, 11, pI (lastR x (bits : Int) least)⟩, ⟨none, none, 16, pF (Ieee.double.nearest false (nearM x (bits : Int) least) 0)⟩]) hI rfl rfl rfl [0, 1, 3] (by kernel_rfl) (by kernel_rfl) ?_ [0, 1] [0, 1, 2, 7] rfl rfl fun a w hI => ?_
                · exact ⟨op_move (.tmp 3 rfl rfl) (.here 5 rfl),
                    op_conv (.tmp 5 rfl rfl) (fun _ => by kernel_rfl) (.at_ 6 _ _ rfl (pF_eq (f64_nat _))),
                    op_assign (.tmp 6 rfl rfl) (.here 7 rfl),
                    trivial⟩
                refine wp_seq ?_
                refine wp_block ?_
                have hr := near_in_range t2 hb.1 hlb t8 (not_top (t := 0) t14)
                obtain ⟨m, e0, hX, hin0, he0, hin, hfin⟩ := near_ok (bits := bits) hb.2 hl.1 hbe.2 hr (by omega)
                refine wp_loop_ix (fun (z : Int) a w => ((0 ≤ z) ∧ (z ≤ lastR x (bits : Int) least ∨ z = 0)) ∧ Inv ⟨114, w0, M, fun _ => False⟩ [⟨4, 4, none, none, .ptr, 33, 3, true, pv (pS (refFs x)), []⟩, ⟨12, 12, none, none, .ptr, 33, 3, true, pv (pRef ((absR x) * (twoR (-(lastR x (bits : Int) least))))), []⟩] [] [⟨none, none, 8, pF 0⟩, ⟨none, none, 9, pF (sgnOne x)⟩, ⟨none, none, 11, pI (lastR x (bits : Int) least - z)⟩, ⟨none, none, 16, pF (Ieee.double.nearest false m (e0 + z))⟩] none_ a w) (fun (z : Int) => (lastR x (bits : Int) least - z).toNat) ((0 : Int)) ⟨⟨by omega, by omega⟩, (hI.conv ⟨⟨0, _, _, rfl, ⟨rfl, rfl, rfl⟩, rfl, fun _ => fun _ _ h => h⟩, ⟨1, _, _, rfl, ⟨rfl, rfl, rfl⟩, rfl, fun _ => fun _ _ h => h⟩, trivial⟩ ⟨⟨rfl, rfl, 0, _, rfl, fun _ _ h => h⟩, ⟨rfl, rfl, 1, _, rfl, fun _ _ h => h⟩, ⟨rfl, rfl, 2, _, rfl, (pI_eq (by omega))⟩, ⟨rfl, rfl, 3, _, rfl, (pF_eq (by rw [Int.add_zero]; exact hX))⟩, trivial⟩)⟩ ?_
                intro z a w hIk
                obtain ⟨hp, hI⟩ := hIk
                refine wp_seq ?_
                refine seq_text (V1 := [⟨4, 4, none, none, .ptr, 33, 3, true, pv (pS (refFs x)), []⟩, ⟨12, 12, none, none, .ptr, 33, 3, true, pv (pRef ((absR x) * (twoR (-(lastR x (bits : Int) least))))), []⟩]) (A1 := []) (G1 := [⟨none, none, 8, pF 0⟩, ⟨none, none, 9, pF (sgnOne x)⟩, ⟨none, none, 11, pI (lastR x (bits : Int) least - z)⟩, ⟨none, none, 16, pF (Ieee.double.nearest false m (e0 + z))⟩, ⟨some 0, none, 99, pI (lastR x (bits : Int) least - z)⟩, ⟨some 1, none, 100, pB (decide ((lastR x (bits : Int) least - z) > (0 : Int)))⟩]) (V2 := [⟨4, 4, none, none, .ptr, 33, 3, true, pv (pS (refFs x)), []⟩, ⟨12, 12, none, none, .ptr, 33, 3, true, pv (pRef ((absR x) * (twoR (-(lastR x (bits : Int) least))))), []⟩]) (G2 := [⟨none, none, 8, pF 0⟩, ⟨none, none, 9, pF (sgnOne x)⟩, ⟨none, none, 11, pI (lastR x (bits : Int) least - z)⟩, ⟨none, none, 16, pF (Ieee.double.nearest false m (e0 + z))⟩, ⟨none, none, 99, pI (lastR x (bits : Int) least - z)⟩, ⟨none, none, 100, pB (decide ((lastR x (bits : Int) least - z) > (0 : Int)))⟩]) hI rfl rfl rfl [0, 1] (by kernel_rfl) (by kernel_rfl) ?_ [0, 1] [0, 1, 2, 3, 4, 5] rfl rfl fun a w hI => ?_
                · exact ⟨op_move (.tmp 2 rfl rfl) (.here 4 rfl),
                    op_bin (v := .bool (decide ((lastR x (bits : Int) least - z) > (0 : Int)))) (.tmp 4 rfl rfl) (.const _) (fun _ => rfl) (.here 5 rfl),
                    trivial⟩
                refine cond_if hI 5 rfl (fun ht => ?_) (fun ht => ?_)
                · have t15 := of_decide_eq_true ht
                  refine wp_skip ?_
                  refine then_of ?_
                  refine wp_seq ?_
                  refine wp_block ?_
                  refine sem_text (V1 := [⟨4, 4, none, none, .ptr, 33, 3, true, pv (pS (refFs x)), []⟩, ⟨12, 12, none, none, .ptr, 33, 3, true, pv (pRef ((absR x) * (twoR (-(lastR x (bits : Int) least))))), []⟩]) (A1 := []) (G1 := [⟨none, none, 8, pF 0⟩, ⟨none, none, 9, pF (sgnOne x)⟩, ⟨none, none, 11, pI (lastR x (bits : Int) least - z)⟩, ⟨none, some 2, 16, pF (Ieee.double.nearest false m (e0 + z))⟩, ⟨none, none, 99, pI (lastR x (bits : Int) least - z)⟩, ⟨none, none, 100, pB (decide ((lastR x (bits : Int) least - z) > (0 : Int)))⟩, ⟨some 0, none, 103, pF (Ieee.double.nearest false m (e0 + z))⟩, ⟨some 1, none, 104, pF (Ieee.double.nearest false m (e0 + (z + 1)))⟩, ⟨some 2, none, 16, pF (Ieee.double.nearest false m (e0 + (z + 1)))⟩]) (V2 := [⟨4, 4, none, none, .ptr, 33, 3, true, pv (pS (refFs x)), []⟩, ⟨12, 12, none, none, .ptr, 33, 3, true, pv (pRef ((absR x) * (twoR (-(lastR x (bits : Int) least))))), []⟩]) (G2 := [⟨none, none, 8, pF 0⟩, ⟨none, none, 9, pF (sgnOne x)⟩, ⟨none, none, 11, pI (lastR x (bits : Int) least - z)⟩, ⟨none, none, 99, pI (lastR x (bits : Int) least - z)⟩, ⟨none, none, 100, pB (decide ((lastR x (bits : Int) least - z) > (0 : Int)))⟩, ⟨none, none, 103, pF (Ieee.double.nearest false m (e0 + z))⟩, ⟨none, none, 104, pF (Ieee.double.nearest false m (e0 + (z + 1)))⟩, ⟨none, none, 16, pF (Ieee.double.nearest false m (e0 + (z + 1)))⟩]) hI rfl rfl rfl [0, 1, 3] (by kernel_rfl) (by kernel_rfl) ?_ [0, 1] [0, 1, 2, 3, 4, 5, 6, 7] rfl rfl fun a w hI => ?_
                  · exact ⟨op_move (.tmp 3 rfl rfl) (.here 6 rfl),
                      op_fmul (.tmp 6 rfl rfl) (.const _) (by rw [← Int.add_assoc]; exact double_twice (in_mid hin0 hin (by omega)) false) (.here 7 rfl),
                      op_assign (.tmp 7 rfl rfl) (.here 8 rfl),
                      trivial⟩
                  refine block_of ?_
                  refine then_of ?_
                  refine sem_text (V1 := [⟨4, 4, none, none, .ptr, 33, 3, true, pv (pS (refFs x)), []⟩, ⟨12, 12, none, none, .ptr, 33, 3, true, pv (pRef ((absR x) * (twoR (-(lastR x (bits : Int) least))))), []⟩]) (A1 := []) (G1 := [⟨none, none, 8, pF 0⟩, ⟨none, none, 9, pF (sgnOne x)⟩, ⟨none, some 2, 11, pI (lastR x (bits : Int) least - z)⟩, ⟨none, none, 99, pI (lastR x (bits : Int) least - z)⟩, ⟨none, none, 100, pB (decide ((lastR x (bits : Int) least - z) > (0 : Int)))⟩, ⟨none, none, 103, pF (Ieee.double.nearest false m (e0 + z))⟩, ⟨none, none, 104, pF (Ieee.double.nearest false m (e0 + (z + 1)))⟩, ⟨none, none, 16, pF (Ieee.double.nearest false m (e0 + (z + 1)))⟩, ⟨some 0, none, 101, pI (lastR x (bits : Int) least - z)⟩, ⟨some 1, none, 102, pI ((lastR x (bits : Int) least - z) - (1 : Int))⟩, ⟨some 2, none, 11, pI ((lastR x (bits : Int) least - z) - (1 : Int))⟩]) (V2 := [⟨4, 4, none, none, .ptr, 33, 3, true, pv (pS (refFs x)), []⟩, ⟨12, 12, none, none, .ptr, 33, 3, true, pv (pRef ((absR x) * (twoR (-(lastR x (bits : Int) least))))), []⟩]) (G2 := [⟨none, none, 8, pF 0⟩, ⟨none, none, 9, pF (sgnOne x)⟩, ⟨none, none, 99, pI (lastR x (bits : Int) least - z)⟩, ⟨none, none, 100, pB (decide ((lastR x (bits : Int) least - z) > (0 : Int)))⟩, ⟨none, none, 103, pF (Ieee.double.nearest false m (e0 + z))⟩, ⟨none, none, 104, pF (Ieee.double.nearest false m (e0 + (z + 1)))⟩, ⟨none, none, 16, pF (Ieee.double.nearest false m (e0 + (z + 1)))⟩, ⟨none, none, 101, pI (lastR x (bits : Int) least - z)⟩, ⟨none, none, 102, pI ((lastR x (bits : Int) least - z) - (1 : Int))⟩, ⟨none, none, 11, pI ((lastR x (bits : Int) least - z) - (1 : Int))⟩]) hI rfl rfl rfl [0, 1, 3] (by kernel_rfl) (by kernel_rfl) ?_ [0, 1] [0, 1, 2, 3, 4, 5, 6, 7, 8, 9] rfl rfl fun a w hI => ?_
                  · exact ⟨op_move (.tmp 2 rfl rfl) (.here 8 rfl),
                      op_bin (v := .int .i64 (IntKind.i64.wrap ((lastR x (bits : Int) least - z) - (1 : Int)))) (.tmp 8 rfl rfl) (.const _) (fun _ => rfl) (.at_ 9 _ _ rfl (pI_wrap (by omega))),
                      op_assign (.tmp 9 rfl rfl) (.here 10 rfl),
                      trivial⟩
                  refine then_of ?_
                  exact ⟨(z + 1), ⟨⟨by omega, by omega⟩, (hI.conv ⟨⟨0, _, _, rfl, ⟨rfl, rfl, rfl⟩, rfl, fun _ => fun _ _ h => h⟩, ⟨1, _, _, rfl, ⟨rfl, rfl, rfl⟩, rfl, fun _ => fun _ _ h => h⟩, trivial⟩ ⟨⟨rfl, rfl, 0, _, rfl, fun _ _ h => h⟩, ⟨rfl, rfl, 1, _, rfl, fun _ _ h => h⟩, ⟨rfl, rfl, 9, _, rfl, (pI_eq (by omega))⟩, ⟨rfl, rfl, 6, _, rfl, fun _ _ h => h⟩, trivial⟩)⟩, (show (lastR x (bits : Int) least - (z + 1)).toNat < (lastR x (bits : Int) least - z).toNat by omega)⟩
                · have t16 := of_decide_eq_false ht
                  refine wp_exit ?_
                  refine then_exit ?_
                  refine then_exit ?_
                  refine block_exit ?_
                  refine then_of ?_
                  refine wp_seq ?_
                  refine wp_block ?_
                  refine wp_loop_ix (fun (y : Int) a w => (lastR x (bits : Int) least ≤ y ∧ y ≤ z) ∧ Inv ⟨114, w0, M, fun _ => False⟩ [⟨4, 4, none, none, .ptr, 33, 3, true, pv (pS (refFs x)), []⟩, ⟨12, 12, none, none, .ptr, 33, 3, true, pv (pRef ((absR x) * (twoR (-(lastR x (bits : Int) least))))), []⟩] [] [⟨none, none, 8, pF 0⟩, ⟨none, none, 9, pF (sgnOne x)⟩, ⟨none, none, 11, pI (lastR x (bits : Int) least - y)⟩, ⟨none, none, 16, pF (Ieee.double.nearest false m (e0 + y))⟩] none_ a w) (fun (y : Int) => (y - lastR x (bits : Int) least).toNat) (z) ⟨⟨by omega, by omega⟩, (hI.conv ⟨⟨0, _, _, rfl, ⟨rfl, rfl, rfl⟩, rfl, fun _ => fun _ _ h => h⟩, ⟨1, _, _, rfl, ⟨rfl, rfl, rfl⟩, rfl, fun _ => fun _ _ h => h⟩, trivial⟩ ⟨⟨rfl, rfl, 0, _, rfl, fun _ _ h => h⟩, ⟨rfl, rfl, 1, _, rfl, fun _ _ h => h⟩, ⟨rfl, rfl, 2, _, rfl, (pI_eq (by omega))⟩, ⟨rfl, rfl, 3, _, rfl, fun _ _ h => h⟩, trivial⟩)⟩ ?_
                  intro y a w hIk
                  obtain ⟨hp, hI⟩ := hIk
                  refine wp_seq ?_
                  refine seq_text (V1 := [⟨4, 4, none, none, .ptr, 33, 3, true, pv (pS (refFs x)), []⟩, ⟨12, 12, none, none, .ptr, 33, 3, true, pv (pRef ((absR x) * (twoR (-(lastR x (bits : Int) least))))), []⟩]) (A1 := []) (G1 := [⟨none, none, 8, pF 0⟩, ⟨none, none, 9, pF (sgnOne x)⟩, ⟨none, none, 11, pI (lastR x (bits : Int) least - y)⟩, ⟨none, none, 16, pF (Ieee.double.nearest false m (e0 + y))⟩, ⟨some 0, none, 105, pI (lastR x (bits : Int) least - y)⟩, ⟨some 1, none, 106, pB (decide ((lastR x (bits : Int) least - y) < (0 : Int)))⟩]) (V2 := [⟨4, 4, none, none, .ptr, 33, 3, true, pv (pS (refFs x)), []⟩, ⟨12, 12, none, none, .ptr, 33, 3, true, pv (pRef ((absR x) * (twoR (-(lastR x (bits : Int) least))))), []⟩]) (G2 := [⟨none, none, 8, pF 0⟩, ⟨none, none, 9, pF (sgnOne x)⟩, ⟨none, none, 11, pI (lastR x (bits : Int) least - y)⟩, ⟨none, none, 16, pF (Ieee.double.nearest false m (e0 + y))⟩, ⟨none, none, 105, pI (lastR x (bits : Int) least - y)⟩, ⟨none, none, 106, pB (decide ((lastR x (bits : Int) least - y) < (0 : Int)))⟩]) hI rfl rfl rfl [0, 1] (by kernel_rfl) (by kernel_rfl) ?_ [0, 1] [0, 1, 2, 3, 4, 5] rfl rfl fun a w hI => ?_
                  · exact ⟨op_move (.tmp 2 rfl rfl) (.here 4 rfl),
                      op_bin (v := .bool (decide ((lastR x (bits : Int) least - y) < (0 : Int)))) (.tmp 4 rfl rfl) (.const _) (fun _ => rfl) (.here 5 rfl),
                      trivial⟩
                  refine cond_if hI 5 rfl (fun ht => ?_) (fun ht => ?_)
                  · have t17 := of_decide_eq_true ht
                    refine wp_skip ?_
                    refine then_of ?_
                    refine wp_seq ?_
                    refine wp_block ?_
                    refine sem_text (V1 := [⟨4, 4, none, none, .ptr, 33, 3, true, pv (pS (refFs x)), []⟩, ⟨12, 12, none, none, .ptr, 33, 3, true, pv (pRef ((absR x) * (twoR (-(lastR x (bits : Int) least))))), []⟩]) (A1 := []) (G1 := [⟨none, none, 8, pF 0⟩, ⟨none, none, 9, pF (sgnOne x)⟩, ⟨none, none, 11, pI (lastR x (bits : Int) least - y)⟩, ⟨none, some 2, 16, pF (Ieee.double.nearest false m (e0 + y))⟩, ⟨none, none, 105, pI (lastR x (bits : Int) least - y)⟩, ⟨none, none, 106, pB (decide ((lastR x (bits : Int) least - y) < (0 : Int)))⟩, ⟨some 0, none, 109, pF (Ieee.double.nearest false m (e0 + y))⟩, ⟨some 1, none, 110, pF (Ieee.double.nearest false m (e0 + (y - 1)))⟩, ⟨some 2, none, 16, pF (Ieee.double.nearest false m (e0 + (y - 1)))⟩]) (V2 := [⟨4, 4, none, none, .ptr, 33, 3, true, pv (pS (refFs x)), []⟩, ⟨12, 12, none, none, .ptr, 33, 3, true, pv (pRef ((absR x) * (twoR (-(lastR x (bits : Int) least))))), []⟩]) (G2 := [⟨none, none, 8, pF 0⟩, ⟨none, none, 9, pF (sgnOne x)⟩, ⟨none, none, 11, pI (lastR x (bits : Int) least - y)⟩, ⟨none, none, 105, pI (lastR x (bits : Int) least - y)⟩, ⟨none, none, 106, pB (decide ((lastR x (bits : Int) least - y) < (0 : Int)))⟩, ⟨none, none, 109, pF (Ieee.double.nearest false m (e0 + y))⟩, ⟨none, none, 110, pF (Ieee.double.nearest false m (e0 + (y - 1)))⟩, ⟨none, none, 16, pF (Ieee.double.nearest false m (e0 + (y - 1)))⟩]) hI rfl rfl rfl [0, 1, 3] (by kernel_rfl) (by kernel_rfl) ?_ [0, 1] [0, 1, 2, 3, 4, 5, 6, 7] rfl rfl fun a w hI => ?_
                    · exact ⟨op_move (.tmp 3 rfl rfl) (.here 6 rfl),
                        op_fquo (.tmp 6 rfl rfl) (.const _) (by rw [← Int.add_sub_assoc]; exact double_half (in_mid hin0 hin (by omega)) false) (.here 7 rfl),
                        op_assign (.tmp 7 rfl rfl) (.here 8 rfl),
                        trivial⟩
                    refine block_of ?_
                    refine then_of ?_
                    refine sem_text (V1 := [⟨4, 4, none, none, .ptr, 33, 3, true, pv (pS (refFs x)), []⟩, ⟨12, 12, none, none, .ptr, 33, 3, true, pv (pRef ((absR x) * (twoR (-(lastR x (bits : Int) least))))), []⟩]) (A1 := []) (G1 := [⟨none, none, 8, pF 0⟩, ⟨none, none, 9, pF (sgnOne x)⟩, ⟨none, some 2, 11, pI (lastR x (bits : Int) least - y)⟩, ⟨none, none, 105, pI (lastR x (bits : Int) least - y)⟩, ⟨none, none, 106, pB (decide ((lastR x (bits : Int) least - y) < (0 : Int)))⟩, ⟨none, none, 109, pF (Ieee.double.nearest false m (e0 + y))⟩, ⟨none, none, 110, pF (Ieee.double.nearest false m (e0 + (y - 1)))⟩, ⟨none, none, 16, pF (Ieee.double.nearest false m (e0 + (y - 1)))⟩, ⟨some 0, none, 107, pI (lastR x (bits : Int) least - y)⟩, ⟨some 1, none, 108, pI ((lastR x (bits : Int) least - y) + (1 : Int))⟩, ⟨some 2, none, 11, pI ((lastR x (bits : Int) least - y) + (1 : Int))⟩]) (V2 := [⟨4, 4, none, none, .ptr, 33, 3, true, pv (pS (refFs x)), []⟩, ⟨12, 12, none, none, .ptr, 33, 3, true, pv (pRef ((absR x) * (twoR (-(lastR x (bits : Int) least))))), []⟩]) (G2 := [⟨none, none, 8, pF 0⟩, ⟨none, none, 9, pF (sgnOne x)⟩, ⟨none, none, 105, pI (lastR x (bits : Int) least - y)⟩, ⟨none, none, 106, pB (decide ((lastR x (bits : Int) least - y) < (0 : Int)))⟩, ⟨none, none, 109, pF (Ieee.double.nearest false m (e0 + y))⟩, ⟨none, none, 110, pF (Ieee.double.nearest false m (e0 + (y - 1)))⟩, ⟨none, none, 16, pF (Ieee.double.nearest false m (e0 + (y - 1)))⟩, ⟨none, none, 107, pI (lastR x (bits : Int) least - y)⟩, ⟨none, none, 108, pI ((lastR x (bits : Int) least - y) + (1 : Int))⟩, ⟨none, none, 11, pI ((lastR x (bits : Int) least - y) + (1 : Int))⟩]) hI rfl rfl rfl [0, 1, 3] (by kernel_rfl) (by kernel_rfl) ?_ [0, 1] [0, 1, 2, 3, 4, 5, 6, 7, 8, 9] rfl rfl fun a w hI => ?_
                    · exact ⟨op_move (.tmp 2 rfl rfl) (.here 8 rfl),
                        op_bin (v := .int .i64 (IntKind.i64.wrap ((lastR x (bits : Int) least - y) + (1 : Int)))) (.tmp 8 rfl rfl) (.const _) (fun _ => rfl) (.at_ 9 _ _ rfl (pI_wrap (by omega))),
                        op_assign (.tmp 9 rfl rfl) (.here 10 rfl),
                        trivial⟩
                    refine then_of ?_
                    exact ⟨(y - 1), ⟨⟨by omega, by omega⟩, (hI.conv ⟨⟨0, _, _, rfl, ⟨rfl, rfl, rfl⟩, rfl, fun _ => fun _ _ h => h⟩, ⟨1, _, _, rfl, ⟨rfl, rfl, rfl⟩, rfl, fun _ => fun _ _ h => h⟩, trivial⟩ ⟨⟨rfl, rfl, 0, _, rfl, fun _ _ h => h⟩, ⟨rfl, rfl, 1, _, rfl, fun _ _ h => h⟩, ⟨rfl, rfl, 9, _, rfl, (pI_eq (by omega))⟩, ⟨rfl, rfl, 6, _, rfl, fun _ _ h => h⟩, trivial⟩)⟩, (show (y - 1 - lastR x (bits : Int) least).toNat < (y - lastR x (bits : Int) least).toNat by omega)⟩
                  · have t18 := of_decide_eq_false ht
                    refine wp_exit ?_
                    refine then_exit ?_
                    refine then_exit ?_
                    refine block_exit ?_
                    refine then_of ?_
                    refine seq_text (V1 := [⟨4, 4, none, none, .ptr, 33, 3, true, pv (pS (refFs x)), []⟩, ⟨12, 12, none, none, .ptr, 33, 3, true, pv (pRef ((absR x) * (twoR (-(lastR x (bits : Int) least))))), []⟩]) (A1 := []) (G1 := [⟨none, some 3, 8, pF 0⟩, ⟨none, none, 9, pF (sgnOne x)⟩, ⟨none, none, 11, pI (lastR x (bits : Int) least - y)⟩, ⟨none, none, 16, pF (Ieee.double.nearest false m (e0 + y))⟩, ⟨none, none, 105, pI (lastR x (bits : Int) least - y)⟩, ⟨none, none, 106, pB (decide ((lastR x (bits : Int) least - y) < (0 : Int)))⟩, ⟨some 0, none, 111, pF (sgnOne x)⟩, ⟨some 1, none, 112, pF (Ieee.double.nearest false m (e0 + y))⟩, ⟨some 2, none, 113, pF (sgnF x (Ieee.double.nearest false m (e0 + y)))⟩, ⟨some 3, none, 8, pF (sgnF x (Ieee.double.nearest false m (e0 + y)))⟩]) (V2 := [⟨4, 4, none, none, .ptr, 33, 3, true, pv (pS (refFs x)), []⟩, ⟨12, 12, none, none, .ptr, 33, 3, true, pv (pRef ((absR x) * (twoR (-(lastR x (bits : Int) least))))), []⟩]) (G2 := [⟨none, none, 8, pF (sgnF x (Ieee.double.nearest false m (e0 + y)))⟩]) hI rfl rfl rfl [0, 1, 3, 7] (by kernel_rfl) (by kernel_rfl) ?_ [0, 1] [8] rfl rfl fun a w hI => ?_
                    · exact ⟨op_move (.tmp 1 rfl rfl) (.here 6 rfl),
                        op_move (.tmp 3 rfl rfl) (.here 7 rfl),
                        op_fmul (.tmp 6 rfl rfl) (.tmp 7 rfl rfl) (sgn_mul x (in_mid hin0 hin (by omega))) (.here 8 rfl),
                        op_assign (.tmp 8 rfl rfl) (.here 9 rfl),
                        trivial⟩
                    refine wp_ret ?_
                    exact fin1 hI rfl (.imp (.tmp 0 rfl) (pF_eq ((nearW_ok t2 hr t12).trans (by rw [← hfin, show y = lastR x (bits : Int) least by omega])).symm))
end Wx
