import Derived.Handy
import Derived.KernelRfl
import Derived.Test.YtpbpkfcplkdjhaaGreatProg
import Derived.Test.YtpbpkfcplkdjhaaGreatJRanges0
import Derived.Test.YtpbpkfcplkdjhaaGreatJRanges1
import Derived.Test.YtpbpkfcplkdjhaaGreatCRat1
import Derived.Test.YtpbpkfcplkdjhaaGreatJRanges10
import Derived.Test.YtpbpkfcplkdjhaaGreatInv
import Derived.Test.YtpbpkfcplkdjhaaGreatJRanges15
import Derived.Test.YtpbpkfcplkdjhaaGreatJRanges22
import Derived.Test.YtpbpkfcplkdjhaaGreatJRanges43
import Derived.Test.YtpbpkfcplkdjhaaGreatJRanges20
import Derived.Test.YtpbpkfcplkdjhaaGreatJRanges40
import Derived.Test.YtpbpkfcplkdjhaaGreatCNDown
import Derived.Test.YtpbpkfcplkdjhaaGreatCSem
import Derived.Test.YtpbpkfcplkdjhaaGreatCSemOps
import Derived.Test.YtpbpkfcplkdjhaaGreatCSemMem
import Derived.Test.YtpbpkfcplkdjhaaGreatCSemCode
import Derived.Test.YtpbpkfcplkdjhaaGreatJRanges27
import Derived.Test.YtpbpkfcplkdjhaaGreatCSemRow
import Derived.Test.YtpbpkfcplkdjhaaGreatJRanges29
import Derived.Test.YtpbpkfcplkdjhaaGreatJRanges41
import Derived.Test.YtpbpkfcplkdjhaaGreatCRanges
namespace Wx
open Go Go.RowKit Go.Proofs
set_option linter.unusedVariables false

theorem pRefPair_eq {a b c d : Rat} (h1 : a = c) (h2 : b = d) : ∀ w v, pRPair a b w v → pRPair c d w v := fun _ _ k => h1 ▸ h2 ▸ k
theorem least_yes {x y : Rat} (h : cmpT x y ≤ 0) : x = min2 x y := by
  have h := cmpT_le.1 h
  have h1 := (min2_le x y).1
  rcases min2_mem x y with e | e <;> grind
theorem least_no {x y : Rat} (h : ¬ cmpT x y ≤ 0) : y = min2 x y := by
  have h : ¬ x ≤ y := fun e => h (cmpT_le.2 e)
  have h1 := (min2_le x y).2
  rcases min2_mem x y with e | e <;> grind
theorem cmpT_ge {x y : Rat} : cmpT x y ≥ 0 ↔ y ≤ x := by
  have := cmpT_swap x y
  rw [← cmpT_le]
  omega
theorem most_yes {x y : Rat} (h : cmpT x y ≥ 0) : x = max2 x y := by
  have h := cmpT_ge.1 h
  have h1 := (le_max2 x y).1
  rcases max2_mem x y with e | e <;> grind
theorem most_no {x y : Rat} (h : ¬ cmpT x y ≥ 0) : y = max2 x y := by
  have h : ¬ y ≤ x := fun e => h (cmpT_ge.2 e)
  have h1 := (le_max2 x y).2
  rcases max2_mem x y with e | e <;> grind
theorem min22 (a b c d : Rat) : min2 (min2 a b) (min2 c d) = min4 a b c d := by
  have h1 := min2_le a b
  have h2 := min2_le c d
  have h3 := min2_le (min2 a b) (min2 c d)
  have h4 := min4_le a b c d
  have m1 := min2_mem a b
  have m2 := min2_mem c d
  have m3 := min2_mem (min2 a b) (min2 c d)
  have m4 := min4_mem a b c d
  grind
theorem max22 (a b c d : Rat) : max2 (max2 a b) (max2 c d) = max4 a b c d := by
  have h1 := le_max2 a b
  have h2 := le_max2 c d
  have h3 := le_max2 (max2 a b) (max2 c d)
  have h4 := le_max4 a b c d
  have m1 := max2_mem a b
  have m2 := max2_mem c d
  have m3 := max2_mem (max2 a b) (max2 c d)
  have m4 := max4_mem a b c d
  grind
theorem min4_swap (a b c d : Rat) : min4 a b c d = min4 b a d c := by
  have h4 := min4_le a b c d
  have m4 := min4_mem a b c d
  have h5 := min4_le b a d c
  have m5 := min4_mem b a d c
  grind
theorem max4_swap (a b c d : Rat) : max4 a b c d = max4 b a d c := by
  have h4 := le_max4 a b c d
  have m4 := max4_mem a b c d
  have h5 := le_max4 b a d c
  have m5 := max4_mem b a d c
  grind
theorem min4_two (a b : Rat) : min4 a a b b = min2 a b := by rw [← min22, min2_self, min2_self]
theorem max4_two (a b : Rat) : max4 a a b b = max2 a b := by rw [← max22, max2_self, max2_self]
theorem hull_min (a b c d : Rat) : min4 a b c d = min2 (min2 a b) (min2 c d) := (min22 a b c d).symm
theorem ref_by (x y : Rat) : x * (((1 : Int) : Rat) / y) = x / y := by rw [Rat.div_def, Rat.div_def, show ((1 : Int) : Rat) = 1 from rfl, Rat.one_mul]
theorem div_lo (a b c d : Rat) : min4 (a * (((1 : Int) : Rat) / d)) (a * (((1 : Int) : Rat) / c)) (b * (((1 : Int) : Rat) / d)) (b * (((1 : Int) : Rat) / c)) = min4 (a / c) (a / d) (b / c) (b / d) := by rw [ref_by, ref_by, ref_by, ref_by, min4_swap]
theorem div_hi (a b c d : Rat) : max4 (a * (((1 : Int) : Rat) / d)) (a * (((1 : Int) : Rat) / c)) (b * (((1 : Int) : Rat) / d)) (b * (((1 : Int) : Rat) / c)) = max4 (a / c) (a / d) (b / c) (b / d) := by rw [ref_by, ref_by, ref_by, ref_by, max4_swap]
theorem sizeS_text {j : Nat} {q : Rat} (h : BdR j q) : (strOf (textR q)).size ≤ 2 * j + 4 := by
  have := textR_len h
  have e : (strOf (textR q)).size = (textR q).length := by simp [strOf, ByteArray.size]
  omega
theorem cn_down {x : Rat} {j : Nat} (hx : BdR j x) (hj : j ≤ 100000) (k : Int) : ∀ w v1 v2, pRef x w v1 → pI k w v2 → Calls Tryz.prog 90 #[v1, v2] w (Ret (pRef (downR x k)) w) := fun w v1 v2 h1 h2 => by
  have h2 : v2 = .int .i64 k := h2
  rw [h2]
  exact ndown_num w v1 x k h1 hx hj
theorem cn_up {x : Rat} {j : Nat} (hx : BdR j x) (hj : j ≤ 100000) (k : Int) : ∀ w v1 v2, pRef x w v1 → pI k w v2 → Calls Tryz.prog 91 #[v1, v2] w (Ret (pRef (-(downR (-x) k))) w) := fun w v1 v2 h1 h2 => by
  have h2 : v2 = .int .i64 k := h2
  rw [h2]
  exact nup_num w v1 x k h1 hx hj
theorem c_text {x : Rat} {j : Nat} (hx : BdR j x) (hj : j ≤ 100000000) : ∀ w v1, pRat x w v1 → Calls Tryz.prog 73 #[v1] w (Ret (pEq (.string (strOf (textR x)))) w) := fun w v1 h1 => (rtext_num w v1 x h1 hx hj).mono fun _ _ => ret_is
theorem cn_text {x : Rat} {j : Nat} (hx : BdR j x) (hj : j ≤ 100000000) : ∀ w v1, pRef x w v1 → Calls Tryz.prog 74 #[v1] w (Ret (pEq (.string (strOf (textR x)))) w) := fun w v1 h1 => (ntext_num w v1 x h1 hx hj).mono fun _ _ => ret_is
theorem cn_of {n d : Int} {x : Rat} (e : x = ofR n d) (h : FracOk n d) : ∀ w v1, pFrac n d w v1 → Calls Tryz.prog 9 #[v1] w (Ret (pRef x) w) := fun w v1 h1 => by
  rw [pFrac_eq h1, e]
  exact nof_num w n d h.1 h.2.1 h.2.2
set_option maxRecDepth 100000 in
theorem nr_least {x y : Rat} {j : Nat} (hx : BdR j x) (hy : BdR j y) (hj : j + j + j + j + 1 ≤ 10000000)  : ∀ (M : Nat → Nat → Prop) (w : World) (v0 v1 : Value), Mid M w → Box M (fun w => (pRef x) w v0) w → Box M (fun w => (pRef y) w v1) w → Calls Tryz.prog 87 #[v0, v1] w (RetB M (pRef (min2 x y)) w) := by
  intro M w0 v0 v1 hM hv0 hv1
  refine calls_start (N := 11) Tryz.func87 rfl rfl rfl hM (show EntsA M w0 [v0, v1] [⟨none, none, 0, pRef x⟩, ⟨none, none, 1, pRef y⟩] from ⟨⟨rfl, _, rfl, hv0⟩, ⟨rfl, _, rfl, hv1⟩, trivial⟩) fun a hI => ?_
  refine seq_text (V1 := [⟨2, 2, some 0, none, .ptr, 37, 3, true, pRef x, []⟩, ⟨3, 3, some 1, none, .ptr, 37, 3, true, pRef y, []⟩, ⟨4, 4, some 2, none, .ptr, 37, 3, true, pAny, []⟩]) (A1 := []) (G1 := [⟨none, none, 0, pRef x⟩, ⟨none, none, 1, pRef y⟩]) (V2 := [⟨2, 2, none, none, .ptr, 37, 3, true, pRef x, []⟩, ⟨3, 3, none, none, .ptr, 37, 3, true, pRef y, []⟩, ⟨4, 4, none, none, .ptr, 37, 3, true, pAny, []⟩]) (G2 := []) hI rfl rfl rfl [0, 1, 3] (by kernel_rfl) (by kernel_rfl) ?_ [0, 1, 2] [] rfl rfl fun a w hI => ?_
  · exact ⟨op_box 0 rfl rfl (by kernel_rfl) (by kernel_rfl) rfl rfl rfl (.tmp 0 rfl rfl) (fits_ref _) rfl,
      op_box 1 rfl rfl (by kernel_rfl) (by kernel_rfl) rfl rfl rfl (.tmp 1 rfl rfl) (fits_ref _) rfl,
      op_alloc 2 rfl rfl (by kernel_rfl) (by kernel_rfl) rfl rfl rfl zv_R rfl rfl (by simp [NoU]) (fun _ => trivial),
      trivial⟩
  refine wp_seq ?_
  refine seq_text (V1 := [⟨2, 2, none, none, .ptr, 37, 3, true, pRef x, []⟩, ⟨3, 3, none, none, .ptr, 37, 3, true, pRef y, []⟩, ⟨4, 4, none, none, .ptr, 37, 3, true, pAny, []⟩]) (A1 := []) (G1 := [⟨some 0, none, 5, pRef x⟩, ⟨some 1, none, 6, pRef y⟩, ⟨some 2, none, 7, pI (cmpT x y)⟩, ⟨some 3, none, 8, pB (decide ((cmpT x y) ≤ (0 : Int)))⟩]) (V2 := [⟨2, 2, none, none, .ptr, 37, 3, true, pRef x, []⟩, ⟨3, 3, none, none, .ptr, 37, 3, true, pRef y, []⟩, ⟨4, 4, none, none, .ptr, 37, 3, true, pAny, []⟩]) (G2 := [⟨none, none, 8, pB (decide ((cmpT x y) ≤ (0 : Int)))⟩]) hI rfl rfl rfl [0, 1, 3, 7] (by kernel_rfl) (by kernel_rfl) ?_ [0, 1, 2] [3] rfl rfl fun a w hI => ?_
  · exact ⟨op_load 0 rfl rfl rfl rfl (by kernel_rfl) ty_R rfl (.here 0 rfl),
      op_load 1 rfl rfl rfl rfl (by kernel_rfl) ty_R rfl (.here 1 rfl),
      op_call2 (fun _ _ => by kernel_rfl) (numlike_eq _) (.tmp 0 rfl rfl) (.tmp 1 rfl rfl) (.here 2 rfl) (cn_cmp hx hy (by omega)),
      op_bin (v := .bool (decide ((cmpT x y) ≤ (0 : Int)))) (.tmp 2 rfl rfl) (.const _) (fun _ => rfl) (.here 3 rfl),
      trivial⟩
  refine cond_if hI 0 rfl (fun ht => ?_) (fun ht => ?_)
  · have t1 := of_decide_eq_true ht
    refine seq_text (V1 := [⟨2, 2, none, none, .ptr, 37, 3, true, pRef x, []⟩, ⟨3, 3, none, none, .ptr, 37, 3, true, pRef y, []⟩, ⟨4, 4, none, none, .ptr, 37, 3, true, pAny, [(1, pRef x)]⟩]) (A1 := []) (G1 := [⟨none, none, 8, pB (decide ((cmpT x y) ≤ (0 : Int)))⟩, ⟨some 0, none, 9, pRef x⟩]) (V2 := [⟨2, 2, none, none, .ptr, 37, 3, true, pRef x, []⟩, ⟨3, 3, none, none, .ptr, 37, 3, true, pRef y, []⟩, ⟨4, 4, none, none, .ptr, 37, 3, true, pRef x, []⟩]) (G2 := []) hI rfl rfl rfl [0, 1] (by kernel_rfl) (by kernel_rfl) ?_ [0, 1, 2] [] rfl rfl fun a w hI => ?_
    · exact ⟨op_load 0 rfl rfl rfl rfl (by kernel_rfl) ty_R rfl (.here 1 rfl),
        op_store 2 rfl rfl rfl rfl 0 rfl (by kernel_rfl) (by kernel_rfl) ty_R (.tmp 1 rfl rfl) (fits_ref _),
        trivial⟩
    refine wp_ret ?_
    refine then_ret ?_
    exact fin1 hI rfl (.imp (.cell 2 rfl rfl rfl rfl ty_R rfl) (pRef_eq (least_yes t1)))
  · have t2 := of_decide_eq_false ht
    refine wp_skip ?_
    refine then_of ?_
    refine seq_text (V1 := [⟨2, 2, none, none, .ptr, 37, 3, true, pRef x, []⟩, ⟨3, 3, none, none, .ptr, 37, 3, true, pRef y, []⟩, ⟨4, 4, none, none, .ptr, 37, 3, true, pAny, [(1, pRef y)]⟩]) (A1 := []) (G1 := [⟨none, none, 8, pB (decide ((cmpT x y) ≤ (0 : Int)))⟩, ⟨some 0, none, 10, pRef y⟩]) (V2 := [⟨2, 2, none, none, .ptr, 37, 3, true, pRef x, []⟩, ⟨3, 3, none, none, .ptr, 37, 3, true, pRef y, []⟩, ⟨4, 4, none, none, .ptr, 37, 3, true, pRef y, []⟩]) (G2 := []) hI rfl rfl rfl [0, 1] (by kernel_rfl) (by kernel_rfl) ?_ [0, 1, 2] [] rfl rfl fun a w hI => ?_
    · exact ⟨op_load 1 rfl rfl rfl rfl (by kernel_rfl) ty_R rfl (.here 1 rfl),
        op_store 2 rfl rfl rfl rfl 0 rfl (by kernel_rfl) (by kernel_rfl) ty_R (.tmp 1 rfl rfl) (fits_ref _),
        trivial⟩
    refine wp_ret ?_
    exact fin1 hI rfl (.imp (.cell 2 rfl rfl rfl rfl ty_R rfl) (pRef_eq (least_no t2)))
set_option maxRecDepth 100000 in
theorem nr_most {x y : Rat} {j : Nat} (hx : BdR j x) (hy : BdR j y) (hj : j + j + j + j + 1 ≤ 10000000)  : ∀ (M : Nat → Nat → Prop) (w : World) (v0 v1 : Value), Mid M w → Box M (fun w => (pRef x) w v0) w → Box M (fun w => (pRef y) w v1) w → Calls Tryz.prog 86 #[v0, v1] w (RetB M (pRef (max2 x y)) w) := by
  intro M w0 v0 v1 hM hv0 hv1
  refine calls_start (N := 11) Tryz.func86 rfl rfl rfl hM (show EntsA M w0 [v0, v1] [⟨none, none, 0, pRef x⟩, ⟨none, none, 1, pRef y⟩] from ⟨⟨rfl, _, rfl, hv0⟩, ⟨rfl, _, rfl, hv1⟩, trivial⟩) fun a hI => ?_
  refine seq_text (V1 := [⟨2, 2, some 0, none, .ptr, 37, 3, true, pRef x, []⟩, ⟨3, 3, some 1, none, .ptr, 37, 3, true, pRef y, []⟩, ⟨4, 4, some 2, none, .ptr, 37, 3, true, pAny, []⟩]) (A1 := []) (G1 := [⟨none, none, 0, pRef x⟩, ⟨none, none, 1, pRef y⟩]) (V2 := [⟨2, 2, none, none, .ptr, 37, 3, true, pRef x, []⟩, ⟨3, 3, none, none, .ptr, 37, 3, true, pRef y, []⟩, ⟨4, 4, none, none, .ptr, 37, 3, true, pAny, []⟩]) (G2 := []) hI rfl rfl rfl [0, 1, 3] (by kernel_rfl) (by kernel_rfl) ?_ [0, 1, 2] [] rfl rfl fun a w hI => ?_
  · exact ⟨op_box 0 rfl rfl (by kernel_rfl) (by kernel_rfl) rfl rfl rfl (.tmp 0 rfl rfl) (fits_ref _) rfl,
      op_box 1 rfl rfl (by kernel_rfl) (by kernel_rfl) rfl rfl rfl (.tmp 1 rfl rfl) (fits_ref _) rfl,
      op_alloc 2 rfl rfl (by kernel_rfl) (by kernel_rfl) rfl rfl rfl zv_R rfl rfl (by simp [NoU]) (fun _ => trivial),
      trivial⟩
  refine wp_seq ?_
  refine seq_text (V1 := [⟨2, 2, none, none, .ptr, 37, 3, true, pRef x, []⟩, ⟨3, 3, none, none, .ptr, 37, 3, true, pRef y, []⟩, ⟨4, 4, none, none, .ptr, 37, 3, true, pAny, []⟩]) (A1 := []) (G1 := [⟨some 0, none, 5, pRef x⟩, ⟨some 1, none, 6, pRef y⟩, ⟨some 2, none, 7, pI (cmpT x y)⟩, ⟨some 3, none, 8, pB (decide ((cmpT x y) ≥ (0 : Int)))⟩]) (V2 := [⟨2, 2, none, none, .ptr, 37, 3, true, pRef x, []⟩, ⟨3, 3, none, none, .ptr, 37, 3, true, pRef y, []⟩, ⟨4, 4, none, none, .ptr, 37, 3, true, pAny, []⟩]) (G2 := [⟨none, none, 8, pB (decide ((cmpT x y) ≥ (0 : Int)))⟩]) hI rfl rfl rfl [0, 1, 3, 7] (by kernel_rfl) (by kernel_rfl) ?_ [0, 1, 2] [3] rfl rfl fun a w hI => ?_
  · exact ⟨op_load 0 rfl rfl rfl rfl (by kernel_rfl) ty_R rfl (.here 0 rfl),
      op_load 1 rfl rfl rfl rfl (by kernel_rfl) ty_R rfl (.here 1 rfl),
      op_call2 (fun _ _ => by kernel_rfl) (numlike_eq _) (.tmp 0 rfl rfl) (.tmp 1 rfl rfl) (.here 2 rfl) (cn_cmp hx hy (by omega)),
      op_bin (v := .bool (decide ((cmpT x y) ≥ (0 : Int)))) (.tmp 2 rfl rfl) (.const _) (fun _ => rfl) (.here 3 rfl),
      trivial⟩
  refine cond_if hI 0 rfl (fun ht => ?_) (fun ht => ?_)
  · have t1 := of_decide_eq_true ht
    refine seq_text (V1 := [⟨2, 2, none, none, .ptr, 37, 3, true, pRef x, []⟩, ⟨3, 3, none, none, .ptr, 37, 3, true, pRef y, []⟩, ⟨4, 4, none, none, .ptr, 37, 3, true, pAny, [(1, pRef x)]⟩]) (A1 := []) (G1 := [⟨none, none, 8, pB (decide ((cmpT x y) ≥ (0 : Int)))⟩, ⟨some 0, none, 9, pRef x⟩]) (V2 := [⟨2, 2, none, none, .ptr, 37, 3, true, pRef x, []⟩, ⟨3, 3, none, none, .ptr, 37, 3, true, pRef y, []⟩, ⟨4, 4, none, none, .ptr, 37, 3, true, pRef x, []⟩]) (G2 := []) hI rfl rfl rfl [0, 1] (by kernel_rfl) (by kernel_rfl) ?_ [0, 1, 2] [] rfl rfl fun a w hI => ?_
    · exact ⟨op_load 0 rfl rfl rfl rfl (by kernel_rfl) ty_R rfl (.here 1 rfl),
        op_store 2 rfl rfl rfl rfl 0 rfl (by kernel_rfl) (by kernel_rfl) ty_R (.tmp 1 rfl rfl) (fits_ref _),
        trivial⟩
    refine wp_ret ?_
    refine then_ret ?_
    exact fin1 hI rfl (.imp (.cell 2 rfl rfl rfl rfl ty_R rfl) (pRef_eq (most_yes t1)))
  · have t2 := of_decide_eq_false ht
    refine wp_skip ?_
    refine then_of ?_
    refine seq_text (V1 := [⟨2, 2, none, none, .ptr, 37, 3, true, pRef x, []⟩, ⟨3, 3, none, none, .ptr, 37, 3, true, pRef y, []⟩, ⟨4, 4, none, none, .ptr, 37, 3, true, pAny, [(1, pRef y)]⟩]) (A1 := []) (G1 := [⟨none, none, 8, pB (decide ((cmpT x y) ≥ (0 : Int)))⟩, ⟨some 0, none, 10, pRef y⟩]) (V2 := [⟨2, 2, none, none, .ptr, 37, 3, true, pRef x, []⟩, ⟨3, 3, none, none, .ptr, 37, 3, true, pRef y, []⟩, ⟨4, 4, none, none, .ptr, 37, 3, true, pRef y, []⟩]) (G2 := []) hI rfl rfl rfl [0, 1] (by kernel_rfl) (by kernel_rfl) ?_ [0, 1, 2] [] rfl rfl fun a w hI => ?_
    · exact ⟨op_load 1 rfl rfl rfl rfl (by kernel_rfl) ty_R rfl (.here 1 rfl),
        op_store 2 rfl rfl rfl rfl 0 rfl (by kernel_rfl) (by kernel_rfl) ty_R (.tmp 1 rfl rfl) (fits_ref _),
        trivial⟩
    refine wp_ret ?_
    exact fin1 hI rfl (.imp (.cell 2 rfl rfl rfl rfl ty_R rfl) (pRef_eq (most_no t2)))
set_option maxRecDepth 100000 in
theorem nr_only (a1 : Rat) : ∀ (M : Nat → Nat → Prop) (w : World) (v0 : Value), Mid M w → Box M (fun w => (pRef a1) w v0) w → Calls Tryz.prog 67 #[v0] w (RetB M (pRPair a1 a1) w) := by
  intro M w0 v0 hM hv0
  refine calls_start (N := 6) Tryz.func67 rfl rfl rfl hM (show EntsA M w0 [v0] [⟨none, none, 0, pRef a1⟩] from ⟨⟨rfl, _, rfl, hv0⟩, trivial⟩) fun a hI => ?_
  refine seq_text (V1 := [⟨1, 1, some 0, none, .ptr, 37, 3, true, pRef a1, []⟩, ⟨2, 2, some 1, none, .ptr, 39, 6, true, pAny, []⟩]) (A1 := []) (G1 := [⟨none, none, 0, pRef a1⟩]) (V2 := [⟨1, 1, none, none, .ptr, 37, 3, true, pRef a1, []⟩, ⟨2, 2, none, none, .ptr, 39, 6, true, pAny, []⟩]) (G2 := []) hI rfl rfl rfl [0, 1] (by kernel_rfl) (by kernel_rfl) ?_ [0, 1] [] rfl rfl fun a w hI => ?_
  · exact ⟨op_box 0 rfl rfl (by kernel_rfl) (by kernel_rfl) rfl rfl rfl (.tmp 0 rfl rfl) (fits_ref _) rfl,
      op_alloc 1 rfl rfl (by kernel_rfl) (by kernel_rfl) rfl rfl rfl zv_S rfl rfl (by simp [NoU]) (fun _ => trivial),
      trivial⟩
  refine seq_text (V1 := [⟨1, 1, none, none, .ptr, 37, 3, true, pRef a1, []⟩, ⟨2, 2, none, none, .ptr, 39, 6, true, pAny, [(3, pRPair a1 a1)]⟩]) (A1 := []) (G1 := [⟨some 0, none, 3, pRef a1⟩, ⟨some 1, none, 4, pRef a1⟩, ⟨some 2, none, 5, pRPair a1 a1⟩]) (V2 := [⟨1, 1, none, none, .ptr, 37, 3, true, pRef a1, []⟩, ⟨2, 2, none, none, .ptr, 39, 6, true, pRPair a1 a1, []⟩]) (G2 := []) hI rfl rfl rfl [0, 1, 3, 7] (by kernel_rfl) (by kernel_rfl) ?_ [0, 1] [] rfl rfl fun a w hI => ?_
  · exact ⟨op_load 0 rfl rfl rfl rfl (by kernel_rfl) ty_R rfl (.here 0 rfl),
      op_load 0 rfl rfl rfl rfl (by kernel_rfl) ty_R rfl (.here 1 rfl),
      op_build (fs := [⟨true, 3, pAny⟩, ⟨true, 3, pAny⟩]) (ps := [(0, pRef a1), (1, pRef a1)]) bt_S (places_ok (by kernel_rfl)) (cells_any2) (show HasParts _ _ _ _ _ _ from ⟨⟨rfl, (.tmp 0 rfl rfl), _, rfl, fits_ref _⟩, ⟨rfl, (.tmp 1 rfl rfl), _, rfl, fits_ref _⟩, trivial⟩) rfl (.here 2 rfl),
      op_store 1 rfl rfl rfl rfl 0 rfl (by kernel_rfl) (by kernel_rfl) ty_S (.tmp 2 rfl rfl) (fits_rpair _ _),
      trivial⟩
  refine wp_ret ?_
  exact fin1 hI rfl (.cell 1 rfl rfl rfl rfl ty_S rfl)
set_option maxRecDepth 100000 in
theorem nr_hull {a1 a2 b1 b2 : Rat} {j : Nat} (ha : BdR j a1 ∧ BdR j a2) (hb : BdR j b1 ∧ BdR j b2) (hj : j + j + j + j + 1 ≤ 10000000)  : ∀ (M : Nat → Nat → Prop) (w : World) (v0 v1 : Value), Mid M w → Box M (fun w => (pRPair a1 a2) w v0) w → Box M (fun w => (pRPair b1 b2) w v1) w → Calls Tryz.prog 35 #[v0, v1] w (RetB M (pRPair (min2 a1 b1) (max2 a2 b2)) w) := by
  intro M w0 v0 v1 hM hv0 hv1
  refine calls_start (N := 16) Tryz.func35 rfl rfl rfl hM (show EntsA M w0 [v0, v1] [⟨none, none, 0, pRPair a1 a2⟩, ⟨none, none, 1, pRPair b1 b2⟩] from ⟨⟨rfl, _, rfl, hv0⟩, ⟨rfl, _, rfl, hv1⟩, trivial⟩) fun a hI => ?_
  refine seq_text (V1 := [⟨2, 2, some 0, none, .ptr, 39, 6, true, pRPair a1 a2, []⟩, ⟨3, 3, some 1, none, .ptr, 39, 6, true, pRPair b1 b2, []⟩, ⟨4, 4, some 2, none, .ptr, 39, 6, true, pAny, []⟩]) (A1 := []) (G1 := [⟨none, none, 0, pRPair a1 a2⟩, ⟨none, none, 1, pRPair b1 b2⟩]) (V2 := [⟨2, 2, none, none, .ptr, 39, 6, true, pRPair a1 a2, []⟩, ⟨3, 3, none, none, .ptr, 39, 6, true, pRPair b1 b2, []⟩, ⟨4, 4, none, none, .ptr, 39, 6, true, pAny, []⟩]) (G2 := []) hI rfl rfl rfl [0, 1, 3] (by kernel_rfl) (by kernel_rfl) ?_ [0, 1, 2] [] rfl rfl fun a w hI => ?_
  · exact ⟨op_box 0 rfl rfl (by kernel_rfl) (by kernel_rfl) rfl rfl rfl (.tmp 0 rfl rfl) (fits_rpair _ _) rfl,
      op_box 1 rfl rfl (by kernel_rfl) (by kernel_rfl) rfl rfl rfl (.tmp 1 rfl rfl) (fits_rpair _ _) rfl,
      op_alloc 2 rfl rfl (by kernel_rfl) (by kernel_rfl) rfl rfl rfl zv_S rfl rfl (by simp [NoU]) (fun _ => trivial),
      trivial⟩
  refine seq_drawn (V1 := [⟨2, 2, none, none, .ptr, 39, 6, true, pRPair a1 a2, []⟩, ⟨3, 3, none, none, .ptr, 39, 6, true, pRPair b1 b2, []⟩, ⟨4, 4, none, none, .ptr, 39, 6, true, pAny, [(11, pRPair (min2 a1 b1) (max2 a2 b2))]⟩]) (A1 := [⟨some 0, 5, 2, 0, True⟩, ⟨some 2, 7, 3, 0, True⟩, ⟨some 5, 10, 2, 3, True⟩, ⟨some 7, 12, 3, 3, True⟩]) (G1 := [⟨some 1, none, 6, pRef a1⟩, ⟨some 3, none, 8, pRef b1⟩, ⟨some 4, none, 9, pRef (min2 a1 b1)⟩, ⟨some 6, none, 11, pRef a2⟩, ⟨some 8, none, 13, pRef b2⟩, ⟨some 9, none, 14, pRef (max2 a2 b2)⟩, ⟨some 10, none, 15, pRPair (min2 a1 b1) (max2 a2 b2)⟩]) (V2 := [⟨2, 2, none, none, .ptr, 39, 6, true, pRPair a1 a2, []⟩, ⟨3, 3, none, none, .ptr, 39, 6, true, pRPair b1 b2, []⟩, ⟨4, 4, none, none, .ptr, 39, 6, true, pRPair (min2 a1 b1) (max2 a2 b2), []⟩]) (G2 := []) hI rfl rfl rfl [0, 1, 0, 4, 15, 0, 32, 0, 128, 511, 1023, 2047] (by kernel_rfl) (by kernel_rfl) (by kernel_rfl) (by kernel_rfl) ?_ [0, 1, 2] [] rfl rfl fun a w hI => ?_
  · exact ⟨op_field 0 rfl rfl rfl 0 rfl rfl rfl rfl (.inl ⟨rfl, rfl⟩) rfl (by kernel_rfl) (fun b w => fa_S_0 b 0 w),
      op_loadAl 0 rfl 0 rfl rfl rfl rfl rfl trivial rfl rfl (by kernel_rfl) ty_R rfl rfl (fd_get (fs := [⟨true, 3, pRef a1⟩, ⟨true, 3, pRef a2⟩]) 0 (f := ⟨true, 3, pRef a1⟩) rfl (off := 0) rfl) (.here 0 rfl),
      op_field 1 rfl rfl rfl 1 rfl rfl rfl rfl (.inl ⟨rfl, rfl⟩) rfl (by kernel_rfl) (fun b w => fa_S_0 b 0 w),
      op_loadAl 1 rfl 1 rfl rfl rfl rfl rfl trivial rfl rfl (by kernel_rfl) ty_R rfl rfl (fd_get (fs := [⟨true, 3, pRef b1⟩, ⟨true, 3, pRef b2⟩]) 0 (f := ⟨true, 3, pRef b1⟩) rfl (off := 0) rfl) (.here 1 rfl),
      op_callB2 (fun _ _ => by kernel_rfl) (.tmp 0 rfl rfl) (.tmp 1 rfl rfl) (.here 2 rfl) (nr_least ha.1 hb.1 (by omega)),
      op_field 0 rfl rfl rfl 2 rfl rfl rfl rfl (.inl ⟨rfl, rfl⟩) rfl (by kernel_rfl) (fun b w => fa_S_1 b 0 w),
      op_loadAl 0 rfl 2 rfl rfl rfl rfl rfl trivial rfl rfl (by kernel_rfl) ty_R rfl rfl (fd_get (fs := [⟨true, 3, pRef a1⟩, ⟨true, 3, pRef a2⟩]) 1 (f := ⟨true, 3, pRef a2⟩) rfl (off := 3) rfl) (.here 3 rfl),
      op_field 1 rfl rfl rfl 3 rfl rfl rfl rfl (.inl ⟨rfl, rfl⟩) rfl (by kernel_rfl) (fun b w => fa_S_1 b 0 w),
      op_loadAl 1 rfl 3 rfl rfl rfl rfl rfl trivial rfl rfl (by kernel_rfl) ty_R rfl rfl (fd_get (fs := [⟨true, 3, pRef b1⟩, ⟨true, 3, pRef b2⟩]) 1 (f := ⟨true, 3, pRef b2⟩) rfl (off := 3) rfl) (.here 4 rfl),
      op_callB2 (fun _ _ => by kernel_rfl) (.tmp 3 rfl rfl) (.tmp 4 rfl rfl) (.here 5 rfl) (nr_most ha.2 hb.2 (by omega)),
      op_build (fs := [⟨true, 3, pAny⟩, ⟨true, 3, pAny⟩]) (ps := [(0, pRef (min2 a1 b1)), (1, pRef (max2 a2 b2))]) bt_S (places_ok (by kernel_rfl)) (cells_any2) (show HasParts _ _ _ _ _ _ from ⟨⟨rfl, (.tmp 2 rfl rfl), _, rfl, fits_ref _⟩, ⟨rfl, (.tmp 5 rfl rfl), _, rfl, fits_ref _⟩, trivial⟩) rfl (.here 6 rfl),
      op_store 2 rfl rfl rfl rfl 0 rfl (by kernel_rfl) (by kernel_rfl) ty_S (.tmp 6 rfl rfl) (fits_rpair _ _),
      trivial⟩
  refine wp_ret ?_
  exact fin1 hI rfl (.cell 2 rfl rfl rfl rfl ty_S rfl)
set_option maxRecDepth 100000 in
theorem nr_add {a1 a2 b1 b2 : Rat} {j k : Nat} (ha : BdR j a1 ∧ BdR j a2) (hb : BdR k b1 ∧ BdR k b2) (hj : j + k + j + k + 1 ≤ 10000000)  : ∀ (M : Nat → Nat → Prop) (w : World) (v0 v1 : Value), Mid M w → Box M (fun w => (pRPair a1 a2) w v0) w → Box M (fun w => (pRPair b1 b2) w v1) w → Calls Tryz.prog 19 #[v0, v1] w (RetB M (pRPair (a1 + b1) (a2 + b2)) w) := by
  intro M w0 v0 v1 hM hv0 hv1
  refine calls_start (N := 16) Tryz.func19 rfl rfl rfl hM (show EntsA M w0 [v0, v1] [⟨none, none, 0, pRPair a1 a2⟩, ⟨none, none, 1, pRPair b1 b2⟩] from ⟨⟨rfl, _, rfl, hv0⟩, ⟨rfl, _, rfl, hv1⟩, trivial⟩) fun a hI => ?_
  refine seq_text (V1 := [⟨2, 2, some 0, none, .ptr, 39, 6, true, pRPair a1 a2, []⟩, ⟨3, 3, some 1, none, .ptr, 39, 6, true, pRPair b1 b2, []⟩, ⟨4, 4, some 2, none, .ptr, 39, 6, true, pAny, []⟩]) (A1 := []) (G1 := [⟨none, none, 0, pRPair a1 a2⟩, ⟨none, none, 1, pRPair b1 b2⟩]) (V2 := [⟨2, 2, none, none, .ptr, 39, 6, true, pRPair a1 a2, []⟩, ⟨3, 3, none, none, .ptr, 39, 6, true, pRPair b1 b2, []⟩, ⟨4, 4, none, none, .ptr, 39, 6, true, pAny, []⟩]) (G2 := []) hI rfl rfl rfl [0, 1, 3] (by kernel_rfl) (by kernel_rfl) ?_ [0, 1, 2] [] rfl rfl fun a w hI => ?_
  · exact ⟨op_box 0 rfl rfl (by kernel_rfl) (by kernel_rfl) rfl rfl rfl (.tmp 0 rfl rfl) (fits_rpair _ _) rfl,
      op_box 1 rfl rfl (by kernel_rfl) (by kernel_rfl) rfl rfl rfl (.tmp 1 rfl rfl) (fits_rpair _ _) rfl,
      op_alloc 2 rfl rfl (by kernel_rfl) (by kernel_rfl) rfl rfl rfl zv_S rfl rfl (by simp [NoU]) (fun _ => trivial),
      trivial⟩
  refine seq_drawn (V1 := [⟨2, 2, none, none, .ptr, 39, 6, true, pRPair a1 a2, []⟩, ⟨3, 3, none, none, .ptr, 39, 6, true, pRPair b1 b2, []⟩, ⟨4, 4, none, none, .ptr, 39, 6, true, pAny, [(11, pRPair (a1 + b1) (a2 + b2))]⟩]) (A1 := [⟨some 0, 5, 2, 0, True⟩, ⟨some 2, 7, 3, 0, True⟩, ⟨some 5, 10, 2, 3, True⟩, ⟨some 7, 12, 3, 3, True⟩]) (G1 := [⟨some 1, none, 6, pRef a1⟩, ⟨some 3, none, 8, pRef b1⟩, ⟨some 4, none, 9, pRef (a1 + b1)⟩, ⟨some 6, none, 11, pRef a2⟩, ⟨some 8, none, 13, pRef b2⟩, ⟨some 9, none, 14, pRef (a2 + b2)⟩, ⟨some 10, none, 15, pRPair (a1 + b1) (a2 + b2)⟩]) (V2 := [⟨2, 2, none, none, .ptr, 39, 6, true, pRPair a1 a2, []⟩, ⟨3, 3, none, none, .ptr, 39, 6, true, pRPair b1 b2, []⟩, ⟨4, 4, none, none, .ptr, 39, 6, true, pRPair (a1 + b1) (a2 + b2), []⟩]) (G2 := []) hI rfl rfl rfl [0, 1, 0, 4, 15, 0, 32, 0, 128, 511, 1023, 2047] (by kernel_rfl) (by kernel_rfl) (by kernel_rfl) (by kernel_rfl) ?_ [0, 1, 2] [] rfl rfl fun a w hI => ?_
  · exact ⟨op_field 0 rfl rfl rfl 0 rfl rfl rfl rfl (.inl ⟨rfl, rfl⟩) rfl (by kernel_rfl) (fun b w => fa_S_0 b 0 w),
      op_loadAl 0 rfl 0 rfl rfl rfl rfl rfl trivial rfl rfl (by kernel_rfl) ty_R rfl rfl (fd_get (fs := [⟨true, 3, pRef a1⟩, ⟨true, 3, pRef a2⟩]) 0 (f := ⟨true, 3, pRef a1⟩) rfl (off := 0) rfl) (.here 0 rfl),
      op_field 1 rfl rfl rfl 1 rfl rfl rfl rfl (.inl ⟨rfl, rfl⟩) rfl (by kernel_rfl) (fun b w => fa_S_0 b 0 w),
      op_loadAl 1 rfl 1 rfl rfl rfl rfl rfl trivial rfl rfl (by kernel_rfl) ty_R rfl rfl (fd_get (fs := [⟨true, 3, pRef b1⟩, ⟨true, 3, pRef b2⟩]) 0 (f := ⟨true, 3, pRef b1⟩) rfl (off := 0) rfl) (.here 1 rfl),
      op_call2 (fun _ _ => by kernel_rfl) (numlike_ref _) (.tmp 0 rfl rfl) (.tmp 1 rfl rfl) (.here 2 rfl) (cn_add ha.1 hb.1 (by omega)),
      op_field 0 rfl rfl rfl 2 rfl rfl rfl rfl (.inl ⟨rfl, rfl⟩) rfl (by kernel_rfl) (fun b w => fa_S_1 b 0 w),
      op_loadAl 0 rfl 2 rfl rfl rfl rfl rfl trivial rfl rfl (by kernel_rfl) ty_R rfl rfl (fd_get (fs := [⟨true, 3, pRef a1⟩, ⟨true, 3, pRef a2⟩]) 1 (f := ⟨true, 3, pRef a2⟩) rfl (off := 3) rfl) (.here 3 rfl),
      op_field 1 rfl rfl rfl 3 rfl rfl rfl rfl (.inl ⟨rfl, rfl⟩) rfl (by kernel_rfl) (fun b w => fa_S_1 b 0 w),
      op_loadAl 1 rfl 3 rfl rfl rfl rfl rfl trivial rfl rfl (by kernel_rfl) ty_R rfl rfl (fd_get (fs := [⟨true, 3, pRef b1⟩, ⟨true, 3, pRef b2⟩]) 1 (f := ⟨true, 3, pRef b2⟩) rfl (off := 3) rfl) (.here 4 rfl),
      op_call2 (fun _ _ => by kernel_rfl) (numlike_ref _) (.tmp 3 rfl rfl) (.tmp 4 rfl rfl) (.here 5 rfl) (cn_add ha.2 hb.2 (by omega)),
      op_build (fs := [⟨true, 3, pAny⟩, ⟨true, 3, pAny⟩]) (ps := [(0, pRef (a1 + b1)), (1, pRef (a2 + b2))]) bt_S (places_ok (by kernel_rfl)) (cells_any2) (show HasParts _ _ _ _ _ _ from ⟨⟨rfl, (.tmp 2 rfl rfl), _, rfl, fits_ref _⟩, ⟨rfl, (.tmp 5 rfl rfl), _, rfl, fits_ref _⟩, trivial⟩) rfl (.here 6 rfl),
      op_store 2 rfl rfl rfl rfl 0 rfl (by kernel_rfl) (by kernel_rfl) ty_S (.tmp 6 rfl rfl) (fits_rpair _ _),
      trivial⟩
  refine wp_ret ?_
  exact fin1 hI rfl (.cell 2 rfl rfl rfl rfl ty_S rfl)
set_option maxRecDepth 100000 in
theorem nr_neg (a1 a2 : Rat) : ∀ (M : Nat → Nat → Prop) (w : World) (v0 : Value), Mid M w → Box M (fun w => (pRPair a1 a2) w v0) w → Calls Tryz.prog 25 #[v0] w (RetB M (pRPair (-a2) (-a1)) w) := by
  intro M w0 v0 hM hv0
  refine calls_start (N := 10) Tryz.func25 rfl rfl rfl hM (show EntsA M w0 [v0] [⟨none, none, 0, pRPair a1 a2⟩] from ⟨⟨rfl, _, rfl, hv0⟩, trivial⟩) fun a hI => ?_
  refine seq_text (V1 := [⟨1, 1, some 0, none, .ptr, 39, 6, true, pRPair a1 a2, []⟩, ⟨2, 2, some 1, none, .ptr, 39, 6, true, pAny, []⟩]) (A1 := []) (G1 := [⟨none, none, 0, pRPair a1 a2⟩]) (V2 := [⟨1, 1, none, none, .ptr, 39, 6, true, pRPair a1 a2, []⟩, ⟨2, 2, none, none, .ptr, 39, 6, true, pAny, []⟩]) (G2 := []) hI rfl rfl rfl [0, 1] (by kernel_rfl) (by kernel_rfl) ?_ [0, 1] [] rfl rfl fun a w hI => ?_
  · exact ⟨op_box 0 rfl rfl (by kernel_rfl) (by kernel_rfl) rfl rfl rfl (.tmp 0 rfl rfl) (fits_rpair _ _) rfl,
      op_alloc 1 rfl rfl (by kernel_rfl) (by kernel_rfl) rfl rfl rfl zv_S rfl rfl (by simp [NoU]) (fun _ => trivial),
      trivial⟩
  refine seq_drawn (V1 := [⟨1, 1, none, none, .ptr, 39, 6, true, pRPair a1 a2, []⟩, ⟨2, 2, none, none, .ptr, 39, 6, true, pAny, [(7, pRPair (-a2) (-a1))]⟩]) (A1 := [⟨some 0, 3, 1, 3, True⟩, ⟨some 3, 6, 1, 0, True⟩]) (G1 := [⟨some 1, none, 4, pRef a2⟩, ⟨some 2, none, 5, pRef (-a2)⟩, ⟨some 4, none, 7, pRef a1⟩, ⟨some 5, none, 8, pRef (-a1)⟩, ⟨some 6, none, 9, pRPair (-a2) (-a1)⟩]) (V2 := [⟨1, 1, none, none, .ptr, 39, 6, true, pRPair a1 a2, []⟩, ⟨2, 2, none, none, .ptr, 39, 6, true, pRPair (-a2) (-a1), []⟩]) (G2 := []) hI rfl rfl rfl [0, 1, 3, 0, 8, 31, 63, 127] (by kernel_rfl) (by kernel_rfl) (by kernel_rfl) (by kernel_rfl) ?_ [0, 1] [] rfl rfl fun a w hI => ?_
  · exact ⟨op_field 0 rfl rfl rfl 0 rfl rfl rfl rfl (.inl ⟨rfl, rfl⟩) rfl (by kernel_rfl) (fun b w => fa_S_1 b 0 w),
      op_loadAl 0 rfl 0 rfl rfl rfl rfl rfl trivial rfl rfl (by kernel_rfl) ty_R rfl rfl (fd_get (fs := [⟨true, 3, pRef a1⟩, ⟨true, 3, pRef a2⟩]) 1 (f := ⟨true, 3, pRef a2⟩) rfl (off := 3) rfl) (.here 0 rfl),
      op_call1 (fun _ _ => by kernel_rfl) (numlike_ref _) (.tmp 0 rfl rfl) (.here 1 rfl) (cn_neg _),
      op_field 0 rfl rfl rfl 1 rfl rfl rfl rfl (.inl ⟨rfl, rfl⟩) rfl (by kernel_rfl) (fun b w => fa_S_0 b 0 w),
      op_loadAl 0 rfl 1 rfl rfl rfl rfl rfl trivial rfl rfl (by kernel_rfl) ty_R rfl rfl (fd_get (fs := [⟨true, 3, pRef a1⟩, ⟨true, 3, pRef a2⟩]) 0 (f := ⟨true, 3, pRef a1⟩) rfl (off := 0) rfl) (.here 2 rfl),
      op_call1 (fun _ _ => by kernel_rfl) (numlike_ref _) (.tmp 2 rfl rfl) (.here 3 rfl) (cn_neg _),
      op_build (fs := [⟨true, 3, pAny⟩, ⟨true, 3, pAny⟩]) (ps := [(0, pRef (-a2)), (1, pRef (-a1))]) bt_S (places_ok (by kernel_rfl)) (cells_any2) (show HasParts _ _ _ _ _ _ from ⟨⟨rfl, (.tmp 1 rfl rfl), _, rfl, fits_ref _⟩, ⟨rfl, (.tmp 3 rfl rfl), _, rfl, fits_ref _⟩, trivial⟩) rfl (.here 4 rfl),
      op_store 1 rfl rfl rfl rfl 0 rfl (by kernel_rfl) (by kernel_rfl) ty_S (.tmp 4 rfl rfl) (fits_rpair _ _),
      trivial⟩
  refine wp_ret ?_
  exact fin1 hI rfl (.cell 1 rfl rfl rfl rfl ty_S rfl)
set_option maxRecDepth 100000 in
theorem nr_sub {a1 a2 b1 b2 : Rat} {j k : Nat} (ha : BdR j a1 ∧ BdR j a2) (hb : BdR k b1 ∧ BdR k b2) (hj : j + k + j + k + 1 ≤ 10000000)  : ∀ (M : Nat → Nat → Prop) (w : World) (v0 v1 : Value), Mid M w → Box M (fun w => (pRPair a1 a2) w v0) w → Box M (fun w => (pRPair b1 b2) w v1) w → Calls Tryz.prog 21 #[v0, v1] w (RetB M (pRPair (a1 - b2) (a2 - b1)) w) := by
  intro M w0 v0 v1 hM hv0 hv1
  refine calls_start (N := 9) Tryz.func21 rfl rfl rfl hM (show EntsA M w0 [v0, v1] [⟨none, none, 0, pRPair a1 a2⟩, ⟨none, none, 1, pRPair b1 b2⟩] from ⟨⟨rfl, _, rfl, hv0⟩, ⟨rfl, _, rfl, hv1⟩, trivial⟩) fun a hI => ?_
  refine seq_text (V1 := [⟨2, 2, some 0, none, .ptr, 39, 6, true, pRPair a1 a2, []⟩, ⟨3, 3, some 1, none, .ptr, 39, 6, true, pRPair b1 b2, []⟩, ⟨4, 4, some 2, none, .ptr, 39, 6, true, pAny, []⟩]) (A1 := []) (G1 := [⟨none, none, 0, pRPair a1 a2⟩, ⟨none, none, 1, pRPair b1 b2⟩]) (V2 := [⟨2, 2, none, none, .ptr, 39, 6, true, pRPair a1 a2, []⟩, ⟨3, 3, none, none, .ptr, 39, 6, true, pRPair b1 b2, []⟩, ⟨4, 4, none, none, .ptr, 39, 6, true, pAny, []⟩]) (G2 := []) hI rfl rfl rfl [0, 1, 3] (by kernel_rfl) (by kernel_rfl) ?_ [0, 1, 2] [] rfl rfl fun a w hI => ?_
  · exact ⟨op_box 0 rfl rfl (by kernel_rfl) (by kernel_rfl) rfl rfl rfl (.tmp 0 rfl rfl) (fits_rpair _ _) rfl,
      op_box 1 rfl rfl (by kernel_rfl) (by kernel_rfl) rfl rfl rfl (.tmp 1 rfl rfl) (fits_rpair _ _) rfl,
      op_alloc 2 rfl rfl (by kernel_rfl) (by kernel_rfl) rfl rfl rfl zv_S rfl rfl (by simp [NoU]) (fun _ => trivial),
      trivial⟩
  refine seq_drawn (V1 := [⟨2, 2, none, none, .ptr, 39, 6, true, pRPair a1 a2, []⟩, ⟨3, 3, none, none, .ptr, 39, 6, true, pRPair b1 b2, []⟩, ⟨4, 4, none, none, .ptr, 39, 6, true, pAny, [(4, pRPair (a1 + (-b2)) (a2 + (-b1)))]⟩]) (A1 := []) (G1 := [⟨some 0, none, 5, pRPair a1 a2⟩, ⟨some 1, none, 6, pRPair b1 b2⟩, ⟨some 2, none, 7, pRPair (-b2) (-b1)⟩, ⟨some 3, none, 8, pRPair (a1 + (-b2)) (a2 + (-b1))⟩]) (V2 := [⟨2, 2, none, none, .ptr, 39, 6, true, pRPair a1 a2, []⟩, ⟨3, 3, none, none, .ptr, 39, 6, true, pRPair b1 b2, []⟩, ⟨4, 4, none, none, .ptr, 39, 6, true, pRPair (a1 + (-b2)) (a2 + (-b1)), []⟩]) (G2 := []) hI rfl rfl rfl [0, 0, 2, 7, 15] (by kernel_rfl) (by kernel_rfl) (by kernel_rfl) (by kernel_rfl) ?_ [0, 1, 2] [] rfl rfl fun a w hI => ?_
  · exact ⟨op_load 0 rfl rfl rfl rfl (by kernel_rfl) ty_S rfl (.here 0 rfl),
      op_load 1 rfl rfl rfl rfl (by kernel_rfl) ty_S rfl (.here 1 rfl),
      op_callB1 (fun _ _ => by kernel_rfl) (.tmp 1 rfl rfl) (.here 2 rfl) (nr_neg _ _),
      op_callB2 (fun _ _ => by kernel_rfl) (.tmp 0 rfl rfl) (.tmp 2 rfl rfl) (.here 3 rfl) (nr_add ⟨ha.1, ha.2⟩ ⟨(hb.2).neg, (hb.1).neg⟩ (by omega)),
      op_store 2 rfl rfl rfl rfl 0 rfl (by kernel_rfl) (by kernel_rfl) ty_S (.tmp 3 rfl rfl) (fits_rpair _ _),
      trivial⟩
  refine wp_ret ?_
  exact fin1 hI rfl (.imp (.cell 2 rfl rfl rfl rfl ty_S rfl) (pRefPair_eq (Rat.sub_eq_add_neg _ _).symm (Rat.sub_eq_add_neg _ _).symm))
set_option maxRecDepth 100000 in
theorem nr_mul {a1 a2 b1 b2 : Rat} {j k : Nat} (ha : BdR j a1 ∧ BdR j a2) (hb : BdR k b1 ∧ BdR k b2) (hj : (j + k) + (j + k) + (j + k) + (j + k) + 1 ≤ 10000000)  : ∀ (M : Nat → Nat → Prop) (w : World) (v0 v1 : Value), Mid M w → Box M (fun w => (pRPair a1 a2) w v0) w → Box M (fun w => (pRPair b1 b2) w v1) w → Calls Tryz.prog 23 #[v0, v1] w (RetB M (pRPair (min4 (a1 * b1) (a1 * b2) (a2 * b1) (a2 * b2)) (max4 (a1 * b1) (a1 * b2) (a2 * b1) (a2 * b2))) w) := by
  intro M w0 v0 v1 hM hv0 hv1
  refine calls_start (N := 40) Tryz.func23 rfl rfl rfl hM (show EntsA M w0 [v0, v1] [⟨none, none, 0, pRPair a1 a2⟩, ⟨none, none, 1, pRPair b1 b2⟩] from ⟨⟨rfl, _, rfl, hv0⟩, ⟨rfl, _, rfl, hv1⟩, trivial⟩) fun a hI => ?_
  refine seq_text (V1 := [⟨2, 2, some 0, none, .ptr, 39, 6, true, pRPair a1 a2, []⟩, ⟨3, 3, some 1, none, .ptr, 39, 6, true, pRPair b1 b2, []⟩, ⟨4, 4, some 2, none, .ptr, 39, 6, true, pAny, []⟩]) (A1 := []) (G1 := [⟨none, none, 0, pRPair a1 a2⟩, ⟨none, none, 1, pRPair b1 b2⟩]) (V2 := [⟨2, 2, none, none, .ptr, 39, 6, true, pRPair a1 a2, []⟩, ⟨3, 3, none, none, .ptr, 39, 6, true, pRPair b1 b2, []⟩, ⟨4, 4, none, none, .ptr, 39, 6, true, pAny, []⟩]) (G2 := []) hI rfl rfl rfl [0, 1, 3] (by kernel_rfl) (by kernel_rfl) ?_ [0, 1, 2] [] rfl rfl fun a w hI => ?_
  · exact ⟨op_box 0 rfl rfl (by kernel_rfl) (by kernel_rfl) rfl rfl rfl (.tmp 0 rfl rfl) (fits_rpair _ _) rfl,
      op_box 1 rfl rfl (by kernel_rfl) (by kernel_rfl) rfl rfl rfl (.tmp 1 rfl rfl) (fits_rpair _ _) rfl,
      op_alloc 2 rfl rfl (by kernel_rfl) (by kernel_rfl) rfl rfl rfl zv_S rfl rfl (by simp [NoU]) (fun _ => trivial),
      trivial⟩
  refine seq_drawn (V1 := [⟨2, 2, none, none, .ptr, 39, 6, true, pRPair a1 a2, []⟩, ⟨3, 3, none, none, .ptr, 39, 6, true, pRPair b1 b2, []⟩, ⟨4, 4, none, none, .ptr, 39, 6, true, pAny, []⟩, ⟨5, 5, some 12, none, .ptr, 39, 6, true, pAny, [(14, pRPair (a1 * b1) (a1 * b1))]⟩, ⟨6, 6, some 13, none, .ptr, 39, 6, true, pAny, [(15, pRPair (a1 * b2) (a1 * b2))]⟩]) (A1 := [⟨some 0, 9, 2, 0, True⟩, ⟨some 2, 11, 3, 0, True⟩, ⟨some 6, 15, 2, 0, True⟩, ⟨some 8, 17, 3, 3, True⟩]) (G1 := [⟨some 1, none, 10, pRef a1⟩, ⟨some 3, none, 12, pRef b1⟩, ⟨some 4, none, 13, pRef (a1 * b1)⟩, ⟨some 5, none, 14, pRPair (a1 * b1) (a1 * b1)⟩, ⟨some 7, none, 16, pRef a1⟩, ⟨some 9, none, 18, pRef b2⟩, ⟨some 10, none, 19, pRef (a1 * b2)⟩, ⟨some 11, none, 20, pRPair (a1 * b2) (a1 * b2)⟩]) (V2 := [⟨2, 2, none, none, .ptr, 39, 6, true, pRPair a1 a2, []⟩, ⟨3, 3, none, none, .ptr, 39, 6, true, pRPair b1 b2, []⟩, ⟨4, 4, none, none, .ptr, 39, 6, true, pAny, []⟩, ⟨5, 5, none, none, .ptr, 39, 6, true, pRPair (a1 * b1) (a1 * b1), []⟩, ⟨6, 6, none, none, .ptr, 39, 6, true, pRPair (a1 * b2) (a1 * b2), []⟩]) (G2 := []) hI rfl rfl rfl [0, 1, 0, 4, 15, 31, 0, 64, 0, 256, 1023, 2047, 0, 0, 16383, 32767] (by kernel_rfl) (by kernel_rfl) (by kernel_rfl) (by kernel_rfl) ?_ [0, 1, 2, 3, 4] [] rfl rfl fun a w hI => ?_
  · exact ⟨op_field 0 rfl rfl rfl 0 rfl rfl rfl rfl (.inl ⟨rfl, rfl⟩) rfl (by kernel_rfl) (fun b w => fa_S_0 b 0 w),
      op_loadAl 0 rfl 0 rfl rfl rfl rfl rfl trivial rfl rfl (by kernel_rfl) ty_R rfl rfl (fd_get (fs := [⟨true, 3, pRef a1⟩, ⟨true, 3, pRef a2⟩]) 0 (f := ⟨true, 3, pRef a1⟩) rfl (off := 0) rfl) (.here 0 rfl),
      op_field 1 rfl rfl rfl 1 rfl rfl rfl rfl (.inl ⟨rfl, rfl⟩) rfl (by kernel_rfl) (fun b w => fa_S_0 b 0 w),
      op_loadAl 1 rfl 1 rfl rfl rfl rfl rfl trivial rfl rfl (by kernel_rfl) ty_R rfl rfl (fd_get (fs := [⟨true, 3, pRef b1⟩, ⟨true, 3, pRef b2⟩]) 0 (f := ⟨true, 3, pRef b1⟩) rfl (off := 0) rfl) (.here 1 rfl),
      op_call2 (fun _ _ => by kernel_rfl) (numlike_ref _) (.tmp 0 rfl rfl) (.tmp 1 rfl rfl) (.here 2 rfl) (cn_mul ha.1 hb.1 (by omega)),
      op_callB1 (fun _ _ => by kernel_rfl) (.tmp 2 rfl rfl) (.here 3 rfl) (nr_only _),
      op_field 0 rfl rfl rfl 2 rfl rfl rfl rfl (.inl ⟨rfl, rfl⟩) rfl (by kernel_rfl) (fun b w => fa_S_0 b 0 w),
      op_loadAl 0 rfl 2 rfl rfl rfl rfl rfl trivial rfl rfl (by kernel_rfl) ty_R rfl rfl (fd_get (fs := [⟨true, 3, pRef a1⟩, ⟨true, 3, pRef a2⟩]) 0 (f := ⟨true, 3, pRef a1⟩) rfl (off := 0) rfl) (.here 4 rfl),
      op_field 1 rfl rfl rfl 3 rfl rfl rfl rfl (.inl ⟨rfl, rfl⟩) rfl (by kernel_rfl) (fun b w => fa_S_1 b 0 w),
      op_loadAl 1 rfl 3 rfl rfl rfl rfl rfl trivial rfl rfl (by kernel_rfl) ty_R rfl rfl (fd_get (fs := [⟨true, 3, pRef b1⟩, ⟨true, 3, pRef b2⟩]) 1 (f := ⟨true, 3, pRef b2⟩) rfl (off := 3) rfl) (.here 5 rfl),
      op_call2 (fun _ _ => by kernel_rfl) (numlike_ref _) (.tmp 4 rfl rfl) (.tmp 5 rfl rfl) (.here 6 rfl) (cn_mul ha.1 hb.2 (by omega)),
      op_callB1 (fun _ _ => by kernel_rfl) (.tmp 6 rfl rfl) (.here 7 rfl) (nr_only _),
      op_alloc 3 rfl rfl (by kernel_rfl) (by kernel_rfl) rfl rfl rfl zv_S rfl rfl (by simp [NoU]) (fun _ => trivial),
      op_alloc 4 rfl rfl (by kernel_rfl) (by kernel_rfl) rfl rfl rfl zv_S rfl rfl (by simp [NoU]) (fun _ => trivial),
      op_store 3 rfl rfl rfl rfl 0 rfl (by kernel_rfl) (by kernel_rfl) ty_S (.tmp 3 rfl rfl) (fits_rpair _ _),
      op_store 4 rfl rfl rfl rfl 0 rfl (by kernel_rfl) (by kernel_rfl) ty_S (.tmp 7 rfl rfl) (fits_rpair _ _),
      trivial⟩
  refine seq_drawn (V1 := [⟨2, 2, none, none, .ptr, 39, 6, true, pRPair a1 a2, []⟩, ⟨3, 3, none, none, .ptr, 39, 6, true, pRPair b1 b2, []⟩, ⟨4, 4, none, none, .ptr, 39, 6, true, pAny, []⟩, ⟨5, 5, none, none, .ptr, 39, 6, true, pRPair (a1 * b1) (a1 * b1), []⟩, ⟨6, 6, none, none, .ptr, 39, 6, true, pRPair (a1 * b2) (a1 * b2), []⟩, ⟨7, 7, some 12, none, .ptr, 39, 6, true, pAny, [(14, pRPair (a2 * b1) (a2 * b1))]⟩, ⟨8, 8, some 13, none, .ptr, 39, 6, true, pAny, [(15, pRPair (a2 * b2) (a2 * b2))]⟩]) (A1 := [⟨some 0, 21, 2, 3, True⟩, ⟨some 2, 23, 3, 0, True⟩, ⟨some 6, 27, 2, 3, True⟩, ⟨some 8, 29, 3, 3, True⟩]) (G1 := [⟨some 1, none, 22, pRef a2⟩, ⟨some 3, none, 24, pRef b1⟩, ⟨some 4, none, 25, pRef (a2 * b1)⟩, ⟨some 5, none, 26, pRPair (a2 * b1) (a2 * b1)⟩, ⟨some 7, none, 28, pRef a2⟩, ⟨some 9, none, 30, pRef b2⟩, ⟨some 10, none, 31, pRef (a2 * b2)⟩, ⟨some 11, none, 32, pRPair (a2 * b2) (a2 * b2)⟩]) (V2 := [⟨2, 2, none, none, .ptr, 39, 6, true, pRPair a1 a2, []⟩, ⟨3, 3, none, none, .ptr, 39, 6, true, pRPair b1 b2, []⟩, ⟨4, 4, none, none, .ptr, 39, 6, true, pAny, []⟩, ⟨5, 5, none, none, .ptr, 39, 6, true, pRPair (a1 * b1) (a1 * b1), []⟩, ⟨6, 6, none, none, .ptr, 39, 6, true, pRPair (a1 * b2) (a1 * b2), []⟩, ⟨7, 7, none, none, .ptr, 39, 6, true, pRPair (a2 * b1) (a2 * b1), []⟩, ⟨8, 8, none, none, .ptr, 39, 6, true, pRPair (a2 * b2) (a2 * b2), []⟩]) (G2 := []) hI rfl rfl rfl [0, 1, 0, 4, 15, 31, 0, 64, 0, 256, 1023, 2047, 0, 0, 16383, 32767] (by kernel_rfl) (by kernel_rfl) (by kernel_rfl) (by kernel_rfl) ?_ [0, 1, 2, 3, 4, 5, 6] [] rfl rfl fun a w hI => ?_
  · exact ⟨op_field 0 rfl rfl rfl 0 rfl rfl rfl rfl (.inl ⟨rfl, rfl⟩) rfl (by kernel_rfl) (fun b w => fa_S_1 b 0 w),
      op_loadAl 0 rfl 0 rfl rfl rfl rfl rfl trivial rfl rfl (by kernel_rfl) ty_R rfl rfl (fd_get (fs := [⟨true, 3, pRef a1⟩, ⟨true, 3, pRef a2⟩]) 1 (f := ⟨true, 3, pRef a2⟩) rfl (off := 3) rfl) (.here 0 rfl),
      op_field 1 rfl rfl rfl 1 rfl rfl rfl rfl (.inl ⟨rfl, rfl⟩) rfl (by kernel_rfl) (fun b w => fa_S_0 b 0 w),
      op_loadAl 1 rfl 1 rfl rfl rfl rfl rfl trivial rfl rfl (by kernel_rfl) ty_R rfl rfl (fd_get (fs := [⟨true, 3, pRef b1⟩, ⟨true, 3, pRef b2⟩]) 0 (f := ⟨true, 3, pRef b1⟩) rfl (off := 0) rfl) (.here 1 rfl),
      op_call2 (fun _ _ => by kernel_rfl) (numlike_ref _) (.tmp 0 rfl rfl) (.tmp 1 rfl rfl) (.here 2 rfl) (cn_mul ha.2 hb.1 (by omega)),
      op_callB1 (fun _ _ => by kernel_rfl) (.tmp 2 rfl rfl) (.here 3 rfl) (nr_only _),
      op_field 0 rfl rfl rfl 2 rfl rfl rfl rfl (.inl ⟨rfl, rfl⟩) rfl (by kernel_rfl) (fun b w => fa_S_1 b 0 w),
      op_loadAl 0 rfl 2 rfl rfl rfl rfl rfl trivial rfl rfl (by kernel_rfl) ty_R rfl rfl (fd_get (fs := [⟨true, 3, pRef a1⟩, ⟨true, 3, pRef a2⟩]) 1 (f := ⟨true, 3, pRef a2⟩) rfl (off := 3) rfl) (.here 4 rfl),
      op_field 1 rfl rfl rfl 3 rfl rfl rfl rfl (.inl ⟨rfl, rfl⟩) rfl (by kernel_rfl) (fun b w => fa_S_1 b 0 w),
      op_loadAl 1 rfl 3 rfl rfl rfl rfl rfl trivial rfl rfl (by kernel_rfl) ty_R rfl rfl (fd_get (fs := [⟨true, 3, pRef b1⟩, ⟨true, 3, pRef b2⟩]) 1 (f := ⟨true, 3, pRef b2⟩) rfl (off := 3) rfl) (.here 5 rfl),
      op_call2 (fun _ _ => by kernel_rfl) (numlike_ref _) (.tmp 4 rfl rfl) (.tmp 5 rfl rfl) (.here 6 rfl) (cn_mul ha.2 hb.2 (by omega)),
      op_callB1 (fun _ _ => by kernel_rfl) (.tmp 6 rfl rfl) (.here 7 rfl) (nr_only _),
      op_alloc 5 rfl rfl (by kernel_rfl) (by kernel_rfl) rfl rfl rfl zv_S rfl rfl (by simp [NoU]) (fun _ => trivial),
      op_alloc 6 rfl rfl (by kernel_rfl) (by kernel_rfl) rfl rfl rfl zv_S rfl rfl (by simp [NoU]) (fun _ => trivial),
      op_store 5 rfl rfl rfl rfl 0 rfl (by kernel_rfl) (by kernel_rfl) ty_S (.tmp 3 rfl rfl) (fits_rpair _ _),
      op_store 6 rfl rfl rfl rfl 0 rfl (by kernel_rfl) (by kernel_rfl) ty_S (.tmp 7 rfl rfl) (fits_rpair _ _),
      trivial⟩
  refine seq_drawn (V1 := [⟨2, 2, none, none, .ptr, 39, 6, true, pRPair a1 a2, []⟩, ⟨3, 3, none, none, .ptr, 39, 6, true, pRPair b1 b2, []⟩, ⟨4, 4, none, none, .ptr, 39, 6, true, pAny, [(7, pRPair (min2 (min2 (a1 * b1) (a1 * b2)) (min2 (a2 * b1) (a2 * b2))) (max2 (max2 (a1 * b1) (a1 * b2)) (max2 (a2 * b1) (a2 * b2))))]⟩, ⟨5, 5, none, none, .ptr, 39, 6, true, pRPair (a1 * b1) (a1 * b1), []⟩, ⟨6, 6, none, none, .ptr, 39, 6, true, pRPair (a1 * b2) (a1 * b2), []⟩, ⟨7, 7, none, none, .ptr, 39, 6, true, pRPair (a2 * b1) (a2 * b1), []⟩, ⟨8, 8, none, none, .ptr, 39, 6, true, pRPair (a2 * b2) (a2 * b2), []⟩]) (A1 := []) (G1 := [⟨some 0, none, 33, pRPair (a1 * b1) (a1 * b1)⟩, ⟨some 1, none, 34, pRPair (a1 * b2) (a1 * b2)⟩, ⟨some 2, none, 35, pRPair (min2 (a1 * b1) (a1 * b2)) (max2 (a1 * b1) (a1 * b2))⟩, ⟨some 3, none, 36, pRPair (a2 * b1) (a2 * b1)⟩, ⟨some 4, none, 37, pRPair (a2 * b2) (a2 * b2)⟩, ⟨some 5, none, 38, pRPair (min2 (a2 * b1) (a2 * b2)) (max2 (a2 * b1) (a2 * b2))⟩, ⟨some 6, none, 39, pRPair (min2 (min2 (a1 * b1) (a1 * b2)) (min2 (a2 * b1) (a2 * b2))) (max2 (max2 (a1 * b1) (a1 * b2)) (max2 (a2 * b1) (a2 * b2)))⟩]) (V2 := [⟨2, 2, none, none, .ptr, 39, 6, true, pRPair a1 a2, []⟩, ⟨3, 3, none, none, .ptr, 39, 6, true, pRPair b1 b2, []⟩, ⟨4, 4, none, none, .ptr, 39, 6, true, pRPair (min2 (min2 (a1 * b1) (a1 * b2)) (min2 (a2 * b1) (a2 * b2))) (max2 (max2 (a1 * b1) (a1 * b2)) (max2 (a2 * b1) (a2 * b2))), []⟩, ⟨5, 5, none, none, .ptr, 39, 6, true, pRPair (a1 * b1) (a1 * b1), []⟩, ⟨6, 6, none, none, .ptr, 39, 6, true, pRPair (a1 * b2) (a1 * b2), []⟩, ⟨7, 7, none, none, .ptr, 39, 6, true, pRPair (a2 * b1) (a2 * b1), []⟩, ⟨8, 8, none, none, .ptr, 39, 6, true, pRPair (a2 * b2) (a2 * b2), []⟩]) (G2 := []) hI rfl rfl rfl [0, 0, 3, 0, 0, 31, 63, 127] (by kernel_rfl) (by kernel_rfl) (by kernel_rfl) (by kernel_rfl) ?_ [0, 1, 2, 3, 4, 5, 6] [] rfl rfl fun a w hI => ?_
  · exact ⟨op_load 3 rfl rfl rfl rfl (by kernel_rfl) ty_S rfl (.here 0 rfl),
      op_load 4 rfl rfl rfl rfl (by kernel_rfl) ty_S rfl (.here 1 rfl),
      op_callB2 (fun _ _ => by kernel_rfl) (.tmp 0 rfl rfl) (.tmp 1 rfl rfl) (.here 2 rfl) (nr_hull ⟨((ha.1).mul hb.1), ((ha.1).mul hb.1)⟩ ⟨((ha.1).mul hb.2), ((ha.1).mul hb.2)⟩ (by omega)),
      op_load 5 rfl rfl rfl rfl (by kernel_rfl) ty_S rfl (.here 3 rfl),
      op_load 6 rfl rfl rfl rfl (by kernel_rfl) ty_S rfl (.here 4 rfl),
      op_callB2 (fun _ _ => by kernel_rfl) (.tmp 3 rfl rfl) (.tmp 4 rfl rfl) (.here 5 rfl) (nr_hull ⟨((ha.2).mul hb.1), ((ha.2).mul hb.1)⟩ ⟨((ha.2).mul hb.2), ((ha.2).mul hb.2)⟩ (by omega)),
      op_callB2 (fun _ _ => by kernel_rfl) (.tmp 2 rfl rfl) (.tmp 5 rfl rfl) (.here 6 rfl) (nr_hull ⟨(bd_min2 ((ha.1).mul hb.1) ((ha.1).mul hb.2)), (bd_max2 ((ha.1).mul hb.1) ((ha.1).mul hb.2))⟩ ⟨(bd_min2 ((ha.2).mul hb.1) ((ha.2).mul hb.2)), (bd_max2 ((ha.2).mul hb.1) ((ha.2).mul hb.2))⟩ (by omega)),
      op_store 2 rfl rfl rfl rfl 0 rfl (by kernel_rfl) (by kernel_rfl) ty_S (.tmp 6 rfl rfl) (fits_rpair _ _),
      trivial⟩
  refine wp_ret ?_
  exact fin1 hI rfl (.imp (.cell 2 rfl rfl rfl rfl ty_S rfl) (pRefPair_eq (min22 _ _ _ _) (max22 _ _ _ _)))
set_option maxRecDepth 100000 in
theorem nr_has {a1 a2 y : Rat} {j k : Nat} (ha : BdR j a1 ∧ BdR j a2) (hy : BdR k y) (hj : j + k + j + k + 1 ≤ 10000000)  : ∀ (M : Nat → Nat → Prop) (w : World) (v0 v1 : Value), Mid M w → Box M (fun w => (pRPair a1 a2) w v0) w → Box M (fun w => (pRef y) w v1) w → Calls Tryz.prog 39 #[v0, v1] w (RetB M (pB (decide (a1 ≤ y) && decide (y ≤ a2))) w) := by
  intro M w0 v0 v1 hM hv0 hv1
  refine calls_start (N := 17) Tryz.func39 rfl rfl rfl hM (show EntsA M w0 [v0, v1] [⟨none, none, 0, pRPair a1 a2⟩, ⟨none, none, 1, pRef y⟩] from ⟨⟨rfl, _, rfl, hv0⟩, ⟨rfl, _, rfl, hv1⟩, trivial⟩) fun a hI => ?_
  refine seq_text (V1 := [⟨2, 2, some 0, none, .ptr, 39, 6, true, pRPair a1 a2, []⟩, ⟨3, 3, some 1, none, .ptr, 37, 3, true, pRef y, []⟩]) (A1 := []) (G1 := [⟨none, none, 0, pRPair a1 a2⟩, ⟨none, none, 1, pRef y⟩, ⟨some 2, none, 4, pB false⟩]) (V2 := [⟨2, 2, none, none, .ptr, 39, 6, true, pRPair a1 a2, []⟩, ⟨3, 3, none, none, .ptr, 37, 3, true, pRef y, []⟩]) (G2 := [⟨none, none, 4, pB false⟩]) hI rfl rfl rfl [0, 1, 3] (by kernel_rfl) (by kernel_rfl) ?_ [0, 1] [2] rfl rfl fun a w hI => ?_
  · exact ⟨op_box 0 rfl rfl (by kernel_rfl) (by kernel_rfl) rfl rfl rfl (.tmp 0 rfl rfl) (fits_rpair _ _) rfl,
      op_box 1 rfl rfl (by kernel_rfl) (by kernel_rfl) rfl rfl rfl (.tmp 1 rfl rfl) (fits_ref _) rfl,
      op_assign (.const _) (.here 2 rfl),
      trivial⟩
  refine seq_text (V1 := [⟨2, 2, none, none, .ptr, 39, 6, true, pRPair a1 a2, []⟩, ⟨3, 3, none, none, .ptr, 37, 3, true, pRef y, []⟩]) (A1 := [⟨some 0, 5, 2, 0, True⟩, ⟨some 7, 12, 2, 3, (decide ((cmpT a1 y) ≤ (0 : Int))) = true⟩]) (G1 := [⟨none, some 12, 4, pB false⟩, ⟨some 1, none, 6, pRef a1⟩, ⟨some 2, none, 7, pRef y⟩, ⟨some 3, none, 8, pI (cmpT a1 y)⟩, ⟨some 4, none, 9, pB (decide ((cmpT a1 y) ≤ (0 : Int)))⟩, ⟨some 5, none, 10, pB (decide ((cmpT a1 y) ≤ (0 : Int)))⟩, ⟨some 6, none, 11, pSel ((decide ((cmpT a1 y) ≤ (0 : Int))) = true) (pRef y)⟩, ⟨some 8, none, 13, pSel ((decide ((cmpT a1 y) ≤ (0 : Int))) = true) (pRef a2)⟩, ⟨some 9, none, 14, pSel ((decide ((cmpT a1 y) ≤ (0 : Int))) = true) (pI (cmpT y a2))⟩, ⟨some 10, none, 15, pSel ((decide ((cmpT a1 y) ≤ (0 : Int))) = true) (pB (decide ((cmpT y a2) ≤ (0 : Int))))⟩, ⟨some 11, none, 16, pB ((decide ((cmpT a1 y) ≤ (0 : Int))) && (decide ((cmpT y a2) ≤ (0 : Int))))⟩, ⟨some 12, none, 4, pB ((decide ((cmpT a1 y) ≤ (0 : Int))) && (decide ((cmpT y a2) ≤ (0 : Int))))⟩]) (V2 := [⟨2, 2, none, none, .ptr, 39, 6, true, pRPair a1 a2, []⟩, ⟨3, 3, none, none, .ptr, 37, 3, true, pRef y, []⟩]) (G2 := [⟨none, none, 4, pB ((decide ((cmpT a1 y) ≤ (0 : Int))) && (decide ((cmpT y a2) ≤ (0 : Int))))⟩]) hI rfl rfl rfl [0, 1, 3, 7, 15, 31, 63, 127, 255, 511, 1023, 2047, 4095] (by kernel_rfl) (by kernel_rfl) ?_ [0, 1] [10] rfl rfl fun a w hI => ?_
  · exact ⟨op_field 0 rfl rfl rfl 0 rfl rfl rfl rfl (.inl ⟨rfl, rfl⟩) rfl (by kernel_rfl) (fun b w => fa_S_0 b 0 w),
      op_loadAl 0 rfl 0 rfl rfl rfl rfl rfl trivial rfl rfl (by kernel_rfl) ty_R rfl rfl (fd_get (fs := [⟨true, 3, pRef a1⟩, ⟨true, 3, pRef a2⟩]) 0 (f := ⟨true, 3, pRef a1⟩) rfl (off := 0) rfl) (.here 1 rfl),
      op_load 1 rfl rfl rfl rfl (by kernel_rfl) ty_R rfl (.here 2 rfl),
      op_call2 (fun _ _ => by kernel_rfl) (numlike_eq _) (.tmp 1 rfl rfl) (.tmp 2 rfl rfl) (.here 3 rfl) (cn_cmp ha.1 hy (by omega)),
      op_bin (v := .bool (decide ((cmpT a1 y) ≤ (0 : Int)))) (.tmp 3 rfl rfl) (.const _) (fun _ => rfl) (.here 4 rfl),
      op_move (.tmp 4 rfl rfl) (.here 5 rfl),
      op_if 5 rfl rfl (fun hc => op_load 1 rfl rfl rfl rfl (by kernel_rfl) ty_R rfl (.sel hc 6 rfl)) (by kernel_rfl) (fun _ => .none (by kernel_rfl)) (fun hc => .sel_no hc 6 rfl),
      op_if 5 rfl rfl (fun hc => op_field 0 rfl rfl rfl 1 rfl rfl rfl rfl (.inl ⟨rfl, rfl⟩) rfl (by kernel_rfl) (fun b w => fa_S_1 b 0 w)) (by kernel_rfl) (fun hc => .at_ 1 rfl rfl rfl hc) (fun hc => .none (by kernel_rfl)),
      op_if 5 rfl rfl (fun hc => op_loadAl 0 rfl 1 rfl rfl rfl rfl rfl hc rfl rfl (by kernel_rfl) ty_R rfl rfl (fd_get (fs := [⟨true, 3, pRef a1⟩, ⟨true, 3, pRef a2⟩]) 1 (f := ⟨true, 3, pRef a2⟩) rfl (off := 3) rfl) (.sel hc 7 rfl)) (by kernel_rfl) (fun _ => .none (by kernel_rfl)) (fun hc => .sel_no hc 7 rfl),
      op_if 5 rfl rfl (fun hc => op_call2 (fun _ _ => by kernel_rfl) (numlike_eq _) (.sel (.tmp 6 rfl rfl) hc) (.sel (.tmp 7 rfl rfl) hc) (.sel hc 8 rfl) (cn_cmp hy ha.2 (by omega))) (by kernel_rfl) (fun _ => .none (by kernel_rfl)) (fun hc => .sel_no hc 8 rfl),
      op_if 5 rfl rfl (fun hc => op_bin (v := .bool (decide ((cmpT y a2) ≤ (0 : Int)))) (.sel (.tmp 8 rfl rfl) hc) (.const _) (fun _ => rfl) (.sel hc 9 rfl)) (by kernel_rfl) (fun _ => .none (by kernel_rfl)) (fun hc => .sel_no hc 9 rfl),
      op_pick (.tmp 5 rfl rfl) (fun h => .imp (.sel (.tmp 9 rfl rfl) (h)) fun _ _ e => by rw [h]; exact e) (fun h => .imp (.const _) fun _ _ e => by rw [h]; exact e) (.here 10 rfl),
      op_assign (.tmp 10 rfl rfl) (.here 11 rfl),
      trivial⟩
  refine wp_ret ?_
  exact fin1 hI rfl (.imp (.tmp 0 rfl) (pB_eq (by rw [dec_le, dec_le])))
set_option maxRecDepth 100000 in
theorem nr_in {a1 a2 b1 b2 : Rat} {j k : Nat} (ha : BdR j a1 ∧ BdR j a2) (hb : BdR k b1 ∧ BdR k b2) (hj : j + k + j + k + 1 ≤ 10000000)  : ∀ (M : Nat → Nat → Prop) (w : World) (v0 v1 : Value), Mid M w → Box M (fun w => (pRPair a1 a2) w v0) w → Box M (fun w => (pRPair b1 b2) w v1) w → Calls Tryz.prog 37 #[v0, v1] w (RetB M (pB ((decide (b1 ≤ a1) && decide (a1 ≤ b2)) && (decide (b1 ≤ a2) && decide (a2 ≤ b2)))) w) := by
  intro M w0 v0 v1 hM hv0 hv1
  refine calls_start (N := 15) Tryz.func37 rfl rfl rfl hM (show EntsA M w0 [v0, v1] [⟨none, none, 0, pRPair a1 a2⟩, ⟨none, none, 1, pRPair b1 b2⟩] from ⟨⟨rfl, _, rfl, hv0⟩, ⟨rfl, _, rfl, hv1⟩, trivial⟩) fun a hI => ?_
  refine seq_text (V1 := [⟨2, 2, some 0, none, .ptr, 39, 6, true, pRPair a1 a2, []⟩, ⟨3, 3, some 1, none, .ptr, 39, 6, true, pRPair b1 b2, []⟩]) (A1 := []) (G1 := [⟨none, none, 0, pRPair a1 a2⟩, ⟨none, none, 1, pRPair b1 b2⟩, ⟨some 2, none, 4, pB false⟩]) (V2 := [⟨2, 2, none, none, .ptr, 39, 6, true, pRPair a1 a2, []⟩, ⟨3, 3, none, none, .ptr, 39, 6, true, pRPair b1 b2, []⟩]) (G2 := [⟨none, none, 4, pB false⟩]) hI rfl rfl rfl [0, 1, 3] (by kernel_rfl) (by kernel_rfl) ?_ [0, 1] [2] rfl rfl fun a w hI => ?_
  · exact ⟨op_box 0 rfl rfl (by kernel_rfl) (by kernel_rfl) rfl rfl rfl (.tmp 0 rfl rfl) (fits_rpair _ _) rfl,
      op_box 1 rfl rfl (by kernel_rfl) (by kernel_rfl) rfl rfl rfl (.tmp 1 rfl rfl) (fits_rpair _ _) rfl,
      op_assign (.const _) (.here 2 rfl),
      trivial⟩
  refine seq_text (V1 := [⟨2, 2, none, none, .ptr, 39, 6, true, pRPair a1 a2, []⟩, ⟨3, 3, none, none, .ptr, 39, 6, true, pRPair b1 b2, []⟩]) (A1 := [⟨some 1, 6, 2, 0, True⟩, ⟨some 6, 11, 2, 3, (decide (b1 ≤ a1) && decide (a1 ≤ b2)) = true⟩]) (G1 := [⟨none, some 10, 4, pB false⟩, ⟨some 0, none, 5, pRPair b1 b2⟩, ⟨some 2, none, 7, pRef a1⟩, ⟨some 3, none, 8, pB (decide (b1 ≤ a1) && decide (a1 ≤ b2))⟩, ⟨some 4, none, 9, pB (decide (b1 ≤ a1) && decide (a1 ≤ b2))⟩, ⟨some 5, none, 10, pSel ((decide (b1 ≤ a1) && decide (a1 ≤ b2)) = true) (pRPair b1 b2)⟩, ⟨some 7, none, 12, pSel ((decide (b1 ≤ a1) && decide (a1 ≤ b2)) = true) (pRef a2)⟩, ⟨some 8, none, 13, pSel ((decide (b1 ≤ a1) && decide (a1 ≤ b2)) = true) (pB (decide (b1 ≤ a2) && decide (a2 ≤ b2)))⟩, ⟨some 9, none, 14, pB ((decide (b1 ≤ a1) && decide (a1 ≤ b2)) && (decide (b1 ≤ a2) && decide (a2 ≤ b2)))⟩, ⟨some 10, none, 4, pB ((decide (b1 ≤ a1) && decide (a1 ≤ b2)) && (decide (b1 ≤ a2) && decide (a2 ≤ b2)))⟩]) (V2 := [⟨2, 2, none, none, .ptr, 39, 6, true, pRPair a1 a2, []⟩, ⟨3, 3, none, none, .ptr, 39, 6, true, pRPair b1 b2, []⟩]) (G2 := [⟨none, none, 4, pB ((decide (b1 ≤ a1) && decide (a1 ≤ b2)) && (decide (b1 ≤ a2) && decide (a2 ≤ b2)))⟩]) hI rfl rfl rfl [0, 1, 3, 7, 15, 31, 63, 127, 255, 511, 1023] (by kernel_rfl) (by kernel_rfl) ?_ [0, 1] [8] rfl rfl fun a w hI => ?_
  · exact ⟨op_load 1 rfl rfl rfl rfl (by kernel_rfl) ty_S rfl (.here 1 rfl),
      op_field 0 rfl rfl rfl 0 rfl rfl rfl rfl (.inl ⟨rfl, rfl⟩) rfl (by kernel_rfl) (fun b w => fa_S_0 b 0 w),
      op_loadAl 0 rfl 0 rfl rfl rfl rfl rfl trivial rfl rfl (by kernel_rfl) ty_R rfl rfl (fd_get (fs := [⟨true, 3, pRef a1⟩, ⟨true, 3, pRef a2⟩]) 0 (f := ⟨true, 3, pRef a1⟩) rfl (off := 0) rfl) (.here 2 rfl),
      op_callB2 (fun _ _ => by kernel_rfl) (.tmp 1 rfl rfl) (.tmp 2 rfl rfl) (.here 3 rfl) (nr_has (j := k) (k := j) ⟨hb.1, hb.2⟩ ha.1 (by omega)),
      op_move (.tmp 3 rfl rfl) (.here 4 rfl),
      op_if 4 rfl rfl (fun hc => op_load 1 rfl rfl rfl rfl (by kernel_rfl) ty_S rfl (.sel hc 5 rfl)) (by kernel_rfl) (fun _ => .none (by kernel_rfl)) (fun hc => .sel_no hc 5 rfl),
      op_if 4 rfl rfl (fun hc => op_field 0 rfl rfl rfl 1 rfl rfl rfl rfl (.inl ⟨rfl, rfl⟩) rfl (by kernel_rfl) (fun b w => fa_S_1 b 0 w)) (by kernel_rfl) (fun hc => .at_ 1 rfl rfl rfl hc) (fun hc => .none (by kernel_rfl)),
      op_if 4 rfl rfl (fun hc => op_loadAl 0 rfl 1 rfl rfl rfl rfl rfl hc rfl rfl (by kernel_rfl) ty_R rfl rfl (fd_get (fs := [⟨true, 3, pRef a1⟩, ⟨true, 3, pRef a2⟩]) 1 (f := ⟨true, 3, pRef a2⟩) rfl (off := 3) rfl) (.sel hc 6 rfl)) (by kernel_rfl) (fun _ => .none (by kernel_rfl)) (fun hc => .sel_no hc 6 rfl),
      op_if 4 rfl rfl (fun hc => op_callB2 (fun _ _ => by kernel_rfl) (.sel (.tmp 5 rfl rfl) hc) (.sel (.tmp 6 rfl rfl) hc) (.sel hc 7 rfl) (nr_has (j := k) (k := j) ⟨hb.1, hb.2⟩ ha.2 (by omega))) (by kernel_rfl) (fun _ => .none (by kernel_rfl)) (fun hc => .sel_no hc 7 rfl),
      op_pick (.tmp 4 rfl rfl) (fun h => .imp (.sel (.tmp 7 rfl rfl) (h)) fun _ _ e => by rw [h]; exact e) (fun h => .imp (.const _) fun _ _ e => by rw [h]; exact e) (.here 8 rfl),
      op_assign (.tmp 8 rfl rfl) (.here 9 rfl),
      trivial⟩
  refine wp_ret ?_
  exact fin1 hI rfl (.tmp 0 rfl)
set_option maxRecDepth 100000 in
theorem nr_before {a1 a2 b1 b2 : Rat} {j k : Nat} (ha : BdR j a1 ∧ BdR j a2) (hb : BdR k b1 ∧ BdR k b2) (hj : j + k + j + k + 1 ≤ 10000000)  : ∀ (M : Nat → Nat → Prop) (w : World) (v0 v1 : Value), Mid M w → Box M (fun w => (pRPair a1 a2) w v0) w → Box M (fun w => (pRPair b1 b2) w v1) w → Calls Tryz.prog 41 #[v0, v1] w (RetB M (pB (decide (a2 < b1))) w) := by
  intro M w0 v0 v1 hM hv0 hv1
  refine calls_start (N := 11) Tryz.func41 rfl rfl rfl hM (show EntsA M w0 [v0, v1] [⟨none, none, 0, pRPair a1 a2⟩, ⟨none, none, 1, pRPair b1 b2⟩] from ⟨⟨rfl, _, rfl, hv0⟩, ⟨rfl, _, rfl, hv1⟩, trivial⟩) fun a hI => ?_
  refine seq_text (V1 := [⟨2, 2, some 0, none, .ptr, 39, 6, true, pRPair a1 a2, []⟩, ⟨3, 3, some 1, none, .ptr, 39, 6, true, pRPair b1 b2, []⟩]) (A1 := []) (G1 := [⟨none, none, 0, pRPair a1 a2⟩, ⟨none, none, 1, pRPair b1 b2⟩, ⟨some 2, none, 4, pB false⟩]) (V2 := [⟨2, 2, none, none, .ptr, 39, 6, true, pRPair a1 a2, []⟩, ⟨3, 3, none, none, .ptr, 39, 6, true, pRPair b1 b2, []⟩]) (G2 := [⟨none, none, 4, pB false⟩]) hI rfl rfl rfl [0, 1, 3] (by kernel_rfl) (by kernel_rfl) ?_ [0, 1] [2] rfl rfl fun a w hI => ?_
  · exact ⟨op_box 0 rfl rfl (by kernel_rfl) (by kernel_rfl) rfl rfl rfl (.tmp 0 rfl rfl) (fits_rpair _ _) rfl,
      op_box 1 rfl rfl (by kernel_rfl) (by kernel_rfl) rfl rfl rfl (.tmp 1 rfl rfl) (fits_rpair _ _) rfl,
      op_assign (.const _) (.here 2 rfl),
      trivial⟩
  refine seq_text (V1 := [⟨2, 2, none, none, .ptr, 39, 6, true, pRPair a1 a2, []⟩, ⟨3, 3, none, none, .ptr, 39, 6, true, pRPair b1 b2, []⟩]) (A1 := [⟨some 0, 5, 2, 3, True⟩, ⟨some 2, 7, 3, 0, True⟩]) (G1 := [⟨none, some 6, 4, pB false⟩, ⟨some 1, none, 6, pRef a2⟩, ⟨some 3, none, 8, pRef b1⟩, ⟨some 4, none, 9, pI (cmpT a2 b1)⟩, ⟨some 5, none, 10, pB (decide ((cmpT a2 b1) < (0 : Int)))⟩, ⟨some 6, none, 4, pB (decide ((cmpT a2 b1) < (0 : Int)))⟩]) (V2 := [⟨2, 2, none, none, .ptr, 39, 6, true, pRPair a1 a2, []⟩, ⟨3, 3, none, none, .ptr, 39, 6, true, pRPair b1 b2, []⟩]) (G2 := [⟨none, none, 4, pB (decide ((cmpT a2 b1) < (0 : Int)))⟩]) hI rfl rfl rfl [0, 1, 3, 7, 15, 31, 63] (by kernel_rfl) (by kernel_rfl) ?_ [0, 1] [4] rfl rfl fun a w hI => ?_
  · exact ⟨op_field 0 rfl rfl rfl 0 rfl rfl rfl rfl (.inl ⟨rfl, rfl⟩) rfl (by kernel_rfl) (fun b w => fa_S_1 b 0 w),
      op_loadAl 0 rfl 0 rfl rfl rfl rfl rfl trivial rfl rfl (by kernel_rfl) ty_R rfl rfl (fd_get (fs := [⟨true, 3, pRef a1⟩, ⟨true, 3, pRef a2⟩]) 1 (f := ⟨true, 3, pRef a2⟩) rfl (off := 3) rfl) (.here 1 rfl),
      op_field 1 rfl rfl rfl 1 rfl rfl rfl rfl (.inl ⟨rfl, rfl⟩) rfl (by kernel_rfl) (fun b w => fa_S_0 b 0 w),
      op_loadAl 1 rfl 1 rfl rfl rfl rfl rfl trivial rfl rfl (by kernel_rfl) ty_R rfl rfl (fd_get (fs := [⟨true, 3, pRef b1⟩, ⟨true, 3, pRef b2⟩]) 0 (f := ⟨true, 3, pRef b1⟩) rfl (off := 0) rfl) (.here 2 rfl),
      op_call2 (fun _ _ => by kernel_rfl) (numlike_eq _) (.tmp 1 rfl rfl) (.tmp 2 rfl rfl) (.here 3 rfl) (cn_cmp ha.2 hb.1 (by omega)),
      op_bin (v := .bool (decide ((cmpT a2 b1) < (0 : Int)))) (.tmp 3 rfl rfl) (.const _) (fun _ => rfl) (.here 4 rfl),
      op_assign (.tmp 4 rfl rfl) (.here 5 rfl),
      trivial⟩
  refine wp_ret ?_
  exact fin1 hI rfl (.imp (.tmp 0 rfl) (pB_eq (dec_lt _ _)))
set_option maxRecDepth 100000 in
theorem nr_round {a1 a2 : Rat} {j : Nat} (ha : BdR j a1 ∧ BdR j a2) (n : Int) (hj : j ≤ 10000)  : ∀ (M : Nat → Nat → Prop) (w : World) (v0 v1 : Value), Mid M w → Box M (fun w => (pRPair a1 a2) w v0) w → Box M (fun w => (pI n) w v1) w → Calls Tryz.prog 33 #[v0, v1] w (RetB M (pRPair (downR a1 n) (-(downR (-a2) n))) w) := by
  intro M w0 v0 v1 hM hv0 hv1
  refine calls_start (N := 14) Tryz.func33 rfl rfl rfl hM (show EntsA M w0 [v0, v1] [⟨none, none, 0, pRPair a1 a2⟩, ⟨none, none, 1, pI n⟩] from ⟨⟨rfl, _, rfl, hv0⟩, ⟨rfl, _, rfl, hv1⟩, trivial⟩) fun a hI => ?_
  refine seq_text (V1 := [⟨2, 2, some 0, none, .ptr, 39, 6, true, pRPair a1 a2, []⟩, ⟨4, 4, some 1, none, .ptr, 39, 6, true, pAny, []⟩]) (A1 := []) (G1 := [⟨none, none, 0, pRPair a1 a2⟩, ⟨none, none, 1, pI n⟩]) (V2 := [⟨2, 2, none, none, .ptr, 39, 6, true, pRPair a1 a2, []⟩, ⟨4, 4, none, none, .ptr, 39, 6, true, pAny, []⟩]) (G2 := [⟨none, none, 1, pI n⟩]) hI rfl rfl rfl [0, 1] (by kernel_rfl) (by kernel_rfl) ?_ [0, 1] [1] rfl rfl fun a w hI => ?_
  · exact ⟨op_box 0 rfl rfl (by kernel_rfl) (by kernel_rfl) rfl rfl rfl (.tmp 0 rfl rfl) (fits_rpair _ _) rfl,
      op_alloc 1 rfl rfl (by kernel_rfl) (by kernel_rfl) rfl rfl rfl zv_S rfl rfl (by simp [NoU]) (fun _ => trivial),
      trivial⟩
  refine seq_drawn (V1 := [⟨2, 2, none, none, .ptr, 39, 6, true, pRPair a1 a2, []⟩, ⟨4, 4, none, none, .ptr, 39, 6, true, pAny, [(9, pRPair (downR a1 n) (-(downR (-a2) n)))]⟩]) (A1 := [⟨some 0, 5, 2, 0, True⟩, ⟨some 4, 9, 2, 3, True⟩]) (G1 := [⟨none, none, 1, pI n⟩, ⟨some 1, none, 6, pRef a1⟩, ⟨some 2, none, 7, pI n⟩, ⟨some 3, none, 8, pRef (downR a1 n)⟩, ⟨some 5, none, 10, pRef a2⟩, ⟨some 6, none, 11, pI n⟩, ⟨some 7, none, 12, pRef (-(downR (-a2) n))⟩, ⟨some 8, none, 13, pRPair (downR a1 n) (-(downR (-a2) n))⟩]) (V2 := [⟨2, 2, none, none, .ptr, 39, 6, true, pRPair a1 a2, []⟩, ⟨4, 4, none, none, .ptr, 39, 6, true, pRPair (downR a1 n) (-(downR (-a2) n)), []⟩]) (G2 := []) hI rfl rfl rfl [0, 1, 0, 7, 0, 16, 0, 127, 255, 511] (by kernel_rfl) (by kernel_rfl) (by kernel_rfl) (by kernel_rfl) ?_ [0, 1] [] rfl rfl fun a w hI => ?_
  · exact ⟨op_field 0 rfl rfl rfl 0 rfl rfl rfl rfl (.inl ⟨rfl, rfl⟩) rfl (by kernel_rfl) (fun b w => fa_S_0 b 0 w),
      op_loadAl 0 rfl 0 rfl rfl rfl rfl rfl trivial rfl rfl (by kernel_rfl) ty_R rfl rfl (fd_get (fs := [⟨true, 3, pRef a1⟩, ⟨true, 3, pRef a2⟩]) 0 (f := ⟨true, 3, pRef a1⟩) rfl (off := 0) rfl) (.here 1 rfl),
      op_move (.tmp 0 rfl rfl) (.here 2 rfl),
      op_call2 (fun _ _ => by kernel_rfl) (numlike_ref _) (.tmp 1 rfl rfl) (.tmp 2 rfl rfl) (.here 3 rfl) (cn_down ha.1 (by omega) _),
      op_field 0 rfl rfl rfl 1 rfl rfl rfl rfl (.inl ⟨rfl, rfl⟩) rfl (by kernel_rfl) (fun b w => fa_S_1 b 0 w),
      op_loadAl 0 rfl 1 rfl rfl rfl rfl rfl trivial rfl rfl (by kernel_rfl) ty_R rfl rfl (fd_get (fs := [⟨true, 3, pRef a1⟩, ⟨true, 3, pRef a2⟩]) 1 (f := ⟨true, 3, pRef a2⟩) rfl (off := 3) rfl) (.here 4 rfl),
      op_move (.tmp 0 rfl rfl) (.here 5 rfl),
      op_call2 (fun _ _ => by kernel_rfl) (numlike_ref _) (.tmp 4 rfl rfl) (.tmp 5 rfl rfl) (.here 6 rfl) (cn_up ha.2 (by omega) _),
      op_build (fs := [⟨true, 3, pAny⟩, ⟨true, 3, pAny⟩]) (ps := [(0, pRef (downR a1 n)), (1, pRef (-(downR (-a2) n)))]) bt_S (places_ok (by kernel_rfl)) (cells_any2) (show HasParts _ _ _ _ _ _ from ⟨⟨rfl, (.tmp 3 rfl rfl), _, rfl, fits_ref _⟩, ⟨rfl, (.tmp 6 rfl rfl), _, rfl, fits_ref _⟩, trivial⟩) rfl (.here 7 rfl),
      op_store 1 rfl rfl rfl rfl 0 rfl (by kernel_rfl) (by kernel_rfl) ty_S (.tmp 7 rfl rfl) (fits_rpair _ _),
      trivial⟩
  refine wp_ret ?_
  exact fin1 hI rfl (.cell 1 rfl rfl rfl rfl ty_S rfl)
set_option maxRecDepth 100000 in
theorem nr_square_in {a1 a2 : Rat} {j : Nat} (ha : BdR j a1 ∧ BdR j a2) (hj : (j + j) + (j + j) + (j + j) + (j + j) + 1 ≤ 10000000) (h64 : 64 ≤ j) (hz : a1 ≤ 0 ∧ 0 ≤ a2) : ∀ (M : Nat → Nat → Prop) (w : World) (v0 : Value), Mid M w → Box M (fun w => (pRPair a1 a2) w v0) w → Calls Tryz.prog 27 #[v0] w (RetB M (pRPair 0 (max2 (a1 * a1) (a2 * a2))) w) := by
  intro M w0 v0 hM hv0
  have B1 : BdR 64 ((0 : Int) : Rat) := BdR.mono (bd_int (by omega) (by omega)) (by omega)
  have B2 : BdR 64 ((0 : Int) : Rat) := BdR.mono (bd_int (by omega) (by omega)) (by omega)
  refine calls_start (N := 23) Tryz.func27 rfl rfl rfl hM (show EntsA M w0 [v0] [⟨none, none, 0, pRPair a1 a2⟩] from ⟨⟨rfl, _, rfl, hv0⟩, trivial⟩) fun a hI => ?_
  refine seq_text (V1 := [⟨1, 1, some 0, none, .ptr, 39, 6, true, pRPair a1 a2, []⟩, ⟨2, 2, some 1, none, .ptr, 39, 6, true, pAny, []⟩]) (A1 := []) (G1 := [⟨none, none, 0, pRPair a1 a2⟩]) (V2 := [⟨1, 1, none, none, .ptr, 39, 6, true, pRPair a1 a2, []⟩, ⟨2, 2, none, none, .ptr, 39, 6, true, pAny, []⟩]) (G2 := []) hI rfl rfl rfl [0, 1] (by kernel_rfl) (by kernel_rfl) ?_ [0, 1] [] rfl rfl fun a w hI => ?_
  · exact ⟨op_box 0 rfl rfl (by kernel_rfl) (by kernel_rfl) rfl rfl rfl (.tmp 0 rfl rfl) (fits_rpair _ _) rfl,
      op_alloc 1 rfl rfl (by kernel_rfl) (by kernel_rfl) rfl rfl rfl zv_S rfl rfl (by simp [NoU]) (fun _ => trivial),
      trivial⟩
  refine seq_drawn (V1 := [⟨1, 1, none, none, .ptr, 39, 6, true, pRPair a1 a2, []⟩, ⟨2, 2, none, none, .ptr, 39, 6, true, pAny, []⟩, ⟨3, 3, some 13, none, .ptr, 39, 6, true, pAny, [(14, pRPair (min2 (a1 * a1) (a2 * a2)) (max2 (a1 * a1) (a2 * a2)))]⟩]) (A1 := [⟨some 0, 4, 1, 0, True⟩, ⟨some 2, 6, 1, 0, True⟩, ⟨some 6, 10, 1, 3, True⟩, ⟨some 8, 12, 1, 3, True⟩]) (G1 := [⟨some 1, none, 5, pRef a1⟩, ⟨some 3, none, 7, pRef a1⟩, ⟨some 4, none, 8, pRef (a1 * a1)⟩, ⟨some 5, none, 9, pRPair (a1 * a1) (a1 * a1)⟩, ⟨some 7, none, 11, pRef a2⟩, ⟨some 9, none, 13, pRef a2⟩, ⟨some 10, none, 14, pRef (a2 * a2)⟩, ⟨some 11, none, 15, pRPair (a2 * a2) (a2 * a2)⟩, ⟨some 12, none, 16, pRPair (min2 (a1 * a1) (a2 * a2)) (max2 (a1 * a1) (a2 * a2))⟩]) (V2 := [⟨1, 1, none, none, .ptr, 39, 6, true, pRPair a1 a2, []⟩, ⟨2, 2, none, none, .ptr, 39, 6, true, pAny, []⟩, ⟨3, 3, none, none, .ptr, 39, 6, true, pRPair (min2 (a1 * a1) (a2 * a2)) (max2 (a1 * a1) (a2 * a2)), []⟩]) (G2 := []) hI rfl rfl rfl [0, 1, 0, 4, 15, 31, 0, 64, 0, 256, 1023, 2047, 4095, 0, 16383] (by kernel_rfl) (by kernel_rfl) (by kernel_rfl) (by kernel_rfl) ?_ [0, 1, 2] [] rfl rfl fun a w hI => ?_
  · exact ⟨op_field 0 rfl rfl rfl 0 rfl rfl rfl rfl (.inl ⟨rfl, rfl⟩) rfl (by kernel_rfl) (fun b w => fa_S_0 b 0 w),
      op_loadAl 0 rfl 0 rfl rfl rfl rfl rfl trivial rfl rfl (by kernel_rfl) ty_R rfl rfl (fd_get (fs := [⟨true, 3, pRef a1⟩, ⟨true, 3, pRef a2⟩]) 0 (f := ⟨true, 3, pRef a1⟩) rfl (off := 0) rfl) (.here 0 rfl),
      op_field 0 rfl rfl rfl 1 rfl rfl rfl rfl (.inl ⟨rfl, rfl⟩) rfl (by kernel_rfl) (fun b w => fa_S_0 b 0 w),
      op_loadAl 0 rfl 1 rfl rfl rfl rfl rfl trivial rfl rfl (by kernel_rfl) ty_R rfl rfl (fd_get (fs := [⟨true, 3, pRef a1⟩, ⟨true, 3, pRef a2⟩]) 0 (f := ⟨true, 3, pRef a1⟩) rfl (off := 0) rfl) (.here 1 rfl),
      op_call2 (fun _ _ => by kernel_rfl) (numlike_ref _) (.tmp 0 rfl rfl) (.tmp 1 rfl rfl) (.here 2 rfl) (cn_mul ha.1 ha.1 (by omega)),
      op_callB1 (fun _ _ => by kernel_rfl) (.tmp 2 rfl rfl) (.here 3 rfl) (nr_only _),
      op_field 0 rfl rfl rfl 2 rfl rfl rfl rfl (.inl ⟨rfl, rfl⟩) rfl (by kernel_rfl) (fun b w => fa_S_1 b 0 w),
      op_loadAl 0 rfl 2 rfl rfl rfl rfl rfl trivial rfl rfl (by kernel_rfl) ty_R rfl rfl (fd_get (fs := [⟨true, 3, pRef a1⟩, ⟨true, 3, pRef a2⟩]) 1 (f := ⟨true, 3, pRef a2⟩) rfl (off := 3) rfl) (.here 4 rfl),
      op_field 0 rfl rfl rfl 3 rfl rfl rfl rfl (.inl ⟨rfl, rfl⟩) rfl (by kernel_rfl) (fun b w => fa_S_1 b 0 w),
      op_loadAl 0 rfl 3 rfl rfl rfl rfl rfl trivial rfl rfl (by kernel_rfl) ty_R rfl rfl (fd_get (fs := [⟨true, 3, pRef a1⟩, ⟨true, 3, pRef a2⟩]) 1 (f := ⟨true, 3, pRef a2⟩) rfl (off := 3) rfl) (.here 5 rfl),
      op_call2 (fun _ _ => by kernel_rfl) (numlike_ref _) (.tmp 4 rfl rfl) (.tmp 5 rfl rfl) (.here 6 rfl) (cn_mul ha.2 ha.2 (by omega)),
      op_callB1 (fun _ _ => by kernel_rfl) (.tmp 6 rfl rfl) (.here 7 rfl) (nr_only _),
      op_callB2 (fun _ _ => by kernel_rfl) (.tmp 3 rfl rfl) (.tmp 7 rfl rfl) (.here 8 rfl) (nr_hull ⟨((ha.1).mul ha.1), ((ha.1).mul ha.1)⟩ ⟨((ha.2).mul ha.2), ((ha.2).mul ha.2)⟩ (by omega)),
      op_alloc 2 rfl rfl (by kernel_rfl) (by kernel_rfl) rfl rfl rfl zv_S rfl rfl (by simp [NoU]) (fun _ => trivial),
      op_store 2 rfl rfl rfl rfl 0 rfl (by kernel_rfl) (by kernel_rfl) ty_S (.tmp 8 rfl rfl) (fits_rpair _ _),
      trivial⟩
  refine wp_seq ?_
  refine seq_drawn (V1 := [⟨1, 1, none, none, .ptr, 39, 6, true, pRPair a1 a2, []⟩, ⟨2, 2, none, none, .ptr, 39, 6, true, pAny, []⟩, ⟨3, 3, none, none, .ptr, 39, 6, true, pRPair (min2 (a1 * a1) (a2 * a2)) (max2 (a1 * a1) (a2 * a2)), []⟩]) (A1 := []) (G1 := [⟨some 0, none, 17, pRPair a1 a2⟩, ⟨some 1, none, 18, pRef ((0 : Int) : Rat)⟩, ⟨some 2, none, 19, pB true⟩]) (V2 := [⟨1, 1, none, none, .ptr, 39, 6, true, pRPair a1 a2, []⟩, ⟨2, 2, none, none, .ptr, 39, 6, true, pAny, []⟩, ⟨3, 3, none, none, .ptr, 39, 6, true, pRPair (min2 (a1 * a1) (a2 * a2)) (max2 (a1 * a1) (a2 * a2)), []⟩]) (G2 := [⟨none, none, 19, pB true⟩]) hI rfl rfl rfl [0, 0, 3] (by kernel_rfl) (by kernel_rfl) (by kernel_rfl) (by kernel_rfl) ?_ [0, 1, 2] [2] rfl rfl fun a w hI => ?_
  · exact ⟨op_load 0 rfl rfl rfl rfl (by kernel_rfl) ty_S rfl (.here 0 rfl),
      op_call1 (fun _ _ => by kernel_rfl) (numlike_ref _) (.const _) (.here 1 rfl) (cn_int 0 (by omega) (by omega)),
      op_callB2 (fun _ _ => by kernel_rfl) (.tmp 0 rfl rfl) (.tmp 1 rfl rfl) (.here 2 rfl) (cb_known2 (b := true) (nr_has (j := j) (k := 64) ⟨ha.1, ha.2⟩ B1 (by omega)) (by rw [← Bool.decide_and]; exact decide_eq_true hz)),
      trivial⟩
  refine cond_yes hI 0 rfl ?_
  refine sem_text (V1 := [⟨1, 1, none, none, .ptr, 39, 6, true, pRPair a1 a2, []⟩, ⟨2, 2, none, none, .ptr, 39, 6, true, pAny, []⟩, ⟨3, 3, none, none, .ptr, 39, 6, true, pRPair (min2 (a1 * a1) (a2 * a2)) (max2 (a1 * a1) (a2 * a2)), [(2, pRPair ((0 : Int) : Rat) (max2 (a1 * a1) (a2 * a2)))]⟩]) (A1 := [⟨some 1, 21, 3, 0, True⟩]) (G1 := [⟨none, none, 19, pB true⟩, ⟨some 0, none, 20, pRef ((0 : Int) : Rat)⟩]) (V2 := [⟨1, 1, none, none, .ptr, 39, 6, true, pRPair a1 a2, []⟩, ⟨2, 2, none, none, .ptr, 39, 6, true, pAny, []⟩, ⟨3, 3, none, none, .ptr, 39, 6, true, pRPair ((0 : Int) : Rat) (max2 (a1 * a1) (a2 * a2)), []⟩]) (G2 := []) hI rfl rfl rfl [0, 1, 3] (by kernel_rfl) (by kernel_rfl) ?_ [0, 1, 2] [] rfl rfl fun a w hI => ?_
  · exact ⟨op_call1 (fun _ _ => by kernel_rfl) (numlike_ref _) (.const _) (.here 1 rfl) (cn_int 0 (by omega) (by omega)),
      op_field 2 rfl rfl rfl 0 rfl rfl rfl rfl (.inl ⟨rfl, rfl⟩) rfl (by kernel_rfl) (fun b w => fa_S_0 b 0 w),
      op_storeAl 2 rfl 0 rfl rfl rfl rfl rfl trivial rfl rfl (by kernel_rfl) 0 rfl (by kernel_rfl) (by kernel_rfl) ty_R rfl rfl (.tmp 1 rfl rfl) (fits_ref _) (fd_set (fs := [⟨true, 3, pRef (min2 (a1 * a1) (a2 * a2))⟩, ⟨true, 3, pRef (max2 (a1 * a1) (a2 * a2))⟩]) 0 (f := ⟨true, 3, pRef (min2 (a1 * a1) (a2 * a2))⟩) rfl (off := 0) rfl rfl),
      trivial⟩
  refine then_of ?_
  refine seq_text (V1 := [⟨1, 1, none, none, .ptr, 39, 6, true, pRPair a1 a2, []⟩, ⟨2, 2, none, none, .ptr, 39, 6, true, pAny, [(1, pRPair ((0 : Int) : Rat) (max2 (a1 * a1) (a2 * a2)))]⟩, ⟨3, 3, none, none, .ptr, 39, 6, true, pRPair ((0 : Int) : Rat) (max2 (a1 * a1) (a2 * a2)), []⟩]) (A1 := []) (G1 := [⟨some 0, none, 22, pRPair ((0 : Int) : Rat) (max2 (a1 * a1) (a2 * a2))⟩]) (V2 := [⟨1, 1, none, none, .ptr, 39, 6, true, pRPair a1 a2, []⟩, ⟨2, 2, none, none, .ptr, 39, 6, true, pRPair ((0 : Int) : Rat) (max2 (a1 * a1) (a2 * a2)), []⟩, ⟨3, 3, none, none, .ptr, 39, 6, true, pRPair ((0 : Int) : Rat) (max2 (a1 * a1) (a2 * a2)), []⟩]) (G2 := []) hI rfl rfl rfl [0, 1] (by kernel_rfl) (by kernel_rfl) ?_ [0, 1, 2] [] rfl rfl fun a w hI => ?_
  · exact ⟨op_load 2 rfl rfl rfl rfl (by kernel_rfl) ty_S rfl (.here 0 rfl),
      op_store 1 rfl rfl rfl rfl 0 rfl (by kernel_rfl) (by kernel_rfl) ty_S (.tmp 0 rfl rfl) (fits_rpair _ _),
      trivial⟩
  refine wp_ret ?_
  exact fin1 hI rfl (.cell 1 rfl rfl rfl rfl ty_S rfl)
set_option maxRecDepth 100000 in
theorem nr_square_out {a1 a2 : Rat} {j : Nat} (ha : BdR j a1 ∧ BdR j a2) (hj : (j + j) + (j + j) + (j + j) + (j + j) + 1 ≤ 10000000) (h64 : 64 ≤ j) (hz : ¬ (a1 ≤ 0 ∧ 0 ≤ a2)) : ∀ (M : Nat → Nat → Prop) (w : World) (v0 : Value), Mid M w → Box M (fun w => (pRPair a1 a2) w v0) w → Calls Tryz.prog 27 #[v0] w (RetB M (pRPair (min2 (a1 * a1) (a2 * a2)) (max2 (a1 * a1) (a2 * a2))) w) := by
  intro M w0 v0 hM hv0
  have B1 : BdR 64 ((0 : Int) : Rat) := BdR.mono (bd_int (by omega) (by omega)) (by omega)
  refine calls_start (N := 23) Tryz.func27 rfl rfl rfl hM (show EntsA M w0 [v0] [⟨none, none, 0, pRPair a1 a2⟩] from ⟨⟨rfl, _, rfl, hv0⟩, trivial⟩) fun a hI => ?_
  refine seq_text (V1 := [⟨1, 1, some 0, none, .ptr, 39, 6, true, pRPair a1 a2, []⟩, ⟨2, 2, some 1, none, .ptr, 39, 6, true, pAny, []⟩]) (A1 := []) (G1 := [⟨none, none, 0, pRPair a1 a2⟩]) (V2 := [⟨1, 1, none, none, .ptr, 39, 6, true, pRPair a1 a2, []⟩, ⟨2, 2, none, none, .ptr, 39, 6, true, pAny, []⟩]) (G2 := []) hI rfl rfl rfl [0, 1] (by kernel_rfl) (by kernel_rfl) ?_ [0, 1] [] rfl rfl fun a w hI => ?_
  · exact ⟨op_box 0 rfl rfl (by kernel_rfl) (by kernel_rfl) rfl rfl rfl (.tmp 0 rfl rfl) (fits_rpair _ _) rfl,
      op_alloc 1 rfl rfl (by kernel_rfl) (by kernel_rfl) rfl rfl rfl zv_S rfl rfl (by simp [NoU]) (fun _ => trivial),
      trivial⟩
  refine seq_drawn (V1 := [⟨1, 1, none, none, .ptr, 39, 6, true, pRPair a1 a2, []⟩, ⟨2, 2, none, none, .ptr, 39, 6, true, pAny, []⟩, ⟨3, 3, some 13, none, .ptr, 39, 6, true, pAny, [(14, pRPair (min2 (a1 * a1) (a2 * a2)) (max2 (a1 * a1) (a2 * a2)))]⟩]) (A1 := [⟨some 0, 4, 1, 0, True⟩, ⟨some 2, 6, 1, 0, True⟩, ⟨some 6, 10, 1, 3, True⟩, ⟨some 8, 12, 1, 3, True⟩]) (G1 := [⟨some 1, none, 5, pRef a1⟩, ⟨some 3, none, 7, pRef a1⟩, ⟨some 4, none, 8, pRef (a1 * a1)⟩, ⟨some 5, none, 9, pRPair (a1 * a1) (a1 * a1)⟩, ⟨some 7, none, 11, pRef a2⟩, ⟨some 9, none, 13, pRef a2⟩, ⟨some 10, none, 14, pRef (a2 * a2)⟩, ⟨some 11, none, 15, pRPair (a2 * a2) (a2 * a2)⟩, ⟨some 12, none, 16, pRPair (min2 (a1 * a1) (a2 * a2)) (max2 (a1 * a1) (a2 * a2))⟩]) (V2 := [⟨1, 1, none, none, .ptr, 39, 6, true, pRPair a1 a2, []⟩, ⟨2, 2, none, none, .ptr, 39, 6, true, pAny, []⟩, ⟨3, 3, none, none, .ptr, 39, 6, true, pRPair (min2 (a1 * a1) (a2 * a2)) (max2 (a1 * a1) (a2 * a2)), []⟩]) (G2 := []) hI rfl rfl rfl [0, 1, 0, 4, 15, 31, 0, 64, 0, 256, 1023, 2047, 4095, 0, 16383] (by kernel_rfl) (by kernel_rfl) (by kernel_rfl) (by kernel_rfl) ?_ [0, 1, 2] [] rfl rfl fun a w hI => ?_
  · exact ⟨op_field 0 rfl rfl rfl 0 rfl rfl rfl rfl (.inl ⟨rfl, rfl⟩) rfl (by kernel_rfl) (fun b w => fa_S_0 b 0 w),
      op_loadAl 0 rfl 0 rfl rfl rfl rfl rfl trivial rfl rfl (by kernel_rfl) ty_R rfl rfl (fd_get (fs := [⟨true, 3, pRef a1⟩, ⟨true, 3, pRef a2⟩]) 0 (f := ⟨true, 3, pRef a1⟩) rfl (off := 0) rfl) (.here 0 rfl),
      op_field 0 rfl rfl rfl 1 rfl rfl rfl rfl (.inl ⟨rfl, rfl⟩) rfl (by kernel_rfl) (fun b w => fa_S_0 b 0 w),
      op_loadAl 0 rfl 1 rfl rfl rfl rfl rfl trivial rfl rfl (by kernel_rfl) ty_R rfl rfl (fd_get (fs := [⟨true, 3, pRef a1⟩, ⟨true, 3, pRef a2⟩]) 0 (f := ⟨true, 3, pRef a1⟩) rfl (off := 0) rfl) (.here 1 rfl),
      op_call2 (fun _ _ => by kernel_rfl) (numlike_ref _) (.tmp 0 rfl rfl) (.tmp 1 rfl rfl) (.here 2 rfl) (cn_mul ha.1 ha.1 (by omega)),
      op_callB1 (fun _ _ => by kernel_rfl) (.tmp 2 rfl rfl) (.here 3 rfl) (nr_only _),
      op_field 0 rfl rfl rfl 2 rfl rfl rfl rfl (.inl ⟨rfl, rfl⟩) rfl (by kernel_rfl) (fun b w => fa_S_1 b 0 w),
      op_loadAl 0 rfl 2 rfl rfl rfl rfl rfl trivial rfl rfl (by kernel_rfl) ty_R rfl rfl (fd_get (fs := [⟨true, 3, pRef a1⟩, ⟨true, 3, pRef a2⟩]) 1 (f := ⟨true, 3, pRef a2⟩) rfl (off := 3) rfl) (.here 4 rfl),
      op_field 0 rfl rfl rfl 3 rfl rfl rfl rfl (.inl ⟨rfl, rfl⟩) rfl (by kernel_rfl) (fun b w => fa_S_1 b 0 w),
      op_loadAl 0 rfl 3 rfl rfl rfl rfl rfl trivial rfl rfl (by kernel_rfl) ty_R rfl rfl (fd_get (fs := [⟨true, 3, pRef a1⟩, ⟨true, 3, pRef a2⟩]) 1 (f := ⟨true, 3, pRef a2⟩) rfl (off := 3) rfl) (.here 5 rfl),
      op_call2 (fun _ _ => by kernel_rfl) (numlike_ref _) (.tmp 4 rfl rfl) (.tmp 5 rfl rfl) (.here 6 rfl) (cn_mul ha.2 ha.2 (by omega)),
      op_callB1 (fun _ _ => by kernel_rfl) (.tmp 6 rfl rfl) (.here 7 rfl) (nr_only _),
      op_callB2 (fun _ _ => by kernel_rfl) (.tmp 3 rfl rfl) (.tmp 7 rfl rfl) (.here 8 rfl) (nr_hull ⟨((ha.1).mul ha.1), ((ha.1).mul ha.1)⟩ ⟨((ha.2).mul ha.2), ((ha.2).mul ha.2)⟩ (by omega)),
      op_alloc 2 rfl rfl (by kernel_rfl) (by kernel_rfl) rfl rfl rfl zv_S rfl rfl (by simp [NoU]) (fun _ => trivial),
      op_store 2 rfl rfl rfl rfl 0 rfl (by kernel_rfl) (by kernel_rfl) ty_S (.tmp 8 rfl rfl) (fits_rpair _ _),
      trivial⟩
  refine wp_seq ?_
  refine seq_drawn (V1 := [⟨1, 1, none, none, .ptr, 39, 6, true, pRPair a1 a2, []⟩, ⟨2, 2, none, none, .ptr, 39, 6, true, pAny, []⟩, ⟨3, 3, none, none, .ptr, 39, 6, true, pRPair (min2 (a1 * a1) (a2 * a2)) (max2 (a1 * a1) (a2 * a2)), []⟩]) (A1 := []) (G1 := [⟨some 0, none, 17, pRPair a1 a2⟩, ⟨some 1, none, 18, pRef ((0 : Int) : Rat)⟩, ⟨some 2, none, 19, pB false⟩]) (V2 := [⟨1, 1, none, none, .ptr, 39, 6, true, pRPair a1 a2, []⟩, ⟨2, 2, none, none, .ptr, 39, 6, true, pAny, []⟩, ⟨3, 3, none, none, .ptr, 39, 6, true, pRPair (min2 (a1 * a1) (a2 * a2)) (max2 (a1 * a1) (a2 * a2)), []⟩]) (G2 := [⟨none, none, 19, pB false⟩]) hI rfl rfl rfl [0, 0, 3] (by kernel_rfl) (by kernel_rfl) (by kernel_rfl) (by kernel_rfl) ?_ [0, 1, 2] [2] rfl rfl fun a w hI => ?_
  · exact ⟨op_load 0 rfl rfl rfl rfl (by kernel_rfl) ty_S rfl (.here 0 rfl),
      op_call1 (fun _ _ => by kernel_rfl) (numlike_ref _) (.const _) (.here 1 rfl) (cn_int 0 (by omega) (by omega)),
      op_callB2 (fun _ _ => by kernel_rfl) (.tmp 0 rfl rfl) (.tmp 1 rfl rfl) (.here 2 rfl) (cb_known2 (b := false) (nr_has (j := j) (k := 64) ⟨ha.1, ha.2⟩ B1 (by omega)) (by rw [← Bool.decide_and]; exact decide_eq_false hz)),
      trivial⟩
  refine cond_no hI 0 rfl ?_
  refine wp_skip ?_
  refine then_of ?_
  refine seq_text (V1 := [⟨1, 1, none, none, .ptr, 39, 6, true, pRPair a1 a2, []⟩, ⟨2, 2, none, none, .ptr, 39, 6, true, pAny, [(1, pRPair (min2 (a1 * a1) (a2 * a2)) (max2 (a1 * a1) (a2 * a2)))]⟩, ⟨3, 3, none, none, .ptr, 39, 6, true, pRPair (min2 (a1 * a1) (a2 * a2)) (max2 (a1 * a1) (a2 * a2)), []⟩]) (A1 := []) (G1 := [⟨none, none, 19, pB false⟩, ⟨some 0, none, 22, pRPair (min2 (a1 * a1) (a2 * a2)) (max2 (a1 * a1) (a2 * a2))⟩]) (V2 := [⟨1, 1, none, none, .ptr, 39, 6, true, pRPair a1 a2, []⟩, ⟨2, 2, none, none, .ptr, 39, 6, true, pRPair (min2 (a1 * a1) (a2 * a2)) (max2 (a1 * a1) (a2 * a2)), []⟩, ⟨3, 3, none, none, .ptr, 39, 6, true, pRPair (min2 (a1 * a1) (a2 * a2)) (max2 (a1 * a1) (a2 * a2)), []⟩]) (G2 := []) hI rfl rfl rfl [0, 1] (by kernel_rfl) (by kernel_rfl) ?_ [0, 1, 2] [] rfl rfl fun a w hI => ?_
  · exact ⟨op_load 2 rfl rfl rfl rfl (by kernel_rfl) ty_S rfl (.here 1 rfl),
      op_store 1 rfl rfl rfl rfl 0 rfl (by kernel_rfl) (by kernel_rfl) ty_S (.tmp 1 rfl rfl) (fits_rpair _ _),
      trivial⟩
  refine wp_ret ?_
  exact fin1 hI rfl (.cell 1 rfl rfl rfl rfl ty_S rfl)
set_option maxRecDepth 100000 in
theorem nr_div_zero {a1 a2 b1 b2 : Rat} {j k : Nat} (ha : BdR j a1 ∧ BdR j a2) (hb : BdR k b1 ∧ BdR k b2) (hj : (j + (64 + k)) + (j + (64 + k)) + (j + (64 + k)) + (j + (64 + k)) + 1 ≤ 10000000) (hz : b1 ≤ 0 ∧ 0 ≤ b2) : ∀ (M : Nat → Nat → Prop) (w : World) (v0 v1 : Value), Mid M w → Box M (fun w => (pRPair a1 a2) w v0) w → Box M (fun w => (pRPair b1 b2) w v1) w → Calls Tryz.prog 29 #[v0, v1] w (RetB M (pTup2 (pRPair 0 0) (pI 3)) w) := by
  intro M w0 v0 v1 hM hv0 hv1
  have B1 : BdR 64 ((0 : Int) : Rat) := BdR.mono (bd_int (by omega) (by omega)) (by omega)
  have B2 : BdR 64 ((0 : Int) : Rat) := BdR.mono (bd_int (by omega) (by omega)) (by omega)
  refine calls_start (N := 34) Tryz.func29 rfl rfl rfl hM (show EntsA M w0 [v0, v1] [⟨none, none, 0, pRPair a1 a2⟩, ⟨none, none, 1, pRPair b1 b2⟩] from ⟨⟨rfl, _, rfl, hv0⟩, ⟨rfl, _, rfl, hv1⟩, trivial⟩) fun a hI => ?_
  refine seq_text (V1 := [⟨2, 2, some 0, none, .ptr, 39, 6, true, pRPair a1 a2, []⟩, ⟨3, 3, some 1, none, .ptr, 39, 6, true, pRPair b1 b2, []⟩, ⟨4, 4, some 2, none, .ptr, 39, 6, true, pAny, []⟩]) (A1 := []) (G1 := [⟨none, none, 0, pRPair a1 a2⟩, ⟨none, none, 1, pRPair b1 b2⟩, ⟨some 3, none, 5, pI 0⟩]) (V2 := [⟨2, 2, none, none, .ptr, 39, 6, true, pRPair a1 a2, []⟩, ⟨3, 3, none, none, .ptr, 39, 6, true, pRPair b1 b2, []⟩, ⟨4, 4, none, none, .ptr, 39, 6, true, pAny, []⟩]) (G2 := [⟨none, none, 5, pI 0⟩]) hI rfl rfl rfl [0, 1, 3, 7] (by kernel_rfl) (by kernel_rfl) ?_ [0, 1, 2] [2] rfl rfl fun a w hI => ?_
  · exact ⟨op_box 0 rfl rfl (by kernel_rfl) (by kernel_rfl) rfl rfl rfl (.tmp 0 rfl rfl) (fits_rpair _ _) rfl,
      op_box 1 rfl rfl (by kernel_rfl) (by kernel_rfl) rfl rfl rfl (.tmp 1 rfl rfl) (fits_rpair _ _) rfl,
      op_alloc 2 rfl rfl (by kernel_rfl) (by kernel_rfl) rfl rfl rfl zv_S rfl rfl (by simp [NoU]) (fun _ => trivial),
      op_assign (.const _) (.here 2 rfl),
      trivial⟩
  refine wp_seq ?_
  refine seq_drawn (V1 := [⟨2, 2, none, none, .ptr, 39, 6, true, pRPair a1 a2, []⟩, ⟨3, 3, none, none, .ptr, 39, 6, true, pRPair b1 b2, []⟩, ⟨4, 4, none, none, .ptr, 39, 6, true, pAny, []⟩]) (A1 := []) (G1 := [⟨none, none, 5, pI 0⟩, ⟨some 0, none, 10, pRPair b1 b2⟩, ⟨some 1, none, 11, pRef ((0 : Int) : Rat)⟩, ⟨some 2, none, 12, pB true⟩]) (V2 := [⟨2, 2, none, none, .ptr, 39, 6, true, pRPair a1 a2, []⟩, ⟨3, 3, none, none, .ptr, 39, 6, true, pRPair b1 b2, []⟩, ⟨4, 4, none, none, .ptr, 39, 6, true, pAny, []⟩]) (G2 := [⟨none, none, 5, pI 0⟩, ⟨none, none, 12, pB true⟩]) hI rfl rfl rfl [0, 0, 3] (by kernel_rfl) (by kernel_rfl) (by kernel_rfl) (by kernel_rfl) ?_ [0, 1, 2] [0, 3] rfl rfl fun a w hI => ?_
  · exact ⟨op_load 1 rfl rfl rfl rfl (by kernel_rfl) ty_S rfl (.here 1 rfl),
      op_call1 (fun _ _ => by kernel_rfl) (numlike_ref _) (.const _) (.here 2 rfl) (cn_int 0 (by omega) (by omega)),
      op_callB2 (fun _ _ => by kernel_rfl) (.tmp 1 rfl rfl) (.tmp 2 rfl rfl) (.here 3 rfl) (cb_known2 (b := true) (nr_has (j := k) (k := 64) ⟨hb.1, hb.2⟩ B1 (by omega)) (by rw [← Bool.decide_and]; exact decide_eq_true hz)),
      trivial⟩
  refine cond_yes hI 1 rfl ?_
  refine seq_text (V1 := [⟨2, 2, none, none, .ptr, 39, 6, true, pRPair a1 a2, []⟩, ⟨3, 3, none, none, .ptr, 39, 6, true, pRPair b1 b2, []⟩, ⟨4, 4, none, none, .ptr, 39, 6, true, pAny, [(2, pRPair ((0 : Int) : Rat) ((0 : Int) : Rat))]⟩]) (A1 := []) (G1 := [⟨none, some 3, 5, pI 0⟩, ⟨none, none, 12, pB true⟩, ⟨some 0, none, 13, pRef ((0 : Int) : Rat)⟩, ⟨some 1, none, 14, pRPair ((0 : Int) : Rat) ((0 : Int) : Rat)⟩, ⟨some 3, none, 5, pI 3⟩]) (V2 := [⟨2, 2, none, none, .ptr, 39, 6, true, pRPair a1 a2, []⟩, ⟨3, 3, none, none, .ptr, 39, 6, true, pRPair b1 b2, []⟩, ⟨4, 4, none, none, .ptr, 39, 6, true, pRPair ((0 : Int) : Rat) ((0 : Int) : Rat), []⟩]) (G2 := [⟨none, none, 5, pI 3⟩]) hI rfl rfl rfl [0, 1, 3, 7] (by kernel_rfl) (by kernel_rfl) ?_ [0, 1, 2] [3] rfl rfl fun a w hI => ?_
  · exact ⟨op_call1 (fun _ _ => by kernel_rfl) (numlike_ref _) (.const _) (.here 2 rfl) (cn_int 0 (by omega) (by omega)),
      op_callB1 (fun _ _ => by kernel_rfl) (.tmp 2 rfl rfl) (.here 3 rfl) (nr_only _),
      op_store 2 rfl rfl rfl rfl 0 rfl (by kernel_rfl) (by kernel_rfl) ty_S (.tmp 3 rfl rfl) (fits_rpair _ _),
      op_assign (.const _) (.here 4 rfl),
      trivial⟩
  refine wp_ret ?_
  refine then_ret ?_
  exact fin2 hI rfl (.cell 2 rfl rfl rfl rfl ty_S rfl) (.tmp 0 rfl)
set_option maxRecDepth 100000 in
theorem nr_div_ok {a1 a2 b1 b2 : Rat} {j k : Nat} (ha : BdR j a1 ∧ BdR j a2) (hb : BdR k b1 ∧ BdR k b2) (hj : (j + (64 + k)) + (j + (64 + k)) + (j + (64 + k)) + (j + (64 + k)) + 1 ≤ 10000000) (hz : ¬ (b1 ≤ 0 ∧ 0 ≤ b2)) (h1 : b1 ≠ 0) (h2 : b2 ≠ 0) : ∀ (M : Nat → Nat → Prop) (w : World) (v0 v1 : Value), Mid M w → Box M (fun w => (pRPair a1 a2) w v0) w → Box M (fun w => (pRPair b1 b2) w v1) w → Calls Tryz.prog 29 #[v0, v1] w (RetB M (pTup2 (pRPair (min4 (a1 / b1) (a1 / b2) (a2 / b1) (a2 / b2)) (max4 (a1 / b1) (a1 / b2) (a2 / b1) (a2 / b2))) (pI 0)) w) := by
  intro M w0 v0 v1 hM hv0 hv1
  have B1 : BdR 64 ((0 : Int) : Rat) := BdR.mono (bd_int (by omega) (by omega)) (by omega)
  have B2 : BdR 64 ((1 : Int) : Rat) := BdR.mono (bd_int (by omega) (by omega)) (by omega)
  have B3 : BdR 64 ((1 : Int) : Rat) := BdR.mono (bd_int (by omega) (by omega)) (by omega)
  refine calls_start (N := 34) Tryz.func29 rfl rfl rfl hM (show EntsA M w0 [v0, v1] [⟨none, none, 0, pRPair a1 a2⟩, ⟨none, none, 1, pRPair b1 b2⟩] from ⟨⟨rfl, _, rfl, hv0⟩, ⟨rfl, _, rfl, hv1⟩, trivial⟩) fun a hI => ?_
  refine seq_text (V1 := [⟨2, 2, some 0, none, .ptr, 39, 6, true, pRPair a1 a2, []⟩, ⟨3, 3, some 1, none, .ptr, 39, 6, true, pRPair b1 b2, []⟩, ⟨4, 4, some 2, none, .ptr, 39, 6, true, pAny, []⟩]) (A1 := []) (G1 := [⟨none, none, 0, pRPair a1 a2⟩, ⟨none, none, 1, pRPair b1 b2⟩, ⟨some 3, none, 5, pI 0⟩]) (V2 := [⟨2, 2, none, none, .ptr, 39, 6, true, pRPair a1 a2, []⟩, ⟨3, 3, none, none, .ptr, 39, 6, true, pRPair b1 b2, []⟩, ⟨4, 4, none, none, .ptr, 39, 6, true, pAny, []⟩]) (G2 := [⟨none, none, 5, pI 0⟩]) hI rfl rfl rfl [0, 1, 3, 7] (by kernel_rfl) (by kernel_rfl) ?_ [0, 1, 2] [2] rfl rfl fun a w hI => ?_
  · exact ⟨op_box 0 rfl rfl (by kernel_rfl) (by kernel_rfl) rfl rfl rfl (.tmp 0 rfl rfl) (fits_rpair _ _) rfl,
      op_box 1 rfl rfl (by kernel_rfl) (by kernel_rfl) rfl rfl rfl (.tmp 1 rfl rfl) (fits_rpair _ _) rfl,
      op_alloc 2 rfl rfl (by kernel_rfl) (by kernel_rfl) rfl rfl rfl zv_S rfl rfl (by simp [NoU]) (fun _ => trivial),
      op_assign (.const _) (.here 2 rfl),
      trivial⟩
  refine wp_seq ?_
  refine seq_drawn (V1 := [⟨2, 2, none, none, .ptr, 39, 6, true, pRPair a1 a2, []⟩, ⟨3, 3, none, none, .ptr, 39, 6, true, pRPair b1 b2, []⟩, ⟨4, 4, none, none, .ptr, 39, 6, true, pAny, []⟩]) (A1 := []) (G1 := [⟨none, none, 5, pI 0⟩, ⟨some 0, none, 10, pRPair b1 b2⟩, ⟨some 1, none, 11, pRef ((0 : Int) : Rat)⟩, ⟨some 2, none, 12, pB false⟩]) (V2 := [⟨2, 2, none, none, .ptr, 39, 6, true, pRPair a1 a2, []⟩, ⟨3, 3, none, none, .ptr, 39, 6, true, pRPair b1 b2, []⟩, ⟨4, 4, none, none, .ptr, 39, 6, true, pAny, []⟩]) (G2 := [⟨none, none, 5, pI 0⟩, ⟨none, none, 12, pB false⟩]) hI rfl rfl rfl [0, 0, 3] (by kernel_rfl) (by kernel_rfl) (by kernel_rfl) (by kernel_rfl) ?_ [0, 1, 2] [0, 3] rfl rfl fun a w hI => ?_
  · exact ⟨op_load 1 rfl rfl rfl rfl (by kernel_rfl) ty_S rfl (.here 1 rfl),
      op_call1 (fun _ _ => by kernel_rfl) (numlike_ref _) (.const _) (.here 2 rfl) (cn_int 0 (by omega) (by omega)),
      op_callB2 (fun _ _ => by kernel_rfl) (.tmp 1 rfl rfl) (.tmp 2 rfl rfl) (.here 3 rfl) (cb_known2 (b := false) (nr_has (j := k) (k := 64) ⟨hb.1, hb.2⟩ B1 (by omega)) (by rw [← Bool.decide_and]; exact decide_eq_false hz)),
      trivial⟩
  refine cond_no hI 1 rfl ?_
  refine wp_skip ?_
  refine then_of ?_
  refine seq_drawn (V1 := [⟨2, 2, none, none, .ptr, 39, 6, true, pRPair a1 a2, []⟩, ⟨3, 3, none, none, .ptr, 39, 6, true, pRPair b1 b2, []⟩, ⟨4, 4, none, none, .ptr, 39, 6, true, pAny, []⟩, ⟨6, 6, some 7, none, .ptr, 37, 3, true, pAny, [(8, pRef (((1 : Int) : Rat) / b2))]⟩]) (A1 := [⟨some 1, 17, 3, 3, True⟩]) (G1 := [⟨none, none, 5, pI 0⟩, ⟨none, none, 12, pB false⟩, ⟨some 0, none, 16, pRef ((1 : Int) : Rat)⟩, ⟨some 2, none, 18, pRef b2⟩, ⟨some 3, none, 19, pTup2 (pRef (((1 : Int) : Rat) / b2)) (pI 0)⟩, ⟨some 4, none, 15, pTup2 (pRef (((1 : Int) : Rat) / b2)) (pI 0)⟩, ⟨some 5, none, 20, pRef (((1 : Int) : Rat) / b2)⟩, ⟨some 6, none, 21, pI 0⟩, ⟨some 9, none, 7, pI 0⟩]) (V2 := [⟨2, 2, none, none, .ptr, 39, 6, true, pRPair a1 a2, []⟩, ⟨3, 3, none, none, .ptr, 39, 6, true, pRPair b1 b2, []⟩, ⟨4, 4, none, none, .ptr, 39, 6, true, pAny, []⟩, ⟨6, 6, none, none, .ptr, 37, 3, true, pRef (((1 : Int) : Rat) / b2), []⟩]) (G2 := [⟨none, none, 5, pI 0⟩]) hI rfl rfl rfl [0, 0, 2, 7, 15, 31, 31, 0, 191, 511] (by kernel_rfl) (by kernel_rfl) (by kernel_rfl) (by kernel_rfl) ?_ [0, 1, 2, 3] [0] rfl rfl fun a w hI => ?_
  · exact ⟨op_call1 (fun _ _ => by kernel_rfl) (numlike_ref _) (.const _) (.here 2 rfl) (cn_int 1 (by omega) (by omega)),
      op_field 1 rfl rfl rfl 0 rfl rfl rfl rfl (.inl ⟨rfl, rfl⟩) rfl (by kernel_rfl) (fun b w => fa_S_1 b 0 w),
      op_loadAl 1 rfl 0 rfl rfl rfl rfl rfl trivial rfl rfl (by kernel_rfl) ty_R rfl rfl (fd_get (fs := [⟨true, 3, pRef b1⟩, ⟨true, 3, pRef b2⟩]) 1 (f := ⟨true, 3, pRef b2⟩) rfl (off := 3) rfl) (.here 3 rfl),
      op_call2 (fun _ _ => by kernel_rfl) (numlike_tup2 (numlike_ref _) (numlike_eq _)) (.tmp 2 rfl rfl) (.tmp 3 rfl rfl) (.here 4 rfl) (cn_div_ok B2 hb.2 (by omega) h2),
      op_move (.tmp 4 rfl rfl) (.here 5 rfl),
      op_extract (.tmp 5 rfl rfl) ex2_0 (.here 6 rfl),
      op_extract (.tmp 5 rfl rfl) ex2_1 (.here 7 rfl),
      op_alloc 3 rfl rfl (by kernel_rfl) (by kernel_rfl) rfl rfl rfl zv_R rfl rfl (by simp [NoU]) (fun _ => trivial),
      op_store 3 rfl rfl rfl rfl 0 rfl (by kernel_rfl) (by kernel_rfl) ty_R (.tmp 6 rfl rfl) (fits_ref _),
      op_assign (.tmp 7 rfl rfl) (.here 8 rfl),
      trivial⟩
  refine seq_drawn (V1 := [⟨2, 2, none, none, .ptr, 39, 6, true, pRPair a1 a2, []⟩, ⟨3, 3, none, none, .ptr, 39, 6, true, pRPair b1 b2, []⟩, ⟨4, 4, none, none, .ptr, 39, 6, true, pAny, []⟩, ⟨6, 6, none, none, .ptr, 37, 3, true, pRef (((1 : Int) : Rat) / b2), []⟩, ⟨8, 8, some 7, none, .ptr, 37, 3, true, pAny, [(8, pRef (((1 : Int) : Rat) / b1))]⟩]) (A1 := [⟨some 1, 24, 3, 0, True⟩]) (G1 := [⟨none, none, 5, pI 0⟩, ⟨some 0, none, 23, pRef ((1 : Int) : Rat)⟩, ⟨some 2, none, 25, pRef b1⟩, ⟨some 3, none, 26, pTup2 (pRef (((1 : Int) : Rat) / b1)) (pI 0)⟩, ⟨some 4, none, 22, pTup2 (pRef (((1 : Int) : Rat) / b1)) (pI 0)⟩, ⟨some 5, none, 27, pRef (((1 : Int) : Rat) / b1)⟩, ⟨some 6, none, 28, pI 0⟩, ⟨some 9, none, 9, pI 0⟩]) (V2 := [⟨2, 2, none, none, .ptr, 39, 6, true, pRPair a1 a2, []⟩, ⟨3, 3, none, none, .ptr, 39, 6, true, pRPair b1 b2, []⟩, ⟨4, 4, none, none, .ptr, 39, 6, true, pAny, []⟩, ⟨6, 6, none, none, .ptr, 37, 3, true, pRef (((1 : Int) : Rat) / b2), []⟩, ⟨8, 8, none, none, .ptr, 37, 3, true, pRef (((1 : Int) : Rat) / b1), []⟩]) (G2 := [⟨none, none, 5, pI 0⟩]) hI rfl rfl rfl [0, 0, 2, 7, 15, 31, 31, 0, 191, 511] (by kernel_rfl) (by kernel_rfl) (by kernel_rfl) (by kernel_rfl) ?_ [0, 1, 2, 3, 4] [0] rfl rfl fun a w hI => ?_
  · exact ⟨op_call1 (fun _ _ => by kernel_rfl) (numlike_ref _) (.const _) (.here 1 rfl) (cn_int 1 (by omega) (by omega)),
      op_field 1 rfl rfl rfl 0 rfl rfl rfl rfl (.inl ⟨rfl, rfl⟩) rfl (by kernel_rfl) (fun b w => fa_S_0 b 0 w),
      op_loadAl 1 rfl 0 rfl rfl rfl rfl rfl trivial rfl rfl (by kernel_rfl) ty_R rfl rfl (fd_get (fs := [⟨true, 3, pRef b1⟩, ⟨true, 3, pRef b2⟩]) 0 (f := ⟨true, 3, pRef b1⟩) rfl (off := 0) rfl) (.here 2 rfl),
      op_call2 (fun _ _ => by kernel_rfl) (numlike_tup2 (numlike_ref _) (numlike_eq _)) (.tmp 1 rfl rfl) (.tmp 2 rfl rfl) (.here 3 rfl) (cn_div_ok B3 hb.1 (by omega) h1),
      op_move (.tmp 3 rfl rfl) (.here 4 rfl),
      op_extract (.tmp 4 rfl rfl) ex2_0 (.here 5 rfl),
      op_extract (.tmp 4 rfl rfl) ex2_1 (.here 6 rfl),
      op_alloc 4 rfl rfl (by kernel_rfl) (by kernel_rfl) rfl rfl rfl zv_R rfl rfl (by simp [NoU]) (fun _ => trivial),
      op_store 4 rfl rfl rfl rfl 0 rfl (by kernel_rfl) (by kernel_rfl) ty_R (.tmp 5 rfl rfl) (fits_ref _),
      op_assign (.tmp 6 rfl rfl) (.here 7 rfl),
      trivial⟩
  refine seq_text (V1 := [⟨2, 2, none, none, .ptr, 39, 6, true, pRPair a1 a2, []⟩, ⟨3, 3, none, none, .ptr, 39, 6, true, pRPair b1 b2, []⟩, ⟨4, 4, none, none, .ptr, 39, 6, true, pAny, [(5, pRPair (min4 (a1 * (((1 : Int) : Rat) / b2)) (a1 * (((1 : Int) : Rat) / b1)) (a2 * (((1 : Int) : Rat) / b2)) (a2 * (((1 : Int) : Rat) / b1))) (max4 (a1 * (((1 : Int) : Rat) / b2)) (a1 * (((1 : Int) : Rat) / b1)) (a2 * (((1 : Int) : Rat) / b2)) (a2 * (((1 : Int) : Rat) / b1))))]⟩, ⟨6, 6, none, none, .ptr, 37, 3, true, pRef (((1 : Int) : Rat) / b2), []⟩, ⟨8, 8, none, none, .ptr, 37, 3, true, pRef (((1 : Int) : Rat) / b1), []⟩]) (A1 := []) (G1 := [⟨none, some 6, 5, pI 0⟩, ⟨some 0, none, 29, pRPair a1 a2⟩, ⟨some 1, none, 30, pRef (((1 : Int) : Rat) / b2)⟩, ⟨some 2, none, 31, pRef (((1 : Int) : Rat) / b1)⟩, ⟨some 3, none, 32, pRPair (((1 : Int) : Rat) / b2) (((1 : Int) : Rat) / b1)⟩, ⟨some 4, none, 33, pRPair (min4 (a1 * (((1 : Int) : Rat) / b2)) (a1 * (((1 : Int) : Rat) / b1)) (a2 * (((1 : Int) : Rat) / b2)) (a2 * (((1 : Int) : Rat) / b1))) (max4 (a1 * (((1 : Int) : Rat) / b2)) (a1 * (((1 : Int) : Rat) / b1)) (a2 * (((1 : Int) : Rat) / b2)) (a2 * (((1 : Int) : Rat) / b1)))⟩, ⟨some 6, none, 5, pI 0⟩]) (V2 := [⟨2, 2, none, none, .ptr, 39, 6, true, pRPair a1 a2, []⟩, ⟨3, 3, none, none, .ptr, 39, 6, true, pRPair b1 b2, []⟩, ⟨4, 4, none, none, .ptr, 39, 6, true, pRPair (min4 (a1 * (((1 : Int) : Rat) / b2)) (a1 * (((1 : Int) : Rat) / b1)) (a2 * (((1 : Int) : Rat) / b2)) (a2 * (((1 : Int) : Rat) / b1))) (max4 (a1 * (((1 : Int) : Rat) / b2)) (a1 * (((1 : Int) : Rat) / b1)) (a2 * (((1 : Int) : Rat) / b2)) (a2 * (((1 : Int) : Rat) / b1))), []⟩, ⟨6, 6, none, none, .ptr, 37, 3, true, pRef (((1 : Int) : Rat) / b2), []⟩, ⟨8, 8, none, none, .ptr, 37, 3, true, pRef (((1 : Int) : Rat) / b1), []⟩]) (G2 := [⟨none, none, 5, pI 0⟩]) hI rfl rfl rfl [0, 1, 3, 7, 15, 31, 63] (by kernel_rfl) (by kernel_rfl) ?_ [0, 1, 2, 3, 4] [5] rfl rfl fun a w hI => ?_
  · exact ⟨op_load 0 rfl rfl rfl rfl (by kernel_rfl) ty_S rfl (.here 1 rfl),
      op_load 3 rfl rfl rfl rfl (by kernel_rfl) ty_R rfl (.here 2 rfl),
      op_load 4 rfl rfl rfl rfl (by kernel_rfl) ty_R rfl (.here 3 rfl),
      op_build (fs := [⟨true, 3, pAny⟩, ⟨true, 3, pAny⟩]) (ps := [(0, pRef (((1 : Int) : Rat) / b2)), (1, pRef (((1 : Int) : Rat) / b1))]) bt_S (places_ok (by kernel_rfl)) (cells_any2) (show HasParts _ _ _ _ _ _ from ⟨⟨rfl, (.tmp 2 rfl rfl), _, rfl, fits_ref _⟩, ⟨rfl, (.tmp 3 rfl rfl), _, rfl, fits_ref _⟩, trivial⟩) rfl (.here 4 rfl),
      op_callB2 (fun _ _ => by kernel_rfl) (.tmp 1 rfl rfl) (.tmp 4 rfl rfl) (.here 5 rfl) (nr_mul ⟨ha.1, ha.2⟩ ⟨((B2).quo hb.2), ((B3).quo hb.1)⟩ (by omega)),
      op_store 2 rfl rfl rfl rfl 0 rfl (by kernel_rfl) (by kernel_rfl) ty_S (.tmp 5 rfl rfl) (fits_rpair _ _),
      op_assign (.const _) (.here 6 rfl),
      trivial⟩
  refine wp_ret ?_
  exact fin2 hI rfl (.imp (.cell 2 rfl rfl rfl rfl ty_S rfl) (pRefPair_eq (div_lo _ _ _ _) (div_hi _ _ _ _))) (.tmp 0 rfl)
set_option maxRecDepth 100000 in
theorem nr_meet_none {a1 a2 b1 b2 : Rat} {j : Nat} (ha : BdR j a1 ∧ BdR j a2) (hb : BdR j b1 ∧ BdR j b2) (hj : j + j + j + j + 1 ≤ 10000000) (hz : min2 a2 b2 < max2 a1 b1) : ∀ (M : Nat → Nat → Prop) (w : World) (v0 v1 : Value), Mid M w → Box M (fun w => (pRPair a1 a2) w v0) w → Box M (fun w => (pRPair b1 b2) w v1) w → Calls Tryz.prog 31 #[v0, v1] w (RetB M (pTup2 (pRPair ((0 : Int) : Rat) ((0 : Int) : Rat)) (pI 5)) w) := by
  intro M w0 v0 v1 hM hv0 hv1
  have B1 : BdR 64 ((0 : Int) : Rat) := BdR.mono (bd_int (by omega) (by omega)) (by omega)
  refine calls_start (N := 27) Tryz.func31 rfl rfl rfl hM (show EntsA M w0 [v0, v1] [⟨none, none, 0, pRPair a1 a2⟩, ⟨none, none, 1, pRPair b1 b2⟩] from ⟨⟨rfl, _, rfl, hv0⟩, ⟨rfl, _, rfl, hv1⟩, trivial⟩) fun a hI => ?_
  refine seq_text (V1 := [⟨2, 2, some 0, none, .ptr, 39, 6, true, pRPair a1 a2, []⟩, ⟨3, 3, some 1, none, .ptr, 39, 6, true, pRPair b1 b2, []⟩, ⟨4, 4, some 2, none, .ptr, 39, 6, true, pAny, []⟩]) (A1 := []) (G1 := [⟨none, none, 0, pRPair a1 a2⟩, ⟨none, none, 1, pRPair b1 b2⟩, ⟨some 3, none, 5, pI 0⟩]) (V2 := [⟨2, 2, none, none, .ptr, 39, 6, true, pRPair a1 a2, []⟩, ⟨3, 3, none, none, .ptr, 39, 6, true, pRPair b1 b2, []⟩, ⟨4, 4, none, none, .ptr, 39, 6, true, pAny, []⟩]) (G2 := [⟨none, none, 5, pI 0⟩]) hI rfl rfl rfl [0, 1, 3, 7] (by kernel_rfl) (by kernel_rfl) ?_ [0, 1, 2] [2] rfl rfl fun a w hI => ?_
  · exact ⟨op_box 0 rfl rfl (by kernel_rfl) (by kernel_rfl) rfl rfl rfl (.tmp 0 rfl rfl) (fits_rpair _ _) rfl,
      op_box 1 rfl rfl (by kernel_rfl) (by kernel_rfl) rfl rfl rfl (.tmp 1 rfl rfl) (fits_rpair _ _) rfl,
      op_alloc 2 rfl rfl (by kernel_rfl) (by kernel_rfl) rfl rfl rfl zv_S rfl rfl (by simp [NoU]) (fun _ => trivial),
      op_assign (.const _) (.here 2 rfl),
      trivial⟩
  refine seq_drawn (V1 := [⟨2, 2, none, none, .ptr, 39, 6, true, pRPair a1 a2, []⟩, ⟨3, 3, none, none, .ptr, 39, 6, true, pRPair b1 b2, []⟩, ⟨4, 4, none, none, .ptr, 39, 6, true, pAny, []⟩, ⟨6, 6, some 10, none, .ptr, 37, 3, true, pAny, [(12, pRef (max2 a1 b1))]⟩, ⟨7, 7, some 11, none, .ptr, 37, 3, true, pAny, [(13, pRef (min2 a2 b2))]⟩]) (A1 := [⟨some 0, 8, 2, 0, True⟩, ⟨some 2, 10, 3, 0, True⟩, ⟨some 5, 13, 2, 3, True⟩, ⟨some 7, 15, 3, 3, True⟩]) (G1 := [⟨none, none, 5, pI 0⟩, ⟨some 1, none, 9, pRef a1⟩, ⟨some 3, none, 11, pRef b1⟩, ⟨some 4, none, 12, pRef (max2 a1 b1)⟩, ⟨some 6, none, 14, pRef a2⟩, ⟨some 8, none, 16, pRef b2⟩, ⟨some 9, none, 17, pRef (min2 a2 b2)⟩]) (V2 := [⟨2, 2, none, none, .ptr, 39, 6, true, pRPair a1 a2, []⟩, ⟨3, 3, none, none, .ptr, 39, 6, true, pRPair b1 b2, []⟩, ⟨4, 4, none, none, .ptr, 39, 6, true, pAny, []⟩, ⟨6, 6, none, none, .ptr, 37, 3, true, pRef (max2 a1 b1), []⟩, ⟨7, 7, none, none, .ptr, 37, 3, true, pRef (min2 a2 b2), []⟩]) (G2 := [⟨none, none, 5, pI 0⟩]) hI rfl rfl rfl [0, 1, 0, 4, 15, 0, 32, 0, 128, 511, 0, 0, 4095, 8191] (by kernel_rfl) (by kernel_rfl) (by kernel_rfl) (by kernel_rfl) ?_ [0, 1, 2, 3, 4] [0] rfl rfl fun a w hI => ?_
  · exact ⟨op_field 0 rfl rfl rfl 0 rfl rfl rfl rfl (.inl ⟨rfl, rfl⟩) rfl (by kernel_rfl) (fun b w => fa_S_0 b 0 w),
      op_loadAl 0 rfl 0 rfl rfl rfl rfl rfl trivial rfl rfl (by kernel_rfl) ty_R rfl rfl (fd_get (fs := [⟨true, 3, pRef a1⟩, ⟨true, 3, pRef a2⟩]) 0 (f := ⟨true, 3, pRef a1⟩) rfl (off := 0) rfl) (.here 1 rfl),
      op_field 1 rfl rfl rfl 1 rfl rfl rfl rfl (.inl ⟨rfl, rfl⟩) rfl (by kernel_rfl) (fun b w => fa_S_0 b 0 w),
      op_loadAl 1 rfl 1 rfl rfl rfl rfl rfl trivial rfl rfl (by kernel_rfl) ty_R rfl rfl (fd_get (fs := [⟨true, 3, pRef b1⟩, ⟨true, 3, pRef b2⟩]) 0 (f := ⟨true, 3, pRef b1⟩) rfl (off := 0) rfl) (.here 2 rfl),
      op_callB2 (fun _ _ => by kernel_rfl) (.tmp 1 rfl rfl) (.tmp 2 rfl rfl) (.here 3 rfl) (nr_most ha.1 hb.1 (by omega)),
      op_field 0 rfl rfl rfl 2 rfl rfl rfl rfl (.inl ⟨rfl, rfl⟩) rfl (by kernel_rfl) (fun b w => fa_S_1 b 0 w),
      op_loadAl 0 rfl 2 rfl rfl rfl rfl rfl trivial rfl rfl (by kernel_rfl) ty_R rfl rfl (fd_get (fs := [⟨true, 3, pRef a1⟩, ⟨true, 3, pRef a2⟩]) 1 (f := ⟨true, 3, pRef a2⟩) rfl (off := 3) rfl) (.here 4 rfl),
      op_field 1 rfl rfl rfl 3 rfl rfl rfl rfl (.inl ⟨rfl, rfl⟩) rfl (by kernel_rfl) (fun b w => fa_S_1 b 0 w),
      op_loadAl 1 rfl 3 rfl rfl rfl rfl rfl trivial rfl rfl (by kernel_rfl) ty_R rfl rfl (fd_get (fs := [⟨true, 3, pRef b1⟩, ⟨true, 3, pRef b2⟩]) 1 (f := ⟨true, 3, pRef b2⟩) rfl (off := 3) rfl) (.here 5 rfl),
      op_callB2 (fun _ _ => by kernel_rfl) (.tmp 4 rfl rfl) (.tmp 5 rfl rfl) (.here 6 rfl) (nr_least ha.2 hb.2 (by omega)),
      op_alloc 3 rfl rfl (by kernel_rfl) (by kernel_rfl) rfl rfl rfl zv_R rfl rfl (by simp [NoU]) (fun _ => trivial),
      op_alloc 4 rfl rfl (by kernel_rfl) (by kernel_rfl) rfl rfl rfl zv_R rfl rfl (by simp [NoU]) (fun _ => trivial),
      op_store 3 rfl rfl rfl rfl 0 rfl (by kernel_rfl) (by kernel_rfl) ty_R (.tmp 3 rfl rfl) (fits_ref _),
      op_store 4 rfl rfl rfl rfl 0 rfl (by kernel_rfl) (by kernel_rfl) ty_R (.tmp 6 rfl rfl) (fits_ref _),
      trivial⟩
  refine wp_seq ?_
  refine seq_text (V1 := [⟨2, 2, none, none, .ptr, 39, 6, true, pRPair a1 a2, []⟩, ⟨3, 3, none, none, .ptr, 39, 6, true, pRPair b1 b2, []⟩, ⟨4, 4, none, none, .ptr, 39, 6, true, pAny, []⟩, ⟨6, 6, none, none, .ptr, 37, 3, true, pRef (max2 a1 b1), []⟩, ⟨7, 7, none, none, .ptr, 37, 3, true, pRef (min2 a2 b2), []⟩]) (A1 := []) (G1 := [⟨none, none, 5, pI 0⟩, ⟨some 0, none, 18, pRef (max2 a1 b1)⟩, ⟨some 1, none, 19, pRef (min2 a2 b2)⟩, ⟨some 2, none, 20, pI (cmpT (max2 a1 b1) (min2 a2 b2))⟩, ⟨some 3, none, 21, pB true⟩]) (V2 := [⟨2, 2, none, none, .ptr, 39, 6, true, pRPair a1 a2, []⟩, ⟨3, 3, none, none, .ptr, 39, 6, true, pRPair b1 b2, []⟩, ⟨4, 4, none, none, .ptr, 39, 6, true, pAny, []⟩, ⟨6, 6, none, none, .ptr, 37, 3, true, pRef (max2 a1 b1), []⟩, ⟨7, 7, none, none, .ptr, 37, 3, true, pRef (min2 a2 b2), []⟩]) (G2 := [⟨none, none, 5, pI 0⟩, ⟨none, none, 21, pB true⟩]) hI rfl rfl rfl [0, 1, 3, 7] (by kernel_rfl) (by kernel_rfl) ?_ [0, 1, 2, 3, 4] [0, 4] rfl rfl fun a w hI => ?_
  · exact ⟨op_load 3 rfl rfl rfl rfl (by kernel_rfl) ty_R rfl (.here 1 rfl),
      op_load 4 rfl rfl rfl rfl (by kernel_rfl) ty_R rfl (.here 2 rfl),
      op_call2 (fun _ _ => by kernel_rfl) (numlike_eq _) (.tmp 1 rfl rfl) (.tmp 2 rfl rfl) (.here 3 rfl) (cn_cmp (bd_max2 ha.1 hb.1) (bd_min2 ha.2 hb.2) (by omega)),
      op_bin (v := .bool (decide ((cmpT (max2 a1 b1) (min2 a2 b2)) > (0 : Int)))) (.tmp 3 rfl rfl) (.const _) (fun _ => rfl) (.at_ 4 _ _ rfl (pB_eq ((dec_gt _ _).trans (decide_eq_true hz)))),
      trivial⟩
  refine cond_yes hI 1 rfl ?_
  refine seq_text (V1 := [⟨2, 2, none, none, .ptr, 39, 6, true, pRPair a1 a2, []⟩, ⟨3, 3, none, none, .ptr, 39, 6, true, pRPair b1 b2, []⟩, ⟨4, 4, none, none, .ptr, 39, 6, true, pAny, [(2, pRPair ((0 : Int) : Rat) ((0 : Int) : Rat))]⟩, ⟨6, 6, none, none, .ptr, 37, 3, true, pRef (max2 a1 b1), []⟩, ⟨7, 7, none, none, .ptr, 37, 3, true, pRef (min2 a2 b2), []⟩]) (A1 := []) (G1 := [⟨none, some 3, 5, pI 0⟩, ⟨none, none, 21, pB true⟩, ⟨some 0, none, 22, pRef ((0 : Int) : Rat)⟩, ⟨some 1, none, 23, pRPair ((0 : Int) : Rat) ((0 : Int) : Rat)⟩, ⟨some 3, none, 5, pI 5⟩]) (V2 := [⟨2, 2, none, none, .ptr, 39, 6, true, pRPair a1 a2, []⟩, ⟨3, 3, none, none, .ptr, 39, 6, true, pRPair b1 b2, []⟩, ⟨4, 4, none, none, .ptr, 39, 6, true, pRPair ((0 : Int) : Rat) ((0 : Int) : Rat), []⟩, ⟨6, 6, none, none, .ptr, 37, 3, true, pRef (max2 a1 b1), []⟩, ⟨7, 7, none, none, .ptr, 37, 3, true, pRef (min2 a2 b2), []⟩]) (G2 := [⟨none, none, 5, pI 5⟩]) hI rfl rfl rfl [0, 1, 3, 7] (by kernel_rfl) (by kernel_rfl) ?_ [0, 1, 2, 3, 4] [3] rfl rfl fun a w hI => ?_
  · exact ⟨op_call1 (fun _ _ => by kernel_rfl) (numlike_ref _) (.const _) (.here 2 rfl) (cn_int 0 (by omega) (by omega)),
      op_callB1 (fun _ _ => by kernel_rfl) (.tmp 2 rfl rfl) (.here 3 rfl) (nr_only _),
      op_store 2 rfl rfl rfl rfl 0 rfl (by kernel_rfl) (by kernel_rfl) ty_S (.tmp 3 rfl rfl) (fits_rpair _ _),
      op_assign (.const _) (.here 4 rfl),
      trivial⟩
  refine wp_ret ?_
  refine then_ret ?_
  exact fin2 hI rfl (.cell 2 rfl rfl rfl rfl ty_S rfl) (.tmp 0 rfl)
set_option maxRecDepth 100000 in
theorem nr_meet_ok {a1 a2 b1 b2 : Rat} {j : Nat} (ha : BdR j a1 ∧ BdR j a2) (hb : BdR j b1 ∧ BdR j b2) (hj : j + j + j + j + 1 ≤ 10000000) (hz : ¬ min2 a2 b2 < max2 a1 b1) : ∀ (M : Nat → Nat → Prop) (w : World) (v0 v1 : Value), Mid M w → Box M (fun w => (pRPair a1 a2) w v0) w → Box M (fun w => (pRPair b1 b2) w v1) w → Calls Tryz.prog 31 #[v0, v1] w (RetB M (pTup2 (pRPair (max2 a1 b1) (min2 a2 b2)) (pI 0)) w) := by
  intro M w0 v0 v1 hM hv0 hv1
  refine calls_start (N := 27) Tryz.func31 rfl rfl rfl hM (show EntsA M w0 [v0, v1] [⟨none, none, 0, pRPair a1 a2⟩, ⟨none, none, 1, pRPair b1 b2⟩] from ⟨⟨rfl, _, rfl, hv0⟩, ⟨rfl, _, rfl, hv1⟩, trivial⟩) fun a hI => ?_
  refine seq_text (V1 := [⟨2, 2, some 0, none, .ptr, 39, 6, true, pRPair a1 a2, []⟩, ⟨3, 3, some 1, none, .ptr, 39, 6, true, pRPair b1 b2, []⟩, ⟨4, 4, some 2, none, .ptr, 39, 6, true, pAny, []⟩]) (A1 := []) (G1 := [⟨none, none, 0, pRPair a1 a2⟩, ⟨none, none, 1, pRPair b1 b2⟩, ⟨some 3, none, 5, pI 0⟩]) (V2 := [⟨2, 2, none, none, .ptr, 39, 6, true, pRPair a1 a2, []⟩, ⟨3, 3, none, none, .ptr, 39, 6, true, pRPair b1 b2, []⟩, ⟨4, 4, none, none, .ptr, 39, 6, true, pAny, []⟩]) (G2 := [⟨none, none, 5, pI 0⟩]) hI rfl rfl rfl [0, 1, 3, 7] (by kernel_rfl) (by kernel_rfl) ?_ [0, 1, 2] [2] rfl rfl fun a w hI => ?_
  · exact ⟨op_box 0 rfl rfl (by kernel_rfl) (by kernel_rfl) rfl rfl rfl (.tmp 0 rfl rfl) (fits_rpair _ _) rfl,
      op_box 1 rfl rfl (by kernel_rfl) (by kernel_rfl) rfl rfl rfl (.tmp 1 rfl rfl) (fits_rpair _ _) rfl,
      op_alloc 2 rfl rfl (by kernel_rfl) (by kernel_rfl) rfl rfl rfl zv_S rfl rfl (by simp [NoU]) (fun _ => trivial),
      op_assign (.const _) (.here 2 rfl),
      trivial⟩
  refine seq_drawn (V1 := [⟨2, 2, none, none, .ptr, 39, 6, true, pRPair a1 a2, []⟩, ⟨3, 3, none, none, .ptr, 39, 6, true, pRPair b1 b2, []⟩, ⟨4, 4, none, none, .ptr, 39, 6, true, pAny, []⟩, ⟨6, 6, some 10, none, .ptr, 37, 3, true, pAny, [(12, pRef (max2 a1 b1))]⟩, ⟨7, 7, some 11, none, .ptr, 37, 3, true, pAny, [(13, pRef (min2 a2 b2))]⟩]) (A1 := [⟨some 0, 8, 2, 0, True⟩, ⟨some 2, 10, 3, 0, True⟩, ⟨some 5, 13, 2, 3, True⟩, ⟨some 7, 15, 3, 3, True⟩]) (G1 := [⟨none, none, 5, pI 0⟩, ⟨some 1, none, 9, pRef a1⟩, ⟨some 3, none, 11, pRef b1⟩, ⟨some 4, none, 12, pRef (max2 a1 b1)⟩, ⟨some 6, none, 14, pRef a2⟩, ⟨some 8, none, 16, pRef b2⟩, ⟨some 9, none, 17, pRef (min2 a2 b2)⟩]) (V2 := [⟨2, 2, none, none, .ptr, 39, 6, true, pRPair a1 a2, []⟩, ⟨3, 3, none, none, .ptr, 39, 6, true, pRPair b1 b2, []⟩, ⟨4, 4, none, none, .ptr, 39, 6, true, pAny, []⟩, ⟨6, 6, none, none, .ptr, 37, 3, true, pRef (max2 a1 b1), []⟩, ⟨7, 7, none, none, .ptr, 37, 3, true, pRef (min2 a2 b2), []⟩]) (G2 := [⟨none, none, 5, pI 0⟩]) hI rfl rfl rfl [0, 1, 0, 4, 15, 0, 32, 0, 128, 511, 0, 0, 4095, 8191] (by kernel_rfl) (by kernel_rfl) (by kernel_rfl) (by kernel_rfl) ?_ [0, 1, 2, 3, 4] [0] rfl rfl fun a w hI => ?_
  · exact ⟨op_field 0 rfl rfl rfl 0 rfl rfl rfl rfl (.inl ⟨rfl, rfl⟩) rfl (by kernel_rfl) (fun b w => fa_S_0 b 0 w),
      op_loadAl 0 rfl 0 rfl rfl rfl rfl rfl trivial rfl rfl (by kernel_rfl) ty_R rfl rfl (fd_get (fs := [⟨true, 3, pRef a1⟩, ⟨true, 3, pRef a2⟩]) 0 (f := ⟨true, 3, pRef a1⟩) rfl (off := 0) rfl) (.here 1 rfl),
      op_field 1 rfl rfl rfl 1 rfl rfl rfl rfl (.inl ⟨rfl, rfl⟩) rfl (by kernel_rfl) (fun b w => fa_S_0 b 0 w),
      op_loadAl 1 rfl 1 rfl rfl rfl rfl rfl trivial rfl rfl (by kernel_rfl) ty_R rfl rfl (fd_get (fs := [⟨true, 3, pRef b1⟩, ⟨true, 3, pRef b2⟩]) 0 (f := ⟨true, 3, pRef b1⟩) rfl (off := 0) rfl) (.here 2 rfl),
      op_callB2 (fun _ _ => by kernel_rfl) (.tmp 1 rfl rfl) (.tmp 2 rfl rfl) (.here 3 rfl) (nr_most ha.1 hb.1 (by omega)),
      op_field 0 rfl rfl rfl 2 rfl rfl rfl rfl (.inl ⟨rfl, rfl⟩) rfl (by kernel_rfl) (fun b w => fa_S_1 b 0 w),
      op_loadAl 0 rfl 2 rfl rfl rfl rfl rfl trivial rfl rfl (by kernel_rfl) ty_R rfl rfl (fd_get (fs := [⟨true, 3, pRef a1⟩, ⟨true, 3, pRef a2⟩]) 1 (f := ⟨true, 3, pRef a2⟩) rfl (off := 3) rfl) (.here 4 rfl),
      op_field 1 rfl rfl rfl 3 rfl rfl rfl rfl (.inl ⟨rfl, rfl⟩) rfl (by kernel_rfl) (fun b w => fa_S_1 b 0 w),
      op_loadAl 1 rfl 3 rfl rfl rfl rfl rfl trivial rfl rfl (by kernel_rfl) ty_R rfl rfl (fd_get (fs := [⟨true, 3, pRef b1⟩, ⟨true, 3, pRef b2⟩]) 1 (f := ⟨true, 3, pRef b2⟩) rfl (off := 3) rfl) (.here 5 rfl),
      op_callB2 (fun _ _ => by kernel_rfl) (.tmp 4 rfl rfl) (.tmp 5 rfl rfl) (.here 6 rfl) (nr_least ha.2 hb.2 (by omega)),
      op_alloc 3 rfl rfl (by kernel_rfl) (by kernel_rfl) rfl rfl rfl zv_R rfl rfl (by simp [NoU]) (fun _ => trivial),
      op_alloc 4 rfl rfl (by kernel_rfl) (by kernel_rfl) rfl rfl rfl zv_R rfl rfl (by simp [NoU]) (fun _ => trivial),
      op_store 3 rfl rfl rfl rfl 0 rfl (by kernel_rfl) (by kernel_rfl) ty_R (.tmp 3 rfl rfl) (fits_ref _),
      op_store 4 rfl rfl rfl rfl 0 rfl (by kernel_rfl) (by kernel_rfl) ty_R (.tmp 6 rfl rfl) (fits_ref _),
      trivial⟩
  refine wp_seq ?_
  refine seq_text (V1 := [⟨2, 2, none, none, .ptr, 39, 6, true, pRPair a1 a2, []⟩, ⟨3, 3, none, none, .ptr, 39, 6, true, pRPair b1 b2, []⟩, ⟨4, 4, none, none, .ptr, 39, 6, true, pAny, []⟩, ⟨6, 6, none, none, .ptr, 37, 3, true, pRef (max2 a1 b1), []⟩, ⟨7, 7, none, none, .ptr, 37, 3, true, pRef (min2 a2 b2), []⟩]) (A1 := []) (G1 := [⟨none, none, 5, pI 0⟩, ⟨some 0, none, 18, pRef (max2 a1 b1)⟩, ⟨some 1, none, 19, pRef (min2 a2 b2)⟩, ⟨some 2, none, 20, pI (cmpT (max2 a1 b1) (min2 a2 b2))⟩, ⟨some 3, none, 21, pB false⟩]) (V2 := [⟨2, 2, none, none, .ptr, 39, 6, true, pRPair a1 a2, []⟩, ⟨3, 3, none, none, .ptr, 39, 6, true, pRPair b1 b2, []⟩, ⟨4, 4, none, none, .ptr, 39, 6, true, pAny, []⟩, ⟨6, 6, none, none, .ptr, 37, 3, true, pRef (max2 a1 b1), []⟩, ⟨7, 7, none, none, .ptr, 37, 3, true, pRef (min2 a2 b2), []⟩]) (G2 := [⟨none, none, 5, pI 0⟩, ⟨none, none, 21, pB false⟩]) hI rfl rfl rfl [0, 1, 3, 7] (by kernel_rfl) (by kernel_rfl) ?_ [0, 1, 2, 3, 4] [0, 4] rfl rfl fun a w hI => ?_
  · exact ⟨op_load 3 rfl rfl rfl rfl (by kernel_rfl) ty_R rfl (.here 1 rfl),
      op_load 4 rfl rfl rfl rfl (by kernel_rfl) ty_R rfl (.here 2 rfl),
      op_call2 (fun _ _ => by kernel_rfl) (numlike_eq _) (.tmp 1 rfl rfl) (.tmp 2 rfl rfl) (.here 3 rfl) (cn_cmp (bd_max2 ha.1 hb.1) (bd_min2 ha.2 hb.2) (by omega)),
      op_bin (v := .bool (decide ((cmpT (max2 a1 b1) (min2 a2 b2)) > (0 : Int)))) (.tmp 3 rfl rfl) (.const _) (fun _ => rfl) (.at_ 4 _ _ rfl (pB_eq ((dec_gt _ _).trans (decide_eq_false hz)))),
      trivial⟩
  refine cond_no hI 1 rfl ?_
  refine wp_skip ?_
  refine then_of ?_
  refine seq_text (V1 := [⟨2, 2, none, none, .ptr, 39, 6, true, pRPair a1 a2, []⟩, ⟨3, 3, none, none, .ptr, 39, 6, true, pRPair b1 b2, []⟩, ⟨4, 4, none, none, .ptr, 39, 6, true, pAny, [(3, pRPair (max2 a1 b1) (min2 a2 b2))]⟩, ⟨6, 6, none, none, .ptr, 37, 3, true, pRef (max2 a1 b1), []⟩, ⟨7, 7, none, none, .ptr, 37, 3, true, pRef (min2 a2 b2), []⟩]) (A1 := []) (G1 := [⟨none, some 4, 5, pI 0⟩, ⟨none, none, 21, pB false⟩, ⟨some 0, none, 24, pRef (max2 a1 b1)⟩, ⟨some 1, none, 25, pRef (min2 a2 b2)⟩, ⟨some 2, none, 26, pRPair (max2 a1 b1) (min2 a2 b2)⟩, ⟨some 4, none, 5, pI 0⟩]) (V2 := [⟨2, 2, none, none, .ptr, 39, 6, true, pRPair a1 a2, []⟩, ⟨3, 3, none, none, .ptr, 39, 6, true, pRPair b1 b2, []⟩, ⟨4, 4, none, none, .ptr, 39, 6, true, pRPair (max2 a1 b1) (min2 a2 b2), []⟩, ⟨6, 6, none, none, .ptr, 37, 3, true, pRef (max2 a1 b1), []⟩, ⟨7, 7, none, none, .ptr, 37, 3, true, pRef (min2 a2 b2), []⟩]) (G2 := [⟨none, none, 5, pI 0⟩]) hI rfl rfl rfl [0, 1, 3, 7, 15] (by kernel_rfl) (by kernel_rfl) ?_ [0, 1, 2, 3, 4] [4] rfl rfl fun a w hI => ?_
  · exact ⟨op_load 3 rfl rfl rfl rfl (by kernel_rfl) ty_R rfl (.here 2 rfl),
      op_load 4 rfl rfl rfl rfl (by kernel_rfl) ty_R rfl (.here 3 rfl),
      op_build (fs := [⟨true, 3, pAny⟩, ⟨true, 3, pAny⟩]) (ps := [(0, pRef (max2 a1 b1)), (1, pRef (min2 a2 b2))]) bt_S (places_ok (by kernel_rfl)) (cells_any2) (show HasParts _ _ _ _ _ _ from ⟨⟨rfl, (.tmp 2 rfl rfl), _, rfl, fits_ref _⟩, ⟨rfl, (.tmp 3 rfl rfl), _, rfl, fits_ref _⟩, trivial⟩) rfl (.here 4 rfl),
      op_store 2 rfl rfl rfl rfl 0 rfl (by kernel_rfl) (by kernel_rfl) ty_S (.tmp 4 rfl rfl) (fits_rpair _ _),
      op_assign (.const _) (.here 5 rfl),
      trivial⟩
  refine wp_ret ?_
  exact fin2 hI rfl (.cell 2 rfl rfl rfl rfl ty_S rfl) (.tmp 0 rfl)
set_option maxRecDepth 100000 in
theorem nr_make_no {x y : Rat} {j : Nat} (hx : BdR j x) (hy : BdR j y) (hj : j + j + j + j + 1 ≤ 10000000) (hz : y < x) : ∀ (M : Nat → Nat → Prop) (w : World) (v0 v1 : Value), Mid M w → Box M (fun w => (pRef x) w v0) w → Box M (fun w => (pRef y) w v1) w → Calls Tryz.prog 8 #[v0, v1] w (RetB M (pTup2 (pRPair ((0 : Int) : Rat) ((0 : Int) : Rat)) (pI 7)) w) := by
  intro M w0 v0 v1 hM hv0 hv1
  have B1 : BdR 64 ((0 : Int) : Rat) := BdR.mono (bd_int (by omega) (by omega)) (by omega)
  refine calls_start (N := 15) Tryz.func8 rfl rfl rfl hM (show EntsA M w0 [v0, v1] [⟨none, none, 0, pRef x⟩, ⟨none, none, 1, pRef y⟩] from ⟨⟨rfl, _, rfl, hv0⟩, ⟨rfl, _, rfl, hv1⟩, trivial⟩) fun a hI => ?_
  refine seq_text (V1 := [⟨2, 2, some 0, none, .ptr, 37, 3, true, pRef x, []⟩, ⟨3, 3, some 1, none, .ptr, 37, 3, true, pRef y, []⟩, ⟨4, 4, some 2, none, .ptr, 39, 6, true, pAny, []⟩]) (A1 := []) (G1 := [⟨none, none, 0, pRef x⟩, ⟨none, none, 1, pRef y⟩, ⟨some 3, none, 5, pI 0⟩]) (V2 := [⟨2, 2, none, none, .ptr, 37, 3, true, pRef x, []⟩, ⟨3, 3, none, none, .ptr, 37, 3, true, pRef y, []⟩, ⟨4, 4, none, none, .ptr, 39, 6, true, pAny, []⟩]) (G2 := [⟨none, none, 5, pI 0⟩]) hI rfl rfl rfl [0, 1, 3, 7] (by kernel_rfl) (by kernel_rfl) ?_ [0, 1, 2] [2] rfl rfl fun a w hI => ?_
  · exact ⟨op_box 0 rfl rfl (by kernel_rfl) (by kernel_rfl) rfl rfl rfl (.tmp 0 rfl rfl) (fits_ref _) rfl,
      op_box 1 rfl rfl (by kernel_rfl) (by kernel_rfl) rfl rfl rfl (.tmp 1 rfl rfl) (fits_ref _) rfl,
      op_alloc 2 rfl rfl (by kernel_rfl) (by kernel_rfl) rfl rfl rfl zv_S rfl rfl (by simp [NoU]) (fun _ => trivial),
      op_assign (.const _) (.here 2 rfl),
      trivial⟩
  refine wp_seq ?_
  refine seq_text (V1 := [⟨2, 2, none, none, .ptr, 37, 3, true, pRef x, []⟩, ⟨3, 3, none, none, .ptr, 37, 3, true, pRef y, []⟩, ⟨4, 4, none, none, .ptr, 39, 6, true, pAny, []⟩]) (A1 := []) (G1 := [⟨none, none, 5, pI 0⟩, ⟨some 0, none, 6, pRef x⟩, ⟨some 1, none, 7, pRef y⟩, ⟨some 2, none, 8, pI (cmpT x y)⟩, ⟨some 3, none, 9, pB true⟩]) (V2 := [⟨2, 2, none, none, .ptr, 37, 3, true, pRef x, []⟩, ⟨3, 3, none, none, .ptr, 37, 3, true, pRef y, []⟩, ⟨4, 4, none, none, .ptr, 39, 6, true, pAny, []⟩]) (G2 := [⟨none, none, 5, pI 0⟩, ⟨none, none, 9, pB true⟩]) hI rfl rfl rfl [0, 1, 3, 7] (by kernel_rfl) (by kernel_rfl) ?_ [0, 1, 2] [0, 4] rfl rfl fun a w hI => ?_
  · exact ⟨op_load 0 rfl rfl rfl rfl (by kernel_rfl) ty_R rfl (.here 1 rfl),
      op_load 1 rfl rfl rfl rfl (by kernel_rfl) ty_R rfl (.here 2 rfl),
      op_call2 (fun _ _ => by kernel_rfl) (numlike_eq _) (.tmp 1 rfl rfl) (.tmp 2 rfl rfl) (.here 3 rfl) (cn_cmp hx hy (by omega)),
      op_bin (v := .bool (decide ((cmpT x y) > (0 : Int)))) (.tmp 3 rfl rfl) (.const _) (fun _ => rfl) (.at_ 4 _ _ rfl (pB_eq ((dec_gt _ _).trans (decide_eq_true hz)))),
      trivial⟩
  refine cond_yes hI 1 rfl ?_
  refine seq_text (V1 := [⟨2, 2, none, none, .ptr, 37, 3, true, pRef x, []⟩, ⟨3, 3, none, none, .ptr, 37, 3, true, pRef y, []⟩, ⟨4, 4, none, none, .ptr, 39, 6, true, pAny, [(2, pRPair ((0 : Int) : Rat) ((0 : Int) : Rat))]⟩]) (A1 := []) (G1 := [⟨none, some 3, 5, pI 0⟩, ⟨none, none, 9, pB true⟩, ⟨some 0, none, 10, pRef ((0 : Int) : Rat)⟩, ⟨some 1, none, 11, pRPair ((0 : Int) : Rat) ((0 : Int) : Rat)⟩, ⟨some 3, none, 5, pI 7⟩]) (V2 := [⟨2, 2, none, none, .ptr, 37, 3, true, pRef x, []⟩, ⟨3, 3, none, none, .ptr, 37, 3, true, pRef y, []⟩, ⟨4, 4, none, none, .ptr, 39, 6, true, pRPair ((0 : Int) : Rat) ((0 : Int) : Rat), []⟩]) (G2 := [⟨none, none, 5, pI 7⟩]) hI rfl rfl rfl [0, 1, 3, 7] (by kernel_rfl) (by kernel_rfl) ?_ [0, 1, 2] [3] rfl rfl fun a w hI => ?_
  · exact ⟨op_call1 (fun _ _ => by kernel_rfl) (numlike_ref _) (.const _) (.here 2 rfl) (cn_int 0 (by omega) (by omega)),
      op_callB1 (fun _ _ => by kernel_rfl) (.tmp 2 rfl rfl) (.here 3 rfl) (nr_only _),
      op_store 2 rfl rfl rfl rfl 0 rfl (by kernel_rfl) (by kernel_rfl) ty_S (.tmp 3 rfl rfl) (fits_rpair _ _),
      op_assign (.const _) (.here 4 rfl),
      trivial⟩
  refine wp_ret ?_
  refine then_ret ?_
  exact fin2 hI rfl (.cell 2 rfl rfl rfl rfl ty_S rfl) (.tmp 0 rfl)
set_option maxRecDepth 100000 in
theorem nr_make_ok {x y : Rat} {j : Nat} (hx : BdR j x) (hy : BdR j y) (hj : j + j + j + j + 1 ≤ 10000000) (hz : ¬ y < x) : ∀ (M : Nat → Nat → Prop) (w : World) (v0 v1 : Value), Mid M w → Box M (fun w => (pRef x) w v0) w → Box M (fun w => (pRef y) w v1) w → Calls Tryz.prog 8 #[v0, v1] w (RetB M (pTup2 (pRPair x y) (pI 0)) w) := by
  intro M w0 v0 v1 hM hv0 hv1
  refine calls_start (N := 15) Tryz.func8 rfl rfl rfl hM (show EntsA M w0 [v0, v1] [⟨none, none, 0, pRef x⟩, ⟨none, none, 1, pRef y⟩] from ⟨⟨rfl, _, rfl, hv0⟩, ⟨rfl, _, rfl, hv1⟩, trivial⟩) fun a hI => ?_
  refine seq_text (V1 := [⟨2, 2, some 0, none, .ptr, 37, 3, true, pRef x, []⟩, ⟨3, 3, some 1, none, .ptr, 37, 3, true, pRef y, []⟩, ⟨4, 4, some 2, none, .ptr, 39, 6, true, pAny, []⟩]) (A1 := []) (G1 := [⟨none, none, 0, pRef x⟩, ⟨none, none, 1, pRef y⟩, ⟨some 3, none, 5, pI 0⟩]) (V2 := [⟨2, 2, none, none, .ptr, 37, 3, true, pRef x, []⟩, ⟨3, 3, none, none, .ptr, 37, 3, true, pRef y, []⟩, ⟨4, 4, none, none, .ptr, 39, 6, true, pAny, []⟩]) (G2 := [⟨none, none, 5, pI 0⟩]) hI rfl rfl rfl [0, 1, 3, 7] (by kernel_rfl) (by kernel_rfl) ?_ [0, 1, 2] [2] rfl rfl fun a w hI => ?_
  · exact ⟨op_box 0 rfl rfl (by kernel_rfl) (by kernel_rfl) rfl rfl rfl (.tmp 0 rfl rfl) (fits_ref _) rfl,
      op_box 1 rfl rfl (by kernel_rfl) (by kernel_rfl) rfl rfl rfl (.tmp 1 rfl rfl) (fits_ref _) rfl,
      op_alloc 2 rfl rfl (by kernel_rfl) (by kernel_rfl) rfl rfl rfl zv_S rfl rfl (by simp [NoU]) (fun _ => trivial),
      op_assign (.const _) (.here 2 rfl),
      trivial⟩
  refine wp_seq ?_
  refine seq_text (V1 := [⟨2, 2, none, none, .ptr, 37, 3, true, pRef x, []⟩, ⟨3, 3, none, none, .ptr, 37, 3, true, pRef y, []⟩, ⟨4, 4, none, none, .ptr, 39, 6, true, pAny, []⟩]) (A1 := []) (G1 := [⟨none, none, 5, pI 0⟩, ⟨some 0, none, 6, pRef x⟩, ⟨some 1, none, 7, pRef y⟩, ⟨some 2, none, 8, pI (cmpT x y)⟩, ⟨some 3, none, 9, pB false⟩]) (V2 := [⟨2, 2, none, none, .ptr, 37, 3, true, pRef x, []⟩, ⟨3, 3, none, none, .ptr, 37, 3, true, pRef y, []⟩, ⟨4, 4, none, none, .ptr, 39, 6, true, pAny, []⟩]) (G2 := [⟨none, none, 5, pI 0⟩, ⟨none, none, 9, pB false⟩]) hI rfl rfl rfl [0, 1, 3, 7] (by kernel_rfl) (by kernel_rfl) ?_ [0, 1, 2] [0, 4] rfl rfl fun a w hI => ?_
  · exact ⟨op_load 0 rfl rfl rfl rfl (by kernel_rfl) ty_R rfl (.here 1 rfl),
      op_load 1 rfl rfl rfl rfl (by kernel_rfl) ty_R rfl (.here 2 rfl),
      op_call2 (fun _ _ => by kernel_rfl) (numlike_eq _) (.tmp 1 rfl rfl) (.tmp 2 rfl rfl) (.here 3 rfl) (cn_cmp hx hy (by omega)),
      op_bin (v := .bool (decide ((cmpT x y) > (0 : Int)))) (.tmp 3 rfl rfl) (.const _) (fun _ => rfl) (.at_ 4 _ _ rfl (pB_eq ((dec_gt _ _).trans (decide_eq_false hz)))),
      trivial⟩
  refine cond_no hI 1 rfl ?_
  refine wp_skip ?_
  refine then_of ?_
  refine seq_text (V1 := [⟨2, 2, none, none, .ptr, 37, 3, true, pRef x, []⟩, ⟨3, 3, none, none, .ptr, 37, 3, true, pRef y, []⟩, ⟨4, 4, none, none, .ptr, 39, 6, true, pAny, [(3, pRPair x y)]⟩]) (A1 := []) (G1 := [⟨none, some 4, 5, pI 0⟩, ⟨none, none, 9, pB false⟩, ⟨some 0, none, 12, pRef x⟩, ⟨some 1, none, 13, pRef y⟩, ⟨some 2, none, 14, pRPair x y⟩, ⟨some 4, none, 5, pI 0⟩]) (V2 := [⟨2, 2, none, none, .ptr, 37, 3, true, pRef x, []⟩, ⟨3, 3, none, none, .ptr, 37, 3, true, pRef y, []⟩, ⟨4, 4, none, none, .ptr, 39, 6, true, pRPair x y, []⟩]) (G2 := [⟨none, none, 5, pI 0⟩]) hI rfl rfl rfl [0, 1, 3, 7, 15] (by kernel_rfl) (by kernel_rfl) ?_ [0, 1, 2] [4] rfl rfl fun a w hI => ?_
  · exact ⟨op_load 0 rfl rfl rfl rfl (by kernel_rfl) ty_R rfl (.here 2 rfl),
      op_load 1 rfl rfl rfl rfl (by kernel_rfl) ty_R rfl (.here 3 rfl),
      op_build (fs := [⟨true, 3, pAny⟩, ⟨true, 3, pAny⟩]) (ps := [(0, pRef x), (1, pRef y)]) bt_S (places_ok (by kernel_rfl)) (cells_any2) (show HasParts _ _ _ _ _ _ from ⟨⟨rfl, (.tmp 2 rfl rfl), _, rfl, fits_ref _⟩, ⟨rfl, (.tmp 3 rfl rfl), _, rfl, fits_ref _⟩, trivial⟩) rfl (.here 4 rfl),
      op_store 2 rfl rfl rfl rfl 0 rfl (by kernel_rfl) (by kernel_rfl) ty_S (.tmp 4 rfl rfl) (fits_rpair _ _),
      op_assign (.const _) (.here 5 rfl),
      trivial⟩
  refine wp_ret ?_
  exact fin2 hI rfl (.cell 2 rfl rfl rfl rfl ty_S rfl) (.tmp 0 rfl)
set_option maxRecDepth 100000 in
theorem cr_make_no {x y : Rat} {j : Nat} (hx : BdR j x) (hy : BdR j y) (hj : j + j ≤ 10000000) (hz : y < x) : ∀ (M : Nat → Nat → Prop) (w : World) (v0 v1 : Value), Mid M w → Box M (fun w => (pRat x) w v0) w → Box M (fun w => (pRat y) w v1) w → Calls Tryz.prog 6 #[v0, v1] w (RetB M (pTup2 (pPair 0 0) (pI 7)) w) := by
  intro M w0 v0 v1 hM hv0 hv1
  refine calls_start (N := 14) Tryz.func6 rfl rfl rfl hM (show EntsA M w0 [v0, v1] [⟨none, none, 0, pRat x⟩, ⟨none, none, 1, pRat y⟩] from ⟨⟨rfl, _, rfl, hv0⟩, ⟨rfl, _, rfl, hv1⟩, trivial⟩) fun a hI => ?_
  refine seq_text (V1 := [⟨2, 2, some 0, none, .ptr, 28, 3, true, pRat x, []⟩, ⟨3, 3, some 1, none, .ptr, 28, 3, true, pRat y, []⟩, ⟨4, 4, some 2, none, .ptr, 30, 6, true, pPair 0 0, []⟩]) (A1 := []) (G1 := [⟨none, none, 0, pRat x⟩, ⟨none, none, 1, pRat y⟩, ⟨some 3, none, 5, pI 0⟩]) (V2 := [⟨2, 2, none, none, .ptr, 28, 3, true, pRat x, []⟩, ⟨3, 3, none, none, .ptr, 28, 3, true, pRat y, []⟩, ⟨4, 4, none, none, .ptr, 30, 6, true, pPair 0 0, []⟩]) (G2 := [⟨none, none, 5, pI 0⟩]) hI rfl rfl rfl [0, 1, 3, 7] (by kernel_rfl) (by kernel_rfl) ?_ [0, 1, 2] [2] rfl rfl fun a w hI => ?_
  · exact ⟨op_box 0 rfl rfl (by kernel_rfl) (by kernel_rfl) rfl rfl rfl (.tmp 0 rfl rfl) (fits_rat _) rfl,
      op_box 1 rfl rfl (by kernel_rfl) (by kernel_rfl) rfl rfl rfl (.tmp 1 rfl rfl) (fits_rat _) rfl,
      op_alloc 2 rfl rfl (by kernel_rfl) (by kernel_rfl) rfl rfl rfl zv_Range rfl rfl (by simp [NoU]) (fun w => pS_of (cells_pair0 w)),
      op_assign (.const _) (.here 2 rfl),
      trivial⟩
  refine wp_seq ?_
  refine seq_text (V1 := [⟨2, 2, none, none, .ptr, 28, 3, true, pRat x, []⟩, ⟨3, 3, none, none, .ptr, 28, 3, true, pRat y, []⟩, ⟨4, 4, none, none, .ptr, 30, 6, true, pPair 0 0, []⟩]) (A1 := []) (G1 := [⟨none, none, 5, pI 0⟩, ⟨some 0, none, 6, pRat x⟩, ⟨some 1, none, 7, pRat y⟩, ⟨some 2, none, 8, pI (cmpT x y)⟩, ⟨some 3, none, 9, pB true⟩]) (V2 := [⟨2, 2, none, none, .ptr, 28, 3, true, pRat x, []⟩, ⟨3, 3, none, none, .ptr, 28, 3, true, pRat y, []⟩, ⟨4, 4, none, none, .ptr, 30, 6, true, pPair 0 0, []⟩]) (G2 := [⟨none, none, 5, pI 0⟩, ⟨none, none, 9, pB true⟩]) hI rfl rfl rfl [0, 1, 3, 7] (by kernel_rfl) (by kernel_rfl) ?_ [0, 1, 2] [0, 4] rfl rfl fun a w hI => ?_
  · exact ⟨op_load 0 rfl rfl rfl rfl (by kernel_rfl) ty_Ratio rfl (.here 1 rfl),
      op_load 1 rfl rfl rfl rfl (by kernel_rfl) ty_Ratio rfl (.here 2 rfl),
      op_call2 (fun _ _ => by kernel_rfl) (numlike_eq _) (.tmp 1 rfl rfl) (.tmp 2 rfl rfl) (.here 3 rfl) (c_cmp hx hy (by omega)),
      op_bin (v := .bool (decide ((cmpT x y) > (0 : Int)))) (.tmp 3 rfl rfl) (.const _) (fun _ => rfl) (.at_ 4 _ _ rfl (pB_eq ((dec_gt _ _).trans (decide_eq_true hz)))),
      trivial⟩
  refine cond_yes hI 1 rfl ?_
  refine seq_text (V1 := [⟨2, 2, none, none, .ptr, 28, 3, true, pRat x, []⟩, ⟨3, 3, none, none, .ptr, 28, 3, true, pRat y, []⟩, ⟨4, 4, none, none, .ptr, 30, 6, true, pPair 0 0, [(1, pPair 0 0)]⟩]) (A1 := []) (G1 := [⟨none, some 2, 5, pI 0⟩, ⟨none, none, 9, pB true⟩, ⟨some 0, none, 10, pPair 0 0⟩, ⟨some 2, none, 5, pI 7⟩]) (V2 := [⟨2, 2, none, none, .ptr, 28, 3, true, pRat x, []⟩, ⟨3, 3, none, none, .ptr, 28, 3, true, pRat y, []⟩, ⟨4, 4, none, none, .ptr, 30, 6, true, pPair 0 0, []⟩]) (G2 := [⟨none, none, 5, pI 7⟩]) hI rfl rfl rfl [0, 1, 3] (by kernel_rfl) (by kernel_rfl) ?_ [0, 1, 2] [2] rfl rfl fun a w hI => ?_
  · exact ⟨op_build (fs := [⟨true, 3, pRat 0⟩, ⟨true, 3, pRat 0⟩]) (ps := []) bt_Range (places_ok (by kernel_rfl)) (cells_pair0) trivial rfl (.here 2 rfl),
      op_store 2 rfl rfl rfl rfl 0 rfl (by kernel_rfl) (by kernel_rfl) ty_Range (.tmp 2 rfl rfl) (fits_pair _ _),
      op_assign (.const _) (.here 3 rfl),
      trivial⟩
  refine wp_ret ?_
  refine then_ret ?_
  exact fin2 hI rfl (.cell 2 rfl rfl rfl rfl ty_Range rfl) (.tmp 0 rfl)
set_option maxRecDepth 100000 in
theorem cr_make_ok {x y : Rat} {j : Nat} (hx : BdR j x) (hy : BdR j y) (hj : j + j ≤ 10000000) (hz : ¬ y < x) : ∀ (M : Nat → Nat → Prop) (w : World) (v0 v1 : Value), Mid M w → Box M (fun w => (pRat x) w v0) w → Box M (fun w => (pRat y) w v1) w → Calls Tryz.prog 6 #[v0, v1] w (RetB M (pTup2 (pPair x y) (pI 0)) w) := by
  intro M w0 v0 v1 hM hv0 hv1
  refine calls_start (N := 14) Tryz.func6 rfl rfl rfl hM (show EntsA M w0 [v0, v1] [⟨none, none, 0, pRat x⟩, ⟨none, none, 1, pRat y⟩] from ⟨⟨rfl, _, rfl, hv0⟩, ⟨rfl, _, rfl, hv1⟩, trivial⟩) fun a hI => ?_
  refine seq_text (V1 := [⟨2, 2, some 0, none, .ptr, 28, 3, true, pRat x, []⟩, ⟨3, 3, some 1, none, .ptr, 28, 3, true, pRat y, []⟩, ⟨4, 4, some 2, none, .ptr, 30, 6, true, pPair 0 0, []⟩]) (A1 := []) (G1 := [⟨none, none, 0, pRat x⟩, ⟨none, none, 1, pRat y⟩, ⟨some 3, none, 5, pI 0⟩]) (V2 := [⟨2, 2, none, none, .ptr, 28, 3, true, pRat x, []⟩, ⟨3, 3, none, none, .ptr, 28, 3, true, pRat y, []⟩, ⟨4, 4, none, none, .ptr, 30, 6, true, pPair 0 0, []⟩]) (G2 := [⟨none, none, 5, pI 0⟩]) hI rfl rfl rfl [0, 1, 3, 7] (by kernel_rfl) (by kernel_rfl) ?_ [0, 1, 2] [2] rfl rfl fun a w hI => ?_
  · exact ⟨op_box 0 rfl rfl (by kernel_rfl) (by kernel_rfl) rfl rfl rfl (.tmp 0 rfl rfl) (fits_rat _) rfl,
      op_box 1 rfl rfl (by kernel_rfl) (by kernel_rfl) rfl rfl rfl (.tmp 1 rfl rfl) (fits_rat _) rfl,
      op_alloc 2 rfl rfl (by kernel_rfl) (by kernel_rfl) rfl rfl rfl zv_Range rfl rfl (by simp [NoU]) (fun w => pS_of (cells_pair0 w)),
      op_assign (.const _) (.here 2 rfl),
      trivial⟩
  refine wp_seq ?_
  refine seq_text (V1 := [⟨2, 2, none, none, .ptr, 28, 3, true, pRat x, []⟩, ⟨3, 3, none, none, .ptr, 28, 3, true, pRat y, []⟩, ⟨4, 4, none, none, .ptr, 30, 6, true, pPair 0 0, []⟩]) (A1 := []) (G1 := [⟨none, none, 5, pI 0⟩, ⟨some 0, none, 6, pRat x⟩, ⟨some 1, none, 7, pRat y⟩, ⟨some 2, none, 8, pI (cmpT x y)⟩, ⟨some 3, none, 9, pB false⟩]) (V2 := [⟨2, 2, none, none, .ptr, 28, 3, true, pRat x, []⟩, ⟨3, 3, none, none, .ptr, 28, 3, true, pRat y, []⟩, ⟨4, 4, none, none, .ptr, 30, 6, true, pPair 0 0, []⟩]) (G2 := [⟨none, none, 5, pI 0⟩, ⟨none, none, 9, pB false⟩]) hI rfl rfl rfl [0, 1, 3, 7] (by kernel_rfl) (by kernel_rfl) ?_ [0, 1, 2] [0, 4] rfl rfl fun a w hI => ?_
  · exact ⟨op_load 0 rfl rfl rfl rfl (by kernel_rfl) ty_Ratio rfl (.here 1 rfl),
      op_load 1 rfl rfl rfl rfl (by kernel_rfl) ty_Ratio rfl (.here 2 rfl),
      op_call2 (fun _ _ => by kernel_rfl) (numlike_eq _) (.tmp 1 rfl rfl) (.tmp 2 rfl rfl) (.here 3 rfl) (c_cmp hx hy (by omega)),
      op_bin (v := .bool (decide ((cmpT x y) > (0 : Int)))) (.tmp 3 rfl rfl) (.const _) (fun _ => rfl) (.at_ 4 _ _ rfl (pB_eq ((dec_gt _ _).trans (decide_eq_false hz)))),
      trivial⟩
  refine cond_no hI 1 rfl ?_
  refine wp_skip ?_
  refine then_of ?_
  refine seq_text (V1 := [⟨2, 2, none, none, .ptr, 28, 3, true, pRat x, []⟩, ⟨3, 3, none, none, .ptr, 28, 3, true, pRat y, []⟩, ⟨4, 4, none, none, .ptr, 30, 6, true, pPair 0 0, [(3, pPair x y)]⟩]) (A1 := []) (G1 := [⟨none, some 4, 5, pI 0⟩, ⟨none, none, 9, pB false⟩, ⟨some 0, none, 11, pRat x⟩, ⟨some 1, none, 12, pRat y⟩, ⟨some 2, none, 13, pPair x y⟩, ⟨some 4, none, 5, pI 0⟩]) (V2 := [⟨2, 2, none, none, .ptr, 28, 3, true, pRat x, []⟩, ⟨3, 3, none, none, .ptr, 28, 3, true, pRat y, []⟩, ⟨4, 4, none, none, .ptr, 30, 6, true, pPair x y, []⟩]) (G2 := [⟨none, none, 5, pI 0⟩]) hI rfl rfl rfl [0, 1, 3, 7, 15] (by kernel_rfl) (by kernel_rfl) ?_ [0, 1, 2] [4] rfl rfl fun a w hI => ?_
  · exact ⟨op_load 0 rfl rfl rfl rfl (by kernel_rfl) ty_Ratio rfl (.here 2 rfl),
      op_load 1 rfl rfl rfl rfl (by kernel_rfl) ty_Ratio rfl (.here 3 rfl),
      op_build (fs := [⟨true, 3, pRat 0⟩, ⟨true, 3, pRat 0⟩]) (ps := [(0, pRat x), (1, pRat y)]) bt_Range (places_ok (by kernel_rfl)) (cells_pair0) (show HasParts _ _ _ _ _ _ from ⟨⟨rfl, (.tmp 2 rfl rfl), _, rfl, fits_rat _⟩, ⟨rfl, (.tmp 3 rfl rfl), _, rfl, fits_rat _⟩, trivial⟩) rfl (.here 4 rfl),
      op_store 2 rfl rfl rfl rfl 0 rfl (by kernel_rfl) (by kernel_rfl) ty_Range (.tmp 4 rfl rfl) (fits_pair _ _),
      op_assign (.const _) (.here 5 rfl),
      trivial⟩
  refine wp_ret ?_
  exact fin2 hI rfl (.cell 2 rfl rfl rfl rfl ty_Range rfl) (.tmp 0 rfl)
set_option maxRecDepth 100000 in
theorem nr_text {a1 a2 : Rat} (ha : BdR 64 a1 ∧ BdR 64 a2) : ∀ (M : Nat → Nat → Prop) (w : World) (v0 : Value), Mid M w → Box M (fun w => (pRPair a1 a2) w v0) w → Calls Tryz.prog 17 #[v0] w (RetB M (pEq (.string (((((⟨#[91]⟩ : ByteArray) ++ (strOf (textR a1))) ++ (⟨#[44]⟩ : ByteArray)) ++ (strOf (textR a2))) ++ (⟨#[93]⟩ : ByteArray)))) w) := by
  intro M w0 v0 hM hv0
  have B1 : ((⟨#[91]⟩ : ByteArray) ++ (strOf (textR a1))).size ≤ 133 := size_app (show (⟨#[91]⟩ : ByteArray).size ≤ 1 from Nat.le_refl 1) (sizeS_text ha.1)
  have B2 : (((⟨#[91]⟩ : ByteArray) ++ (strOf (textR a1))) ++ (⟨#[44]⟩ : ByteArray)).size ≤ 134 := size_app B1 (show (⟨#[44]⟩ : ByteArray).size ≤ 1 from Nat.le_refl 1)
  have B3 : ((((⟨#[91]⟩ : ByteArray) ++ (strOf (textR a1))) ++ (⟨#[44]⟩ : ByteArray)) ++ (strOf (textR a2))).size ≤ 266 := size_app B2 (sizeS_text ha.2)
  have B4 : (((((⟨#[91]⟩ : ByteArray) ++ (strOf (textR a1))) ++ (⟨#[44]⟩ : ByteArray)) ++ (strOf (textR a2))) ++ (⟨#[93]⟩ : ByteArray)).size ≤ 267 := size_app B3 (show (⟨#[93]⟩ : ByteArray).size ≤ 1 from Nat.le_refl 1)
  refine calls_start (N := 13) Tryz.func17 rfl rfl rfl hM (show EntsA M w0 [v0] [⟨none, none, 0, pRPair a1 a2⟩] from ⟨⟨rfl, _, rfl, hv0⟩, trivial⟩) fun a hI => ?_
  refine seq_text (V1 := [⟨1, 1, some 0, none, .ptr, 39, 6, true, pRPair a1 a2, []⟩]) (A1 := []) (G1 := [⟨none, none, 0, pRPair a1 a2⟩, ⟨some 1, none, 2, pEq (.string (⟨#[]⟩ : ByteArray))⟩]) (V2 := [⟨1, 1, none, none, .ptr, 39, 6, true, pRPair a1 a2, []⟩]) (G2 := [⟨none, none, 2, pEq (.string (⟨#[]⟩ : ByteArray))⟩]) hI rfl rfl rfl [0, 1] (by kernel_rfl) (by kernel_rfl) ?_ [0] [1] rfl rfl fun a w hI => ?_
  · exact ⟨op_box 0 rfl rfl (by kernel_rfl) (by kernel_rfl) rfl rfl rfl (.tmp 0 rfl rfl) (fits_rpair _ _) rfl,
      op_assign (.const _) (.here 1 rfl),
      trivial⟩
  refine seq_drawn (V1 := [⟨1, 1, none, none, .ptr, 39, 6, true, pRPair a1 a2, []⟩]) (A1 := [⟨some 0, 3, 1, 0, True⟩, ⟨some 5, 8, 1, 3, True⟩]) (G1 := [⟨none, some 10, 2, pEq (.string (⟨#[]⟩ : ByteArray))⟩, ⟨some 1, none, 4, pRef a1⟩, ⟨some 2, none, 5, pEq (.string (strOf (textR a1)))⟩, ⟨some 3, none, 6, pEq (.string ((⟨#[91]⟩ : ByteArray) ++ (strOf (textR a1))))⟩, ⟨some 4, none, 7, pEq (.string (((⟨#[91]⟩ : ByteArray) ++ (strOf (textR a1))) ++ (⟨#[44]⟩ : ByteArray)))⟩, ⟨some 6, none, 9, pRef a2⟩, ⟨some 7, none, 10, pEq (.string (strOf (textR a2)))⟩, ⟨some 8, none, 11, pEq (.string ((((⟨#[91]⟩ : ByteArray) ++ (strOf (textR a1))) ++ (⟨#[44]⟩ : ByteArray)) ++ (strOf (textR a2))))⟩, ⟨some 9, none, 12, pEq (.string (((((⟨#[91]⟩ : ByteArray) ++ (strOf (textR a1))) ++ (⟨#[44]⟩ : ByteArray)) ++ (strOf (textR a2))) ++ (⟨#[93]⟩ : ByteArray)))⟩, ⟨some 10, none, 2, pEq (.string (((((⟨#[91]⟩ : ByteArray) ++ (strOf (textR a1))) ++ (⟨#[44]⟩ : ByteArray)) ++ (strOf (textR a2))) ++ (⟨#[93]⟩ : ByteArray)))⟩]) (V2 := [⟨1, 1, none, none, .ptr, 39, 6, true, pRPair a1 a2, []⟩]) (G2 := [⟨none, none, 2, pEq (.string (((((⟨#[91]⟩ : ByteArray) ++ (strOf (textR a1))) ++ (⟨#[44]⟩ : ByteArray)) ++ (strOf (textR a2))) ++ (⟨#[93]⟩ : ByteArray)))⟩]) hI rfl rfl rfl [0, 1, 3, 7, 15, 0, 32, 103, 255, 511, 1023] (by kernel_rfl) (by kernel_rfl) (by kernel_rfl) (by kernel_rfl) ?_ [0] [8] rfl rfl fun a w hI => ?_
  · exact ⟨op_field 0 rfl rfl rfl 0 rfl rfl rfl rfl (.inl ⟨rfl, rfl⟩) rfl (by kernel_rfl) (fun b w => fa_S_0 b 0 w),
      op_loadAl 0 rfl 0 rfl rfl rfl rfl rfl trivial rfl rfl (by kernel_rfl) ty_R rfl rfl (fd_get (fs := [⟨true, 3, pRef a1⟩, ⟨true, 3, pRef a2⟩]) 0 (f := ⟨true, 3, pRef a1⟩) rfl (off := 0) rfl) (.here 1 rfl),
      op_call1 (fun _ _ => by kernel_rfl) (numlike_eq _) (.tmp 1 rfl rfl) (.here 2 rfl) (cn_text ha.1 (by omega)),
      op_bin_add (.const _) (.tmp 2 rfl rfl) (show (⟨#[91]⟩ : ByteArray).size ≤ 1 from Nat.le_refl 1) (sizeS_text ha.1) (by omega) (.here 3 rfl),
      op_bin_add (.tmp 3 rfl rfl) (.const _) B1 (show (⟨#[44]⟩ : ByteArray).size ≤ 1 from Nat.le_refl 1) (by omega) (.here 4 rfl),
      op_field 0 rfl rfl rfl 1 rfl rfl rfl rfl (.inl ⟨rfl, rfl⟩) rfl (by kernel_rfl) (fun b w => fa_S_1 b 0 w),
      op_loadAl 0 rfl 1 rfl rfl rfl rfl rfl trivial rfl rfl (by kernel_rfl) ty_R rfl rfl (fd_get (fs := [⟨true, 3, pRef a1⟩, ⟨true, 3, pRef a2⟩]) 1 (f := ⟨true, 3, pRef a2⟩) rfl (off := 3) rfl) (.here 5 rfl),
      op_call1 (fun _ _ => by kernel_rfl) (numlike_eq _) (.tmp 5 rfl rfl) (.here 6 rfl) (cn_text ha.2 (by omega)),
      op_bin_add (.tmp 4 rfl rfl) (.tmp 6 rfl rfl) B2 (sizeS_text ha.2) (by omega) (.here 7 rfl),
      op_bin_add (.tmp 7 rfl rfl) (.const _) B3 (show (⟨#[93]⟩ : ByteArray).size ≤ 1 from Nat.le_refl 1) (by omega) (.here 8 rfl),
      op_assign (.tmp 8 rfl rfl) (.here 9 rfl),
      trivial⟩
  refine wp_ret ?_
  exact fin1 hI rfl (.tmp 0 rfl)
set_option maxRecDepth 100000 in
theorem cr_text {a1 a2 : Rat} (ha : BdR 64 a1 ∧ BdR 64 a2) : ∀ (M : Nat → Nat → Prop) (w : World) (v0 : Value), Mid M w → Box M (fun w => (pPair a1 a2) w v0) w → Calls Tryz.prog 16 #[v0] w (RetB M (pEq (.string (((((⟨#[91]⟩ : ByteArray) ++ (strOf (textR a1))) ++ (⟨#[44]⟩ : ByteArray)) ++ (strOf (textR a2))) ++ (⟨#[93]⟩ : ByteArray)))) w) := by
  intro M w0 v0 hM hv0
  have B1 : ((⟨#[91]⟩ : ByteArray) ++ (strOf (textR a1))).size ≤ 133 := size_app (show (⟨#[91]⟩ : ByteArray).size ≤ 1 from Nat.le_refl 1) (sizeS_text ha.1)
  have B2 : (((⟨#[91]⟩ : ByteArray) ++ (strOf (textR a1))) ++ (⟨#[44]⟩ : ByteArray)).size ≤ 134 := size_app B1 (show (⟨#[44]⟩ : ByteArray).size ≤ 1 from Nat.le_refl 1)
  have B3 : ((((⟨#[91]⟩ : ByteArray) ++ (strOf (textR a1))) ++ (⟨#[44]⟩ : ByteArray)) ++ (strOf (textR a2))).size ≤ 266 := size_app B2 (sizeS_text ha.2)
  have B4 : (((((⟨#[91]⟩ : ByteArray) ++ (strOf (textR a1))) ++ (⟨#[44]⟩ : ByteArray)) ++ (strOf (textR a2))) ++ (⟨#[93]⟩ : ByteArray)).size ≤ 267 := size_app B3 (show (⟨#[93]⟩ : ByteArray).size ≤ 1 from Nat.le_refl 1)
  refine calls_start (N := 13) Tryz.func16 rfl rfl rfl hM (show EntsA M w0 [v0] [⟨none, none, 0, pPair a1 a2⟩] from ⟨⟨rfl, _, rfl, hv0⟩, trivial⟩) fun a hI => ?_
  refine seq_text (V1 := [⟨1, 1, some 0, none, .ptr, 30, 6, true, pPair a1 a2, []⟩]) (A1 := []) (G1 := [⟨none, none, 0, pPair a1 a2⟩, ⟨some 1, none, 2, pEq (.string (⟨#[]⟩ : ByteArray))⟩]) (V2 := [⟨1, 1, none, none, .ptr, 30, 6, true, pPair a1 a2, []⟩]) (G2 := [⟨none, none, 2, pEq (.string (⟨#[]⟩ : ByteArray))⟩]) hI rfl rfl rfl [0, 1] (by kernel_rfl) (by kernel_rfl) ?_ [0] [1] rfl rfl fun a w hI => ?_
  · exact ⟨op_box 0 rfl rfl (by kernel_rfl) (by kernel_rfl) rfl rfl rfl (.tmp 0 rfl rfl) (fits_pair _ _) rfl,
      op_assign (.const _) (.here 1 rfl),
      trivial⟩
  refine seq_drawn (V1 := [⟨1, 1, none, none, .ptr, 30, 6, true, pPair a1 a2, []⟩]) (A1 := [⟨some 0, 3, 1, 0, True⟩, ⟨some 5, 8, 1, 3, True⟩]) (G1 := [⟨none, some 10, 2, pEq (.string (⟨#[]⟩ : ByteArray))⟩, ⟨some 1, none, 4, pRat a1⟩, ⟨some 2, none, 5, pEq (.string (strOf (textR a1)))⟩, ⟨some 3, none, 6, pEq (.string ((⟨#[91]⟩ : ByteArray) ++ (strOf (textR a1))))⟩, ⟨some 4, none, 7, pEq (.string (((⟨#[91]⟩ : ByteArray) ++ (strOf (textR a1))) ++ (⟨#[44]⟩ : ByteArray)))⟩, ⟨some 6, none, 9, pRat a2⟩, ⟨some 7, none, 10, pEq (.string (strOf (textR a2)))⟩, ⟨some 8, none, 11, pEq (.string ((((⟨#[91]⟩ : ByteArray) ++ (strOf (textR a1))) ++ (⟨#[44]⟩ : ByteArray)) ++ (strOf (textR a2))))⟩, ⟨some 9, none, 12, pEq (.string (((((⟨#[91]⟩ : ByteArray) ++ (strOf (textR a1))) ++ (⟨#[44]⟩ : ByteArray)) ++ (strOf (textR a2))) ++ (⟨#[93]⟩ : ByteArray)))⟩, ⟨some 10, none, 2, pEq (.string (((((⟨#[91]⟩ : ByteArray) ++ (strOf (textR a1))) ++ (⟨#[44]⟩ : ByteArray)) ++ (strOf (textR a2))) ++ (⟨#[93]⟩ : ByteArray)))⟩]) (V2 := [⟨1, 1, none, none, .ptr, 30, 6, true, pPair a1 a2, []⟩]) (G2 := [⟨none, none, 2, pEq (.string (((((⟨#[91]⟩ : ByteArray) ++ (strOf (textR a1))) ++ (⟨#[44]⟩ : ByteArray)) ++ (strOf (textR a2))) ++ (⟨#[93]⟩ : ByteArray)))⟩]) hI rfl rfl rfl [0, 1, 3, 7, 15, 0, 32, 103, 255, 511, 1023] (by kernel_rfl) (by kernel_rfl) (by kernel_rfl) (by kernel_rfl) ?_ [0] [8] rfl rfl fun a w hI => ?_
  · exact ⟨op_field 0 rfl rfl rfl 0 rfl rfl rfl rfl (.inl ⟨rfl, rfl⟩) rfl (by kernel_rfl) (fun b w => fa_Range_0 b 0 w),
      op_loadAl 0 rfl 0 rfl rfl rfl rfl rfl trivial rfl rfl (by kernel_rfl) ty_Ratio rfl rfl (fd_get (fs := [⟨true, 3, pRat a1⟩, ⟨true, 3, pRat a2⟩]) 0 (f := ⟨true, 3, pRat a1⟩) rfl (off := 0) rfl) (.here 1 rfl),
      op_call1 (fun _ _ => by kernel_rfl) (numlike_eq _) (.tmp 1 rfl rfl) (.here 2 rfl) (c_text ha.1 (by omega)),
      op_bin_add (.const _) (.tmp 2 rfl rfl) (show (⟨#[91]⟩ : ByteArray).size ≤ 1 from Nat.le_refl 1) (sizeS_text ha.1) (by omega) (.here 3 rfl),
      op_bin_add (.tmp 3 rfl rfl) (.const _) B1 (show (⟨#[44]⟩ : ByteArray).size ≤ 1 from Nat.le_refl 1) (by omega) (.here 4 rfl),
      op_field 0 rfl rfl rfl 1 rfl rfl rfl rfl (.inl ⟨rfl, rfl⟩) rfl (by kernel_rfl) (fun b w => fa_Range_1 b 0 w),
      op_loadAl 0 rfl 1 rfl rfl rfl rfl rfl trivial rfl rfl (by kernel_rfl) ty_Ratio rfl rfl (fd_get (fs := [⟨true, 3, pRat a1⟩, ⟨true, 3, pRat a2⟩]) 1 (f := ⟨true, 3, pRat a2⟩) rfl (off := 3) rfl) (.here 5 rfl),
      op_call1 (fun _ _ => by kernel_rfl) (numlike_eq _) (.tmp 5 rfl rfl) (.here 6 rfl) (c_text ha.2 (by omega)),
      op_bin_add (.tmp 4 rfl rfl) (.tmp 6 rfl rfl) B2 (sizeS_text ha.2) (by omega) (.here 7 rfl),
      op_bin_add (.tmp 7 rfl rfl) (.const _) B3 (show (⟨#[93]⟩ : ByteArray).size ≤ 1 from Nat.le_refl 1) (by omega) (.here 8 rfl),
      op_assign (.tmp 8 rfl rfl) (.here 9 rfl),
      trivial⟩
  refine wp_ret ?_
  exact fin1 hI rfl (.tmp 0 rfl)
end Wx
