import Derived.Handy
import Derived.KernelRfl
import Derived.Test.YtlomlheajdgdoaaGreatProg
import Derived.Test.YtlomlheajdgdoaaGreatJNears0
import Derived.Test.YtlomlheajdgdoaaGreatJNears1
import Derived.Test.YtlomlheajdgdoaaGreatCRat1
import Derived.Test.YtlomlheajdgdoaaGreatJNears10
import Derived.Test.YtlomlheajdgdoaaGreatJNears12
import Derived.Test.YtlomlheajdgdoaaGreatJNears13
import Derived.Test.YtlomlheajdgdoaaGreatJNears20
import Derived.Test.YtlomlheajdgdoaaGreatJNears24
import Derived.Test.YtlomlheajdgdoaaGreatJNears25
import Derived.Test.YtlomlheajdgdoaaGreatCSem
import Derived.Test.YtlomlheajdgdoaaGreatCSemOps
import Derived.Test.YtlomlheajdgdoaaGreatCSemMem
import Derived.Test.YtlomlheajdgdoaaGreatCSemCode
import Derived.Test.YtlomlheajdgdoaaGreatJNears30
import Derived.Test.YtlomlheajdgdoaaGreatJNears31
import Derived.Test.YtlomlheajdgdoaaGreatJNears32
import Derived.Test.YtlomlheajdgdoaaGreatJNears35
import Derived.Test.YtlomlheajdgdoaaGreatJNears37
import Derived.Test.YtlomlheajdgdoaaGreatCNums
import Derived.Test.YtlomlheajdgdoaaGreatCPlainFloat3
import Derived.Test.YtlomlheajdgdoaaGreatCMathF
import Derived.Test.YtlomlheajdgdoaaGreatCNearest
import Derived.Test.YtlomlheajdgdoaaGreatJNears42
import Derived.Test.YtlomlheajdgdoaaGreatCNNear
import Derived.Test.YtlomlheajdgdoaaGreatCPairs
import Derived.Test.YtlomlheajdgdoaaGreatCLaw1
import Derived.Test.YtlomlheajdgdoaaGreatJNears47
namespace Wx
open Go Go.RowKit Go.Proofs
set_option linter.unusedVariables false

theorem pRat_eqN {x y : Rat} (h : x = y) : ∀ w v, pRat x w v → pRat y w v := fun _ _ k => h ▸ k
theorem cn_ofN {n d : Int} {x : Rat} (e : x = ofR n d) (h : FracOk n d) : ∀ w v1, pFrac n d w v1 → Calls Tryz.prog 8 #[v1] w (Ret (pRef x) w) := fun w v1 h1 => by
  rw [pFrac_eq h1, e]
  exact nof_num w n d h.1 h.2.1 h.2.2
theorem bd_scale {x b : Rat} {j : Nat} (hx : BdR j x) (hb : BdR 64 b) : ∀ k, BdR (j + 64 * k) (x * b ^ k)
  | 0 => by rw [Rat.pow_zero, Rat.mul_one]; exact hx
  | k + 1 => by
    rw [Rat.pow_succ, ← Rat.mul_assoc]
    exact ((bd_scale hx hb k).mul hb).mono (by omega)
theorem scale_succ (x b : Rat) (k : Nat) : x * b ^ k * b = x * b ^ (k + 1) := by rw [Rat.pow_succ, Rat.mul_assoc]
set_option maxRecDepth 100000 in
theorem nears_out {n1 d1 ex : Int} {x1 : Rat} (e1 : x1 = ofR n1 d1) (f1 : FracOk n1 d1) (hr : ex > 1100 ∨ ex < -1100) : ∀ (M : Nat → Nat → Prop) (w : World) (v0 v1 : Value), Mid M w → Box M (fun w => (pFrac n1 d1) w v0) w → Box M (fun w => (pEq (.int .i16 ex)) w v1) w → Calls Tryz.prog 3 #[v0, v1] w (RetB M (pB true) w) := by
  intro M w0 v0 v1 hM hv0 hv1
  refine calls_start (N := 63) Tryz.func3 rfl rfl rfl hM (show EntsA M w0 [v0, v1] [⟨none, none, 0, pFrac n1 d1⟩, ⟨none, none, 1, pEq (.int .i16 ex)⟩] from ⟨⟨rfl, _, rfl, hv0⟩, ⟨rfl, _, rfl, hv1⟩, trivial⟩) fun a hI => ?_
  refine seq_text (V1 := [⟨2, 2, some 0, none, .ptr, 23, 2, true, pv (pFrac n1 d1), []⟩]) (A1 := []) (G1 := [⟨none, none, 0, pFrac n1 d1⟩, ⟨none, none, 1, pEq (.int .i16 ex)⟩, ⟨some 1, none, 4, pB false⟩]) (V2 := [⟨2, 2, none, none, .ptr, 23, 2, true, pv (pFrac n1 d1), []⟩]) (G2 := [⟨none, none, 1, pEq (.int .i16 ex)⟩, ⟨none, none, 4, pB false⟩]) hI rfl rfl rfl [0, 1] (by kernel_rfl) (by kernel_rfl) ?_ [0] [1, 2] rfl rfl fun a w hI => ?_
  · exact ⟨op_box 0 rfl rfl (by kernel_rfl) (by kernel_rfl) rfl rfl rfl (.tmp 0 rfl rfl) (fits_frac _ _) rfl,
      op_assign (.const _) (.here 2 rfl),
      trivial⟩
  refine wp_seq ?_
  refine seq_text (V1 := [⟨2, 2, none, none, .ptr, 23, 2, true, pv (pFrac n1 d1), []⟩]) (A1 := []) (G1 := [⟨none, none, 1, pEq (.int .i16 ex)⟩, ⟨none, none, 4, pB false⟩, ⟨some 0, none, 9, pEq (.int .i16 ex)⟩, ⟨some 1, none, 10, pB (decide (ex > (1100 : Int)))⟩, ⟨some 2, none, 11, pB (decide (ex > (1100 : Int)))⟩, ⟨some 3, none, 12, pSel ((decide (ex > (1100 : Int))) = false) (pEq (.int .i16 ex))⟩, ⟨some 4, none, 13, pSel ((decide (ex > (1100 : Int))) = false) (pB (decide (ex < (-1100 : Int))))⟩, ⟨some 5, none, 14, pB true⟩]) (V2 := [⟨2, 2, none, none, .ptr, 23, 2, true, pv (pFrac n1 d1), []⟩]) (G2 := [⟨none, none, 1, pEq (.int .i16 ex)⟩, ⟨none, none, 4, pB false⟩, ⟨none, none, 14, pB true⟩]) hI rfl rfl rfl [0, 1, 3, 7, 15, 31] (by kernel_rfl) (by kernel_rfl) ?_ [0] [0, 1, 7] rfl rfl fun a w hI => ?_
  · exact ⟨op_move (.tmp 0 rfl rfl) (.here 2 rfl),
      op_bin (v := .bool (decide (ex > (1100 : Int)))) (.tmp 2 rfl rfl) (.const _) (fun _ => rfl) (.here 3 rfl),
      op_move (.tmp 3 rfl rfl) (.here 4 rfl),
      op_if 4 rfl rfl (fun hc => op_move (.tmp 0 rfl rfl) (.sel hc 5 rfl)) (by kernel_rfl) (fun _ => .none (by kernel_rfl)) (fun hc => .sel_no hc 5 rfl),
      op_if 4 rfl rfl (fun hc => op_bin (v := .bool (decide (ex < (-1100 : Int)))) (.sel (.tmp 5 rfl rfl) hc) (.const _) (fun _ => rfl) (.sel hc 6 rfl)) (by kernel_rfl) (fun _ => .none (by kernel_rfl)) (fun hc => .sel_no hc 6 rfl),
      op_pick (.tmp 4 rfl rfl) (fun h => .imp (.const _) fun _ _ e => by rw [h]; exact e) (fun h => .imp (.sel (.tmp 6 rfl rfl) (h)) fun _ _ e => by rw [h]; exact e) (.at_ 7 _ _ rfl (pB_eq (show ((decide (ex > (1100 : Int))) || (decide (ex < (-1100 : Int)))) = true from by simp; omega))),
      trivial⟩
  refine cond_yes hI 2 rfl ?_
  refine seq_text (V1 := [⟨2, 2, none, none, .ptr, 23, 2, true, pv (pFrac n1 d1), []⟩]) (A1 := []) (G1 := [⟨none, none, 1, pEq (.int .i16 ex)⟩, ⟨none, some 1, 4, pB false⟩, ⟨none, none, 14, pB true⟩, ⟨some 0, none, 15, pB true⟩, ⟨some 1, none, 4, pB true⟩]) (V2 := [⟨2, 2, none, none, .ptr, 23, 2, true, pv (pFrac n1 d1), []⟩]) (G2 := [⟨none, none, 1, pEq (.int .i16 ex)⟩, ⟨none, none, 4, pB true⟩]) hI rfl rfl rfl [0, 1] (by kernel_rfl) (by kernel_rfl) ?_ [0] [0, 3] rfl rfl fun a w hI => ?_
  · exact ⟨op_call0 (fun _ _ => by kernel_rfl) (numlike_eq _)  (.here 3 rfl) (c_awake),
      op_assign (.tmp 3 rfl rfl) (.here 4 rfl),
      trivial⟩
  refine wp_ret ?_
  refine then_ret ?_
  exact fin1 hI rfl (.tmp 1 rfl)
set_option maxRecDepth 100000 in
theorem nears_pos {n1 d1 ex : Int} {x1 : Rat} (e1 : x1 = ofR n1 d1) (f1 : FracOk n1 d1) (hr : -1100 ≤ ex ∧ ex ≤ 1100) (h0 : 0 ≤ ex) : ∀ (M : Nat → Nat → Prop) (w : World) (v0 v1 : Value), Mid M w → Box M (fun w => (pFrac n1 d1) w v0) w → Box M (fun w => (pEq (.int .i16 ex)) w v1) w → Calls Tryz.prog 3 #[v0, v1] w (RetB M (pB true) w) := by
  intro M w0 v0 v1 hM hv0 hv1
  have BX : BdR 64 x1 := e1 ▸ bd_ok f1
  have BB : BdR 64 ((2 : Int) : Rat) := bd_int (by omega) (by omega)
  have B1 : BdR 64 x1 := e1 ▸ bd_ok f1
  have B2 : BdR 64 x1 := e1 ▸ bd_ok f1
  have B3 : BdR 64 ((2 : Int) : Rat) := BdR.mono (bd_int (by omega) (by omega)) (by omega)
  have B4 : BdR 64 ((2 : Int) : Rat) := BdR.mono (bd_int (by omega) (by omega)) (by omega)
  refine calls_start (N := 63) Tryz.func3 rfl rfl rfl hM (show EntsA M w0 [v0, v1] [⟨none, none, 0, pFrac n1 d1⟩, ⟨none, none, 1, pEq (.int .i16 ex)⟩] from ⟨⟨rfl, _, rfl, hv0⟩, ⟨rfl, _, rfl, hv1⟩, trivial⟩) fun a hI => ?_
  refine seq_text (V1 := [⟨2, 2, some 0, none, .ptr, 23, 2, true, pv (pFrac n1 d1), []⟩]) (A1 := []) (G1 := [⟨none, none, 0, pFrac n1 d1⟩, ⟨none, none, 1, pEq (.int .i16 ex)⟩, ⟨some 1, none, 4, pB false⟩]) (V2 := [⟨2, 2, none, none, .ptr, 23, 2, true, pv (pFrac n1 d1), []⟩]) (G2 := [⟨none, none, 1, pEq (.int .i16 ex)⟩, ⟨none, none, 4, pB false⟩]) hI rfl rfl rfl [0, 1] (by kernel_rfl) (by kernel_rfl) ?_ [0] [1, 2] rfl rfl fun a w hI => ?_
  · exact ⟨op_box 0 rfl rfl (by kernel_rfl) (by kernel_rfl) rfl rfl rfl (.tmp 0 rfl rfl) (fits_frac _ _) rfl,
      op_assign (.const _) (.here 2 rfl),
      trivial⟩
  refine wp_seq ?_
  refine seq_text (V1 := [⟨2, 2, none, none, .ptr, 23, 2, true, pv (pFrac n1 d1), []⟩]) (A1 := []) (G1 := [⟨none, none, 1, pEq (.int .i16 ex)⟩, ⟨none, none, 4, pB false⟩, ⟨some 0, none, 9, pEq (.int .i16 ex)⟩, ⟨some 1, none, 10, pB (decide (ex > (1100 : Int)))⟩, ⟨some 2, none, 11, pB (decide (ex > (1100 : Int)))⟩, ⟨some 3, none, 12, pSel ((decide (ex > (1100 : Int))) = false) (pEq (.int .i16 ex))⟩, ⟨some 4, none, 13, pSel ((decide (ex > (1100 : Int))) = false) (pB (decide (ex < (-1100 : Int))))⟩, ⟨some 5, none, 14, pB false⟩]) (V2 := [⟨2, 2, none, none, .ptr, 23, 2, true, pv (pFrac n1 d1), []⟩]) (G2 := [⟨none, none, 1, pEq (.int .i16 ex)⟩, ⟨none, none, 4, pB false⟩, ⟨none, none, 14, pB false⟩]) hI rfl rfl rfl [0, 1, 3, 7, 15, 31] (by kernel_rfl) (by kernel_rfl) ?_ [0] [0, 1, 7] rfl rfl fun a w hI => ?_
  · exact ⟨op_move (.tmp 0 rfl rfl) (.here 2 rfl),
      op_bin (v := .bool (decide (ex > (1100 : Int)))) (.tmp 2 rfl rfl) (.const _) (fun _ => rfl) (.here 3 rfl),
      op_move (.tmp 3 rfl rfl) (.here 4 rfl),
      op_if 4 rfl rfl (fun hc => op_move (.tmp 0 rfl rfl) (.sel hc 5 rfl)) (by kernel_rfl) (fun _ => .none (by kernel_rfl)) (fun hc => .sel_no hc 5 rfl),
      op_if 4 rfl rfl (fun hc => op_bin (v := .bool (decide (ex < (-1100 : Int)))) (.sel (.tmp 5 rfl rfl) hc) (.const _) (fun _ => rfl) (.sel hc 6 rfl)) (by kernel_rfl) (fun _ => .none (by kernel_rfl)) (fun hc => .sel_no hc 6 rfl),
      op_pick (.tmp 4 rfl rfl) (fun h => .imp (.const _) fun _ _ e => by rw [h]; exact e) (fun h => .imp (.sel (.tmp 6 rfl rfl) (h)) fun _ _ e => by rw [h]; exact e) (.at_ 7 _ _ rfl (pB_eq (show ((decide (ex > (1100 : Int))) || (decide (ex < (-1100 : Int)))) = false from by simp; omega))),
      trivial⟩
  refine cond_no hI 2 rfl ?_
  refine wp_skip ?_
  refine then_of ?_
  refine seq_drawn (V1 := [⟨2, 2, none, none, .ptr, 23, 2, true, pv (pFrac n1 d1), []⟩, ⟨5, 5, some 4, none, .ptr, 29, 3, true, pv (pRat 0), [(6, pv (pRat x1))]⟩, ⟨6, 6, some 5, none, .ptr, 33, 3, true, pv pAny, [(7, pv (pRef x1))]⟩]) (A1 := []) (G1 := [⟨none, none, 1, pEq (.int .i16 ex)⟩, ⟨none, none, 4, pB false⟩, ⟨none, none, 14, pB false⟩, ⟨some 0, none, 16, pFrac n1 d1⟩, ⟨some 1, none, 17, pRat x1⟩, ⟨some 2, none, 18, pFrac n1 d1⟩, ⟨some 3, none, 19, pRef x1⟩]) (V2 := [⟨2, 2, none, none, .ptr, 23, 2, true, pv (pFrac n1 d1), []⟩, ⟨5, 5, none, none, .ptr, 29, 3, true, pv (pRat x1), []⟩, ⟨6, 6, none, none, .ptr, 33, 3, true, pv (pRef x1), []⟩]) (G2 := [⟨none, none, 1, pEq (.int .i16 ex)⟩, ⟨none, none, 4, pB false⟩]) hI rfl rfl rfl [0, 1, 0, 7, 0, 0, 63, 127] (by kernel_rfl) (by kernel_rfl) (by kernel_rfl) (by kernel_rfl) ?_ [0, 1, 2] [0, 1] rfl rfl fun a w hI => ?_
  · exact ⟨op_load 0 rfl rfl rfl rfl (by kernel_rfl) ty_Frac rfl (.here 3 rfl),
      op_call1 (fun _ _ => by kernel_rfl) (numlike_rat _) (.tmp 3 rfl rfl) (.here 4 rfl) (c_of e1 f1),
      op_load 0 rfl rfl rfl rfl (by kernel_rfl) ty_Frac rfl (.here 5 rfl),
      op_call1 (fun _ _ => by kernel_rfl) (numlike_ref _) (.tmp 5 rfl rfl) (.here 6 rfl) (cn_ofN e1 f1),
      op_alloc 1 rfl rfl (by kernel_rfl) (by kernel_rfl) rfl rfl rfl zv_Ratio rfl rfl (by simp [NoU]) rfl (fun w => isRat_zero w),
      op_alloc 2 rfl rfl (by kernel_rfl) (by kernel_rfl) rfl rfl rfl zv_R rfl rfl (by simp [NoU]) rfl (fun _ => trivial),
      op_store 1 rfl rfl rfl rfl 0 rfl (by kernel_rfl) (by kernel_rfl) ty_Ratio (.tmp 4 rfl rfl) (fits_rat _),
      op_store 2 rfl rfl rfl rfl 0 rfl (by kernel_rfl) (by kernel_rfl) ty_R (.tmp 6 rfl rfl) (fits_ref _),
      trivial⟩
  refine seq_text (V1 := [⟨2, 2, none, none, .ptr, 23, 2, true, pv (pFrac n1 d1), []⟩, ⟨5, 5, none, none, .ptr, 29, 3, true, pv (pRat x1), []⟩, ⟨6, 6, none, none, .ptr, 33, 3, true, pv (pRef x1), []⟩, ⟨7, 7, some 2, none, .ptr, 29, 3, true, pv (pRat 0), [(4, pv (pRat ((2 : Int) : Rat)))]⟩, ⟨8, 8, some 3, none, .ptr, 33, 3, true, pv pAny, [(5, pv (pRef ((2 : Int) : Rat)))]⟩]) (A1 := []) (G1 := [⟨none, none, 1, pEq (.int .i16 ex)⟩, ⟨none, none, 4, pB false⟩, ⟨some 0, none, 20, pRat ((2 : Int) : Rat)⟩, ⟨some 1, none, 21, pRef ((2 : Int) : Rat)⟩]) (V2 := [⟨2, 2, none, none, .ptr, 23, 2, true, pv (pFrac n1 d1), []⟩, ⟨5, 5, none, none, .ptr, 29, 3, true, pv (pRat x1), []⟩, ⟨6, 6, none, none, .ptr, 33, 3, true, pv (pRef x1), []⟩, ⟨7, 7, none, none, .ptr, 29, 3, true, pv (pRat ((2 : Int) : Rat)), []⟩, ⟨8, 8, none, none, .ptr, 33, 3, true, pv (pRef ((2 : Int) : Rat)), []⟩]) (G2 := [⟨none, none, 1, pEq (.int .i16 ex)⟩, ⟨none, none, 4, pB false⟩]) hI rfl rfl rfl [0, 1, 3, 7, 15, 31] (by kernel_rfl) (by kernel_rfl) ?_ [0, 1, 2, 3, 4] [0, 1] rfl rfl fun a w hI => ?_
  · exact ⟨op_call1 (fun _ _ => by kernel_rfl) (numlike_rat _) (.const _) (.here 2 rfl) (c_int 2 (by omega) (by omega)),
      op_call1 (fun _ _ => by kernel_rfl) (numlike_ref _) (.const _) (.here 3 rfl) (cn_int 2 (by omega) (by omega)),
      op_alloc 3 rfl rfl (by kernel_rfl) (by kernel_rfl) rfl rfl rfl zv_Ratio rfl rfl (by simp [NoU]) rfl (fun w => isRat_zero w),
      op_alloc 4 rfl rfl (by kernel_rfl) (by kernel_rfl) rfl rfl rfl zv_R rfl rfl (by simp [NoU]) rfl (fun _ => trivial),
      op_store 3 rfl rfl rfl rfl 0 rfl (by kernel_rfl) (by kernel_rfl) ty_Ratio (.tmp 2 rfl rfl) (fits_rat _),
      op_store 4 rfl rfl rfl rfl 0 rfl (by kernel_rfl) (by kernel_rfl) ty_R (.tmp 3 rfl rfl) (fits_ref _),
      trivial⟩
  refine wp_seq ?_
  refine seq_text (V1 := [⟨2, 2, none, none, .ptr, 23, 2, true, pv (pFrac n1 d1), []⟩, ⟨5, 5, none, none, .ptr, 29, 3, true, pv (pRat x1), []⟩, ⟨6, 6, none, none, .ptr, 33, 3, true, pv (pRef x1), []⟩, ⟨7, 7, none, none, .ptr, 29, 3, true, pv (pRat ((2 : Int) : Rat)), []⟩, ⟨8, 8, none, none, .ptr, 33, 3, true, pv (pRef ((2 : Int) : Rat)), []⟩]) (A1 := []) (G1 := [⟨none, none, 1, pEq (.int .i16 ex)⟩, ⟨none, none, 4, pB false⟩, ⟨some 0, none, 22, pEq (.int .i16 ex)⟩, ⟨some 1, none, 23, pB false⟩]) (V2 := [⟨2, 2, none, none, .ptr, 23, 2, true, pv (pFrac n1 d1), []⟩, ⟨5, 5, none, none, .ptr, 29, 3, true, pv (pRat x1), []⟩, ⟨6, 6, none, none, .ptr, 33, 3, true, pv (pRef x1), []⟩, ⟨7, 7, none, none, .ptr, 29, 3, true, pv (pRat ((2 : Int) : Rat)), []⟩, ⟨8, 8, none, none, .ptr, 33, 3, true, pv (pRef ((2 : Int) : Rat)), []⟩]) (G2 := [⟨none, none, 1, pEq (.int .i16 ex)⟩, ⟨none, none, 4, pB false⟩, ⟨none, none, 23, pB false⟩]) hI rfl rfl rfl [0, 1] (by kernel_rfl) (by kernel_rfl) ?_ [0, 1, 2, 3, 4] [0, 1, 3] rfl rfl fun a w hI => ?_
  · exact ⟨op_move (.tmp 0 rfl rfl) (.here 2 rfl),
      op_bin (v := .bool (decide (ex < (0 : Int)))) (.tmp 2 rfl rfl) (.const _) (fun _ => rfl) (.at_ 3 _ _ rfl (pB_eq (by simp; omega))),
      trivial⟩
  refine cond_no hI 2 rfl ?_
  refine wp_skip ?_
  refine then_of ?_
  refine wp_seq ?_
  refine seq_text (V1 := [⟨2, 2, none, none, .ptr, 23, 2, true, pv (pFrac n1 d1), []⟩, ⟨5, 5, none, none, .ptr, 29, 3, true, pv (pRat x1), []⟩, ⟨6, 6, none, none, .ptr, 33, 3, true, pv (pRef x1), []⟩, ⟨7, 7, none, none, .ptr, 29, 3, true, pv (pRat ((2 : Int) : Rat)), []⟩, ⟨8, 8, none, none, .ptr, 33, 3, true, pv (pRef ((2 : Int) : Rat)), []⟩]) (A1 := []) (G1 := [⟨none, none, 1, pEq (.int .i16 ex)⟩, ⟨none, none, 4, pB false⟩, ⟨none, none, 23, pB false⟩, ⟨some 0, none, 34, pEq (.int .i16 ex)⟩, ⟨some 1, none, 35, pEq (.int .i16 0)⟩]) (V2 := [⟨2, 2, none, none, .ptr, 23, 2, true, pv (pFrac n1 d1), []⟩, ⟨5, 5, none, none, .ptr, 29, 3, true, pv (pRat x1), []⟩, ⟨6, 6, none, none, .ptr, 33, 3, true, pv (pRef x1), []⟩, ⟨7, 7, none, none, .ptr, 29, 3, true, pv (pRat ((2 : Int) : Rat)), []⟩, ⟨8, 8, none, none, .ptr, 33, 3, true, pv (pRef ((2 : Int) : Rat)), []⟩]) (G2 := [⟨none, none, 4, pB false⟩, ⟨none, none, 34, pEq (.int .i16 ex)⟩, ⟨none, none, 35, pEq (.int .i16 0)⟩]) hI rfl rfl rfl [0, 1] (by kernel_rfl) (by kernel_rfl) ?_ [0, 1, 2, 3, 4] [1, 3, 4] rfl rfl fun a w hI => ?_
  · exact ⟨op_move (.tmp 0 rfl rfl) (.here 3 rfl),
      op_move (.const _) (.here 4 rfl),
      trivial⟩
  refine wp_block ?_
  refine wp_loop_ix (fun (k : Nat) a w => ((k : Int) ≤ ex ∧ (k : Int) ≤ 1100) ∧ Inv ⟨63, w0, M, fun _ => False⟩ [⟨2, 2, none, none, .ptr, 23, 2, true, pv (pFrac n1 d1), []⟩, ⟨5, 5, none, none, .ptr, 29, 3, true, pv (pRat (x1 * ((2 : Int) : Rat) ^ k)), []⟩, ⟨6, 6, none, none, .ptr, 33, 3, true, pv (pRef (x1 * ((2 : Int) : Rat) ^ k)), []⟩, ⟨7, 7, none, none, .ptr, 29, 3, true, pv (pRat ((2 : Int) : Rat)), []⟩, ⟨8, 8, none, none, .ptr, 33, 3, true, pv (pRef ((2 : Int) : Rat)), []⟩] [] [⟨none, none, 4, pB false⟩, ⟨none, none, 34, pEq (.int .i16 ex)⟩, ⟨none, none, 35, pEq (.int .i16 (k : Int))⟩] none_ a w) (fun (k : Nat) => (ex).toNat - k) (0) ⟨⟨by omega, by omega⟩, (hI.conv ⟨⟨0, _, _, rfl, ⟨rfl, rfl, rfl⟩, rfl, fun _ => fun _ _ h => h⟩, ⟨1, _, _, rfl, ⟨rfl, rfl, rfl⟩, rfl, fun _ => (pRat_eqN (by rw [Rat.pow_zero, Rat.mul_one]))⟩, ⟨2, _, _, rfl, ⟨rfl, rfl, rfl⟩, rfl, fun _ => (pRef_eq (by rw [Rat.pow_zero, Rat.mul_one]))⟩, ⟨3, _, _, rfl, ⟨rfl, rfl, rfl⟩, rfl, fun _ => fun _ _ h => h⟩, ⟨4, _, _, rfl, ⟨rfl, rfl, rfl⟩, rfl, fun _ => fun _ _ h => h⟩, trivial⟩ ⟨⟨rfl, rfl, 0, _, rfl, fun _ _ h => h⟩, ⟨rfl, rfl, 1, _, rfl, fun _ _ h => h⟩, ⟨rfl, rfl, 2, _, rfl, (p16_eq rfl)⟩, trivial⟩)⟩ ?_
  intro k a w hIk
  obtain ⟨hp, hI⟩ := hIk
  refine seq_text (V1 := [⟨2, 2, none, none, .ptr, 23, 2, true, pv (pFrac n1 d1), []⟩, ⟨5, 5, none, none, .ptr, 29, 3, true, pv (pRat (x1 * ((2 : Int) : Rat) ^ k)), []⟩, ⟨6, 6, none, none, .ptr, 33, 3, true, pv (pRef (x1 * ((2 : Int) : Rat) ^ k)), []⟩, ⟨7, 7, none, none, .ptr, 29, 3, true, pv (pRat ((2 : Int) : Rat)), []⟩, ⟨8, 8, none, none, .ptr, 33, 3, true, pv (pRef ((2 : Int) : Rat)), []⟩]) (A1 := []) (G1 := [⟨none, none, 4, pB false⟩, ⟨none, none, 34, pEq (.int .i16 ex)⟩, ⟨none, none, 35, pEq (.int .i16 (k : Int))⟩, ⟨some 0, none, 36, pB (decide ((k : Int) < ex))⟩]) (V2 := [⟨2, 2, none, none, .ptr, 23, 2, true, pv (pFrac n1 d1), []⟩, ⟨5, 5, none, none, .ptr, 29, 3, true, pv (pRat (x1 * ((2 : Int) : Rat) ^ k)), []⟩, ⟨6, 6, none, none, .ptr, 33, 3, true, pv (pRef (x1 * ((2 : Int) : Rat) ^ k)), []⟩, ⟨7, 7, none, none, .ptr, 29, 3, true, pv (pRat ((2 : Int) : Rat)), []⟩, ⟨8, 8, none, none, .ptr, 33, 3, true, pv (pRef ((2 : Int) : Rat)), []⟩]) (G2 := [⟨none, none, 4, pB false⟩, ⟨none, none, 34, pEq (.int .i16 ex)⟩, ⟨none, none, 35, pEq (.int .i16 (k : Int))⟩, ⟨none, none, 36, pB (decide ((k : Int) < ex))⟩]) hI rfl rfl rfl [0] (by kernel_rfl) (by kernel_rfl) ?_ [0, 1, 2, 3, 4] [0, 1, 2, 3] rfl rfl fun a w hI => ?_
  · exact ⟨op_bin (v := .bool (decide ((k : Int) < ex))) (.tmp 2 rfl rfl) (.tmp 1 rfl rfl) (fun _ => rfl) (.here 3 rfl),
      trivial⟩
  refine wp_seq ?_
  refine cond_if hI 3 rfl (fun ht => ?_) (fun ht => ?_)
  · have t1 := of_decide_eq_true ht
    refine wp_skip ?_
    refine then_of ?_
    refine wp_seq ?_
    refine wp_block ?_
    refine sem_drawn (V1 := [⟨2, 2, none, none, .ptr, 23, 2, true, pv (pFrac n1 d1), []⟩, ⟨5, 5, none, none, .ptr, 29, 3, true, pv (pRat (x1 * ((2 : Int) : Rat) ^ k)), [(6, pv (pRat ((x1 * ((2 : Int) : Rat) ^ k) * ((2 : Int) : Rat))))]⟩, ⟨6, 6, none, none, .ptr, 33, 3, true, pv (pRef (x1 * ((2 : Int) : Rat) ^ k)), [(7, pv (pRef ((x1 * ((2 : Int) : Rat) ^ k) * ((2 : Int) : Rat))))]⟩, ⟨7, 7, none, none, .ptr, 29, 3, true, pv (pRat ((2 : Int) : Rat)), []⟩, ⟨8, 8, none, none, .ptr, 33, 3, true, pv (pRef ((2 : Int) : Rat)), []⟩]) (A1 := []) (G1 := [⟨none, none, 4, pB false⟩, ⟨none, none, 34, pEq (.int .i16 ex)⟩, ⟨none, none, 35, pEq (.int .i16 (k : Int))⟩, ⟨none, none, 36, pB (decide ((k : Int) < ex))⟩, ⟨some 0, none, 37, pRat (x1 * ((2 : Int) : Rat) ^ k)⟩, ⟨some 1, none, 38, pRat ((2 : Int) : Rat)⟩, ⟨some 2, none, 39, pRat ((x1 * ((2 : Int) : Rat) ^ k) * ((2 : Int) : Rat))⟩, ⟨some 3, none, 40, pRef (x1 * ((2 : Int) : Rat) ^ k)⟩, ⟨some 4, none, 41, pRef ((2 : Int) : Rat)⟩, ⟨some 5, none, 42, pRef ((x1 * ((2 : Int) : Rat) ^ k) * ((2 : Int) : Rat))⟩]) (V2 := [⟨2, 2, none, none, .ptr, 23, 2, true, pv (pFrac n1 d1), []⟩, ⟨5, 5, none, none, .ptr, 29, 3, true, pv (pRat ((x1 * ((2 : Int) : Rat) ^ k) * ((2 : Int) : Rat))), []⟩, ⟨6, 6, none, none, .ptr, 33, 3, true, pv (pRef ((x1 * ((2 : Int) : Rat) ^ k) * ((2 : Int) : Rat))), []⟩, ⟨7, 7, none, none, .ptr, 29, 3, true, pv (pRat ((2 : Int) : Rat)), []⟩, ⟨8, 8, none, none, .ptr, 33, 3, true, pv (pRef ((2 : Int) : Rat)), []⟩]) (G2 := [⟨none, none, 4, pB false⟩, ⟨none, none, 34, pEq (.int .i16 ex)⟩, ⟨none, none, 35, pEq (.int .i16 (k : Int))⟩, ⟨none, none, 36, pB (decide ((k : Int) < ex))⟩, ⟨none, none, 37, pRat (x1 * ((2 : Int) : Rat) ^ k)⟩, ⟨none, none, 38, pRat ((2 : Int) : Rat)⟩, ⟨none, none, 39, pRat ((x1 * ((2 : Int) : Rat) ^ k) * ((2 : Int) : Rat))⟩, ⟨none, none, 40, pRef (x1 * ((2 : Int) : Rat) ^ k)⟩, ⟨none, none, 41, pRef ((2 : Int) : Rat)⟩, ⟨none, none, 42, pRef ((x1 * ((2 : Int) : Rat) ^ k) * ((2 : Int) : Rat))⟩]) hI rfl rfl rfl [0, 0, 3, 0, 0, 31, 63, 127] (by kernel_rfl) (by kernel_rfl) (by kernel_rfl) (by kernel_rfl) ?_ [0, 1, 2, 3, 4] [0, 1, 2, 3, 4, 5, 6, 7, 8, 9] rfl rfl fun a w hI => ?_
    · exact ⟨op_load 1 rfl rfl rfl rfl (by kernel_rfl) ty_Ratio rfl (.here 4 rfl),
        op_load 3 rfl rfl rfl rfl (by kernel_rfl) ty_Ratio rfl (.here 5 rfl),
        op_call2 (fun _ _ => by kernel_rfl) (numlike_rat _) (.tmp 4 rfl rfl) (.tmp 5 rfl rfl) (.here 6 rfl) (c_mul (bd_scale BX BB _) B3 (by omega)),
        op_load 2 rfl rfl rfl rfl (by kernel_rfl) ty_R rfl (.here 7 rfl),
        op_load 4 rfl rfl rfl rfl (by kernel_rfl) ty_R rfl (.here 8 rfl),
        op_call2 (fun _ _ => by kernel_rfl) (numlike_ref _) (.tmp 7 rfl rfl) (.tmp 8 rfl rfl) (.here 9 rfl) (cn_mul (bd_scale BX BB _) B4 (by omega)),
        op_store 1 rfl rfl rfl rfl 0 rfl (by kernel_rfl) (by kernel_rfl) ty_Ratio (.tmp 6 rfl rfl) (fits_rat _),
        op_store 2 rfl rfl rfl rfl 0 rfl (by kernel_rfl) (by kernel_rfl) ty_R (.tmp 9 rfl rfl) (fits_ref _),
        trivial⟩
    refine block_of ?_
    refine then_of ?_
    refine sem_text (V1 := [⟨2, 2, none, none, .ptr, 23, 2, true, pv (pFrac n1 d1), []⟩, ⟨5, 5, none, none, .ptr, 29, 3, true, pv (pRat ((x1 * ((2 : Int) : Rat) ^ k) * ((2 : Int) : Rat))), []⟩, ⟨6, 6, none, none, .ptr, 33, 3, true, pv (pRef ((x1 * ((2 : Int) : Rat) ^ k) * ((2 : Int) : Rat))), []⟩, ⟨7, 7, none, none, .ptr, 29, 3, true, pv (pRat ((2 : Int) : Rat)), []⟩, ⟨8, 8, none, none, .ptr, 33, 3, true, pv (pRef ((2 : Int) : Rat)), []⟩]) (A1 := []) (G1 := [⟨none, none, 4, pB false⟩, ⟨none, none, 34, pEq (.int .i16 ex)⟩, ⟨none, some 1, 35, pEq (.int .i16 (k : Int))⟩, ⟨none, none, 36, pB (decide ((k : Int) < ex))⟩, ⟨none, none, 37, pRat (x1 * ((2 : Int) : Rat) ^ k)⟩, ⟨none, none, 38, pRat ((2 : Int) : Rat)⟩, ⟨none, none, 39, pRat ((x1 * ((2 : Int) : Rat) ^ k) * ((2 : Int) : Rat))⟩, ⟨none, none, 40, pRef (x1 * ((2 : Int) : Rat) ^ k)⟩, ⟨none, none, 41, pRef ((2 : Int) : Rat)⟩, ⟨none, none, 42, pRef ((x1 * ((2 : Int) : Rat) ^ k) * ((2 : Int) : Rat))⟩, ⟨some 0, none, 43, pEq (.int .i16 ((k : Int) + 1))⟩, ⟨some 1, none, 35, pEq (.int .i16 ((k : Int) + 1))⟩]) (V2 := [⟨2, 2, none, none, .ptr, 23, 2, true, pv (pFrac n1 d1), []⟩, ⟨5, 5, none, none, .ptr, 29, 3, true, pv (pRat ((x1 * ((2 : Int) : Rat) ^ k) * ((2 : Int) : Rat))), []⟩, ⟨6, 6, none, none, .ptr, 33, 3, true, pv (pRef ((x1 * ((2 : Int) : Rat) ^ k) * ((2 : Int) : Rat))), []⟩, ⟨7, 7, none, none, .ptr, 29, 3, true, pv (pRat ((2 : Int) : Rat)), []⟩, ⟨8, 8, none, none, .ptr, 33, 3, true, pv (pRef ((2 : Int) : Rat)), []⟩]) (G2 := [⟨none, none, 4, pB false⟩, ⟨none, none, 34, pEq (.int .i16 ex)⟩, ⟨none, none, 36, pB (decide ((k : Int) < ex))⟩, ⟨none, none, 37, pRat (x1 * ((2 : Int) : Rat) ^ k)⟩, ⟨none, none, 38, pRat ((2 : Int) : Rat)⟩, ⟨none, none, 39, pRat ((x1 * ((2 : Int) : Rat) ^ k) * ((2 : Int) : Rat))⟩, ⟨none, none, 40, pRef (x1 * ((2 : Int) : Rat) ^ k)⟩, ⟨none, none, 41, pRef ((2 : Int) : Rat)⟩, ⟨none, none, 42, pRef ((x1 * ((2 : Int) : Rat) ^ k) * ((2 : Int) : Rat))⟩, ⟨none, none, 43, pEq (.int .i16 ((k : Int) + 1))⟩, ⟨none, none, 35, pEq (.int .i16 ((k : Int) + 1))⟩]) hI rfl rfl rfl [0, 1] (by kernel_rfl) (by kernel_rfl) ?_ [0, 1, 2, 3, 4] [0, 1, 2, 3, 4, 5, 6, 7, 8, 9, 10] rfl rfl fun a w hI => ?_
    · exact ⟨op_bin (.tmp 2 rfl rfl) (.const _) (add16 (by omega)) (.here 10 rfl),
        op_move (.tmp 10 rfl rfl) (.here 11 rfl),
        trivial⟩
    refine then_of ?_
    exact ⟨(k + 1), ⟨(show (k : Int) + 1 ≤ ex ∧ (k : Int) + 1 ≤ 1100 by omega), (hI.conv ⟨⟨0, _, _, rfl, ⟨rfl, rfl, rfl⟩, rfl, fun _ => fun _ _ h => h⟩, ⟨1, _, _, rfl, ⟨rfl, rfl, rfl⟩, rfl, fun _ => (pRat_eqN (scale_succ _ _ _))⟩, ⟨2, _, _, rfl, ⟨rfl, rfl, rfl⟩, rfl, fun _ => (pRef_eq (scale_succ _ _ _))⟩, ⟨3, _, _, rfl, ⟨rfl, rfl, rfl⟩, rfl, fun _ => fun _ _ h => h⟩, ⟨4, _, _, rfl, ⟨rfl, rfl, rfl⟩, rfl, fun _ => fun _ _ h => h⟩, trivial⟩ ⟨⟨rfl, rfl, 0, _, rfl, fun _ _ h => h⟩, ⟨rfl, rfl, 1, _, rfl, fun _ _ h => h⟩, ⟨rfl, rfl, 10, _, rfl, (p16_eq (by omega))⟩, trivial⟩)⟩, (show (ex).toNat - (k + 1) < (ex).toNat - k by omega)⟩
  · have t2 := of_decide_eq_false ht
    refine wp_exit ?_
    refine then_exit ?_
    refine then_exit ?_
    refine block_exit ?_
    refine then_of ?_
    refine seq_drawn (V1 := [⟨2, 2, none, none, .ptr, 23, 2, true, pv (pFrac n1 d1), []⟩, ⟨5, 5, none, none, .ptr, 29, 3, true, pv (pRat (x1 * ((2 : Int) : Rat) ^ k)), []⟩, ⟨6, 6, none, none, .ptr, 33, 3, true, pv (pRef (x1 * ((2 : Int) : Rat) ^ k)), []⟩, ⟨7, 7, none, none, .ptr, 29, 3, true, pv (pRat ((2 : Int) : Rat)), []⟩, ⟨8, 8, none, none, .ptr, 33, 3, true, pv (pRef ((2 : Int) : Rat)), []⟩]) (A1 := []) (G1 := [⟨none, some 19, 4, pB false⟩, ⟨none, none, 34, pEq (.int .i16 ex)⟩, ⟨none, none, 35, pEq (.int .i16 (k : Int))⟩, ⟨none, none, 36, pB (decide ((k : Int) < ex))⟩, ⟨some 0, none, 44, pRat (x1 * ((2 : Int) : Rat) ^ k)⟩, ⟨some 1, none, 45, pF (nearW (x1 * ((2 : Int) : Rat) ^ k) 53 (-1074) 1024)⟩, ⟨some 2, none, 46, pU (nearW (x1 * ((2 : Int) : Rat) ^ k) 53 (-1074) 1024)⟩, ⟨some 3, none, 47, pRef (x1 * ((2 : Int) : Rat) ^ k)⟩, ⟨some 4, none, 48, pF (nearW (x1 * ((2 : Int) : Rat) ^ k) 53 (-1074) 1024)⟩, ⟨some 5, none, 49, pU (nearW (x1 * ((2 : Int) : Rat) ^ k) 53 (-1074) 1024)⟩, ⟨some 6, none, 50, pB true⟩, ⟨some 7, none, 51, pB true⟩, ⟨some 8, none, 52, pRat (x1 * ((2 : Int) : Rat) ^ k)⟩, ⟨some 9, none, 53, pF32 (near32W (x1 * ((2 : Int) : Rat) ^ k))⟩, ⟨some 10, none, 54, pEq (.int .u32 ((near32W (x1 * ((2 : Int) : Rat) ^ k) : Nat) : Int))⟩, ⟨some 11, none, 55, pRef (x1 * ((2 : Int) : Rat) ^ k)⟩, ⟨some 12, none, 56, pF32 (near32W (x1 * ((2 : Int) : Rat) ^ k))⟩, ⟨some 13, none, 57, pEq (.int .u32 ((near32W (x1 * ((2 : Int) : Rat) ^ k) : Nat) : Int))⟩, ⟨some 14, none, 58, pB true⟩, ⟨some 15, none, 59, pB true⟩, ⟨some 16, none, 60, pB true⟩, ⟨some 17, none, 61, pB true⟩, ⟨some 18, none, 62, pB true⟩, ⟨some 19, none, 4, pB true⟩]) (V2 := [⟨2, 2, none, none, .ptr, 23, 2, true, pv (pFrac n1 d1), []⟩, ⟨5, 5, none, none, .ptr, 29, 3, true, pv (pRat (x1 * ((2 : Int) : Rat) ^ k)), []⟩, ⟨6, 6, none, none, .ptr, 33, 3, true, pv (pRef (x1 * ((2 : Int) : Rat) ^ k)), []⟩, ⟨7, 7, none, none, .ptr, 29, 3, true, pv (pRat ((2 : Int) : Rat)), []⟩, ⟨8, 8, none, none, .ptr, 33, 3, true, pv (pRef ((2 : Int) : Rat)), []⟩]) (G2 := [⟨none, none, 4, pB true⟩]) hI rfl rfl rfl [0, 1, 3, 0, 15, 31, 63, 127, 255, 511, 1023, 255, 4095, 8191, 16383, 32767, 65535, 131071, 262143, 524287] (by kernel_rfl) (by kernel_rfl) (by kernel_rfl) (by kernel_rfl) ?_ [0, 1, 2, 3, 4] [22] rfl rfl fun a w hI => ?_
    · exact ⟨op_load 1 rfl rfl rfl rfl (by kernel_rfl) ty_Ratio rfl (.here 4 rfl),
        op_callB1 (fun _ _ => by kernel_rfl) (.tmp 4 rfl rfl) (.here 5 rfl) (c_Near (bd_scale BX BB _) (by omega)),
        op_native1 (.tmp 5 rfl rfl) (fun _ => by kernel_rfl) (.here 6 rfl),
        op_load 2 rfl rfl rfl rfl (by kernel_rfl) ty_R rfl (.here 7 rfl),
        op_callB1 (fun _ _ => by kernel_rfl) (.tmp 7 rfl rfl) (.here 8 rfl) (cn_Near (bd_scale BX BB _) (by omega)),
        op_native1 (.tmp 8 rfl rfl) (fun _ => by kernel_rfl) (.here 9 rfl),
        op_bin (v := .bool ((((nearW (x1 * ((2 : Int) : Rat) ^ k) 53 (-1074) 1024 : Nat) : Int) == ((nearW (x1 * ((2 : Int) : Rat) ^ k) 53 (-1074) 1024 : Nat) : Int)))) (.tmp 6 rfl rfl) (.tmp 9 rfl rfl) (fun _ => rfl) (.at_ 10 _ _ rfl (pB_eq (beq_self_eq_true _))),
        op_move (.tmp 10 rfl rfl) (.here 11 rfl),
        op_yes 11 rfl rfl (op_load 1 rfl rfl rfl rfl (by kernel_rfl) ty_Ratio rfl (.here 12 rfl)),
        op_yes 11 rfl rfl (op_callB1 (fun _ _ => by kernel_rfl) (.tmp 12 rfl rfl) (.here 13 rfl) (c_Near32 (bd_scale BX BB _) (by omega))),
        op_yes 11 rfl rfl (op_native1 (.tmp 13 rfl rfl) (fun _ => by kernel_rfl) (.here 14 rfl)),
        op_yes 11 rfl rfl (op_load 2 rfl rfl rfl rfl (by kernel_rfl) ty_R rfl (.here 15 rfl)),
        op_yes 11 rfl rfl (op_callB1 (fun _ _ => by kernel_rfl) (.tmp 15 rfl rfl) (.here 16 rfl) (cn_Near32 (bd_scale BX BB _) (by omega))),
        op_yes 11 rfl rfl (op_native1 (.tmp 16 rfl rfl) (fun _ => by kernel_rfl) (.here 17 rfl)),
        op_yes 11 rfl rfl (op_bin (v := .bool ((((near32W (x1 * ((2 : Int) : Rat) ^ k) : Nat) : Int) == ((near32W (x1 * ((2 : Int) : Rat) ^ k) : Nat) : Int)))) (.tmp 14 rfl rfl) (.tmp 17 rfl rfl) (fun _ => rfl) (.at_ 18 _ _ rfl (pB_eq (beq_self_eq_true _)))),
        op_pick (b := true) (.tmp 11 rfl rfl) (fun _ => (.tmp 18 rfl rfl)) (fun h => by cases h) (.here 19 rfl),
        op_move (.tmp 19 rfl rfl) (.here 20 rfl),
        op_yes 20 rfl rfl (op_call0 (fun _ _ => by kernel_rfl) (numlike_eq _)  (.here 21 rfl) (c_awake)),
        op_pick (b := true) (.tmp 20 rfl rfl) (fun _ => (.tmp 21 rfl rfl)) (fun h => by cases h) (.here 22 rfl),
        op_assign (.tmp 22 rfl rfl) (.here 23 rfl),
        trivial⟩
    refine wp_ret ?_
    exact fin1 hI rfl (.tmp 0 rfl)
set_option maxRecDepth 100000 in
theorem nears_neg {n1 d1 ex : Int} {x1 : Rat} (e1 : x1 = ofR n1 d1) (f1 : FracOk n1 d1) (hr : -1100 ≤ ex ∧ ex ≤ 1100) (h0 : ex < 0) : ∀ (M : Nat → Nat → Prop) (w : World) (v0 v1 : Value), Mid M w → Box M (fun w => (pFrac n1 d1) w v0) w → Box M (fun w => (pEq (.int .i16 ex)) w v1) w → Calls Tryz.prog 3 #[v0, v1] w (RetB M (pB true) w) := by
  intro M w0 v0 v1 hM hv0 hv1
  have BX : BdR 64 x1 := e1 ▸ bd_ok f1
  have BB : BdR 64 (newR (1 : Int) (2 : Int)) := bd_newR (by omega) (by omega) (by omega) (by omega) (by omega)
  have B1 : BdR 64 x1 := e1 ▸ bd_ok f1
  have B2 : BdR 64 x1 := e1 ▸ bd_ok f1
  have B3 : BdR 64 ((2 : Int) : Rat) := BdR.mono (bd_int (by omega) (by omega)) (by omega)
  have B4 : BdR 64 ((2 : Int) : Rat) := BdR.mono (bd_int (by omega) (by omega)) (by omega)
  have B5 : BdR 64 (newR (1 : Int) (2 : Int)) := BdR.mono (bd_newR (by omega) (by omega) (by omega) (by omega) (by omega)) (by omega)
  have B6 : BdR 64 (newR (1 : Int) (2 : Int)) := BdR.mono (bd_newR (by omega) (by omega) (by omega) (by omega) (by omega)) (by omega)
  refine calls_start (N := 63) Tryz.func3 rfl rfl rfl hM (show EntsA M w0 [v0, v1] [⟨none, none, 0, pFrac n1 d1⟩, ⟨none, none, 1, pEq (.int .i16 ex)⟩] from ⟨⟨rfl, _, rfl, hv0⟩, ⟨rfl, _, rfl, hv1⟩, trivial⟩) fun a hI => ?_
  refine seq_text (V1 := [⟨2, 2, some 0, none, .ptr, 23, 2, true, pv (pFrac n1 d1), []⟩]) (A1 := []) (G1 := [⟨none, none, 0, pFrac n1 d1⟩, ⟨none, none, 1, pEq (.int .i16 ex)⟩, ⟨some 1, none, 4, pB false⟩]) (V2 := [⟨2, 2, none, none, .ptr, 23, 2, true, pv (pFrac n1 d1), []⟩]) (G2 := [⟨none, none, 1, pEq (.int .i16 ex)⟩, ⟨none, none, 4, pB false⟩]) hI rfl rfl rfl [0, 1] (by kernel_rfl) (by kernel_rfl) ?_ [0] [1, 2] rfl rfl fun a w hI => ?_
  · exact ⟨op_box 0 rfl rfl (by kernel_rfl) (by kernel_rfl) rfl rfl rfl (.tmp 0 rfl rfl) (fits_frac _ _) rfl,
      op_assign (.const _) (.here 2 rfl),
      trivial⟩
  refine wp_seq ?_
  refine seq_text (V1 := [⟨2, 2, none, none, .ptr, 23, 2, true, pv (pFrac n1 d1), []⟩]) (A1 := []) (G1 := [⟨none, none, 1, pEq (.int .i16 ex)⟩, ⟨none, none, 4, pB false⟩, ⟨some 0, none, 9, pEq (.int .i16 ex)⟩, ⟨some 1, none, 10, pB (decide (ex > (1100 : Int)))⟩, ⟨some 2, none, 11, pB (decide (ex > (1100 : Int)))⟩, ⟨some 3, none, 12, pSel ((decide (ex > (1100 : Int))) = false) (pEq (.int .i16 ex))⟩, ⟨some 4, none, 13, pSel ((decide (ex > (1100 : Int))) = false) (pB (decide (ex < (-1100 : Int))))⟩, ⟨some 5, none, 14, pB false⟩]) (V2 := [⟨2, 2, none, none, .ptr, 23, 2, true, pv (pFrac n1 d1), []⟩]) (G2 := [⟨none, none, 1, pEq (.int .i16 ex)⟩, ⟨none, none, 4, pB false⟩, ⟨none, none, 14, pB false⟩]) hI rfl rfl rfl [0, 1, 3, 7, 15, 31] (by kernel_rfl) (by kernel_rfl) ?_ [0] [0, 1, 7] rfl rfl fun a w hI => ?_
  · exact ⟨op_move (.tmp 0 rfl rfl) (.here 2 rfl),
      op_bin (v := .bool (decide (ex > (1100 : Int)))) (.tmp 2 rfl rfl) (.const _) (fun _ => rfl) (.here 3 rfl),
      op_move (.tmp 3 rfl rfl) (.here 4 rfl),
      op_if 4 rfl rfl (fun hc => op_move (.tmp 0 rfl rfl) (.sel hc 5 rfl)) (by kernel_rfl) (fun _ => .none (by kernel_rfl)) (fun hc => .sel_no hc 5 rfl),
      op_if 4 rfl rfl (fun hc => op_bin (v := .bool (decide (ex < (-1100 : Int)))) (.sel (.tmp 5 rfl rfl) hc) (.const _) (fun _ => rfl) (.sel hc 6 rfl)) (by kernel_rfl) (fun _ => .none (by kernel_rfl)) (fun hc => .sel_no hc 6 rfl),
      op_pick (.tmp 4 rfl rfl) (fun h => .imp (.const _) fun _ _ e => by rw [h]; exact e) (fun h => .imp (.sel (.tmp 6 rfl rfl) (h)) fun _ _ e => by rw [h]; exact e) (.at_ 7 _ _ rfl (pB_eq (show ((decide (ex > (1100 : Int))) || (decide (ex < (-1100 : Int)))) = false from by simp; omega))),
      trivial⟩
  refine cond_no hI 2 rfl ?_
  refine wp_skip ?_
  refine then_of ?_
  refine seq_drawn (V1 := [⟨2, 2, none, none, .ptr, 23, 2, true, pv (pFrac n1 d1), []⟩, ⟨5, 5, some 4, none, .ptr, 29, 3, true, pv (pRat 0), [(6, pv (pRat x1))]⟩, ⟨6, 6, some 5, none, .ptr, 33, 3, true, pv pAny, [(7, pv (pRef x1))]⟩]) (A1 := []) (G1 := [⟨none, none, 1, pEq (.int .i16 ex)⟩, ⟨none, none, 4, pB false⟩, ⟨none, none, 14, pB false⟩, ⟨some 0, none, 16, pFrac n1 d1⟩, ⟨some 1, none, 17, pRat x1⟩, ⟨some 2, none, 18, pFrac n1 d1⟩, ⟨some 3, none, 19, pRef x1⟩]) (V2 := [⟨2, 2, none, none, .ptr, 23, 2, true, pv (pFrac n1 d1), []⟩, ⟨5, 5, none, none, .ptr, 29, 3, true, pv (pRat x1), []⟩, ⟨6, 6, none, none, .ptr, 33, 3, true, pv (pRef x1), []⟩]) (G2 := [⟨none, none, 1, pEq (.int .i16 ex)⟩, ⟨none, none, 4, pB false⟩]) hI rfl rfl rfl [0, 1, 0, 7, 0, 0, 63, 127] (by kernel_rfl) (by kernel_rfl) (by kernel_rfl) (by kernel_rfl) ?_ [0, 1, 2] [0, 1] rfl rfl fun a w hI => ?_
  · exact ⟨op_load 0 rfl rfl rfl rfl (by kernel_rfl) ty_Frac rfl (.here 3 rfl),
      op_call1 (fun _ _ => by kernel_rfl) (numlike_rat _) (.tmp 3 rfl rfl) (.here 4 rfl) (c_of e1 f1),
      op_load 0 rfl rfl rfl rfl (by kernel_rfl) ty_Frac rfl (.here 5 rfl),
      op_call1 (fun _ _ => by kernel_rfl) (numlike_ref _) (.tmp 5 rfl rfl) (.here 6 rfl) (cn_ofN e1 f1),
      op_alloc 1 rfl rfl (by kernel_rfl) (by kernel_rfl) rfl rfl rfl zv_Ratio rfl rfl (by simp [NoU]) rfl (fun w => isRat_zero w),
      op_alloc 2 rfl rfl (by kernel_rfl) (by kernel_rfl) rfl rfl rfl zv_R rfl rfl (by simp [NoU]) rfl (fun _ => trivial),
      op_store 1 rfl rfl rfl rfl 0 rfl (by kernel_rfl) (by kernel_rfl) ty_Ratio (.tmp 4 rfl rfl) (fits_rat _),
      op_store 2 rfl rfl rfl rfl 0 rfl (by kernel_rfl) (by kernel_rfl) ty_R (.tmp 6 rfl rfl) (fits_ref _),
      trivial⟩
  refine seq_text (V1 := [⟨2, 2, none, none, .ptr, 23, 2, true, pv (pFrac n1 d1), []⟩, ⟨5, 5, none, none, .ptr, 29, 3, true, pv (pRat x1), []⟩, ⟨6, 6, none, none, .ptr, 33, 3, true, pv (pRef x1), []⟩, ⟨7, 7, some 2, none, .ptr, 29, 3, true, pv (pRat 0), [(4, pv (pRat ((2 : Int) : Rat)))]⟩, ⟨8, 8, some 3, none, .ptr, 33, 3, true, pv pAny, [(5, pv (pRef ((2 : Int) : Rat)))]⟩]) (A1 := []) (G1 := [⟨none, none, 1, pEq (.int .i16 ex)⟩, ⟨none, none, 4, pB false⟩, ⟨some 0, none, 20, pRat ((2 : Int) : Rat)⟩, ⟨some 1, none, 21, pRef ((2 : Int) : Rat)⟩]) (V2 := [⟨2, 2, none, none, .ptr, 23, 2, true, pv (pFrac n1 d1), []⟩, ⟨5, 5, none, none, .ptr, 29, 3, true, pv (pRat x1), []⟩, ⟨6, 6, none, none, .ptr, 33, 3, true, pv (pRef x1), []⟩, ⟨7, 7, none, none, .ptr, 29, 3, true, pv (pRat ((2 : Int) : Rat)), []⟩, ⟨8, 8, none, none, .ptr, 33, 3, true, pv (pRef ((2 : Int) : Rat)), []⟩]) (G2 := [⟨none, none, 1, pEq (.int .i16 ex)⟩, ⟨none, none, 4, pB false⟩]) hI rfl rfl rfl [0, 1, 3, 7, 15, 31] (by kernel_rfl) (by kernel_rfl) ?_ [0, 1, 2, 3, 4] [0, 1] rfl rfl fun a w hI => ?_
  · exact ⟨op_call1 (fun _ _ => by kernel_rfl) (numlike_rat _) (.const _) (.here 2 rfl) (c_int 2 (by omega) (by omega)),
      op_call1 (fun _ _ => by kernel_rfl) (numlike_ref _) (.const _) (.here 3 rfl) (cn_int 2 (by omega) (by omega)),
      op_alloc 3 rfl rfl (by kernel_rfl) (by kernel_rfl) rfl rfl rfl zv_Ratio rfl rfl (by simp [NoU]) rfl (fun w => isRat_zero w),
      op_alloc 4 rfl rfl (by kernel_rfl) (by kernel_rfl) rfl rfl rfl zv_R rfl rfl (by simp [NoU]) rfl (fun _ => trivial),
      op_store 3 rfl rfl rfl rfl 0 rfl (by kernel_rfl) (by kernel_rfl) ty_Ratio (.tmp 2 rfl rfl) (fits_rat _),
      op_store 4 rfl rfl rfl rfl 0 rfl (by kernel_rfl) (by kernel_rfl) ty_R (.tmp 3 rfl rfl) (fits_ref _),
      trivial⟩
  refine wp_seq ?_
  refine seq_text (V1 := [⟨2, 2, none, none, .ptr, 23, 2, true, pv (pFrac n1 d1), []⟩, ⟨5, 5, none, none, .ptr, 29, 3, true, pv (pRat x1), []⟩, ⟨6, 6, none, none, .ptr, 33, 3, true, pv (pRef x1), []⟩, ⟨7, 7, none, none, .ptr, 29, 3, true, pv (pRat ((2 : Int) : Rat)), []⟩, ⟨8, 8, none, none, .ptr, 33, 3, true, pv (pRef ((2 : Int) : Rat)), []⟩]) (A1 := []) (G1 := [⟨none, none, 1, pEq (.int .i16 ex)⟩, ⟨none, none, 4, pB false⟩, ⟨some 0, none, 22, pEq (.int .i16 ex)⟩, ⟨some 1, none, 23, pB true⟩]) (V2 := [⟨2, 2, none, none, .ptr, 23, 2, true, pv (pFrac n1 d1), []⟩, ⟨5, 5, none, none, .ptr, 29, 3, true, pv (pRat x1), []⟩, ⟨6, 6, none, none, .ptr, 33, 3, true, pv (pRef x1), []⟩, ⟨7, 7, none, none, .ptr, 29, 3, true, pv (pRat ((2 : Int) : Rat)), []⟩, ⟨8, 8, none, none, .ptr, 33, 3, true, pv (pRef ((2 : Int) : Rat)), []⟩]) (G2 := [⟨none, none, 1, pEq (.int .i16 ex)⟩, ⟨none, none, 4, pB false⟩, ⟨none, none, 23, pB true⟩]) hI rfl rfl rfl [0, 1] (by kernel_rfl) (by kernel_rfl) ?_ [0, 1, 2, 3, 4] [0, 1, 3] rfl rfl fun a w hI => ?_
  · exact ⟨op_move (.tmp 0 rfl rfl) (.here 2 rfl),
      op_bin (v := .bool (decide (ex < (0 : Int)))) (.tmp 2 rfl rfl) (.const _) (fun _ => rfl) (.at_ 3 _ _ rfl (pB_eq (by simp; omega))),
      trivial⟩
  refine cond_yes hI 2 rfl ?_
  refine seq_text (V1 := [⟨2, 2, none, none, .ptr, 23, 2, true, pv (pFrac n1 d1), []⟩, ⟨5, 5, none, none, .ptr, 29, 3, true, pv (pRat x1), []⟩, ⟨6, 6, none, none, .ptr, 33, 3, true, pv (pRef x1), []⟩, ⟨7, 7, none, none, .ptr, 29, 3, true, pv (pRat ((2 : Int) : Rat)), [(4, pv (pRat (newR (1 : Int) (2 : Int))))]⟩, ⟨8, 8, none, none, .ptr, 33, 3, true, pv (pRef ((2 : Int) : Rat)), []⟩]) (A1 := []) (G1 := [⟨none, none, 1, pEq (.int .i16 ex)⟩, ⟨none, none, 4, pB false⟩, ⟨none, none, 23, pB true⟩, ⟨some 0, none, 25, pTup2 (pRat (newR (1 : Int) (2 : Int))) (pI 0)⟩, ⟨some 1, none, 24, pTup2 (pRat (newR (1 : Int) (2 : Int))) (pI 0)⟩, ⟨some 2, none, 26, pRat (newR (1 : Int) (2 : Int))⟩, ⟨some 3, none, 27, pI 0⟩]) (V2 := [⟨2, 2, none, none, .ptr, 23, 2, true, pv (pFrac n1 d1), []⟩, ⟨5, 5, none, none, .ptr, 29, 3, true, pv (pRat x1), []⟩, ⟨6, 6, none, none, .ptr, 33, 3, true, pv (pRef x1), []⟩, ⟨7, 7, none, none, .ptr, 29, 3, true, pv (pRat (newR (1 : Int) (2 : Int))), []⟩, ⟨8, 8, none, none, .ptr, 33, 3, true, pv (pRef ((2 : Int) : Rat)), []⟩]) (G2 := [⟨none, none, 1, pEq (.int .i16 ex)⟩, ⟨none, none, 4, pB false⟩]) hI rfl rfl rfl [0, 1, 3, 7, 15] (by kernel_rfl) (by kernel_rfl) ?_ [0, 1, 2, 3, 4] [0, 1] rfl rfl fun a w hI => ?_
  · exact ⟨op_call2 (fun _ _ => by kernel_rfl) (numlike_tup2 (numlike_rat _) (numlike_eq _)) (.const _) (.const _) (.here 3 rfl) (c_new_ok (by omega) (by omega) (by omega) (by omega) (by omega)),
      op_move (.tmp 3 rfl rfl) (.here 4 rfl),
      op_extract (.tmp 4 rfl rfl) ex2_0 (.here 5 rfl),
      op_extract (.tmp 4 rfl rfl) ex2_1 (.here 6 rfl),
      op_store 3 rfl rfl rfl rfl 0 rfl (by kernel_rfl) (by kernel_rfl) ty_Ratio (.tmp 5 rfl rfl) (fits_rat _),
      trivial⟩
  refine seq_text (V1 := [⟨2, 2, none, none, .ptr, 23, 2, true, pv (pFrac n1 d1), []⟩, ⟨5, 5, none, none, .ptr, 29, 3, true, pv (pRat x1), []⟩, ⟨6, 6, none, none, .ptr, 33, 3, true, pv (pRef x1), []⟩, ⟨7, 7, none, none, .ptr, 29, 3, true, pv (pRat (newR (1 : Int) (2 : Int))), []⟩, ⟨8, 8, none, none, .ptr, 33, 3, true, pv (pRef ((2 : Int) : Rat)), [(4, pv (pRef (newR (1 : Int) (2 : Int))))]⟩]) (A1 := []) (G1 := [⟨none, none, 1, pEq (.int .i16 ex)⟩, ⟨none, none, 4, pB false⟩, ⟨some 0, none, 29, pTup2 (pRef (newR (1 : Int) (2 : Int))) (pI 0)⟩, ⟨some 1, none, 28, pTup2 (pRef (newR (1 : Int) (2 : Int))) (pI 0)⟩, ⟨some 2, none, 30, pRef (newR (1 : Int) (2 : Int))⟩, ⟨some 3, none, 31, pI 0⟩]) (V2 := [⟨2, 2, none, none, .ptr, 23, 2, true, pv (pFrac n1 d1), []⟩, ⟨5, 5, none, none, .ptr, 29, 3, true, pv (pRat x1), []⟩, ⟨6, 6, none, none, .ptr, 33, 3, true, pv (pRef x1), []⟩, ⟨7, 7, none, none, .ptr, 29, 3, true, pv (pRat (newR (1 : Int) (2 : Int))), []⟩, ⟨8, 8, none, none, .ptr, 33, 3, true, pv (pRef (newR (1 : Int) (2 : Int))), []⟩]) (G2 := [⟨none, none, 1, pEq (.int .i16 ex)⟩, ⟨none, none, 4, pB false⟩]) hI rfl rfl rfl [0, 1, 3, 7, 15] (by kernel_rfl) (by kernel_rfl) ?_ [0, 1, 2, 3, 4] [0, 1] rfl rfl fun a w hI => ?_
  · exact ⟨op_call2 (fun _ _ => by kernel_rfl) (numlike_tup2 (numlike_ref _) (numlike_eq _)) (.const _) (.const _) (.here 2 rfl) (cn_new_ok (by omega) (by omega) (by omega) (by omega) (by omega)),
      op_move (.tmp 2 rfl rfl) (.here 3 rfl),
      op_extract (.tmp 3 rfl rfl) ex2_0 (.here 4 rfl),
      op_extract (.tmp 3 rfl rfl) ex2_1 (.here 5 rfl),
      op_store 4 rfl rfl rfl rfl 0 rfl (by kernel_rfl) (by kernel_rfl) ty_R (.tmp 4 rfl rfl) (fits_ref _),
      trivial⟩
  refine sem_text (V1 := [⟨2, 2, none, none, .ptr, 23, 2, true, pv (pFrac n1 d1), []⟩, ⟨5, 5, none, none, .ptr, 29, 3, true, pv (pRat x1), []⟩, ⟨6, 6, none, none, .ptr, 33, 3, true, pv (pRef x1), []⟩, ⟨7, 7, none, none, .ptr, 29, 3, true, pv (pRat (newR (1 : Int) (2 : Int))), []⟩, ⟨8, 8, none, none, .ptr, 33, 3, true, pv (pRef (newR (1 : Int) (2 : Int))), []⟩]) (A1 := []) (G1 := [⟨none, some 2, 1, pEq (.int .i16 ex)⟩, ⟨none, none, 4, pB false⟩, ⟨some 0, none, 32, pEq (.int .i16 ex)⟩, ⟨some 1, none, 33, pEq (.int .i16 (-ex))⟩, ⟨some 2, none, 1, pEq (.int .i16 (-ex))⟩]) (V2 := [⟨2, 2, none, none, .ptr, 23, 2, true, pv (pFrac n1 d1), []⟩, ⟨5, 5, none, none, .ptr, 29, 3, true, pv (pRat x1), []⟩, ⟨6, 6, none, none, .ptr, 33, 3, true, pv (pRef x1), []⟩, ⟨7, 7, none, none, .ptr, 29, 3, true, pv (pRat (newR (1 : Int) (2 : Int))), []⟩, ⟨8, 8, none, none, .ptr, 33, 3, true, pv (pRef (newR (1 : Int) (2 : Int))), []⟩]) (G2 := [⟨none, none, 4, pB false⟩, ⟨none, none, 1, pEq (.int .i16 (-ex))⟩]) hI rfl rfl rfl [0, 1, 3] (by kernel_rfl) (by kernel_rfl) ?_ [0, 1, 2, 3, 4] [0, 3] rfl rfl fun a w hI => ?_
  · exact ⟨op_move (.tmp 0 rfl rfl) (.here 2 rfl),
      op_neg16 (.tmp 2 rfl rfl) (by omega) (.here 3 rfl),
      op_assign (.tmp 3 rfl rfl) (.here 4 rfl),
      trivial⟩
  refine then_of ?_
  refine wp_seq ?_
  refine seq_text (V1 := [⟨2, 2, none, none, .ptr, 23, 2, true, pv (pFrac n1 d1), []⟩, ⟨5, 5, none, none, .ptr, 29, 3, true, pv (pRat x1), []⟩, ⟨6, 6, none, none, .ptr, 33, 3, true, pv (pRef x1), []⟩, ⟨7, 7, none, none, .ptr, 29, 3, true, pv (pRat (newR (1 : Int) (2 : Int))), []⟩, ⟨8, 8, none, none, .ptr, 33, 3, true, pv (pRef (newR (1 : Int) (2 : Int))), []⟩]) (A1 := []) (G1 := [⟨none, none, 4, pB false⟩, ⟨none, none, 1, pEq (.int .i16 (-ex))⟩, ⟨some 0, none, 34, pEq (.int .i16 (-ex))⟩, ⟨some 1, none, 35, pEq (.int .i16 0)⟩]) (V2 := [⟨2, 2, none, none, .ptr, 23, 2, true, pv (pFrac n1 d1), []⟩, ⟨5, 5, none, none, .ptr, 29, 3, true, pv (pRat x1), []⟩, ⟨6, 6, none, none, .ptr, 33, 3, true, pv (pRef x1), []⟩, ⟨7, 7, none, none, .ptr, 29, 3, true, pv (pRat (newR (1 : Int) (2 : Int))), []⟩, ⟨8, 8, none, none, .ptr, 33, 3, true, pv (pRef (newR (1 : Int) (2 : Int))), []⟩]) (G2 := [⟨none, none, 4, pB false⟩, ⟨none, none, 34, pEq (.int .i16 (-ex))⟩, ⟨none, none, 35, pEq (.int .i16 0)⟩]) hI rfl rfl rfl [0, 1] (by kernel_rfl) (by kernel_rfl) ?_ [0, 1, 2, 3, 4] [0, 2, 3] rfl rfl fun a w hI => ?_
  · exact ⟨op_move (.tmp 1 rfl rfl) (.here 2 rfl),
      op_move (.const _) (.here 3 rfl),
      trivial⟩
  refine wp_block ?_
  refine wp_loop_ix (fun (k : Nat) a w => ((k : Int) ≤ -ex ∧ (k : Int) ≤ 1100) ∧ Inv ⟨63, w0, M, fun _ => False⟩ [⟨2, 2, none, none, .ptr, 23, 2, true, pv (pFrac n1 d1), []⟩, ⟨5, 5, none, none, .ptr, 29, 3, true, pv (pRat (x1 * (newR (1 : Int) (2 : Int)) ^ k)), []⟩, ⟨6, 6, none, none, .ptr, 33, 3, true, pv (pRef (x1 * (newR (1 : Int) (2 : Int)) ^ k)), []⟩, ⟨7, 7, none, none, .ptr, 29, 3, true, pv (pRat (newR (1 : Int) (2 : Int))), []⟩, ⟨8, 8, none, none, .ptr, 33, 3, true, pv (pRef (newR (1 : Int) (2 : Int))), []⟩] [] [⟨none, none, 4, pB false⟩, ⟨none, none, 34, pEq (.int .i16 (-ex))⟩, ⟨none, none, 35, pEq (.int .i16 (k : Int))⟩] none_ a w) (fun (k : Nat) => (-ex).toNat - k) (0) ⟨⟨by omega, by omega⟩, (hI.conv ⟨⟨0, _, _, rfl, ⟨rfl, rfl, rfl⟩, rfl, fun _ => fun _ _ h => h⟩, ⟨1, _, _, rfl, ⟨rfl, rfl, rfl⟩, rfl, fun _ => (pRat_eqN (by rw [Rat.pow_zero, Rat.mul_one]))⟩, ⟨2, _, _, rfl, ⟨rfl, rfl, rfl⟩, rfl, fun _ => (pRef_eq (by rw [Rat.pow_zero, Rat.mul_one]))⟩, ⟨3, _, _, rfl, ⟨rfl, rfl, rfl⟩, rfl, fun _ => fun _ _ h => h⟩, ⟨4, _, _, rfl, ⟨rfl, rfl, rfl⟩, rfl, fun _ => fun _ _ h => h⟩, trivial⟩ ⟨⟨rfl, rfl, 0, _, rfl, fun _ _ h => h⟩, ⟨rfl, rfl, 1, _, rfl, fun _ _ h => h⟩, ⟨rfl, rfl, 2, _, rfl, (p16_eq rfl)⟩, trivial⟩)⟩ ?_
  intro k a w hIk
  obtain ⟨hp, hI⟩ := hIk
  refine seq_text (V1 := [⟨2, 2, none, none, .ptr, 23, 2, true, pv (pFrac n1 d1), []⟩, ⟨5, 5, none, none, .ptr, 29, 3, true, pv (pRat (x1 * (newR (1 : Int) (2 : Int)) ^ k)), []⟩, ⟨6, 6, none, none, .ptr, 33, 3, true, pv (pRef (x1 * (newR (1 : Int) (2 : Int)) ^ k)), []⟩, ⟨7, 7, none, none, .ptr, 29, 3, true, pv (pRat (newR (1 : Int) (2 : Int))), []⟩, ⟨8, 8, none, none, .ptr, 33, 3, true, pv (pRef (newR (1 : Int) (2 : Int))), []⟩]) (A1 := []) (G1 := [⟨none, none, 4, pB false⟩, ⟨none, none, 34, pEq (.int .i16 (-ex))⟩, ⟨none, none, 35, pEq (.int .i16 (k : Int))⟩, ⟨some 0, none, 36, pB (decide ((k : Int) < (-ex)))⟩]) (V2 := [⟨2, 2, none, none, .ptr, 23, 2, true, pv (pFrac n1 d1), []⟩, ⟨5, 5, none, none, .ptr, 29, 3, true, pv (pRat (x1 * (newR (1 : Int) (2 : Int)) ^ k)), []⟩, ⟨6, 6, none, none, .ptr, 33, 3, true, pv (pRef (x1 * (newR (1 : Int) (2 : Int)) ^ k)), []⟩, ⟨7, 7, none, none, .ptr, 29, 3, true, pv (pRat (newR (1 : Int) (2 : Int))), []⟩, ⟨8, 8, none, none, .ptr, 33, 3, true, pv (pRef (newR (1 : Int) (2 : Int))), []⟩]) (G2 := [⟨none, none, 4, pB false⟩, ⟨none, none, 34, pEq (.int .i16 (-ex))⟩, ⟨none, none, 35, pEq (.int .i16 (k : Int))⟩, ⟨none, none, 36, pB (decide ((k : Int) < (-ex)))⟩]) hI rfl rfl rfl [0] (by kernel_rfl) (by kernel_rfl) ?_ [0, 1, 2, 3, 4] [0, 1, 2, 3] rfl rfl fun a w hI => ?_
  · exact ⟨op_bin (v := .bool (decide ((k : Int) < (-ex)))) (.tmp 2 rfl rfl) (.tmp 1 rfl rfl) (fun _ => rfl) (.here 3 rfl),
      trivial⟩
  refine wp_seq ?_
  refine cond_if hI 3 rfl (fun ht => ?_) (fun ht => ?_)
  · have t1 := of_decide_eq_true ht
    refine wp_skip ?_
    refine then_of ?_
    refine wp_seq ?_
    refine wp_block ?_
    refine sem_drawn (V1 := [⟨2, 2, none, none, .ptr, 23, 2, true, pv (pFrac n1 d1), []⟩, ⟨5, 5, none, none, .ptr, 29, 3, true, pv (pRat (x1 * (newR (1 : Int) (2 : Int)) ^ k)), [(6, pv (pRat ((x1 * (newR (1 : Int) (2 : Int)) ^ k) * (newR (1 : Int) (2 : Int)))))]⟩, ⟨6, 6, none, none, .ptr, 33, 3, true, pv (pRef (x1 * (newR (1 : Int) (2 : Int)) ^ k)), [(7, pv (pRef ((x1 * (newR (1 : Int) (2 : Int)) ^ k) * (newR (1 : Int) (2 : Int)))))]⟩, ⟨7, 7, none, none, .ptr, 29, 3, true, pv (pRat (newR (1 : Int) (2 : Int))), []⟩, ⟨8, 8, none, none, .ptr, 33, 3, true, pv (pRef (newR (1 : Int) (2 : Int))), []⟩]) (A1 := []) (G1 := [⟨none, none, 4, pB false⟩, ⟨none, none, 34, pEq (.int .i16 (-ex))⟩, ⟨none, none, 35, pEq (.int .i16 (k : Int))⟩, ⟨none, none, 36, pB (decide ((k : Int) < (-ex)))⟩, ⟨some 0, none, 37, pRat (x1 * (newR (1 : Int) (2 : Int)) ^ k)⟩, ⟨some 1, none, 38, pRat (newR (1 : Int) (2 : Int))⟩, ⟨some 2, none, 39, pRat ((x1 * (newR (1 : Int) (2 : Int)) ^ k) * (newR (1 : Int) (2 : Int)))⟩, ⟨some 3, none, 40, pRef (x1 * (newR (1 : Int) (2 : Int)) ^ k)⟩, ⟨some 4, none, 41, pRef (newR (1 : Int) (2 : Int))⟩, ⟨some 5, none, 42, pRef ((x1 * (newR (1 : Int) (2 : Int)) ^ k) * (newR (1 : Int) (2 : Int)))⟩]) (V2 := [⟨2, 2, none, none, .ptr, 23, 2, true, pv (pFrac n1 d1), []⟩, ⟨5, 5, none, none, .ptr, 29, 3, true, pv (pRat ((x1 * (newR (1 : Int) (2 : Int)) ^ k) * (newR (1 : Int) (2 : Int)))), []⟩, ⟨6, 6, none, none, .ptr, 33, 3, true, pv (pRef ((x1 * (newR (1 : Int) (2 : Int)) ^ k) * (newR (1 : Int) (2 : Int)))), []⟩, ⟨7, 7, none, none, .ptr, 29, 3, true, pv (pRat (newR (1 : Int) (2 : Int))), []⟩, ⟨8, 8, none, none, .ptr, 33, 3, true, pv (pRef (newR (1 : Int) (2 : Int))), []⟩]) (G2 := [⟨none, none, 4, pB false⟩, ⟨none, none, 34, pEq (.int .i16 (-ex))⟩, ⟨none, none, 35, pEq (.int .i16 (k : Int))⟩, ⟨none, none, 36, pB (decide ((k : Int) < (-ex)))⟩, ⟨none, none, 37, pRat (x1 * (newR (1 : Int) (2 : Int)) ^ k)⟩, ⟨none, none, 38, pRat (newR (1 : Int) (2 : Int))⟩, ⟨none, none, 39, pRat ((x1 * (newR (1 : Int) (2 : Int)) ^ k) * (newR (1 : Int) (2 : Int)))⟩, ⟨none, none, 40, pRef (x1 * (newR (1 : Int) (2 : Int)) ^ k)⟩, ⟨none, none, 41, pRef (newR (1 : Int) (2 : Int))⟩, ⟨none, none, 42, pRef ((x1 * (newR (1 : Int) (2 : Int)) ^ k) * (newR (1 : Int) (2 : Int)))⟩]) hI rfl rfl rfl [0, 0, 3, 0, 0, 31, 63, 127] (by kernel_rfl) (by kernel_rfl) (by kernel_rfl) (by kernel_rfl) ?_ [0, 1, 2, 3, 4] [0, 1, 2, 3, 4, 5, 6, 7, 8, 9] rfl rfl fun a w hI => ?_
    · exact ⟨op_load 1 rfl rfl rfl rfl (by kernel_rfl) ty_Ratio rfl (.here 4 rfl),
        op_load 3 rfl rfl rfl rfl (by kernel_rfl) ty_Ratio rfl (.here 5 rfl),
        op_call2 (fun _ _ => by kernel_rfl) (numlike_rat _) (.tmp 4 rfl rfl) (.tmp 5 rfl rfl) (.here 6 rfl) (c_mul (bd_scale BX BB _) B5 (by omega)),
        op_load 2 rfl rfl rfl rfl (by kernel_rfl) ty_R rfl (.here 7 rfl),
        op_load 4 rfl rfl rfl rfl (by kernel_rfl) ty_R rfl (.here 8 rfl),
        op_call2 (fun _ _ => by kernel_rfl) (numlike_ref _) (.tmp 7 rfl rfl) (.tmp 8 rfl rfl) (.here 9 rfl) (cn_mul (bd_scale BX BB _) B6 (by omega)),
        op_store 1 rfl rfl rfl rfl 0 rfl (by kernel_rfl) (by kernel_rfl) ty_Ratio (.tmp 6 rfl rfl) (fits_rat _),
        op_store 2 rfl rfl rfl rfl 0 rfl (by kernel_rfl) (by kernel_rfl) ty_R (.tmp 9 rfl rfl) (fits_ref _),
        trivial⟩
    refine block_of ?_
    refine then_of ?_
    refine sem_text (V1 := [⟨2, 2, none, none, .ptr, 23, 2, true, pv (pFrac n1 d1), []⟩, ⟨5, 5, none, none, .ptr, 29, 3, true, pv (pRat ((x1 * (newR (1 : Int) (2 : Int)) ^ k) * (newR (1 : Int) (2 : Int)))), []⟩, ⟨6, 6, none, none, .ptr, 33, 3, true, pv (pRef ((x1 * (newR (1 : Int) (2 : Int)) ^ k) * (newR (1 : Int) (2 : Int)))), []⟩, ⟨7, 7, none, none, .ptr, 29, 3, true, pv (pRat (newR (1 : Int) (2 : Int))), []⟩, ⟨8, 8, none, none, .ptr, 33, 3, true, pv (pRef (newR (1 : Int) (2 : Int))), []⟩]) (A1 := []) (G1 := [⟨none, none, 4, pB false⟩, ⟨none, none, 34, pEq (.int .i16 (-ex))⟩, ⟨none, some 1, 35, pEq (.int .i16 (k : Int))⟩, ⟨none, none, 36, pB (decide ((k : Int) < (-ex)))⟩, ⟨none, none, 37, pRat (x1 * (newR (1 : Int) (2 : Int)) ^ k)⟩, ⟨none, none, 38, pRat (newR (1 : Int) (2 : Int))⟩, ⟨none, none, 39, pRat ((x1 * (newR (1 : Int) (2 : Int)) ^ k) * (newR (1 : Int) (2 : Int)))⟩, ⟨none, none, 40, pRef (x1 * (newR (1 : Int) (2 : Int)) ^ k)⟩, ⟨none, none, 41, pRef (newR (1 : Int) (2 : Int))⟩, ⟨none, none, 42, pRef ((x1 * (newR (1 : Int) (2 : Int)) ^ k) * (newR (1 : Int) (2 : Int)))⟩, ⟨some 0, none, 43, pEq (.int .i16 ((k : Int) + 1))⟩, ⟨some 1, none, 35, pEq (.int .i16 ((k : Int) + 1))⟩]) (V2 := [⟨2, 2, none, none, .ptr, 23, 2, true, pv (pFrac n1 d1), []⟩, ⟨5, 5, none, none, .ptr, 29, 3, true, pv (pRat ((x1 * (newR (1 : Int) (2 : Int)) ^ k) * (newR (1 : Int) (2 : Int)))), []⟩, ⟨6, 6, none, none, .ptr, 33, 3, true, pv (pRef ((x1 * (newR (1 : Int) (2 : Int)) ^ k) * (newR (1 : Int) (2 : Int)))), []⟩, ⟨7, 7, none, none, .ptr, 29, 3, true, pv (pRat (newR (1 : Int) (2 : Int))), []⟩, ⟨8, 8, none, none, .ptr, 33, 3, true, pv (pRef (newR (1 : Int) (2 : Int))), []⟩]) (G2 := [⟨none, none, 4, pB false⟩, ⟨none, none, 34, pEq (.int .i16 (-ex))⟩, ⟨none, none, 36, pB (decide ((k : Int) < (-ex)))⟩, ⟨none, none, 37, pRat (x1 * (newR (1 : Int) (2 : Int)) ^ k)⟩, ⟨none, none, 38, pRat (newR (1 : Int) (2 : Int))⟩, ⟨none, none, 39, pRat ((x1 * (newR (1 : Int) (2 : Int)) ^ k) * (newR (1 : Int) (2 : Int)))⟩, ⟨none, none, 40, pRef (x1 * (newR (1 : Int) (2 : Int)) ^ k)⟩, ⟨none, none, 41, pRef (newR (1 : Int) (2 : Int))⟩, ⟨none, none, 42, pRef ((x1 * (newR (1 : Int) (2 : Int)) ^ k) * (newR (1 : Int) (2 : Int)))⟩, ⟨none, none, 43, pEq (.int .i16 ((k : Int) + 1))⟩, ⟨none, none, 35, pEq (.int .i16 ((k : Int) + 1))⟩]) hI rfl rfl rfl [0, 1] (by kernel_rfl) (by kernel_rfl) ?_ [0, 1, 2, 3, 4] [0, 1, 2, 3, 4, 5, 6, 7, 8, 9, 10] rfl rfl fun a w hI => ?_
    · exact ⟨op_bin (.tmp 2 rfl rfl) (.const _) (add16 (by omega)) (.here 10 rfl),
        op_move (.tmp 10 rfl rfl) (.here 11 rfl),
        trivial⟩
    refine then_of ?_
    exact ⟨(k + 1), ⟨(show (k : Int) + 1 ≤ -ex ∧ (k : Int) + 1 ≤ 1100 by omega), (hI.conv ⟨⟨0, _, _, rfl, ⟨rfl, rfl, rfl⟩, rfl, fun _ => fun _ _ h => h⟩, ⟨1, _, _, rfl, ⟨rfl, rfl, rfl⟩, rfl, fun _ => (pRat_eqN (scale_succ _ _ _))⟩, ⟨2, _, _, rfl, ⟨rfl, rfl, rfl⟩, rfl, fun _ => (pRef_eq (scale_succ _ _ _))⟩, ⟨3, _, _, rfl, ⟨rfl, rfl, rfl⟩, rfl, fun _ => fun _ _ h => h⟩, ⟨4, _, _, rfl, ⟨rfl, rfl, rfl⟩, rfl, fun _ => fun _ _ h => h⟩, trivial⟩ ⟨⟨rfl, rfl, 0, _, rfl, fun _ _ h => h⟩, ⟨rfl, rfl, 1, _, rfl, fun _ _ h => h⟩, ⟨rfl, rfl, 10, _, rfl, (p16_eq (by omega))⟩, trivial⟩)⟩, (show (-ex).toNat - (k + 1) < (-ex).toNat - k by omega)⟩
  · have t2 := of_decide_eq_false ht
    refine wp_exit ?_
    refine then_exit ?_
    refine then_exit ?_
    refine block_exit ?_
    refine then_of ?_
    refine seq_drawn (V1 := [⟨2, 2, none, none, .ptr, 23, 2, true, pv (pFrac n1 d1), []⟩, ⟨5, 5, none, none, .ptr, 29, 3, true, pv (pRat (x1 * (newR (1 : Int) (2 : Int)) ^ k)), []⟩, ⟨6, 6, none, none, .ptr, 33, 3, true, pv (pRef (x1 * (newR (1 : Int) (2 : Int)) ^ k)), []⟩, ⟨7, 7, none, none, .ptr, 29, 3, true, pv (pRat (newR (1 : Int) (2 : Int))), []⟩, ⟨8, 8, none, none, .ptr, 33, 3, true, pv (pRef (newR (1 : Int) (2 : Int))), []⟩]) (A1 := []) (G1 := [⟨none, some 19, 4, pB false⟩, ⟨none, none, 34, pEq (.int .i16 (-ex))⟩, ⟨none, none, 35, pEq (.int .i16 (k : Int))⟩, ⟨none, none, 36, pB (decide ((k : Int) < (-ex)))⟩, ⟨some 0, none, 44, pRat (x1 * (newR (1 : Int) (2 : Int)) ^ k)⟩, ⟨some 1, none, 45, pF (nearW (x1 * (newR (1 : Int) (2 : Int)) ^ k) 53 (-1074) 1024)⟩, ⟨some 2, none, 46, pU (nearW (x1 * (newR (1 : Int) (2 : Int)) ^ k) 53 (-1074) 1024)⟩, ⟨some 3, none, 47, pRef (x1 * (newR (1 : Int) (2 : Int)) ^ k)⟩, ⟨some 4, none, 48, pF (nearW (x1 * (newR (1 : Int) (2 : Int)) ^ k) 53 (-1074) 1024)⟩, ⟨some 5, none, 49, pU (nearW (x1 * (newR (1 : Int) (2 : Int)) ^ k) 53 (-1074) 1024)⟩, ⟨some 6, none, 50, pB true⟩, ⟨some 7, none, 51, pB true⟩, ⟨some 8, none, 52, pRat (x1 * (newR (1 : Int) (2 : Int)) ^ k)⟩, ⟨some 9, none, 53, pF32 (near32W (x1 * (newR (1 : Int) (2 : Int)) ^ k))⟩, ⟨some 10, none, 54, pEq (.int .u32 ((near32W (x1 * (newR (1 : Int) (2 : Int)) ^ k) : Nat) : Int))⟩, ⟨some 11, none, 55, pRef (x1 * (newR (1 : Int) (2 : Int)) ^ k)⟩, ⟨some 12, none, 56, pF32 (near32W (x1 * (newR (1 : Int) (2 : Int)) ^ k))⟩, ⟨some 13, none, 57, pEq (.int .u32 ((near32W (x1 * (newR (1 : Int) (2 : Int)) ^ k) : Nat) : Int))⟩, ⟨some 14, none, 58, pB true⟩, ⟨some 15, none, 59, pB true⟩, ⟨some 16, none, 60, pB true⟩, ⟨some 17, none, 61, pB true⟩, ⟨some 18, none, 62, pB true⟩, ⟨some 19, none, 4, pB true⟩]) (V2 := [⟨2, 2, none, none, .ptr, 23, 2, true, pv (pFrac n1 d1), []⟩, ⟨5, 5, none, none, .ptr, 29, 3, true, pv (pRat (x1 * (newR (1 : Int) (2 : Int)) ^ k)), []⟩, ⟨6, 6, none, none, .ptr, 33, 3, true, pv (pRef (x1 * (newR (1 : Int) (2 : Int)) ^ k)), []⟩, ⟨7, 7, none, none, .ptr, 29, 3, true, pv (pRat (newR (1 : Int) (2 : Int))), []⟩, ⟨8, 8, none, none, .ptr, 33, 3, true, pv (pRef (newR (1 : Int) (2 : Int))), []⟩]) (G2 := [⟨none, none, 4, pB true⟩]) hI rfl rfl rfl [0, 1, 3, 0, 15, 31, 63, 127, 255, 511, 1023, 255, 4095, 8191, 16383, 32767, 65535, 131071, 262143, 524287] (by kernel_rfl) (by kernel_rfl) (by kernel_rfl) (by kernel_rfl) ?_ [0, 1, 2, 3, 4] [22] rfl rfl fun a w hI => ?_
    · exact ⟨op_load 1 rfl rfl rfl rfl (by kernel_rfl) ty_Ratio rfl (.here 4 rfl),
        op_callB1 (fun _ _ => by kernel_rfl) (.tmp 4 rfl rfl) (.here 5 rfl) (c_Near (bd_scale BX BB _) (by omega)),
        op_native1 (.tmp 5 rfl rfl) (fun _ => by kernel_rfl) (.here 6 rfl),
        op_load 2 rfl rfl rfl rfl (by kernel_rfl) ty_R rfl (.here 7 rfl),
        op_callB1 (fun _ _ => by kernel_rfl) (.tmp 7 rfl rfl) (.here 8 rfl) (cn_Near (bd_scale BX BB _) (by omega)),
        op_native1 (.tmp 8 rfl rfl) (fun _ => by kernel_rfl) (.here 9 rfl),
        op_bin (v := .bool ((((nearW (x1 * (newR (1 : Int) (2 : Int)) ^ k) 53 (-1074) 1024 : Nat) : Int) == ((nearW (x1 * (newR (1 : Int) (2 : Int)) ^ k) 53 (-1074) 1024 : Nat) : Int)))) (.tmp 6 rfl rfl) (.tmp 9 rfl rfl) (fun _ => rfl) (.at_ 10 _ _ rfl (pB_eq (beq_self_eq_true _))),
        op_move (.tmp 10 rfl rfl) (.here 11 rfl),
        op_yes 11 rfl rfl (op_load 1 rfl rfl rfl rfl (by kernel_rfl) ty_Ratio rfl (.here 12 rfl)),
        op_yes 11 rfl rfl (op_callB1 (fun _ _ => by kernel_rfl) (.tmp 12 rfl rfl) (.here 13 rfl) (c_Near32 (bd_scale BX BB _) (by omega))),
        op_yes 11 rfl rfl (op_native1 (.tmp 13 rfl rfl) (fun _ => by kernel_rfl) (.here 14 rfl)),
        op_yes 11 rfl rfl (op_load 2 rfl rfl rfl rfl (by kernel_rfl) ty_R rfl (.here 15 rfl)),
        op_yes 11 rfl rfl (op_callB1 (fun _ _ => by kernel_rfl) (.tmp 15 rfl rfl) (.here 16 rfl) (cn_Near32 (bd_scale BX BB _) (by omega))),
        op_yes 11 rfl rfl (op_native1 (.tmp 16 rfl rfl) (fun _ => by kernel_rfl) (.here 17 rfl)),
        op_yes 11 rfl rfl (op_bin (v := .bool ((((near32W (x1 * (newR (1 : Int) (2 : Int)) ^ k) : Nat) : Int) == ((near32W (x1 * (newR (1 : Int) (2 : Int)) ^ k) : Nat) : Int)))) (.tmp 14 rfl rfl) (.tmp 17 rfl rfl) (fun _ => rfl) (.at_ 18 _ _ rfl (pB_eq (beq_self_eq_true _)))),
        op_pick (b := true) (.tmp 11 rfl rfl) (fun _ => (.tmp 18 rfl rfl)) (fun h => by cases h) (.here 19 rfl),
        op_move (.tmp 19 rfl rfl) (.here 20 rfl),
        op_yes 20 rfl rfl (op_call0 (fun _ _ => by kernel_rfl) (numlike_eq _)  (.here 21 rfl) (c_awake)),
        op_pick (b := true) (.tmp 20 rfl rfl) (fun _ => (.tmp 21 rfl rfl)) (fun h => by cases h) (.here 22 rfl),
        op_assign (.tmp 22 rfl rfl) (.here 23 rfl),
        trivial⟩
    refine wp_ret ?_
    exact fin1 hI rfl (.tmp 0 rfl)
theorem nears_law (W : World) (n1 d1 e : Int) (f1 : FracOk n1 d1) : Calls Tryz.prog 3 #[.agg #[.int .i64 n1, .int .i64 d1], .int .i16 e] W fun e w' => e = .returned (.bool true) ∧ Below W.heap.size W w' := by
  by_cases h : e > 1100 ∨ e < -1100
  · exact law_true (nears_out rfl f1 h _ W _ _ (mid_none W) (fun w' _ => pFrac_of n1 d1 w') (fun _ _ => rfl))
  · by_cases h0 : e < 0
    · exact law_true (nears_neg rfl f1 (by omega) h0 _ W _ _ (mid_none W) (fun w' _ => pFrac_of n1 d1 w') (fun _ _ => rfl))
    · exact law_true (nears_pos rfl f1 (by omega) (by omega) _ W _ _ (mid_none W) (fun w' _ => pFrac_of n1 d1 w') (fun _ _ => rfl))
end Wx
