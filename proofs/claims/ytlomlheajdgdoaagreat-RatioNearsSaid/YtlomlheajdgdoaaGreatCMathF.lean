import Derived.Handy
import Derived.KernelRfl
import Derived.Test.YtlomlheajdgdoaaGreatProg
import Derived.Test.YtlomlheajdgdoaaGreatJNears0
import Derived.Test.YtlomlheajdgdoaaGreatJNears1
import Derived.Test.YtlomlheajdgdoaaGreatCRat1
import Derived.Test.YtlomlheajdgdoaaGreatJNears10
import Derived.Test.YtlomlheajdgdoaaGreatJNears12
import Derived.Test.YtlomlheajdgdoaaGreatJNears20
import Derived.Test.YtlomlheajdgdoaaGreatCSem
import Derived.Test.YtlomlheajdgdoaaGreatCSemOps
import Derived.Test.YtlomlheajdgdoaaGreatCSemMem
import Derived.Test.YtlomlheajdgdoaaGreatCSemCode
import Derived.Test.YtlomlheajdgdoaaGreatJNears30
import Derived.Test.YtlomlheajdgdoaaGreatJNears31
import Derived.Test.YtlomlheajdgdoaaGreatJNears32
import Derived.Test.YtlomlheajdgdoaaGreatJNears37
import Derived.Test.YtlomlheajdgdoaaGreatCNums
import Derived.Test.YtlomlheajdgdoaaGreatCPlainFloat3
namespace Wx
open Go Go.RowKit Go.Proofs
set_option linter.unusedVariables false
set_option maxRecDepth 100000 in
theorem c_fabs {X : Nat} (hx : X < 2 ^ 64) : ∀ (M : Nat → Nat → Prop) (w : World) (v0 : Value), Mid M w → Box M (fun w => (pF X) w v0) w → Calls Tryz.prog 117 #[v0] w (RetB M (pF (X % 2 ^ 63)) w) := by
  intro M w0 v0 hM hv0
  refine calls_start (N := 7) Tryz.func117 rfl rfl rfl hM (show EntsA M w0 [v0] [⟨none, none, 0, pF X⟩] from ⟨⟨rfl, _, rfl, hv0⟩, trivial⟩) fun a hI => ?_
  refine seq_text (V1 := []) (A1 := []) (G1 := [⟨none, none, 0, pF X⟩, ⟨some 0, none, 2, pF 0⟩]) (V2 := []) (G2 := [⟨none, none, 0, pF X⟩, ⟨none, none, 2, pF 0⟩]) hI rfl rfl rfl [0] (by kernel_rfl) (by kernel_rfl) ?_ [] [0, 1] rfl rfl fun a w hI => ?_
  · exact ⟨op_assign (.const _) (.here 1 rfl),
      trivial⟩
  refine seq_text (V1 := []) (A1 := []) (G1 := [⟨none, none, 0, pF X⟩, ⟨none, some 4, 2, pF 0⟩, ⟨some 0, none, 3, pF X⟩, ⟨some 1, none, 4, pU X⟩, ⟨some 2, none, 5, pU (X % 2 ^ 63)⟩, ⟨some 3, none, 6, pF (X % 2 ^ 63)⟩, ⟨some 4, none, 2, pF (X % 2 ^ 63)⟩]) (V2 := []) (G2 := [⟨none, none, 2, pF (X % 2 ^ 63)⟩]) hI rfl rfl rfl [0, 1, 3, 7, 15] (by kernel_rfl) (by kernel_rfl) ?_ [] [5] rfl rfl fun a w hI => ?_
  · exact ⟨op_move (.tmp 0 rfl rfl) (.here 2 rfl),
      op_native1 (.tmp 2 rfl rfl) (fun _ => by kernel_rfl) (.here 3 rfl),
      op_andNot (.tmp 3 rfl rfl) (.const _) (andNot_sign hx) (Nat.lt_of_le_of_lt (Nat.mod_le _ _) hx) (.here 4 rfl),
      op_native1 (.tmp 4 rfl rfl) (fun _ => by kernel_rfl) (.here 5 rfl),
      op_assign (.tmp 5 rfl rfl) (.here 6 rfl),
      trivial⟩
  refine wp_ret ?_
  exact fin1 hI rfl (.tmp 0 rfl)
set_option maxRecDepth 100000 in
theorem c_isinf {X : Nat} (hx : X < 2 ^ 64) (ho : (Ieee.double.order (X % 2 ^ 63) 9218868437227405311 == some .gt) = false) : ∀ (M : Nat → Nat → Prop) (w : World) (v0 v1 : Value), Mid M w → Box M (fun w => (pF X) w v0) w → Box M (fun w => (pI 0) w v1) w → Calls Tryz.prog 70 #[v0, v1] w (RetB M (pB false) w) := by
  intro M w0 v0 v1 hM hv0 hv1
  refine calls_start (N := 15) Tryz.func70 rfl rfl rfl hM (show EntsA M w0 [v0, v1] [⟨none, none, 0, pF X⟩, ⟨none, none, 1, pI 0⟩] from ⟨⟨rfl, _, rfl, hv0⟩, ⟨rfl, _, rfl, hv1⟩, trivial⟩) fun a hI => ?_
  refine seq_text (V1 := []) (A1 := []) (G1 := [⟨none, none, 0, pF X⟩, ⟨none, none, 1, pI 0⟩, ⟨some 0, none, 4, pB false⟩]) (V2 := []) (G2 := [⟨none, none, 0, pF X⟩, ⟨none, none, 1, pI 0⟩, ⟨none, none, 4, pB false⟩]) hI rfl rfl rfl [0] (by kernel_rfl) (by kernel_rfl) ?_ [] [0, 1, 2] rfl rfl fun a w hI => ?_
  · exact ⟨op_assign (.const _) (.here 2 rfl),
      trivial⟩
  refine wp_seq ?_
  refine seq_text (V1 := []) (A1 := []) (G1 := [⟨none, none, 0, pF X⟩, ⟨none, none, 1, pI 0⟩, ⟨none, none, 4, pB false⟩, ⟨some 0, none, 5, pI 0⟩, ⟨some 1, none, 6, pB true⟩]) (V2 := []) (G2 := [⟨none, none, 0, pF X⟩, ⟨none, none, 1, pI 0⟩, ⟨none, none, 4, pB false⟩, ⟨none, none, 6, pB true⟩]) hI rfl rfl rfl [0, 1] (by kernel_rfl) (by kernel_rfl) ?_ [] [0, 1, 2, 4] rfl rfl fun a w hI => ?_
  · exact ⟨op_move (.tmp 1 rfl rfl) (.here 3 rfl),
      op_bin (v := .bool (true)) (.tmp 3 rfl rfl) (.const _) (fun _ => rfl) (.here 4 rfl),
      trivial⟩
  refine cond_yes hI 3 rfl ?_
  refine sem_text (V1 := []) (A1 := []) (G1 := [⟨none, some 2, 0, pF X⟩, ⟨none, none, 1, pI 0⟩, ⟨none, none, 4, pB false⟩, ⟨none, none, 6, pB true⟩, ⟨some 0, none, 7, pF X⟩, ⟨some 1, none, 8, pF (X % 2 ^ 63)⟩, ⟨some 2, none, 0, pF (X % 2 ^ 63)⟩]) (V2 := []) (G2 := [⟨none, none, 4, pB false⟩, ⟨none, none, 0, pF (X % 2 ^ 63)⟩]) hI rfl rfl rfl [0, 1, 3] (by kernel_rfl) (by kernel_rfl) ?_ [] [1, 5] rfl rfl fun a w hI => ?_
  · exact ⟨op_move (.tmp 0 rfl rfl) (.here 4 rfl),
      op_callB1 (fun _ _ => by kernel_rfl) (.tmp 4 rfl rfl) (.here 5 rfl) (c_fabs hx),
      op_assign (.tmp 5 rfl rfl) (.here 6 rfl),
      trivial⟩
  refine then_of ?_
  refine seq_text (V1 := []) (A1 := []) (G1 := [⟨none, some 2, 4, pB false⟩, ⟨none, none, 0, pF (X % 2 ^ 63)⟩, ⟨some 0, none, 13, pF (X % 2 ^ 63)⟩, ⟨some 1, none, 14, pB false⟩, ⟨some 2, none, 4, pB false⟩]) (V2 := []) (G2 := [⟨none, none, 4, pB false⟩]) hI rfl rfl rfl [0, 1, 3] (by kernel_rfl) (by kernel_rfl) ?_ [] [3] rfl rfl fun a w hI => ?_
  · exact ⟨op_move (.tmp 1 rfl rfl) (.here 2 rfl),
      op_fbin (v := .bool (Ieee.double.order (X % 2 ^ 63) 9218868437227405311 == some .gt)) (.tmp 2 rfl rfl) (.const _) (fun _ => rfl) (.at_ 3 _ _ rfl (pB_eq (ho))),
      op_assign (.tmp 3 rfl rfl) (.here 4 rfl),
      trivial⟩
  refine wp_ret ?_
  exact fin1 hI rfl (.tmp 0 rfl)
set_option maxRecDepth 100000 in
theorem c_isnan {X : Nat} (ho : (Ieee.double.order X X != some .eq) = false) : ∀ (M : Nat → Nat → Prop) (w : World) (v0 : Value), Mid M w → Box M (fun w => (pF X) w v0) w → Calls Tryz.prog 69 #[v0] w (RetB M (pB false) w) := by
  intro M w0 v0 hM hv0
  refine calls_start (N := 6) Tryz.func69 rfl rfl rfl hM (show EntsA M w0 [v0] [⟨none, none, 0, pF X⟩] from ⟨⟨rfl, _, rfl, hv0⟩, trivial⟩) fun a hI => ?_
  refine seq_text (V1 := []) (A1 := []) (G1 := [⟨none, none, 0, pF X⟩, ⟨some 0, none, 2, pB false⟩]) (V2 := []) (G2 := [⟨none, none, 0, pF X⟩, ⟨none, none, 2, pB false⟩]) hI rfl rfl rfl [0] (by kernel_rfl) (by kernel_rfl) ?_ [] [0, 1] rfl rfl fun a w hI => ?_
  · exact ⟨op_assign (.const _) (.here 1 rfl),
      trivial⟩
  refine seq_text (V1 := []) (A1 := []) (G1 := [⟨none, none, 0, pF X⟩, ⟨none, some 3, 2, pB false⟩, ⟨some 0, none, 3, pF X⟩, ⟨some 1, none, 4, pF X⟩, ⟨some 2, none, 5, pB false⟩, ⟨some 3, none, 2, pB false⟩]) (V2 := []) (G2 := [⟨none, none, 2, pB false⟩]) hI rfl rfl rfl [0, 1, 3, 7] (by kernel_rfl) (by kernel_rfl) ?_ [] [4] rfl rfl fun a w hI => ?_
  · exact ⟨op_move (.tmp 0 rfl rfl) (.here 2 rfl),
      op_move (.tmp 0 rfl rfl) (.here 3 rfl),
      op_fbin (v := .bool (Ieee.double.order X X != some .eq)) (.tmp 2 rfl rfl) (.tmp 3 rfl rfl) (fun _ => rfl) (.at_ 4 _ _ rfl (pB_eq (ho))),
      op_assign (.tmp 4 rfl rfl) (.here 5 rfl),
      trivial⟩
  refine wp_ret ?_
  exact fin1 hI rfl (.tmp 0 rfl)
set_option maxRecDepth 100000 in
theorem c_normalize {X : Nat} (hx : X < 2 ^ 64) (ho : (Ieee.double.order (X % 2 ^ 63) 4503599627370496 == some .lt) = false) : ∀ (M : Nat → Nat → Prop) (w : World) (v0 : Value), Mid M w → Box M (fun w => (pF X) w v0) w → Calls Tryz.prog 153 #[v0] w (RetB M (pTup2 (pF X) (pI 0)) w) := by
  intro M w0 v0 hM hv0
  refine calls_start (N := 10) Tryz.func153 rfl rfl rfl hM (show EntsA M w0 [v0] [⟨none, none, 0, pF X⟩] from ⟨⟨rfl, _, rfl, hv0⟩, trivial⟩) fun a hI => ?_
  refine seq_text (V1 := []) (A1 := []) (G1 := [⟨none, none, 0, pF X⟩, ⟨some 0, none, 2, pF 0⟩, ⟨some 1, none, 3, pI 0⟩]) (V2 := []) (G2 := [⟨none, none, 0, pF X⟩, ⟨none, none, 2, pF 0⟩, ⟨none, none, 3, pI 0⟩]) hI rfl rfl rfl [0, 1] (by kernel_rfl) (by kernel_rfl) ?_ [] [0, 1, 2] rfl rfl fun a w hI => ?_
  · exact ⟨op_assign (.const _) (.here 1 rfl),
      op_assign (.const _) (.here 2 rfl),
      trivial⟩
  refine wp_seq ?_
  refine seq_text (V1 := []) (A1 := []) (G1 := [⟨none, none, 0, pF X⟩, ⟨none, none, 2, pF 0⟩, ⟨none, none, 3, pI 0⟩, ⟨some 0, none, 4, pF X⟩, ⟨some 1, none, 5, pF (X % 2 ^ 63)⟩, ⟨some 2, none, 6, pB false⟩]) (V2 := []) (G2 := [⟨none, none, 0, pF X⟩, ⟨none, none, 2, pF 0⟩, ⟨none, none, 3, pI 0⟩, ⟨none, none, 6, pB false⟩]) hI rfl rfl rfl [0, 1, 3] (by kernel_rfl) (by kernel_rfl) ?_ [] [0, 1, 2, 5] rfl rfl fun a w hI => ?_
  · exact ⟨op_move (.tmp 0 rfl rfl) (.here 3 rfl),
      op_callB1 (fun _ _ => by kernel_rfl) (.tmp 3 rfl rfl) (.here 4 rfl) (c_fabs hx),
      op_fbin (v := .bool (Ieee.double.order (X % 2 ^ 63) 4503599627370496 == some .lt)) (.tmp 4 rfl rfl) (.const _) (fun _ => rfl) (.at_ 5 _ _ rfl (pB_eq (ho))),
      trivial⟩
  refine cond_no hI 3 rfl ?_
  refine wp_skip ?_
  refine then_of ?_
  refine seq_text (V1 := []) (A1 := []) (G1 := [⟨none, none, 0, pF X⟩, ⟨none, some 1, 2, pF 0⟩, ⟨none, some 2, 3, pI 0⟩, ⟨none, none, 6, pB false⟩, ⟨some 0, none, 9, pF X⟩, ⟨some 1, none, 2, pF X⟩, ⟨some 2, none, 3, pI 0⟩]) (V2 := []) (G2 := [⟨none, none, 2, pF X⟩, ⟨none, none, 3, pI 0⟩]) hI rfl rfl rfl [0, 1, 3] (by kernel_rfl) (by kernel_rfl) ?_ [] [3, 4] rfl rfl fun a w hI => ?_
  · exact ⟨op_move (.tmp 0 rfl rfl) (.here 4 rfl),
      op_assign (.tmp 4 rfl rfl) (.here 5 rfl),
      op_assign (.const _) (.here 6 rfl),
      trivial⟩
  refine wp_ret ?_
  exact fin2 hI rfl (.tmp 0 rfl) (.tmp 1 rfl)
set_option maxRecDepth 100000 in
theorem c_inf  : ∀ (M : Nat → Nat → Prop) (w : World) (v0 : Value), Mid M w → Box M (fun w => (pI 1) w v0) w → Calls Tryz.prog 110 #[v0] w (RetB M (pF 9218868437227405312) w) := by
  intro M w0 v0 hM hv0
  refine calls_start (N := 8) Tryz.func110 rfl rfl rfl hM (show EntsA M w0 [v0] [⟨none, none, 0, pI 1⟩] from ⟨⟨rfl, _, rfl, hv0⟩, trivial⟩) fun a hI => ?_
  refine seq_text (V1 := []) (A1 := []) (G1 := [⟨none, none, 0, pI 1⟩, ⟨some 0, none, 2, pF 0⟩]) (V2 := []) (G2 := [⟨none, none, 0, pI 1⟩, ⟨none, none, 2, pF 0⟩]) hI rfl rfl rfl [0] (by kernel_rfl) (by kernel_rfl) ?_ [] [0, 1] rfl rfl fun a w hI => ?_
  · exact ⟨op_assign (.const _) (.here 1 rfl),
      trivial⟩
  refine seq_text (V1 := []) (A1 := []) (G1 := [⟨none, none, 0, pI 1⟩, ⟨none, none, 2, pF 0⟩, ⟨some 0, none, 3, pEq (.int .u64 0)⟩]) (V2 := []) (G2 := [⟨none, none, 0, pI 1⟩, ⟨none, none, 2, pF 0⟩, ⟨none, none, 3, pEq (.int .u64 0)⟩]) hI rfl rfl rfl [0] (by kernel_rfl) (by kernel_rfl) ?_ [] [0, 1, 2] rfl rfl fun a w hI => ?_
  · exact ⟨op_assign (.const _) (.here 2 rfl),
      trivial⟩
  refine wp_seq ?_
  refine seq_text (V1 := []) (A1 := []) (G1 := [⟨none, none, 0, pI 1⟩, ⟨none, none, 2, pF 0⟩, ⟨none, none, 3, pEq (.int .u64 0)⟩, ⟨some 0, none, 4, pI 1⟩, ⟨some 1, none, 5, pB true⟩]) (V2 := []) (G2 := [⟨none, none, 2, pF 0⟩, ⟨none, none, 3, pEq (.int .u64 0)⟩, ⟨none, none, 5, pB true⟩]) hI rfl rfl rfl [0, 1] (by kernel_rfl) (by kernel_rfl) ?_ [] [1, 2, 4] rfl rfl fun a w hI => ?_
  · exact ⟨op_move (.tmp 0 rfl rfl) (.here 3 rfl),
      op_bin (v := .bool (true)) (.tmp 3 rfl rfl) (.const _) (fun _ => rfl) (.here 4 rfl),
      trivial⟩
  refine cond_yes hI 2 rfl ?_
  refine sem_text (V1 := []) (A1 := []) (G1 := [⟨none, none, 2, pF 0⟩, ⟨none, some 0, 3, pEq (.int .u64 0)⟩, ⟨none, none, 5, pB true⟩, ⟨some 0, none, 3, pEq (.int .u64 9218868437227405312)⟩]) (V2 := []) (G2 := [⟨none, none, 2, pF 0⟩, ⟨none, none, 3, pEq (.int .u64 9218868437227405312)⟩]) hI rfl rfl rfl [0] (by kernel_rfl) (by kernel_rfl) ?_ [] [0, 2] rfl rfl fun a w hI => ?_
  · exact ⟨op_assign (.const _) (.here 3 rfl),
      trivial⟩
  refine then_of ?_
  refine seq_text (V1 := []) (A1 := []) (G1 := [⟨none, some 2, 2, pF 0⟩, ⟨none, none, 3, pEq (.int .u64 9218868437227405312)⟩, ⟨some 0, none, 6, pEq (.int .u64 9218868437227405312)⟩, ⟨some 1, none, 7, pF 9218868437227405312⟩, ⟨some 2, none, 2, pF 9218868437227405312⟩]) (V2 := []) (G2 := [⟨none, none, 2, pF 9218868437227405312⟩]) hI rfl rfl rfl [0, 1, 3] (by kernel_rfl) (by kernel_rfl) ?_ [] [3] rfl rfl fun a w hI => ?_
  · exact ⟨op_move (.tmp 1 rfl rfl) (.here 2 rfl),
      op_native1 (.tmp 2 rfl rfl) (fun _ => by kernel_rfl) (.here 3 rfl),
      op_assign (.tmp 3 rfl rfl) (.here 4 rfl),
      trivial⟩
  refine wp_ret ?_
  exact fin1 hI rfl (.tmp 0 rfl)
theorem conv_u {z : Int} {n : Nat} (hz : z = (n : Int)) (hn : n < 2 ^ 64) : ∀ w v, pEq (.int .u64 (IntKind.u64.wrap z)) w v → pU n w v := fun _ _ e => by rw [hz, wrap_n64 hn] at e; exact e
theorem mul_field {t : Nat} (h : t ≤ 2046) : t * 2 ^ 52 < 2 ^ 63 := by omega
theorem or_field {t r : Nat} (h : t ≤ 2046) (hr : r < 2 ^ 52) : t * 2 ^ 52 + r < 2 ^ 64 := by omega
set_option maxRecDepth 100000 in
theorem c_ldexp_n {m X : Nat} {e0 last : Int} (hin0 : InDouble m e0) (he0 : 0 ≤ e0 ∧ e0 ≤ 60) (hin : InDouble m (e0 + last)) (eX : X = Ieee.double.nearest false m e0) (hn : -1022 ≤ e0 + last + m.log2) : ∀ (M : Nat → Nat → Prop) (w : World) (v0 v1 : Value), Mid M w → Box M (fun w => (pF X) w v0) w → Box M (fun w => (pI last) w v1) w → Calls Tryz.prog 141 #[v0, v1] w (RetB M (pF (Ieee.double.nearest false m (e0 + last))) w) := by
  intro M w0 v0 v1 hM hv0 hv1
  have hx63 : X < 2 ^ 63 := by rw [eX]; exact nearest_lt hin0 (by omega)
  have hx64 : X < 2 ^ 64 := Nat.lt_trans hx63 (by decide)
  have hxm : X % 2 ^ 63 = X := Nat.mod_eq_of_lt hx63
  have l0 : m.log2 ≤ 52 := hin0.bits
  have hE : X / 2 ^ 52 = (e0 + m.log2 + 1023).toNat := by rw [eX]; exact (ldexp_bits hin0 (by omega) hin0 (by omega)).1
  have l1 : -1074 ≤ e0 + last := hin.least
  have l2 : e0 + last + m.log2 ≤ 1023 := hin.top
  have hin2 : InDouble m (e0 + last) := ⟨hin0.pos, hin0.bits, by omega, by omega⟩
  have hT : (e0 + last + m.log2 + 1023).toNat ≤ 2046 := by omega
  have hr : X % 2 ^ 52 < 2 ^ 52 := Nat.mod_lt _ (Nat.two_pow_pos 52)
  have hW : (e0 + last + m.log2 + 1023).toNat * 2 ^ 52 + X % 2 ^ 52 = Ieee.double.nearest false m (e0 + last) := by rw [Nat.add_comm, eX]; exact (ldexp_bits hin0 (by omega) hin2 (by omega)).2
  refine calls_start (N := 63) Tryz.func141 rfl rfl rfl hM (show EntsA M w0 [v0, v1] [⟨none, none, 0, pF X⟩, ⟨none, none, 1, pI last⟩] from ⟨⟨rfl, _, rfl, hv0⟩, ⟨rfl, _, rfl, hv1⟩, trivial⟩) fun a hI => ?_
  refine seq_text (V1 := []) (A1 := []) (G1 := [⟨none, none, 0, pF X⟩, ⟨none, none, 1, pI last⟩, ⟨some 0, none, 4, pF 0⟩]) (V2 := []) (G2 := [⟨none, none, 0, pF X⟩, ⟨none, none, 1, pI last⟩, ⟨none, none, 4, pF 0⟩]) hI rfl rfl rfl [0] (by kernel_rfl) (by kernel_rfl) ?_ [] [0, 1, 2] rfl rfl fun a w hI => ?_
  · exact ⟨op_assign (.const _) (.here 2 rfl),
      trivial⟩
  refine wp_seq ?_
  refine wp_block ?_
  refine seq_text (V1 := []) (A1 := []) (G1 := [⟨none, none, 0, pF X⟩, ⟨none, none, 1, pI last⟩, ⟨none, none, 4, pF 0⟩, ⟨some 0, none, 9, pF X⟩, ⟨some 1, none, 10, pB false⟩, ⟨some 2, none, 8, pB false⟩]) (V2 := []) (G2 := [⟨none, none, 0, pF X⟩, ⟨none, none, 1, pI last⟩, ⟨none, none, 4, pF 0⟩, ⟨none, none, 8, pB false⟩]) hI rfl rfl rfl [0, 1, 3] (by kernel_rfl) (by kernel_rfl) ?_ [] [0, 1, 2, 5] rfl rfl fun a w hI => ?_
  · exact ⟨op_move (.tmp 0 rfl rfl) (.here 3 rfl),
      op_fbin (v := .bool (Ieee.double.order X 0 == some .eq)) (.tmp 3 rfl rfl) (.const _) (fun _ => rfl) (.at_ 4 _ _ rfl (pB_eq (by rw [eX, order_zero hin0]; rfl))),
      op_assign (.tmp 4 rfl rfl) (.here 5 rfl),
      trivial⟩
  refine cond_no hI 3 rfl ?_
  refine seq_text (V1 := []) (A1 := []) (G1 := [⟨none, none, 0, pF X⟩, ⟨none, none, 1, pI last⟩, ⟨none, none, 4, pF 0⟩, ⟨none, none, 8, pB false⟩, ⟨some 0, none, 13, pF X⟩, ⟨some 1, none, 14, pB false⟩, ⟨some 2, none, 15, pB false⟩, ⟨some 3, none, 16, pF X⟩, ⟨some 4, none, 17, pB false⟩, ⟨some 5, none, 18, pB false⟩, ⟨some 6, none, 12, pB false⟩]) (V2 := []) (G2 := [⟨none, none, 0, pF X⟩, ⟨none, none, 1, pI last⟩, ⟨none, none, 4, pF 0⟩, ⟨none, none, 12, pB false⟩]) hI rfl rfl rfl [0, 1, 3, 7, 15, 31, 63] (by kernel_rfl) (by kernel_rfl) ?_ [] [0, 1, 2, 10] rfl rfl fun a w hI => ?_
  · exact ⟨op_move (.tmp 0 rfl rfl) (.here 4 rfl),
      op_callB2 (fun _ _ => by kernel_rfl) (.tmp 4 rfl rfl) (.const _) (.here 5 rfl) (c_isinf hx64 (by rw [hxm, eX, order_most hin0 (by omega)]; rfl)),
      op_move (.tmp 5 rfl rfl) (.here 6 rfl),
      op_yes 6 rfl rfl (op_move (.tmp 0 rfl rfl) (.here 7 rfl)),
      op_yes 6 rfl rfl (op_callB1 (fun _ _ => by kernel_rfl) (.tmp 7 rfl rfl) (.here 8 rfl) (c_isnan (by rw [eX, order_self hin0]; rfl))),
      op_pick (b := false) (.tmp 6 rfl rfl) (fun h => by cases h) (fun _ => (.tmp 8 rfl rfl)) (.here 9 rfl),
      op_assign (.tmp 9 rfl rfl) (.here 10 rfl),
      trivial⟩
  refine cond_no hI 3 rfl ?_
  refine wp_skip ?_
  refine block_of ?_
  refine then_of ?_
  refine seq_text (V1 := []) (A1 := []) (G1 := [⟨none, some 5, 0, pF X⟩, ⟨none, none, 1, pI last⟩, ⟨none, none, 4, pF 0⟩, ⟨none, none, 12, pB false⟩, ⟨some 0, none, 21, pF X⟩, ⟨some 1, none, 22, pTup2 (pF X) (pI 0)⟩, ⟨some 2, none, 20, pTup2 (pF X) (pI 0)⟩, ⟨some 3, none, 23, pF X⟩, ⟨some 4, none, 24, pI 0⟩, ⟨some 5, none, 0, pF X⟩, ⟨some 6, none, 5, pI 0⟩]) (V2 := []) (G2 := [⟨none, none, 1, pI last⟩, ⟨none, none, 4, pF 0⟩, ⟨none, none, 0, pF X⟩, ⟨none, none, 5, pI 0⟩]) hI rfl rfl rfl [0, 1, 3, 7, 15, 31, 63] (by kernel_rfl) (by kernel_rfl) ?_ [] [0, 1, 8, 9] rfl rfl fun a w hI => ?_
  · exact ⟨op_move (.tmp 0 rfl rfl) (.here 4 rfl),
      op_callB1 (fun _ _ => by kernel_rfl) (.tmp 4 rfl rfl) (.here 5 rfl) (c_normalize hx64 (by rw [hxm, eX, order_normal hin0 (by omega)]; rfl)),
      op_move (.tmp 5 rfl rfl) (.here 6 rfl),
      op_extract (.tmp 6 rfl rfl) ex2_0 (.here 7 rfl),
      op_extract (.tmp 6 rfl rfl) ex2_1 (.here 8 rfl),
      op_assign (.tmp 7 rfl rfl) (.here 9 rfl),
      op_assign (.tmp 8 rfl rfl) (.here 10 rfl),
      trivial⟩
  refine seq_text (V1 := []) (A1 := []) (G1 := [⟨none, some 3, 1, pI last⟩, ⟨none, none, 4, pF 0⟩, ⟨none, none, 0, pF X⟩, ⟨none, none, 5, pI 0⟩, ⟨some 0, none, 25, pI last⟩, ⟨some 1, none, 26, pI 0⟩, ⟨some 2, none, 27, pI (last + (0 : Int))⟩, ⟨some 3, none, 1, pI (last + (0 : Int))⟩]) (V2 := []) (G2 := [⟨none, none, 4, pF 0⟩, ⟨none, none, 0, pF X⟩, ⟨none, none, 1, pI (last + (0 : Int))⟩]) hI rfl rfl rfl [0, 1, 3, 7] (by kernel_rfl) (by kernel_rfl) ?_ [] [0, 1, 6] rfl rfl fun a w hI => ?_
  · exact ⟨op_move (.tmp 0 rfl rfl) (.here 4 rfl),
      op_move (.tmp 3 rfl rfl) (.here 5 rfl),
      op_bin (v := .int .i64 (IntKind.i64.wrap (last + (0 : Int)))) (.tmp 4 rfl rfl) (.tmp 5 rfl rfl) (fun _ => rfl) (.at_ 6 _ _ rfl (pI_wrap (by omega))),
      op_assign (.tmp 6 rfl rfl) (.here 7 rfl),
      trivial⟩
  refine seq_text (V1 := []) (A1 := []) (G1 := [⟨none, none, 4, pF 0⟩, ⟨none, none, 0, pF X⟩, ⟨none, none, 1, pI (last + (0 : Int))⟩, ⟨some 0, none, 28, pF X⟩, ⟨some 1, none, 29, pU X⟩, ⟨some 2, none, 6, pU X⟩]) (V2 := []) (G2 := [⟨none, none, 4, pF 0⟩, ⟨none, none, 0, pF X⟩, ⟨none, none, 1, pI (last + (0 : Int))⟩, ⟨none, none, 6, pU X⟩]) hI rfl rfl rfl [0, 1, 3] (by kernel_rfl) (by kernel_rfl) ?_ [] [0, 1, 2, 5] rfl rfl fun a w hI => ?_
  · exact ⟨op_move (.tmp 1 rfl rfl) (.here 3 rfl),
      op_native1 (.tmp 3 rfl rfl) (fun _ => by kernel_rfl) (.here 4 rfl),
      op_assign (.tmp 4 rfl rfl) (.here 5 rfl),
      trivial⟩
  refine seq_text (V1 := []) (A1 := []) (G1 := [⟨none, none, 4, pF 0⟩, ⟨none, none, 0, pF X⟩, ⟨none, some 7, 1, pI (last + (0 : Int))⟩, ⟨none, none, 6, pU X⟩, ⟨some 0, none, 30, pI (last + (0 : Int))⟩, ⟨some 1, none, 31, pU X⟩, ⟨some 2, none, 32, pU (X / 2 ^ 52)⟩, ⟨some 3, none, 33, pI ((X / 2 ^ 52 : Nat) : Int)⟩, ⟨some 4, none, 34, pI (((e0 + m.log2 + 1023).toNat : Nat) : Int)⟩, ⟨some 5, none, 35, pI ((((e0 + m.log2 + 1023).toNat : Nat) : Int) - (1023 : Int))⟩, ⟨some 6, none, 36, pI ((last + (0 : Int)) + ((((e0 + m.log2 + 1023).toNat : Nat) : Int) - (1023 : Int)))⟩, ⟨some 7, none, 1, pI ((last + (0 : Int)) + ((((e0 + m.log2 + 1023).toNat : Nat) : Int) - (1023 : Int)))⟩]) (V2 := []) (G2 := [⟨none, none, 4, pF 0⟩, ⟨none, none, 0, pF X⟩, ⟨none, none, 6, pU X⟩, ⟨none, none, 1, pI ((last + (0 : Int)) + ((((e0 + m.log2 + 1023).toNat : Nat) : Int) - (1023 : Int)))⟩]) hI rfl rfl rfl [0, 1, 3, 7, 15, 31, 63, 127] (by kernel_rfl) (by kernel_rfl) ?_ [] [0, 1, 2, 10] rfl rfl fun a w hI => ?_
  · exact ⟨op_move (.tmp 2 rfl rfl) (.here 4 rfl),
      op_move (.tmp 3 rfl rfl) (.here 5 rfl),
      op_shr (s := 52) (.tmp 5 rfl rfl) (.const _) (by decide) (.here 6 rfl),
      op_conv (.tmp 6 rfl rfl) (fun _ => by kernel_rfl) (.at_ 7 _ _ rfl (pI_wrap (by omega))),
      op_andI (k := 11) (.tmp 7 rfl rfl) (.const _) rfl (by rw [hE]) (by decide) (by omega) (.here 8 rfl),
      op_bin (v := .int .i64 (IntKind.i64.wrap ((((e0 + m.log2 + 1023).toNat : Nat) : Int) - (1023 : Int)))) (.tmp 8 rfl rfl) (.const _) (fun _ => rfl) (.at_ 9 _ _ rfl (pI_wrap (by omega))),
      op_bin (v := .int .i64 (IntKind.i64.wrap ((last + (0 : Int)) + ((((e0 + m.log2 + 1023).toNat : Nat) : Int) - (1023 : Int))))) (.tmp 4 rfl rfl) (.tmp 9 rfl rfl) (fun _ => rfl) (.at_ 10 _ _ rfl (pI_wrap (by omega))),
      op_assign (.tmp 10 rfl rfl) (.here 11 rfl),
      trivial⟩
  refine wp_seq ?_
  refine seq_text (V1 := []) (A1 := []) (G1 := [⟨none, none, 4, pF 0⟩, ⟨none, none, 0, pF X⟩, ⟨none, none, 6, pU X⟩, ⟨none, none, 1, pI ((last + (0 : Int)) + ((((e0 + m.log2 + 1023).toNat : Nat) : Int) - (1023 : Int)))⟩, ⟨some 0, none, 37, pI ((last + (0 : Int)) + ((((e0 + m.log2 + 1023).toNat : Nat) : Int) - (1023 : Int)))⟩, ⟨some 1, none, 38, pB false⟩]) (V2 := []) (G2 := [⟨none, none, 4, pF 0⟩, ⟨none, none, 0, pF X⟩, ⟨none, none, 6, pU X⟩, ⟨none, none, 1, pI ((last + (0 : Int)) + ((((e0 + m.log2 + 1023).toNat : Nat) : Int) - (1023 : Int)))⟩, ⟨none, none, 38, pB false⟩]) hI rfl rfl rfl [0, 1] (by kernel_rfl) (by kernel_rfl) ?_ [] [0, 1, 2, 3, 5] rfl rfl fun a w hI => ?_
  · exact ⟨op_move (.tmp 3 rfl rfl) (.here 4 rfl),
      op_bin (v := .bool (decide (((last + (0 : Int)) + ((((e0 + m.log2 + 1023).toNat : Nat) : Int) - (1023 : Int))) < (-1075 : Int)))) (.tmp 4 rfl rfl) (.const _) (fun _ => rfl) (.at_ 5 _ _ rfl (pB_eq (decide_eq_false (by omega)))),
      trivial⟩
  refine cond_no hI 4 rfl ?_
  refine wp_skip ?_
  refine then_of ?_
  refine wp_seq ?_
  refine seq_text (V1 := []) (A1 := []) (G1 := [⟨none, none, 4, pF 0⟩, ⟨none, none, 0, pF X⟩, ⟨none, none, 6, pU X⟩, ⟨none, none, 1, pI ((last + (0 : Int)) + ((((e0 + m.log2 + 1023).toNat : Nat) : Int) - (1023 : Int)))⟩, ⟨none, none, 38, pB false⟩, ⟨some 0, none, 41, pI ((last + (0 : Int)) + ((((e0 + m.log2 + 1023).toNat : Nat) : Int) - (1023 : Int)))⟩, ⟨some 1, none, 42, pB false⟩]) (V2 := []) (G2 := [⟨none, none, 4, pF 0⟩, ⟨none, none, 0, pF X⟩, ⟨none, none, 6, pU X⟩, ⟨none, none, 1, pI ((last + (0 : Int)) + ((((e0 + m.log2 + 1023).toNat : Nat) : Int) - (1023 : Int)))⟩, ⟨none, none, 42, pB false⟩]) hI rfl rfl rfl [0, 1] (by kernel_rfl) (by kernel_rfl) ?_ [] [0, 1, 2, 3, 6] rfl rfl fun a w hI => ?_
  · exact ⟨op_move (.tmp 3 rfl rfl) (.here 5 rfl),
      op_bin (v := .bool (decide (((last + (0 : Int)) + ((((e0 + m.log2 + 1023).toNat : Nat) : Int) - (1023 : Int))) > (1023 : Int)))) (.tmp 5 rfl rfl) (.const _) (fun _ => rfl) (.at_ 6 _ _ rfl (pB_eq (decide_eq_false (by omega)))),
      trivial⟩
  refine cond_no hI 4 rfl ?_
  refine wp_skip ?_
  refine then_of ?_
  refine seq_text (V1 := []) (A1 := []) (G1 := [⟨none, none, 4, pF 0⟩, ⟨none, none, 0, pF X⟩, ⟨none, none, 6, pU X⟩, ⟨none, none, 1, pI ((last + (0 : Int)) + ((((e0 + m.log2 + 1023).toNat : Nat) : Int) - (1023 : Int)))⟩, ⟨none, none, 42, pB false⟩, ⟨some 0, none, 7, pF 4607182418800017408⟩]) (V2 := []) (G2 := [⟨none, none, 4, pF 0⟩, ⟨none, none, 6, pU X⟩, ⟨none, none, 1, pI ((last + (0 : Int)) + ((((e0 + m.log2 + 1023).toNat : Nat) : Int) - (1023 : Int)))⟩, ⟨none, none, 7, pF 4607182418800017408⟩]) hI rfl rfl rfl [0] (by kernel_rfl) (by kernel_rfl) ?_ [] [0, 2, 3, 5] rfl rfl fun a w hI => ?_
  · exact ⟨op_assign (.const _) (.here 5 rfl),
      trivial⟩
  refine wp_seq ?_
  refine seq_text (V1 := []) (A1 := []) (G1 := [⟨none, none, 4, pF 0⟩, ⟨none, none, 6, pU X⟩, ⟨none, none, 1, pI ((last + (0 : Int)) + ((((e0 + m.log2 + 1023).toNat : Nat) : Int) - (1023 : Int)))⟩, ⟨none, none, 7, pF 4607182418800017408⟩, ⟨some 0, none, 47, pI ((last + (0 : Int)) + ((((e0 + m.log2 + 1023).toNat : Nat) : Int) - (1023 : Int)))⟩, ⟨some 1, none, 48, pB false⟩]) (V2 := []) (G2 := [⟨none, none, 4, pF 0⟩, ⟨none, none, 6, pU X⟩, ⟨none, none, 1, pI ((last + (0 : Int)) + ((((e0 + m.log2 + 1023).toNat : Nat) : Int) - (1023 : Int)))⟩, ⟨none, none, 7, pF 4607182418800017408⟩, ⟨none, none, 48, pB false⟩]) hI rfl rfl rfl [0, 1] (by kernel_rfl) (by kernel_rfl) ?_ [] [0, 1, 2, 3, 5] rfl rfl fun a w hI => ?_
  · exact ⟨op_move (.tmp 2 rfl rfl) (.here 4 rfl),
      op_bin (v := .bool (decide (((last + (0 : Int)) + ((((e0 + m.log2 + 1023).toNat : Nat) : Int) - (1023 : Int))) < (-1022 : Int)))) (.tmp 4 rfl rfl) (.const _) (fun _ => rfl) (.at_ 5 _ _ rfl (pB_eq (decide_eq_false (by omega)))),
      trivial⟩
  refine cond_no hI 4 rfl ?_
  refine wp_skip ?_
  refine then_of ?_
  refine seq_text (V1 := []) (A1 := []) (G1 := [⟨none, none, 4, pF 0⟩, ⟨none, some 2, 6, pU X⟩, ⟨none, none, 1, pI ((last + (0 : Int)) + ((((e0 + m.log2 + 1023).toNat : Nat) : Int) - (1023 : Int)))⟩, ⟨none, none, 7, pF 4607182418800017408⟩, ⟨none, none, 48, pB false⟩, ⟨some 0, none, 51, pU X⟩, ⟨some 1, none, 52, pU (X % 2 ^ 52)⟩, ⟨some 2, none, 6, pU (X % 2 ^ 52)⟩]) (V2 := []) (G2 := [⟨none, none, 4, pF 0⟩, ⟨none, none, 1, pI ((last + (0 : Int)) + ((((e0 + m.log2 + 1023).toNat : Nat) : Int) - (1023 : Int)))⟩, ⟨none, none, 7, pF 4607182418800017408⟩, ⟨none, none, 6, pU (X % 2 ^ 52)⟩]) hI rfl rfl rfl [0, 1, 3] (by kernel_rfl) (by kernel_rfl) ?_ [] [0, 1, 2, 6] rfl rfl fun a w hI => ?_
  · exact ⟨op_move (.tmp 1 rfl rfl) (.here 5 rfl),
      op_andNot (.tmp 5 rfl rfl) (.const _) (andNot_mask hx63) (Nat.lt_of_le_of_lt (Nat.mod_le _ _) hx64) (.here 6 rfl),
      op_assign (.tmp 6 rfl rfl) (.here 7 rfl),
      trivial⟩
  refine seq_text (V1 := []) (A1 := []) (G1 := [⟨none, none, 4, pF 0⟩, ⟨none, none, 1, pI ((last + (0 : Int)) + ((((e0 + m.log2 + 1023).toNat : Nat) : Int) - (1023 : Int)))⟩, ⟨none, none, 7, pF 4607182418800017408⟩, ⟨none, some 6, 6, pU (X % 2 ^ 52)⟩, ⟨some 0, none, 53, pU (X % 2 ^ 52)⟩, ⟨some 1, none, 54, pI ((last + (0 : Int)) + ((((e0 + m.log2 + 1023).toNat : Nat) : Int) - (1023 : Int)))⟩, ⟨some 2, none, 55, pI (((last + (0 : Int)) + ((((e0 + m.log2 + 1023).toNat : Nat) : Int) - (1023 : Int))) + (1023 : Int))⟩, ⟨some 3, none, 56, pU ((e0 + last + m.log2 + 1023).toNat)⟩, ⟨some 4, none, 57, pU ((e0 + last + m.log2 + 1023).toNat * 2 ^ 52)⟩, ⟨some 5, none, 58, pU ((e0 + last + m.log2 + 1023).toNat * 2 ^ 52 + X % 2 ^ 52)⟩, ⟨some 6, none, 6, pU ((e0 + last + m.log2 + 1023).toNat * 2 ^ 52 + X % 2 ^ 52)⟩]) (V2 := []) (G2 := [⟨none, none, 4, pF 0⟩, ⟨none, none, 7, pF 4607182418800017408⟩, ⟨none, none, 6, pU ((e0 + last + m.log2 + 1023).toNat * 2 ^ 52 + X % 2 ^ 52)⟩]) hI rfl rfl rfl [0, 1, 3, 7, 15, 31, 63] (by kernel_rfl) (by kernel_rfl) ?_ [] [0, 2, 9] rfl rfl fun a w hI => ?_
  · exact ⟨op_move (.tmp 3 rfl rfl) (.here 4 rfl),
      op_move (.tmp 1 rfl rfl) (.here 5 rfl),
      op_bin (v := .int .i64 (IntKind.i64.wrap (((last + (0 : Int)) + ((((e0 + m.log2 + 1023).toNat : Nat) : Int) - (1023 : Int))) + (1023 : Int)))) (.tmp 5 rfl rfl) (.const _) (fun _ => rfl) (.at_ 6 _ _ rfl (pI_wrap (by omega))),
      op_conv (.tmp 6 rfl rfl) (fun _ => by kernel_rfl) (.at_ 7 _ _ rfl (conv_u (z := last + (0 : Int) + ((((e0 + m.log2 + 1023).toNat : Nat) : Int) - (1023 : Int)) + (1023 : Int)) (n := (e0 + last + m.log2 + 1023).toNat) (by omega) (by omega))),
      op_shl (s := 52) (.tmp 7 rfl rfl) (.const _) (by decide) (Nat.lt_trans (mul_field hT) (by decide)) (.here 8 rfl),
      op_orDisj (q := (e0 + last + m.log2 + 1023).toNat) (k := 52) (.tmp 4 rfl rfl) (.tmp 8 rfl rfl) rfl hr (or_field hT hr) rfl (.here 9 rfl),
      op_assign (.tmp 9 rfl rfl) (.here 10 rfl),
      trivial⟩
  refine seq_text (V1 := []) (A1 := []) (G1 := [⟨none, some 4, 4, pF 0⟩, ⟨none, none, 7, pF 4607182418800017408⟩, ⟨none, none, 6, pU ((e0 + last + m.log2 + 1023).toNat * 2 ^ 52 + X % 2 ^ 52)⟩, ⟨some 0, none, 59, pF 4607182418800017408⟩, ⟨some 1, none, 60, pU ((e0 + last + m.log2 + 1023).toNat * 2 ^ 52 + X % 2 ^ 52)⟩, ⟨some 2, none, 61, pF ((e0 + last + m.log2 + 1023).toNat * 2 ^ 52 + X % 2 ^ 52)⟩, ⟨some 3, none, 62, pF (Ieee.double.nearest false m (e0 + last))⟩, ⟨some 4, none, 4, pF (Ieee.double.nearest false m (e0 + last))⟩]) (V2 := []) (G2 := [⟨none, none, 4, pF (Ieee.double.nearest false m (e0 + last))⟩]) hI rfl rfl rfl [0, 1, 3, 7, 15] (by kernel_rfl) (by kernel_rfl) ?_ [] [6] rfl rfl fun a w hI => ?_
  · exact ⟨op_move (.tmp 1 rfl rfl) (.here 3 rfl),
      op_move (.tmp 2 rfl rfl) (.here 4 rfl),
      op_native1 (.tmp 4 rfl rfl) (fun _ => by kernel_rfl) (.here 5 rfl),
      op_fmul (.tmp 3 rfl rfl) (.tmp 5 rfl rfl) (by rw [hW]; exact double_sign hin2 false false) (.here 6 rfl),
      op_assign (.tmp 6 rfl rfl) (.here 7 rfl),
      trivial⟩
  refine wp_ret ?_
  exact fin1 hI rfl (.tmp 0 rfl)
set_option maxRecDepth 100000 in
theorem c_ldexp_s {m X : Nat} {e0 last : Int} (hin0 : InDouble m e0) (he0 : 0 ≤ e0 ∧ e0 ≤ 60) (hin : InDouble m (e0 + last)) (eX : X = Ieee.double.nearest false m e0) (hn : ¬ -1022 ≤ e0 + last + m.log2) : ∀ (M : Nat → Nat → Prop) (w : World) (v0 v1 : Value), Mid M w → Box M (fun w => (pF X) w v0) w → Box M (fun w => (pI last) w v1) w → Calls Tryz.prog 141 #[v0, v1] w (RetB M (pF (Ieee.double.nearest false m (e0 + last))) w) := by
  intro M w0 v0 v1 hM hv0 hv1
  have hx63 : X < 2 ^ 63 := by rw [eX]; exact nearest_lt hin0 (by omega)
  have hx64 : X < 2 ^ 64 := Nat.lt_trans hx63 (by decide)
  have hxm : X % 2 ^ 63 = X := Nat.mod_eq_of_lt hx63
  have l0 : m.log2 ≤ 52 := hin0.bits
  have hE : X / 2 ^ 52 = (e0 + m.log2 + 1023).toNat := by rw [eX]; exact (ldexp_bits hin0 (by omega) hin0 (by omega)).1
  have l1 : -1074 ≤ e0 + last := hin.least
  have l2 : e0 + last + m.log2 ≤ 1023 := hin.top
  have hin2 : InDouble m (e0 + last + 53) := ⟨hin0.pos, hin0.bits, by omega, by omega⟩
  have hT : (e0 + last + 53 + m.log2 + 1023).toNat ≤ 2046 := by omega
  have hr : X % 2 ^ 52 < 2 ^ 52 := Nat.mod_lt _ (Nat.two_pow_pos 52)
  have hW : (e0 + last + 53 + m.log2 + 1023).toNat * 2 ^ 52 + X % 2 ^ 52 = Ieee.double.nearest false m (e0 + last + 53) := by rw [Nat.add_comm, eX]; exact (ldexp_bits hin0 (by omega) hin2 (by omega)).2
  refine calls_start (N := 63) Tryz.func141 rfl rfl rfl hM (show EntsA M w0 [v0, v1] [⟨none, none, 0, pF X⟩, ⟨none, none, 1, pI last⟩] from ⟨⟨rfl, _, rfl, hv0⟩, ⟨rfl, _, rfl, hv1⟩, trivial⟩) fun a hI => ?_
  refine seq_text (V1 := []) (A1 := []) (G1 := [⟨none, none, 0, pF X⟩, ⟨none, none, 1, pI last⟩, ⟨some 0, none, 4, pF 0⟩]) (V2 := []) (G2 := [⟨none, none, 0, pF X⟩, ⟨none, none, 1, pI last⟩, ⟨none, none, 4, pF 0⟩]) hI rfl rfl rfl [0] (by kernel_rfl) (by kernel_rfl) ?_ [] [0, 1, 2] rfl rfl fun a w hI => ?_
  · exact ⟨op_assign (.const _) (.here 2 rfl),
      trivial⟩
  refine wp_seq ?_
  refine wp_block ?_
  refine seq_text (V1 := []) (A1 := []) (G1 := [⟨none, none, 0, pF X⟩, ⟨none, none, 1, pI last⟩, ⟨none, none, 4, pF 0⟩, ⟨some 0, none, 9, pF X⟩, ⟨some 1, none, 10, pB false⟩, ⟨some 2, none, 8, pB false⟩]) (V2 := []) (G2 := [⟨none, none, 0, pF X⟩, ⟨none, none, 1, pI last⟩, ⟨none, none, 4, pF 0⟩, ⟨none, none, 8, pB false⟩]) hI rfl rfl rfl [0, 1, 3] (by kernel_rfl) (by kernel_rfl) ?_ [] [0, 1, 2, 5] rfl rfl fun a w hI => ?_
  · exact ⟨op_move (.tmp 0 rfl rfl) (.here 3 rfl),
      op_fbin (v := .bool (Ieee.double.order X 0 == some .eq)) (.tmp 3 rfl rfl) (.const _) (fun _ => rfl) (.at_ 4 _ _ rfl (pB_eq (by rw [eX, order_zero hin0]; rfl))),
      op_assign (.tmp 4 rfl rfl) (.here 5 rfl),
      trivial⟩
  refine cond_no hI 3 rfl ?_
  refine seq_text (V1 := []) (A1 := []) (G1 := [⟨none, none, 0, pF X⟩, ⟨none, none, 1, pI last⟩, ⟨none, none, 4, pF 0⟩, ⟨none, none, 8, pB false⟩, ⟨some 0, none, 13, pF X⟩, ⟨some 1, none, 14, pB false⟩, ⟨some 2, none, 15, pB false⟩, ⟨some 3, none, 16, pF X⟩, ⟨some 4, none, 17, pB false⟩, ⟨some 5, none, 18, pB false⟩, ⟨some 6, none, 12, pB false⟩]) (V2 := []) (G2 := [⟨none, none, 0, pF X⟩, ⟨none, none, 1, pI last⟩, ⟨none, none, 4, pF 0⟩, ⟨none, none, 12, pB false⟩]) hI rfl rfl rfl [0, 1, 3, 7, 15, 31, 63] (by kernel_rfl) (by kernel_rfl) ?_ [] [0, 1, 2, 10] rfl rfl fun a w hI => ?_
  · exact ⟨op_move (.tmp 0 rfl rfl) (.here 4 rfl),
      op_callB2 (fun _ _ => by kernel_rfl) (.tmp 4 rfl rfl) (.const _) (.here 5 rfl) (c_isinf hx64 (by rw [hxm, eX, order_most hin0 (by omega)]; rfl)),
      op_move (.tmp 5 rfl rfl) (.here 6 rfl),
      op_yes 6 rfl rfl (op_move (.tmp 0 rfl rfl) (.here 7 rfl)),
      op_yes 6 rfl rfl (op_callB1 (fun _ _ => by kernel_rfl) (.tmp 7 rfl rfl) (.here 8 rfl) (c_isnan (by rw [eX, order_self hin0]; rfl))),
      op_pick (b := false) (.tmp 6 rfl rfl) (fun h => by cases h) (fun _ => (.tmp 8 rfl rfl)) (.here 9 rfl),
      op_assign (.tmp 9 rfl rfl) (.here 10 rfl),
      trivial⟩
  refine cond_no hI 3 rfl ?_
  refine wp_skip ?_
  refine block_of ?_
  refine then_of ?_
  refine seq_text (V1 := []) (A1 := []) (G1 := [⟨none, some 5, 0, pF X⟩, ⟨none, none, 1, pI last⟩, ⟨none, none, 4, pF 0⟩, ⟨none, none, 12, pB false⟩, ⟨some 0, none, 21, pF X⟩, ⟨some 1, none, 22, pTup2 (pF X) (pI 0)⟩, ⟨some 2, none, 20, pTup2 (pF X) (pI 0)⟩, ⟨some 3, none, 23, pF X⟩, ⟨some 4, none, 24, pI 0⟩, ⟨some 5, none, 0, pF X⟩, ⟨some 6, none, 5, pI 0⟩]) (V2 := []) (G2 := [⟨none, none, 1, pI last⟩, ⟨none, none, 4, pF 0⟩, ⟨none, none, 0, pF X⟩, ⟨none, none, 5, pI 0⟩]) hI rfl rfl rfl [0, 1, 3, 7, 15, 31, 63] (by kernel_rfl) (by kernel_rfl) ?_ [] [0, 1, 8, 9] rfl rfl fun a w hI => ?_
  · exact ⟨op_move (.tmp 0 rfl rfl) (.here 4 rfl),
      op_callB1 (fun _ _ => by kernel_rfl) (.tmp 4 rfl rfl) (.here 5 rfl) (c_normalize hx64 (by rw [hxm, eX, order_normal hin0 (by omega)]; rfl)),
      op_move (.tmp 5 rfl rfl) (.here 6 rfl),
      op_extract (.tmp 6 rfl rfl) ex2_0 (.here 7 rfl),
      op_extract (.tmp 6 rfl rfl) ex2_1 (.here 8 rfl),
      op_assign (.tmp 7 rfl rfl) (.here 9 rfl),
      op_assign (.tmp 8 rfl rfl) (.here 10 rfl),
      trivial⟩
  refine seq_text (V1 := []) (A1 := []) (G1 := [⟨none, some 3, 1, pI last⟩, ⟨none, none, 4, pF 0⟩, ⟨none, none, 0, pF X⟩, ⟨none, none, 5, pI 0⟩, ⟨some 0, none, 25, pI last⟩, ⟨some 1, none, 26, pI 0⟩, ⟨some 2, none, 27, pI (last + (0 : Int))⟩, ⟨some 3, none, 1, pI (last + (0 : Int))⟩]) (V2 := []) (G2 := [⟨none, none, 4, pF 0⟩, ⟨none, none, 0, pF X⟩, ⟨none, none, 1, pI (last + (0 : Int))⟩]) hI rfl rfl rfl [0, 1, 3, 7] (by kernel_rfl) (by kernel_rfl) ?_ [] [0, 1, 6] rfl rfl fun a w hI => ?_
  · exact ⟨op_move (.tmp 0 rfl rfl) (.here 4 rfl),
      op_move (.tmp 3 rfl rfl) (.here 5 rfl),
      op_bin (v := .int .i64 (IntKind.i64.wrap (last + (0 : Int)))) (.tmp 4 rfl rfl) (.tmp 5 rfl rfl) (fun _ => rfl) (.at_ 6 _ _ rfl (pI_wrap (by omega))),
      op_assign (.tmp 6 rfl rfl) (.here 7 rfl),
      trivial⟩
  refine seq_text (V1 := []) (A1 := []) (G1 := [⟨none, none, 4, pF 0⟩, ⟨none, none, 0, pF X⟩, ⟨none, none, 1, pI (last + (0 : Int))⟩, ⟨some 0, none, 28, pF X⟩, ⟨some 1, none, 29, pU X⟩, ⟨some 2, none, 6, pU X⟩]) (V2 := []) (G2 := [⟨none, none, 4, pF 0⟩, ⟨none, none, 0, pF X⟩, ⟨none, none, 1, pI (last + (0 : Int))⟩, ⟨none, none, 6, pU X⟩]) hI rfl rfl rfl [0, 1, 3] (by kernel_rfl) (by kernel_rfl) ?_ [] [0, 1, 2, 5] rfl rfl fun a w hI => ?_
  · exact ⟨op_move (.tmp 1 rfl rfl) (.here 3 rfl),
      op_native1 (.tmp 3 rfl rfl) (fun _ => by kernel_rfl) (.here 4 rfl),
      op_assign (.tmp 4 rfl rfl) (.here 5 rfl),
      trivial⟩
  refine seq_text (V1 := []) (A1 := []) (G1 := [⟨none, none, 4, pF 0⟩, ⟨none, none, 0, pF X⟩, ⟨none, some 7, 1, pI (last + (0 : Int))⟩, ⟨none, none, 6, pU X⟩, ⟨some 0, none, 30, pI (last + (0 : Int))⟩, ⟨some 1, none, 31, pU X⟩, ⟨some 2, none, 32, pU (X / 2 ^ 52)⟩, ⟨some 3, none, 33, pI ((X / 2 ^ 52 : Nat) : Int)⟩, ⟨some 4, none, 34, pI (((e0 + m.log2 + 1023).toNat : Nat) : Int)⟩, ⟨some 5, none, 35, pI ((((e0 + m.log2 + 1023).toNat : Nat) : Int) - (1023 : Int))⟩, ⟨some 6, none, 36, pI ((last + (0 : Int)) + ((((e0 + m.log2 + 1023).toNat : Nat) : Int) - (1023 : Int)))⟩, ⟨some 7, none, 1, pI ((last + (0 : Int)) + ((((e0 + m.log2 + 1023).toNat : Nat) : Int) - (1023 : Int)))⟩]) (V2 := []) (G2 := [⟨none, none, 4, pF 0⟩, ⟨none, none, 0, pF X⟩, ⟨none, none, 6, pU X⟩, ⟨none, none, 1, pI ((last + (0 : Int)) + ((((e0 + m.log2 + 1023).toNat : Nat) : Int) - (1023 : Int)))⟩]) hI rfl rfl rfl [0, 1, 3, 7, 15, 31, 63, 127] (by kernel_rfl) (by kernel_rfl) ?_ [] [0, 1, 2, 10] rfl rfl fun a w hI => ?_
  · exact ⟨op_move (.tmp 2 rfl rfl) (.here 4 rfl),
      op_move (.tmp 3 rfl rfl) (.here 5 rfl),
      op_shr (s := 52) (.tmp 5 rfl rfl) (.const _) (by decide) (.here 6 rfl),
      op_conv (.tmp 6 rfl rfl) (fun _ => by kernel_rfl) (.at_ 7 _ _ rfl (pI_wrap (by omega))),
      op_andI (k := 11) (.tmp 7 rfl rfl) (.const _) rfl (by rw [hE]) (by decide) (by omega) (.here 8 rfl),
      op_bin (v := .int .i64 (IntKind.i64.wrap ((((e0 + m.log2 + 1023).toNat : Nat) : Int) - (1023 : Int)))) (.tmp 8 rfl rfl) (.const _) (fun _ => rfl) (.at_ 9 _ _ rfl (pI_wrap (by omega))),
      op_bin (v := .int .i64 (IntKind.i64.wrap ((last + (0 : Int)) + ((((e0 + m.log2 + 1023).toNat : Nat) : Int) - (1023 : Int))))) (.tmp 4 rfl rfl) (.tmp 9 rfl rfl) (fun _ => rfl) (.at_ 10 _ _ rfl (pI_wrap (by omega))),
      op_assign (.tmp 10 rfl rfl) (.here 11 rfl),
      trivial⟩
  refine wp_seq ?_
  refine seq_text (V1 := []) (A1 := []) (G1 := [⟨none, none, 4, pF 0⟩, ⟨none, none, 0, pF X⟩, ⟨none, none, 6, pU X⟩, ⟨none, none, 1, pI ((last + (0 : Int)) + ((((e0 + m.log2 + 1023).toNat : Nat) : Int) - (1023 : Int)))⟩, ⟨some 0, none, 37, pI ((last + (0 : Int)) + ((((e0 + m.log2 + 1023).toNat : Nat) : Int) - (1023 : Int)))⟩, ⟨some 1, none, 38, pB false⟩]) (V2 := []) (G2 := [⟨none, none, 4, pF 0⟩, ⟨none, none, 0, pF X⟩, ⟨none, none, 6, pU X⟩, ⟨none, none, 1, pI ((last + (0 : Int)) + ((((e0 + m.log2 + 1023).toNat : Nat) : Int) - (1023 : Int)))⟩, ⟨none, none, 38, pB false⟩]) hI rfl rfl rfl [0, 1] (by kernel_rfl) (by kernel_rfl) ?_ [] [0, 1, 2, 3, 5] rfl rfl fun a w hI => ?_
  · exact ⟨op_move (.tmp 3 rfl rfl) (.here 4 rfl),
      op_bin (v := .bool (decide (((last + (0 : Int)) + ((((e0 + m.log2 + 1023).toNat : Nat) : Int) - (1023 : Int))) < (-1075 : Int)))) (.tmp 4 rfl rfl) (.const _) (fun _ => rfl) (.at_ 5 _ _ rfl (pB_eq (decide_eq_false (by omega)))),
      trivial⟩
  refine cond_no hI 4 rfl ?_
  refine wp_skip ?_
  refine then_of ?_
  refine wp_seq ?_
  refine seq_text (V1 := []) (A1 := []) (G1 := [⟨none, none, 4, pF 0⟩, ⟨none, none, 0, pF X⟩, ⟨none, none, 6, pU X⟩, ⟨none, none, 1, pI ((last + (0 : Int)) + ((((e0 + m.log2 + 1023).toNat : Nat) : Int) - (1023 : Int)))⟩, ⟨none, none, 38, pB false⟩, ⟨some 0, none, 41, pI ((last + (0 : Int)) + ((((e0 + m.log2 + 1023).toNat : Nat) : Int) - (1023 : Int)))⟩, ⟨some 1, none, 42, pB false⟩]) (V2 := []) (G2 := [⟨none, none, 4, pF 0⟩, ⟨none, none, 0, pF X⟩, ⟨none, none, 6, pU X⟩, ⟨none, none, 1, pI ((last + (0 : Int)) + ((((e0 + m.log2 + 1023).toNat : Nat) : Int) - (1023 : Int)))⟩, ⟨none, none, 42, pB false⟩]) hI rfl rfl rfl [0, 1] (by kernel_rfl) (by kernel_rfl) ?_ [] [0, 1, 2, 3, 6] rfl rfl fun a w hI => ?_
  · exact ⟨op_move (.tmp 3 rfl rfl) (.here 5 rfl),
      op_bin (v := .bool (decide (((last + (0 : Int)) + ((((e0 + m.log2 + 1023).toNat : Nat) : Int) - (1023 : Int))) > (1023 : Int)))) (.tmp 5 rfl rfl) (.const _) (fun _ => rfl) (.at_ 6 _ _ rfl (pB_eq (decide_eq_false (by omega)))),
      trivial⟩
  refine cond_no hI 4 rfl ?_
  refine wp_skip ?_
  refine then_of ?_
  refine seq_text (V1 := []) (A1 := []) (G1 := [⟨none, none, 4, pF 0⟩, ⟨none, none, 0, pF X⟩, ⟨none, none, 6, pU X⟩, ⟨none, none, 1, pI ((last + (0 : Int)) + ((((e0 + m.log2 + 1023).toNat : Nat) : Int) - (1023 : Int)))⟩, ⟨none, none, 42, pB false⟩, ⟨some 0, none, 7, pF 4607182418800017408⟩]) (V2 := []) (G2 := [⟨none, none, 4, pF 0⟩, ⟨none, none, 6, pU X⟩, ⟨none, none, 1, pI ((last + (0 : Int)) + ((((e0 + m.log2 + 1023).toNat : Nat) : Int) - (1023 : Int)))⟩, ⟨none, none, 7, pF 4607182418800017408⟩]) hI rfl rfl rfl [0] (by kernel_rfl) (by kernel_rfl) ?_ [] [0, 2, 3, 5] rfl rfl fun a w hI => ?_
  · exact ⟨op_assign (.const _) (.here 5 rfl),
      trivial⟩
  refine wp_seq ?_
  refine seq_text (V1 := []) (A1 := []) (G1 := [⟨none, none, 4, pF 0⟩, ⟨none, none, 6, pU X⟩, ⟨none, none, 1, pI ((last + (0 : Int)) + ((((e0 + m.log2 + 1023).toNat : Nat) : Int) - (1023 : Int)))⟩, ⟨none, none, 7, pF 4607182418800017408⟩, ⟨some 0, none, 47, pI ((last + (0 : Int)) + ((((e0 + m.log2 + 1023).toNat : Nat) : Int) - (1023 : Int)))⟩, ⟨some 1, none, 48, pB true⟩]) (V2 := []) (G2 := [⟨none, none, 4, pF 0⟩, ⟨none, none, 6, pU X⟩, ⟨none, none, 1, pI ((last + (0 : Int)) + ((((e0 + m.log2 + 1023).toNat : Nat) : Int) - (1023 : Int)))⟩, ⟨none, none, 7, pF 4607182418800017408⟩, ⟨none, none, 48, pB true⟩]) hI rfl rfl rfl [0, 1] (by kernel_rfl) (by kernel_rfl) ?_ [] [0, 1, 2, 3, 5] rfl rfl fun a w hI => ?_
  · exact ⟨op_move (.tmp 2 rfl rfl) (.here 4 rfl),
      op_bin (v := .bool (decide (((last + (0 : Int)) + ((((e0 + m.log2 + 1023).toNat : Nat) : Int) - (1023 : Int))) < (-1022 : Int)))) (.tmp 4 rfl rfl) (.const _) (fun _ => rfl) (.at_ 5 _ _ rfl (pB_eq (decide_eq_true (by omega)))),
      trivial⟩
  refine cond_yes hI 4 rfl ?_
  refine seq_text (V1 := []) (A1 := []) (G1 := [⟨none, none, 4, pF 0⟩, ⟨none, none, 6, pU X⟩, ⟨none, some 2, 1, pI ((last + (0 : Int)) + ((((e0 + m.log2 + 1023).toNat : Nat) : Int) - (1023 : Int)))⟩, ⟨none, none, 7, pF 4607182418800017408⟩, ⟨none, none, 48, pB true⟩, ⟨some 0, none, 49, pI ((last + (0 : Int)) + ((((e0 + m.log2 + 1023).toNat : Nat) : Int) - (1023 : Int)))⟩, ⟨some 1, none, 50, pI (((last + (0 : Int)) + ((((e0 + m.log2 + 1023).toNat : Nat) : Int) - (1023 : Int))) + (53 : Int))⟩, ⟨some 2, none, 1, pI (((last + (0 : Int)) + ((((e0 + m.log2 + 1023).toNat : Nat) : Int) - (1023 : Int))) + (53 : Int))⟩]) (V2 := []) (G2 := [⟨none, none, 4, pF 0⟩, ⟨none, none, 6, pU X⟩, ⟨none, none, 7, pF 4607182418800017408⟩, ⟨none, none, 1, pI (((last + (0 : Int)) + ((((e0 + m.log2 + 1023).toNat : Nat) : Int) - (1023 : Int))) + (53 : Int))⟩]) hI rfl rfl rfl [0, 1, 3] (by kernel_rfl) (by kernel_rfl) ?_ [] [0, 1, 2, 6] rfl rfl fun a w hI => ?_
  · exact ⟨op_move (.tmp 2 rfl rfl) (.here 5 rfl),
      op_bin (v := .int .i64 (IntKind.i64.wrap (((last + (0 : Int)) + ((((e0 + m.log2 + 1023).toNat : Nat) : Int) - (1023 : Int))) + (53 : Int)))) (.tmp 5 rfl rfl) (.const _) (fun _ => rfl) (.at_ 6 _ _ rfl (pI_wrap (by omega))),
      op_assign (.tmp 6 rfl rfl) (.here 7 rfl),
      trivial⟩
  refine sem_text (V1 := []) (A1 := []) (G1 := [⟨none, none, 4, pF 0⟩, ⟨none, none, 6, pU X⟩, ⟨none, some 0, 7, pF 4607182418800017408⟩, ⟨none, none, 1, pI (((last + (0 : Int)) + ((((e0 + m.log2 + 1023).toNat : Nat) : Int) - (1023 : Int))) + (53 : Int))⟩, ⟨some 0, none, 7, pF 4368491638549381120⟩]) (V2 := []) (G2 := [⟨none, none, 4, pF 0⟩, ⟨none, none, 6, pU X⟩, ⟨none, none, 1, pI (((last + (0 : Int)) + ((((e0 + m.log2 + 1023).toNat : Nat) : Int) - (1023 : Int))) + (53 : Int))⟩, ⟨none, none, 7, pF 4368491638549381120⟩]) hI rfl rfl rfl [0] (by kernel_rfl) (by kernel_rfl) ?_ [] [0, 1, 2, 3] rfl rfl fun a w hI => ?_
  · exact ⟨op_assign (.const _) (.here 4 rfl),
      trivial⟩
  refine then_of ?_
  refine seq_text (V1 := []) (A1 := []) (G1 := [⟨none, none, 4, pF 0⟩, ⟨none, some 2, 6, pU X⟩, ⟨none, none, 1, pI (((last + (0 : Int)) + ((((e0 + m.log2 + 1023).toNat : Nat) : Int) - (1023 : Int))) + (53 : Int))⟩, ⟨none, none, 7, pF 4368491638549381120⟩, ⟨some 0, none, 51, pU X⟩, ⟨some 1, none, 52, pU (X % 2 ^ 52)⟩, ⟨some 2, none, 6, pU (X % 2 ^ 52)⟩]) (V2 := []) (G2 := [⟨none, none, 4, pF 0⟩, ⟨none, none, 1, pI (((last + (0 : Int)) + ((((e0 + m.log2 + 1023).toNat : Nat) : Int) - (1023 : Int))) + (53 : Int))⟩, ⟨none, none, 7, pF 4368491638549381120⟩, ⟨none, none, 6, pU (X % 2 ^ 52)⟩]) hI rfl rfl rfl [0, 1, 3] (by kernel_rfl) (by kernel_rfl) ?_ [] [0, 1, 2, 5] rfl rfl fun a w hI => ?_
  · exact ⟨op_move (.tmp 1 rfl rfl) (.here 4 rfl),
      op_andNot (.tmp 4 rfl rfl) (.const _) (andNot_mask hx63) (Nat.lt_of_le_of_lt (Nat.mod_le _ _) hx64) (.here 5 rfl),
      op_assign (.tmp 5 rfl rfl) (.here 6 rfl),
      trivial⟩
  refine seq_text (V1 := []) (A1 := []) (G1 := [⟨none, none, 4, pF 0⟩, ⟨none, none, 1, pI (((last + (0 : Int)) + ((((e0 + m.log2 + 1023).toNat : Nat) : Int) - (1023 : Int))) + (53 : Int))⟩, ⟨none, none, 7, pF 4368491638549381120⟩, ⟨none, some 6, 6, pU (X % 2 ^ 52)⟩, ⟨some 0, none, 53, pU (X % 2 ^ 52)⟩, ⟨some 1, none, 54, pI (((last + (0 : Int)) + ((((e0 + m.log2 + 1023).toNat : Nat) : Int) - (1023 : Int))) + (53 : Int))⟩, ⟨some 2, none, 55, pI ((((last + (0 : Int)) + ((((e0 + m.log2 + 1023).toNat : Nat) : Int) - (1023 : Int))) + (53 : Int)) + (1023 : Int))⟩, ⟨some 3, none, 56, pU ((e0 + last + 53 + m.log2 + 1023).toNat)⟩, ⟨some 4, none, 57, pU ((e0 + last + 53 + m.log2 + 1023).toNat * 2 ^ 52)⟩, ⟨some 5, none, 58, pU ((e0 + last + 53 + m.log2 + 1023).toNat * 2 ^ 52 + X % 2 ^ 52)⟩, ⟨some 6, none, 6, pU ((e0 + last + 53 + m.log2 + 1023).toNat * 2 ^ 52 + X % 2 ^ 52)⟩]) (V2 := []) (G2 := [⟨none, none, 4, pF 0⟩, ⟨none, none, 7, pF 4368491638549381120⟩, ⟨none, none, 6, pU ((e0 + last + 53 + m.log2 + 1023).toNat * 2 ^ 52 + X % 2 ^ 52)⟩]) hI rfl rfl rfl [0, 1, 3, 7, 15, 31, 63] (by kernel_rfl) (by kernel_rfl) ?_ [] [0, 2, 9] rfl rfl fun a w hI => ?_
  · exact ⟨op_move (.tmp 3 rfl rfl) (.here 4 rfl),
      op_move (.tmp 1 rfl rfl) (.here 5 rfl),
      op_bin (v := .int .i64 (IntKind.i64.wrap ((((last + (0 : Int)) + ((((e0 + m.log2 + 1023).toNat : Nat) : Int) - (1023 : Int))) + (53 : Int)) + (1023 : Int)))) (.tmp 5 rfl rfl) (.const _) (fun _ => rfl) (.at_ 6 _ _ rfl (pI_wrap (by omega))),
      op_conv (.tmp 6 rfl rfl) (fun _ => by kernel_rfl) (.at_ 7 _ _ rfl (conv_u (z := last + (0 : Int) + ((((e0 + m.log2 + 1023).toNat : Nat) : Int) - (1023 : Int)) + (53 : Int) + (1023 : Int)) (n := (e0 + last + 53 + m.log2 + 1023).toNat) (by omega) (by omega))),
      op_shl (s := 52) (.tmp 7 rfl rfl) (.const _) (by decide) (Nat.lt_trans (mul_field hT) (by decide)) (.here 8 rfl),
      op_orDisj (q := (e0 + last + 53 + m.log2 + 1023).toNat) (k := 52) (.tmp 4 rfl rfl) (.tmp 8 rfl rfl) rfl hr (or_field hT hr) rfl (.here 9 rfl),
      op_assign (.tmp 9 rfl rfl) (.here 10 rfl),
      trivial⟩
  refine seq_text (V1 := []) (A1 := []) (G1 := [⟨none, some 4, 4, pF 0⟩, ⟨none, none, 7, pF 4368491638549381120⟩, ⟨none, none, 6, pU ((e0 + last + 53 + m.log2 + 1023).toNat * 2 ^ 52 + X % 2 ^ 52)⟩, ⟨some 0, none, 59, pF 4368491638549381120⟩, ⟨some 1, none, 60, pU ((e0 + last + 53 + m.log2 + 1023).toNat * 2 ^ 52 + X % 2 ^ 52)⟩, ⟨some 2, none, 61, pF ((e0 + last + 53 + m.log2 + 1023).toNat * 2 ^ 52 + X % 2 ^ 52)⟩, ⟨some 3, none, 62, pF (Ieee.double.nearest false m (e0 + last))⟩, ⟨some 4, none, 4, pF (Ieee.double.nearest false m (e0 + last))⟩]) (V2 := []) (G2 := [⟨none, none, 4, pF (Ieee.double.nearest false m (e0 + last))⟩]) hI rfl rfl rfl [0, 1, 3, 7, 15] (by kernel_rfl) (by kernel_rfl) ?_ [] [6] rfl rfl fun a w hI => ?_
  · exact ⟨op_move (.tmp 1 rfl rfl) (.here 3 rfl),
      op_move (.tmp 2 rfl rfl) (.here 4 rfl),
      op_native1 (.tmp 4 rfl rfl) (fun _ => by kernel_rfl) (.here 5 rfl),
      op_fmul (.tmp 3 rfl rfl) (.tmp 5 rfl rfl) (by rw [hW]; have := double_tiny hin2 false; rwa [show e0 + last + 53 - 53 = e0 + last by omega] at this) (.here 6 rfl),
      op_assign (.tmp 6 rfl rfl) (.here 7 rfl),
      trivial⟩
  refine wp_ret ?_
  exact fin1 hI rfl (.tmp 0 rfl)
theorem c_ldexp {m X : Nat} {e0 last : Int} (hin0 : InDouble m e0) (he0 : 0 ≤ e0 ∧ e0 ≤ 60) (hin : InDouble m (e0 + last)) (eX : X = Ieee.double.nearest false m e0) : ∀ (M : Nat → Nat → Prop) (w : World) (v0 v1 : Value), Mid M w → Box M (fun w => (pF X) w v0) w → Box M (fun w => (pI last) w v1) w → Calls Tryz.prog 141 #[v0, v1] w (RetB M (pF (Ieee.double.nearest false m (e0 + last))) w) := by
  by_cases hn : -1022 ≤ e0 + last + m.log2
  · exact c_ldexp_n hin0 he0 hin eX hn
  · exact c_ldexp_s hin0 he0 hin eX hn
set_option maxRecDepth 100000 in
theorem c_Ldexp {m X : Nat} {e0 last : Int} (hin0 : InDouble m e0) (he0 : 0 ≤ e0 ∧ e0 ≤ 60) (hin : InDouble m (e0 + last)) (eX : X = Ieee.double.nearest false m e0) : ∀ (M : Nat → Nat → Prop) (w : World) (v0 v1 : Value), Mid M w → Box M (fun w => (pF X) w v0) w → Box M (fun w => (pI last) w v1) w → Calls Tryz.prog 111 #[v0, v1] w (RetB M (pF (Ieee.double.nearest false m (e0 + last))) w) := by
  intro M w0 v0 v1 hM hv0 hv1
  refine calls_start (N := 11) Tryz.func111 rfl rfl rfl hM (show EntsA M w0 [v0, v1] [⟨none, none, 0, pF X⟩, ⟨none, none, 1, pI last⟩] from ⟨⟨rfl, _, rfl, hv0⟩, ⟨rfl, _, rfl, hv1⟩, trivial⟩) fun a hI => ?_
  refine seq_text (V1 := []) (A1 := []) (G1 := [⟨none, none, 0, pF X⟩, ⟨none, none, 1, pI last⟩, ⟨some 0, none, 4, pF 0⟩]) (V2 := []) (G2 := [⟨none, none, 0, pF X⟩, ⟨none, none, 1, pI last⟩, ⟨none, none, 4, pF 0⟩]) hI rfl rfl rfl [0] (by kernel_rfl) (by kernel_rfl) ?_ [] [0, 1, 2] rfl rfl fun a w hI => ?_
  · exact ⟨op_assign (.const _) (.here 2 rfl),
      trivial⟩
  refine wp_seq ?_
  refine wp_cond_false (show _ = Value.bool false from rfl) ?_
  refine wp_skip ?_
  refine then_of ?_
  refine seq_text (V1 := []) (A1 := []) (G1 := [⟨none, none, 0, pF X⟩, ⟨none, none, 1, pI last⟩, ⟨none, some 3, 4, pF 0⟩, ⟨some 0, none, 8, pF X⟩, ⟨some 1, none, 9, pI last⟩, ⟨some 2, none, 10, pF (Ieee.double.nearest false m (e0 + last))⟩, ⟨some 3, none, 4, pF (Ieee.double.nearest false m (e0 + last))⟩]) (V2 := []) (G2 := [⟨none, none, 4, pF (Ieee.double.nearest false m (e0 + last))⟩]) hI rfl rfl rfl [0, 1, 3, 7] (by kernel_rfl) (by kernel_rfl) ?_ [] [5] rfl rfl fun a w hI => ?_
  · exact ⟨op_move (.tmp 0 rfl rfl) (.here 3 rfl),
      op_move (.tmp 1 rfl rfl) (.here 4 rfl),
      op_callB2 (fun _ _ => by kernel_rfl) (.tmp 3 rfl rfl) (.tmp 4 rfl rfl) (.here 5 rfl) (c_ldexp hin0 he0 hin eX),
      op_assign (.tmp 5 rfl rfl) (.here 6 rfl),
      trivial⟩
  refine wp_ret ?_
  exact fin1 hI rfl (.tmp 0 rfl)
end Wx
