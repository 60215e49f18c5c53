/-
  wingworkslaw01.RatioResidual returns true for every input: the residual of Least is orthogonal to all columns, and its square is not greater than that of another list that is handed in; two to six rows, one or two columns. No condition.
-/
import Derived.Test.YtpiniclogfefjaaRows
import Derived.WalkKit
import Derived.ProofKit
import Derived.OpenShut
import Derived.ChangeMaps5
import Derived.Test.YtpiniclogfefjaaJResidual0
import Derived.Test.YtpiniclogfefjaaJResidual16
import Derived.Test.YtpiniclogfefjaaCResidualResidSem
namespace Go.Proofs.Ytpiniclogfefjaa.ratioResidual
open Go.ChangeShapes Go.WideShapes Go.ChangeAt Go.RowKit
set_option linter.unusedVariables false

theorem own : ownKnob Try.prog.godebug = none := by kernel_rfl

set_option maxRecDepth 100000 in
theorem lifted (os : Os) (started : os.Started) (H : Type) (enc : TypeId × Value → H) :
    ReturnsInHanded {} Try.checked os 3 .any (Rows.ratioResidualSpec.pre6 enc Try.prog Try.f3 Rows.ratioResidualRow.domain false) (Rows.ratioResidualSpec.post enc Try.prog Try.f3 false true false false) := by
  refine returnsInHanded_of_change (C := Try.checked) own started (by kernel_rfl) Try.func3
    (ChangeSpec.witness6 (enc := enc) (C := Try.checked) false ⟨#[], #[.slice none 0 0, .slice none 0 0, .agg #[.int .i8 0, .int .i8 0], .bool false], []⟩ 8 (by kernel_rfl) (by kernel_rfl) (by kernel_rfl) (by kernel_rfl)) ?_
  intro W base args ds gs before hval0 hW hcnd _
  have hval : ∀ (j : Nat) t v, Try.f3.params[j]? = some t → args[j]? = some v → Value.okWide Try.prog W .any base t v := hval0
  have hW' := hW
  obtain ⟨p, q, hA0, hV, rfl, hfz, hnd⟩ := hW
  have hA : DataW.TrodAll enc Try.prog W 0 (fun _ => true) true Try.f3.params.toList args.toList ds p := hA0
  have hA1 := hA0
  rw [Try.params3] at hA hval
  obtain ⟨v0, vs0, d0, ds0, p0, q0, hargs, rfl, _, h0, r0⟩ := trodAll_cons hA
  obtain ⟨v1, vs1, d1, ds1, p1, q1, rfl, rfl, _, h1, r1⟩ := trodAll_cons r0
  obtain ⟨v2, vs2, d2, ds2, p2, q2, rfl, rfl, _, h2, r2⟩ := trodAll_cons r1
  obtain ⟨v3, vs3, d3, ds3, p3, q3, rfl, rfl, _, h3, r3⟩ := trodAll_cons r2
  obtain ⟨rfl, rfl, rfl⟩ := trodAll_nil r3
  obtain rfl : args = #[v0, v1, v2, v3] := by cases args; simp_all
  obtain ⟨rfl, rfl⟩ := trodVars_none hV
  obtain ⟨L0, ⟨hC0, hl0⟩, hx0⟩ := (Wx.opn_slice (enc := enc) (sz := 2) ((0 : Int), (0 : Int), ()) Try.underlying22 (by kernel_rfl) (by omega) (Wx.opn_array (enc := enc) (N := 2) (n := 1) Try.underlying25 (by kernel_rfl) (by kernel_rfl) (by kernel_rfl) (Wx.opnFs_cons (n := 1) (Wx.opn_int Try.underlying24) (by kernel_rfl) (by omega) (Wx.opnFs_cons (n := 1) (Wx.opn_int Try.underlying24) (by kernel_rfl) (by omega) Wx.opnFs_nil)))).arg Try.underlying22 (hval 0 22 v0 rfl rfl) h0
  obtain ⟨L1, ⟨hC1, hl1⟩, hx1⟩ := (Wx.opn_slice (enc := enc) (sz := 1) (0 : Int) Try.underlying23 (by kernel_rfl) (by omega) (Wx.opn_int Try.underlying24)).arg Try.underlying23 (hval 1 23 v1 rfl rfl) h1
  obtain ⟨L2, hC2, hx2⟩ := (Wx.opn_array (enc := enc) (N := 2) (n := 1) Try.underlying25 (by kernel_rfl) (by kernel_rfl) (by kernel_rfl) (Wx.opnFs_cons (n := 1) (Wx.opn_int Try.underlying24) (by kernel_rfl) (by omega) (Wx.opnFs_cons (n := 1) (Wx.opn_int Try.underlying24) (by kernel_rfl) (by omega) Wx.opnFs_nil))).argA (.inr ⟨_, _, Try.underlying25⟩) (hval 2 25 v2 rfl rfl) h2
  obtain ⟨a3, rfl, _, _⟩ := open_bool Try.underlying4 (hval 3 4 v3 rfl rfl) h3
  clear hA0 hval0
  simp only [List.append_nil] at hW'
  obtain rfl := Wx.i2_val (hx2 _ (Wx.Ext.refl _ _))
  have y0 := fun i => Wx.all_getD (d := ((0, 0, ()) : Int × Int × Unit)) (C := fun x : Int × Int × Unit => (-128 ≤ x.1 ∧ x.1 ≤ 127) ∧ (-128 ≤ x.2.1 ∧ x.2.1 ≤ 127)) (fun x hx => ⟨Wx.wf_i8 (hC0 x hx).1, Wx.wf_i8 (hC0 x hx).2.1⟩) (by decide) i
  refine (Wx.resid_law W (n := L0.length) (m := L1.length) (a0 := fun i => (L0.getD i (0, 0, ())).1) (a1 := fun i => (L0.getD i (0, 0, ())).2.1) (b := fun i => L1.getD i 0) hx0 hx1 (fun i => ⟨(y0 i).1, (y0 i).2, Wx.all_getD (C := fun x : Int => -128 ≤ x ∧ x ≤ 127) (fun x hx => Wx.wf_i8 (hC1 x hx)) (by omega) i⟩) ⟨Wx.wf_i8 hC2.1, Wx.wf_i8 hC2.2.1⟩).mono fun e W' ⟨he, hb⟩ => ?_
  subst he
  exact ⟨_, rfl, Wx.post_of_below (pa := p) (pv := []) hW' (fun _ _ _ => (trodAll_cons_mk (shut_bool Try.underlying4 _) trodAll_mk0)) (fun sp hs => Wx.trodAll_keep (fun k hk => hb.block k hk) 8 (by kernel_rfl) hA1 hs) (fun _ _ => rfl) (List.append_nil _).symm
    hb (ok_one (by kernel_rfl) rfl (okWide_bool_mk Try.underlying4 _))⟩

theorem holds : Rows.RatioResidualSaid :=
  OpenClaim.holds_of_wide 3 Try.f3 rfl rfl rfl rfl rfl rfl rfl ⟨rfl, rfl, rfl, rfl, rfl⟩ rfl rfl rfl rfl rfl (by kernel_rfl) Try.func3 (by kernel_rfl)
    (of_decide_eq_true (by kernel_rfl)) (by unfold Func.isWrapper; first | (rw [if_pos (by decide +kernel)]; kernel_rfl) | (rw [if_neg (by decide +kernel)]; exact ⟨rfl, rfl⟩))
    (fun os started H enc _ => lifted os started H enc)
#print axioms holds
end Go.Proofs.Ytpiniclogfefjaa.ratioResidual
