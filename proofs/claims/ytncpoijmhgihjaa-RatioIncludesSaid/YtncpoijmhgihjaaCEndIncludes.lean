/-
  wingworkslaw01.RatioIncludes returns true for every input: numbers of two ranges have their sums, differences, products, squares and quotients in those of the ranges; the ranges of numbers lie in them. No condition.
-/
import Derived.Test.YtncpoijmhgihjaaRows
import Derived.WalkKit
import Derived.ProofKit
import Derived.OpenShut
import Derived.ChangeMaps5
import Derived.Test.YtncpoijmhgihjaaJIncludes0
import Derived.Test.YtncpoijmhgihjaaCIncSem
namespace Go.Proofs.Ytncpoijmhgihjaa.ratioIncludes
open Go.ChangeShapes Go.WideShapes Go.ChangeAt Go.RowKit
set_option linter.unusedVariables false

theorem own : ownKnob Try.prog.godebug = none := by kernel_rfl

set_option maxRecDepth 100000 in
theorem lifted (os : Os) (started : os.Started) (H : Type) (enc : TypeId × Value → H) :
    ReturnsInHanded {} Try.checked os 5 .any (Rows.ratioIncludesSpec.pre6 enc Try.prog Try.f5 Rows.ratioIncludesRow.domain false) (Rows.ratioIncludesSpec.post enc Try.prog Try.f5 false true false false) := by
  refine returnsInHanded_of_change (C := Try.checked) own started (by kernel_rfl) Try.func5
    (ChangeSpec.witness6 (enc := enc) (C := Try.checked) false ⟨#[], #[.agg #[.int .i64 0, .int .i64 0, .int .i64 0, .int .i64 0], .agg #[.int .i64 0, .int .i64 0, .int .i64 0, .int .i64 0], .int .u8 0, .int .u8 0, .int .i64 0], []⟩ 8 (by kernel_rfl) (by kernel_rfl) (by kernel_rfl) (by kernel_rfl)) ?_
  intro W base args ds gs before hval0 hW hcnd _
  have hval : ∀ (j : Nat) t v, Try.f5.params[j]? = some t → args[j]? = some v → Value.okWide Try.prog W .any base t v := hval0
  have hW' := hW
  obtain ⟨p, q, hA0, hV, rfl, hfz, hnd⟩ := hW
  have hA : DataW.TrodAll enc Try.prog W 0 (fun _ => true) true Try.f5.params.toList args.toList ds p := hA0
  rw [Try.params5] at hA hval
  obtain ⟨v0, vs0, d0, ds0, p0, q0, hargs, rfl, rfl, h0, r0⟩ := trodAll_cons hA
  obtain ⟨v1, vs1, d1, ds1, p1, q1, rfl, rfl, rfl, h1, r1⟩ := trodAll_cons r0
  obtain ⟨v2, vs2, d2, ds2, p2, q2, rfl, rfl, rfl, h2, r2⟩ := trodAll_cons r1
  obtain ⟨v3, vs3, d3, ds3, p3, q3, rfl, rfl, rfl, h3, r3⟩ := trodAll_cons r2
  obtain ⟨v4, vs4, d4, ds4, p4, q4, rfl, rfl, rfl, h4, r4⟩ := trodAll_cons r3
  obtain ⟨rfl, rfl, rfl⟩ := trodAll_nil r4
  obtain rfl : args = #[v0, v1, v2, v3, v4] := by cases args; simp_all
  obtain ⟨rfl, rfl⟩ := trodVars_none hV
  obtain ⟨a0, b0, c0, e0, rfl, rfl, rfl, wa0, wb0, wc0, we0⟩ := Wx.open_frac2 (hval 0 39 v0 rfl rfl) h0
  obtain ⟨a1, b1, c1, e1, rfl, rfl, rfl, wa1, wb1, wc1, we1⟩ := Wx.open_frac2 (hval 1 39 v1 rfl rfl) h1
  obtain ⟨a2, rfl, rfl, rfl, wa2⟩ := open_int Try.underlying5 (hval 2 5 v2 rfl rfl) h2
  obtain ⟨a3, rfl, rfl, rfl, wa3⟩ := open_int Try.underlying5 (hval 3 5 v3 rfl rfl) h3
  obtain ⟨a4, rfl, rfl, rfl, wa4⟩ := open_int Try.underlying3 (hval 4 3 v4 rfl rfl) h4
  clear hA0 hval0
  simp only [List.append_nil] at hW'
  have x0 := Wx.wf_i64 wa0
  have y0 := Wx.wf_i64 wb0
  have z0 := Wx.wf_i64 wc0
  have t0 := Wx.wf_i64 we0
  have x1 := Wx.wf_i64 wa1
  have y1 := Wx.wf_i64 wb1
  have z1 := Wx.wf_i64 wc1
  have t1 := Wx.wf_i64 we1
  have x2 := Wx.wf_u8 wa2
  have x3 := Wx.wf_u8 wa3
  have x4 := Wx.wf_i64 wa4
  refine (Wx.includes_law W a0 b0 c0 e0 a1 b1 c1 e1 a2 a3 a4 ⟨⟨x0.1, x0.2, y0.2⟩, ⟨z0.1, z0.2, t0.2⟩, ⟨x1.1, x1.2, y1.2⟩, ⟨z1.1, z1.2, t1.2⟩⟩ x2.1 x3.1).mono fun e W' ⟨he, hb⟩ => ?_
  subst he
  exact ⟨_, rfl, Wx.post_of_below (pa := []) (pv := []) hW' (fun _ _ _ => (trodAll_cons_mk (shut_bool Try.underlying4 _) trodAll_mk0)) (fun sp _ => (trodAll_cons_mk (Wx.shut_frac2 wa0 wb0 wc0 we0) (trodAll_cons_mk (Wx.shut_frac2 wa1 wb1 wc1 we1) (trodAll_cons_mk (shut_int Try.underlying5 wa2) (trodAll_cons_mk (shut_int Try.underlying5 wa3) (trodAll_cons_mk (shut_int Try.underlying3 wa4) trodAll_mk0)))))) (fun _ _ => rfl) rfl
    hb (ok_one (by kernel_rfl) rfl (okWide_bool_mk Try.underlying4 _))⟩

theorem holds : Rows.RatioIncludesSaid :=
  OpenClaim.holds_of_wide 5 Try.f5 rfl rfl rfl rfl rfl rfl rfl ⟨rfl, rfl, rfl, rfl, rfl⟩ rfl rfl rfl rfl rfl (by kernel_rfl) Try.func5 (by kernel_rfl)
    (of_decide_eq_true (by kernel_rfl)) (by unfold Func.isWrapper; first | (rw [if_pos (by decide +kernel)]; kernel_rfl) | (rw [if_neg (by decide +kernel)]; exact ⟨rfl, rfl⟩))
    (fun os started H enc _ => lifted os started H enc)
#print axioms holds
end Go.Proofs.Ytncpoijmhgihjaa.ratioIncludes
