/-
  wingworkslaw01.RatioPairs returns true for every input: sums, products, quotients, conjugates, Norms and floats of any complex fractions are those of the reference; Complex of any bits returns the exact value or ErrArg. No condition.
-/
import Derived.Test.YtlomlheajdgdoaaGreatRows
import Derived.WalkKit
import Derived.ProofKit
import Derived.OpenShut
import Derived.ChangeMaps5
import Derived.Test.YtlomlheajdgdoaaGreatJPairs0
import Derived.Test.YtlomlheajdgdoaaGreatCPairsPairsSem
namespace Go.Proofs.YtlomlheajdgdoaaGreat.ratioPairs
open Go.ChangeShapes Go.WideShapes Go.ChangeAt Go.RowKit
set_option linter.unusedVariables false

theorem own : ownKnob Tryz.prog.godebug = none := by kernel_rfl

set_option maxRecDepth 100000 in
theorem lifted (os : Os) (started : os.Started) (H : Type) (enc : TypeId × Value → H) :
    ReturnsInHanded {} Tryz.checked os 5 .any (Rows.ratioPairsSpec.pre6 enc Tryz.prog Tryz.f5 Rows.ratioPairsRow.domain false) (Rows.ratioPairsSpec.post enc Tryz.prog Tryz.f5 false true false false) := by
  refine returnsInHanded_of_change (C := Tryz.checked) own started (by kernel_rfl) Tryz.func5
    (ChangeSpec.witness6 (enc := enc) (C := Tryz.checked) false ⟨#[], #[.agg #[.int .i64 0, .int .i64 0, .int .i64 0, .int .i64 0], .agg #[.int .i64 0, .int .i64 0, .int .i64 0, .int .i64 0], .agg #[.int .u32 0, .int .u32 0]], []⟩ 8 (by kernel_rfl) (by kernel_rfl) (by kernel_rfl) (by kernel_rfl)) ?_
  intro W base args ds gs before hval0 hW hcnd _
  have hval : ∀ (j : Nat) t v, Tryz.f5.params[j]? = some t → args[j]? = some v → Value.okWide Tryz.prog W .any base t v := hval0
  have hW' := hW
  obtain ⟨p, q, hA0, hV, rfl, hfz, hnd⟩ := hW
  have hA : DataW.TrodAll enc Tryz.prog W 0 (fun _ => true) true Tryz.f5.params.toList args.toList ds p := hA0
  rw [Tryz.params5] at hA hval
  obtain ⟨v0, vs0, d0, ds0, p0, q0, hargs, rfl, rfl, h0, r0⟩ := trodAll_cons hA
  obtain ⟨v1, vs1, d1, ds1, p1, q1, rfl, rfl, rfl, h1, r1⟩ := trodAll_cons r0
  obtain ⟨v2, vs2, d2, ds2, p2, q2, rfl, rfl, rfl, h2, r2⟩ := trodAll_cons r1
  obtain ⟨rfl, rfl, rfl⟩ := trodAll_nil r2
  obtain rfl : args = #[v0, v1, v2] := by cases args; simp_all
  obtain ⟨rfl, rfl⟩ := trodVars_none hV
  obtain ⟨a0, b0, c0, e0, rfl, rfl, rfl, wa0, wb0, wc0, we0⟩ := Wx.open_frac2 (hval 0 62 v0 rfl rfl) h0
  obtain ⟨a1, b1, c1, e1, rfl, rfl, rfl, wa1, wb1, wc1, we1⟩ := Wx.open_frac2 (hval 1 62 v1 rfl rfl) h1
  obtain ⟨a2, b2, rfl, rfl, rfl, wa2, wb2⟩ := Wx.open_u2 (hval 2 63 v2 rfl rfl) h2
  clear hA0 hval0
  simp only [List.append_nil] at hW'
  have x0 := Wx.wf_i64 wa0
  have y0 := Wx.wf_i64 wb0
  have z0 := Wx.wf_i64 wc0
  have t0 := Wx.wf_i64 we0
  have x1 := Wx.wf_i64 wa1
  have y1 := Wx.wf_i64 wb1
  have z1 := Wx.wf_i64 wc1
  have t1 := Wx.wf_i64 we1
  have x2 := Wx.wf_u32 wa2
  have y2 := Wx.wf_u32 wb2
  refine (Wx.pairs_law W a0 b0 c0 e0 a1 b1 c1 e1 a2 b2 ⟨⟨x0.1, x0.2, y0.2⟩, ⟨z0.1, z0.2, t0.2⟩, ⟨x1.1, x1.2, y1.2⟩, ⟨z1.1, z1.2, t1.2⟩⟩ x2 y2).mono fun e W' ⟨he, hb⟩ => ?_
  subst he
  exact ⟨_, rfl, Wx.post_of_below (pa := []) (pv := []) hW' (fun _ _ _ => (trodAll_cons_mk (shut_bool Tryz.underlying4 _) trodAll_mk0)) (fun sp _ => (trodAll_cons_mk (Wx.shut_frac2 wa0 wb0 wc0 we0) (trodAll_cons_mk (Wx.shut_frac2 wa1 wb1 wc1 we1) (trodAll_cons_mk (Wx.shut_u2 wa2 wb2) trodAll_mk0)))) (fun _ _ => rfl) rfl
    hb (ok_one (by kernel_rfl) rfl (okWide_bool_mk Tryz.underlying4 _))⟩

theorem holds : Rows.RatioPairsSaid :=
  OpenClaim.holds_of_wide 5 Tryz.f5 rfl rfl rfl rfl rfl rfl rfl ⟨rfl, rfl, rfl, rfl, rfl⟩ rfl rfl rfl rfl rfl (by kernel_rfl) Tryz.func5 (by kernel_rfl)
    (of_decide_eq_true (by kernel_rfl)) (by unfold Func.isWrapper; first | (rw [if_pos (by decide +kernel)]; kernel_rfl) | (rw [if_neg (by decide +kernel)]; exact ⟨rfl, rfl⟩))
    (fun os started H enc _ => lifted os started H enc)
#print axioms holds
end Go.Proofs.YtlomlheajdgdoaaGreat.ratioPairs
