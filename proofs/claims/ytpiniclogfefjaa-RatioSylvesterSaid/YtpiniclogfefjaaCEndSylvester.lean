/-
  wingworkslaw01.RatioSylvester returns true for every input: Inertia of a symmetric matrix is that of each congruent one, the numbers add up to the rows, and exchange with all signs; they fit the determinant's sign; if all are positive, each Quadratic is above 0; one to five rows. No condition.
-/
import Derived.ChangeMaps5
import Derived.Test.YtpiniclogfefjaaCSylvesterSylSem
namespace Go.Proofs.Ytpiniclogfefjaa.ratioSylvester
open Go.ChangeShapes Go.WideShapes Go.ChangeAt Go.RowKit
set_option linter.unusedVariables false

theorem own : ownKnob Try.prog.godebug = none := by kernel_rfl

set_option maxRecDepth 100000 in
theorem lifted (os : Os) (started : os.Started) (H : Type) (enc : TypeId × Value → H) :
    ReturnsInHanded {} Try.checked os 5 .any (Rows.ratioSylvesterSpec.pre6 enc Try.prog Try.f5 Rows.ratioSylvesterRow.domain false) (Rows.ratioSylvesterSpec.post enc Try.prog Try.f5 false true false false) := by
  refine returnsInHanded_of_change (C := Try.checked) own started (by kernel_rfl) Try.func5
    (ChangeSpec.witness6 (enc := enc) (C := Try.checked) false ⟨#[], #[.slice none 0 0, .slice none 0 0, .slice none 0 0, .int .u8 0], []⟩ 8 (by kernel_rfl) (by kernel_rfl) (by kernel_rfl) (by kernel_rfl)) ?_
  intro W base args ds gs before hval0 hW hcnd _
  have hval : ∀ (j : Nat) t v, Try.f5.params[j]? = some t → args[j]? = some v → Value.okWide Try.prog W .any base t v := hval0
  have hW' := hW
  obtain ⟨p, q, hA0, hV, rfl, hfz, hnd⟩ := hW
  have hA : DataW.TrodAll enc Try.prog W 0 (fun _ => true) true Try.f5.params.toList args.toList ds p := hA0
  have hA1 := hA0
  rw [Try.params5] at hA hval
  obtain ⟨v0, vs0, d0, ds0, p0, q0, hargs, rfl, _, h0, r0⟩ := trodAll_cons hA
  obtain ⟨v1, vs1, d1, ds1, p1, q1, rfl, rfl, _, h1, r1⟩ := trodAll_cons r0
  obtain ⟨v2, vs2, d2, ds2, p2, q2, rfl, rfl, _, h2, r2⟩ := trodAll_cons r1
  obtain ⟨v3, vs3, d3, ds3, p3, q3, rfl, rfl, _, h3, r3⟩ := trodAll_cons r2
  obtain ⟨rfl, rfl, rfl⟩ := trodAll_nil r3
  obtain rfl : args = #[v0, v1, v2, v3] := by cases args; simp_all
  obtain ⟨rfl, rfl⟩ := trodVars_none hV
  obtain ⟨L0, ⟨hC0, hl0⟩, hx0⟩ := (Wx.opn_slice (enc := enc) (sz := 1) (0 : Int) Try.underlying23 (by kernel_rfl) (by omega) (Wx.opn_int Try.underlying24)).arg Try.underlying23 (hval 0 23 v0 rfl rfl) h0
  obtain ⟨L1, ⟨hC1, hl1⟩, hx1⟩ := (Wx.opn_slice (enc := enc) (sz := 1) (0 : Int) Try.underlying23 (by kernel_rfl) (by omega) (Wx.opn_int Try.underlying24)).arg Try.underlying23 (hval 1 23 v1 rfl rfl) h1
  obtain ⟨L2, ⟨hC2, hl2⟩, hx2⟩ := (Wx.opn_slice (enc := enc) (sz := 1) (0 : Int) Try.underlying23 (by kernel_rfl) (by omega) (Wx.opn_int Try.underlying24)).arg Try.underlying23 (hval 2 23 v2 rfl rfl) h2
  obtain ⟨a3, rfl, _, _, wa3⟩ := open_int Try.underlying5 (hval 3 5 v3 rfl rfl) h3
  have x3 := Wx.wf_u8 wa3
  clear hA0 hval0
  simp only [List.append_nil] at hW'
  refine (Wx.sylvester_law W hx0 hx1 hx2 (Wx.all_getD (C := fun x : Int => -128 ≤ x ∧ x ≤ 127) (fun x hx => Wx.wf_i8 (hC0 x hx)) (by omega)) (Wx.all_getD (C := fun x : Int => -128 ≤ x ∧ x ≤ 127) (fun x hx => Wx.wf_i8 (hC1 x hx)) (by omega)) (Wx.all_getD (C := fun x : Int => -128 ≤ x ∧ x ≤ 127) (fun x hx => Wx.wf_i8 (hC2 x hx)) (by omega)) x3).mono fun e W' ⟨he, hb⟩ => ?_
  subst he
  exact ⟨_, rfl, Wx.post_of_below (pa := p) (pv := []) hW' (fun _ _ _ => (trodAll_cons_mk (shut_bool Try.underlying4 _) trodAll_mk0)) (fun sp hs => Wx.trodAll_keep (fun k hk => hb.block k hk) 8 (by kernel_rfl) hA1 hs) (fun _ _ => rfl) (List.append_nil _).symm
    hb (ok_one (by kernel_rfl) rfl (okWide_bool_mk Try.underlying4 _))⟩

theorem holds : Rows.RatioSylvesterSaid :=
  OpenClaim.holds_of_wide 5 Try.f5 rfl rfl rfl rfl rfl rfl rfl ⟨rfl, rfl, rfl, rfl, rfl⟩ rfl rfl rfl rfl rfl (by kernel_rfl) Try.func5 (by kernel_rfl)
    (of_decide_eq_true (by kernel_rfl)) (by unfold Func.isWrapper; first | (rw [if_pos (by decide +kernel)]; kernel_rfl) | (rw [if_neg (by decide +kernel)]; exact ⟨rfl, rfl⟩))
    (fun os started H enc _ => lifted os started H enc)
#print axioms holds
end Go.Proofs.Ytpiniclogfefjaa.ratioSylvester
