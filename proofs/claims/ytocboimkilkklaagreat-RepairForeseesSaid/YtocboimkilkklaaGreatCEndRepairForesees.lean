/-
  wingworkslaw09.RepairForesees returns true for every input: Foresee returns the specified range for any angle, ranges and bits. No condition.
-/
import Derived.ChangeMaps5
import Derived.Test.YtocboimkilkklaaGreatCRFLawForesees
namespace Go.Proofs.YtocboimkilkklaaGreat.repairForesees
open Go.ChangeShapes Go.WideShapes Go.ChangeAt Go.RowKit
set_option linter.unusedVariables false

theorem own : ownKnob Tryz.prog.godebug = none := by kernel_rfl

set_option maxRecDepth 100000 in
theorem lifted (os : Os) (started : os.Started) (H : Type) (enc : TypeId × Value → H) :
    ReturnsInHanded {} Tryz.checked os 4 .any (Rows.repairForeseesSpec.pre6 enc Tryz.prog Tryz.f4 Rows.repairForeseesRow.domain false) (Rows.repairForeseesSpec.post enc Tryz.prog Tryz.f4 false true false false) := by
  refine returnsInHanded_of_change (C := Tryz.checked) own started (by kernel_rfl) Tryz.func4
    (ChangeSpec.witness6 (enc := enc) (C := Tryz.checked) false ⟨#[], #[.agg #[.int .i64 0, .int .i64 0], .agg #[.int .i64 0, .int .i64 0, .int .i64 0, .int .i64 0], .agg #[.int .i64 0, .int .i64 0, .int .i64 0, .int .i64 0], .int .i64 0], []⟩ 8 (by kernel_rfl) (by kernel_rfl) (by kernel_rfl) (by kernel_rfl)) ?_
  intro W base args ds gs before Ni hW hcnd _
  have hval : ∀ (j : Nat) t v, Tryz.f4.params[j]? = some t → args[j]? = some v → Value.okWide Tryz.prog W .any base t v := Ni
  have WX := hW
  obtain ⟨p, q, T7, hV, rfl, hfz, P8⟩ := hW
  have hA : DataW.TrodAll enc Tryz.prog W 0 (fun _ => true) true Tryz.f4.params.toList args.toList ds p := T7
  have Yo := T7
  rw [Tryz.params4] at hA hval
  obtain ⟨v0, vs0, d0, ds0, p0, q0, hargs, rfl, _, h0, r0⟩ := trodAll_cons hA
  obtain ⟨v1, vs1, d1, ds1, p1, q1, rfl, rfl, _, h1, r1⟩ := trodAll_cons r0
  obtain ⟨v2, vs2, d2, ds2, p2, q2, rfl, rfl, _, h2, r2⟩ := trodAll_cons r1
  obtain ⟨v3, vs3, d3, ds3, p3, q3, rfl, rfl, _, h3, r3⟩ := trodAll_cons r2
  obtain ⟨rfl, rfl, rfl⟩ := trodAll_nil r3
  obtain rfl : args = #[v0, v1, v2, v3] := by cases args; simp_all
  obtain ⟨rfl, rfl⟩ := trodVars_none hV
  obtain ⟨L0, hc0, hx0⟩ := ((Wx.za (enc := enc)).NW (.inl ⟨_, Tryz.underlying24⟩) (hval 0 24 v0 rfl rfl) h0)
  obtain ⟨L1, rf, hx1⟩ := ((Wx.JF (enc := enc)).NW (.inr ⟨_, _, Tryz.underlying28⟩) (hval 1 28 v1 rfl rfl) h1)
  obtain ⟨L2, hc2, hx2⟩ := ((Wx.JF (enc := enc)).NW (.inr ⟨_, _, Tryz.underlying28⟩) (hval 2 28 v2 rfl rfl) h2)
  obtain ⟨a3, rfl, _, _, ZU⟩ := open_int Tryz.underlying3 (hval 3 3 v3 rfl rfl) h3
  have x3 := Wx.wf_i64 ZU
  clear T7 Ni
  simp only [List.append_nil] at WX
  refine (Wx.I6 (Wx.AO (x := L0) (D := L1) (E := L2) (n := a3) ⟨hc0, rf, hc2⟩ (fun _ _ => False) W v0 v1 v2 _ Wx.LI hx0 hx1 hx2 (fun _ _ => rfl))).mono fun e W' ⟨he, hb⟩ => ?_
  subst he
  exact ⟨_, rfl, Wx.wB (pa := p) (pv := []) WX (fun _ _ _ => (trodAll_cons_mk (shut_bool Tryz.underlying4 _) trodAll_mk0)) (fun sp hs => Wx.qI (fun k hk => hb.block k hk) 8 (by kernel_rfl) Yo hs) (fun _ _ => rfl) (List.append_nil _).symm
    hb (ok_one (by kernel_rfl) rfl (okWide_bool_mk Tryz.underlying4 _))⟩

theorem holds : Rows.RepairForeseesSaid :=
  OpenClaim.holds_of_wide 4 Tryz.f4 rfl rfl rfl rfl rfl rfl rfl ⟨rfl, rfl, rfl, rfl, rfl⟩ rfl rfl rfl rfl rfl (by kernel_rfl) Tryz.func4 (by kernel_rfl)
    (of_decide_eq_true (by kernel_rfl)) (by unfold Func.isWrapper; first | (rw [if_pos (by decide +kernel)]; kernel_rfl) | (rw [if_neg (by decide +kernel)]; exact ⟨rfl, rfl⟩))
    (fun os started H enc _ => lifted os started H enc)
#print axioms holds
end Go.Proofs.YtocboimkilkklaaGreat.repairForesees
