/-
  wingworkslaw09.RepairAparts returns true for every input: Apart returns the specified result for any two damages and distance. No condition.
-/
import Derived.ChangeMaps5
import Derived.Test.YtadigiledciihaaGreatCRALawAparts
namespace Go.Proofs.YtadigiledciihaaGreat.repairAparts
open Go.ChangeShapes Go.WideShapes Go.ChangeAt Go.RowKit
set_option linter.unusedVariables false

theorem own : ownKnob Tryz.prog.godebug = none := by kernel_rfl

set_option maxRecDepth 100000 in
theorem lifted (os : Os) (started : os.Started) (H : Type) (enc : TypeId × Value → H) :
    ReturnsInHanded {} Tryz.checked os 5 .any (Rows.repairApartsSpec.pre6 enc Tryz.prog Tryz.f5 Rows.repairApartsRow.domain false) (Rows.repairApartsSpec.post enc Tryz.prog Tryz.f5 false true false false) := by
  refine returnsInHanded_of_change (C := Tryz.checked) own started (by kernel_rfl) Tryz.func5
    (ChangeSpec.witness6 (enc := enc) (C := Tryz.checked) false ⟨#[], #[.agg #[.slice none 0 0, .int .i64 0], .agg #[.slice none 0 0, .int .i64 0], .int .i64 0], []⟩ 8 (by kernel_rfl) (by kernel_rfl) (by kernel_rfl) (by kernel_rfl)) ?_
  intro W base args ds gs before Lb hW hcnd _
  have hval : ∀ (j : Nat) t v, Tryz.f5.params[j]? = some t → args[j]? = some v → Value.okWide Tryz.prog W .any base t v := Lb
  have Uk := hW
  obtain ⟨p, q, RN, hV, rfl, hfz, NR⟩ := hW
  have hA : DataW.TrodAll enc Tryz.prog W 0 (fun _ => true) true Tryz.f5.params.toList args.toList ds p := RN
  have VK := RN
  rw [Tryz.params5] at hA hval
  obtain ⟨v0, vs0, d0, ds0, p0, q0, hargs, rfl, _, h0, r0⟩ := trodAll_cons hA
  obtain ⟨v1, vs1, d1, ds1, p1, q1, rfl, rfl, _, h1, r1⟩ := trodAll_cons r0
  obtain ⟨v2, vs2, d2, ds2, p2, q2, rfl, rfl, _, h2, r2⟩ := trodAll_cons r1
  obtain ⟨rfl, rfl, rfl⟩ := trodAll_nil r2
  obtain rfl : args = #[v0, v1, v2] := by cases args; simp_all
  obtain ⟨rfl, rfl⟩ := trodVars_none hV
  obtain ⟨L0, _, hx0⟩ := ((Wx.C5 (enc := enc)).Oi (.inl ⟨_, Tryz.underlying24⟩) (hval 0 24 v0 rfl rfl) h0)
  obtain ⟨L1, _, hx1⟩ := ((Wx.C5 (enc := enc)).Oi (.inl ⟨_, Tryz.underlying24⟩) (hval 1 24 v1 rfl rfl) h1)
  obtain ⟨a2, rfl, _, _, Xl⟩ := open_int Tryz.underlying3 (hval 2 3 v2 rfl rfl) h2
  have x2 := Wx.wf_i64 Xl
  clear RN Lb
  simp only [List.append_nil] at Uk
  refine (Wx.GK (Wx.GA (K := L0.1) (k := L0.2) (L := L1.1) (l := L1.2) (f := a2) trivial (fun _ _ => False) W v0 v1 _ Wx.JV hx0 hx1 (fun _ _ => rfl))).mono fun e W' ⟨he, hb⟩ => ?_
  subst he
  exact ⟨_, rfl, Wx.uB (pa := p) (pv := []) Uk (fun _ _ _ => (trodAll_cons_mk (shut_bool Tryz.underlying4 _) trodAll_mk0)) (fun sp hs => Wx.pD (fun k hk => hb.block k hk) 8 (by kernel_rfl) VK hs) (fun _ _ => rfl) (List.append_nil _).symm
    hb (ok_one (by kernel_rfl) rfl (okWide_bool_mk Tryz.underlying4 _))⟩

theorem holds : Rows.RepairApartsSaid :=
  OpenClaim.holds_of_wide 5 Tryz.f5 rfl rfl rfl rfl rfl rfl rfl ⟨rfl, rfl, rfl, rfl, rfl⟩ rfl rfl rfl rfl rfl (by kernel_rfl) Tryz.func5 (by kernel_rfl)
    (of_decide_eq_true (by kernel_rfl)) (by unfold Func.isWrapper; first | (rw [if_pos (by decide +kernel)]; kernel_rfl) | (rw [if_neg (by decide +kernel)]; exact ⟨rfl, rfl⟩))
    (fun os started H enc _ => lifted os started H enc)
#print axioms holds
end Go.Proofs.YtadigiledciihaaGreat.repairAparts
