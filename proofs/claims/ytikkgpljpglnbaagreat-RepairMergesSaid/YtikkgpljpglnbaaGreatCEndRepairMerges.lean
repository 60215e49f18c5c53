/-
  wingworkslaw09.RepairMerges returns true for every input: Merge returns the specified damage for any two. No condition.
-/
import Derived.ChangeMaps5
import Derived.Test.YtikkgpljpglnbaaGreatCRMLawMerges
namespace Go.Proofs.YtikkgpljpglnbaaGreat.repairMerges
open Go.ChangeShapes Go.WideShapes Go.ChangeAt Go.RowKit
set_option linter.unusedVariables false

theorem own : ownKnob Tryz.prog.godebug = none := by kernel_rfl

set_option maxRecDepth 100000 in
theorem lifted (os : Os) (started : os.Started) (H : Type) (enc : TypeId × Value → H) :
    ReturnsInHanded {} Tryz.checked os 3 .any (Rows.repairMergesSpec.pre6 enc Tryz.prog Tryz.f3 Rows.repairMergesRow.domain false) (Rows.repairMergesSpec.post enc Tryz.prog Tryz.f3 false true false false) := by
  refine returnsInHanded_of_change (C := Tryz.checked) own started (by kernel_rfl) Tryz.func3
    (ChangeSpec.witness6 (enc := enc) (C := Tryz.checked) false ⟨#[], #[.agg #[.slice none 0 0, .int .i64 0], .agg #[.slice none 0 0, .int .i64 0]], []⟩ 8 (by kernel_rfl) (by kernel_rfl) (by kernel_rfl) (by kernel_rfl)) ?_
  intro W base args ds gs before Ig hW hcnd _
  have hval : ∀ (j : Nat) t v, Tryz.f3.params[j]? = some t → args[j]? = some v → Value.okWide Tryz.prog W .any base t v := Ig
  have Rp := hW
  obtain ⟨p, q, OM, hV, rfl, hfz, KV⟩ := hW
  have hA : DataW.TrodAll enc Tryz.prog W 0 (fun _ => true) true Tryz.f3.params.toList args.toList ds p := OM
  have Sz := OM
  rw [Tryz.params3] at hA hval
  obtain ⟨v0, vs0, d0, ds0, p0, q0, hargs, rfl, _, h0, r0⟩ := trodAll_cons hA
  obtain ⟨v1, vs1, d1, ds1, p1, q1, rfl, rfl, _, h1, r1⟩ := trodAll_cons r0
  obtain ⟨rfl, rfl, rfl⟩ := trodAll_nil r1
  obtain rfl : args = #[v0, v1] := by cases args; simp_all
  obtain ⟨rfl, rfl⟩ := trodVars_none hV
  obtain ⟨L0, _, hx0⟩ := ((Wx.AE (enc := enc)).Lg (.inl ⟨_, Tryz.underlying24⟩) (hval 0 24 v0 rfl rfl) h0)
  obtain ⟨L1, _, hx1⟩ := ((Wx.AE (enc := enc)).Lg (.inl ⟨_, Tryz.underlying24⟩) (hval 1 24 v1 rfl rfl) h1)
  clear OM Ig
  simp only [List.append_nil] at Rp
  refine (Wx.Dy (Wx.Du (K := L0.1) (k := L0.2) (L := L1.1) (l := L1.2) trivial (fun _ _ => False) W v0 v1 Wx.Gg hx0 hx1)).mono fun e W' ⟨he, hb⟩ => ?_
  subst he
  exact ⟨_, rfl, Wx.sC (pa := p) (pv := []) Rp (fun _ _ _ => (trodAll_cons_mk (shut_bool Tryz.underlying4 _) trodAll_mk0)) (fun sp hs => Wx.mX (fun k hk => hb.block k hk) 8 (by kernel_rfl) Sz hs) (fun _ _ => rfl) (List.append_nil _).symm
    hb (ok_one (by kernel_rfl) rfl (okWide_bool_mk Tryz.underlying4 _))⟩

theorem holds : Rows.RepairMergesSaid :=
  OpenClaim.holds_of_wide 3 Tryz.f3 rfl rfl rfl rfl rfl rfl rfl ⟨rfl, rfl, rfl, rfl, rfl⟩ rfl rfl rfl rfl rfl (by kernel_rfl) Tryz.func3 (by kernel_rfl)
    (of_decide_eq_true (by kernel_rfl)) (by unfold Func.isWrapper; first | (rw [if_pos (by decide +kernel)]; kernel_rfl) | (rw [if_neg (by decide +kernel)]; exact ⟨rfl, rfl⟩))
    (fun os started H enc _ => lifted os started H enc)
#print axioms holds
end Go.Proofs.YtikkgpljpglnbaaGreat.repairMerges
