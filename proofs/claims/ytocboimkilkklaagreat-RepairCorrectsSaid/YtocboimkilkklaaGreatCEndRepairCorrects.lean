/-
  wingworkslaw09.RepairCorrects returns true for every input: Correct and Again return the specified factors and angles for any trials; the factor lies in its range. No condition.
-/
import Derived.ChangeMaps5
import Derived.Test.YtocboimkilkklaaGreatCRCLawCorrects
namespace Go.Proofs.YtocboimkilkklaaGreat.repairCorrects
open Go.ChangeShapes Go.WideShapes Go.ChangeAt Go.RowKit
set_option linter.unusedVariables false

theorem own : ownKnob Tryz.prog.godebug = none := by kernel_rfl

set_option maxRecDepth 100000 in
theorem lifted (os : Os) (started : os.Started) (H : Type) (enc : TypeId × Value → H) :
    ReturnsInHanded {} Tryz.checked os 3 .any (Rows.repairCorrectsSpec.pre6 enc Tryz.prog Tryz.f3 Rows.repairCorrectsRow.domain false) (Rows.repairCorrectsSpec.post enc Tryz.prog Tryz.f3 false true false false) := by
  refine returnsInHanded_of_change (C := Tryz.checked) own started (by kernel_rfl) Tryz.func3
    (ChangeSpec.witness6 (enc := enc) (C := Tryz.checked) false ⟨#[], #[.slice none 0 0, .agg #[.int .i64 0, .int .i64 0], .agg #[.int .i64 0, .int .i64 0]], []⟩ 8 (by kernel_rfl) (by kernel_rfl) (by kernel_rfl) (by kernel_rfl)) ?_
  intro W base args ds gs before MS hW hcnd _
  have hval : ∀ (j : Nat) t v, Tryz.f3.params[j]? = some t → args[j]? = some v → Value.okWide Tryz.prog W .any base t v := MS
  have WG := hW
  obtain ⟨p, q, TS, hV, rfl, hfz, MI⟩ := hW
  have hA : DataW.TrodAll enc Tryz.prog W 0 (fun _ => true) true Tryz.f3.params.toList args.toList ds p := TS
  have X6 := TS
  rw [Tryz.params3] at hA hval
  obtain ⟨v0, vs0, d0, ds0, p0, q0, hargs, rfl, _, h0, r0⟩ := trodAll_cons hA
  obtain ⟨v1, vs1, d1, ds1, p1, q1, rfl, rfl, _, h1, r1⟩ := trodAll_cons r0
  obtain ⟨v2, vs2, d2, ds2, p2, q2, rfl, rfl, _, h2, r2⟩ := trodAll_cons r1
  obtain ⟨rfl, rfl, rfl⟩ := trodAll_nil r2
  obtain rfl : args = #[v0, v1, v2] := by cases args; simp_all
  obtain ⟨rfl, rfl⟩ := trodVars_none hV
  obtain ⟨L0, ⟨hc0, hl0⟩, hx0⟩ := ((Wx.FW (enc := enc) (sz := 4) [] Tryz.underlying22 (by kernel_rfl) (by omega) Wx.O1).arg Tryz.underlying22 (hval 0 22 v0 rfl rfl) h0)
  obtain ⟨L1, qx, hx1⟩ := ((Wx.sJ (enc := enc)).PS (.inl ⟨_, Tryz.underlying24⟩) (hval 1 24 v1 rfl rfl) h1)
  obtain ⟨L2, hc2, hx2⟩ := ((Wx.sJ (enc := enc)).PS (.inl ⟨_, Tryz.underlying24⟩) (hval 2 24 v2 rfl rfl) h2)
  clear TS MS
  simp only [List.append_nil] at WG
  refine (Wx.IA (Wx.Ck (L := L0) (x := L1) (y := L2) ⟨qx, hc2, Wx.OM hc0⟩ (fun _ _ => False) W v0 v1 v2 Wx.Lj hx0 hx1 hx2)).mono fun e W' ⟨he, hb⟩ => ?_
  subst he
  exact ⟨_, rfl, Wx.vT (pa := p) (pv := []) WG (fun _ _ _ => (trodAll_cons_mk (shut_bool Tryz.underlying4 _) trodAll_mk0)) (fun sp hs => Wx.qp (fun k hk => hb.block k hk) 8 (by kernel_rfl) X6 hs) (fun _ _ => rfl) (List.append_nil _).symm
    hb (ok_one (by kernel_rfl) rfl (okWide_bool_mk Tryz.underlying4 _))⟩

theorem holds : Rows.RepairCorrectsSaid :=
  OpenClaim.holds_of_wide 3 Tryz.f3 rfl rfl rfl rfl rfl rfl rfl ⟨rfl, rfl, rfl, rfl, rfl⟩ rfl rfl rfl rfl rfl (by kernel_rfl) Tryz.func3 (by kernel_rfl)
    (of_decide_eq_true (by kernel_rfl)) (by unfold Func.isWrapper; first | (rw [if_pos (by decide +kernel)]; kernel_rfl) | (rw [if_neg (by decide +kernel)]; exact ⟨rfl, rfl⟩))
    (fun os started H enc _ => lifted os started H enc)
#print axioms holds
end Go.Proofs.YtocboimkilkklaaGreat.repairCorrects
