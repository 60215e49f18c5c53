/-
  wingworkslaw09.RepairBalances returns true for every input: Balance returns the specified mass and place for any masses; two lists balanced by themselves, and then together, have the balance of both. No condition.
-/
import Derived.ChangeMaps5
import Derived.Test.YtadigiledciihaaGreatCRBLawBal
namespace Go.Proofs.YtadigiledciihaaGreat.repairBalances
open Go.ChangeShapes Go.WideShapes Go.ChangeAt Go.RowKit
set_option linter.unusedVariables false

theorem own : ownKnob Tryz.prog.godebug = none := by kernel_rfl

set_option maxRecDepth 100000 in
theorem lifted (os : Os) (started : os.Started) (H : Type) (enc : TypeId × Value → H) :
    ReturnsInHanded {} Tryz.checked os 6 .any (Rows.repairBalancesSpec.pre6 enc Tryz.prog Tryz.f6 Rows.repairBalancesRow.domain false) (Rows.repairBalancesSpec.post enc Tryz.prog Tryz.f6 false true false false) := by
  refine returnsInHanded_of_change (C := Tryz.checked) own started (by kernel_rfl) Tryz.func6
    (ChangeSpec.witness6 (enc := enc) (C := Tryz.checked) false ⟨#[], #[.slice none 0 0, .int .u8 0], []⟩ 8 (by kernel_rfl) (by kernel_rfl) (by kernel_rfl) (by kernel_rfl)) ?_
  intro W base args ds gs before KA hW hcnd _
  have hval : ∀ (j : Nat) t v, Tryz.f6.params[j]? = some t → args[j]? = some v → Value.okWide Tryz.prog W .any base t v := KA
  have TS := hW
  obtain ⟨p, q, Re, hV, rfl, hfz, Kq⟩ := hW
  have hA : DataW.TrodAll enc Tryz.prog W 0 (fun _ => true) true Tryz.f6.params.toList args.toList ds p := Re
  have Vf := Re
  rw [Tryz.params6] at hA hval
  obtain ⟨v0, vs0, d0, ds0, p0, q0, hargs, rfl, _, h0, r0⟩ := trodAll_cons hA
  obtain ⟨v1, vs1, d1, ds1, p1, q1, rfl, rfl, _, h1, r1⟩ := trodAll_cons r0
  obtain ⟨rfl, rfl, rfl⟩ := trodAll_nil r1
  obtain rfl : args = #[v0, v1] := by cases args; simp_all
  obtain ⟨rfl, rfl⟩ := trodVars_none hV
  obtain ⟨L0, ⟨hc0, hl0⟩, hx0⟩ := ((Wx.D3 (enc := enc) (sz := 6) [] Tryz.underlying46 (by kernel_rfl) (by omega) Wx.MM).arg Tryz.underlying46 (hval 0 46 v0 rfl rfl) h0)
  obtain ⟨a1, rfl, _, _, W4⟩ := open_int Tryz.underlying5 (hval 1 5 v1 rfl rfl) h1
  have x1 := Wx.wf_u8 W4
  clear Re KA
  simp only [List.append_nil] at TS
  refine (Wx.FZ (Wx.AJ (L := L0) (u := a1) ⟨x1, Wx.Mx hc0⟩ (fun _ _ => False) W v0 _ Wx.Ja hx0 (fun _ _ => rfl))).mono fun e W' ⟨he, hb⟩ => ?_
  subst he
  exact ⟨_, rfl, Wx.uo (pa := p) (pv := []) TS (fun _ _ _ => (trodAll_cons_mk (shut_bool Tryz.underlying4 _) trodAll_mk0)) (fun sp hs => Wx.oJ (fun k hk => hb.block k hk) 8 (by kernel_rfl) Vf hs) (fun _ _ => rfl) (List.append_nil _).symm
    hb (ok_one (by kernel_rfl) rfl (okWide_bool_mk Tryz.underlying4 _))⟩

theorem holds : Rows.RepairBalancesSaid :=
  OpenClaim.holds_of_wide 6 Tryz.f6 rfl rfl rfl rfl rfl rfl rfl ⟨rfl, rfl, rfl, rfl, rfl⟩ rfl rfl rfl rfl rfl (by kernel_rfl) Tryz.func6 (by kernel_rfl)
    (of_decide_eq_true (by kernel_rfl)) (by unfold Func.isWrapper; first | (rw [if_pos (by decide +kernel)]; kernel_rfl) | (rw [if_neg (by decide +kernel)]; exact ⟨rfl, rfl⟩))
    (fun os started H enc _ => lifted os started H enc)
#print axioms holds
end Go.Proofs.YtadigiledciihaaGreat.repairBalances
