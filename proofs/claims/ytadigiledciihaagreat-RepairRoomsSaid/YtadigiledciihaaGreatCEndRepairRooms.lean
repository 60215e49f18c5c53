/-
  wingworkslaw09.RepairRooms returns true for every input: Room returns the specified result for any damage, outline and distance. No condition.
-/
import Derived.ChangeMaps5
import Derived.Test.YtadigiledciihaaGreatCRRLawRooms
namespace Go.Proofs.YtadigiledciihaaGreat.repairRooms
open Go.ChangeShapes Go.WideShapes Go.ChangeAt Go.RowKit
set_option linter.unusedVariables false

theorem own : ownKnob Tryz.prog.godebug = none := by kernel_rfl

set_option maxRecDepth 100000 in
theorem lifted (os : Os) (started : os.Started) (H : Type) (enc : TypeId × Value → H) :
    ReturnsInHanded {} Tryz.checked os 7 .any (Rows.repairRoomsSpec.pre6 enc Tryz.prog Tryz.f7 Rows.repairRoomsRow.domain false) (Rows.repairRoomsSpec.post enc Tryz.prog Tryz.f7 false true false false) := by
  refine returnsInHanded_of_change (C := Tryz.checked) own started (by kernel_rfl) Tryz.func7
    (ChangeSpec.witness6 (enc := enc) (C := Tryz.checked) false ⟨#[], #[.agg #[.slice none 0 0, .int .i64 0], .slice none 0 0, .int .i64 0], []⟩ 8 (by kernel_rfl) (by kernel_rfl) (by kernel_rfl) (by kernel_rfl)) ?_
  intro W base args ds gs before Iz hW hcnd _
  have hval : ∀ (j : Nat) t v, Tryz.f7.params[j]? = some t → args[j]? = some v → Value.okWide Tryz.prog W .any base t v := Iz
  have Rz := hW
  obtain ⟨p, q, OO, hV, rfl, hfz, KW⟩ := hW
  have hA : DataW.TrodAll enc Tryz.prog W 0 (fun _ => true) true Tryz.f7.params.toList args.toList ds p := OO
  have S0 := OO
  rw [Tryz.params7] at hA hval
  obtain ⟨v0, vs0, d0, ds0, p0, q0, hargs, rfl, _, h0, r0⟩ := trodAll_cons hA
  obtain ⟨v1, vs1, d1, ds1, p1, q1, rfl, rfl, _, h1, r1⟩ := trodAll_cons r0
  obtain ⟨v2, vs2, d2, ds2, p2, q2, rfl, rfl, _, h2, r2⟩ := trodAll_cons r1
  obtain ⟨rfl, rfl, rfl⟩ := trodAll_nil r2
  obtain rfl : args = #[v0, v1, v2] := by cases args; simp_all
  obtain ⟨rfl, rfl⟩ := trodVars_none hV
  obtain ⟨L0, _, hx0⟩ := ((Wx.GD (enc := enc)).Oj (.inl ⟨_, Tryz.underlying24⟩) (hval 0 24 v0 rfl rfl) h0)
  obtain ⟨L1, ⟨_, tD⟩, hx1⟩ := ((Wx.tR (enc := enc) (sz := 2) ((0, 0) : Wx.Pt) Tryz.underlying22 (by kernel_rfl) (by omega) Wx.Ej).arg Tryz.underlying22 (hval 1 22 v1 rfl rfl) h1)
  obtain ⟨a2, rfl, _, _, Ut⟩ := open_int Tryz.underlying3 (hval 2 3 v2 rfl rfl) h2
  have x2 := Wx.wf_i64 Ut
  clear OO Iz
  simp only [List.append_nil] at Rz
  refine (Wx.DS (Wx.Gn (L := L0.1) (d := L0.2) (O := L1) (f := a2) trivial (fun _ _ => False) W v0 v1 _ Wx.Gs hx0 hx1 (fun _ _ => rfl))).mono fun e W' ⟨he, hb⟩ => ?_
  subst he
  exact ⟨_, rfl, Wx.sN (pa := p) (pv := []) Rz (fun _ _ _ => (trodAll_cons_mk (shut_bool Tryz.underlying4 _) trodAll_mk0)) (fun sp hs => Wx.nU (fun k hk => hb.block k hk) 8 (by kernel_rfl) S0 hs) (fun _ _ => rfl) (List.append_nil _).symm
    hb (ok_one (by kernel_rfl) rfl (okWide_bool_mk Tryz.underlying4 _))⟩

theorem holds : Rows.RepairRoomsSaid :=
  OpenClaim.holds_of_wide 7 Tryz.f7 rfl rfl rfl rfl rfl rfl rfl ⟨rfl, rfl, rfl, rfl, rfl⟩ rfl rfl rfl rfl rfl (by kernel_rfl) Tryz.func7 (by kernel_rfl)
    (of_decide_eq_true (by kernel_rfl)) (by unfold Func.isWrapper; first | (rw [if_pos (by decide +kernel)]; kernel_rfl) | (rw [if_neg (by decide +kernel)]; exact ⟨rfl, rfl⟩))
    (fun os started H enc _ => lifted os started H enc)
#print axioms holds
end Go.Proofs.YtadigiledciihaaGreat.repairRooms
