/-
  wingworkslaw09.RepairMerged returns true for every input: a merged damage has each corner of both; Merge and Apart do not depend on the order; Apart and Room hold for a lesser distance; what is apart has no corner inside; what has room has its midpoints inside. No condition.
-/
import Derived.ChangeMaps5
import Derived.Test.YtikkgpljpglnbaaGreatCRMLawMerged
namespace Go.Proofs.YtikkgpljpglnbaaGreat.repairMerged
open Go.ChangeShapes Go.WideShapes Go.ChangeAt Go.RowKit
set_option linter.unusedVariables false

theorem own : ownKnob Tryz.prog.godebug = none := by kernel_rfl

set_option maxRecDepth 100000 in
theorem lifted (os : Os) (started : os.Started) (H : Type) (enc : TypeId × Value → H) :
    ReturnsInHanded {} Tryz.checked os 4 .any (Rows.repairMergedSpec.pre6 enc Tryz.prog Tryz.f4 Rows.repairMergedRow.domain false) (Rows.repairMergedSpec.post enc Tryz.prog Tryz.f4 false true false false) := by
  refine returnsInHanded_of_change (C := Tryz.checked) own started (by kernel_rfl) Tryz.func4
    (ChangeSpec.witness6 (enc := enc) (C := Tryz.checked) false ⟨#[], #[.agg #[.slice none 0 0, .int .i64 0], .agg #[.slice none 0 0, .int .i64 0], .int .i64 0, .int .i64 0, .agg #[.int .u8 0, .int .u8 0], .int .u8 0], []⟩ 8 (by kernel_rfl) (by kernel_rfl) (by kernel_rfl) (by kernel_rfl)) ?_
  intro W base args ds gs before KJ hW hcnd _
  have hval : ∀ (j : Nat) t v, Tryz.f4.params[j]? = some t → args[j]? = some v → Value.okWide Tryz.prog W .any base t v := KJ
  have Um := hW
  obtain ⟨p, q, RG, hV, rfl, hfz, ND⟩ := hW
  have hA : DataW.TrodAll enc Tryz.prog W 0 (fun _ => true) true Tryz.f4.params.toList args.toList ds p := RG
  have VJ := RG
  rw [Tryz.params4] at hA hval
  obtain ⟨v0, vs0, d0, ds0, p0, q0, hargs, rfl, _, h0, r0⟩ := trodAll_cons hA
  obtain ⟨v1, vs1, d1, ds1, p1, q1, rfl, rfl, _, h1, r1⟩ := trodAll_cons r0
  obtain ⟨v2, vs2, d2, ds2, p2, q2, rfl, rfl, _, h2, r2⟩ := trodAll_cons r1
  obtain ⟨v3, vs3, d3, ds3, p3, q3, rfl, rfl, _, h3, r3⟩ := trodAll_cons r2
  obtain ⟨v4, vs4, d4, ds4, p4, q4, rfl, rfl, _, h4, r4⟩ := trodAll_cons r3
  obtain ⟨v5, vs5, d5, ds5, p5, q5, rfl, rfl, _, h5, r5⟩ := trodAll_cons r4
  obtain ⟨rfl, rfl, rfl⟩ := trodAll_nil r5
  obtain rfl : args = #[v0, v1, v2, v3, v4, v5] := by cases args; simp_all
  obtain ⟨rfl, rfl⟩ := trodVars_none hV
  obtain ⟨L0, hc0, hx0⟩ := ((Wx.zi (enc := enc)).Lx (.inl ⟨_, Tryz.underlying24⟩) (hval 0 24 v0 rfl rfl) h0)
  obtain ⟨L1, xq, hx1⟩ := ((Wx.zi (enc := enc)).Lx (.inl ⟨_, Tryz.underlying24⟩) (hval 1 24 v1 rfl rfl) h1)
  obtain ⟨a2, rfl, _, _, wa2⟩ := open_int Tryz.underlying3 (hval 2 3 v2 rfl rfl) h2
  obtain ⟨a3, rfl, _, _, wa3⟩ := open_int Tryz.underlying3 (hval 3 3 v3 rfl rfl) h3
  obtain ⟨L4, V8, WS⟩ := ((Wx.MP (enc := enc)).Lx (.inr ⟨_, _, Tryz.underlying35⟩) (hval 4 35 v4 rfl rfl) h4)
  obtain ⟨a5, rfl, _, _, wa5⟩ := open_int Tryz.underlying5 (hval 5 5 v5 rfl rfl) h5
  clear RG KJ
  simp only [List.append_nil] at Um
  refine (Wx.FZ (Wx.FT (K := L0.1) (k := L0.2) (L := L1.1) (l := L1.2) (f := a2) (g := a3) (s := L4.1) (t := L4.2) (r := a5) ⟨⟨hc0, xq⟩, V8⟩ (fun _ _ => False) W v0 v1 _ _ v4 _ Wx.Jn hx0 hx1 (fun _ _ => rfl) (fun _ _ => rfl) WS (fun _ _ => rfl))).mono fun e W' ⟨he, hb⟩ => ?_
  subst he
  exact ⟨_, rfl, Wx.uv (pa := p) (pv := []) Um (fun _ _ _ => (trodAll_cons_mk (shut_bool Tryz.underlying4 _) trodAll_mk0)) (fun sp hs => Wx.oU (fun k hk => hb.block k hk) 8 (by kernel_rfl) VJ hs) (fun _ _ => rfl) (List.append_nil _).symm
    hb (ok_one (by kernel_rfl) rfl (okWide_bool_mk Tryz.underlying4 _))⟩

theorem holds : Rows.RepairMergedSaid :=
  OpenClaim.holds_of_wide 4 Tryz.f4 rfl rfl rfl rfl rfl rfl rfl ⟨rfl, rfl, rfl, rfl, rfl⟩ rfl rfl rfl rfl rfl (by kernel_rfl) Tryz.func4 (by kernel_rfl)
    (of_decide_eq_true (by kernel_rfl)) (by unfold Func.isWrapper; first | (rw [if_pos (by decide +kernel)]; kernel_rfl) | (rw [if_neg (by decide +kernel)]; exact ⟨rfl, rfl⟩))
    (fun os started H enc _ => lifted os started H enc)
#print axioms holds
end Go.Proofs.YtikkgpljpglnbaaGreat.repairMerged
