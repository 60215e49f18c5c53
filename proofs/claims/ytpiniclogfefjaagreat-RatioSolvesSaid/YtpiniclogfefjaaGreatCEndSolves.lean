/-
  wingworkslaw01.RatioSolves returns true for every input: Solve, Inverse and Least of any matrix and list return the results of the reference, or its errors. No condition.
-/
import Derived.ChangeMaps5
import Derived.Test.YtpiniclogfefjaaGreatJSolves48
namespace Go.Proofs.YtpiniclogfefjaaGreat.ratioSolves
open Go.ChangeShapes Go.WideShapes Go.ChangeAt Go.RowKit
set_option linter.unusedVariables false

theorem own : ownKnob Tryz.prog.godebug = none := by kernel_rfl

set_option maxRecDepth 100000 in
theorem lifted (os : Os) (started : os.Started) (H : Type) (enc : TypeId × Value → H) :
    ReturnsInHanded {} Tryz.checked os 5 .any (Rows.ratioSolvesSpec.pre6 enc Tryz.prog Tryz.f5 Rows.ratioSolvesRow.domain false) (Rows.ratioSolvesSpec.post enc Tryz.prog Tryz.f5 false true false false) := by
  refine returnsInHanded_of_change (C := Tryz.checked) own started (by kernel_rfl) Tryz.func5
    (ChangeSpec.witness6 (enc := enc) (C := Tryz.checked) false ⟨#[], #[.slice none 0 0, .slice none 0 0], []⟩ 8 (by kernel_rfl) (by kernel_rfl) (by kernel_rfl) (by kernel_rfl)) ?_
  intro W base args ds gs before hval0 hW hcnd _
  have hval : ∀ (j : Nat) t v, Tryz.f5.params[j]? = some t → args[j]? = some v → Value.okWide Tryz.prog W .any base t v := hval0
  have hW' := hW
  obtain ⟨p, q, hA0, hV, rfl, hfz, hnd⟩ := hW
  have hA : DataW.TrodAll enc Tryz.prog W 0 (fun _ => true) true Tryz.f5.params.toList args.toList ds p := hA0
  have hA1 := hA0
  rw [Tryz.params5] at hA hval
  obtain ⟨v0, vs0, d0, ds0, p0, q0, hargs, rfl, _, h0, r0⟩ := trodAll_cons hA
  obtain ⟨v1, vs1, d1, ds1, p1, q1, rfl, rfl, _, h1, r1⟩ := trodAll_cons r0
  obtain ⟨rfl, rfl, rfl⟩ := trodAll_nil r1
  obtain rfl : args = #[v0, v1] := by cases args; simp_all
  obtain ⟨rfl, rfl⟩ := trodVars_none hV
  obtain ⟨L0, ⟨hC0, hl0⟩, hx0⟩ := (Wx.opn_slice (enc := enc) (sz := 1) [] Tryz.underlying22 (by kernel_rfl) (by omega) (Wx.opn_slice (enc := enc) (sz := 2) ((0 : Int), (0 : Int), ()) Tryz.underlying43 (by kernel_rfl) (by omega) (Wx.opn_struct (enc := enc) (N := 2) Tryz.underlying82 (by kernel_rfl) (by kernel_rfl) (Wx.opnFs_cons (n := 1) (Wx.opn_int Tryz.underlying2) (by kernel_rfl) (by omega) (Wx.opnFs_cons (n := 1) (Wx.opn_int Tryz.underlying2) (by kernel_rfl) (by omega) Wx.opnFs_nil))))).arg Tryz.underlying22 (hval 0 22 v0 rfl rfl) h0
  obtain ⟨L1, ⟨hC1, hl1⟩, hx1⟩ := (Wx.opn_slice (enc := enc) (sz := 2) ((0 : Int), (0 : Int), ()) Tryz.underlying43 (by kernel_rfl) (by omega) (Wx.opn_struct (enc := enc) (N := 2) Tryz.underlying82 (by kernel_rfl) (by kernel_rfl) (Wx.opnFs_cons (n := 1) (Wx.opn_int Tryz.underlying2) (by kernel_rfl) (by omega) (Wx.opnFs_cons (n := 1) (Wx.opn_int Tryz.underlying2) (by kernel_rfl) (by omega) Wx.opnFs_nil)))).arg Tryz.underlying43 (hval 1 43 v1 rfl rfl) h1
  clear hA0 hval0
  simp only [List.append_nil] at hW'
  refine (Wx.solves_law W (La := L0) (Lx := L1) ⟨hl0, fun i hi => ⟨(hC0 _ (Wx.getD_mem hi)).2, fun k hk => Wx.fd_ok ((hC0 _ (Wx.getD_mem hi)).1 _ (Wx.getD_mem hk)).1 ((hC0 _ (Wx.getD_mem hi)).1 _ (Wx.getD_mem hk)).2.1⟩⟩ ⟨hl1, fun k hk => Wx.fd_ok (hC1 _ (Wx.getD_mem hk)).1 (hC1 _ (Wx.getD_mem hk)).2.1⟩ hx0 hx1).mono fun e W' ⟨he, hb⟩ => ?_
  subst he
  exact ⟨_, rfl, Wx.post_of_below (pa := p) (pv := []) hW' (fun _ _ _ => (trodAll_cons_mk (shut_bool Tryz.underlying4 _) trodAll_mk0)) (fun sp hs => Wx.trodAll_keep (fun k hk => hb.block k hk) 8 (by kernel_rfl) hA1 hs) (fun _ _ => rfl) (List.append_nil _).symm
    hb (ok_one (by kernel_rfl) rfl (okWide_bool_mk Tryz.underlying4 _))⟩

theorem holds : Rows.RatioSolvesSaid :=
  OpenClaim.holds_of_wide 5 Tryz.f5 rfl rfl rfl rfl rfl rfl rfl ⟨rfl, rfl, rfl, rfl, rfl⟩ rfl rfl rfl rfl rfl (by kernel_rfl) Tryz.func5 (by kernel_rfl)
    (of_decide_eq_true (by kernel_rfl)) (by unfold Func.isWrapper; first | (rw [if_pos (by decide +kernel)]; kernel_rfl) | (rw [if_neg (by decide +kernel)]; exact ⟨rfl, rfl⟩))
    (fun os started H enc _ => lifted os started H enc)
#print axioms holds
end Go.Proofs.YtpiniclogfefjaaGreat.ratioSolves
