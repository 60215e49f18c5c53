/-
  wingworkslaw01.RatioMatrices returns true for every input: Product, Transposed, Det and Quadratic of any matrices return the results of the reference, or its errors. No condition.
-/
import Derived.ChangeMaps5
import Derived.Test.YtpiniclogfefjaaGreatCMatricesMatsSem
namespace Go.Proofs.YtpiniclogfefjaaGreat.ratioMatrices
open Go.ChangeShapes Go.WideShapes Go.ChangeAt Go.RowKit
set_option linter.unusedVariables false

theorem own : ownKnob Tryz.prog.godebug = none := by kernel_rfl

set_option maxRecDepth 100000 in
theorem lifted (os : Os) (started : os.Started) (H : Type) (enc : TypeId × Value → H) :
    ReturnsInHanded {} Tryz.checked os 4 .any (Rows.ratioMatricesSpec.pre6 enc Tryz.prog Tryz.f4 Rows.ratioMatricesRow.domain false) (Rows.ratioMatricesSpec.post enc Tryz.prog Tryz.f4 false true false false) := by
  refine returnsInHanded_of_change (C := Tryz.checked) own started (by kernel_rfl) Tryz.func4
    (ChangeSpec.witness6 (enc := enc) (C := Tryz.checked) false ⟨#[], #[.slice none 0 0, .slice none 0 0, .slice none 0 0], []⟩ 8 (by kernel_rfl) (by kernel_rfl) (by kernel_rfl) (by kernel_rfl)) ?_
  intro W base args ds gs before hval0 hW hcnd _
  have hval : ∀ (j : Nat) t v, Tryz.f4.params[j]? = some t → args[j]? = some v → Value.okWide Tryz.prog W .any base t v := hval0
  have hW' := hW
  obtain ⟨p, q, hA0, hV, rfl, hfz, hnd⟩ := hW
  have hA : DataW.TrodAll enc Tryz.prog W 0 (fun _ => true) true Tryz.f4.params.toList args.toList ds p := hA0
  have hA1 := hA0
  rw [Tryz.params4] at hA hval
  obtain ⟨v0, vs0, d0, ds0, p0, q0, hargs, rfl, _, h0, r0⟩ := trodAll_cons hA
  obtain ⟨v1, vs1, d1, ds1, p1, q1, rfl, rfl, _, h1, r1⟩ := trodAll_cons r0
  obtain ⟨v2, vs2, d2, ds2, p2, q2, rfl, rfl, _, h2, r2⟩ := trodAll_cons r1
  obtain ⟨rfl, rfl, rfl⟩ := trodAll_nil r2
  obtain rfl : args = #[v0, v1, v2] := by cases args; simp_all
  obtain ⟨rfl, rfl⟩ := trodVars_none hV
  obtain ⟨L0, ⟨hC0, hl0⟩, hx0⟩ := (Wx.opn_slice (enc := enc) (sz := 1) [] Tryz.underlying22 (by kernel_rfl) (by omega) (Wx.opn_slice (enc := enc) (sz := 2) ((0 : Int), (0 : Int), ()) Tryz.underlying43 (by kernel_rfl) (by omega) (Wx.opn_struct (enc := enc) (N := 2) Tryz.underlying82 (by kernel_rfl) (by kernel_rfl) (Wx.opnFs_cons (n := 1) (Wx.opn_int Tryz.underlying2) (by kernel_rfl) (by omega) (Wx.opnFs_cons (n := 1) (Wx.opn_int Tryz.underlying2) (by kernel_rfl) (by omega) Wx.opnFs_nil))))).arg Tryz.underlying22 (hval 0 22 v0 rfl rfl) h0
  obtain ⟨L1, ⟨hC1, hl1⟩, hx1⟩ := (Wx.opn_slice (enc := enc) (sz := 1) [] Tryz.underlying22 (by kernel_rfl) (by omega) (Wx.opn_slice (enc := enc) (sz := 2) ((0 : Int), (0 : Int), ()) Tryz.underlying43 (by kernel_rfl) (by omega) (Wx.opn_struct (enc := enc) (N := 2) Tryz.underlying82 (by kernel_rfl) (by kernel_rfl) (Wx.opnFs_cons (n := 1) (Wx.opn_int Tryz.underlying2) (by kernel_rfl) (by omega) (Wx.opnFs_cons (n := 1) (Wx.opn_int Tryz.underlying2) (by kernel_rfl) (by omega) Wx.opnFs_nil))))).arg Tryz.underlying22 (hval 1 22 v1 rfl rfl) h1
  obtain ⟨L2, ⟨hC2, hl2⟩, hx2⟩ := (Wx.opn_slice (enc := enc) (sz := 2) ((0 : Int), (0 : Int), ()) Tryz.underlying43 (by kernel_rfl) (by omega) (Wx.opn_struct (enc := enc) (N := 2) Tryz.underlying82 (by kernel_rfl) (by kernel_rfl) (Wx.opnFs_cons (n := 1) (Wx.opn_int Tryz.underlying2) (by kernel_rfl) (by omega) (Wx.opnFs_cons (n := 1) (Wx.opn_int Tryz.underlying2) (by kernel_rfl) (by omega) Wx.opnFs_nil)))).arg Tryz.underlying43 (hval 2 43 v2 rfl rfl) h2
  clear hA0 hval0
  simp only [List.append_nil] at hW'
  refine (Wx.mats_law W (La := L0) (Lb := L1) (Lx := L2) ⟨hl0, fun i hi => ⟨(hC0 _ (Wx.getD_mem hi)).2, fun k hk => Wx.fd_ok ((hC0 _ (Wx.getD_mem hi)).1 _ (Wx.getD_mem hk)).1 ((hC0 _ (Wx.getD_mem hi)).1 _ (Wx.getD_mem hk)).2.1⟩⟩ ⟨hl1, fun i hi => ⟨(hC1 _ (Wx.getD_mem hi)).2, fun k hk => Wx.fd_ok ((hC1 _ (Wx.getD_mem hi)).1 _ (Wx.getD_mem hk)).1 ((hC1 _ (Wx.getD_mem hi)).1 _ (Wx.getD_mem hk)).2.1⟩⟩ ⟨hl2, fun k hk => Wx.fd_ok (hC2 _ (Wx.getD_mem hk)).1 (hC2 _ (Wx.getD_mem hk)).2.1⟩ hx0 hx1 hx2).mono fun e W' ⟨he, hb⟩ => ?_
  subst he
  exact ⟨_, rfl, Wx.post_of_below (pa := p) (pv := []) hW' (fun _ _ _ => (trodAll_cons_mk (shut_bool Tryz.underlying4 _) trodAll_mk0)) (fun sp hs => Wx.trodAll_keep (fun k hk => hb.block k hk) 8 (by kernel_rfl) hA1 hs) (fun _ _ => rfl) (List.append_nil _).symm
    hb (ok_one (by kernel_rfl) rfl (okWide_bool_mk Tryz.underlying4 _))⟩

theorem holds : Rows.RatioMatricesSaid :=
  OpenClaim.holds_of_wide 4 Tryz.f4 rfl rfl rfl rfl rfl rfl rfl ⟨rfl, rfl, rfl, rfl, rfl⟩ rfl rfl rfl rfl rfl (by kernel_rfl) Tryz.func4 (by kernel_rfl)
    (of_decide_eq_true (by kernel_rfl)) (by unfold Func.isWrapper; first | (rw [if_pos (by decide +kernel)]; kernel_rfl) | (rw [if_neg (by decide +kernel)]; exact ⟨rfl, rfl⟩))
    (fun os started H enc _ => lifted os started H enc)
#print axioms holds
end Go.Proofs.YtpiniclogfefjaaGreat.ratioMatrices
