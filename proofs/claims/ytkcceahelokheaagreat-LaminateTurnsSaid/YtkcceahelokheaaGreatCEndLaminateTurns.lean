/-
  wingworkslaw04.LaminateTurns returns true for every input: without the reference: two sums of the elements of A, B and D do not change if a stack is turned; turning by 0 1 exchanges x and y; turning there and back changes nothing. No condition.
-/
import Derived.ChangeMaps5
import Derived.Test.YtkcceahelokheaaGreatCLTLawOpen
import Derived.Test.YtkcceahelokheaaGreatJLT48
namespace Go.Proofs.YtkcceahelokheaaGreat.laminateTurns
open Go.ChangeShapes Go.WideShapes Go.ChangeAt Go.RowKit
set_option linter.unusedVariables false

theorem own : ownKnob Tryz.prog.godebug = none := by kernel_rfl

set_option maxRecDepth 100000 in
theorem lifted (os : Os) (started : os.Started) (H : Type) (enc : TypeId × Value → H) :
    ReturnsInHanded {} Tryz.checked os 4 .any (Rows.laminateTurnsSpec.pre6 enc Tryz.prog Tryz.f4 Rows.laminateTurnsRow.domain false) (Rows.laminateTurnsSpec.post enc Tryz.prog Tryz.f4 false true false false) := by
  refine returnsInHanded_of_change (C := Tryz.checked) own started (by kernel_rfl) Tryz.func4
    (ChangeSpec.witness6 (enc := enc) (C := Tryz.checked) false ⟨#[], #[.slice none 0 0, .slice none 0 0, .agg #[.int .i64 0, .int .i64 0]], []⟩ 8 (by kernel_rfl) (by kernel_rfl) (by kernel_rfl) (by kernel_rfl)) ?_
  intro W base args ds gs before TZ hW hcnd _
  have hval : ∀ (j : Nat) t v, Tryz.f4.params[j]? = some t → args[j]? = some v → Value.okWide Tryz.prog W .any base t v := TZ
  have hW' := hW
  obtain ⟨p, q, U7, hV, rfl, hfz, TP⟩ := hW
  have hA : DataW.TrodAll enc Tryz.prog W 0 (fun _ => true) true Tryz.f4.params.toList args.toList ds p := U7
  have hA1 := U7
  rw [Tryz.params4] at hA hval
  obtain ⟨v0, vs0, d0, ds0, p0, q0, hargs, rfl, _, h0, r0⟩ := trodAll_cons hA
  obtain ⟨v1, vs1, d1, ds1, p1, q1, rfl, rfl, _, h1, r1⟩ := trodAll_cons r0
  obtain ⟨v2, vs2, d2, ds2, p2, q2, rfl, rfl, _, h2, r2⟩ := trodAll_cons r1
  obtain ⟨rfl, rfl, rfl⟩ := trodAll_nil r2
  obtain rfl : args = #[v0, v1, v2] := by cases args; simp_all
  obtain ⟨rfl, rfl⟩ := trodVars_none hV
  obtain ⟨L0, ⟨hC0, hl0⟩, hx0⟩ := (Wx.Cf (enc := enc) (sz := 32) [] Tryz.underlying22 (by kernel_rfl) (by omega) Wx.Su).arg Tryz.underlying22 (hval 0 22 v0 rfl rfl) h0
  obtain ⟨L1, ⟨hC1, AB⟩, hx1⟩ := (Wx.Cf (enc := enc) (sz := 4) Wx.FW Tryz.underlying23 (by kernel_rfl) (by omega) Wx.Sv).arg Tryz.underlying23 (hval 1 23 v1 rfl rfl) h1
  obtain ⟨L2, hC2, hx2⟩ := (Wx.mK (enc := enc) (N := 2) Tryz.underlying66 (by kernel_rfl) (by kernel_rfl) (Wx.aV (n := 1) (Wx.nE Tryz.underlying3) (by kernel_rfl) (by omega) (Wx.aV (n := 1) (Wx.nE Tryz.underlying3) (by kernel_rfl) (by omega) Wx.gn))).aba (.inl ⟨_, Tryz.underlying66⟩) (hval 2 66 v2 rfl rfl) h2
  clear U7 TZ
  simp only [List.append_nil] at hW'
  refine (Wx.R8 (Wx.R6 (L := L0) (S := L1) (p := L2.1) (q := L2.2.1) (Wx.Pr hC0) (fun _ _ => False) W v0 v1 v2 Wx.VU hx0 hx1 hx2)).mono fun e W' ⟨he, hb⟩ => ?_
  subst he
  exact ⟨_, rfl, Wx.Ba (pa := p) (pv := []) hW' (fun _ _ _ => (trodAll_cons_mk (shut_bool Tryz.underlying4 _) trodAll_mk0)) (fun sp hs => Wx.vh (fun k hk => hb.block k hk) 8 (by kernel_rfl) hA1 hs) (fun _ _ => rfl) (List.append_nil _).symm
    hb (ok_one (by kernel_rfl) rfl (okWide_bool_mk Tryz.underlying4 _))⟩

theorem holds : Rows.LaminateTurnsSaid :=
  OpenClaim.holds_of_wide 4 Tryz.f4 rfl rfl rfl rfl rfl rfl rfl ⟨rfl, rfl, rfl, rfl, rfl⟩ rfl rfl rfl rfl rfl (by kernel_rfl) Tryz.func4 (by kernel_rfl)
    (of_decide_eq_true (by kernel_rfl)) (by unfold Func.isWrapper; first | (rw [if_pos (by decide +kernel)]; kernel_rfl) | (rw [if_neg (by decide +kernel)]; exact ⟨rfl, rfl⟩))
    (fun os started H enc _ => lifted os started H enc)
#print axioms holds
end Go.Proofs.YtkcceahelokheaaGreat.laminateTurns
