/-
  wingworkslaw10.WorksFrames returns true for every input: reading of the bytes that Append wrote returns the same frame and nothing else, whatever the kind, the text and the remainder. No condition; the row's card, tied to the program's text.
-/
import Derived.Test.YtfnmkhlleanppaaGreatDoorCards
import Derived.Test.YtfnmkhlleanppaaGreatDoorTie
import Derived.ChangeMaps5
import Derived.SevenTiedAt
import Derived.Test.YtfnmkhlleanppaaGreatDoorJWF48
namespace Go.Proofs.YtfnmkhlleanppaaGreatDoor.worksFrames
open Go.ChangeShapes Go.WideShapes Go.ChangeAt Go.RowKit
set_option linter.unusedVariables false

theorem own : ownKnob Tryz.prog.godebug = none := by kernel_rfl

set_option maxRecDepth 100000 in
theorem lifted (os : Os) (started : os.Started) (H : Type) (enc : TypeId × Value → H) :
    ReturnsInHanded {} Tryz.checked os 3 .any (fun w args => (Rows.worksFramesSpec.pre enc Tryz.prog Tryz.f3 Rows.worksFramesRow.domain false w args ∧ laidMetH Tryz.prog Wx.lP w) ∧ sizedMet enc Tryz.prog Tryz.f3 (OpenSpec.ofChange Rows.worksFramesSpec) false w args)
      (Rows.worksFramesSpec.post enc Tryz.prog Tryz.f3 false true false false) := by
  refine Wx.nj (C := Tryz.checked) (X := fun w _ => laidMetH Tryz.prog Wx.lP w) (fun _ _ _ hh h => h.of_heap hh) own started (by kernel_rfl) Tryz.func3
    (ChangeSpec.witness_shaped (enc := enc) (C := Tryz.checked) (os := os) (X := fun w _ => laidMetH Tryz.prog Wx.lP w) false (World.laidAll Tryz.prog os Wx.lP) #[.int .u32 0, .string ⟨#[]⟩, .slice none 0 0] 8 (World.laidAll_os _ _ _)
      (World.shaped_of_ZipB (by kernel_rfl) (by kernel_rfl)) (by kernel_rfl) (by kernel_rfl) (by kernel_rfl)
      (by rw [MakeChecks.laidMetH_plain _ _ _ (by kernel_rfl)]; exact laidMet_laidAll _ (by kernel_rfl) (by kernel_rfl))) ?_
  intro W base args ds gs before yC hW hL hS
  have hval : ∀ (j : Nat) t v, Tryz.f3.params[j]? = some t → args[j]? = some v → Value.okWide Tryz.prog W .any base t v := yC
  have EY := hW
  obtain ⟨p, q, DT, hV, rfl, hfz, hnd⟩ := hW
  have hA : DataW.TrodAll enc Tryz.prog W 0 (fun _ => true) true Tryz.f3.params.toList args.toList ds p := DT
  have FL := DT
  rw [Tryz.params3] at hA hval
  obtain ⟨v0, vs0, d0, ds0, p0, q0, hargs, rfl, _, h0, r0⟩ := trodAll_cons hA
  obtain ⟨v1, vs1, d1, ds1, p1, q1, rfl, rfl, _, h1, r1⟩ := trodAll_cons r0
  obtain ⟨v2, vs2, d2, ds2, p2, q2, rfl, rfl, _, h2, r2⟩ := trodAll_cons r1
  obtain ⟨rfl, rfl, rfl⟩ := trodAll_nil r2
  obtain rfl : args = #[v0, v1, v2] := by cases args; simp_all
  obtain ⟨rfl, rfl⟩ := trodVars_none hV
  obtain ⟨a0, rfl, _, _, wa0⟩ := open_int Tryz.underlying22 (hval 0 22 v0 rfl rfl) h0
  obtain ⟨a1, rfl, _, _, wa1⟩ := Go.ChangeMaps.open_string Tryz.underlying9 (hval 1 9 v1 rfl rfl) h1
  obtain ⟨a2, _, hx2⟩ := ((Wx.xB (enc := enc) Tryz.underlying23 Tryz.underlying5 (by kernel_rfl)).arg Tryz.underlying23 (hval 2 23 v2 rfl rfl) h2)
  clear DT yC
  simp only [List.append_nil] at EY
  refine (Wx.uF (Wx.vI (x := a0) (s := a1) (b := a2) (Wx.wY trivial) (fun _ _ => False) W _ _ _ Wx.xn (Wx.zM hL hS) (fun _ _ => rfl) (fun _ _ => rfl) hx2)).mono fun e W' ⟨he, hb⟩ => ?_
  subst he
  exact ⟨_, rfl, Wx.lC (pa := p) (pv := []) EY (fun _ _ _ => (trodAll_cons_mk (shut_bool Tryz.underlying4 _) trodAll_mk0)) (fun sp hs => Wx.iT (fun k hk => hb.block k hk) 8 (by kernel_rfl) FL hs) (fun _ _ => rfl) (List.append_nil _).symm
    hb (ok_one (by kernel_rfl) rfl (okWide_bool_mk Tryz.underlying4 _))⟩

theorem holds : Rows.WorksFramesSaid :=
  OpenClaim.holds_of_wide 3 Tryz.f3 rfl rfl rfl rfl rfl rfl rfl ⟨rfl, rfl, rfl, rfl, rfl⟩ rfl rfl rfl rfl rfl (by kernel_rfl) Tryz.func3 (by kernel_rfl)
    (of_decide_eq_true (by kernel_rfl)) (by unfold Func.isWrapper; first | (rw [if_pos (by decide +kernel)]; kernel_rfl) | (rw [if_neg (by decide +kernel)]; exact ⟨rfl, rfl⟩))
    (fun os started H enc _ => lifted os started H enc)

set_option maxRecDepth 100000 in
theorem pH : Rows.WorksFramesCardSaid :=
  Claim7.holds_tied_plain_at .later [] [.data, .data, .data, .data, .sentinel, .sentinel, .pinned] true (true, "c898f623a903b667eb924da4f127e14fa1c7079f7fee6305dc998954983aad7a") true holds (fun _ h => by cases h) (by kernel_rfl) (fun _ h => by cases h) worksFrames_row_tie rfl ⟨rfl, rfl⟩ (by kernel_rfl) rfl
    (fun f fn hf hfn => by
      obtain rfl : f = 3 := Option.some.inj ((show Tryz.prog.funcNamed "wingworks/wingworkslaw10.WorksFrames" = some 3 by kernel_rfl).symm.trans hf) |>.symm
      obtain rfl : fn = Tryz.f3 := (Option.some.inj (Tryz.func3.symm.trans hfn)).symm
      exact ⟨by kernel_rfl, fun j t ht => by
        rw [Tryz.params3] at ht
        have hm : t ∈ [22, 9, 23] := by simpa using Array.mem_of_getElem? ht
        have cE : ([22, 9, 23].all fun u => !Tryz.prog.wantsStandIn u) = true := by kernel_rfl
        exact (show Tryz.prog.wantsStandIn t = false by simpa using List.all_eq_true.1 cE t hm)⟩)
    (by kernel_rfl)
#print axioms holds
#print axioms pH
end Go.Proofs.YtfnmkhlleanppaaGreatDoor.worksFrames
