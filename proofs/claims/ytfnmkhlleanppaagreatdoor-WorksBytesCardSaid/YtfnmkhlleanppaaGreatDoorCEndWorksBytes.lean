/-
  wingworkslaw10.WorksBytes returns true for every input: if one byte of a string is replaced by another one, its Sum changes; Read of frames one behind the other, cut anywhere, returns the lines of the whole ones. No condition; the row's card, tied to the program's text.
-/
import Derived.Test.YtfnmkhlleanppaaGreatDoorCards
import Derived.Test.YtfnmkhlleanppaaGreatDoorTie
import Derived.ChangeMaps5
import Derived.SevenTiedAt
import Derived.Test.YtfnmkhlleanppaaGreatDoorCWBWk21
import Derived.Test.YtfnmkhlleanppaaGreatDoorJWB48
namespace Go.Proofs.YtfnmkhlleanppaaGreatDoor.worksBytes
open Go.ChangeShapes Go.WideShapes Go.ChangeAt Go.RowKit
set_option linter.unusedVariables false

theorem own : ownKnob Tryz.prog.godebug = none := by kernel_rfl

set_option maxRecDepth 100000 in
theorem lifted (os : Os) (started : os.Started) (H : Type) (enc : TypeId × Value → H) :
    ReturnsInHanded {} Tryz.checked os 4 .any (fun w args => (Rows.worksBytesSpec.pre enc Tryz.prog Tryz.f4 Rows.worksBytesRow.domain false w args ∧ laidMetH Tryz.prog Wx.lW w) ∧ sizedMet enc Tryz.prog Tryz.f4 (OpenSpec.ofChange Rows.worksBytesSpec) false w args)
      (Rows.worksBytesSpec.post enc Tryz.prog Tryz.f4 false true false false) := by
  refine Wx.nB (C := Tryz.checked) (X := fun w _ => laidMetH Tryz.prog Wx.lW w) (fun _ _ _ hh h => h.of_heap hh) own started (by kernel_rfl) Tryz.func4
    (ChangeSpec.witness_shaped (enc := enc) (C := Tryz.checked) (os := os) (X := fun w _ => laidMetH Tryz.prog Wx.lW w) false (World.laidAll Tryz.prog os Wx.lW) #[.int .u32 0, .string ⟨#[]⟩, .int .u16 0, .int .u8 0, .slice none 0 0, .int .u16 0] 8 (World.laidAll_os _ _ _)
      (World.shaped_of_ZipB (by kernel_rfl) (by kernel_rfl)) (by kernel_rfl) (by kernel_rfl) (by kernel_rfl)
      (by rw [MakeChecks.laidMetH_plain _ _ _ (by kernel_rfl)]; exact laidMet_laidAll _ (by kernel_rfl) (by kernel_rfl))) ?_
  intro W base args ds gs before yI hW hL hS
  have hval : ∀ (j : Nat) t v, Tryz.f4.params[j]? = some t → args[j]? = some v → Value.okWide Tryz.prog W .any base t v := yI
  have EW := hW
  obtain ⟨p, q, DX, hV, rfl, hfz, hnd⟩ := hW
  have hA : DataW.TrodAll enc Tryz.prog W 0 (fun _ => true) true Tryz.f4.params.toList args.toList ds p := DX
  have FQ := DX
  rw [Tryz.params4] at hA hval
  obtain ⟨v0, vs0, d0, ds0, p0, q0, hargs, rfl, _, h0, r0⟩ := trodAll_cons hA
  obtain ⟨v1, vs1, d1, ds1, p1, q1, rfl, rfl, _, h1, r1⟩ := trodAll_cons r0
  obtain ⟨v2, vs2, d2, ds2, p2, q2, rfl, rfl, _, h2, r2⟩ := trodAll_cons r1
  obtain ⟨v3, vs3, d3, ds3, p3, q3, rfl, rfl, _, h3, r3⟩ := trodAll_cons r2
  obtain ⟨v4, vs4, d4, ds4, p4, q4, rfl, rfl, _, h4, r4⟩ := trodAll_cons r3
  obtain ⟨v5, vs5, d5, ds5, p5, q5, rfl, rfl, _, h5, r5⟩ := trodAll_cons r4
  obtain ⟨rfl, rfl, rfl⟩ := trodAll_nil r5
  obtain rfl : args = #[v0, v1, v2, v3, v4, v5] := by cases args; simp_all
  obtain ⟨rfl, rfl⟩ := trodVars_none hV
  obtain ⟨a0, rfl, _, _, wa0⟩ := open_int Tryz.underlying22 (hval 0 22 v0 rfl rfl) h0
  obtain ⟨a2, rfl, _, _, GV⟩ := open_int Tryz.underlying34 (hval 2 34 v2 rfl rfl) h2
  obtain ⟨a3, rfl, _, _, GX⟩ := open_int Tryz.underlying5 (hval 3 5 v3 rfl rfl) h3
  obtain ⟨a5, rfl, _, _, GY⟩ := open_int Tryz.underlying34 (hval 5 34 v5 rfl rfl) h5
  obtain ⟨a1, rfl, _, _, wa1⟩ := Go.ChangeMaps.open_string Tryz.underlying9 (hval 1 9 v1 rfl rfl) h1
  obtain ⟨L, ⟨_, hl⟩, Gm⟩ := ((Wx.sV (enc := enc) (sz := 1) (⟨#[]⟩ : ByteArray) Tryz.underlying28 (by kernel_rfl) (by omega) (Wx.qu Tryz.underlying9)).arg Tryz.underlying28 (hval 4 28 v4 rfl rfl) h4)
  have y2 := Wx.wf_u16 GV
  have y3 := Wx.wf_u8 GX
  have y5 := Wx.wf_u16 GY
  clear DX yI
  simp only [List.append_nil] at EW
  refine (Wx.uQ (Wx.xX (x := a0) (s := a1) (p := a2) (y := a3) (c := a5) (n := L.length) (f := fun k => L.getD k ⟨#[]⟩) y2 y3 y5 (show L.length ≤ 2 ^ 63 - 1 from hl) (Wx.xk trivial) (fun _ _ => False) W _ _ _ _ _ _ Wx.xA (Wx.zP hL hS) (fun _ _ => rfl) (fun _ _ => rfl) (fun _ _ => rfl) (fun _ _ => rfl) Gm (fun _ _ => rfl))).mono fun e W' ⟨he, hb⟩ => ?_
  subst he
  exact ⟨_, rfl, Wx.lJ (pa := p) (pv := []) EW (fun _ _ _ => (trodAll_cons_mk (shut_bool Tryz.underlying4 _) trodAll_mk0)) (fun sp hs => Wx.iV (fun k hk => hb.block k hk) 8 (by kernel_rfl) FQ hs) (fun _ _ => rfl) (List.append_nil _).symm
    hb (ok_one (by kernel_rfl) rfl (okWide_bool_mk Tryz.underlying4 _))⟩

theorem holds : Rows.WorksBytesSaid :=
  OpenClaim.holds_of_wide 4 Tryz.f4 rfl rfl rfl rfl rfl rfl rfl ⟨rfl, rfl, rfl, rfl, rfl⟩ rfl rfl rfl rfl rfl (by kernel_rfl) Tryz.func4 (by kernel_rfl)
    (of_decide_eq_true (by kernel_rfl)) (by unfold Func.isWrapper; first | (rw [if_pos (by decide +kernel)]; kernel_rfl) | (rw [if_neg (by decide +kernel)]; exact ⟨rfl, rfl⟩))
    (fun os started H enc _ => lifted os started H enc)

set_option maxRecDepth 100000 in
theorem card_holds : Rows.WorksBytesCardSaid :=
  Claim7.holds_tied_plain_at .later [] [.data, .data, .data, .data, .sentinel, .sentinel, .pinned] true (true, "c898f623a903b667eb924da4f127e14fa1c7079f7fee6305dc998954983aad7a") true holds (fun _ h => by cases h) (by kernel_rfl) (fun _ h => by cases h) worksBytes_row_tie rfl ⟨rfl, rfl⟩ (by kernel_rfl) rfl
    (fun f fn hf hfn => by
      obtain rfl : f = 4 := Option.some.inj ((show Tryz.prog.funcNamed "wingworks/wingworkslaw10.WorksBytes" = some 4 by kernel_rfl).symm.trans hf) |>.symm
      obtain rfl : fn = Tryz.f4 := (Option.some.inj (Tryz.func4.symm.trans hfn)).symm
      exact ⟨by kernel_rfl, fun j t ht => by
        rw [Tryz.params4] at ht
        have hm : t ∈ [22, 9, 34, 5, 28, 34] := by simpa using Array.mem_of_getElem? ht
        have cy : ([22, 9, 34, 5, 28, 34].all fun u => !Tryz.prog.wantsStandIn u) = true := by kernel_rfl
        exact (show Tryz.prog.wantsStandIn t = false by simpa using List.all_eq_true.1 cy t hm)⟩)
    (by kernel_rfl)
#print axioms holds
#print axioms card_holds
end Go.Proofs.YtfnmkhlleanppaaGreatDoor.worksBytes
