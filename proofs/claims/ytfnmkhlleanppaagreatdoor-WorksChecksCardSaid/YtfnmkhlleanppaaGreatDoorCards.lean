/-
  DERIVED. GIVEN WITH THE SEED: THE CARDS: each row of YtfnmkhlleanppaaGreatDoorRows.lean that lists a variable, with what it lists TIED to the program's text (the seventh form; the later family's looks); each row that meets fmt, with fmt's text TOLD by the authors' own Lean function (tested against real Go, not proved from fmt's source: count such statements apart). THE CARD IS WHAT COUNTS. Prove the row's statement (the work); the ties are given (YtfnmkhlleanppaaGreatDoorTie.lean); close each card by the builder's one call (the guide's Derived/Test/ToyasCard.lean, 'card_holds'). Laid BY PROGRAM, IN A SANDBOX (cutbox-door.mjs). By AI agents, Wed Nov 11 2026. No macro, syntax, notation, axiom, sorry.
-/
import Derived.Test.YtfnmkhlleanppaaGreatDoorRows
import GoSem.ClaimSeven
namespace Go.Proofs.YtfnmkhlleanppaaGreatDoor
namespace Rows

/-- THE TIED CARD OF 'wingworkslaw10.WorksFrames'. -/
def worksFramesCard : Claim7 := { stood := { row := worksFramesRow, standIns := [], harness := (true, "c898f623a903b667eb924da4f127e14fa1c7079f7fee6305dc998954983aad7a"), looks := true }, kinds := [], alts := [], laidByText := true, laidKinds := [.data, .data, .data, .data, .sentinel, .sentinel, .pinned], laidTests := true, laidLooks := .later }
def WorksFramesCardSaid : Prop := Claim7.holds Tryz.pinned (.plain (OpenSpec.ofChange worksFramesSpec)) worksFramesCard

/-- THE TIED CARD OF 'wingworkslaw10.WorksBytes'. -/
def worksBytesCard : Claim7 := { stood := { row := worksBytesRow, standIns := [], harness := (true, "c898f623a903b667eb924da4f127e14fa1c7079f7fee6305dc998954983aad7a"), looks := true }, kinds := [], alts := [], laidByText := true, laidKinds := [.data, .data, .data, .data, .sentinel, .sentinel, .pinned], laidTests := true, laidLooks := .later }
def WorksBytesCardSaid : Prop := Claim7.holds Tryz.pinned (.plain (OpenSpec.ofChange worksBytesSpec)) worksBytesCard

/-- THE TIED CARD OF 'wingworkslaw10.WorksChecks'. -/
def worksChecksCard : Claim7 := { stood := { row := worksChecksRow, standIns := [], harness := (true, "c898f623a903b667eb924da4f127e14fa1c7079f7fee6305dc998954983aad7a"), looks := true }, kinds := [], alts := [], laidByText := true, laidKinds := [.data, .data, .data, .data, .sentinel, .sentinel, .pinned], laidTests := true, laidLooks := .later }
def WorksChecksCardSaid : Prop := Claim7.holds Tryz.pinned (.plain (OpenSpec.ofChange worksChecksSpec)) worksChecksCard

/-- THE TIED CARD OF 'wingworkslaw10.WorksNil'. -/
def worksNilCard : Claim7 := { stood := { row := worksNilRow, standIns := [], harness := (true, "c898f623a903b667eb924da4f127e14fa1c7079f7fee6305dc998954983aad7a"), looks := true }, kinds := [], alts := [], laidByText := true, laidKinds := [.data, .data, .data, .data, .sentinel, .sentinel, .pinned], laidTests := true, laidLooks := .later }
def WorksNilCardSaid : Prop := Claim7.holds Tryz.pinned (.plain (OpenSpec.ofChange worksNilSpec)) worksNilCard

/-- THE SECOND FORM's CARD OF 'wingworkslaw10.WorksFrames'. -/
def worksFramesUptoCard : Claim7 := { stood := { row := worksFramesUptoRow, standIns := [], harness := (true, "c898f623a903b667eb924da4f127e14fa1c7079f7fee6305dc998954983aad7a"), looks := true }, kinds := [], alts := [], laidByText := true, laidKinds := [.data, .data, .data, .data, .sentinel, .sentinel, .pinned], laidTests := true, laidLooks := .later }
def WorksFramesUptoCardSaid : Prop := Claim7.holds Tryz.pinned (.plain (OpenSpec.upto worksFramesSpec)) worksFramesUptoCard

/-- THE SECOND FORM's CARD OF 'wingworkslaw10.WorksBytes'. -/
def worksBytesUptoCard : Claim7 := { stood := { row := worksBytesUptoRow, standIns := [], harness := (true, "c898f623a903b667eb924da4f127e14fa1c7079f7fee6305dc998954983aad7a"), looks := true }, kinds := [], alts := [], laidByText := true, laidKinds := [.data, .data, .data, .data, .sentinel, .sentinel, .pinned], laidTests := true, laidLooks := .later }
def WorksBytesUptoCardSaid : Prop := Claim7.holds Tryz.pinned (.plain (OpenSpec.upto worksBytesSpec)) worksBytesUptoCard

/-- THE SECOND FORM's CARD OF 'wingworkslaw10.WorksChecks'. -/
def worksChecksUptoCard : Claim7 := { stood := { row := worksChecksUptoRow, standIns := [], harness := (true, "c898f623a903b667eb924da4f127e14fa1c7079f7fee6305dc998954983aad7a"), looks := true }, kinds := [], alts := [], laidByText := true, laidKinds := [.data, .data, .data, .data, .sentinel, .sentinel, .pinned], laidTests := true, laidLooks := .later }
def WorksChecksUptoCardSaid : Prop := Claim7.holds Tryz.pinned (.plain (OpenSpec.upto worksChecksSpec)) worksChecksUptoCard

/-- THE SECOND FORM's CARD OF 'wingworkslaw10.WorksNil'. -/
def worksNilUptoCard : Claim7 := { stood := { row := worksNilUptoRow, standIns := [], harness := (true, "c898f623a903b667eb924da4f127e14fa1c7079f7fee6305dc998954983aad7a"), looks := true }, kinds := [], alts := [], laidByText := true, laidKinds := [.data, .data, .data, .data, .sentinel, .sentinel, .pinned], laidTests := true, laidLooks := .later }
def WorksNilUptoCardSaid : Prop := Claim7.holds Tryz.pinned (.plain (OpenSpec.upto worksNilSpec)) worksNilUptoCard
end Rows
end Go.Proofs.YtfnmkhlleanppaaGreatDoor
