/-
  No cell of these rows narrows 'for every input' (looked for: loops, veiled, ifaces, maps, wideKeys, modest, calm, conditions, laid).
  DERIVED. THE GIVEN ROWS OF THIS SEAT. 3 by the template 'for every input the law returns true; each argument reads behind the call as it read before'; 0 by the template 'total and deterministic' (their statements: YtpiniclogfefjaaGreatTotals.lean).
  GIVEN WITH THE SEED: the statements are not yours to turn. If you find one false, say at which input.
  Laid BY PROGRAM, IN A SANDBOX (cutbox-rows.mjs): the forced cells as the released guide's own fill.sh prints them over the translation 2ac66ab4aa366c68… (all of the seat's roots in one cut). By AI agents, Wed Nov 11 2026. No macro, syntax, notation, axiom, sorry.
-/
import Derived.Test.YtpiniclogfefjaaGreatChecked
import GoSem.Claim
import GoSem.ClaimJoined
import GoSem.ClaimMapViews
import Derived.JoinedTies
import Derived.KernelRfl
namespace Go.Proofs.YtpiniclogfefjaaGreat
/- THE CELL 'sum', in the pinned program and in every row, IS THE sha256 OF THE DUMP (.gsa) THAT YtpiniclogfefjaaGreatProg.lean LOADS. Nothing in Lean hashes anything: it is a label: what it is worth is what the hold of that sum in a sandbox is worth. -/
noncomputable def Tryz.pinned : Pinned := { name := "ytpiniclogfefjaagreat", sum := "2ac66ab4aa366c68b4068620eb23cf9f6af281aa2baf124f44dee26cb0d2fcea", checked := Tryz.checked }
namespace Rows
def none {H : Type} : Left H := { results := [], args := [] }

/-- 'wingworkslaw01.RatioInertias': WHATEVER THE INPUT: true; the input reads as it did. -/
def ratioInertiasSpec : ChangeSpec := { name := "ratioInertias", fn := fun _ => fun
  | [d] => { results := [.lit (.bool true)], args := [d] }
  | _ => none }
def ratioInertiasRow : OpenClaim := { program := "ytpiniclogfefjaagreat", sum := "2ac66ab4aa366c68b4068620eb23cf9f6af281aa2baf124f44dee26cb0d2fcea", func := "wingworks/wingworkslaw01.RatioInertias", spec := "ratioInertias", inPlace := ["math/bits.Add64", "math/bits.Sub64", "internal/bytealg.IndexByteString", "internal/bytealg.IndexString", "internal/abi.NoEscape", "internal/bytealg.MakeNoZero"], unfollowed := true, recurses := true, named := ["math/bits.divideError", "math/bits.overflowError", "internal/bytealg.MaxLen"], apart := false }
def RatioInertiasSaid : Prop := ratioInertiasRow.holds Tryz.pinned (OpenSpec.ofChange ratioInertiasSpec)

/-- ITS FALSE NEIGHBOUR: 'it returns false'. Refute it at one input. -/
def ratioInertiasWrong : ChangeSpec := { name := "ratioInertias", fn := fun _ => fun
  | [d] => { results := [.lit (.bool false)], args := [d] }
  | _ => none }
def RatioInertiasWrongFalsely : Prop := ratioInertiasRow.holds Tryz.pinned (OpenSpec.ofChange ratioInertiasWrong)

/-- 'wingworkslaw01.RatioMatrices': WHATEVER THE INPUT: true; the input reads as it did. -/
def ratioMatricesSpec : ChangeSpec := { name := "ratioMatrices", fn := fun _ => fun
  | [d1, d2, d3] => { results := [.lit (.bool true)], args := [d1, d2, d3] }
  | _ => none }
def ratioMatricesRow : OpenClaim := { program := "ytpiniclogfefjaagreat", sum := "2ac66ab4aa366c68b4068620eb23cf9f6af281aa2baf124f44dee26cb0d2fcea", func := "wingworks/wingworkslaw01.RatioMatrices", spec := "ratioMatrices", inPlace := ["math/bits.Add64", "math/bits.Sub64", "internal/bytealg.IndexByteString", "internal/bytealg.IndexString", "internal/abi.NoEscape", "internal/bytealg.MakeNoZero"], unfollowed := true, recurses := true, named := ["math/bits.divideError", "math/bits.overflowError", "internal/bytealg.MaxLen"], apart := false }
def RatioMatricesSaid : Prop := ratioMatricesRow.holds Tryz.pinned (OpenSpec.ofChange ratioMatricesSpec)

/-- ITS FALSE NEIGHBOUR: 'it returns false'. Refute it at one input. -/
def ratioMatricesWrong : ChangeSpec := { name := "ratioMatrices", fn := fun _ => fun
  | [d1, d2, d3] => { results := [.lit (.bool false)], args := [d1, d2, d3] }
  | _ => none }
def RatioMatricesWrongFalsely : Prop := ratioMatricesRow.holds Tryz.pinned (OpenSpec.ofChange ratioMatricesWrong)

/-- 'wingworkslaw01.RatioSolves': WHATEVER THE INPUT: true; the input reads as it did. -/
def ratioSolvesSpec : ChangeSpec := { name := "ratioSolves", fn := fun _ => fun
  | [d1, d2] => { results := [.lit (.bool true)], args := [d1, d2] }
  | _ => none }
def ratioSolvesRow : OpenClaim := { program := "ytpiniclogfefjaagreat", sum := "2ac66ab4aa366c68b4068620eb23cf9f6af281aa2baf124f44dee26cb0d2fcea", func := "wingworks/wingworkslaw01.RatioSolves", spec := "ratioSolves", inPlace := ["math/bits.Add64", "math/bits.Sub64", "internal/bytealg.IndexByteString", "internal/bytealg.IndexString", "internal/abi.NoEscape", "internal/bytealg.MakeNoZero"], unfollowed := true, recurses := true, named := ["math/bits.divideError", "math/bits.overflowError", "internal/bytealg.MaxLen"], apart := false }
def RatioSolvesSaid : Prop := ratioSolvesRow.holds Tryz.pinned (OpenSpec.ofChange ratioSolvesSpec)

/-- ITS FALSE NEIGHBOUR: 'it returns false'. Refute it at one input. -/
def ratioSolvesWrong : ChangeSpec := { name := "ratioSolves", fn := fun _ => fun
  | [d1, d2] => { results := [.lit (.bool false)], args := [d1, d2] }
  | _ => none }
def RatioSolvesWrongFalsely : Prop := ratioSolvesRow.holds Tryz.pinned (OpenSpec.ofChange ratioSolvesWrong)

/- THE SECOND FORM. 'bulk': how many values and letters a reading holds, each counted each time it is reached (what is shared counts as often as it is met; a slice's spare places count too). A statement '..UptoSaid' is the law's where the arguments, and the package variables that the reading takes, are together of bulk at most 1048576: NARROWER than '..Said'. Prove '..Said' where nothing that the law and all that it calls make is longer than what came in: it says more and counts as full. Else prove '..UptoSaid'. A law counts once. -/
mutual
def uptoBulk {H : Type} : DataW H → Nat
  | .lit (.string bytes) => bytes.length + 1
  | .lit _ => 1
  | .nil => 1
  | .ptr d => uptoBulk d + 1
  | .slice elems spare => uptoBulkAll elems + uptoBulkAll spare + 1
  | .agg parts => uptoBulkAll parts + 1
  | .iface _ d => uptoBulk d + 1
  | .map entries => uptoBulkEntries entries + 1
  | .held _ => 1
def uptoBulkAll {H : Type} : List (DataW H) → Nat
  | [] => 0
  | d :: r => uptoBulk d + uptoBulkAll r
def uptoBulkEntries {H : Type} : List (Lit × DataW H) → Nat
  | [] => 0
  | x :: r => uptoBulkEntry x + uptoBulkEntries r
def uptoBulkEntry {H : Type} : Lit × DataW H → Nat
  | (.string bytes, d) => bytes.length + uptoBulk d + 1
  | (_, d) => uptoBulk d + 1
 end
def uptoSmall : (H : Type) → List (DataW H) → Bool := fun _ ds => decide (uptoBulkAll ds ≤ 1048576)
def OpenSpec.upto (s : _root_.Go.ChangeSpec) : _root_.Go.OpenSpec := { _root_.Go.OpenSpec.ofChange s with cond := some uptoSmall }

/-- 'wingworkslaw01.RatioInertias', WHERE WHAT IT READS IS OF BULK AT MOST 1048576: true; the input reads as it did. -/
def ratioInertiasUptoRow : OpenClaim := { program := "ytpiniclogfefjaagreat", sum := "2ac66ab4aa366c68b4068620eb23cf9f6af281aa2baf124f44dee26cb0d2fcea", func := "wingworks/wingworkslaw01.RatioInertias", spec := "ratioInertias", inPlace := ["math/bits.Add64", "math/bits.Sub64", "internal/bytealg.IndexByteString", "internal/bytealg.IndexString", "internal/abi.NoEscape", "internal/bytealg.MakeNoZero"], unfollowed := true, recurses := true, named := ["math/bits.divideError", "math/bits.overflowError", "internal/bytealg.MaxLen"], apart := false, narrowed := true }
def RatioInertiasUptoSaid : Prop := ratioInertiasUptoRow.holds Tryz.pinned (OpenSpec.upto ratioInertiasSpec)

/-- 'wingworkslaw01.RatioMatrices', WHERE WHAT IT READS IS OF BULK AT MOST 1048576: true; the input reads as it did. -/
def ratioMatricesUptoRow : OpenClaim := { program := "ytpiniclogfefjaagreat", sum := "2ac66ab4aa366c68b4068620eb23cf9f6af281aa2baf124f44dee26cb0d2fcea", func := "wingworks/wingworkslaw01.RatioMatrices", spec := "ratioMatrices", inPlace := ["math/bits.Add64", "math/bits.Sub64", "internal/bytealg.IndexByteString", "internal/bytealg.IndexString", "internal/abi.NoEscape", "internal/bytealg.MakeNoZero"], unfollowed := true, recurses := true, named := ["math/bits.divideError", "math/bits.overflowError", "internal/bytealg.MaxLen"], apart := false, narrowed := true }
def RatioMatricesUptoSaid : Prop := ratioMatricesUptoRow.holds Tryz.pinned (OpenSpec.upto ratioMatricesSpec)

/-- 'wingworkslaw01.RatioSolves', WHERE WHAT IT READS IS OF BULK AT MOST 1048576: true; the input reads as it did. -/
def ratioSolvesUptoRow : OpenClaim := { program := "ytpiniclogfefjaagreat", sum := "2ac66ab4aa366c68b4068620eb23cf9f6af281aa2baf124f44dee26cb0d2fcea", func := "wingworks/wingworkslaw01.RatioSolves", spec := "ratioSolves", inPlace := ["math/bits.Add64", "math/bits.Sub64", "internal/bytealg.IndexByteString", "internal/bytealg.IndexString", "internal/abi.NoEscape", "internal/bytealg.MakeNoZero"], unfollowed := true, recurses := true, named := ["math/bits.divideError", "math/bits.overflowError", "internal/bytealg.MaxLen"], apart := false, narrowed := true }
def RatioSolvesUptoSaid : Prop := ratioSolvesUptoRow.holds Tryz.pinned (OpenSpec.upto ratioSolvesSpec)

end Rows
end Go.Proofs.YtpiniclogfefjaaGreat
