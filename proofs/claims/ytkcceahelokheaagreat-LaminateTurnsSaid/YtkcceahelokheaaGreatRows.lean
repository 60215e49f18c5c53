/-
  No cell of these rows narrows 'for every input' (looked for: loops, veiled, ifaces, maps, wideKeys, modest, calm, conditions, laid).
  DERIVED. THE GIVEN ROWS OF THIS SEAT. 5 by the template 'for every input the law returns true; each argument reads behind the call as it read before'; 0 by the template 'total and deterministic' (their statements: YtkcceahelokheaaGreatTotals.lean).
  GIVEN WITH THE SEED: the statements are not yours to turn. If you find one false, say at which input.
  Laid BY PROGRAM, IN A SANDBOX (cutbox-rows.mjs): the forced cells as the released guide's own fill.sh prints them over the translation a614f73b1f993222… (all of the seat's roots in one cut). By AI agents, Wed Nov 11 2026. No macro, syntax, notation, axiom, sorry.
-/
import Derived.Test.YtkcceahelokheaaGreatChecked
import GoSem.Claim
import GoSem.ClaimJoined
import GoSem.ClaimMapViews
import Derived.JoinedTies
import Derived.KernelRfl
namespace Go.Proofs.YtkcceahelokheaaGreat
/- THE CELL 'sum', in the pinned program and in every row, IS THE sha256 OF THE DUMP (.gsa) THAT YtkcceahelokheaaGreatProg.lean LOADS. Nothing in Lean hashes anything: it is a label: what it is worth is what the hold of that sum in a sandbox is worth. -/
noncomputable def Tryz.pinned : Pinned := { name := "ytkcceahelokheaagreat", sum := "a614f73b1f993222e52f9438bebe10150d452d773e63861d0dc75cbb37a613e0", checked := Tryz.checked }
namespace Rows
def none {H : Type} : Left H := { results := [], args := [] }

/-- 'wingworkslaw04.LaminateEquilibrium': WHATEVER THE INPUT: true; the input reads as it did. -/
def laminateEquilibriumSpec : ChangeSpec := { name := "laminateEquilibrium", fn := fun _ => fun
  | [d1, d2, d3, d4, d5] => { results := [.lit (.bool true)], args := [d1, d2, d3, d4, d5] }
  | _ => none }
def laminateEquilibriumRow : OpenClaim := { program := "ytkcceahelokheaagreat", sum := "a614f73b1f993222e52f9438bebe10150d452d773e63861d0dc75cbb37a613e0", func := "wingworks/wingworkslaw04.LaminateEquilibrium", spec := "laminateEquilibrium", inPlace := ["math/bits.Add64", "math/bits.Sub64", "internal/abi.NoEscape", "internal/bytealg.MakeNoZero"], unfollowed := true, recurses := true, named := ["math/bits.divideError", "math/bits.overflowError"], apart := false }
def LaminateEquilibriumSaid : Prop := laminateEquilibriumRow.holds Tryz.pinned (OpenSpec.ofChange laminateEquilibriumSpec)

/-- ITS FALSE NEIGHBOUR: 'it returns false'. Refute it at one input. -/
def laminateEquilibriumWrong : ChangeSpec := { name := "laminateEquilibrium", fn := fun _ => fun
  | [d1, d2, d3, d4, d5] => { results := [.lit (.bool false)], args := [d1, d2, d3, d4, d5] }
  | _ => none }
def LaminateEquilibriumWrongFalsely : Prop := laminateEquilibriumRow.holds Tryz.pinned (OpenSpec.ofChange laminateEquilibriumWrong)

/-- 'wingworkslaw04.LaminateTurns': WHATEVER THE INPUT: true; the input reads as it did. -/
def laminateTurnsSpec : ChangeSpec := { name := "laminateTurns", fn := fun _ => fun
  | [d1, d2, d3] => { results := [.lit (.bool true)], args := [d1, d2, d3] }
  | _ => none }
def laminateTurnsRow : OpenClaim := { program := "ytkcceahelokheaagreat", sum := "a614f73b1f993222e52f9438bebe10150d452d773e63861d0dc75cbb37a613e0", func := "wingworks/wingworkslaw04.LaminateTurns", spec := "laminateTurns", inPlace := ["math/bits.Add64", "math/bits.Sub64", "internal/abi.NoEscape", "internal/bytealg.MakeNoZero"], unfollowed := true, recurses := true, named := ["math/bits.divideError", "math/bits.overflowError"], apart := false }
def LaminateTurnsSaid : Prop := laminateTurnsRow.holds Tryz.pinned (OpenSpec.ofChange laminateTurnsSpec)

/-- ITS FALSE NEIGHBOUR: 'it returns false'. Refute it at one input. -/
def laminateTurnsWrong : ChangeSpec := { name := "laminateTurns", fn := fun _ => fun
  | [d1, d2, d3] => { results := [.lit (.bool false)], args := [d1, d2, d3] }
  | _ => none }
def LaminateTurnsWrongFalsely : Prop := laminateTurnsRow.holds Tryz.pinned (OpenSpec.ofChange laminateTurnsWrong)

/-- 'wingworkslaw04.LaminateHolds': WHATEVER THE INPUT: true; the input reads as it did. -/
def laminateHoldsSpec : ChangeSpec := { name := "laminateHolds", fn := fun _ => fun
  | [d1, d2, d3, d4, d5, d6] => { results := [.lit (.bool true)], args := [d1, d2, d3, d4, d5, d6] }
  | _ => none }
def laminateHoldsRow : OpenClaim := { program := "ytkcceahelokheaagreat", sum := "a614f73b1f993222e52f9438bebe10150d452d773e63861d0dc75cbb37a613e0", func := "wingworks/wingworkslaw04.LaminateHolds", spec := "laminateHolds", inPlace := ["math/bits.Add64", "math/bits.Sub64", "internal/abi.NoEscape", "internal/bytealg.MakeNoZero"], unfollowed := true, recurses := true, named := ["math/bits.divideError", "math/bits.overflowError"], apart := false }
def LaminateHoldsSaid : Prop := laminateHoldsRow.holds Tryz.pinned (OpenSpec.ofChange laminateHoldsSpec)

/-- ITS FALSE NEIGHBOUR: 'it returns false'. Refute it at one input. -/
def laminateHoldsWrong : ChangeSpec := { name := "laminateHolds", fn := fun _ => fun
  | [d1, d2, d3, d4, d5, d6] => { results := [.lit (.bool false)], args := [d1, d2, d3, d4, d5, d6] }
  | _ => none }
def LaminateHoldsWrongFalsely : Prop := laminateHoldsRow.holds Tryz.pinned (OpenSpec.ofChange laminateHoldsWrong)

/-- 'wingworkslaw04.LaminateSymmetric': WHATEVER THE INPUT: true; the input reads as it did. -/
def laminateSymmetricSpec : ChangeSpec := { name := "laminateSymmetric", fn := fun _ => fun
  | [d1, d2, d3] => { results := [.lit (.bool true)], args := [d1, d2, d3] }
  | _ => none }
def laminateSymmetricRow : OpenClaim := { program := "ytkcceahelokheaagreat", sum := "a614f73b1f993222e52f9438bebe10150d452d773e63861d0dc75cbb37a613e0", func := "wingworks/wingworkslaw04.LaminateSymmetric", spec := "laminateSymmetric", inPlace := ["math/bits.Add64", "math/bits.Sub64", "internal/abi.NoEscape", "internal/bytealg.MakeNoZero"], unfollowed := true, recurses := true, named := ["math/bits.divideError", "math/bits.overflowError"], apart := false }
def LaminateSymmetricSaid : Prop := laminateSymmetricRow.holds Tryz.pinned (OpenSpec.ofChange laminateSymmetricSpec)

/-- ITS FALSE NEIGHBOUR: 'it returns false'. Refute it at one input. -/
def laminateSymmetricWrong : ChangeSpec := { name := "laminateSymmetric", fn := fun _ => fun
  | [d1, d2, d3] => { results := [.lit (.bool false)], args := [d1, d2, d3] }
  | _ => none }
def LaminateSymmetricWrongFalsely : Prop := laminateSymmetricRow.holds Tryz.pinned (OpenSpec.ofChange laminateSymmetricWrong)

/-- 'wingworkslaw04.LaminateScattered': WHATEVER THE INPUT: true; the input reads as it did. -/
def laminateScatteredSpec : ChangeSpec := { name := "laminateScattered", fn := fun _ => fun
  | [d1, d2, d3, d4] => { results := [.lit (.bool true)], args := [d1, d2, d3, d4] }
  | _ => none }
def laminateScatteredRow : OpenClaim := { program := "ytkcceahelokheaagreat", sum := "a614f73b1f993222e52f9438bebe10150d452d773e63861d0dc75cbb37a613e0", func := "wingworks/wingworkslaw04.LaminateScattered", spec := "laminateScattered", inPlace := ["math/bits.Add64", "math/bits.Sub64", "internal/abi.NoEscape", "internal/bytealg.MakeNoZero"], unfollowed := true, recurses := true, named := ["math/bits.divideError", "math/bits.overflowError"], apart := false }
def LaminateScatteredSaid : Prop := laminateScatteredRow.holds Tryz.pinned (OpenSpec.ofChange laminateScatteredSpec)

/-- ITS FALSE NEIGHBOUR: 'it returns false'. Refute it at one input. -/
def laminateScatteredWrong : ChangeSpec := { name := "laminateScattered", fn := fun _ => fun
  | [d1, d2, d3, d4] => { results := [.lit (.bool false)], args := [d1, d2, d3, d4] }
  | _ => none }
def LaminateScatteredWrongFalsely : Prop := laminateScatteredRow.holds Tryz.pinned (OpenSpec.ofChange laminateScatteredWrong)

/- THE SECOND FORM. 'bulk': how many values and letters a reading holds, each counted each time it is reached (what is shared counts as often as it is met; a slice's spare places count too). A statement '..UptoSaid' is the law's where the arguments, and the package variables that the reading takes, are together of bulk at most 1048576: NARROWER than '..Said'. Prove '..Said' where nothing that the law and all that it calls make is longer than what came in: it says more and counts as full. Else prove '..UptoSaid'. A law counts once. -/
mutual
def uptoBulk {H : Type} : DataW H → Nat
  | .lit (.string bytes) => bytes.length + 1
  | .lit _ => 1
  | .nil => 1
  | .ptr d => uptoBulk d + 1
  | .slice elems spare => uptoBulkAll elems + uptoBulkAll spare + 1
  | .agg parts => uptoBulkAll parts + 1
  | .iface _ d => uptoBulk d + 1
  | .map entries => uptoBulkEntries entries + 1
  | .held _ => 1
def uptoBulkAll {H : Type} : List (DataW H) → Nat
  | [] => 0
  | d :: r => uptoBulk d + uptoBulkAll r
def uptoBulkEntries {H : Type} : List (Lit × DataW H) → Nat
  | [] => 0
  | x :: r => uptoBulkEntry x + uptoBulkEntries r
def uptoBulkEntry {H : Type} : Lit × DataW H → Nat
  | (.string bytes, d) => bytes.length + uptoBulk d + 1
  | (_, d) => uptoBulk d + 1
 end
def uptoSmall : (H : Type) → List (DataW H) → Bool := fun _ ds => decide (uptoBulkAll ds ≤ 1048576)
def OpenSpec.upto (s : _root_.Go.ChangeSpec) : _root_.Go.OpenSpec := { _root_.Go.OpenSpec.ofChange s with cond := some uptoSmall }

/-- 'wingworkslaw04.LaminateEquilibrium', WHERE WHAT IT READS IS OF BULK AT MOST 1048576: true; the input reads as it did. -/
def laminateEquilibriumUptoRow : OpenClaim := { program := "ytkcceahelokheaagreat", sum := "a614f73b1f993222e52f9438bebe10150d452d773e63861d0dc75cbb37a613e0", func := "wingworks/wingworkslaw04.LaminateEquilibrium", spec := "laminateEquilibrium", inPlace := ["math/bits.Add64", "math/bits.Sub64", "internal/abi.NoEscape", "internal/bytealg.MakeNoZero"], unfollowed := true, recurses := true, named := ["math/bits.divideError", "math/bits.overflowError"], apart := false, narrowed := true }
def LaminateEquilibriumUptoSaid : Prop := laminateEquilibriumUptoRow.holds Tryz.pinned (OpenSpec.upto laminateEquilibriumSpec)

/-- 'wingworkslaw04.LaminateTurns', WHERE WHAT IT READS IS OF BULK AT MOST 1048576: true; the input reads as it did. -/
def laminateTurnsUptoRow : OpenClaim := { program := "ytkcceahelokheaagreat", sum := "a614f73b1f993222e52f9438bebe10150d452d773e63861d0dc75cbb37a613e0", func := "wingworks/wingworkslaw04.LaminateTurns", spec := "laminateTurns", inPlace := ["math/bits.Add64", "math/bits.Sub64", "internal/abi.NoEscape", "internal/bytealg.MakeNoZero"], unfollowed := true, recurses := true, named := ["math/bits.divideError", "math/bits.overflowError"], apart := false, narrowed := true }
def LaminateTurnsUptoSaid : Prop := laminateTurnsUptoRow.holds Tryz.pinned (OpenSpec.upto laminateTurnsSpec)

/-- 'wingworkslaw04.LaminateHolds', WHERE WHAT IT READS IS OF BULK AT MOST 1048576: true; the input reads as it did. -/
def laminateHoldsUptoRow : OpenClaim := { program := "ytkcceahelokheaagreat", sum := "a614f73b1f993222e52f9438bebe10150d452d773e63861d0dc75cbb37a613e0", func := "wingworks/wingworkslaw04.LaminateHolds", spec := "laminateHolds", inPlace := ["math/bits.Add64", "math/bits.Sub64", "internal/abi.NoEscape", "internal/bytealg.MakeNoZero"], unfollowed := true, recurses := true, named := ["math/bits.divideError", "math/bits.overflowError"], apart := false, narrowed := true }
def LaminateHoldsUptoSaid : Prop := laminateHoldsUptoRow.holds Tryz.pinned (OpenSpec.upto laminateHoldsSpec)

/-- 'wingworkslaw04.LaminateSymmetric', WHERE WHAT IT READS IS OF BULK AT MOST 1048576: true; the input reads as it did. -/
def laminateSymmetricUptoRow : OpenClaim := { program := "ytkcceahelokheaagreat", sum := "a614f73b1f993222e52f9438bebe10150d452d773e63861d0dc75cbb37a613e0", func := "wingworks/wingworkslaw04.LaminateSymmetric", spec := "laminateSymmetric", inPlace := ["math/bits.Add64", "math/bits.Sub64", "internal/abi.NoEscape", "internal/bytealg.MakeNoZero"], unfollowed := true, recurses := true, named := ["math/bits.divideError", "math/bits.overflowError"], apart := false, narrowed := true }
def LaminateSymmetricUptoSaid : Prop := laminateSymmetricUptoRow.holds Tryz.pinned (OpenSpec.upto laminateSymmetricSpec)

/-- 'wingworkslaw04.LaminateScattered', WHERE WHAT IT READS IS OF BULK AT MOST 1048576: true; the input reads as it did. -/
def laminateScatteredUptoRow : OpenClaim := { program := "ytkcceahelokheaagreat", sum := "a614f73b1f993222e52f9438bebe10150d452d773e63861d0dc75cbb37a613e0", func := "wingworks/wingworkslaw04.LaminateScattered", spec := "laminateScattered", inPlace := ["math/bits.Add64", "math/bits.Sub64", "internal/abi.NoEscape", "internal/bytealg.MakeNoZero"], unfollowed := true, recurses := true, named := ["math/bits.divideError", "math/bits.overflowError"], apart := false, narrowed := true }
def LaminateScatteredUptoSaid : Prop := laminateScatteredUptoRow.holds Tryz.pinned (OpenSpec.upto laminateScatteredSpec)

end Rows
end Go.Proofs.YtkcceahelokheaaGreat
