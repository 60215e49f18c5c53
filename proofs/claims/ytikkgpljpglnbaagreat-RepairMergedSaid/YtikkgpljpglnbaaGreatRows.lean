/-
  No cell of these rows narrows 'for every input' (looked for: loops, veiled, ifaces, maps, wideKeys, modest, calm, conditions, laid).
  DERIVED. THE GIVEN ROWS OF THIS SEAT. 2 by the template 'for every input the law returns true; each argument reads behind the call as it read before'; 0 by the template 'total and deterministic' (their statements: YtikkgpljpglnbaaGreatTotals.lean).
  GIVEN WITH THE SEED: the statements are not yours to turn. If you find one false, say at which input.
  Laid BY PROGRAM, IN A SANDBOX (cutbox-rows.mjs): the forced cells as the released guide's own fill.sh prints them over the translation f1b9c8c8c89920e4… (all of the seat's roots in one cut). By AI agents, Wed Nov 11 2026. No macro, syntax, notation, axiom, sorry.
-/
import Derived.Test.YtikkgpljpglnbaaGreatChecked
import GoSem.Claim
import GoSem.ClaimJoined
import GoSem.ClaimMapViews
import Derived.JoinedTies
import Derived.KernelRfl
namespace Go.Proofs.YtikkgpljpglnbaaGreat
/- THE CELL 'sum', in the pinned program and in every row, IS THE sha256 OF THE DUMP (.gsa) THAT YtikkgpljpglnbaaGreatProg.lean LOADS. Nothing in Lean hashes anything: it is a label: what it is worth is what the hold of that sum in a sandbox is worth. -/
noncomputable def Tryz.pinned : Pinned := { name := "ytikkgpljpglnbaagreat", sum := "f1b9c8c8c89920e47708e571bf5b8bab195cb62b460056b5a0e1cdfee9406478", checked := Tryz.checked }
namespace Rows
def none {H : Type} : Left H := { results := [], args := [] }

/-- 'wingworkslaw09.RepairMerges': WHATEVER THE INPUT: true; the input reads as it did. -/
def repairMergesSpec : ChangeSpec := { name := "repairMerges", fn := fun _ => fun
  | [d1, d2] => { results := [.lit (.bool true)], args := [d1, d2] }
  | _ => none }
def repairMergesRow : OpenClaim := { program := "ytikkgpljpglnbaagreat", sum := "f1b9c8c8c89920e47708e571bf5b8bab195cb62b460056b5a0e1cdfee9406478", func := "wingworks/wingworkslaw09.RepairMerges", spec := "repairMerges", inPlace := ["math/bits.Add64", "math/bits.Sub64", "internal/abi.NoEscape", "internal/bytealg.MakeNoZero"], unfollowed := true, recurses := true, named := ["math/bits.divideError", "math/bits.overflowError"], apart := false }
def RepairMergesSaid : Prop := repairMergesRow.holds Tryz.pinned (OpenSpec.ofChange repairMergesSpec)

/-- ITS FALSE NEIGHBOUR: 'it returns false'. Refute it at one input. -/
def repairMergesWrong : ChangeSpec := { name := "repairMerges", fn := fun _ => fun
  | [d1, d2] => { results := [.lit (.bool false)], args := [d1, d2] }
  | _ => none }
def RepairMergesWrongFalsely : Prop := repairMergesRow.holds Tryz.pinned (OpenSpec.ofChange repairMergesWrong)

/-- 'wingworkslaw09.RepairMerged': WHATEVER THE INPUT: true; the input reads as it did. -/
def repairMergedSpec : ChangeSpec := { name := "repairMerged", fn := fun _ => fun
  | [d1, d2, d3, d4, d5, d6] => { results := [.lit (.bool true)], args := [d1, d2, d3, d4, d5, d6] }
  | _ => none }
def repairMergedRow : OpenClaim := { program := "ytikkgpljpglnbaagreat", sum := "f1b9c8c8c89920e47708e571bf5b8bab195cb62b460056b5a0e1cdfee9406478", func := "wingworks/wingworkslaw09.RepairMerged", spec := "repairMerged", inPlace := ["math/bits.Add64", "math/bits.Sub64", "internal/abi.NoEscape", "internal/bytealg.MakeNoZero"], unfollowed := true, recurses := true, named := ["math/bits.divideError", "math/bits.overflowError"], apart := false }
def RepairMergedSaid : Prop := repairMergedRow.holds Tryz.pinned (OpenSpec.ofChange repairMergedSpec)

/-- ITS FALSE NEIGHBOUR: 'it returns false'. Refute it at one input. -/
def repairMergedWrong : ChangeSpec := { name := "repairMerged", fn := fun _ => fun
  | [d1, d2, d3, d4, d5, d6] => { results := [.lit (.bool false)], args := [d1, d2, d3, d4, d5, d6] }
  | _ => none }
def RepairMergedWrongFalsely : Prop := repairMergedRow.holds Tryz.pinned (OpenSpec.ofChange repairMergedWrong)

/- THE SECOND FORM. 'bulk': how many values and letters a reading holds, each counted each time it is reached (what is shared counts as often as it is met; a slice's spare places count too). A statement '..UptoSaid' is the law's where the arguments, and the package variables that the reading takes, are together of bulk at most 1048576: NARROWER than '..Said'. Prove '..Said' where nothing that the law and all that it calls make is longer than what came in: it says more and counts as full. Else prove '..UptoSaid'. A law counts once. -/
mutual
def uptoBulk {H : Type} : DataW H → Nat
  | .lit (.string bytes) => bytes.length + 1
  | .lit _ => 1
  | .nil => 1
  | .ptr d => uptoBulk d + 1
  | .slice elems spare => uptoBulkAll elems + uptoBulkAll spare + 1
  | .agg parts => uptoBulkAll parts + 1
  | .iface _ d => uptoBulk d + 1
  | .map entries => uptoBulkEntries entries + 1
  | .held _ => 1
def uptoBulkAll {H : Type} : List (DataW H) → Nat
  | [] => 0
  | d :: r => uptoBulk d + uptoBulkAll r
def uptoBulkEntries {H : Type} : List (Lit × DataW H) → Nat
  | [] => 0
  | x :: r => uptoBulkEntry x + uptoBulkEntries r
def uptoBulkEntry {H : Type} : Lit × DataW H → Nat
  | (.string bytes, d) => bytes.length + uptoBulk d + 1
  | (_, d) => uptoBulk d + 1
 end
def uptoSmall : (H : Type) → List (DataW H) → Bool := fun _ ds => decide (uptoBulkAll ds ≤ 1048576)
def OpenSpec.upto (s : _root_.Go.ChangeSpec) : _root_.Go.OpenSpec := { _root_.Go.OpenSpec.ofChange s with cond := some uptoSmall }

/-- 'wingworkslaw09.RepairMerges', WHERE WHAT IT READS IS OF BULK AT MOST 1048576: true; the input reads as it did. -/
def repairMergesUptoRow : OpenClaim := { program := "ytikkgpljpglnbaagreat", sum := "f1b9c8c8c89920e47708e571bf5b8bab195cb62b460056b5a0e1cdfee9406478", func := "wingworks/wingworkslaw09.RepairMerges", spec := "repairMerges", inPlace := ["math/bits.Add64", "math/bits.Sub64", "internal/abi.NoEscape", "internal/bytealg.MakeNoZero"], unfollowed := true, recurses := true, named := ["math/bits.divideError", "math/bits.overflowError"], apart := false, narrowed := true }
def RepairMergesUptoSaid : Prop := repairMergesUptoRow.holds Tryz.pinned (OpenSpec.upto repairMergesSpec)

/-- 'wingworkslaw09.RepairMerged', WHERE WHAT IT READS IS OF BULK AT MOST 1048576: true; the input reads as it did. -/
def repairMergedUptoRow : OpenClaim := { program := "ytikkgpljpglnbaagreat", sum := "f1b9c8c8c89920e47708e571bf5b8bab195cb62b460056b5a0e1cdfee9406478", func := "wingworks/wingworkslaw09.RepairMerged", spec := "repairMerged", inPlace := ["math/bits.Add64", "math/bits.Sub64", "internal/abi.NoEscape", "internal/bytealg.MakeNoZero"], unfollowed := true, recurses := true, named := ["math/bits.divideError", "math/bits.overflowError"], apart := false, narrowed := true }
def RepairMergedUptoSaid : Prop := repairMergedUptoRow.holds Tryz.pinned (OpenSpec.upto repairMergedSpec)

end Rows
end Go.Proofs.YtikkgpljpglnbaaGreat
