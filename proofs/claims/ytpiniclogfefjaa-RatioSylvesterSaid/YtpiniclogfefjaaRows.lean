/-
  No cell of these rows narrows 'for every input' (looked for: loops, veiled, ifaces, maps, wideKeys, modest, calm, conditions, laid).
  DERIVED. THE GIVEN ROWS OF THIS SEAT. 3 by the template 'for every input the law returns true; each argument reads behind the call as it read before'; 0 by the template 'total and deterministic' (their statements: YtpiniclogfefjaaTotals.lean).
  GIVEN WITH THE SEED: the statements are not yours to turn. If you find one false, say at which input.
  Laid BY PROGRAM, IN A SANDBOX (cutbox-rows.mjs): the forced cells as the released guide's own fill.sh prints them over the translation 38ef5ed68a8dbbe1… (all of the seat's roots in one cut). By AI agents, Wed Nov 11 2026. No macro, syntax, notation, axiom, sorry.
-/
import Derived.Test.YtpiniclogfefjaaChecked
import GoSem.Claim
import GoSem.ClaimJoined
import GoSem.ClaimMapViews
import Derived.JoinedTies
import Derived.KernelRfl
namespace Go.Proofs.Ytpiniclogfefjaa
/- THE CELL 'sum', in the pinned program and in every row, IS THE sha256 OF THE DUMP (.gsa) THAT YtpiniclogfefjaaProg.lean LOADS. Nothing in Lean hashes anything: it is a label: what it is worth is what the hold of that sum in a sandbox is worth. -/
noncomputable def Try.pinned : Pinned := { name := "ytpiniclogfefjaa", sum := "38ef5ed68a8dbbe162a4a2c9f563792c0a23e8401d45a6e0390f4f44ca30bbf6", checked := Try.checked }
namespace Rows
def none {H : Type} : Left H := { results := [], args := [] }

/-- 'wingworkslaw01.RatioResidual': WHATEVER THE INPUT: true; the input reads as it did. -/
def ratioResidualSpec : ChangeSpec := { name := "ratioResidual", fn := fun _ => fun
  | [d1, d2, d3, d4] => { results := [.lit (.bool true)], args := [d1, d2, d3, d4] }
  | _ => none }
def ratioResidualRow : OpenClaim := { program := "ytpiniclogfefjaa", sum := "38ef5ed68a8dbbe162a4a2c9f563792c0a23e8401d45a6e0390f4f44ca30bbf6", func := "wingworks/wingworkslaw01.RatioResidual", spec := "ratioResidual", inPlace := ["math/bits.Add64", "math/bits.Sub64", "internal/bytealg.IndexByteString", "internal/bytealg.IndexString", "internal/abi.NoEscape", "internal/bytealg.MakeNoZero"], unfollowed := true, recurses := true, named := ["math/bits.divideError", "math/bits.overflowError", "internal/bytealg.MaxLen"], apart := false }
def RatioResidualSaid : Prop := ratioResidualRow.holds Try.pinned (OpenSpec.ofChange ratioResidualSpec)

/-- ITS FALSE NEIGHBOUR: 'it returns false'. Refute it at one input. -/
def ratioResidualWrong : ChangeSpec := { name := "ratioResidual", fn := fun _ => fun
  | [d1, d2, d3, d4] => { results := [.lit (.bool false)], args := [d1, d2, d3, d4] }
  | _ => none }
def RatioResidualWrongFalsely : Prop := ratioResidualRow.holds Try.pinned (OpenSpec.ofChange ratioResidualWrong)

/-- 'wingworkslaw01.RatioCramer': WHATEVER THE INPUT: true; the input reads as it did. -/
def ratioCramerSpec : ChangeSpec := { name := "ratioCramer", fn := fun _ => fun
  | [d1, d2, d3] => { results := [.lit (.bool true)], args := [d1, d2, d3] }
  | _ => none }
def ratioCramerRow : OpenClaim := { program := "ytpiniclogfefjaa", sum := "38ef5ed68a8dbbe162a4a2c9f563792c0a23e8401d45a6e0390f4f44ca30bbf6", func := "wingworks/wingworkslaw01.RatioCramer", spec := "ratioCramer", inPlace := ["math/bits.Add64", "math/bits.Sub64", "internal/bytealg.IndexByteString", "internal/bytealg.IndexString", "internal/abi.NoEscape", "internal/bytealg.MakeNoZero"], unfollowed := true, recurses := true, named := ["math/bits.divideError", "math/bits.overflowError", "internal/bytealg.MaxLen"], apart := false }
def RatioCramerSaid : Prop := ratioCramerRow.holds Try.pinned (OpenSpec.ofChange ratioCramerSpec)

/-- ITS FALSE NEIGHBOUR: 'it returns false'. Refute it at one input. -/
def ratioCramerWrong : ChangeSpec := { name := "ratioCramer", fn := fun _ => fun
  | [d1, d2, d3] => { results := [.lit (.bool false)], args := [d1, d2, d3] }
  | _ => none }
def RatioCramerWrongFalsely : Prop := ratioCramerRow.holds Try.pinned (OpenSpec.ofChange ratioCramerWrong)

/-- 'wingworkslaw01.RatioSylvester': WHATEVER THE INPUT: true; the input reads as it did. -/
def ratioSylvesterSpec : ChangeSpec := { name := "ratioSylvester", fn := fun _ => fun
  | [d1, d2, d3, d4] => { results := [.lit (.bool true)], args := [d1, d2, d3, d4] }
  | _ => none }
def ratioSylvesterRow : OpenClaim := { program := "ytpiniclogfefjaa", sum := "38ef5ed68a8dbbe162a4a2c9f563792c0a23e8401d45a6e0390f4f44ca30bbf6", func := "wingworks/wingworkslaw01.RatioSylvester", spec := "ratioSylvester", inPlace := ["math/bits.Add64", "math/bits.Sub64", "internal/bytealg.IndexByteString", "internal/bytealg.IndexString", "internal/abi.NoEscape", "internal/bytealg.MakeNoZero"], unfollowed := true, recurses := true, named := ["math/bits.divideError", "math/bits.overflowError", "internal/bytealg.MaxLen"], apart := false }
def RatioSylvesterSaid : Prop := ratioSylvesterRow.holds Try.pinned (OpenSpec.ofChange ratioSylvesterSpec)

/-- ITS FALSE NEIGHBOUR: 'it returns false'. Refute it at one input. -/
def ratioSylvesterWrong : ChangeSpec := { name := "ratioSylvester", fn := fun _ => fun
  | [d1, d2, d3, d4] => { results := [.lit (.bool false)], args := [d1, d2, d3, d4] }
  | _ => none }
def RatioSylvesterWrongFalsely : Prop := ratioSylvesterRow.holds Try.pinned (OpenSpec.ofChange ratioSylvesterWrong)

/- THE SECOND FORM. 'bulk': how many values and letters a reading holds, each counted each time it is reached (what is shared counts as often as it is met; a slice's spare places count too). A statement '..UptoSaid' is the law's where the arguments, and the package variables that the reading takes, are together of bulk at most 1048576: NARROWER than '..Said'. Prove '..Said' where nothing that the law and all that it calls make is longer than what came in: it says more and counts as full. Else prove '..UptoSaid'. A law counts once. -/
mutual
def uptoBulk {H : Type} : DataW H → Nat
  | .lit (.string bytes) => bytes.length + 1
  | .lit _ => 1
  | .nil => 1
  | .ptr d => uptoBulk d + 1
  | .slice elems spare => uptoBulkAll elems + uptoBulkAll spare + 1
  | .agg parts => uptoBulkAll parts + 1
  | .iface _ d => uptoBulk d + 1
  | .map entries => uptoBulkEntries entries + 1
  | .held _ => 1
def uptoBulkAll {H : Type} : List (DataW H) → Nat
  | [] => 0
  | d :: r => uptoBulk d + uptoBulkAll r
def uptoBulkEntries {H : Type} : List (Lit × DataW H) → Nat
  | [] => 0
  | x :: r => uptoBulkEntry x + uptoBulkEntries r
def uptoBulkEntry {H : Type} : Lit × DataW H → Nat
  | (.string bytes, d) => bytes.length + uptoBulk d + 1
  | (_, d) => uptoBulk d + 1
 end
def uptoSmall : (H : Type) → List (DataW H) → Bool := fun _ ds => decide (uptoBulkAll ds ≤ 1048576)
def OpenSpec.upto (s : _root_.Go.ChangeSpec) : _root_.Go.OpenSpec := { _root_.Go.OpenSpec.ofChange s with cond := some uptoSmall }

/-- 'wingworkslaw01.RatioResidual', WHERE WHAT IT READS IS OF BULK AT MOST 1048576: true; the input reads as it did. -/
def ratioResidualUptoRow : OpenClaim := { program := "ytpiniclogfefjaa", sum := "38ef5ed68a8dbbe162a4a2c9f563792c0a23e8401d45a6e0390f4f44ca30bbf6", func := "wingworks/wingworkslaw01.RatioResidual", spec := "ratioResidual", inPlace := ["math/bits.Add64", "math/bits.Sub64", "internal/bytealg.IndexByteString", "internal/bytealg.IndexString", "internal/abi.NoEscape", "internal/bytealg.MakeNoZero"], unfollowed := true, recurses := true, named := ["math/bits.divideError", "math/bits.overflowError", "internal/bytealg.MaxLen"], apart := false, narrowed := true }
def RatioResidualUptoSaid : Prop := ratioResidualUptoRow.holds Try.pinned (OpenSpec.upto ratioResidualSpec)

/-- 'wingworkslaw01.RatioCramer', WHERE WHAT IT READS IS OF BULK AT MOST 1048576: true; the input reads as it did. -/
def ratioCramerUptoRow : OpenClaim := { program := "ytpiniclogfefjaa", sum := "38ef5ed68a8dbbe162a4a2c9f563792c0a23e8401d45a6e0390f4f44ca30bbf6", func := "wingworks/wingworkslaw01.RatioCramer", spec := "ratioCramer", inPlace := ["math/bits.Add64", "math/bits.Sub64", "internal/bytealg.IndexByteString", "internal/bytealg.IndexString", "internal/abi.NoEscape", "internal/bytealg.MakeNoZero"], unfollowed := true, recurses := true, named := ["math/bits.divideError", "math/bits.overflowError", "internal/bytealg.MaxLen"], apart := false, narrowed := true }
def RatioCramerUptoSaid : Prop := ratioCramerUptoRow.holds Try.pinned (OpenSpec.upto ratioCramerSpec)

/-- 'wingworkslaw01.RatioSylvester', WHERE WHAT IT READS IS OF BULK AT MOST 1048576: true; the input reads as it did. -/
def ratioSylvesterUptoRow : OpenClaim := { program := "ytpiniclogfefjaa", sum := "38ef5ed68a8dbbe162a4a2c9f563792c0a23e8401d45a6e0390f4f44ca30bbf6", func := "wingworks/wingworkslaw01.RatioSylvester", spec := "ratioSylvester", inPlace := ["math/bits.Add64", "math/bits.Sub64", "internal/bytealg.IndexByteString", "internal/bytealg.IndexString", "internal/abi.NoEscape", "internal/bytealg.MakeNoZero"], unfollowed := true, recurses := true, named := ["math/bits.divideError", "math/bits.overflowError", "internal/bytealg.MaxLen"], apart := false, narrowed := true }
def RatioSylvesterUptoSaid : Prop := ratioSylvesterUptoRow.holds Try.pinned (OpenSpec.upto ratioSylvesterSpec)

end Rows
end Go.Proofs.Ytpiniclogfefjaa
