/-
  No cell of these rows narrows 'for every input' (looked for: loops, veiled, ifaces, maps, wideKeys, modest, calm, conditions, laid).
  DERIVED. THE GIVEN ROWS OF THIS SEAT. 3 by the template 'for every input the law returns true; each argument reads behind the call as it read before'; 0 by the template 'total and deterministic' (their statements: YtioicklnneebnaaTotals.lean).
  GIVEN WITH THE SEED: the statements are not yours to turn. If you find one false, say at which input.
  Laid BY PROGRAM, IN A SANDBOX (cutbox-rows.mjs): the forced cells as the released guide's own fill.sh prints them over the translation c1d3434a033c141e… (all of the seat's roots in one cut). By AI agents, Wed Nov 11 2026. No macro, syntax, notation, axiom, sorry.
-/
import Derived.Test.YtioicklnneebnaaChecked
import GoSem.Claim
import GoSem.ClaimJoined
import GoSem.ClaimMapViews
import Derived.JoinedTies
import Derived.KernelRfl
namespace Go.Proofs.Ytioicklnneebnaa
/- THE CELL 'sum', in the pinned program and in every row, IS THE sha256 OF THE DUMP (.gsa) THAT YtioicklnneebnaaProg.lean LOADS. Nothing in Lean hashes anything: it is a label: what it is worth is what the hold of that sum in a sandbox is worth. -/
noncomputable def Try.pinned : Pinned := { name := "ytioicklnneebnaa", sum := "c1d3434a033c141e166fbb5d75d549fb380d35ddd3fd4c88340d3bcb4c3763ad", checked := Try.checked }
namespace Rows
def none {H : Type} : Left H := { results := [], args := [] }

/-- 'wingworkslaw01.RatioParses': WHATEVER THE INPUT: true; the input reads as it did. -/
def ratioParsesSpec : ChangeSpec := { name := "ratioParses", fn := fun _ => fun
  | [d] => { results := [.lit (.bool true)], args := [d] }
  | _ => none }
def ratioParsesRow : OpenClaim := { program := "ytioicklnneebnaa", sum := "c1d3434a033c141e166fbb5d75d549fb380d35ddd3fd4c88340d3bcb4c3763ad", func := "wingworks/wingworkslaw01.RatioParses", spec := "ratioParses", inPlace := ["math/bits.Add64", "math/bits.Sub64", "internal/bytealg.IndexByteString", "internal/bytealg.IndexString", "internal/abi.NoEscape", "internal/bytealg.MakeNoZero"], unfollowed := true, recurses := true, named := ["math/bits.divideError", "math/bits.overflowError", "internal/bytealg.MaxLen"], apart := false }
def RatioParsesSaid : Prop := ratioParsesRow.holds Try.pinned (OpenSpec.ofChange ratioParsesSpec)

/-- ITS FALSE NEIGHBOUR: 'it returns false'. Refute it at one input. -/
def ratioParsesWrong : ChangeSpec := { name := "ratioParses", fn := fun _ => fun
  | [d] => { results := [.lit (.bool false)], args := [d] }
  | _ => none }
def RatioParsesWrongFalsely : Prop := ratioParsesRow.holds Try.pinned (OpenSpec.ofChange ratioParsesWrong)

/-- 'wingworkslaw01.RatioDivs': WHATEVER THE INPUT: true; the input reads as it did. -/
def ratioDivsSpec : ChangeSpec := { name := "ratioDivs", fn := fun _ => fun
  | [d1, d2, d3] => { results := [.lit (.bool true)], args := [d1, d2, d3] }
  | _ => none }
def ratioDivsRow : OpenClaim := { program := "ytioicklnneebnaa", sum := "c1d3434a033c141e166fbb5d75d549fb380d35ddd3fd4c88340d3bcb4c3763ad", func := "wingworks/wingworkslaw01.RatioDivs", spec := "ratioDivs", inPlace := ["math/bits.Add64", "math/bits.Sub64", "internal/abi.NoEscape", "internal/bytealg.MakeNoZero", "internal/bytealg.IndexByteString", "internal/bytealg.IndexString"], unfollowed := true, recurses := true, named := ["math/bits.divideError", "math/bits.overflowError", "internal/bytealg.MaxLen"], apart := false }
def RatioDivsSaid : Prop := ratioDivsRow.holds Try.pinned (OpenSpec.ofChange ratioDivsSpec)

/-- ITS FALSE NEIGHBOUR: 'it returns false'. Refute it at one input. -/
def ratioDivsWrong : ChangeSpec := { name := "ratioDivs", fn := fun _ => fun
  | [d1, d2, d3] => { results := [.lit (.bool false)], args := [d1, d2, d3] }
  | _ => none }
def RatioDivsWrongFalsely : Prop := ratioDivsRow.holds Try.pinned (OpenSpec.ofChange ratioDivsWrong)

/-- 'wingworkslaw01.RatioNews': WHATEVER THE INPUT: true; the input reads as it did. -/
def ratioNewsSpec : ChangeSpec := { name := "ratioNews", fn := fun _ => fun
  | [d1, d2] => { results := [.lit (.bool true)], args := [d1, d2] }
  | _ => none }
def ratioNewsRow : OpenClaim := { program := "ytioicklnneebnaa", sum := "c1d3434a033c141e166fbb5d75d549fb380d35ddd3fd4c88340d3bcb4c3763ad", func := "wingworks/wingworkslaw01.RatioNews", spec := "ratioNews", inPlace := ["math/bits.Add64", "math/bits.Sub64", "internal/abi.NoEscape", "internal/bytealg.MakeNoZero", "internal/bytealg.IndexByteString", "internal/bytealg.IndexString"], unfollowed := true, recurses := true, named := ["math/bits.divideError", "math/bits.overflowError", "internal/bytealg.MaxLen"], apart := false }
def RatioNewsSaid : Prop := ratioNewsRow.holds Try.pinned (OpenSpec.ofChange ratioNewsSpec)

/-- ITS FALSE NEIGHBOUR: 'it returns false'. Refute it at one input. -/
def ratioNewsWrong : ChangeSpec := { name := "ratioNews", fn := fun _ => fun
  | [d1, d2] => { results := [.lit (.bool false)], args := [d1, d2] }
  | _ => none }
def RatioNewsWrongFalsely : Prop := ratioNewsRow.holds Try.pinned (OpenSpec.ofChange ratioNewsWrong)

/- THE SECOND FORM. 'bulk': how many values and letters a reading holds, each counted each time it is reached (what is shared counts as often as it is met; a slice's spare places count too). A statement '..UptoSaid' is the law's where the arguments, and the package variables that the reading takes, are together of bulk at most 1048576: NARROWER than '..Said'. Prove '..Said' where nothing that the law and all that it calls make is longer than what came in: it says more and counts as full. Else prove '..UptoSaid'. A law counts once. -/
mutual
def uptoBulk {H : Type} : DataW H → Nat
  | .lit (.string bytes) => bytes.length + 1
  | .lit _ => 1
  | .nil => 1
  | .ptr d => uptoBulk d + 1
  | .slice elems spare => uptoBulkAll elems + uptoBulkAll spare + 1
  | .agg parts => uptoBulkAll parts + 1
  | .iface _ d => uptoBulk d + 1
  | .map entries => uptoBulkEntries entries + 1
  | .held _ => 1
def uptoBulkAll {H : Type} : List (DataW H) → Nat
  | [] => 0
  | d :: r => uptoBulk d + uptoBulkAll r
def uptoBulkEntries {H : Type} : List (Lit × DataW H) → Nat
  | [] => 0
  | x :: r => uptoBulkEntry x + uptoBulkEntries r
def uptoBulkEntry {H : Type} : Lit × DataW H → Nat
  | (.string bytes, d) => bytes.length + uptoBulk d + 1
  | (_, d) => uptoBulk d + 1
 end
def uptoSmall : (H : Type) → List (DataW H) → Bool := fun _ ds => decide (uptoBulkAll ds ≤ 1048576)
def OpenSpec.upto (s : _root_.Go.ChangeSpec) : _root_.Go.OpenSpec := { _root_.Go.OpenSpec.ofChange s with cond := some uptoSmall }

/-- 'wingworkslaw01.RatioParses', WHERE WHAT IT READS IS OF BULK AT MOST 1048576: true; the input reads as it did. -/
def ratioParsesUptoRow : OpenClaim := { program := "ytioicklnneebnaa", sum := "c1d3434a033c141e166fbb5d75d549fb380d35ddd3fd4c88340d3bcb4c3763ad", func := "wingworks/wingworkslaw01.RatioParses", spec := "ratioParses", inPlace := ["math/bits.Add64", "math/bits.Sub64", "internal/bytealg.IndexByteString", "internal/bytealg.IndexString", "internal/abi.NoEscape", "internal/bytealg.MakeNoZero"], unfollowed := true, recurses := true, named := ["math/bits.divideError", "math/bits.overflowError", "internal/bytealg.MaxLen"], apart := false, narrowed := true }
def RatioParsesUptoSaid : Prop := ratioParsesUptoRow.holds Try.pinned (OpenSpec.upto ratioParsesSpec)

/-- 'wingworkslaw01.RatioDivs', WHERE WHAT IT READS IS OF BULK AT MOST 1048576: true; the input reads as it did. -/
def ratioDivsUptoRow : OpenClaim := { program := "ytioicklnneebnaa", sum := "c1d3434a033c141e166fbb5d75d549fb380d35ddd3fd4c88340d3bcb4c3763ad", func := "wingworks/wingworkslaw01.RatioDivs", spec := "ratioDivs", inPlace := ["math/bits.Add64", "math/bits.Sub64", "internal/abi.NoEscape", "internal/bytealg.MakeNoZero", "internal/bytealg.IndexByteString", "internal/bytealg.IndexString"], unfollowed := true, recurses := true, named := ["math/bits.divideError", "math/bits.overflowError", "internal/bytealg.MaxLen"], apart := false, narrowed := true }
def RatioDivsUptoSaid : Prop := ratioDivsUptoRow.holds Try.pinned (OpenSpec.upto ratioDivsSpec)

/-- 'wingworkslaw01.RatioNews', WHERE WHAT IT READS IS OF BULK AT MOST 1048576: true; the input reads as it did. -/
def ratioNewsUptoRow : OpenClaim := { program := "ytioicklnneebnaa", sum := "c1d3434a033c141e166fbb5d75d549fb380d35ddd3fd4c88340d3bcb4c3763ad", func := "wingworks/wingworkslaw01.RatioNews", spec := "ratioNews", inPlace := ["math/bits.Add64", "math/bits.Sub64", "internal/abi.NoEscape", "internal/bytealg.MakeNoZero", "internal/bytealg.IndexByteString", "internal/bytealg.IndexString"], unfollowed := true, recurses := true, named := ["math/bits.divideError", "math/bits.overflowError", "internal/bytealg.MaxLen"], apart := false, narrowed := true }
def RatioNewsUptoSaid : Prop := ratioNewsUptoRow.holds Try.pinned (OpenSpec.upto ratioNewsSpec)

end Rows
end Go.Proofs.Ytioicklnneebnaa
