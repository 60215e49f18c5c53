/-
  No cell of these rows narrows 'for every input' (looked for: loops, veiled, ifaces, maps, wideKeys, modest, calm, conditions, laid).
  DERIVED. THE GIVEN ROWS OF THIS SEAT. 3 by the template 'for every input the law returns true; each argument reads behind the call as it read before'; 0 by the template 'total and deterministic' (their statements: YtlomlheajdgdoaaGreatTotals.lean).
  GIVEN WITH THE SEED: the statements are not yours to turn. If you find one false, say at which input.
  Laid BY PROGRAM, IN A SANDBOX (cutbox-rows.mjs): the forced cells as the released guide's own fill.sh prints them over the translation 142f7bc3fe3e454d… (all of the seat's roots in one cut). By AI agents, Wed Nov 11 2026. No macro, syntax, notation, axiom, sorry.
-/
import Derived.Test.YtlomlheajdgdoaaGreatChecked
import GoSem.Claim
import GoSem.ClaimJoined
import GoSem.ClaimMapViews
import Derived.JoinedTies
import Derived.KernelRfl
namespace Go.Proofs.YtlomlheajdgdoaaGreat
/- THE CELL 'sum', in the pinned program and in every row, IS THE sha256 OF THE DUMP (.gsa) THAT YtlomlheajdgdoaaGreatProg.lean LOADS. Nothing in Lean hashes anything: it is a label: what it is worth is what the hold of that sum in a sandbox is worth. -/
noncomputable def Tryz.pinned : Pinned := { name := "ytlomlheajdgdoaagreat", sum := "142f7bc3fe3e454d35379498bdb19646a3815648c6174c6004a46288cc52fd89", checked := Tryz.checked }
namespace Rows
def none {H : Type} : Left H := { results := [], args := [] }

/-- 'wingworkslaw01.RatioNears': WHATEVER THE INPUT: true; the input reads as it did. -/
def ratioNearsSpec : ChangeSpec := { name := "ratioNears", fn := fun _ => fun
  | [d1, d2] => { results := [.lit (.bool true)], args := [d1, d2] }
  | _ => none }
def ratioNearsRow : OpenClaim := { program := "ytlomlheajdgdoaagreat", sum := "142f7bc3fe3e454d35379498bdb19646a3815648c6174c6004a46288cc52fd89", func := "wingworks/wingworkslaw01.RatioNears", spec := "ratioNears", inPlace := ["math/bits.Add64", "math/bits.Sub64", "internal/bytealg.IndexByteString", "internal/bytealg.IndexString", "internal/abi.NoEscape", "internal/bytealg.MakeNoZero", "math.Float64frombits", "math.Float64bits", "math.Float32bits"], unfollowed := true, recurses := true, named := ["math/bits.divideError", "math/bits.overflowError", "internal/bytealg.MaxLen"], apart := false }
def RatioNearsSaid : Prop := ratioNearsRow.holds Tryz.pinned (OpenSpec.ofChange ratioNearsSpec)

/-- ITS FALSE NEIGHBOUR: 'it returns false'. Refute it at one input. -/
def ratioNearsWrong : ChangeSpec := { name := "ratioNears", fn := fun _ => fun
  | [d1, d2] => { results := [.lit (.bool false)], args := [d1, d2] }
  | _ => none }
def RatioNearsWrongFalsely : Prop := ratioNearsRow.holds Tryz.pinned (OpenSpec.ofChange ratioNearsWrong)

/-- 'wingworkslaw01.RatioFloats': WHATEVER THE INPUT: true; the input reads as it did. -/
def ratioFloatsSpec : ChangeSpec := { name := "ratioFloats", fn := fun _ => fun
  | [d1, d2] => { results := [.lit (.bool true)], args := [d1, d2] }
  | _ => none }
def ratioFloatsRow : OpenClaim := { program := "ytlomlheajdgdoaagreat", sum := "142f7bc3fe3e454d35379498bdb19646a3815648c6174c6004a46288cc52fd89", func := "wingworks/wingworkslaw01.RatioFloats", spec := "ratioFloats", inPlace := ["math.Float64frombits", "math.Float32frombits", "math.Float64bits", "math/bits.Add64", "math/bits.Sub64", "internal/abi.NoEscape", "internal/bytealg.MakeNoZero", "internal/bytealg.IndexByteString", "internal/bytealg.IndexString"], unfollowed := true, recurses := true, named := ["math/bits.divideError", "math/bits.overflowError", "internal/bytealg.MaxLen"], apart := false }
def RatioFloatsSaid : Prop := ratioFloatsRow.holds Tryz.pinned (OpenSpec.ofChange ratioFloatsSpec)

/-- ITS FALSE NEIGHBOUR: 'it returns false'. Refute it at one input. -/
def ratioFloatsWrong : ChangeSpec := { name := "ratioFloats", fn := fun _ => fun
  | [d1, d2] => { results := [.lit (.bool false)], args := [d1, d2] }
  | _ => none }
def RatioFloatsWrongFalsely : Prop := ratioFloatsRow.holds Tryz.pinned (OpenSpec.ofChange ratioFloatsWrong)

/-- 'wingworkslaw01.RatioPairs': WHATEVER THE INPUT: true; the input reads as it did. -/
def ratioPairsSpec : ChangeSpec := { name := "ratioPairs", fn := fun _ => fun
  | [d1, d2, d3] => { results := [.lit (.bool true)], args := [d1, d2, d3] }
  | _ => none }
def ratioPairsRow : OpenClaim := { program := "ytlomlheajdgdoaagreat", sum := "142f7bc3fe3e454d35379498bdb19646a3815648c6174c6004a46288cc52fd89", func := "wingworks/wingworkslaw01.RatioPairs", spec := "ratioPairs", inPlace := ["math/bits.Add64", "math/bits.Sub64", "internal/abi.NoEscape", "internal/bytealg.MakeNoZero", "math.Float64frombits", "math.Float64bits", "math.Float32bits", "math.Float32frombits", "internal/bytealg.IndexByteString", "internal/bytealg.IndexString"], unfollowed := true, recurses := true, named := ["math/bits.divideError", "math/bits.overflowError", "internal/bytealg.MaxLen"], apart := false }
def RatioPairsSaid : Prop := ratioPairsRow.holds Tryz.pinned (OpenSpec.ofChange ratioPairsSpec)

/-- ITS FALSE NEIGHBOUR: 'it returns false'. Refute it at one input. -/
def ratioPairsWrong : ChangeSpec := { name := "ratioPairs", fn := fun _ => fun
  | [d1, d2, d3] => { results := [.lit (.bool false)], args := [d1, d2, d3] }
  | _ => none }
def RatioPairsWrongFalsely : Prop := ratioPairsRow.holds Tryz.pinned (OpenSpec.ofChange ratioPairsWrong)

/- THE SECOND FORM. 'bulk': how many values and letters a reading holds, each counted each time it is reached (what is shared counts as often as it is met; a slice's spare places count too). A statement '..UptoSaid' is the law's where the arguments, and the package variables that the reading takes, are together of bulk at most 1048576: NARROWER than '..Said'. Prove '..Said' where nothing that the law and all that it calls make is longer than what came in: it says more and counts as full. Else prove '..UptoSaid'. A law counts once. -/
mutual
def uptoBulk {H : Type} : DataW H → Nat
  | .lit (.string bytes) => bytes.length + 1
  | .lit _ => 1
  | .nil => 1
  | .ptr d => uptoBulk d + 1
  | .slice elems spare => uptoBulkAll elems + uptoBulkAll spare + 1
  | .agg parts => uptoBulkAll parts + 1
  | .iface _ d => uptoBulk d + 1
  | .map entries => uptoBulkEntries entries + 1
  | .held _ => 1
def uptoBulkAll {H : Type} : List (DataW H) → Nat
  | [] => 0
  | d :: r => uptoBulk d + uptoBulkAll r
def uptoBulkEntries {H : Type} : List (Lit × DataW H) → Nat
  | [] => 0
  | x :: r => uptoBulkEntry x + uptoBulkEntries r
def uptoBulkEntry {H : Type} : Lit × DataW H → Nat
  | (.string bytes, d) => bytes.length + uptoBulk d + 1
  | (_, d) => uptoBulk d + 1
 end
def uptoSmall : (H : Type) → List (DataW H) → Bool := fun _ ds => decide (uptoBulkAll ds ≤ 1048576)
def OpenSpec.upto (s : _root_.Go.ChangeSpec) : _root_.Go.OpenSpec := { _root_.Go.OpenSpec.ofChange s with cond := some uptoSmall }

/-- 'wingworkslaw01.RatioNears', WHERE WHAT IT READS IS OF BULK AT MOST 1048576: true; the input reads as it did. -/
def ratioNearsUptoRow : OpenClaim := { program := "ytlomlheajdgdoaagreat", sum := "142f7bc3fe3e454d35379498bdb19646a3815648c6174c6004a46288cc52fd89", func := "wingworks/wingworkslaw01.RatioNears", spec := "ratioNears", inPlace := ["math/bits.Add64", "math/bits.Sub64", "internal/bytealg.IndexByteString", "internal/bytealg.IndexString", "internal/abi.NoEscape", "internal/bytealg.MakeNoZero", "math.Float64frombits", "math.Float64bits", "math.Float32bits"], unfollowed := true, recurses := true, named := ["math/bits.divideError", "math/bits.overflowError", "internal/bytealg.MaxLen"], apart := false, narrowed := true }
def RatioNearsUptoSaid : Prop := ratioNearsUptoRow.holds Tryz.pinned (OpenSpec.upto ratioNearsSpec)

/-- 'wingworkslaw01.RatioFloats', WHERE WHAT IT READS IS OF BULK AT MOST 1048576: true; the input reads as it did. -/
def ratioFloatsUptoRow : OpenClaim := { program := "ytlomlheajdgdoaagreat", sum := "142f7bc3fe3e454d35379498bdb19646a3815648c6174c6004a46288cc52fd89", func := "wingworks/wingworkslaw01.RatioFloats", spec := "ratioFloats", inPlace := ["math.Float64frombits", "math.Float32frombits", "math.Float64bits", "math/bits.Add64", "math/bits.Sub64", "internal/abi.NoEscape", "internal/bytealg.MakeNoZero", "internal/bytealg.IndexByteString", "internal/bytealg.IndexString"], unfollowed := true, recurses := true, named := ["math/bits.divideError", "math/bits.overflowError", "internal/bytealg.MaxLen"], apart := false, narrowed := true }
def RatioFloatsUptoSaid : Prop := ratioFloatsUptoRow.holds Tryz.pinned (OpenSpec.upto ratioFloatsSpec)

/-- 'wingworkslaw01.RatioPairs', WHERE WHAT IT READS IS OF BULK AT MOST 1048576: true; the input reads as it did. -/
def ratioPairsUptoRow : OpenClaim := { program := "ytlomlheajdgdoaagreat", sum := "142f7bc3fe3e454d35379498bdb19646a3815648c6174c6004a46288cc52fd89", func := "wingworks/wingworkslaw01.RatioPairs", spec := "ratioPairs", inPlace := ["math/bits.Add64", "math/bits.Sub64", "internal/abi.NoEscape", "internal/bytealg.MakeNoZero", "math.Float64frombits", "math.Float64bits", "math.Float32bits", "math.Float32frombits", "internal/bytealg.IndexByteString", "internal/bytealg.IndexString"], unfollowed := true, recurses := true, named := ["math/bits.divideError", "math/bits.overflowError", "internal/bytealg.MaxLen"], apart := false, narrowed := true }
def RatioPairsUptoSaid : Prop := ratioPairsUptoRow.holds Tryz.pinned (OpenSpec.upto ratioPairsSpec)

end Rows
end Go.Proofs.YtlomlheajdgdoaaGreat
