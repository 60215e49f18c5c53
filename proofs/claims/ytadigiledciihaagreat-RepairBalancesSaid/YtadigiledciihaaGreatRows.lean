/-
  No cell of these rows narrows 'for every input' (looked for: loops, veiled, ifaces, maps, wideKeys, modest, calm, conditions, laid).
  DERIVED. THE GIVEN ROWS OF THIS SEAT. 6 by the template 'for every input the law returns true; each argument reads behind the call as it read before'; 0 by the template 'total and deterministic' (their statements: YtadigiledciihaaGreatTotals.lean).
  GIVEN WITH THE SEED: the statements are not yours to turn. If you find one false, say at which input.
  Laid BY PROGRAM, IN A SANDBOX (cutbox-rows.mjs): the forced cells as the released guide's own fill.sh prints them over the translation 7c4da9f004a86d3f… (all of the seat's roots in one cut). By AI agents, Wed Nov 11 2026. No macro, syntax, notation, axiom, sorry.
-/
import Derived.Test.YtadigiledciihaaGreatChecked
import GoSem.Claim
import GoSem.ClaimJoined
import GoSem.ClaimMapViews
import Derived.JoinedTies
import Derived.KernelRfl
namespace Go.Proofs.YtadigiledciihaaGreat
/- THE CELL 'sum', in the pinned program and in every row, IS THE sha256 OF THE DUMP (.gsa) THAT YtadigiledciihaaGreatProg.lean LOADS. Nothing in Lean hashes anything: it is a label: what it is worth is what the hold of that sum in a sandbox is worth. -/
noncomputable def Tryz.pinned : Pinned := { name := "ytadigiledciihaagreat", sum := "7c4da9f004a86d3fb4f9d5731358a5192e3770e5d07de2644936ebf3e17f4d98", checked := Tryz.checked }
namespace Rows
def none {H : Type} : Left H := { results := [], args := [] }

/-- 'wingworkslaw09.RepairDamages': WHATEVER THE INPUT: true; the input reads as it did. -/
def repairDamagesSpec : ChangeSpec := { name := "repairDamages", fn := fun _ => fun
  | [d1, d2] => { results := [.lit (.bool true)], args := [d1, d2] }
  | _ => none }
def repairDamagesRow : OpenClaim := { program := "ytadigiledciihaagreat", sum := "7c4da9f004a86d3fb4f9d5731358a5192e3770e5d07de2644936ebf3e17f4d98", func := "wingworks/wingworkslaw09.RepairDamages", spec := "repairDamages", inPlace := ["math/bits.Add64", "math/bits.Sub64", "internal/abi.NoEscape", "internal/bytealg.MakeNoZero"], unfollowed := true, recurses := true, named := ["math/bits.divideError", "math/bits.overflowError"], apart := false }
def RepairDamagesSaid : Prop := repairDamagesRow.holds Tryz.pinned (OpenSpec.ofChange repairDamagesSpec)

/-- ITS FALSE NEIGHBOUR: 'it returns false'. Refute it at one input. -/
def repairDamagesWrong : ChangeSpec := { name := "repairDamages", fn := fun _ => fun
  | [d1, d2] => { results := [.lit (.bool false)], args := [d1, d2] }
  | _ => none }
def RepairDamagesWrongFalsely : Prop := repairDamagesRow.holds Tryz.pinned (OpenSpec.ofChange repairDamagesWrong)

/-- 'wingworkslaw09.RepairMerges': WHATEVER THE INPUT: true; the input reads as it did. -/
def repairMergesSpec : ChangeSpec := { name := "repairMerges", fn := fun _ => fun
  | [d1, d2] => { results := [.lit (.bool true)], args := [d1, d2] }
  | _ => none }
def repairMergesRow : OpenClaim := { program := "ytadigiledciihaagreat", sum := "7c4da9f004a86d3fb4f9d5731358a5192e3770e5d07de2644936ebf3e17f4d98", func := "wingworks/wingworkslaw09.RepairMerges", spec := "repairMerges", inPlace := ["math/bits.Add64", "math/bits.Sub64", "internal/abi.NoEscape", "internal/bytealg.MakeNoZero"], unfollowed := true, recurses := true, named := ["math/bits.divideError", "math/bits.overflowError"], apart := false }
def RepairMergesSaid : Prop := repairMergesRow.holds Tryz.pinned (OpenSpec.ofChange repairMergesSpec)

/-- ITS FALSE NEIGHBOUR: 'it returns false'. Refute it at one input. -/
def repairMergesWrong : ChangeSpec := { name := "repairMerges", fn := fun _ => fun
  | [d1, d2] => { results := [.lit (.bool false)], args := [d1, d2] }
  | _ => none }
def RepairMergesWrongFalsely : Prop := repairMergesRow.holds Tryz.pinned (OpenSpec.ofChange repairMergesWrong)

/-- 'wingworkslaw09.RepairAparts': WHATEVER THE INPUT: true; the input reads as it did. -/
def repairApartsSpec : ChangeSpec := { name := "repairAparts", fn := fun _ => fun
  | [d1, d2, d3] => { results := [.lit (.bool true)], args := [d1, d2, d3] }
  | _ => none }
def repairApartsRow : OpenClaim := { program := "ytadigiledciihaagreat", sum := "7c4da9f004a86d3fb4f9d5731358a5192e3770e5d07de2644936ebf3e17f4d98", func := "wingworks/wingworkslaw09.RepairAparts", spec := "repairAparts", inPlace := ["math/bits.Add64", "math/bits.Sub64", "internal/abi.NoEscape", "internal/bytealg.MakeNoZero"], unfollowed := true, recurses := true, named := ["math/bits.divideError", "math/bits.overflowError"], apart := false }
def RepairApartsSaid : Prop := repairApartsRow.holds Tryz.pinned (OpenSpec.ofChange repairApartsSpec)

/-- ITS FALSE NEIGHBOUR: 'it returns false'. Refute it at one input. -/
def repairApartsWrong : ChangeSpec := { name := "repairAparts", fn := fun _ => fun
  | [d1, d2, d3] => { results := [.lit (.bool false)], args := [d1, d2, d3] }
  | _ => none }
def RepairApartsWrongFalsely : Prop := repairApartsRow.holds Tryz.pinned (OpenSpec.ofChange repairApartsWrong)

/-- 'wingworkslaw09.RepairBalances': WHATEVER THE INPUT: true; the input reads as it did. -/
def repairBalancesSpec : ChangeSpec := { name := "repairBalances", fn := fun _ => fun
  | [d1, d2] => { results := [.lit (.bool true)], args := [d1, d2] }
  | _ => none }
def repairBalancesRow : OpenClaim := { program := "ytadigiledciihaagreat", sum := "7c4da9f004a86d3fb4f9d5731358a5192e3770e5d07de2644936ebf3e17f4d98", func := "wingworks/wingworkslaw09.RepairBalances", spec := "repairBalances", inPlace := ["math/bits.Add64", "math/bits.Sub64", "internal/abi.NoEscape", "internal/bytealg.MakeNoZero"], unfollowed := true, recurses := true, named := ["math/bits.divideError", "math/bits.overflowError"], apart := false }
def RepairBalancesSaid : Prop := repairBalancesRow.holds Tryz.pinned (OpenSpec.ofChange repairBalancesSpec)

/-- ITS FALSE NEIGHBOUR: 'it returns false'. Refute it at one input. -/
def repairBalancesWrong : ChangeSpec := { name := "repairBalances", fn := fun _ => fun
  | [d1, d2] => { results := [.lit (.bool false)], args := [d1, d2] }
  | _ => none }
def RepairBalancesWrongFalsely : Prop := repairBalancesRow.holds Tryz.pinned (OpenSpec.ofChange repairBalancesWrong)

/-- 'wingworkslaw09.RepairRooms': WHATEVER THE INPUT: true; the input reads as it did. -/
def repairRoomsSpec : ChangeSpec := { name := "repairRooms", fn := fun _ => fun
  | [d1, d2, d3] => { results := [.lit (.bool true)], args := [d1, d2, d3] }
  | _ => none }
def repairRoomsRow : OpenClaim := { program := "ytadigiledciihaagreat", sum := "7c4da9f004a86d3fb4f9d5731358a5192e3770e5d07de2644936ebf3e17f4d98", func := "wingworks/wingworkslaw09.RepairRooms", spec := "repairRooms", inPlace := ["math/bits.Add64", "math/bits.Sub64", "internal/abi.NoEscape", "internal/bytealg.MakeNoZero"], unfollowed := true, recurses := true, named := ["math/bits.divideError", "math/bits.overflowError"], apart := false }
def RepairRoomsSaid : Prop := repairRoomsRow.holds Tryz.pinned (OpenSpec.ofChange repairRoomsSpec)

/-- ITS FALSE NEIGHBOUR: 'it returns false'. Refute it at one input. -/
def repairRoomsWrong : ChangeSpec := { name := "repairRooms", fn := fun _ => fun
  | [d1, d2, d3] => { results := [.lit (.bool false)], args := [d1, d2, d3] }
  | _ => none }
def RepairRoomsWrongFalsely : Prop := repairRoomsRow.holds Tryz.pinned (OpenSpec.ofChange repairRoomsWrong)

/-- 'wingworkslaw09.RepairMerged': WHATEVER THE INPUT: true; the input reads as it did. -/
def repairMergedSpec : ChangeSpec := { name := "repairMerged", fn := fun _ => fun
  | [d1, d2, d3, d4, d5, d6] => { results := [.lit (.bool true)], args := [d1, d2, d3, d4, d5, d6] }
  | _ => none }
def repairMergedRow : OpenClaim := { program := "ytadigiledciihaagreat", sum := "7c4da9f004a86d3fb4f9d5731358a5192e3770e5d07de2644936ebf3e17f4d98", func := "wingworks/wingworkslaw09.RepairMerged", spec := "repairMerged", inPlace := ["math/bits.Add64", "math/bits.Sub64", "internal/abi.NoEscape", "internal/bytealg.MakeNoZero"], unfollowed := true, recurses := true, named := ["math/bits.divideError", "math/bits.overflowError"], apart := false }
def RepairMergedSaid : Prop := repairMergedRow.holds Tryz.pinned (OpenSpec.ofChange repairMergedSpec)

/-- ITS FALSE NEIGHBOUR: 'it returns false'. Refute it at one input. -/
def repairMergedWrong : ChangeSpec := { name := "repairMerged", fn := fun _ => fun
  | [d1, d2, d3, d4, d5, d6] => { results := [.lit (.bool false)], args := [d1, d2, d3, d4, d5, d6] }
  | _ => none }
def RepairMergedWrongFalsely : Prop := repairMergedRow.holds Tryz.pinned (OpenSpec.ofChange repairMergedWrong)

/- THE SECOND FORM. 'bulk': how many values and letters a reading holds, each counted each time it is reached (what is shared counts as often as it is met; a slice's spare places count too). A statement '..UptoSaid' is the law's where the arguments, and the package variables that the reading takes, are together of bulk at most 1048576: NARROWER than '..Said'. Prove '..Said' where nothing that the law and all that it calls make is longer than what came in: it says more and counts as full. Else prove '..UptoSaid'. A law counts once. -/
mutual
def uptoBulk {H : Type} : DataW H → Nat
  | .lit (.string bytes) => bytes.length + 1
  | .lit _ => 1
  | .nil => 1
  | .ptr d => uptoBulk d + 1
  | .slice elems spare => uptoBulkAll elems + uptoBulkAll spare + 1
  | .agg parts => uptoBulkAll parts + 1
  | .iface _ d => uptoBulk d + 1
  | .map entries => uptoBulkEntries entries + 1
  | .held _ => 1
def uptoBulkAll {H : Type} : List (DataW H) → Nat
  | [] => 0
  | d :: r => uptoBulk d + uptoBulkAll r
def uptoBulkEntries {H : Type} : List (Lit × DataW H) → Nat
  | [] => 0
  | x :: r => uptoBulkEntry x + uptoBulkEntries r
def uptoBulkEntry {H : Type} : Lit × DataW H → Nat
  | (.string bytes, d) => bytes.length + uptoBulk d + 1
  | (_, d) => uptoBulk d + 1
 end
def uptoSmall : (H : Type) → List (DataW H) → Bool := fun _ ds => decide (uptoBulkAll ds ≤ 1048576)
def OpenSpec.upto (s : _root_.Go.ChangeSpec) : _root_.Go.OpenSpec := { _root_.Go.OpenSpec.ofChange s with cond := some uptoSmall }

/-- 'wingworkslaw09.RepairDamages', WHERE WHAT IT READS IS OF BULK AT MOST 1048576: true; the input reads as it did. -/
def repairDamagesUptoRow : OpenClaim := { program := "ytadigiledciihaagreat", sum := "7c4da9f004a86d3fb4f9d5731358a5192e3770e5d07de2644936ebf3e17f4d98", func := "wingworks/wingworkslaw09.RepairDamages", spec := "repairDamages", inPlace := ["math/bits.Add64", "math/bits.Sub64", "internal/abi.NoEscape", "internal/bytealg.MakeNoZero"], unfollowed := true, recurses := true, named := ["math/bits.divideError", "math/bits.overflowError"], apart := false, narrowed := true }
def RepairDamagesUptoSaid : Prop := repairDamagesUptoRow.holds Tryz.pinned (OpenSpec.upto repairDamagesSpec)

/-- 'wingworkslaw09.RepairMerges', WHERE WHAT IT READS IS OF BULK AT MOST 1048576: true; the input reads as it did. -/
def repairMergesUptoRow : OpenClaim := { program := "ytadigiledciihaagreat", sum := "7c4da9f004a86d3fb4f9d5731358a5192e3770e5d07de2644936ebf3e17f4d98", func := "wingworks/wingworkslaw09.RepairMerges", spec := "repairMerges", inPlace := ["math/bits.Add64", "math/bits.Sub64", "internal/abi.NoEscape", "internal/bytealg.MakeNoZero"], unfollowed := true, recurses := true, named := ["math/bits.divideError", "math/bits.overflowError"], apart := false, narrowed := true }
def RepairMergesUptoSaid : Prop := repairMergesUptoRow.holds Tryz.pinned (OpenSpec.upto repairMergesSpec)

/-- 'wingworkslaw09.RepairAparts', WHERE WHAT IT READS IS OF BULK AT MOST 1048576: true; the input reads as it did. -/
def repairApartsUptoRow : OpenClaim := { program := "ytadigiledciihaagreat", sum := "7c4da9f004a86d3fb4f9d5731358a5192e3770e5d07de2644936ebf3e17f4d98", func := "wingworks/wingworkslaw09.RepairAparts", spec := "repairAparts", inPlace := ["math/bits.Add64", "math/bits.Sub64", "internal/abi.NoEscape", "internal/bytealg.MakeNoZero"], unfollowed := true, recurses := true, named := ["math/bits.divideError", "math/bits.overflowError"], apart := false, narrowed := true }
def RepairApartsUptoSaid : Prop := repairApartsUptoRow.holds Tryz.pinned (OpenSpec.upto repairApartsSpec)

/-- 'wingworkslaw09.RepairBalances', WHERE WHAT IT READS IS OF BULK AT MOST 1048576: true; the input reads as it did. -/
def repairBalancesUptoRow : OpenClaim := { program := "ytadigiledciihaagreat", sum := "7c4da9f004a86d3fb4f9d5731358a5192e3770e5d07de2644936ebf3e17f4d98", func := "wingworks/wingworkslaw09.RepairBalances", spec := "repairBalances", inPlace := ["math/bits.Add64", "math/bits.Sub64", "internal/abi.NoEscape", "internal/bytealg.MakeNoZero"], unfollowed := true, recurses := true, named := ["math/bits.divideError", "math/bits.overflowError"], apart := false, narrowed := true }
def RepairBalancesUptoSaid : Prop := repairBalancesUptoRow.holds Tryz.pinned (OpenSpec.upto repairBalancesSpec)

/-- 'wingworkslaw09.RepairRooms', WHERE WHAT IT READS IS OF BULK AT MOST 1048576: true; the input reads as it did. -/
def repairRoomsUptoRow : OpenClaim := { program := "ytadigiledciihaagreat", sum := "7c4da9f004a86d3fb4f9d5731358a5192e3770e5d07de2644936ebf3e17f4d98", func := "wingworks/wingworkslaw09.RepairRooms", spec := "repairRooms", inPlace := ["math/bits.Add64", "math/bits.Sub64", "internal/abi.NoEscape", "internal/bytealg.MakeNoZero"], unfollowed := true, recurses := true, named := ["math/bits.divideError", "math/bits.overflowError"], apart := false, narrowed := true }
def RepairRoomsUptoSaid : Prop := repairRoomsUptoRow.holds Tryz.pinned (OpenSpec.upto repairRoomsSpec)

/-- 'wingworkslaw09.RepairMerged', WHERE WHAT IT READS IS OF BULK AT MOST 1048576: true; the input reads as it did. -/
def repairMergedUptoRow : OpenClaim := { program := "ytadigiledciihaagreat", sum := "7c4da9f004a86d3fb4f9d5731358a5192e3770e5d07de2644936ebf3e17f4d98", func := "wingworks/wingworkslaw09.RepairMerged", spec := "repairMerged", inPlace := ["math/bits.Add64", "math/bits.Sub64", "internal/abi.NoEscape", "internal/bytealg.MakeNoZero"], unfollowed := true, recurses := true, named := ["math/bits.divideError", "math/bits.overflowError"], apart := false, narrowed := true }
def RepairMergedUptoSaid : Prop := repairMergedUptoRow.holds Tryz.pinned (OpenSpec.upto repairMergedSpec)

end Rows
end Go.Proofs.YtadigiledciihaaGreat
