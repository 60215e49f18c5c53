import Derived.Shelf.Strings.Builder1
import Derived.Shelf.Strings.Builder2
import Derived.Shelf.Small.Bits
import Derived.Shelf.Small.Wraps
import Derived.Shelf.Strings.BuilderF
import Derived.Shelf.Strings.BuilderK
import Derived.Shelf.Strings.Builder2Cap
import Derived.Shelf.Strconv.Itoa0
import Derived.Shelf.Strings.Search1
import Derived.Shelf.Strings.Search2
import Derived.Shelf.Strings.Cut
import Derived.Shelf.LaysM
import Derived.Shelf.Strings.Shaped
import Derived.Shelf.Strings.Prefix
import Derived.Shelf.Bits.Mul64
import Derived.Shelf.Strings.Repeat
import Derived.Shelf.Strings.BuilderCap
import Derived.Test.YtpiniclogfefjaaProg
namespace Go.Proofs
open Go.Shelf
open Go.RowKit in
def Try.lays169_ren:Go.Shelf.Ren:=⟨fun|169=>78|n=>n,fun|70=>98|9=>9|0=>0|72=>100|37=>92|127=>115|3=>3|5=>5|n=>n,fun|n=>n⟩
theorem Try.lays169:Go.Proofs.Lays.n169 Try.prog Try.lays169_ren:={
 mixed:=by kernel_rfl
 f169:=Try.func78.trans (congrArg some (by kernel_rfl))
 t0:=Try.underlying0
 a0:=Try.isAgg0
 z0:=Try.sizeOf0
 v0:=Try.zeroValue0
 t3:=Try.underlying3
 a3:=Try.isAgg3
 z3:=Try.sizeOf3
 v3:=Try.zeroValue3
 t9:=Try.underlying9
 a9:=Try.isAgg9
 z9:=Try.sizeOf9
 v9:=Try.zeroValue9
 t37:=Try.underlying92
 a37:=Try.isAgg92
 z37:=Try.sizeOf92
 v37:=Try.zeroValue92
 t70:=Try.underlying98
 a70:=Try.isAgg98
 z70:=Try.sizeOf98
 v70:=Try.zeroValue98
 t72:=Try.underlying100
 a72:=Try.isAgg100
 z72:=Try.sizeOf100
 v72:=Try.zeroValue100
 t127:=Try.underlying115
 a127:=Try.isAgg115
 z127:=Try.sizeOf115
 v127:=Try.zeroValue115 }
theorem Try.Builder_Extra_169:Builder.Extra Try.prog Try.lays169_ren:={
 sizeBuilder:=by kernel_rfl
 liesBuilder:=by kernel_rfl
 t5:=Try.underlying5
 a5:=Try.isAgg5
 z5:=Try.sizeOf5
 v5:=Try.zeroValue5
 infoByte:=by kernel_rfl
 cellsByte:=by kernel_rfl
 sizeByte:=by kernel_rfl
 neB5:=by decide }
open Go.RowKit in
open Go.RowKit in
open Go.RowKit in
theorem Try.Builder_String_any (B b:Nat) (l:List UInt8) (w:World) (h:Lib.IsBuilder 100 5 B b (Lib.byteCells l) w) (hBw:B≤w.heap.size):
  Calls Try.prog 78 #[.pointer (some ⟨b,0,none⟩)] w fun e w'=>e=.returned (.string ⟨l.toArray⟩)∧Below B w w':=Any.Builder_String_any Try.lays169 Try.Builder_Extra_169 B b l w h hBw
open Go.RowKit in
open Go.RowKit in
def Try.lays134_ren:Go.Shelf.Ren:=⟨fun|134=>81|129=>92|n=>n,fun|53=>81|3=>3|4=>4|46=>108|5=>5|9=>9|n=>n,fun|n=>n⟩
theorem Try.lays134:Go.Proofs.Lays.n134 Try.prog Try.lays134_ren:={
 mixed:=by kernel_rfl
 f129:=Try.func92.trans (congrArg some (by kernel_rfl))
 f134:=Try.func81.trans (congrArg some (by kernel_rfl))
 t3:=Try.underlying3
 a3:=Try.isAgg3
 z3:=Try.sizeOf3
 v3:=Try.zeroValue3
 t4:=Try.underlying4
 a4:=Try.isAgg4
 z4:=Try.sizeOf4
 v4:=Try.zeroValue4
 t5:=Try.underlying5
 a5:=Try.isAgg5
 z5:=Try.sizeOf5
 v5:=Try.zeroValue5
 t9:=Try.underlying9
 a9:=Try.isAgg9
 z9:=Try.sizeOf9
 v9:=Try.zeroValue9
 t46:=Try.underlying108
 a46:=Try.isAgg108
 z46:=Try.sizeOf108
 v46:=Try.zeroValue108
 t53:=Try.underlying81
 a53:=Try.isAgg81
 z53:=Try.sizeOf81
 v53:=Try.zeroValue81 }
theorem Try.bits_LeadingZeros64 (x:Int) (w:World) (h0:0≤x) (h1:x≤18446744073709551615):
  Calls Try.prog 81 #[.int .u64 x] w fun e w'=>e=.returned (.int .i64 (64-(Lib.bitLen x.toNat:Int)))∧w'=w:=Any.bits_LeadingZeros64 Try.lays134 x w h0 h1
open Go.RowKit in
def Try.lays103_ren:Go.Shelf.Ren:=⟨fun|103=>53|210=>72|206=>84|n=>n,fun|9=>9|4=>4|24=>73|3=>3|n=>n,fun|n=>n⟩
theorem Try.lays103:Go.Proofs.Lays.n103 Try.prog Try.lays103_ren:={
 mixed:=by kernel_rfl
 f103:=Try.func53.trans (congrArg some (by kernel_rfl))
 f206:=Try.func84.trans (congrArg some (by kernel_rfl))
 f210:=Try.func72.trans (congrArg some (by kernel_rfl))
 t3:=Try.underlying3
 a3:=Try.isAgg3
 z3:=Try.sizeOf3
 v3:=Try.zeroValue3
 t4:=Try.underlying4
 a4:=Try.isAgg4
 z4:=Try.sizeOf4
 v4:=Try.zeroValue4
 t9:=Try.underlying9
 a9:=Try.isAgg9
 z9:=Try.sizeOf9
 v9:=Try.zeroValue9
 t24:=Try.underlying73
 a24:=Try.isAgg73
 z24:=Try.sizeOf73
 v24:=Try.zeroValue73 }
open Go.RowKit in
theorem Try.strings_CutPrefix (s p:ByteArray) (w:World):
  Calls Try.prog 53 #[.string s,.string p] w fun e w'=>e=.returned (.tuple #[.string ⟨(Lib.trimPrefix s.data.toList p.data.toList).toArray⟩,.bool (Lib.hasPrefix s.data.toList p.data.toList)])∧w'=w:=Any.strings_CutPrefix Try.lays103 s p w
open Go.RowKit in
open Go.RowKit in
open Go.RowKit in
open Go.RowKit in
open Go.RowKit in
open Go.RowKit in
open Go.RowKit in
open Go.RowKit in
open Go.RowKit in
def Try.lays217_ren:Go.Shelf.Ren:=⟨fun|217=>94|266=>101|n=>n,fun|9=>9|5=>5|3=>3|n=>n,fun|n=>n⟩
theorem Try.lays217:Go.Proofs.Lays.n217 Try.prog Try.lays217_ren:={
 mixed:=by kernel_rfl
 f217:=Try.func94.trans (congrArg some (by kernel_rfl))
 f266:=Try.func101.trans (congrArg some (by kernel_rfl))
 t3:=Try.underlying3
 a3:=Try.isAgg3
 z3:=Try.sizeOf3
 v3:=Try.zeroValue3
 t5:=Try.underlying5
 a5:=Try.isAgg5
 z5:=Try.sizeOf5
 v5:=Try.zeroValue5
 t9:=Try.underlying9
 a9:=Try.isAgg9
 z9:=Try.sizeOf9
 v9:=Try.zeroValue9 }
open Go.RowKit Go.Lib in
theorem Try.stringslite_IndexByte (s:ByteArray) (c:Int) (w:World):
  Calls Try.prog 94 #[.string s,.int .u8 c] w fun e w'=>e=.returned (.int .i64 (Lib.indexByte s.data.toList c.toNat.toUInt8))∧w'=w:=Any.stringslite_IndexByte Try.lays217 s c w
open Go.RowKit Go.Lib in
open Go.RowKit Go.Lib in
open Go.RowKit Go.Lib in
open Go.RowKit Go.Lib in
open Go.RowKit Go.Lib in
open Go.RowKit Go.Lib in
open Go.RowKit Go.Lib in
open Go.RowKit Go.Lib in
open Go.RowKit Go.Lib in
open Go.RowKit Go.Lib in
open Go.RowKit Go.Lib in
open Go.RowKit Go.Lib in
def Try.lays264_ren:Go.Shelf.Ren:=⟨fun|264=>65|n=>n,fun|53=>81|46=>108|n=>n,fun|n=>n⟩
theorem Try.lays264:Go.Proofs.Lays.n264 Try.prog Try.lays264_ren:={
 mixed:=by kernel_rfl
 f264:=Try.func65.trans (congrArg some (by kernel_rfl))
 t46:=Try.underlying108
 a46:=Try.isAgg108
 z46:=Try.sizeOf108
 v46:=Try.zeroValue108
 t53:=Try.underlying81
 a53:=Try.isAgg81
 z53:=Try.sizeOf81
 v53:=Try.zeroValue81 }
open Go.RowKit Go.Lib in
theorem Try.bits_Mul64 (x y:Nat) (hx:x<18446744073709551616) (hy:y<18446744073709551616) (w:World):
  Calls Try.prog 65 #[.int .u64 x,.int .u64 y] w fun e w'=>e=.returned (.tuple #[.int .u64 ((x*y/18446744073709551616:Nat):Int),.int .u64 ((x*y%18446744073709551616:Nat):Int)])∧w'=w:=Any.bits_Mul64 Try.lays264 x y hx hy w
open Go.RowKit Go.Lib in
def Try.lays105_ren:Go.Shelf.Ren:=⟨fun|105=>76|212=>87|99=>88|165=>89|166=>77|170=>90|169=>78|263=>98|264=>65|206=>84|240=>91|241=>99|276=>100|277=>103|n=>n,fun|9=>9|3=>3|4=>4|20=>20|0=>0|46=>108|109=>112|5=>5|72=>100|76=>103|51=>119|146=>120|53=>81|148=>86|70=>98|37=>92|75=>102|127=>115|164=>122|80=>57|n=>n,fun|n=>n⟩
theorem Try.lays105:Go.Proofs.Lays.n105 Try.prog Try.lays105_ren:={
 mixed:=by kernel_rfl
 f99:=Try.func88.trans (congrArg some (by kernel_rfl))
 f105:=Try.func76.trans (congrArg some (by kernel_rfl))
 f165:=Try.func89.trans (congrArg some (by kernel_rfl))
 f166:=Try.func77.trans (congrArg some (by kernel_rfl))
 f169:=Try.func78.trans (congrArg some (by kernel_rfl))
 f170:=Try.func90.trans (congrArg some (by kernel_rfl))
 f206:=Try.func84.trans (congrArg some (by kernel_rfl))
 f212:=Try.func87.trans (congrArg some (by kernel_rfl))
 f240:=Try.func91.trans (congrArg some (by kernel_rfl))
 f241:=Try.func99.trans (congrArg some (by kernel_rfl))
 f263:=Try.func98.trans (congrArg some (by kernel_rfl))
 f264:=Try.func65.trans (congrArg some (by kernel_rfl))
 f276:=Try.func100.trans (congrArg some (by kernel_rfl))
 f277:=Try.func103.trans (congrArg some (by kernel_rfl))
 t0:=Try.underlying0
 a0:=Try.isAgg0
 z0:=Try.sizeOf0
 v0:=Try.zeroValue0
 t3:=Try.underlying3
 a3:=Try.isAgg3
 z3:=Try.sizeOf3
 v3:=Try.zeroValue3
 t4:=Try.underlying4
 a4:=Try.isAgg4
 z4:=Try.sizeOf4
 v4:=Try.zeroValue4
 t5:=Try.underlying5
 a5:=Try.isAgg5
 z5:=Try.sizeOf5
 v5:=Try.zeroValue5
 t9:=Try.underlying9
 a9:=Try.isAgg9
 z9:=Try.sizeOf9
 v9:=Try.zeroValue9
 t20:=Try.underlying20
 a20:=Try.isAgg20
 z20:=Try.sizeOf20
 v20:=Try.zeroValue20
 t37:=Try.underlying92
 a37:=Try.isAgg92
 z37:=Try.sizeOf92
 v37:=Try.zeroValue92
 t46:=Try.underlying108
 a46:=Try.isAgg108
 z46:=Try.sizeOf108
 v46:=Try.zeroValue108
 t51:=Try.underlying119
 a51:=Try.isAgg119
 z51:=Try.sizeOf119
 v51:=Try.zeroValue119
 t53:=Try.underlying81
 a53:=Try.isAgg81
 z53:=Try.sizeOf81
 v53:=Try.zeroValue81
 t70:=Try.underlying98
 a70:=Try.isAgg98
 z70:=Try.sizeOf98
 v70:=Try.zeroValue98
 t72:=Try.underlying100
 a72:=Try.isAgg100
 z72:=Try.sizeOf100
 v72:=Try.zeroValue100
 t75:=Try.underlying102
 a75:=Try.isAgg102
 z75:=Try.sizeOf102
 v75:=Try.zeroValue102
 t76:=Try.underlying103
 a76:=Try.isAgg103
 z76:=Try.sizeOf103
 v76:=Try.zeroValue103
 t109:=Try.underlying112
 a109:=Try.isAgg112
 z109:=Try.sizeOf112
 v109:=Try.zeroValue112
 t127:=Try.underlying115
 a127:=Try.isAgg115
 z127:=Try.sizeOf115
 v127:=Try.zeroValue115
 t146:=Try.underlying120
 a146:=Try.isAgg120
 z146:=Try.sizeOf120
 v146:=Try.zeroValue120
 t148:=Try.underlying86
 a148:=Try.isAgg86
 z148:=Try.sizeOf86
 v148:=Try.zeroValue86
 t164:=Try.underlying122
 a164:=Try.isAgg122
 z164:=Try.sizeOf122
 v164:=Try.zeroValue122 }
theorem Try.Builder_Extra_105:Builder.Extra Try.prog Try.lays105_ren:={
 sizeBuilder:=by kernel_rfl
 liesBuilder:=by kernel_rfl
 t5:=Try.underlying5
 a5:=Try.isAgg5
 z5:=Try.sizeOf5
 v5:=Try.zeroValue5
 infoByte:=by kernel_rfl
 cellsByte:=by kernel_rfl
 sizeByte:=by kernel_rfl
 neB5:=by decide }
open Go.RowKit Go.Lib in
open Go.RowKit Go.Lib in
open Go.RowKit Go.Lib in
open Go.RowKit Go.Lib in
open Go.RowKit Go.Lib in
open Go.RowKit Go.Lib in
open Go.RowKit Go.Lib in
theorem Try.strings_Repeat (s:ByteArray) (c:Nat) (w:World) (hc:c≤9223372036854775807) (hlen:s.size*c≤140737488355328):
  Calls Try.prog 76 #[.string s,.int .i64 c] w fun e w'=>e=.returned (.string ⟨(Lib.repeatL s.data.toList c).toArray⟩)∧Below w.heap.size w w':=Any.strings_Repeat Try.lays105 Try.Builder_Extra_105 s c w hc hlen
end Go.Proofs
