import Derived.Handy
import Derived.KernelRfl
import Derived.Test.YtncpoijmhgihjaaProg
import Derived.Test.YtncpoijmhgihjaaPlain1
import Derived.Test.YtncpoijmhgihjaaMem
import Derived.Test.YtncpoijmhgihjaaJField3
import Derived.Test.YtncpoijmhgihjaaCRat1
import Derived.Test.YtncpoijmhgihjaaCRat2
import Derived.Test.YtncpoijmhgihjaaCPlainRat
import Derived.Test.YtncpoijmhgihjaaJField21
import Derived.Test.YtncpoijmhgihjaaInv
import Derived.Test.YtncpoijmhgihjaaCOf
import Derived.Test.YtncpoijmhgihjaaCAwake
import Derived.Test.YtncpoijmhgihjaaSem
import Derived.Test.YtncpoijmhgihjaaSemOps
import Derived.Test.YtncpoijmhgihjaaSemMem
import Derived.Test.YtncpoijmhgihjaaSemCode
import Derived.Test.YtncpoijmhgihjaaCSemData
import Derived.Test.YtncpoijmhgihjaaCSemBuild
import Derived.Test.YtncpoijmhgihjaaCTys
import Derived.Test.YtncpoijmhgihjaaCKit
import Derived.Test.YtncpoijmhgihjaaCPairs
import Derived.Test.YtncpoijmhgihjaaCLaw1
import Derived.Test.YtncpoijmhgihjaaCFieldPlain
namespace Wx
open Go Go.RowKit Go.Proofs
set_option linter.unusedVariables false

set_option maxRecDepth 100000 in
theorem field_sem {n1 d1 n2 d2 n3 d3 n4 d4 n5 d5 n6 d6 : Int} {a1 a2 b1 b2 c1 c2 : Rat} (e1 : a1 = ofR n1 d1) (f1 : FracOk n1 d1) (e2 : a2 = ofR n2 d2) (f2 : FracOk n2 d2) (e3 : b1 = ofR n3 d3) (f3 : FracOk n3 d3) (e4 : b2 = ofR n4 d4) (f4 : FracOk n4 d4) (e5 : c1 = ofR n5 d5) (f5 : FracOk n5 d5) (e6 : c2 = ofR n6 d6) (f6 : FracOk n6 d6) : ∀ (M : Nat → Prop) (w : World) (v0 v1 v2 : Value), Mid M w → Box M (fun w => (pS [⟨true, 2, pFrac n1 d1⟩, ⟨true, 2, pFrac n2 d2⟩]) w v0) w → Box M (fun w => (pS [⟨true, 2, pFrac n3 d3⟩, ⟨true, 2, pFrac n4 d4⟩]) w v1) w → Box M (fun w => (pS [⟨true, 2, pFrac n5 d5⟩, ⟨true, 2, pFrac n6 d6⟩]) w v2) w → Calls Try.prog 4 #[v0, v1, v2] w (RetB M (pB true) w) := by
  intro M w v0 v1 v2 hM hv0 hv1 hv2
  have B1 : BdR 64 a1 := e1 ▸ bd_ok f1
  have B2 : BdR 64 b1 := e3 ▸ bd_ok f3
  have B3 : BdR 64 c1 := e5 ▸ bd_ok f5
  have B4 : BdR 257 (a1 + b1) := BdR.mono ((B1).add B2) (by omega)
  have B5 : BdR 257 (b1 + a1) := BdR.mono ((B2).add B1) (by omega)
  have B6 : BdR 128 (a1 * b1) := BdR.mono ((B1).mul B2) (by omega)
  have B7 : BdR 128 (b1 * a1) := BdR.mono ((B2).mul B1) (by omega)
  have B8 : BdR 257 (a1 + b1) := BdR.mono ((B1).add B2) (by omega)
  have B9 : BdR 643 ((a1 + b1) + c1) := BdR.mono ((B8).add B3) (by omega)
  have B10 : BdR 257 (b1 + c1) := BdR.mono ((B2).add B3) (by omega)
  have B11 : BdR 643 (a1 + (b1 + c1)) := BdR.mono ((B1).add B10) (by omega)
  have B12 : BdR 128 (a1 * b1) := BdR.mono ((B1).mul B2) (by omega)
  have B13 : BdR 192 ((a1 * b1) * c1) := BdR.mono ((B12).mul B3) (by omega)
  have B14 : BdR 128 (b1 * c1) := BdR.mono ((B2).mul B3) (by omega)
  have B15 : BdR 192 (a1 * (b1 * c1)) := BdR.mono ((B1).mul B14) (by omega)
  have B16 : BdR 257 (a1 + b1) := BdR.mono ((B1).add B2) (by omega)
  have B17 : BdR 321 ((a1 + b1) * c1) := BdR.mono ((B16).mul B3) (by omega)
  have B18 : BdR 128 (a1 * c1) := BdR.mono ((B1).mul B3) (by omega)
  have B19 : BdR 128 (b1 * c1) := BdR.mono ((B2).mul B3) (by omega)
  have B20 : BdR 513 ((a1 * c1) + (b1 * c1)) := BdR.mono ((B18).add B19) (by omega)
  have B21 : BdR 257 (a1 - b1) := BdR.mono ((B1).sub_ B2) (by omega)
  have B22 : BdR 643 ((a1 - b1) + b1) := BdR.mono ((B21).add B2) (by omega)
  have B23 : BdR 64 (-a1) := BdR.mono ((B1).neg) (by omega)
  have B24 : BdR 257 ((-a1) + a1) := BdR.mono ((B23).add B1) (by omega)
  have B25 : BdR 128 (a1 * b1) := BdR.mono ((B1).mul B2) (by omega)
  have B26 : BdR 192 ((a1 * b1) / b1) := BdR.mono ((B25).quo B2) (by omega)
  have B27 : BdR 64 a1 := e1 ▸ bd_ok f1
  have B28 : BdR 64 a2 := e2 ▸ bd_ok f2
  have B29 : BdR 64 b1 := e3 ▸ bd_ok f3
  have B30 : BdR 64 b2 := e4 ▸ bd_ok f4
  have B31 : BdR 64 c1 := e5 ▸ bd_ok f5
  have B32 : BdR 64 c2 := e6 ▸ bd_ok f6
  have B33 : BdR 257 (a1 + b1) := BdR.mono ((B27).add B29) (by omega)
  have B34 : BdR 257 (a2 + b2) := BdR.mono ((B28).add B30) (by omega)
  have B35 : BdR 257 (b1 + a1) := BdR.mono ((B29).add B27) (by omega)
  have B36 : BdR 257 (b2 + a2) := BdR.mono ((B30).add B28) (by omega)
  have B37 : BdR 128 (a1 * b1) := BdR.mono ((B27).mul B29) (by omega)
  have B38 : BdR 128 (a2 * b2) := BdR.mono ((B28).mul B30) (by omega)
  have B39 : BdR 513 ((a1 * b1) - (a2 * b2)) := BdR.mono ((B37).sub_ B38) (by omega)
  have B40 : BdR 128 (a1 * b2) := BdR.mono ((B27).mul B30) (by omega)
  have B41 : BdR 128 (a2 * b1) := BdR.mono ((B28).mul B29) (by omega)
  have B42 : BdR 513 ((a1 * b2) + (a2 * b1)) := BdR.mono ((B40).add B41) (by omega)
  have B43 : BdR 128 (b1 * a1) := BdR.mono ((B29).mul B27) (by omega)
  have B44 : BdR 128 (b2 * a2) := BdR.mono ((B30).mul B28) (by omega)
  have B45 : BdR 513 ((b1 * a1) - (b2 * a2)) := BdR.mono ((B43).sub_ B44) (by omega)
  have B46 : BdR 128 (b1 * a2) := BdR.mono ((B29).mul B28) (by omega)
  have B47 : BdR 128 (b2 * a1) := BdR.mono ((B30).mul B27) (by omega)
  have B48 : BdR 513 ((b1 * a2) + (b2 * a1)) := BdR.mono ((B46).add B47) (by omega)
  have B49 : BdR 128 (a1 * b1) := BdR.mono ((B27).mul B29) (by omega)
  have B50 : BdR 128 (a2 * b2) := BdR.mono ((B28).mul B30) (by omega)
  have B51 : BdR 513 ((a1 * b1) - (a2 * b2)) := BdR.mono ((B49).sub_ B50) (by omega)
  have B52 : BdR 128 (a1 * b2) := BdR.mono ((B27).mul B30) (by omega)
  have B53 : BdR 128 (a2 * b1) := BdR.mono ((B28).mul B29) (by omega)
  have B54 : BdR 513 ((a1 * b2) + (a2 * b1)) := BdR.mono ((B52).add B53) (by omega)
  have B55 : BdR 577 (((a1 * b1) - (a2 * b2)) * c1) := BdR.mono ((B51).mul B31) (by omega)
  have B56 : BdR 577 (((a1 * b2) + (a2 * b1)) * c2) := BdR.mono ((B54).mul B32) (by omega)
  have B57 : BdR 2309 ((((a1 * b1) - (a2 * b2)) * c1) - (((a1 * b2) + (a2 * b1)) * c2)) := BdR.mono ((B55).sub_ B56) (by omega)
  have B58 : BdR 577 (((a1 * b1) - (a2 * b2)) * c2) := BdR.mono ((B51).mul B32) (by omega)
  have B59 : BdR 577 (((a1 * b2) + (a2 * b1)) * c1) := BdR.mono ((B54).mul B31) (by omega)
  have B60 : BdR 2309 ((((a1 * b1) - (a2 * b2)) * c2) + (((a1 * b2) + (a2 * b1)) * c1)) := BdR.mono ((B58).add B59) (by omega)
  have B61 : BdR 128 (b1 * c1) := BdR.mono ((B29).mul B31) (by omega)
  have B62 : BdR 128 (b2 * c2) := BdR.mono ((B30).mul B32) (by omega)
  have B63 : BdR 513 ((b1 * c1) - (b2 * c2)) := BdR.mono ((B61).sub_ B62) (by omega)
  have B64 : BdR 128 (b1 * c2) := BdR.mono ((B29).mul B32) (by omega)
  have B65 : BdR 128 (b2 * c1) := BdR.mono ((B30).mul B31) (by omega)
  have B66 : BdR 513 ((b1 * c2) + (b2 * c1)) := BdR.mono ((B64).add B65) (by omega)
  have B67 : BdR 577 (a1 * ((b1 * c1) - (b2 * c2))) := BdR.mono ((B27).mul B63) (by omega)
  have B68 : BdR 577 (a2 * ((b1 * c2) + (b2 * c1))) := BdR.mono ((B28).mul B66) (by omega)
  have B69 : BdR 2309 ((a1 * ((b1 * c1) - (b2 * c2))) - (a2 * ((b1 * c2) + (b2 * c1)))) := BdR.mono ((B67).sub_ B68) (by omega)
  have B70 : BdR 577 (a1 * ((b1 * c2) + (b2 * c1))) := BdR.mono ((B27).mul B66) (by omega)
  have B71 : BdR 577 (a2 * ((b1 * c1) - (b2 * c2))) := BdR.mono ((B28).mul B63) (by omega)
  have B72 : BdR 2309 ((a1 * ((b1 * c2) + (b2 * c1))) + (a2 * ((b1 * c1) - (b2 * c2)))) := BdR.mono ((B70).add B71) (by omega)
  have B73 : BdR 257 (a1 + b1) := BdR.mono ((B27).add B29) (by omega)
  have B74 : BdR 257 (a2 + b2) := BdR.mono ((B28).add B30) (by omega)
  have B75 : BdR 321 ((a1 + b1) * c1) := BdR.mono ((B73).mul B31) (by omega)
  have B76 : BdR 321 ((a2 + b2) * c2) := BdR.mono ((B74).mul B32) (by omega)
  have B77 : BdR 1285 (((a1 + b1) * c1) - ((a2 + b2) * c2)) := BdR.mono ((B75).sub_ B76) (by omega)
  have B78 : BdR 321 ((a1 + b1) * c2) := BdR.mono ((B73).mul B32) (by omega)
  have B79 : BdR 321 ((a2 + b2) * c1) := BdR.mono ((B74).mul B31) (by omega)
  have B80 : BdR 1285 (((a1 + b1) * c2) + ((a2 + b2) * c1)) := BdR.mono ((B78).add B79) (by omega)
  have B81 : BdR 128 (a1 * c1) := BdR.mono ((B27).mul B31) (by omega)
  have B82 : BdR 128 (a2 * c2) := BdR.mono ((B28).mul B32) (by omega)
  have B83 : BdR 513 ((a1 * c1) - (a2 * c2)) := BdR.mono ((B81).sub_ B82) (by omega)
  have B84 : BdR 128 (a1 * c2) := BdR.mono ((B27).mul B32) (by omega)
  have B85 : BdR 128 (a2 * c1) := BdR.mono ((B28).mul B31) (by omega)
  have B86 : BdR 513 ((a1 * c2) + (a2 * c1)) := BdR.mono ((B84).add B85) (by omega)
  have B87 : BdR 128 (b1 * c1) := BdR.mono ((B29).mul B31) (by omega)
  have B88 : BdR 128 (b2 * c2) := BdR.mono ((B30).mul B32) (by omega)
  have B89 : BdR 513 ((b1 * c1) - (b2 * c2)) := BdR.mono ((B87).sub_ B88) (by omega)
  have B90 : BdR 128 (b1 * c2) := BdR.mono ((B29).mul B32) (by omega)
  have B91 : BdR 128 (b2 * c1) := BdR.mono ((B30).mul B31) (by omega)
  have B92 : BdR 513 ((b1 * c2) + (b2 * c1)) := BdR.mono ((B90).add B91) (by omega)
  have B93 : BdR 2053 (((a1 * c1) - (a2 * c2)) + ((b1 * c1) - (b2 * c2))) := BdR.mono ((B83).add B89) (by omega)
  have B94 : BdR 2053 (((a1 * c2) + (a2 * c1)) + ((b1 * c2) + (b2 * c1))) := BdR.mono ((B86).add B92) (by omega)
  have B95 : BdR 257 (a1 - b1) := BdR.mono ((B27).sub_ B29) (by omega)
  have B96 : BdR 257 (a2 - b2) := BdR.mono ((B28).sub_ B30) (by omega)
  have B97 : BdR 643 ((a1 - b1) + b1) := BdR.mono ((B95).add B29) (by omega)
  have B98 : BdR 643 ((a2 - b2) + b2) := BdR.mono ((B96).add B30) (by omega)
  have B99 : BdR 128 (a1 * b1) := BdR.mono ((B27).mul B29) (by omega)
  have B100 : BdR 128 (a2 * b2) := BdR.mono ((B28).mul B30) (by omega)
  have B101 : BdR 513 ((a1 * b1) - (a2 * b2)) := BdR.mono ((B99).sub_ B100) (by omega)
  have B102 : BdR 128 (a1 * b2) := BdR.mono ((B27).mul B30) (by omega)
  have B103 : BdR 128 (a2 * b1) := BdR.mono ((B28).mul B29) (by omega)
  have B104 : BdR 513 ((a1 * b2) + (a2 * b1)) := BdR.mono ((B102).add B103) (by omega)
  have B105 : BdR 1026 (((a1 * b1) - (a2 * b2)) * ((a1 * b1) - (a2 * b2))) := BdR.mono ((B101).mul B101) (by omega)
  have B106 : BdR 1026 (((a1 * b2) + (a2 * b1)) * ((a1 * b2) + (a2 * b1))) := BdR.mono ((B104).mul B104) (by omega)
  have B107 : BdR 4105 ((((a1 * b1) - (a2 * b2)) * ((a1 * b1) - (a2 * b2))) + (((a1 * b2) + (a2 * b1)) * ((a1 * b2) + (a2 * b1)))) := BdR.mono ((B105).add B106) (by omega)
  have B108 : BdR 128 (a1 * a1) := BdR.mono ((B27).mul B27) (by omega)
  have B109 : BdR 128 (a2 * a2) := BdR.mono ((B28).mul B28) (by omega)
  have B110 : BdR 513 ((a1 * a1) + (a2 * a2)) := BdR.mono ((B108).add B109) (by omega)
  have B111 : BdR 128 (b1 * b1) := BdR.mono ((B29).mul B29) (by omega)
  have B112 : BdR 128 (b2 * b2) := BdR.mono ((B30).mul B30) (by omega)
  have B113 : BdR 513 ((b1 * b1) + (b2 * b2)) := BdR.mono ((B111).add B112) (by omega)
  have B114 : BdR 1026 (((a1 * a1) + (a2 * a2)) * ((b1 * b1) + (b2 * b2))) := BdR.mono ((B110).mul B113) (by omega)
  have B115 : BdR 64 (-a2) := BdR.mono ((B28).neg) (by omega)
  have B116 : BdR 128 (a1 * a1) := BdR.mono ((B27).mul B27) (by omega)
  have B117 : BdR 128 (a2 * (-a2)) := BdR.mono ((B28).mul B115) (by omega)
  have B118 : BdR 513 ((a1 * a1) - (a2 * (-a2))) := BdR.mono ((B116).sub_ B117) (by omega)
  have B119 : BdR 128 (a1 * (-a2)) := BdR.mono ((B27).mul B115) (by omega)
  have B120 : BdR 128 (a2 * a1) := BdR.mono ((B28).mul B27) (by omega)
  have B121 : BdR 513 ((a1 * (-a2)) + (a2 * a1)) := BdR.mono ((B119).add B120) (by omega)
  have B122 : BdR 128 (a1 * a1) := BdR.mono ((B27).mul B27) (by omega)
  have B123 : BdR 128 (a2 * a2) := BdR.mono ((B28).mul B28) (by omega)
  have B124 : BdR 513 ((a1 * a1) + (a2 * a2)) := BdR.mono ((B122).add B123) (by omega)
  have B125 : BdR 64 ((0 : Int) : Rat) := BdR.mono (bd_int (by omega) (by omega)) (by omega)
  have B126 : BdR 128 (a1 * b1) := BdR.mono ((B27).mul B29) (by omega)
  have B127 : BdR 128 (a2 * b2) := BdR.mono ((B28).mul B30) (by omega)
  have B128 : BdR 513 ((a1 * b1) - (a2 * b2)) := BdR.mono ((B126).sub_ B127) (by omega)
  have B129 : BdR 128 (a1 * b2) := BdR.mono ((B27).mul B30) (by omega)
  have B130 : BdR 128 (a2 * b1) := BdR.mono ((B28).mul B29) (by omega)
  have B131 : BdR 513 ((a1 * b2) + (a2 * b1)) := BdR.mono ((B129).add B130) (by omega)
  have B132 : BdR 64 (-b2) := BdR.mono ((B30).neg) (by omega)
  have B133 : BdR 128 (b1 * b1) := BdR.mono ((B29).mul B29) (by omega)
  have B134 : BdR 128 (b2 * b2) := BdR.mono ((B30).mul B30) (by omega)
  have B135 : BdR 513 ((b1 * b1) + (b2 * b2)) := BdR.mono ((B133).add B134) (by omega)
  have B136 : BdR 577 (((a1 * b1) - (a2 * b2)) * b1) := BdR.mono ((B128).mul B29) (by omega)
  have B137 : BdR 577 (((a1 * b2) + (a2 * b1)) * (-b2)) := BdR.mono ((B131).mul B132) (by omega)
  have B138 : BdR 2309 ((((a1 * b1) - (a2 * b2)) * b1) - (((a1 * b2) + (a2 * b1)) * (-b2))) := BdR.mono ((B136).sub_ B137) (by omega)
  have B139 : BdR 2822 (((((a1 * b1) - (a2 * b2)) * b1) - (((a1 * b2) + (a2 * b1)) * (-b2))) / ((b1 * b1) + (b2 * b2))) := BdR.mono ((B138).quo B135) (by omega)
  have B140 : BdR 577 (((a1 * b1) - (a2 * b2)) * (-b2)) := BdR.mono ((B128).mul B132) (by omega)
  have B141 : BdR 577 (((a1 * b2) + (a2 * b1)) * b1) := BdR.mono ((B131).mul B29) (by omega)
  have B142 : BdR 2309 ((((a1 * b1) - (a2 * b2)) * (-b2)) + (((a1 * b2) + (a2 * b1)) * b1)) := BdR.mono ((B140).add B141) (by omega)
  have B143 : BdR 2822 (((((a1 * b1) - (a2 * b2)) * (-b2)) + (((a1 * b2) + (a2 * b1)) * b1)) / ((b1 * b1) + (b2 * b2))) := BdR.mono ((B142).quo B135) (by omega)
  refine calls_start (N := 259) Try.func4 rfl rfl rfl hM (show EntsA M w [v0, v1, v2] [⟨none, none, 0, pS [⟨true, 2, pFrac n1 d1⟩, ⟨true, 2, pFrac n2 d2⟩]⟩, ⟨none, none, 1, pS [⟨true, 2, pFrac n3 d3⟩, ⟨true, 2, pFrac n4 d4⟩]⟩, ⟨none, none, 2, pS [⟨true, 2, pFrac n5 d5⟩, ⟨true, 2, pFrac n6 d6⟩]⟩] from ⟨⟨rfl, _, rfl, hv0⟩, ⟨rfl, _, rfl, hv1⟩, ⟨rfl, _, rfl, hv2⟩, trivial⟩) fun a hI => ?_
  refine seq_text (V1 := [⟨3, some 0, 39, 4, true, pS [⟨true, 2, pFrac n1 d1⟩, ⟨true, 2, pFrac n2 d2⟩], []⟩, ⟨4, some 1, 39, 4, true, pS [⟨true, 2, pFrac n3 d3⟩, ⟨true, 2, pFrac n4 d4⟩], []⟩, ⟨5, some 2, 39, 4, true, pS [⟨true, 2, pFrac n5 d5⟩, ⟨true, 2, pFrac n6 d6⟩], []⟩]) (A1 := []) (G1 := [⟨none, none, 0, pS [⟨true, 2, pFrac n1 d1⟩, ⟨true, 2, pFrac n2 d2⟩]⟩, ⟨none, none, 1, pS [⟨true, 2, pFrac n3 d3⟩, ⟨true, 2, pFrac n4 d4⟩]⟩, ⟨none, none, 2, pS [⟨true, 2, pFrac n5 d5⟩, ⟨true, 2, pFrac n6 d6⟩]⟩, ⟨some 3, none, 6, pB false⟩]) (V2 := [⟨3, none, 39, 4, true, pS [⟨true, 2, pFrac n1 d1⟩, ⟨true, 2, pFrac n2 d2⟩], []⟩, ⟨4, none, 39, 4, true, pS [⟨true, 2, pFrac n3 d3⟩, ⟨true, 2, pFrac n4 d4⟩], []⟩, ⟨5, none, 39, 4, true, pS [⟨true, 2, pFrac n5 d5⟩, ⟨true, 2, pFrac n6 d6⟩], []⟩]) (A2 := []) (G2 := [⟨none, none, 6, pB false⟩]) hI rfl rfl rfl [0, 1, 3, 7] (by kernel_rfl) (by kernel_rfl) ?_ [0, 1, 2] [] [3] rfl rfl rfl fun a w hI => ?_
  · exact ⟨op_box 0 rfl rfl (by kernel_rfl) (by kernel_rfl) rfl rfl (.tmp 0 rfl rfl) (fits_s (fs := [⟨true, 2, pFrac n1 d1⟩, ⟨true, 2, pFrac n2 d2⟩]) ⟨fits_frac _ _, fits_frac _ _, trivial⟩ rfl) rfl,
      op_box 1 rfl rfl (by kernel_rfl) (by kernel_rfl) rfl rfl (.tmp 1 rfl rfl) (fits_s (fs := [⟨true, 2, pFrac n3 d3⟩, ⟨true, 2, pFrac n4 d4⟩]) ⟨fits_frac _ _, fits_frac _ _, trivial⟩ rfl) rfl,
      op_box 2 rfl rfl (by kernel_rfl) (by kernel_rfl) rfl rfl (.tmp 2 rfl rfl) (fits_s (fs := [⟨true, 2, pFrac n5 d5⟩, ⟨true, 2, pFrac n6 d6⟩]) ⟨fits_frac _ _, fits_frac _ _, trivial⟩ rfl) rfl,
      op_assign (.const _) (.here 3 rfl),
      trivial⟩
  refine seq_drawn (V1 := [⟨3, none, 39, 4, true, pS [⟨true, 2, pFrac n1 d1⟩, ⟨true, 2, pFrac n2 d2⟩], []⟩, ⟨4, none, 39, 4, true, pS [⟨true, 2, pFrac n3 d3⟩, ⟨true, 2, pFrac n4 d4⟩], []⟩, ⟨5, none, 39, 4, true, pS [⟨true, 2, pFrac n5 d5⟩, ⟨true, 2, pFrac n6 d6⟩], []⟩, ⟨7, some 9, 27, 3, true, pRat 0, [(12, pRat a1)]⟩, ⟨8, some 10, 27, 3, true, pRat 0, [(13, pRat b1)]⟩, ⟨9, some 11, 27, 3, true, pRat 0, [(14, pRat c1)]⟩]) (A1 := [⟨some 0, 17, 3, 0, True⟩, ⟨some 3, 20, 4, 0, True⟩, ⟨some 6, 23, 5, 0, True⟩]) (G1 := [⟨none, none, 6, pB false⟩, ⟨some 1, none, 18, pFrac n1 d1⟩, ⟨some 2, none, 19, pRat a1⟩, ⟨some 4, none, 21, pFrac n3 d3⟩, ⟨some 5, none, 22, pRat b1⟩, ⟨some 7, none, 24, pFrac n5 d5⟩, ⟨some 8, none, 25, pRat c1⟩]) (V2 := [⟨3, none, 39, 4, true, pS [⟨true, 2, pFrac n1 d1⟩, ⟨true, 2, pFrac n2 d2⟩], []⟩, ⟨4, none, 39, 4, true, pS [⟨true, 2, pFrac n3 d3⟩, ⟨true, 2, pFrac n4 d4⟩], []⟩, ⟨5, none, 39, 4, true, pS [⟨true, 2, pFrac n5 d5⟩, ⟨true, 2, pFrac n6 d6⟩], []⟩, ⟨7, none, 27, 3, true, pRat a1, []⟩, ⟨8, none, 27, 3, true, pRat b1, []⟩, ⟨9, none, 27, 3, true, pRat c1, []⟩]) (A2 := []) (G2 := [⟨none, none, 6, pB false⟩]) hI rfl rfl rfl [0, 1, 3, 0, 8, 31, 0, 64, 255, 0, 0, 0, 4095, 8191, 16383] (by kernel_rfl) (by kernel_rfl) (by kernel_rfl) (by kernel_rfl) ?_ [0, 1, 2, 3, 4, 5] [] [0] rfl rfl rfl fun a w hI => ?_
  · exact ⟨op_index 0 rfl rfl 0 rfl rfl rfl rfl (.inl ⟨rfl, rfl⟩) rfl (by kernel_rfl) (.const _) (fun _ _ => by kernel_rfl),
      op_loadAl 0 rfl 0 rfl rfl rfl rfl rfl trivial rfl (by kernel_rfl) ty_Frac rfl rfl (fd_get (fs := [⟨true, 2, pFrac n1 d1⟩, ⟨true, 2, pFrac n2 d2⟩]) 0 (f := ⟨true, 2, pFrac n1 d1⟩) rfl (off := 0) rfl) (.here 1 rfl),
      op_call1 (fun _ _ => by kernel_rfl) (numlike_rat _) (.tmp 1 rfl rfl) (.here 2 rfl) (c_of e1 f1),
      op_index 1 rfl rfl 1 rfl rfl rfl rfl (.inl ⟨rfl, rfl⟩) rfl (by kernel_rfl) (.const _) (fun _ _ => by kernel_rfl),
      op_loadAl 1 rfl 1 rfl rfl rfl rfl rfl trivial rfl (by kernel_rfl) ty_Frac rfl rfl (fd_get (fs := [⟨true, 2, pFrac n3 d3⟩, ⟨true, 2, pFrac n4 d4⟩]) 0 (f := ⟨true, 2, pFrac n3 d3⟩) rfl (off := 0) rfl) (.here 3 rfl),
      op_call1 (fun _ _ => by kernel_rfl) (numlike_rat _) (.tmp 3 rfl rfl) (.here 4 rfl) (c_of e3 f3),
      op_index 2 rfl rfl 2 rfl rfl rfl rfl (.inl ⟨rfl, rfl⟩) rfl (by kernel_rfl) (.const _) (fun _ _ => by kernel_rfl),
      op_loadAl 2 rfl 2 rfl rfl rfl rfl rfl trivial rfl (by kernel_rfl) ty_Frac rfl rfl (fd_get (fs := [⟨true, 2, pFrac n5 d5⟩, ⟨true, 2, pFrac n6 d6⟩]) 0 (f := ⟨true, 2, pFrac n5 d5⟩) rfl (off := 0) rfl) (.here 5 rfl),
      op_call1 (fun _ _ => by kernel_rfl) (numlike_rat _) (.tmp 5 rfl rfl) (.here 6 rfl) (c_of e5 f5),
      op_alloc 3 rfl rfl (by kernel_rfl) (by kernel_rfl) rfl rfl zv_Ratio rfl rfl (by simp [NoU]) (fun w => isRat_zero w),
      op_alloc 4 rfl rfl (by kernel_rfl) (by kernel_rfl) rfl rfl zv_Ratio rfl rfl (by simp [NoU]) (fun w => isRat_zero w),
      op_alloc 5 rfl rfl (by kernel_rfl) (by kernel_rfl) rfl rfl zv_Ratio rfl rfl (by simp [NoU]) (fun w => isRat_zero w),
      op_store 3 rfl rfl rfl 0 rfl (by kernel_rfl) (by kernel_rfl) ty_Ratio (.tmp 2 rfl rfl) (fits_rat _),
      op_store 4 rfl rfl rfl 0 rfl (by kernel_rfl) (by kernel_rfl) ty_Ratio (.tmp 4 rfl rfl) (fits_rat _),
      op_store 5 rfl rfl rfl 0 rfl (by kernel_rfl) (by kernel_rfl) ty_Ratio (.tmp 6 rfl rfl) (fits_rat _),
      trivial⟩
  refine wp_seq ?_
  refine seq_drawn (V1 := [⟨3, none, 39, 4, true, pS [⟨true, 2, pFrac n1 d1⟩, ⟨true, 2, pFrac n2 d2⟩], []⟩, ⟨4, none, 39, 4, true, pS [⟨true, 2, pFrac n3 d3⟩, ⟨true, 2, pFrac n4 d4⟩], []⟩, ⟨5, none, 39, 4, true, pS [⟨true, 2, pFrac n5 d5⟩, ⟨true, 2, pFrac n6 d6⟩], []⟩, ⟨7, none, 27, 3, true, pRat a1, []⟩, ⟨8, none, 27, 3, true, pRat b1, []⟩, ⟨9, none, 27, 3, true, pRat c1, []⟩]) (A1 := []) (G1 := [⟨none, none, 6, pB false⟩, ⟨some 0, none, 26, pRat a1⟩, ⟨some 1, none, 27, pRat b1⟩, ⟨some 2, none, 28, pRat (a1 + b1)⟩, ⟨some 3, none, 29, pRat b1⟩, ⟨some 4, none, 30, pRat a1⟩, ⟨some 5, none, 31, pRat (b1 + a1)⟩, ⟨some 6, none, 32, pB true⟩, ⟨some 7, none, 33, pB false⟩, ⟨some 8, none, 34, pB false⟩, ⟨some 9, none, 35, pRat a1⟩, ⟨some 10, none, 36, pRat b1⟩, ⟨some 11, none, 37, pRat (a1 * b1)⟩, ⟨some 12, none, 38, pRat b1⟩, ⟨some 13, none, 39, pRat a1⟩, ⟨some 14, none, 40, pRat (b1 * a1)⟩, ⟨some 15, none, 41, pB true⟩, ⟨some 16, none, 42, pB false⟩, ⟨some 17, none, 43, pB false⟩, ⟨some 18, none, 44, pB false⟩, ⟨some 19, none, 45, pRat a1⟩, ⟨some 20, none, 46, pRat b1⟩, ⟨some 21, none, 47, pRat (a1 + b1)⟩, ⟨some 22, none, 48, pRat c1⟩, ⟨some 23, none, 49, pRat ((a1 + b1) + c1)⟩, ⟨some 24, none, 50, pRat a1⟩, ⟨some 25, none, 51, pRat b1⟩, ⟨some 26, none, 52, pRat c1⟩, ⟨some 27, none, 53, pRat (b1 + c1)⟩, ⟨some 28, none, 54, pRat (a1 + (b1 + c1))⟩, ⟨some 29, none, 55, pB true⟩, ⟨some 30, none, 56, pB false⟩, ⟨some 31, none, 57, pB false⟩, ⟨some 32, none, 58, pB false⟩, ⟨some 33, none, 59, pRat a1⟩, ⟨some 34, none, 60, pRat b1⟩, ⟨some 35, none, 61, pRat (a1 * b1)⟩, ⟨some 36, none, 62, pRat c1⟩, ⟨some 37, none, 63, pRat ((a1 * b1) * c1)⟩, ⟨some 38, none, 64, pRat a1⟩, ⟨some 39, none, 65, pRat b1⟩, ⟨some 40, none, 66, pRat c1⟩, ⟨some 41, none, 67, pRat (b1 * c1)⟩, ⟨some 42, none, 68, pRat (a1 * (b1 * c1))⟩, ⟨some 43, none, 69, pB true⟩, ⟨some 44, none, 70, pB false⟩, ⟨some 45, none, 71, pB false⟩, ⟨some 46, none, 72, pB false⟩, ⟨some 47, none, 73, pRat a1⟩, ⟨some 48, none, 74, pRat b1⟩, ⟨some 49, none, 75, pRat (a1 + b1)⟩, ⟨some 50, none, 76, pRat c1⟩, ⟨some 51, none, 77, pRat ((a1 + b1) * c1)⟩, ⟨some 52, none, 78, pRat a1⟩, ⟨some 53, none, 79, pRat c1⟩, ⟨some 54, none, 80, pRat (a1 * c1)⟩, ⟨some 55, none, 81, pRat b1⟩, ⟨some 56, none, 82, pRat c1⟩, ⟨some 57, none, 83, pRat (b1 * c1)⟩, ⟨some 58, none, 84, pRat ((a1 * c1) + (b1 * c1))⟩, ⟨some 59, none, 85, pB true⟩, ⟨some 60, none, 86, pB false⟩, ⟨some 61, none, 87, pB false⟩, ⟨some 62, none, 88, pB false⟩, ⟨some 63, none, 89, pRat a1⟩, ⟨some 64, none, 90, pRat b1⟩, ⟨some 65, none, 91, pRat (a1 - b1)⟩, ⟨some 66, none, 92, pRat b1⟩, ⟨some 67, none, 93, pRat ((a1 - b1) + b1)⟩, ⟨some 68, none, 94, pRat a1⟩, ⟨some 69, none, 95, pB true⟩, ⟨some 70, none, 96, pB false⟩, ⟨some 71, none, 97, pB false⟩, ⟨some 72, none, 98, pB false⟩, ⟨some 73, none, 99, pRat a1⟩, ⟨some 74, none, 100, pRat (-a1)⟩, ⟨some 75, none, 101, pRat a1⟩, ⟨some 76, none, 102, pRat ((-a1) + a1)⟩, ⟨some 77, none, 103, pB true⟩, ⟨some 78, none, 104, pB false⟩, ⟨some 79, none, 105, pB false⟩]) (V2 := [⟨3, none, 39, 4, true, pS [⟨true, 2, pFrac n1 d1⟩, ⟨true, 2, pFrac n2 d2⟩], []⟩, ⟨4, none, 39, 4, true, pS [⟨true, 2, pFrac n3 d3⟩, ⟨true, 2, pFrac n4 d4⟩], []⟩, ⟨5, none, 39, 4, true, pS [⟨true, 2, pFrac n5 d5⟩, ⟨true, 2, pFrac n6 d6⟩], []⟩, ⟨7, none, 27, 3, true, pRat a1, []⟩, ⟨8, none, 27, 3, true, pRat b1, []⟩, ⟨9, none, 27, 3, true, pRat c1, []⟩]) (A2 := []) (G2 := [⟨none, none, 6, pB false⟩, ⟨none, none, 105, pB false⟩]) hI rfl rfl rfl [0, 0, 3, 0, 0, 31, 63, 127, 255, 511, 511, 2047, 511, 511, 16383, 32767, 65535, 131071, 262143, 524287, 524287, 2097151, 524287, 8388607, 524287, 524287, 524287, 117440511, 268435455, 536870911, 1073741823, 2147483647, 4294967295, 8589934591, 8589934591, 34359738367, 8589934591, 137438953471, 8589934591, 8589934591, 8589934591, 1924145348607, 4398046511103, 8796093022207, 17592186044415, 35184372088831, 70368744177663, 140737488355327, 140737488355327, 562949953421311, 140737488355327, 2251799813685247, 140737488355327, 140737488355327, 18014398509481983, 140737488355327, 140737488355327, 144115188075855871, 288230376151711743, 576460752303423487, 1152921504606846975, 2305843009213693951, 4611686018427387903, 9223372036854775807, 9223372036854775807, 36893488147419103231, 9223372036854775807, 147573952589676412927, 9223372036854775807, 590295810358705651711, 1180591620717411303423, 2361183241434822606847, 4722366482869645213695, 9444732965739290427391, 18889465931478580854783, 9444732965739290427391, 75557863725914323419135, 151115727451828646838271, 302231454903657293676543, 604462909807314587353087] (by kernel_rfl) (by kernel_rfl) (by kernel_rfl) (by kernel_rfl) ?_ [0, 1, 2, 3, 4, 5] [] [0, 80] rfl rfl rfl fun a w hI => ?_
  · exact ⟨op_load 3 rfl rfl rfl (by kernel_rfl) ty_Ratio rfl (.here 1 rfl),
      op_load 4 rfl rfl rfl (by kernel_rfl) ty_Ratio rfl (.here 2 rfl),
      op_call2 (fun _ _ => by kernel_rfl) (numlike_rat _) (.tmp 1 rfl rfl) (.tmp 2 rfl rfl) (.here 3 rfl) (c_add B1 B2 (by omega)),
      op_load 4 rfl rfl rfl (by kernel_rfl) ty_Ratio rfl (.here 4 rfl),
      op_load 3 rfl rfl rfl (by kernel_rfl) ty_Ratio rfl (.here 5 rfl),
      op_call2 (fun _ _ => by kernel_rfl) (numlike_rat _) (.tmp 4 rfl rfl) (.tmp 5 rfl rfl) (.here 6 rfl) (c_add B2 B1 (by omega)),
      op_call2 (fun _ _ => by kernel_rfl) (numlike_eq _) (.tmp 3 rfl rfl) (.tmp 6 rfl rfl) (.here 7 rfl) (c_known (b := true) (c_same (a1 + b1) (b1 + a1)) (decide_eq_true (Rat.add_comm _ _))),
      op_not (.tmp 7 rfl rfl) (.here 8 rfl),
      op_move (.tmp 8 rfl rfl) (.here 9 rfl),
      op_yes 9 rfl rfl (op_load 3 rfl rfl rfl (by kernel_rfl) ty_Ratio rfl (.here 10 rfl)),
      op_yes 9 rfl rfl (op_load 4 rfl rfl rfl (by kernel_rfl) ty_Ratio rfl (.here 11 rfl)),
      op_yes 9 rfl rfl (op_call2 (fun _ _ => by kernel_rfl) (numlike_rat _) (.tmp 10 rfl rfl) (.tmp 11 rfl rfl) (.here 12 rfl) (c_mul B1 B2 (by omega))),
      op_yes 9 rfl rfl (op_load 4 rfl rfl rfl (by kernel_rfl) ty_Ratio rfl (.here 13 rfl)),
      op_yes 9 rfl rfl (op_load 3 rfl rfl rfl (by kernel_rfl) ty_Ratio rfl (.here 14 rfl)),
      op_yes 9 rfl rfl (op_call2 (fun _ _ => by kernel_rfl) (numlike_rat _) (.tmp 13 rfl rfl) (.tmp 14 rfl rfl) (.here 15 rfl) (c_mul B2 B1 (by omega))),
      op_yes 9 rfl rfl (op_call2 (fun _ _ => by kernel_rfl) (numlike_eq _) (.tmp 12 rfl rfl) (.tmp 15 rfl rfl) (.here 16 rfl) (c_known (b := true) (c_same (a1 * b1) (b1 * a1)) (decide_eq_true (Rat.mul_comm _ _)))),
      op_yes 9 rfl rfl (op_not (.tmp 16 rfl rfl) (.here 17 rfl)),
      op_pick (b := false) (.tmp 9 rfl rfl) (fun h => by cases h) (fun _ => (.tmp 17 rfl rfl)) (.here 18 rfl),
      op_move (.tmp 18 rfl rfl) (.here 19 rfl),
      op_yes 19 rfl rfl (op_load 3 rfl rfl rfl (by kernel_rfl) ty_Ratio rfl (.here 20 rfl)),
      op_yes 19 rfl rfl (op_load 4 rfl rfl rfl (by kernel_rfl) ty_Ratio rfl (.here 21 rfl)),
      op_yes 19 rfl rfl (op_call2 (fun _ _ => by kernel_rfl) (numlike_rat _) (.tmp 20 rfl rfl) (.tmp 21 rfl rfl) (.here 22 rfl) (c_add B1 B2 (by omega))),
      op_yes 19 rfl rfl (op_load 5 rfl rfl rfl (by kernel_rfl) ty_Ratio rfl (.here 23 rfl)),
      op_yes 19 rfl rfl (op_call2 (fun _ _ => by kernel_rfl) (numlike_rat _) (.tmp 22 rfl rfl) (.tmp 23 rfl rfl) (.here 24 rfl) (c_add B8 B3 (by omega))),
      op_yes 19 rfl rfl (op_load 3 rfl rfl rfl (by kernel_rfl) ty_Ratio rfl (.here 25 rfl)),
      op_yes 19 rfl rfl (op_load 4 rfl rfl rfl (by kernel_rfl) ty_Ratio rfl (.here 26 rfl)),
      op_yes 19 rfl rfl (op_load 5 rfl rfl rfl (by kernel_rfl) ty_Ratio rfl (.here 27 rfl)),
      op_yes 19 rfl rfl (op_call2 (fun _ _ => by kernel_rfl) (numlike_rat _) (.tmp 26 rfl rfl) (.tmp 27 rfl rfl) (.here 28 rfl) (c_add B2 B3 (by omega))),
      op_yes 19 rfl rfl (op_call2 (fun _ _ => by kernel_rfl) (numlike_rat _) (.tmp 25 rfl rfl) (.tmp 28 rfl rfl) (.here 29 rfl) (c_add B1 B10 (by omega))),
      op_yes 19 rfl rfl (op_call2 (fun _ _ => by kernel_rfl) (numlike_eq _) (.tmp 24 rfl rfl) (.tmp 29 rfl rfl) (.here 30 rfl) (c_known (b := true) (c_same ((a1 + b1) + c1) (a1 + (b1 + c1))) (decide_eq_true (fl_assoc _ _ _)))),
      op_yes 19 rfl rfl (op_not (.tmp 30 rfl rfl) (.here 31 rfl)),
      op_pick (b := false) (.tmp 19 rfl rfl) (fun h => by cases h) (fun _ => (.tmp 31 rfl rfl)) (.here 32 rfl),
      op_move (.tmp 32 rfl rfl) (.here 33 rfl),
      op_yes 33 rfl rfl (op_load 3 rfl rfl rfl (by kernel_rfl) ty_Ratio rfl (.here 34 rfl)),
      op_yes 33 rfl rfl (op_load 4 rfl rfl rfl (by kernel_rfl) ty_Ratio rfl (.here 35 rfl)),
      op_yes 33 rfl rfl (op_call2 (fun _ _ => by kernel_rfl) (numlike_rat _) (.tmp 34 rfl rfl) (.tmp 35 rfl rfl) (.here 36 rfl) (c_mul B1 B2 (by omega))),
      op_yes 33 rfl rfl (op_load 5 rfl rfl rfl (by kernel_rfl) ty_Ratio rfl (.here 37 rfl)),
      op_yes 33 rfl rfl (op_call2 (fun _ _ => by kernel_rfl) (numlike_rat _) (.tmp 36 rfl rfl) (.tmp 37 rfl rfl) (.here 38 rfl) (c_mul B12 B3 (by omega))),
      op_yes 33 rfl rfl (op_load 3 rfl rfl rfl (by kernel_rfl) ty_Ratio rfl (.here 39 rfl)),
      op_yes 33 rfl rfl (op_load 4 rfl rfl rfl (by kernel_rfl) ty_Ratio rfl (.here 40 rfl)),
      op_yes 33 rfl rfl (op_load 5 rfl rfl rfl (by kernel_rfl) ty_Ratio rfl (.here 41 rfl)),
      op_yes 33 rfl rfl (op_call2 (fun _ _ => by kernel_rfl) (numlike_rat _) (.tmp 40 rfl rfl) (.tmp 41 rfl rfl) (.here 42 rfl) (c_mul B2 B3 (by omega))),
      op_yes 33 rfl rfl (op_call2 (fun _ _ => by kernel_rfl) (numlike_rat _) (.tmp 39 rfl rfl) (.tmp 42 rfl rfl) (.here 43 rfl) (c_mul B1 B14 (by omega))),
      op_yes 33 rfl rfl (op_call2 (fun _ _ => by kernel_rfl) (numlike_eq _) (.tmp 38 rfl rfl) (.tmp 43 rfl rfl) (.here 44 rfl) (c_known (b := true) (c_same ((a1 * b1) * c1) (a1 * (b1 * c1))) (decide_eq_true (fl_massoc _ _ _)))),
      op_yes 33 rfl rfl (op_not (.tmp 44 rfl rfl) (.here 45 rfl)),
      op_pick (b := false) (.tmp 33 rfl rfl) (fun h => by cases h) (fun _ => (.tmp 45 rfl rfl)) (.here 46 rfl),
      op_move (.tmp 46 rfl rfl) (.here 47 rfl),
      op_yes 47 rfl rfl (op_load 3 rfl rfl rfl (by kernel_rfl) ty_Ratio rfl (.here 48 rfl)),
      op_yes 47 rfl rfl (op_load 4 rfl rfl rfl (by kernel_rfl) ty_Ratio rfl (.here 49 rfl)),
      op_yes 47 rfl rfl (op_call2 (fun _ _ => by kernel_rfl) (numlike_rat _) (.tmp 48 rfl rfl) (.tmp 49 rfl rfl) (.here 50 rfl) (c_add B1 B2 (by omega))),
      op_yes 47 rfl rfl (op_load 5 rfl rfl rfl (by kernel_rfl) ty_Ratio rfl (.here 51 rfl)),
      op_yes 47 rfl rfl (op_call2 (fun _ _ => by kernel_rfl) (numlike_rat _) (.tmp 50 rfl rfl) (.tmp 51 rfl rfl) (.here 52 rfl) (c_mul B16 B3 (by omega))),
      op_yes 47 rfl rfl (op_load 3 rfl rfl rfl (by kernel_rfl) ty_Ratio rfl (.here 53 rfl)),
      op_yes 47 rfl rfl (op_load 5 rfl rfl rfl (by kernel_rfl) ty_Ratio rfl (.here 54 rfl)),
      op_yes 47 rfl rfl (op_call2 (fun _ _ => by kernel_rfl) (numlike_rat _) (.tmp 53 rfl rfl) (.tmp 54 rfl rfl) (.here 55 rfl) (c_mul B1 B3 (by omega))),
      op_yes 47 rfl rfl (op_load 4 rfl rfl rfl (by kernel_rfl) ty_Ratio rfl (.here 56 rfl)),
      op_yes 47 rfl rfl (op_load 5 rfl rfl rfl (by kernel_rfl) ty_Ratio rfl (.here 57 rfl)),
      op_yes 47 rfl rfl (op_call2 (fun _ _ => by kernel_rfl) (numlike_rat _) (.tmp 56 rfl rfl) (.tmp 57 rfl rfl) (.here 58 rfl) (c_mul B2 B3 (by omega))),
      op_yes 47 rfl rfl (op_call2 (fun _ _ => by kernel_rfl) (numlike_rat _) (.tmp 55 rfl rfl) (.tmp 58 rfl rfl) (.here 59 rfl) (c_add B18 B19 (by omega))),
      op_yes 47 rfl rfl (op_call2 (fun _ _ => by kernel_rfl) (numlike_eq _) (.tmp 52 rfl rfl) (.tmp 59 rfl rfl) (.here 60 rfl) (c_known (b := true) (c_same ((a1 + b1) * c1) ((a1 * c1) + (b1 * c1))) (decide_eq_true (fl_dist _ _ _)))),
      op_yes 47 rfl rfl (op_not (.tmp 60 rfl rfl) (.here 61 rfl)),
      op_pick (b := false) (.tmp 47 rfl rfl) (fun h => by cases h) (fun _ => (.tmp 61 rfl rfl)) (.here 62 rfl),
      op_move (.tmp 62 rfl rfl) (.here 63 rfl),
      op_yes 63 rfl rfl (op_load 3 rfl rfl rfl (by kernel_rfl) ty_Ratio rfl (.here 64 rfl)),
      op_yes 63 rfl rfl (op_load 4 rfl rfl rfl (by kernel_rfl) ty_Ratio rfl (.here 65 rfl)),
      op_yes 63 rfl rfl (op_call2 (fun _ _ => by kernel_rfl) (numlike_rat _) (.tmp 64 rfl rfl) (.tmp 65 rfl rfl) (.here 66 rfl) (c_sub B1 B2 (by omega))),
      op_yes 63 rfl rfl (op_load 4 rfl rfl rfl (by kernel_rfl) ty_Ratio rfl (.here 67 rfl)),
      op_yes 63 rfl rfl (op_call2 (fun _ _ => by kernel_rfl) (numlike_rat _) (.tmp 66 rfl rfl) (.tmp 67 rfl rfl) (.here 68 rfl) (c_add B21 B2 (by omega))),
      op_yes 63 rfl rfl (op_load 3 rfl rfl rfl (by kernel_rfl) ty_Ratio rfl (.here 69 rfl)),
      op_yes 63 rfl rfl (op_call2 (fun _ _ => by kernel_rfl) (numlike_eq _) (.tmp 68 rfl rfl) (.tmp 69 rfl rfl) (.here 70 rfl) (c_known (b := true) (c_same ((a1 - b1) + b1) a1) (decide_eq_true (fl_sub _ _)))),
      op_yes 63 rfl rfl (op_not (.tmp 70 rfl rfl) (.here 71 rfl)),
      op_pick (b := false) (.tmp 63 rfl rfl) (fun h => by cases h) (fun _ => (.tmp 71 rfl rfl)) (.here 72 rfl),
      op_move (.tmp 72 rfl rfl) (.here 73 rfl),
      op_yes 73 rfl rfl (op_load 3 rfl rfl rfl (by kernel_rfl) ty_Ratio rfl (.here 74 rfl)),
      op_yes 73 rfl rfl (op_call1 (fun _ _ => by kernel_rfl) (numlike_rat _) (.tmp 74 rfl rfl) (.here 75 rfl) (c_neg _)),
      op_yes 73 rfl rfl (op_load 3 rfl rfl rfl (by kernel_rfl) ty_Ratio rfl (.here 76 rfl)),
      op_yes 73 rfl rfl (op_call2 (fun _ _ => by kernel_rfl) (numlike_rat _) (.tmp 75 rfl rfl) (.tmp 76 rfl rfl) (.here 77 rfl) (c_add B23 B1 (by omega))),
      op_yes 73 rfl rfl (op_call1 (fun _ _ => by kernel_rfl) (numlike_eq _) (.tmp 77 rfl rfl) (.here 78 rfl) (c_known1 (b := true) (c_zero ((-a1) + a1)) (decide_eq_true (fl_neg _)))),
      op_yes 73 rfl rfl (op_not (.tmp 78 rfl rfl) (.here 79 rfl)),
      op_pick (b := false) (.tmp 73 rfl rfl) (fun h => by cases h) (fun _ => (.tmp 79 rfl rfl)) (.here 80 rfl),
      trivial⟩
  refine cond_no hI 1 rfl ?_
  refine wp_skip ?_
  refine then_of ?_
  refine seq_drawn (V1 := [⟨3, none, 39, 4, true, pS [⟨true, 2, pFrac n1 d1⟩, ⟨true, 2, pFrac n2 d2⟩], []⟩, ⟨4, none, 39, 4, true, pS [⟨true, 2, pFrac n3 d3⟩, ⟨true, 2, pFrac n4 d4⟩], []⟩, ⟨5, none, 39, 4, true, pS [⟨true, 2, pFrac n5 d5⟩, ⟨true, 2, pFrac n6 d6⟩], []⟩, ⟨7, none, 27, 3, true, pRat a1, []⟩, ⟨8, none, 27, 3, true, pRat b1, []⟩, ⟨9, none, 27, 3, true, pRat c1, []⟩, ⟨10, some 8, 27, 3, true, pRat 0, [(9, pRat ((a1 * b1) / b1))]⟩]) (A1 := []) (G1 := [⟨none, none, 6, pB false⟩, ⟨none, none, 105, pB false⟩, ⟨some 0, none, 107, pRat a1⟩, ⟨some 1, none, 108, pRat b1⟩, ⟨some 2, none, 109, pRat (a1 * b1)⟩, ⟨some 3, none, 110, pRat b1⟩, ⟨some 4, none, 111, pTup2 (pRat ((a1 * b1) / b1)) (pI (if b1 = 0 then 3 else 0))⟩, ⟨some 5, none, 106, pTup2 (pRat ((a1 * b1) / b1)) (pI (if b1 = 0 then 3 else 0))⟩, ⟨some 6, none, 112, pRat ((a1 * b1) / b1)⟩, ⟨some 7, none, 113, pI (if b1 = 0 then 3 else 0)⟩, ⟨some 10, none, 11, pI (if b1 = 0 then 3 else 0)⟩]) (V2 := [⟨3, none, 39, 4, true, pS [⟨true, 2, pFrac n1 d1⟩, ⟨true, 2, pFrac n2 d2⟩], []⟩, ⟨4, none, 39, 4, true, pS [⟨true, 2, pFrac n3 d3⟩, ⟨true, 2, pFrac n4 d4⟩], []⟩, ⟨5, none, 39, 4, true, pS [⟨true, 2, pFrac n5 d5⟩, ⟨true, 2, pFrac n6 d6⟩], []⟩, ⟨7, none, 27, 3, true, pRat a1, []⟩, ⟨8, none, 27, 3, true, pRat b1, []⟩, ⟨9, none, 27, 3, true, pRat c1, []⟩, ⟨10, none, 27, 3, true, pRat ((a1 * b1) / b1), []⟩]) (A2 := []) (G2 := [⟨none, none, 6, pB false⟩, ⟨none, none, 11, pI (if b1 = 0 then 3 else 0)⟩]) hI rfl rfl rfl [0, 0, 3, 0, 15, 31, 63, 63, 0, 383, 1023] (by kernel_rfl) (by kernel_rfl) (by kernel_rfl) (by kernel_rfl) ?_ [0, 1, 2, 3, 4, 5, 6] [] [0, 10] rfl rfl rfl fun a w hI => ?_
  · exact ⟨op_load 3 rfl rfl rfl (by kernel_rfl) ty_Ratio rfl (.here 2 rfl),
      op_load 4 rfl rfl rfl (by kernel_rfl) ty_Ratio rfl (.here 3 rfl),
      op_call2 (fun _ _ => by kernel_rfl) (numlike_rat _) (.tmp 2 rfl rfl) (.tmp 3 rfl rfl) (.here 4 rfl) (c_mul B1 B2 (by omega)),
      op_load 4 rfl rfl rfl (by kernel_rfl) ty_Ratio rfl (.here 5 rfl),
      op_call2 (fun _ _ => by kernel_rfl) (numlike_tup2 (numlike_rat _) (numlike_eq _)) (.tmp 4 rfl rfl) (.tmp 5 rfl rfl) (.here 6 rfl) (c_div B25 B2 (by omega)),
      op_move (.tmp 6 rfl rfl) (.here 7 rfl),
      op_extract (.tmp 7 rfl rfl) ex2_0 (.here 8 rfl),
      op_extract (.tmp 7 rfl rfl) ex2_1 (.here 9 rfl),
      op_alloc 6 rfl rfl (by kernel_rfl) (by kernel_rfl) rfl rfl zv_Ratio rfl rfl (by simp [NoU]) (fun w => isRat_zero w),
      op_store 6 rfl rfl rfl 0 rfl (by kernel_rfl) (by kernel_rfl) ty_Ratio (.tmp 8 rfl rfl) (fits_rat _),
      op_assign (.tmp 9 rfl rfl) (.here 10 rfl),
      trivial⟩
  refine wp_seq ?_
  refine seq_text (V1 := [⟨3, none, 39, 4, true, pS [⟨true, 2, pFrac n1 d1⟩, ⟨true, 2, pFrac n2 d2⟩], []⟩, ⟨4, none, 39, 4, true, pS [⟨true, 2, pFrac n3 d3⟩, ⟨true, 2, pFrac n4 d4⟩], []⟩, ⟨5, none, 39, 4, true, pS [⟨true, 2, pFrac n5 d5⟩, ⟨true, 2, pFrac n6 d6⟩], []⟩, ⟨7, none, 27, 3, true, pRat a1, []⟩, ⟨8, none, 27, 3, true, pRat b1, []⟩, ⟨9, none, 27, 3, true, pRat c1, []⟩, ⟨10, none, 27, 3, true, pRat ((a1 * b1) / b1), []⟩]) (A1 := []) (G1 := [⟨none, none, 6, pB false⟩, ⟨none, none, 11, pI (if b1 = 0 then 3 else 0)⟩, ⟨some 0, none, 114, pRat b1⟩, ⟨some 1, none, 115, pB (decide (b1 = 0))⟩, ⟨some 2, none, 116, pI (if b1 = 0 then 3 else 0)⟩, ⟨some 3, none, 117, pB ((if b1 = 0 then 3 else 0) == (3 : Int))⟩, ⟨some 4, none, 118, pB false⟩, ⟨some 5, none, 119, pB false⟩, ⟨some 6, none, 120, pI (if b1 = 0 then 3 else 0)⟩, ⟨some 7, none, 121, pB ((if b1 = 0 then 3 else 0) != (0 : Int))⟩, ⟨some 8, none, 122, pB ((if b1 = 0 then 3 else 0) != (0 : Int))⟩, ⟨some 9, none, 123, pSel (((if b1 = 0 then 3 else 0) != (0 : Int)) = true) (pI (if b1 = 0 then 3 else 0))⟩, ⟨some 10, none, 124, pSel (((if b1 = 0 then 3 else 0) != (0 : Int)) = true) (pB ((if b1 = 0 then 3 else 0) != (3 : Int)))⟩, ⟨some 11, none, 125, pB (((if b1 = 0 then 3 else 0) != (0 : Int)) && ((if b1 = 0 then 3 else 0) != (3 : Int)))⟩, ⟨some 12, none, 126, pB (((if b1 = 0 then 3 else 0) != (0 : Int)) && ((if b1 = 0 then 3 else 0) != (3 : Int)))⟩, ⟨some 13, none, 127, pB false⟩, ⟨some 14, none, 128, pI (if b1 = 0 then 3 else 0)⟩, ⟨some 15, none, 129, pB ((if b1 = 0 then 3 else 0) == (0 : Int))⟩, ⟨some 16, none, 130, pB ((if b1 = 0 then 3 else 0) == (0 : Int))⟩, ⟨some 17, none, 131, pSel (((if b1 = 0 then 3 else 0) == (0 : Int)) = true) (pRat ((a1 * b1) / b1))⟩, ⟨some 18, none, 132, pSel (((if b1 = 0 then 3 else 0) == (0 : Int)) = true) (pRat a1)⟩, ⟨some 19, none, 133, pSel (((if b1 = 0 then 3 else 0) == (0 : Int)) = true) (pB (decide ((a1 * b1) / b1 = a1)))⟩, ⟨some 20, none, 134, pSel (((if b1 = 0 then 3 else 0) == (0 : Int)) = true) (pB (!(decide ((a1 * b1) / b1 = a1))))⟩, ⟨some 21, none, 135, pB (((if b1 = 0 then 3 else 0) == (0 : Int)) && (!(decide ((a1 * b1) / b1 = a1))))⟩, ⟨some 22, none, 136, pB false⟩]) (V2 := [⟨3, none, 39, 4, true, pS [⟨true, 2, pFrac n1 d1⟩, ⟨true, 2, pFrac n2 d2⟩], []⟩, ⟨4, none, 39, 4, true, pS [⟨true, 2, pFrac n3 d3⟩, ⟨true, 2, pFrac n4 d4⟩], []⟩, ⟨5, none, 39, 4, true, pS [⟨true, 2, pFrac n5 d5⟩, ⟨true, 2, pFrac n6 d6⟩], []⟩, ⟨7, none, 27, 3, true, pRat a1, []⟩, ⟨8, none, 27, 3, true, pRat b1, []⟩, ⟨9, none, 27, 3, true, pRat c1, []⟩, ⟨10, none, 27, 3, true, pRat ((a1 * b1) / b1), []⟩]) (A2 := []) (G2 := [⟨none, none, 6, pB false⟩, ⟨none, none, 136, pB false⟩]) hI rfl rfl rfl [0, 1, 3, 7, 15, 31, 63, 127, 255, 511, 1023, 2047, 4095, 8191, 16383, 32767, 65535, 131071, 262143, 524287, 1048575, 2097151, 4194303] (by kernel_rfl) (by kernel_rfl) ?_ [0, 1, 2, 3, 4, 5, 6] [] [0, 24] rfl rfl rfl fun a w hI => ?_
  · exact ⟨op_load 4 rfl rfl rfl (by kernel_rfl) ty_Ratio rfl (.here 2 rfl),
      op_call1 (fun _ _ => by kernel_rfl) (numlike_eq _) (.tmp 2 rfl rfl) (.here 3 rfl) (c_zero b1),
      op_move (.tmp 1 rfl rfl) (.here 4 rfl),
      op_bin (v := .bool (((if b1 = 0 then 3 else 0) == (3 : Int)))) (.tmp 4 rfl rfl) (.const _) (fun _ => rfl) (.here 5 rfl),
      op_bin_bool (v := .bool ((decide (b1 = 0)) != ((if b1 = 0 then 3 else 0) == (3 : Int)))) (.tmp 3 rfl rfl) (.tmp 5 rfl rfl) (fun _ => by kernel_rfl) (.at_ 6 _ _ rfl (pB_eq (ft_a _))),
      op_move (.tmp 6 rfl rfl) (.here 7 rfl),
      op_yes 7 rfl rfl (op_move (.tmp 1 rfl rfl) (.here 8 rfl)),
      op_yes 7 rfl rfl (op_bin (v := .bool (((if b1 = 0 then 3 else 0) != (0 : Int)))) (.tmp 8 rfl rfl) (.const _) (fun _ => rfl) (.here 9 rfl)),
      op_yes 7 rfl rfl (op_move (.tmp 9 rfl rfl) (.here 10 rfl)),
      op_if 10 rfl rfl (fun hc => op_move (.tmp 1 rfl rfl) (.sel hc 11 rfl)) (by kernel_rfl) (fun _ => .none (by kernel_rfl)) (fun hc => .sel_no hc 11 rfl),
      op_if 10 rfl rfl (fun hc => op_bin (v := .bool (((if b1 = 0 then 3 else 0) != (3 : Int)))) (.sel (.tmp 11 rfl rfl) hc) (.const _) (fun _ => rfl) (.sel hc 12 rfl)) (by kernel_rfl) (fun _ => .none (by kernel_rfl)) (fun hc => .sel_no hc 12 rfl),
      op_yes 7 rfl rfl (op_pick (.tmp 10 rfl rfl) (fun h => .imp (.sel (.tmp 12 rfl rfl) (h)) fun _ _ e => by rw [h]; exact e) (fun h => .imp (.const _) fun _ _ e => by rw [h]; exact e) (.here 13 rfl)),
      op_pick (b := false) (.tmp 7 rfl rfl) (fun h => by cases h) (fun _ => (.tmp 13 rfl rfl)) (.here 14 rfl),
      op_move (.tmp 14 rfl rfl) (.at_ 15 _ _ rfl (pB_eq (ft_b _))),
      op_yes 15 rfl rfl (op_move (.tmp 1 rfl rfl) (.here 16 rfl)),
      op_yes 15 rfl rfl (op_bin (v := .bool (((if b1 = 0 then 3 else 0) == (0 : Int)))) (.tmp 16 rfl rfl) (.const _) (fun _ => rfl) (.here 17 rfl)),
      op_yes 15 rfl rfl (op_move (.tmp 17 rfl rfl) (.here 18 rfl)),
      op_if 18 rfl rfl (fun hc => op_load 6 rfl rfl rfl (by kernel_rfl) ty_Ratio rfl (.sel hc 19 rfl)) (by kernel_rfl) (fun _ => .none (by kernel_rfl)) (fun hc => .sel_no hc 19 rfl),
      op_if 18 rfl rfl (fun hc => op_load 3 rfl rfl rfl (by kernel_rfl) ty_Ratio rfl (.sel hc 20 rfl)) (by kernel_rfl) (fun _ => .none (by kernel_rfl)) (fun hc => .sel_no hc 20 rfl),
      op_if 18 rfl rfl (fun hc => op_call2 (fun _ _ => by kernel_rfl) (numlike_eq _) (.sel (.tmp 19 rfl rfl) hc) (.sel (.tmp 20 rfl rfl) hc) (.sel hc 21 rfl) (c_same ((a1 * b1) / b1) a1)) (by kernel_rfl) (fun _ => .none (by kernel_rfl)) (fun hc => .sel_no hc 21 rfl),
      op_if 18 rfl rfl (fun hc => op_not (.sel (.tmp 21 rfl rfl) hc) (.sel hc 22 rfl)) (by kernel_rfl) (fun _ => .none (by kernel_rfl)) (fun hc => .sel_no hc 22 rfl),
      op_yes 15 rfl rfl (op_pick (.tmp 18 rfl rfl) (fun h => .imp (.sel (.tmp 22 rfl rfl) (h)) fun _ _ e => by rw [h]; exact e) (fun h => .imp (.const _) fun _ _ e => by rw [h]; exact e) (.here 23 rfl)),
      op_pick (b := false) (.tmp 15 rfl rfl) (fun h => by cases h) (fun _ => (.tmp 23 rfl rfl)) (.at_ 24 _ _ rfl (pB_eq (ft_c _ _))),
      trivial⟩
  refine cond_no hI 1 rfl ?_
  refine wp_skip ?_
  refine then_of ?_
  refine seq_drawn (V1 := [⟨3, none, 39, 4, true, pS [⟨true, 2, pFrac n1 d1⟩, ⟨true, 2, pFrac n2 d2⟩], []⟩, ⟨4, none, 39, 4, true, pS [⟨true, 2, pFrac n3 d3⟩, ⟨true, 2, pFrac n4 d4⟩], []⟩, ⟨5, none, 39, 4, true, pS [⟨true, 2, pFrac n5 d5⟩, ⟨true, 2, pFrac n6 d6⟩], []⟩, ⟨7, none, 27, 3, true, pRat a1, []⟩, ⟨8, none, 27, 3, true, pRat b1, []⟩, ⟨9, none, 27, 3, true, pRat c1, []⟩, ⟨10, none, 27, 3, true, pRat ((a1 * b1) / b1), []⟩, ⟨12, some 6, 43, 6, true, pPair 0 0, [(9, pPair a1 a2)]⟩, ⟨13, some 7, 43, 6, true, pPair 0 0, [(10, pPair b1 b2)]⟩, ⟨14, some 8, 43, 6, true, pPair 0 0, [(11, pPair c1 c2)]⟩]) (A1 := []) (G1 := [⟨none, none, 6, pB false⟩, ⟨none, none, 136, pB false⟩, ⟨some 0, none, 137, pS [⟨true, 2, pFrac n1 d1⟩, ⟨true, 2, pFrac n2 d2⟩]⟩, ⟨some 1, none, 138, pPair a1 a2⟩, ⟨some 2, none, 139, pS [⟨true, 2, pFrac n3 d3⟩, ⟨true, 2, pFrac n4 d4⟩]⟩, ⟨some 3, none, 140, pPair b1 b2⟩, ⟨some 4, none, 141, pS [⟨true, 2, pFrac n5 d5⟩, ⟨true, 2, pFrac n6 d6⟩]⟩, ⟨some 5, none, 142, pPair c1 c2⟩]) (V2 := [⟨3, none, 39, 4, true, pS [⟨true, 2, pFrac n1 d1⟩, ⟨true, 2, pFrac n2 d2⟩], []⟩, ⟨4, none, 39, 4, true, pS [⟨true, 2, pFrac n3 d3⟩, ⟨true, 2, pFrac n4 d4⟩], []⟩, ⟨5, none, 39, 4, true, pS [⟨true, 2, pFrac n5 d5⟩, ⟨true, 2, pFrac n6 d6⟩], []⟩, ⟨7, none, 27, 3, true, pRat a1, []⟩, ⟨8, none, 27, 3, true, pRat b1, []⟩, ⟨9, none, 27, 3, true, pRat c1, []⟩, ⟨10, none, 27, 3, true, pRat ((a1 * b1) / b1), []⟩, ⟨12, none, 43, 6, true, pPair a1 a2, []⟩, ⟨13, none, 43, 6, true, pPair b1 b2, []⟩, ⟨14, none, 43, 6, true, pPair c1 c2, []⟩]) (A2 := []) (G2 := [⟨none, none, 6, pB false⟩]) hI rfl rfl rfl [0, 1, 0, 7, 0, 31, 0, 0, 0, 511, 1023, 2047] (by kernel_rfl) (by kernel_rfl) (by kernel_rfl) (by kernel_rfl) ?_ [0, 1, 2, 3, 4, 5, 6, 7, 8, 9] [] [0] rfl rfl rfl fun a w hI => ?_
  · exact ⟨op_load 0 rfl rfl rfl (by kernel_rfl) ty_Frac2 rfl (.here 2 rfl),
      op_callB1 (fun _ _ => by kernel_rfl) (.tmp 2 rfl rfl) (.here 3 rfl) (cl_join e1 f1 e2 f2),
      op_load 1 rfl rfl rfl (by kernel_rfl) ty_Frac2 rfl (.here 4 rfl),
      op_callB1 (fun _ _ => by kernel_rfl) (.tmp 4 rfl rfl) (.here 5 rfl) (cl_join e3 f3 e4 f4),
      op_load 2 rfl rfl rfl (by kernel_rfl) ty_Frac2 rfl (.here 6 rfl),
      op_callB1 (fun _ _ => by kernel_rfl) (.tmp 6 rfl rfl) (.here 7 rfl) (cl_join e5 f5 e6 f6),
      op_alloc 7 rfl rfl (by kernel_rfl) (by kernel_rfl) rfl rfl zv_Pair rfl rfl (by simp [NoU]) (fun w => pS_of (cells_pair0 w)),
      op_alloc 8 rfl rfl (by kernel_rfl) (by kernel_rfl) rfl rfl zv_Pair rfl rfl (by simp [NoU]) (fun w => pS_of (cells_pair0 w)),
      op_alloc 9 rfl rfl (by kernel_rfl) (by kernel_rfl) rfl rfl zv_Pair rfl rfl (by simp [NoU]) (fun w => pS_of (cells_pair0 w)),
      op_store 7 rfl rfl rfl 0 rfl (by kernel_rfl) (by kernel_rfl) ty_Pair (.tmp 3 rfl rfl) (fits_pair _ _),
      op_store 8 rfl rfl rfl 0 rfl (by kernel_rfl) (by kernel_rfl) ty_Pair (.tmp 5 rfl rfl) (fits_pair _ _),
      op_store 9 rfl rfl rfl 0 rfl (by kernel_rfl) (by kernel_rfl) ty_Pair (.tmp 7 rfl rfl) (fits_pair _ _),
      trivial⟩
  refine wp_seq ?_
  refine seq_drawn (V1 := [⟨3, none, 39, 4, true, pS [⟨true, 2, pFrac n1 d1⟩, ⟨true, 2, pFrac n2 d2⟩], []⟩, ⟨4, none, 39, 4, true, pS [⟨true, 2, pFrac n3 d3⟩, ⟨true, 2, pFrac n4 d4⟩], []⟩, ⟨5, none, 39, 4, true, pS [⟨true, 2, pFrac n5 d5⟩, ⟨true, 2, pFrac n6 d6⟩], []⟩, ⟨7, none, 27, 3, true, pRat a1, []⟩, ⟨8, none, 27, 3, true, pRat b1, []⟩, ⟨9, none, 27, 3, true, pRat c1, []⟩, ⟨10, none, 27, 3, true, pRat ((a1 * b1) / b1), []⟩, ⟨12, none, 43, 6, true, pPair a1 a2, []⟩, ⟨13, none, 43, 6, true, pPair b1 b2, []⟩, ⟨14, none, 43, 6, true, pPair c1 c2, []⟩]) (A1 := []) (G1 := [⟨none, none, 6, pB false⟩, ⟨some 0, none, 143, pPair a1 a2⟩, ⟨some 1, none, 144, pPair b1 b2⟩, ⟨some 2, none, 145, pPair (a1 + b1) (a2 + b2)⟩, ⟨some 3, none, 146, pPair b1 b2⟩, ⟨some 4, none, 147, pPair a1 a2⟩, ⟨some 5, none, 148, pPair (b1 + a1) (b2 + a2)⟩, ⟨some 6, none, 149, pB true⟩, ⟨some 7, none, 150, pB false⟩, ⟨some 8, none, 151, pB false⟩, ⟨some 9, none, 152, pPair a1 a2⟩, ⟨some 10, none, 153, pPair b1 b2⟩, ⟨some 11, none, 154, pPair ((a1 * b1) - (a2 * b2)) ((a1 * b2) + (a2 * b1))⟩, ⟨some 12, none, 155, pPair b1 b2⟩, ⟨some 13, none, 156, pPair a1 a2⟩, ⟨some 14, none, 157, pPair ((b1 * a1) - (b2 * a2)) ((b1 * a2) + (b2 * a1))⟩, ⟨some 15, none, 158, pB true⟩, ⟨some 16, none, 159, pB false⟩, ⟨some 17, none, 160, pB false⟩, ⟨some 18, none, 161, pB false⟩, ⟨some 19, none, 162, pPair a1 a2⟩, ⟨some 20, none, 163, pPair b1 b2⟩, ⟨some 21, none, 164, pPair ((a1 * b1) - (a2 * b2)) ((a1 * b2) + (a2 * b1))⟩, ⟨some 22, none, 165, pPair c1 c2⟩, ⟨some 23, none, 166, pPair ((((a1 * b1) - (a2 * b2)) * c1) - (((a1 * b2) + (a2 * b1)) * c2)) ((((a1 * b1) - (a2 * b2)) * c2) + (((a1 * b2) + (a2 * b1)) * c1))⟩, ⟨some 24, none, 167, pPair a1 a2⟩, ⟨some 25, none, 168, pPair b1 b2⟩, ⟨some 26, none, 169, pPair c1 c2⟩, ⟨some 27, none, 170, pPair ((b1 * c1) - (b2 * c2)) ((b1 * c2) + (b2 * c1))⟩, ⟨some 28, none, 171, pPair ((a1 * ((b1 * c1) - (b2 * c2))) - (a2 * ((b1 * c2) + (b2 * c1)))) ((a1 * ((b1 * c2) + (b2 * c1))) + (a2 * ((b1 * c1) - (b2 * c2))))⟩, ⟨some 29, none, 172, pB true⟩, ⟨some 30, none, 173, pB false⟩, ⟨some 31, none, 174, pB false⟩, ⟨some 32, none, 175, pB false⟩, ⟨some 33, none, 176, pPair a1 a2⟩, ⟨some 34, none, 177, pPair b1 b2⟩, ⟨some 35, none, 178, pPair (a1 + b1) (a2 + b2)⟩, ⟨some 36, none, 179, pPair c1 c2⟩, ⟨some 37, none, 180, pPair (((a1 + b1) * c1) - ((a2 + b2) * c2)) (((a1 + b1) * c2) + ((a2 + b2) * c1))⟩, ⟨some 38, none, 181, pPair a1 a2⟩, ⟨some 39, none, 182, pPair c1 c2⟩, ⟨some 40, none, 183, pPair ((a1 * c1) - (a2 * c2)) ((a1 * c2) + (a2 * c1))⟩, ⟨some 41, none, 184, pPair b1 b2⟩, ⟨some 42, none, 185, pPair c1 c2⟩, ⟨some 43, none, 186, pPair ((b1 * c1) - (b2 * c2)) ((b1 * c2) + (b2 * c1))⟩, ⟨some 44, none, 187, pPair (((a1 * c1) - (a2 * c2)) + ((b1 * c1) - (b2 * c2))) (((a1 * c2) + (a2 * c1)) + ((b1 * c2) + (b2 * c1)))⟩, ⟨some 45, none, 188, pB true⟩, ⟨some 46, none, 189, pB false⟩, ⟨some 47, none, 190, pB false⟩, ⟨some 48, none, 191, pB false⟩, ⟨some 49, none, 192, pPair a1 a2⟩, ⟨some 50, none, 193, pPair b1 b2⟩, ⟨some 51, none, 194, pPair (a1 - b1) (a2 - b2)⟩, ⟨some 52, none, 195, pPair b1 b2⟩, ⟨some 53, none, 196, pPair ((a1 - b1) + b1) ((a2 - b2) + b2)⟩, ⟨some 54, none, 197, pPair a1 a2⟩, ⟨some 55, none, 198, pB true⟩, ⟨some 56, none, 199, pB false⟩, ⟨some 57, none, 200, pB false⟩, ⟨some 58, none, 201, pB false⟩, ⟨some 59, none, 202, pPair a1 a2⟩, ⟨some 60, none, 203, pPair b1 b2⟩, ⟨some 61, none, 204, pPair ((a1 * b1) - (a2 * b2)) ((a1 * b2) + (a2 * b1))⟩, ⟨some 62, none, 205, pRat ((((a1 * b1) - (a2 * b2)) * ((a1 * b1) - (a2 * b2))) + (((a1 * b2) + (a2 * b1)) * ((a1 * b2) + (a2 * b1))))⟩, ⟨some 63, none, 206, pPair a1 a2⟩, ⟨some 64, none, 207, pRat ((a1 * a1) + (a2 * a2))⟩, ⟨some 65, none, 208, pPair b1 b2⟩, ⟨some 66, none, 209, pRat ((b1 * b1) + (b2 * b2))⟩, ⟨some 67, none, 210, pRat (((a1 * a1) + (a2 * a2)) * ((b1 * b1) + (b2 * b2)))⟩, ⟨some 68, none, 211, pB true⟩, ⟨some 69, none, 212, pB false⟩, ⟨some 70, none, 213, pB false⟩, ⟨some 71, none, 214, pB false⟩, ⟨some 72, none, 215, pPair a1 a2⟩, ⟨some 73, none, 216, pPair a1 a2⟩, ⟨some 74, none, 217, pPair a1 (-a2)⟩, ⟨some 75, none, 218, pPair ((a1 * a1) - (a2 * (-a2))) ((a1 * (-a2)) + (a2 * a1))⟩, ⟨some 76, none, 219, pPair a1 a2⟩, ⟨some 77, none, 220, pRat ((a1 * a1) + (a2 * a2))⟩, ⟨some 78, none, 221, pRat ((0 : Int) : Rat)⟩, ⟨some 79, none, 222, pPair ((a1 * a1) + (a2 * a2)) ((0 : Int) : Rat)⟩, ⟨some 80, none, 223, pB true⟩, ⟨some 81, none, 224, pB false⟩, ⟨some 82, none, 225, pB false⟩]) (V2 := [⟨3, none, 39, 4, true, pS [⟨true, 2, pFrac n1 d1⟩, ⟨true, 2, pFrac n2 d2⟩], []⟩, ⟨4, none, 39, 4, true, pS [⟨true, 2, pFrac n3 d3⟩, ⟨true, 2, pFrac n4 d4⟩], []⟩, ⟨5, none, 39, 4, true, pS [⟨true, 2, pFrac n5 d5⟩, ⟨true, 2, pFrac n6 d6⟩], []⟩, ⟨7, none, 27, 3, true, pRat a1, []⟩, ⟨8, none, 27, 3, true, pRat b1, []⟩, ⟨9, none, 27, 3, true, pRat c1, []⟩, ⟨10, none, 27, 3, true, pRat ((a1 * b1) / b1), []⟩, ⟨12, none, 43, 6, true, pPair a1 a2, []⟩, ⟨13, none, 43, 6, true, pPair b1 b2, []⟩, ⟨14, none, 43, 6, true, pPair c1 c2, []⟩]) (A2 := []) (G2 := [⟨none, none, 6, pB false⟩, ⟨none, none, 225, pB false⟩]) hI rfl rfl rfl [0, 0, 3, 0, 0, 31, 63, 127, 255, 511, 511, 2047, 511, 511, 16383, 32767, 65535, 131071, 262143, 524287, 524287, 2097151, 524287, 8388607, 524287, 524287, 524287, 117440511, 268435455, 536870911, 1073741823, 2147483647, 4294967295, 8589934591, 8589934591, 34359738367, 8589934591, 137438953471, 8589934591, 8589934591, 1099511627775, 8589934591, 8589934591, 8796093022207, 17592186044415, 35184372088831, 70368744177663, 140737488355327, 281474976710655, 562949953421311, 562949953421311, 2251799813685247, 562949953421311, 9007199254740991, 562949953421311, 36028797018963967, 72057594037927935, 144115188075855871, 288230376151711743, 576460752303423487, 576460752303423487, 2305843009213693951, 4611686018427387903, 576460752303423487, 18446744073709551615, 576460752303423487, 73786976294838206463, 147573952589676412927, 295147905179352825855, 590295810358705651711, 1180591620717411303423, 2361183241434822606847, 4722366482869645213695, 4722366482869645213695, 14167099448608935641087, 37778931862957161709567, 4722366482869645213695, 151115727451828646838271, 302231454903657293676543, 604462909807314587353087, 1208925819614629174706175, 2417851639229258349412351, 4835703278458516698824703] (by kernel_rfl) (by kernel_rfl) (by kernel_rfl) (by kernel_rfl) ?_ [0, 1, 2, 3, 4, 5, 6, 7, 8, 9] [] [0, 83] rfl rfl rfl fun a w hI => ?_
  · exact ⟨op_load 7 rfl rfl rfl (by kernel_rfl) ty_Pair rfl (.here 1 rfl),
      op_load 8 rfl rfl rfl (by kernel_rfl) ty_Pair rfl (.here 2 rfl),
      op_callB2 (fun _ _ => by kernel_rfl) (.tmp 1 rfl rfl) (.tmp 2 rfl rfl) (.here 3 rfl) (cp_add (j := 64) (k := 64) ⟨B27, B28⟩ ⟨B29, B30⟩ (by omega)),
      op_load 8 rfl rfl rfl (by kernel_rfl) ty_Pair rfl (.here 4 rfl),
      op_load 7 rfl rfl rfl (by kernel_rfl) ty_Pair rfl (.here 5 rfl),
      op_callB2 (fun _ _ => by kernel_rfl) (.tmp 4 rfl rfl) (.tmp 5 rfl rfl) (.here 6 rfl) (cp_add (j := 64) (k := 64) ⟨B29, B30⟩ ⟨B27, B28⟩ (by omega)),
      op_callB2 (fun _ _ => by kernel_rfl) (.tmp 3 rfl rfl) (.tmp 6 rfl rfl) (.here 7 rfl) (cb_known2 (b := true) (cp_same (a1 + b1) (a2 + b2) (b1 + a1) (b2 + a2)) (decide2 (⟨Rat.add_comm _ _, Rat.add_comm _ _⟩))),
      op_not (.tmp 7 rfl rfl) (.here 8 rfl),
      op_move (.tmp 8 rfl rfl) (.here 9 rfl),
      op_yes 9 rfl rfl (op_load 7 rfl rfl rfl (by kernel_rfl) ty_Pair rfl (.here 10 rfl)),
      op_yes 9 rfl rfl (op_load 8 rfl rfl rfl (by kernel_rfl) ty_Pair rfl (.here 11 rfl)),
      op_yes 9 rfl rfl (op_callB2 (fun _ _ => by kernel_rfl) (.tmp 10 rfl rfl) (.tmp 11 rfl rfl) (.here 12 rfl) (cp_mul (j := 64) (k := 64) ⟨B27, B28⟩ ⟨B29, B30⟩ (by omega))),
      op_yes 9 rfl rfl (op_load 8 rfl rfl rfl (by kernel_rfl) ty_Pair rfl (.here 13 rfl)),
      op_yes 9 rfl rfl (op_load 7 rfl rfl rfl (by kernel_rfl) ty_Pair rfl (.here 14 rfl)),
      op_yes 9 rfl rfl (op_callB2 (fun _ _ => by kernel_rfl) (.tmp 13 rfl rfl) (.tmp 14 rfl rfl) (.here 15 rfl) (cp_mul (j := 64) (k := 64) ⟨B29, B30⟩ ⟨B27, B28⟩ (by omega))),
      op_yes 9 rfl rfl (op_callB2 (fun _ _ => by kernel_rfl) (.tmp 12 rfl rfl) (.tmp 15 rfl rfl) (.here 16 rfl) (cb_known2 (b := true) (cp_same ((a1 * b1) - (a2 * b2)) ((a1 * b2) + (a2 * b1)) ((b1 * a1) - (b2 * a2)) ((b1 * a2) + (b2 * a1))) (decide2 (fp_mcomm _ _ _ _)))),
      op_yes 9 rfl rfl (op_not (.tmp 16 rfl rfl) (.here 17 rfl)),
      op_pick (b := false) (.tmp 9 rfl rfl) (fun h => by cases h) (fun _ => (.tmp 17 rfl rfl)) (.here 18 rfl),
      op_move (.tmp 18 rfl rfl) (.here 19 rfl),
      op_yes 19 rfl rfl (op_load 7 rfl rfl rfl (by kernel_rfl) ty_Pair rfl (.here 20 rfl)),
      op_yes 19 rfl rfl (op_load 8 rfl rfl rfl (by kernel_rfl) ty_Pair rfl (.here 21 rfl)),
      op_yes 19 rfl rfl (op_callB2 (fun _ _ => by kernel_rfl) (.tmp 20 rfl rfl) (.tmp 21 rfl rfl) (.here 22 rfl) (cp_mul (j := 64) (k := 64) ⟨B27, B28⟩ ⟨B29, B30⟩ (by omega))),
      op_yes 19 rfl rfl (op_load 9 rfl rfl rfl (by kernel_rfl) ty_Pair rfl (.here 23 rfl)),
      op_yes 19 rfl rfl (op_callB2 (fun _ _ => by kernel_rfl) (.tmp 22 rfl rfl) (.tmp 23 rfl rfl) (.here 24 rfl) (cp_mul (j := 513) (k := 64) ⟨B51, B54⟩ ⟨B31, B32⟩ (by omega))),
      op_yes 19 rfl rfl (op_load 7 rfl rfl rfl (by kernel_rfl) ty_Pair rfl (.here 25 rfl)),
      op_yes 19 rfl rfl (op_load 8 rfl rfl rfl (by kernel_rfl) ty_Pair rfl (.here 26 rfl)),
      op_yes 19 rfl rfl (op_load 9 rfl rfl rfl (by kernel_rfl) ty_Pair rfl (.here 27 rfl)),
      op_yes 19 rfl rfl (op_callB2 (fun _ _ => by kernel_rfl) (.tmp 26 rfl rfl) (.tmp 27 rfl rfl) (.here 28 rfl) (cp_mul (j := 64) (k := 64) ⟨B29, B30⟩ ⟨B31, B32⟩ (by omega))),
      op_yes 19 rfl rfl (op_callB2 (fun _ _ => by kernel_rfl) (.tmp 25 rfl rfl) (.tmp 28 rfl rfl) (.here 29 rfl) (cp_mul (j := 64) (k := 513) ⟨B27, B28⟩ ⟨B63, B66⟩ (by omega))),
      op_yes 19 rfl rfl (op_callB2 (fun _ _ => by kernel_rfl) (.tmp 24 rfl rfl) (.tmp 29 rfl rfl) (.here 30 rfl) (cb_known2 (b := true) (cp_same ((((a1 * b1) - (a2 * b2)) * c1) - (((a1 * b2) + (a2 * b1)) * c2)) ((((a1 * b1) - (a2 * b2)) * c2) + (((a1 * b2) + (a2 * b1)) * c1)) ((a1 * ((b1 * c1) - (b2 * c2))) - (a2 * ((b1 * c2) + (b2 * c1)))) ((a1 * ((b1 * c2) + (b2 * c1))) + (a2 * ((b1 * c1) - (b2 * c2))))) (decide2 (fp_massoc _ _ _ _ _ _)))),
      op_yes 19 rfl rfl (op_not (.tmp 30 rfl rfl) (.here 31 rfl)),
      op_pick (b := false) (.tmp 19 rfl rfl) (fun h => by cases h) (fun _ => (.tmp 31 rfl rfl)) (.here 32 rfl),
      op_move (.tmp 32 rfl rfl) (.here 33 rfl),
      op_yes 33 rfl rfl (op_load 7 rfl rfl rfl (by kernel_rfl) ty_Pair rfl (.here 34 rfl)),
      op_yes 33 rfl rfl (op_load 8 rfl rfl rfl (by kernel_rfl) ty_Pair rfl (.here 35 rfl)),
      op_yes 33 rfl rfl (op_callB2 (fun _ _ => by kernel_rfl) (.tmp 34 rfl rfl) (.tmp 35 rfl rfl) (.here 36 rfl) (cp_add (j := 64) (k := 64) ⟨B27, B28⟩ ⟨B29, B30⟩ (by omega))),
      op_yes 33 rfl rfl (op_load 9 rfl rfl rfl (by kernel_rfl) ty_Pair rfl (.here 37 rfl)),
      op_yes 33 rfl rfl (op_callB2 (fun _ _ => by kernel_rfl) (.tmp 36 rfl rfl) (.tmp 37 rfl rfl) (.here 38 rfl) (cp_mul (j := 257) (k := 64) ⟨B73, B74⟩ ⟨B31, B32⟩ (by omega))),
      op_yes 33 rfl rfl (op_load 7 rfl rfl rfl (by kernel_rfl) ty_Pair rfl (.here 39 rfl)),
      op_yes 33 rfl rfl (op_load 9 rfl rfl rfl (by kernel_rfl) ty_Pair rfl (.here 40 rfl)),
      op_yes 33 rfl rfl (op_callB2 (fun _ _ => by kernel_rfl) (.tmp 39 rfl rfl) (.tmp 40 rfl rfl) (.here 41 rfl) (cp_mul (j := 64) (k := 64) ⟨B27, B28⟩ ⟨B31, B32⟩ (by omega))),
      op_yes 33 rfl rfl (op_load 8 rfl rfl rfl (by kernel_rfl) ty_Pair rfl (.here 42 rfl)),
      op_yes 33 rfl rfl (op_load 9 rfl rfl rfl (by kernel_rfl) ty_Pair rfl (.here 43 rfl)),
      op_yes 33 rfl rfl (op_callB2 (fun _ _ => by kernel_rfl) (.tmp 42 rfl rfl) (.tmp 43 rfl rfl) (.here 44 rfl) (cp_mul (j := 64) (k := 64) ⟨B29, B30⟩ ⟨B31, B32⟩ (by omega))),
      op_yes 33 rfl rfl (op_callB2 (fun _ _ => by kernel_rfl) (.tmp 41 rfl rfl) (.tmp 44 rfl rfl) (.here 45 rfl) (cp_add (j := 513) (k := 513) ⟨B83, B86⟩ ⟨B89, B92⟩ (by omega))),
      op_yes 33 rfl rfl (op_callB2 (fun _ _ => by kernel_rfl) (.tmp 38 rfl rfl) (.tmp 45 rfl rfl) (.here 46 rfl) (cb_known2 (b := true) (cp_same (((a1 + b1) * c1) - ((a2 + b2) * c2)) (((a1 + b1) * c2) + ((a2 + b2) * c1)) (((a1 * c1) - (a2 * c2)) + ((b1 * c1) - (b2 * c2))) (((a1 * c2) + (a2 * c1)) + ((b1 * c2) + (b2 * c1)))) (decide2 (fp_dist _ _ _ _ _ _)))),
      op_yes 33 rfl rfl (op_not (.tmp 46 rfl rfl) (.here 47 rfl)),
      op_pick (b := false) (.tmp 33 rfl rfl) (fun h => by cases h) (fun _ => (.tmp 47 rfl rfl)) (.here 48 rfl),
      op_move (.tmp 48 rfl rfl) (.here 49 rfl),
      op_yes 49 rfl rfl (op_load 7 rfl rfl rfl (by kernel_rfl) ty_Pair rfl (.here 50 rfl)),
      op_yes 49 rfl rfl (op_load 8 rfl rfl rfl (by kernel_rfl) ty_Pair rfl (.here 51 rfl)),
      op_yes 49 rfl rfl (op_callB2 (fun _ _ => by kernel_rfl) (.tmp 50 rfl rfl) (.tmp 51 rfl rfl) (.here 52 rfl) (cp_sub (j := 64) (k := 64) ⟨B27, B28⟩ ⟨B29, B30⟩ (by omega))),
      op_yes 49 rfl rfl (op_load 8 rfl rfl rfl (by kernel_rfl) ty_Pair rfl (.here 53 rfl)),
      op_yes 49 rfl rfl (op_callB2 (fun _ _ => by kernel_rfl) (.tmp 52 rfl rfl) (.tmp 53 rfl rfl) (.here 54 rfl) (cp_add (j := 257) (k := 64) ⟨B95, B96⟩ ⟨B29, B30⟩ (by omega))),
      op_yes 49 rfl rfl (op_load 7 rfl rfl rfl (by kernel_rfl) ty_Pair rfl (.here 55 rfl)),
      op_yes 49 rfl rfl (op_callB2 (fun _ _ => by kernel_rfl) (.tmp 54 rfl rfl) (.tmp 55 rfl rfl) (.here 56 rfl) (cb_known2 (b := true) (cp_same ((a1 - b1) + b1) ((a2 - b2) + b2) a1 a2) (decide2 (⟨fl_sub _ _, fl_sub _ _⟩)))),
      op_yes 49 rfl rfl (op_not (.tmp 56 rfl rfl) (.here 57 rfl)),
      op_pick (b := false) (.tmp 49 rfl rfl) (fun h => by cases h) (fun _ => (.tmp 57 rfl rfl)) (.here 58 rfl),
      op_move (.tmp 58 rfl rfl) (.here 59 rfl),
      op_yes 59 rfl rfl (op_load 7 rfl rfl rfl (by kernel_rfl) ty_Pair rfl (.here 60 rfl)),
      op_yes 59 rfl rfl (op_load 8 rfl rfl rfl (by kernel_rfl) ty_Pair rfl (.here 61 rfl)),
      op_yes 59 rfl rfl (op_callB2 (fun _ _ => by kernel_rfl) (.tmp 60 rfl rfl) (.tmp 61 rfl rfl) (.here 62 rfl) (cp_mul (j := 64) (k := 64) ⟨B27, B28⟩ ⟨B29, B30⟩ (by omega))),
      op_yes 59 rfl rfl (op_callB1 (fun _ _ => by kernel_rfl) (.tmp 62 rfl rfl) (.here 63 rfl) (cp_norm (j := 513) ⟨B101, B104⟩ (by omega))),
      op_yes 59 rfl rfl (op_load 7 rfl rfl rfl (by kernel_rfl) ty_Pair rfl (.here 64 rfl)),
      op_yes 59 rfl rfl (op_callB1 (fun _ _ => by kernel_rfl) (.tmp 64 rfl rfl) (.here 65 rfl) (cp_norm (j := 64) ⟨B27, B28⟩ (by omega))),
      op_yes 59 rfl rfl (op_load 8 rfl rfl rfl (by kernel_rfl) ty_Pair rfl (.here 66 rfl)),
      op_yes 59 rfl rfl (op_callB1 (fun _ _ => by kernel_rfl) (.tmp 66 rfl rfl) (.here 67 rfl) (cp_norm (j := 64) ⟨B29, B30⟩ (by omega))),
      op_yes 59 rfl rfl (op_call2 (fun _ _ => by kernel_rfl) (numlike_rat _) (.tmp 65 rfl rfl) (.tmp 67 rfl rfl) (.here 68 rfl) (c_mul B110 B113 (by omega))),
      op_yes 59 rfl rfl (op_call2 (fun _ _ => by kernel_rfl) (numlike_eq _) (.tmp 63 rfl rfl) (.tmp 68 rfl rfl) (.here 69 rfl) (c_known (b := true) (c_same ((((a1 * b1) - (a2 * b2)) * ((a1 * b1) - (a2 * b2))) + (((a1 * b2) + (a2 * b1)) * ((a1 * b2) + (a2 * b1)))) (((a1 * a1) + (a2 * a2)) * ((b1 * b1) + (b2 * b2)))) (decide_eq_true (fp_norm _ _ _ _)))),
      op_yes 59 rfl rfl (op_not (.tmp 69 rfl rfl) (.here 70 rfl)),
      op_pick (b := false) (.tmp 59 rfl rfl) (fun h => by cases h) (fun _ => (.tmp 70 rfl rfl)) (.here 71 rfl),
      op_move (.tmp 71 rfl rfl) (.here 72 rfl),
      op_yes 72 rfl rfl (op_load 7 rfl rfl rfl (by kernel_rfl) ty_Pair rfl (.here 73 rfl)),
      op_yes 72 rfl rfl (op_load 7 rfl rfl rfl (by kernel_rfl) ty_Pair rfl (.here 74 rfl)),
      op_yes 72 rfl rfl (op_callB1 (fun _ _ => by kernel_rfl) (.tmp 74 rfl rfl) (.here 75 rfl) (cp_conj _ _)),
      op_yes 72 rfl rfl (op_callB2 (fun _ _ => by kernel_rfl) (.tmp 73 rfl rfl) (.tmp 75 rfl rfl) (.here 76 rfl) (cp_mul (j := 64) (k := 64) ⟨B27, B28⟩ ⟨B27, B115⟩ (by omega))),
      op_yes 72 rfl rfl (op_load 7 rfl rfl rfl (by kernel_rfl) ty_Pair rfl (.here 77 rfl)),
      op_yes 72 rfl rfl (op_callB1 (fun _ _ => by kernel_rfl) (.tmp 77 rfl rfl) (.here 78 rfl) (cp_norm (j := 64) ⟨B27, B28⟩ (by omega))),
      op_yes 72 rfl rfl (op_call1 (fun _ _ => by kernel_rfl) (numlike_rat _) (.const _) (.here 79 rfl) (c_int 0 (by omega) (by omega))),
      op_yes 72 rfl rfl (op_callB2 (fun _ _ => by kernel_rfl) (.tmp 78 rfl rfl) (.tmp 79 rfl rfl) (.here 80 rfl) (cp_join _ _)),
      op_yes 72 rfl rfl (op_callB2 (fun _ _ => by kernel_rfl) (.tmp 76 rfl rfl) (.tmp 80 rfl rfl) (.here 81 rfl) (cb_known2 (b := true) (cp_same ((a1 * a1) - (a2 * (-a2))) ((a1 * (-a2)) + (a2 * a1)) ((a1 * a1) + (a2 * a2)) ((0 : Int) : Rat)) (decide2 (fp_conj _ _)))),
      op_yes 72 rfl rfl (op_not (.tmp 81 rfl rfl) (.here 82 rfl)),
      op_pick (b := false) (.tmp 72 rfl rfl) (fun h => by cases h) (fun _ => (.tmp 82 rfl rfl)) (.here 83 rfl),
      trivial⟩
  refine cond_no hI 1 rfl ?_
  refine wp_skip ?_
  refine then_of ?_
  refine seq_drawn (V1 := [⟨3, none, 39, 4, true, pS [⟨true, 2, pFrac n1 d1⟩, ⟨true, 2, pFrac n2 d2⟩], []⟩, ⟨4, none, 39, 4, true, pS [⟨true, 2, pFrac n3 d3⟩, ⟨true, 2, pFrac n4 d4⟩], []⟩, ⟨5, none, 39, 4, true, pS [⟨true, 2, pFrac n5 d5⟩, ⟨true, 2, pFrac n6 d6⟩], []⟩, ⟨7, none, 27, 3, true, pRat a1, []⟩, ⟨8, none, 27, 3, true, pRat b1, []⟩, ⟨9, none, 27, 3, true, pRat c1, []⟩, ⟨10, none, 27, 3, true, pRat ((a1 * b1) / b1), []⟩, ⟨12, none, 43, 6, true, pPair a1 a2, []⟩, ⟨13, none, 43, 6, true, pPair b1 b2, []⟩, ⟨14, none, 43, 6, true, pPair c1 c2, []⟩, ⟨15, some 8, 43, 6, true, pPair 0 0, [(9, pPair (((((a1 * b1) - (a2 * b2)) * b1) - (((a1 * b2) + (a2 * b1)) * (-b2))) / ((b1 * b1) + (b2 * b2))) (((((a1 * b1) - (a2 * b2)) * (-b2)) + (((a1 * b2) + (a2 * b1)) * b1)) / ((b1 * b1) + (b2 * b2))))]⟩]) (A1 := []) (G1 := [⟨none, none, 6, pB false⟩, ⟨none, none, 225, pB false⟩, ⟨some 0, none, 227, pPair a1 a2⟩, ⟨some 1, none, 228, pPair b1 b2⟩, ⟨some 2, none, 229, pPair ((a1 * b1) - (a2 * b2)) ((a1 * b2) + (a2 * b1))⟩, ⟨some 3, none, 230, pPair b1 b2⟩, ⟨some 4, none, 231, pTup2 (pPair (((((a1 * b1) - (a2 * b2)) * b1) - (((a1 * b2) + (a2 * b1)) * (-b2))) / ((b1 * b1) + (b2 * b2))) (((((a1 * b1) - (a2 * b2)) * (-b2)) + (((a1 * b2) + (a2 * b1)) * b1)) / ((b1 * b1) + (b2 * b2)))) (pI (if b1 = 0 ∧ b2 = 0 then 3 else 0))⟩, ⟨some 5, none, 226, pTup2 (pPair (((((a1 * b1) - (a2 * b2)) * b1) - (((a1 * b2) + (a2 * b1)) * (-b2))) / ((b1 * b1) + (b2 * b2))) (((((a1 * b1) - (a2 * b2)) * (-b2)) + (((a1 * b2) + (a2 * b1)) * b1)) / ((b1 * b1) + (b2 * b2)))) (pI (if b1 = 0 ∧ b2 = 0 then 3 else 0))⟩, ⟨some 6, none, 232, pPair (((((a1 * b1) - (a2 * b2)) * b1) - (((a1 * b2) + (a2 * b1)) * (-b2))) / ((b1 * b1) + (b2 * b2))) (((((a1 * b1) - (a2 * b2)) * (-b2)) + (((a1 * b2) + (a2 * b1)) * b1)) / ((b1 * b1) + (b2 * b2)))⟩, ⟨some 7, none, 233, pI (if b1 = 0 ∧ b2 = 0 then 3 else 0)⟩, ⟨some 10, none, 16, pI (if b1 = 0 ∧ b2 = 0 then 3 else 0)⟩]) (V2 := [⟨3, none, 39, 4, true, pS [⟨true, 2, pFrac n1 d1⟩, ⟨true, 2, pFrac n2 d2⟩], []⟩, ⟨4, none, 39, 4, true, pS [⟨true, 2, pFrac n3 d3⟩, ⟨true, 2, pFrac n4 d4⟩], []⟩, ⟨5, none, 39, 4, true, pS [⟨true, 2, pFrac n5 d5⟩, ⟨true, 2, pFrac n6 d6⟩], []⟩, ⟨7, none, 27, 3, true, pRat a1, []⟩, ⟨8, none, 27, 3, true, pRat b1, []⟩, ⟨9, none, 27, 3, true, pRat c1, []⟩, ⟨10, none, 27, 3, true, pRat ((a1 * b1) / b1), []⟩, ⟨12, none, 43, 6, true, pPair a1 a2, []⟩, ⟨13, none, 43, 6, true, pPair b1 b2, []⟩, ⟨14, none, 43, 6, true, pPair c1 c2, []⟩, ⟨15, none, 43, 6, true, pPair (((((a1 * b1) - (a2 * b2)) * b1) - (((a1 * b2) + (a2 * b1)) * (-b2))) / ((b1 * b1) + (b2 * b2))) (((((a1 * b1) - (a2 * b2)) * (-b2)) + (((a1 * b2) + (a2 * b1)) * b1)) / ((b1 * b1) + (b2 * b2))), []⟩]) (A2 := []) (G2 := [⟨none, none, 6, pB false⟩, ⟨none, none, 16, pI (if b1 = 0 ∧ b2 = 0 then 3 else 0)⟩]) hI rfl rfl rfl [0, 0, 3, 0, 15, 31, 63, 63, 0, 383, 1023] (by kernel_rfl) (by kernel_rfl) (by kernel_rfl) (by kernel_rfl) ?_ [0, 1, 2, 3, 4, 5, 6, 7, 8, 9, 10] [] [0, 10] rfl rfl rfl fun a w hI => ?_
  · exact ⟨op_load 7 rfl rfl rfl (by kernel_rfl) ty_Pair rfl (.here 2 rfl),
      op_load 8 rfl rfl rfl (by kernel_rfl) ty_Pair rfl (.here 3 rfl),
      op_callB2 (fun _ _ => by kernel_rfl) (.tmp 2 rfl rfl) (.tmp 3 rfl rfl) (.here 4 rfl) (cp_mul (j := 64) (k := 64) ⟨B27, B28⟩ ⟨B29, B30⟩ (by omega)),
      op_load 8 rfl rfl rfl (by kernel_rfl) ty_Pair rfl (.here 5 rfl),
      op_callB2 (fun _ _ => by kernel_rfl) (.tmp 4 rfl rfl) (.tmp 5 rfl rfl) (.here 6 rfl) (cp_div (j := 513) (k := 64) ⟨B128, B131⟩ ⟨B29, B30⟩ (by omega)),
      op_move (.tmp 6 rfl rfl) (.here 7 rfl),
      op_extract (.tmp 7 rfl rfl) ex2_0 (.here 8 rfl),
      op_extract (.tmp 7 rfl rfl) ex2_1 (.here 9 rfl),
      op_alloc 10 rfl rfl (by kernel_rfl) (by kernel_rfl) rfl rfl zv_Pair rfl rfl (by simp [NoU]) (fun w => pS_of (cells_pair0 w)),
      op_store 10 rfl rfl rfl 0 rfl (by kernel_rfl) (by kernel_rfl) ty_Pair (.tmp 8 rfl rfl) (fits_pair _ _),
      op_assign (.tmp 9 rfl rfl) (.here 10 rfl),
      trivial⟩
  refine seq_text (V1 := [⟨3, none, 39, 4, true, pS [⟨true, 2, pFrac n1 d1⟩, ⟨true, 2, pFrac n2 d2⟩], []⟩, ⟨4, none, 39, 4, true, pS [⟨true, 2, pFrac n3 d3⟩, ⟨true, 2, pFrac n4 d4⟩], []⟩, ⟨5, none, 39, 4, true, pS [⟨true, 2, pFrac n5 d5⟩, ⟨true, 2, pFrac n6 d6⟩], []⟩, ⟨7, none, 27, 3, true, pRat a1, []⟩, ⟨8, none, 27, 3, true, pRat b1, []⟩, ⟨9, none, 27, 3, true, pRat c1, []⟩, ⟨10, none, 27, 3, true, pRat ((a1 * b1) / b1), []⟩, ⟨12, none, 43, 6, true, pPair a1 a2, []⟩, ⟨13, none, 43, 6, true, pPair b1 b2, []⟩, ⟨14, none, 43, 6, true, pPair c1 c2, []⟩, ⟨15, none, 43, 6, true, pPair (((((a1 * b1) - (a2 * b2)) * b1) - (((a1 * b2) + (a2 * b1)) * (-b2))) / ((b1 * b1) + (b2 * b2))) (((((a1 * b1) - (a2 * b2)) * (-b2)) + (((a1 * b2) + (a2 * b1)) * b1)) / ((b1 * b1) + (b2 * b2))), []⟩]) (A1 := []) (G1 := [⟨none, some 25, 6, pB false⟩, ⟨none, none, 16, pI (if b1 = 0 ∧ b2 = 0 then 3 else 0)⟩, ⟨some 0, none, 234, pPair b1 b2⟩, ⟨some 1, none, 235, pB (decide (b1 = 0) && decide (b2 = 0))⟩, ⟨some 2, none, 236, pI (if b1 = 0 ∧ b2 = 0 then 3 else 0)⟩, ⟨some 3, none, 237, pB ((if b1 = 0 ∧ b2 = 0 then 3 else 0) == (3 : Int))⟩, ⟨some 4, none, 238, pB true⟩, ⟨some 5, none, 239, pB true⟩, ⟨some 6, none, 240, pI (if b1 = 0 ∧ b2 = 0 then 3 else 0)⟩, ⟨some 7, none, 241, pB ((if b1 = 0 ∧ b2 = 0 then 3 else 0) == (0 : Int))⟩, ⟨some 8, none, 242, pB ((if b1 = 0 ∧ b2 = 0 then 3 else 0) == (0 : Int))⟩, ⟨some 9, none, 243, pSel (((if b1 = 0 ∧ b2 = 0 then 3 else 0) == (0 : Int)) = false) (pI (if b1 = 0 ∧ b2 = 0 then 3 else 0))⟩, ⟨some 10, none, 244, pSel (((if b1 = 0 ∧ b2 = 0 then 3 else 0) == (0 : Int)) = false) (pB ((if b1 = 0 ∧ b2 = 0 then 3 else 0) == (3 : Int)))⟩, ⟨some 11, none, 245, pB (((if b1 = 0 ∧ b2 = 0 then 3 else 0) == (0 : Int)) || ((if b1 = 0 ∧ b2 = 0 then 3 else 0) == (3 : Int)))⟩, ⟨some 12, none, 246, pB (((if b1 = 0 ∧ b2 = 0 then 3 else 0) == (0 : Int)) || ((if b1 = 0 ∧ b2 = 0 then 3 else 0) == (3 : Int)))⟩, ⟨some 13, none, 247, pB true⟩, ⟨some 14, none, 248, pI (if b1 = 0 ∧ b2 = 0 then 3 else 0)⟩, ⟨some 15, none, 249, pB ((if b1 = 0 ∧ b2 = 0 then 3 else 0) != (0 : Int))⟩, ⟨some 16, none, 250, pB ((if b1 = 0 ∧ b2 = 0 then 3 else 0) != (0 : Int))⟩, ⟨some 17, none, 251, pSel (((if b1 = 0 ∧ b2 = 0 then 3 else 0) != (0 : Int)) = false) (pPair (((((a1 * b1) - (a2 * b2)) * b1) - (((a1 * b2) + (a2 * b1)) * (-b2))) / ((b1 * b1) + (b2 * b2))) (((((a1 * b1) - (a2 * b2)) * (-b2)) + (((a1 * b2) + (a2 * b1)) * b1)) / ((b1 * b1) + (b2 * b2))))⟩, ⟨some 18, none, 252, pSel (((if b1 = 0 ∧ b2 = 0 then 3 else 0) != (0 : Int)) = false) (pPair a1 a2)⟩, ⟨some 19, none, 253, pSel (((if b1 = 0 ∧ b2 = 0 then 3 else 0) != (0 : Int)) = false) (pB (decide (((((a1 * b1) - (a2 * b2)) * b1) - (((a1 * b2) + (a2 * b1)) * (-b2))) / ((b1 * b1) + (b2 * b2)) = a1) && decide (((((a1 * b1) - (a2 * b2)) * (-b2)) + (((a1 * b2) + (a2 * b1)) * b1)) / ((b1 * b1) + (b2 * b2)) = a2)))⟩, ⟨some 20, none, 254, pB (((if b1 = 0 ∧ b2 = 0 then 3 else 0) != (0 : Int)) || (decide (((((a1 * b1) - (a2 * b2)) * b1) - (((a1 * b2) + (a2 * b1)) * (-b2))) / ((b1 * b1) + (b2 * b2)) = a1) && decide (((((a1 * b1) - (a2 * b2)) * (-b2)) + (((a1 * b2) + (a2 * b1)) * b1)) / ((b1 * b1) + (b2 * b2)) = a2)))⟩, ⟨some 21, none, 255, pB (((if b1 = 0 ∧ b2 = 0 then 3 else 0) != (0 : Int)) || (decide (((((a1 * b1) - (a2 * b2)) * b1) - (((a1 * b2) + (a2 * b1)) * (-b2))) / ((b1 * b1) + (b2 * b2)) = a1) && decide (((((a1 * b1) - (a2 * b2)) * (-b2)) + (((a1 * b2) + (a2 * b1)) * b1)) / ((b1 * b1) + (b2 * b2)) = a2)))⟩, ⟨some 22, none, 256, pB true⟩, ⟨some 23, none, 257, pB true⟩, ⟨some 24, none, 258, pB true⟩, ⟨some 25, none, 6, pB true⟩]) (V2 := [⟨3, none, 39, 4, true, pS [⟨true, 2, pFrac n1 d1⟩, ⟨true, 2, pFrac n2 d2⟩], []⟩, ⟨4, none, 39, 4, true, pS [⟨true, 2, pFrac n3 d3⟩, ⟨true, 2, pFrac n4 d4⟩], []⟩, ⟨5, none, 39, 4, true, pS [⟨true, 2, pFrac n5 d5⟩, ⟨true, 2, pFrac n6 d6⟩], []⟩, ⟨7, none, 27, 3, true, pRat a1, []⟩, ⟨8, none, 27, 3, true, pRat b1, []⟩, ⟨9, none, 27, 3, true, pRat c1, []⟩, ⟨10, none, 27, 3, true, pRat ((a1 * b1) / b1), []⟩, ⟨12, none, 43, 6, true, pPair a1 a2, []⟩, ⟨13, none, 43, 6, true, pPair b1 b2, []⟩, ⟨14, none, 43, 6, true, pPair c1 c2, []⟩, ⟨15, none, 43, 6, true, pPair (((((a1 * b1) - (a2 * b2)) * b1) - (((a1 * b2) + (a2 * b1)) * (-b2))) / ((b1 * b1) + (b2 * b2))) (((((a1 * b1) - (a2 * b2)) * (-b2)) + (((a1 * b2) + (a2 * b1)) * b1)) / ((b1 * b1) + (b2 * b2))), []⟩]) (A2 := []) (G2 := [⟨none, none, 6, pB true⟩]) hI rfl rfl rfl [0, 1, 3, 7, 15, 31, 63, 127, 255, 511, 1023, 2047, 4095, 8191, 16383, 32767, 65535, 131071, 262143, 524287, 1048575, 2097151, 4194303, 8388607, 16777215, 33554431] (by kernel_rfl) (by kernel_rfl) ?_ [0, 1, 2, 3, 4, 5, 6, 7, 8, 9, 10] [] [26] rfl rfl rfl fun a w hI => ?_
  · exact ⟨op_load 8 rfl rfl rfl (by kernel_rfl) ty_Pair rfl (.here 2 rfl),
      op_callB1 (fun _ _ => by kernel_rfl) (.tmp 2 rfl rfl) (.here 3 rfl) (cp_zero b1 b2),
      op_move (.tmp 1 rfl rfl) (.here 4 rfl),
      op_bin (v := .bool (((if b1 = 0 ∧ b2 = 0 then 3 else 0) == (3 : Int)))) (.tmp 4 rfl rfl) (.const _) (fun _ => rfl) (.here 5 rfl),
      op_bin_bool (v := .bool ((decide (b1 = 0) && decide (b2 = 0)) == ((if b1 = 0 ∧ b2 = 0 then 3 else 0) == (3 : Int)))) (.tmp 3 rfl rfl) (.tmp 5 rfl rfl) (fun _ => by kernel_rfl) (.at_ 6 _ _ rfl (pB_eq (ft_d _ _))),
      op_move (.tmp 6 rfl rfl) (.here 7 rfl),
      op_yes 7 rfl rfl (op_move (.tmp 1 rfl rfl) (.here 8 rfl)),
      op_yes 7 rfl rfl (op_bin (v := .bool (((if b1 = 0 ∧ b2 = 0 then 3 else 0) == (0 : Int)))) (.tmp 8 rfl rfl) (.const _) (fun _ => rfl) (.here 9 rfl)),
      op_yes 7 rfl rfl (op_move (.tmp 9 rfl rfl) (.here 10 rfl)),
      op_if 10 rfl rfl (fun hc => op_move (.tmp 1 rfl rfl) (.sel hc 11 rfl)) (by kernel_rfl) (fun _ => .none (by kernel_rfl)) (fun hc => .sel_no hc 11 rfl),
      op_if 10 rfl rfl (fun hc => op_bin (v := .bool (((if b1 = 0 ∧ b2 = 0 then 3 else 0) == (3 : Int)))) (.sel (.tmp 11 rfl rfl) hc) (.const _) (fun _ => rfl) (.sel hc 12 rfl)) (by kernel_rfl) (fun _ => .none (by kernel_rfl)) (fun hc => .sel_no hc 12 rfl),
      op_yes 7 rfl rfl (op_pick (.tmp 10 rfl rfl) (fun h => .imp (.const _) fun _ _ e => by rw [h]; exact e) (fun h => .imp (.sel (.tmp 12 rfl rfl) (h)) fun _ _ e => by rw [h]; exact e) (.here 13 rfl)),
      op_pick (b := true) (.tmp 7 rfl rfl) (fun _ => (.tmp 13 rfl rfl)) (fun h => by cases h) (.here 14 rfl),
      op_move (.tmp 14 rfl rfl) (.at_ 15 _ _ rfl (pB_eq (ft_e _ _))),
      op_yes 15 rfl rfl (op_move (.tmp 1 rfl rfl) (.here 16 rfl)),
      op_yes 15 rfl rfl (op_bin (v := .bool (((if b1 = 0 ∧ b2 = 0 then 3 else 0) != (0 : Int)))) (.tmp 16 rfl rfl) (.const _) (fun _ => rfl) (.here 17 rfl)),
      op_yes 15 rfl rfl (op_move (.tmp 17 rfl rfl) (.here 18 rfl)),
      op_if 18 rfl rfl (fun hc => op_load 10 rfl rfl rfl (by kernel_rfl) ty_Pair rfl (.sel hc 19 rfl)) (by kernel_rfl) (fun _ => .none (by kernel_rfl)) (fun hc => .sel_no hc 19 rfl),
      op_if 18 rfl rfl (fun hc => op_load 7 rfl rfl rfl (by kernel_rfl) ty_Pair rfl (.sel hc 20 rfl)) (by kernel_rfl) (fun _ => .none (by kernel_rfl)) (fun hc => .sel_no hc 20 rfl),
      op_if 18 rfl rfl (fun hc => op_callB2 (fun _ _ => by kernel_rfl) (.sel (.tmp 19 rfl rfl) hc) (.sel (.tmp 20 rfl rfl) hc) (.sel hc 21 rfl) (cp_same (((((a1 * b1) - (a2 * b2)) * b1) - (((a1 * b2) + (a2 * b1)) * (-b2))) / ((b1 * b1) + (b2 * b2))) (((((a1 * b1) - (a2 * b2)) * (-b2)) + (((a1 * b2) + (a2 * b1)) * b1)) / ((b1 * b1) + (b2 * b2))) a1 a2)) (by kernel_rfl) (fun _ => .none (by kernel_rfl)) (fun hc => .sel_no hc 21 rfl),
      op_yes 15 rfl rfl (op_pick (.tmp 18 rfl rfl) (fun h => .imp (.const _) fun _ _ e => by rw [h]; exact e) (fun h => .imp (.sel (.tmp 21 rfl rfl) (h)) fun _ _ e => by rw [h]; exact e) (.here 22 rfl)),
      op_pick (b := true) (.tmp 15 rfl rfl) (fun _ => (.tmp 22 rfl rfl)) (fun h => by cases h) (.here 23 rfl),
      op_move (.tmp 23 rfl rfl) (.at_ 24 _ _ rfl (pB_eq (ft_f _ _ _ _))),
      op_yes 24 rfl rfl (op_call0 (fun _ _ => by kernel_rfl) (numlike_eq _)  (.here 25 rfl) (c_awake)),
      op_pick (b := true) (.tmp 24 rfl rfl) (fun _ => (.tmp 25 rfl rfl)) (fun h => by cases h) (.here 26 rfl),
      op_assign (.tmp 26 rfl rfl) (.here 27 rfl),
      trivial⟩
  refine wp_ret ?_
  exact fin1 hI rfl (.tmp 0 rfl)
theorem field_law (W : World) (n1 d1 n2 d2 n3 d3 n4 d4 n5 d5 n6 d6 : Int) (h : FracOk n1 d1 ∧ FracOk n2 d2 ∧ FracOk n3 d3 ∧ FracOk n4 d4 ∧ FracOk n5 d5 ∧ FracOk n6 d6) : Calls Try.prog 4 #[.agg #[.int .i64 n1, .int .i64 d1, .int .i64 n2, .int .i64 d2], .agg #[.int .i64 n3, .int .i64 d3, .int .i64 n4, .int .i64 d4], .agg #[.int .i64 n5, .int .i64 d5, .int .i64 n6, .int .i64 d6]] W fun e w' => e = .returned (.bool true) ∧ Below W.heap.size W w' :=
  law_true (field_sem rfl h.1 rfl h.2.1 rfl h.2.2.1 rfl h.2.2.2.1 rfl h.2.2.2.2.1 rfl h.2.2.2.2.2 _ W _ _ _ (mid_none W) (fun w' _ => frac2_of n1 d1 n2 d2 w') (fun w' _ => frac2_of n3 d3 n4 d4 w') (fun w' _ => frac2_of n5 d5 n6 d6 w'))
end Wx
