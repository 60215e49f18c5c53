import Derived.Test.YtpbpkfcplkdjhaaGreatProg
import Derived.Handy
import Derived.Laws.IdiomStrings
import Derived.Test.YtpbpkfcplkdjhaaGreatJRanges0
import Derived.Test.YtpbpkfcplkdjhaaGreatJRanges1
import Derived.Test.YtpbpkfcplkdjhaaGreatJRanges29
import Derived.Test.YtpbpkfcplkdjhaaGreatJRanges39
import Derived.Test.YtpbpkfcplkdjhaaGreatJRanges34
import Derived.Test.YtpbpkfcplkdjhaaGreatCRat1
import Derived.Test.YtpbpkfcplkdjhaaGreatJRanges10
import Derived.Test.YtpbpkfcplkdjhaaGreatJRanges15
import Derived.Test.YtpbpkfcplkdjhaaGreatJRanges18
import Derived.Test.YtpbpkfcplkdjhaaGreatCText
import Derived.Test.YtpbpkfcplkdjhaaGreatJRanges20
import Derived.Deep.RegionHeld3
import Derived.Test.YtpbpkfcplkdjhaaGreatCRat3
import Derived.Test.YtpbpkfcplkdjhaaGreatJRanges14
import Derived.Test.YtpbpkfcplkdjhaaGreatInv
import Derived.Test.YtpbpkfcplkdjhaaGreatCNRat2
import Derived.Test.YtpbpkfcplkdjhaaGreatJRanges36
import Derived.Test.YtpbpkfcplkdjhaaGreatCNRDiv
import Derived.Test.YtpbpkfcplkdjhaaGreatCNAdd
import Derived.Test.YtpbpkfcplkdjhaaGreatCSem
import Derived.Test.YtpbpkfcplkdjhaaGreatCSemOps
import Derived.Test.YtpbpkfcplkdjhaaGreatCSemMem
import Derived.Test.YtpbpkfcplkdjhaaGreatCSemCode
import Derived.Test.YtpbpkfcplkdjhaaGreatJRanges27
namespace Wx
open Go Go.RowKit Go.Proofs

set_option maxRecDepth 100000 in
set_option maxHeartbeats 1000000 in
theorem ntext_00 (w : World) (v : Value) (x : Rat) (hx : IsRef w v x) {j : Nat} (hj : BdR j x) (hj1 : j ≤ 100000000) (hn : ¬ x.num < 0) (hd : ¬ x.den = 1) : Calls Tryz.prog 74 #[v] w (RetIs w (.string (strOf (textR x)))) := by
  obtain ⟨vx1, vx2, rfl, hxa, hxb⟩ := id hx
  obtain ⟨Ax1, cx1, rfl, _⟩ := id hxa
  obtain ⟨Ax2, cx2, rfl, _⟩ := id hxb
  have HB := bx hj
  have hx0 := hx
  clear hx
  have hT : textR x = textB x.num.natAbs ++ 47 :: textB x.den := by unfold textR; rw [if_neg hn, if_neg hd]; simp
  rw [hT]
  rw [decide_eq_false hn] at hx0
  try rw [decide_eq_false hn]
  have hc : cmpI x.den 1 = 1 := by unfold cmpI; have := x.den_pos; rw [if_neg (by omega), if_pos (by omega)]
  have HC := bx hc
  have hl1 := textB_len hj.1
  have hl2 := textB_len hj.2
  have hz1 := strOf_size (textB x.num.natAbs)
  have hz2 := strOf_size (textB x.den)
  have hy2 : strOf (textB x.num.natAbs) ++ (⟨#[47]⟩ : ByteArray) = strOf (textB x.num.natAbs ++ [47]) := strOf_append (textB x.num.natAbs) [47]
  have hz5 : (strOf (textB x.num.natAbs ++ [47])).size = (textB x.num.natAbs).length + 1 := by rw [strOf_size]; simp
  have hy3 := strOf_append (textB x.num.natAbs ++ [47]) (textB x.den)
  have hq2 : (textB x.num.natAbs).length + 1 ≤ 9223372036854775807 := by omega
  have hq3 : (textB x.num.natAbs).length + 1 + 1 ≤ 9223372036854775807 := by omega
  have hq4 : (textB x.num.natAbs).length + 1 + (textB x.den).length ≤ 9223372036854775807 := by omega
  have hq5 : (textB x.num.natAbs).length + 1 + 1 + (textB x.den).length ≤ 9223372036854775807 := by omega
  have HY3 := bx hy3
  clear hy3
  clear hj hn hd hT hl1 hl2 hc hxb
  go_enter Tryz.func74, Tryz.ntmps74
  go_wp2_with fail
  obtain ⟨w1, e1, oP, b1, s1⟩ := layA w [.bool false, .slice Ax1 (digs b32 x.num.natAbs).length cx1, .slice Ax2 (digs b32 x.den).length cx2] 37
  rw [e1]
  clear e1
  replace hx0 := hx0.below b1
  replace hxa := hxa.below b1
  have B := b1
  clear b1
  refine Calls.mono (ndigits_num _ _ x.num.natAbs hxa HB.out.1 hj1) ?_
  rintro e w2 ⟨rfl, b2⟩
  replace hx0 := hx0.below b2
  replace hxa := hxa.below b2
  replace oP := oP.gone b2
  replace B := B.trans (b2.mono B.size)
  clear b2
  clear hxa
  have k1 := oP.cell (i := 0) rfl
  have k2 := oP.cell (i := 1) rfl
  have k3 := oP.cell (i := 2) rfl
  go_wp2_with fail
  clear k1 k2 k3
  refine Calls.mono (nunder_num _ _ x hx0) ?_
  rintro e w3 ⟨vu, rfl, hu, b3⟩
  replace hx0 := hx0.below b3
  replace oP := oP.gone b3
  replace B := B.trans (b3.mono B.size)
  clear b3
  go_wp2_with fail
  refine Calls.mono (nat_num _ 1 (by unfold b64; omega)) ?_
  rintro e w4 ⟨vo, rfl, ho, b4⟩
  replace hx0 := hx0.below b4
  replace oP := oP.gone b4
  replace hu := hu.below b4
  replace B := B.trans (b4.mono B.size)
  clear b4
  go_wp2_with fail
  have hc := order_num _ _ _ x.den 1 hu ho
  rw [HC.out] at hc
  refine Calls.mono (hc) ?_
  rintro e w5 ⟨rfl, b5⟩
  replace hx0 := hx0.below b5
  replace oP := oP.gone b5
  replace hu := hu.below b5
  replace ho := ho.below b5
  replace B := B.trans (b5.mono B.size)
  clear b5
  clear hc hu ho
  have k4 := oP.cell (i := 0) rfl
  have k5 := oP.cell (i := 1) rfl
  have k6 := oP.cell (i := 2) rfl
  go_wp2_with fail
  clear k4 k5 k6
  refine Calls.mono (nunder_num _ _ x hx0) ?_
  rintro e w6 ⟨vu, rfl, hu, b6⟩
  replace hx0 := hx0.below b6
  replace oP := oP.gone b6
  replace B := B.trans (b6.mono B.size)
  clear b6
  go_wp2_with fail
  refine Calls.mono (ndigits_num _ _ x.den hu HB.out.2 hj1) ?_
  rintro e w7 ⟨rfl, b7⟩
  replace hx0 := hx0.below b7
  replace oP := oP.gone b7
  replace hu := hu.below b7
  replace B := B.trans (b7.mono B.size)
  clear b7
  go_wp2
  go_ret
  rw [HY3.out]
  refine ⟨?_, B⟩
  simp

set_option maxRecDepth 100000 in
set_option maxHeartbeats 1000000 in
theorem ntext_01 (w : World) (v : Value) (x : Rat) (hx : IsRef w v x) {j : Nat} (hj : BdR j x) (hj1 : j ≤ 100000000) (hn : ¬ x.num < 0) (hd :  x.den = 1) : Calls Tryz.prog 74 #[v] w (RetIs w (.string (strOf (textR x)))) := by
  obtain ⟨vx1, vx2, rfl, hxa, hxb⟩ := id hx
  obtain ⟨Ax1, cx1, rfl, _⟩ := id hxa
  obtain ⟨Ax2, cx2, rfl, _⟩ := id hxb
  have HB := bx hj
  have hx0 := hx
  clear hx
  have hT : textR x = textB x.num.natAbs := by unfold textR; rw [if_neg hn, if_pos hd]; simp
  rw [hT]
  rw [decide_eq_false hn] at hx0
  try rw [decide_eq_false hn]
  have hc : cmpI x.den 1 = 0 := by unfold cmpI; have := x.den_pos; rw [if_neg (by omega), if_neg (by omega)]
  have HC := bx hc
  have hl1 := textB_len hj.1
  have hl2 := textB_len hj.2
  have hz1 := strOf_size (textB x.num.natAbs)
  have hz2 := strOf_size (textB x.den)
  clear hj hn hd hT hl1 hl2 hc hxb
  go_enter Tryz.func74, Tryz.ntmps74
  go_wp2_with fail
  obtain ⟨w1, e1, oP, b1, s1⟩ := layA w [.bool false, .slice Ax1 (digs b32 x.num.natAbs).length cx1, .slice Ax2 (digs b32 x.den).length cx2] 37
  rw [e1]
  clear e1
  replace hx0 := hx0.below b1
  replace hxa := hxa.below b1
  have B := b1
  clear b1
  refine Calls.mono (ndigits_num _ _ x.num.natAbs hxa HB.out.1 hj1) ?_
  rintro e w2 ⟨rfl, b2⟩
  replace hx0 := hx0.below b2
  replace hxa := hxa.below b2
  replace oP := oP.gone b2
  replace B := B.trans (b2.mono B.size)
  clear b2
  clear hxa
  have k1 := oP.cell (i := 0) rfl
  have k2 := oP.cell (i := 1) rfl
  have k3 := oP.cell (i := 2) rfl
  go_wp2_with fail
  clear k1 k2 k3
  refine Calls.mono (nunder_num _ _ x hx0) ?_
  rintro e w3 ⟨vu, rfl, hu, b3⟩
  replace hx0 := hx0.below b3
  replace oP := oP.gone b3
  replace B := B.trans (b3.mono B.size)
  clear b3
  go_wp2_with fail
  refine Calls.mono (nat_num _ 1 (by unfold b64; omega)) ?_
  rintro e w4 ⟨vo, rfl, ho, b4⟩
  replace hx0 := hx0.below b4
  replace oP := oP.gone b4
  replace hu := hu.below b4
  replace B := B.trans (b4.mono B.size)
  clear b4
  go_wp2_with fail
  have hc := order_num _ _ _ x.den 1 hu ho
  rw [HC.out] at hc
  refine Calls.mono (hc) ?_
  rintro e w5 ⟨rfl, b5⟩
  replace hx0 := hx0.below b5
  replace oP := oP.gone b5
  replace hu := hu.below b5
  replace ho := ho.below b5
  replace B := B.trans (b5.mono B.size)
  clear b5
  clear hc hu ho
  go_wp2
  go_ret
  exact ⟨rfl, B⟩

set_option maxRecDepth 100000 in
set_option maxHeartbeats 1000000 in
theorem ntext_10 (w : World) (v : Value) (x : Rat) (hx : IsRef w v x) {j : Nat} (hj : BdR j x) (hj1 : j ≤ 100000000) (hn :  x.num < 0) (hd : ¬ x.den = 1) : Calls Tryz.prog 74 #[v] w (RetIs w (.string (strOf (textR x)))) := by
  obtain ⟨vx1, vx2, rfl, hxa, hxb⟩ := id hx
  obtain ⟨Ax1, cx1, rfl, _⟩ := id hxa
  obtain ⟨Ax2, cx2, rfl, _⟩ := id hxb
  have HB := bx hj
  have hx0 := hx
  clear hx
  have hT : textR x = 45 :: (textB x.num.natAbs ++ 47 :: textB x.den) := by unfold textR; rw [if_pos hn, if_neg hd]; simp
  rw [hT]
  rw [decide_eq_true hn] at hx0
  try rw [decide_eq_true hn]
  have hc : cmpI x.den 1 = 1 := by unfold cmpI; have := x.den_pos; rw [if_neg (by omega), if_pos (by omega)]
  have HC := bx hc
  have hl1 := textB_len hj.1
  have hl2 := textB_len hj.2
  have hz1 := strOf_size (textB x.num.natAbs)
  have hz2 := strOf_size (textB x.den)
  have hy1 := cat_minus (textB x.num.natAbs)
  have hz4 := strOf_size (45 :: textB x.num.natAbs)
  have hq1 : 1 + (textB x.num.natAbs).length ≤ 9223372036854775807 := by omega
  have hy2 : strOf (45 :: textB x.num.natAbs) ++ (⟨#[47]⟩ : ByteArray) = strOf (45 :: (textB x.num.natAbs ++ [47])) := strOf_append (45 :: textB x.num.natAbs) [47]
  have hz5 : (strOf (45 :: (textB x.num.natAbs ++ [47]))).size = (textB x.num.natAbs).length + 1 + 1 := by rw [strOf_size]; simp
  have hy3 := strOf_append (45 :: (textB x.num.natAbs ++ [47])) (textB x.den)
  have hq2 : (textB x.num.natAbs).length + 1 ≤ 9223372036854775807 := by omega
  have hq3 : (textB x.num.natAbs).length + 1 + 1 ≤ 9223372036854775807 := by omega
  have hq4 : (textB x.num.natAbs).length + 1 + (textB x.den).length ≤ 9223372036854775807 := by omega
  have hq5 : (textB x.num.natAbs).length + 1 + 1 + (textB x.den).length ≤ 9223372036854775807 := by omega
  have HY3 := bx hy3
  clear hy3
  clear hj hn hd hT hl1 hl2 hc hxb
  go_enter Tryz.func74, Tryz.ntmps74
  go_wp2_with fail
  obtain ⟨w1, e1, oP, b1, s1⟩ := layA w [.bool true, .slice Ax1 (digs b32 x.num.natAbs).length cx1, .slice Ax2 (digs b32 x.den).length cx2] 37
  rw [e1]
  clear e1
  replace hx0 := hx0.below b1
  replace hxa := hxa.below b1
  have B := b1
  clear b1
  refine Calls.mono (ndigits_num _ _ x.num.natAbs hxa HB.out.1 hj1) ?_
  rintro e w2 ⟨rfl, b2⟩
  replace hx0 := hx0.below b2
  replace hxa := hxa.below b2
  replace oP := oP.gone b2
  replace B := B.trans (b2.mono B.size)
  clear b2
  clear hxa
  have k1 := oP.cell (i := 0) rfl
  have k2 := oP.cell (i := 1) rfl
  have k3 := oP.cell (i := 2) rfl
  go_wp2_with fail
  clear k1 k2 k3
  refine Calls.mono (nunder_num _ _ x hx0) ?_
  rintro e w3 ⟨vu, rfl, hu, b3⟩
  replace hx0 := hx0.below b3
  replace oP := oP.gone b3
  replace B := B.trans (b3.mono B.size)
  clear b3
  go_wp2_with fail
  refine Calls.mono (nat_num _ 1 (by unfold b64; omega)) ?_
  rintro e w4 ⟨vo, rfl, ho, b4⟩
  replace hx0 := hx0.below b4
  replace oP := oP.gone b4
  replace hu := hu.below b4
  replace B := B.trans (b4.mono B.size)
  clear b4
  go_wp2_with fail
  have hc := order_num _ _ _ x.den 1 hu ho
  rw [HC.out] at hc
  refine Calls.mono (hc) ?_
  rintro e w5 ⟨rfl, b5⟩
  replace hx0 := hx0.below b5
  replace oP := oP.gone b5
  replace hu := hu.below b5
  replace ho := ho.below b5
  replace B := B.trans (b5.mono B.size)
  clear b5
  clear hc hu ho
  have k4 := oP.cell (i := 0) rfl
  have k5 := oP.cell (i := 1) rfl
  have k6 := oP.cell (i := 2) rfl
  go_wp2_with fail
  clear k4 k5 k6
  refine Calls.mono (nunder_num _ _ x hx0) ?_
  rintro e w6 ⟨vu, rfl, hu, b6⟩
  replace hx0 := hx0.below b6
  replace oP := oP.gone b6
  replace B := B.trans (b6.mono B.size)
  clear b6
  go_wp2_with fail
  refine Calls.mono (ndigits_num _ _ x.den hu HB.out.2 hj1) ?_
  rintro e w7 ⟨rfl, b7⟩
  replace hx0 := hx0.below b7
  replace oP := oP.gone b7
  replace hu := hu.below b7
  replace B := B.trans (b7.mono B.size)
  clear b7
  go_wp2
  go_ret
  rw [HY3.out]
  refine ⟨?_, B⟩
  simp

set_option maxRecDepth 100000 in
set_option maxHeartbeats 1000000 in
theorem ntext_11 (w : World) (v : Value) (x : Rat) (hx : IsRef w v x) {j : Nat} (hj : BdR j x) (hj1 : j ≤ 100000000) (hn :  x.num < 0) (hd :  x.den = 1) : Calls Tryz.prog 74 #[v] w (RetIs w (.string (strOf (textR x)))) := by
  obtain ⟨vx1, vx2, rfl, hxa, hxb⟩ := id hx
  obtain ⟨Ax1, cx1, rfl, _⟩ := id hxa
  obtain ⟨Ax2, cx2, rfl, _⟩ := id hxb
  have HB := bx hj
  have hx0 := hx
  clear hx
  have hT : textR x = 45 :: (textB x.num.natAbs) := by unfold textR; rw [if_pos hn, if_pos hd]; simp
  rw [hT]
  rw [decide_eq_true hn] at hx0
  try rw [decide_eq_true hn]
  have hc : cmpI x.den 1 = 0 := by unfold cmpI; have := x.den_pos; rw [if_neg (by omega), if_neg (by omega)]
  have HC := bx hc
  have hl1 := textB_len hj.1
  have hl2 := textB_len hj.2
  have hz1 := strOf_size (textB x.num.natAbs)
  have hz2 := strOf_size (textB x.den)
  have hy1 := cat_minus (textB x.num.natAbs)
  have hz4 := strOf_size (45 :: textB x.num.natAbs)
  have hq1 : 1 + (textB x.num.natAbs).length ≤ 9223372036854775807 := by omega
  clear hj hn hd hT hl1 hl2 hc hxb
  go_enter Tryz.func74, Tryz.ntmps74
  go_wp2_with fail
  obtain ⟨w1, e1, oP, b1, s1⟩ := layA w [.bool true, .slice Ax1 (digs b32 x.num.natAbs).length cx1, .slice Ax2 (digs b32 x.den).length cx2] 37
  rw [e1]
  clear e1
  replace hx0 := hx0.below b1
  replace hxa := hxa.below b1
  have B := b1
  clear b1
  refine Calls.mono (ndigits_num _ _ x.num.natAbs hxa HB.out.1 hj1) ?_
  rintro e w2 ⟨rfl, b2⟩
  replace hx0 := hx0.below b2
  replace hxa := hxa.below b2
  replace oP := oP.gone b2
  replace B := B.trans (b2.mono B.size)
  clear b2
  clear hxa
  have k1 := oP.cell (i := 0) rfl
  have k2 := oP.cell (i := 1) rfl
  have k3 := oP.cell (i := 2) rfl
  go_wp2_with fail
  clear k1 k2 k3
  refine Calls.mono (nunder_num _ _ x hx0) ?_
  rintro e w3 ⟨vu, rfl, hu, b3⟩
  replace hx0 := hx0.below b3
  replace oP := oP.gone b3
  replace B := B.trans (b3.mono B.size)
  clear b3
  go_wp2_with fail
  refine Calls.mono (nat_num _ 1 (by unfold b64; omega)) ?_
  rintro e w4 ⟨vo, rfl, ho, b4⟩
  replace hx0 := hx0.below b4
  replace oP := oP.gone b4
  replace hu := hu.below b4
  replace B := B.trans (b4.mono B.size)
  clear b4
  go_wp2_with fail
  have hc := order_num _ _ _ x.den 1 hu ho
  rw [HC.out] at hc
  refine Calls.mono (hc) ?_
  rintro e w5 ⟨rfl, b5⟩
  replace hx0 := hx0.below b5
  replace oP := oP.gone b5
  replace hu := hu.below b5
  replace ho := ho.below b5
  replace B := B.trans (b5.mono B.size)
  clear b5
  clear hc hu ho
  go_wp2
  go_ret
  exact ⟨rfl, B⟩

theorem ntext_num (w : World) (v : Value) (x : Rat) (hx : IsRef w v x) {j : Nat} (hj : BdR j x) (hj1 : j ≤ 100000000) : Calls Tryz.prog 74 #[v] w (RetIs w (.string (strOf (textR x)))) := by
  by_cases hn : x.num < 0
  · by_cases hd : x.den = 1
    · exact ntext_11 w v x hx hj hj1 hn hd
    · exact ntext_10 w v x hx hj hj1 hn hd
  · by_cases hd : x.den = 1
    · exact ntext_01 w v x hx hj hj1 hn hd
    · exact ntext_00 w v x hx hj hj1 hn hd
end Wx

namespace Wx
open Go Go.RowKit Go.Proofs

set_option maxRecDepth 100000 in
set_option maxHeartbeats 1000000 in
/-- The program's fraction is the reference's one. -/
theorem is_yes (w : World) (vx vy : Value) (x : Rat) (hx : IsRat w vx x) (hy : IsRef w vy x) {j : Nat} (hj : BdR j x) (hj1 : j ≤ 100000000) : Calls Tryz.prog 13 #[vx, vy] w (RetIs w (.bool true)) := by
  obtain ⟨vx1, vx2, rfl, hxa, hxb⟩ := id hx
  obtain ⟨Ax1, cx1, rfl, _⟩ := id hxa
  obtain ⟨Ax2, cx2, rfl, _⟩ := id hxb
  obtain ⟨vy1, vy2, rfl, hya, hyb⟩ := id hy
  obtain ⟨Ay1, cy1, rfl, _⟩ := id hya
  obtain ⟨Ay2, cy2, rfl, _⟩ := id hyb
  have HB := bx hj
  have hx0 := hx
  have hy0 := hy

  clear hj hx hy
  go_enter Tryz.func13, Tryz.ntmps13
  go_wp2_with fail
  obtain ⟨w1, e1, o1, b1, s1⟩ := layA w [.bool (decide (x.num < 0)), .slice Ax1 (digs b64 x.num.natAbs).length cx1, .slice Ax2 (digs b64 (denOf x.den)).length cx2] 28
  obtain ⟨w2, e2, o2, b2, s2⟩ := layA w1 [.bool (decide (x.num < 0)), .slice Ay1 (digs b32 x.num.natAbs).length cy1, .slice Ay2 (digs b32 x.den).length cy2] 37
  rw [e1, e2]
  rw [s1] at o2
  have p1 := (o1.gone b2)
  have p2 := o2
  have B0 := (b1.trans (b2.mono b1.size))
  have hS : ∀ w', HeldQ w [(w.heap.size, [.bool (decide (x.num < 0)), .slice Ax1 (digs b64 x.num.natAbs).length cx1, .slice Ax2 (digs b64 (denOf x.den)).length cx2], 28), (w.heap.size + 1, [.bool (decide (x.num < 0)), .slice Ay1 (digs b32 x.num.natAbs).length cy1, .slice Ay2 (digs b32 x.den).length cy2], 37)] w' → HeldQ w [(w.heap.size, [.bool (decide (x.num < 0)), .slice Ax1 (digs b64 x.num.natAbs).length cx1, .slice Ax2 (digs b64 (denOf x.den)).length cx2], 28), (w.heap.size + 1, [.bool (decide (x.num < 0)), .slice Ay1 (digs b32 x.num.natAbs).length cy1, .slice Ay2 (digs b32 x.den).length cy2], 37)] w' ∧ w'.cell? ⟨w.heap.size, 0, none⟩ = some (.bool (decide (x.num < 0))) ∧ w'.cell? ⟨w.heap.size, 1, none⟩ = some (.slice Ax1 (digs b64 x.num.natAbs).length cx1) ∧ w'.cell? ⟨w.heap.size, 2, none⟩ = some (.slice Ax2 (digs b64 (denOf x.den)).length cx2) ∧ w'.cell? ⟨w.heap.size + 1, 0, none⟩ = some (.bool (decide (x.num < 0))) ∧ w'.cell? ⟨w.heap.size + 1, 1, none⟩ = some (.slice Ay1 (digs b32 x.num.natAbs).length cy1) ∧ w'.cell? ⟨w.heap.size + 1, 2, none⟩ = some (.slice Ay2 (digs b32 x.den).length cy2) := fun w' hh => by
    have r1 := hh.at_ (p := (w.heap.size, [.bool (decide (x.num < 0)), .slice Ax1 (digs b64 x.num.natAbs).length cx1, .slice Ax2 (digs b64 (denOf x.den)).length cx2], 28)) (by simp)
    have r2 := hh.at_ (p := (w.heap.size + 1, [.bool (decide (x.num < 0)), .slice Ay1 (digs b32 x.num.natAbs).length cy1, .slice Ay2 (digs b32 x.den).length cy2], 37)) (by simp)
    exact ⟨hh, r1.cell (i := 0) rfl, r1.cell (i := 1) rfl, r1.cell (i := 2) rfl, r2.cell (i := 0) rfl, r2.cell (i := 1) rfl, r2.cell (i := 2) rfl⟩
  have hz : HeldQ w [(w.heap.size, [.bool (decide (x.num < 0)), .slice Ax1 (digs b64 x.num.natAbs).length cx1, .slice Ax2 (digs b64 (denOf x.den)).length cx2], 28), (w.heap.size + 1, [.bool (decide (x.num < 0)), .slice Ay1 (digs b32 x.num.natAbs).length cy1, .slice Ay2 (digs b32 x.den).length cy2], 37)] w2 := ⟨B0, by intro q hq; simp at hq; rcases hq with rfl | rfl; exact p1; exact p2⟩
  clear e1 e2 o1 b1 s1 p1 o2 b2 s2 p2
  clear B0
  have hz := hz.drew
  go_region_held3 (fun w' => HeldQ w [(w.heap.size, [.bool (decide (x.num < 0)), .slice Ax1 (digs b64 x.num.natAbs).length cx1, .slice Ax2 (digs b64 (denOf x.den)).length cx2], 28), (w.heap.size + 1, [.bool (decide (x.num < 0)), .slice Ay1 (digs b32 x.num.natAbs).length cy1, .slice Ay2 (digs b32 x.den).length cy2], 37)] w' ∧ w'.cell? ⟨w.heap.size, 0, none⟩ = some (.bool (decide (x.num < 0))) ∧ w'.cell? ⟨w.heap.size, 1, none⟩ = some (.slice Ax1 (digs b64 x.num.natAbs).length cx1) ∧ w'.cell? ⟨w.heap.size, 2, none⟩ = some (.slice Ax2 (digs b64 (denOf x.den)).length cx2) ∧ w'.cell? ⟨w.heap.size + 1, 0, none⟩ = some (.bool (decide (x.num < 0))) ∧ w'.cell? ⟨w.heap.size + 1, 1, none⟩ = some (.slice Ay1 (digs b32 x.num.natAbs).length cy1) ∧ w'.cell? ⟨w.heap.size + 1, 2, none⟩ = some (.slice Ay2 (digs b32 x.den).length cy2))
    (exact hS _ hz)
    (first
      | (go_at_call 73; (with_reducible refine Calls.mono (rtext_num _ _ x (hx0.below hz.b) HB.out hj1) ?_); rintro e wz ⟨rfl, hb⟩; have hz := HeldQ.call (And.intro hz trivial) hb)
      | (go_at_call 74; (with_reducible refine Calls.mono (ntext_num _ _ x (hy0.below hz.b) HB.out hj1) ?_); rintro e wz ⟨rfl, hb⟩; have hz := HeldQ.call (And.intro hz trivial) hb))
  all_goals (
    go_wp2
    go_ret
    exact ⟨rfl, hz.b⟩)
end Wx

namespace Wx
open Go Go.RowKit Go.Proofs

/-- A fraction of the reference. -/
def pRef (q : Rat) : Pred := fun w v => IsRef w v q
theorem numlike_ref (q : Rat) : Numlike (pRef q) := by
  rintro M w v hM ⟨vn, vd, rfl, h1, h2⟩ w' he
  exact ⟨vn, vd, rfl, num_box hM (.inr rfl) h1 w' he, num_box hM (.inr rfl) h2 w' he⟩
theorem fits_ref (q : Rat) : Fits 3 true (pRef q) := by
  rintro w v ⟨vn, vd, rfl, h1, h2⟩
  obtain ⟨A, c, rfl, _⟩ := h1
  obtain ⟨B, d, rfl, _⟩ := h2
  refine ⟨[_, _, _], rfl, rfl, rfl, ?_⟩
  intro u hu
  simp at hu
  rcases hu with rfl | rfl | rfl
  · exact ⟨noU_bool _, rfl⟩
  · exact ⟨noU_slice _ _ _, rfl⟩
  · exact ⟨noU_slice _ _ _, rfl⟩
theorem pRef_eq {x y : Rat} (h : x = y) : ∀ w v, pRef x w v → pRef y w v := fun _ _ k => h ▸ k
/-- Two fractions of the reference. -/
def pRPair (a b : Rat) : Pred := pS [⟨true, 3, pRef a⟩, ⟨true, 3, pRef b⟩]
theorem numlike_rpair (a b : Rat) : Numlike (pRPair a b) := numlike_s ⟨numlike_ref a, numlike_ref b, trivial⟩
theorem fits_rpair (a b : Rat) : Fits 6 true (pRPair a b) := fits_s (fs := [⟨true, 3, pRef a⟩, ⟨true, 3, pRef b⟩]) ⟨fits_ref a, fits_ref b, trivial⟩ rfl
theorem ret_fe {w : World} {q : Rat} {n : Int} {e : Ending} {w' : World} (h : RetFE w q n e w') : Ret (pTup2 (pRef q) (pI n)) w e w' := by
  obtain ⟨v, rfl, h1, h2⟩ := h
  exact ⟨_, rfl, ⟨v, _, rfl, h1, rfl⟩, h2⟩
theorem cn_add {x y : Rat} {j k : Nat} (hx : BdR j x) (hy : BdR k y) (h : j + k + j + k + 1 ≤ 10000000) : ∀ w v1 v2, pRef x w v1 → pRef y w v2 → Calls Tryz.prog 76 #[v1, v2] w (Ret (pRef (x + y)) w) :=
  fun w v1 v2 h1 h2 => nadd_num w v1 v2 x y h1 h2 hx hy h
theorem cn_sub {x y : Rat} {j k : Nat} (hx : BdR j x) (hy : BdR k y) (h : j + k + j + k + 1 ≤ 10000000) : ∀ w v1 v2, pRef x w v1 → pRef y w v2 → Calls Tryz.prog 15 #[v1, v2] w (Ret (pRef (x - y)) w) :=
  fun w v1 v2 h1 h2 => nsub_num w v1 v2 x y h1 h2 hx hy h
theorem cn_mul {x y : Rat} {j k : Nat} (hx : BdR j x) (hy : BdR k y) (h : j + k ≤ 10000000) : ∀ w v1 v2, pRef x w v1 → pRef y w v2 → Calls Tryz.prog 82 #[v1, v2] w (Ret (pRef (x * y)) w) :=
  fun w v1 v2 h1 h2 => nmul_num w v1 v2 x y h1 h2 hx hy h
theorem cn_div_ok {x y : Rat} {j k : Nat} (hx : BdR j x) (hy : BdR k y) (h : j + k ≤ 10000000) (h0 : y ≠ 0) : ∀ w v1 v2, pRef x w v1 → pRef y w v2 → Calls Tryz.prog 85 #[v1, v2] w (Ret (pTup2 (pRef (x / y)) (pI 0)) w) :=
  fun w v1 v2 h1 h2 => (ndiv_num w v1 v2 x y h1 h2 (fun h => h0 ((num_zero_iff y).1 (by omega))) hx hy h).mono fun _ _ => ret_fe
theorem cn_div {x y : Rat} {j k : Nat} (hx : BdR j x) (hy : BdR k y) (h : j + k ≤ 10000000) : ∀ w v1 v2, pRef x w v1 → pRef y w v2 → Calls Tryz.prog 85 #[v1, v2] w (Ret (pTup2 (pRef (x / y)) (pI (if y = 0 then 3 else 0))) w) := by
  by_cases h0 : y = 0
  · rw [if_pos h0, show x / y = 0 by rw [h0, Rat.div_def, Rat.inv_zero, Rat.mul_zero]]
    exact fun w v1 v2 h1 h2 => (ndiv_zero w v1 v2 x y h1 h2 h0).mono fun _ _ => ret_fe
  · rw [if_neg h0]; exact cn_div_ok hx hy h h0
theorem cn_neg (x : Rat) : ∀ w v1, pRef x w v1 → Calls Tryz.prog 77 #[v1] w (Ret (pRef (-x)) w) := fun w v1 h1 => nneg_num w v1 x h1
theorem cn_zero (x : Rat) : ∀ w v1, pRef x w v1 → Calls Tryz.prog 107 #[v1] w (Ret (pB (decide (x = 0))) w) := fun w v1 h1 => (nzero_num w v1 x h1).mono fun _ _ => ret_is
theorem cn_sign (x : Rat) : ∀ w v1, pRef x w v1 → Calls Tryz.prog 116 #[v1] w (Ret (pI (sgnI x)) w) := fun w v1 h1 => (nsign_num w v1 x h1).mono fun _ _ => ret_is
theorem cn_cmp {x y : Rat} {j k : Nat} (hx : BdR j x) (hy : BdR k y) (h : j + k + j + k + 1 ≤ 10000000) : ∀ w v1 v2, pRef x w v1 → pRef y w v2 → Calls Tryz.prog 66 #[v1, v2] w (Ret (pI (cmpT x y)) w) :=
  fun w v1 v2 h1 h2 => (ncmp_num w v1 v2 x y h1 h2 hx hy h).mono fun _ _ => ret_is
theorem cn_int (n : Int) (h1 : -9223372036854775808 ≤ n) (h2 : n ≤ 9223372036854775807) : ∀ w v1, pI n w v1 → Calls Tryz.prog 68 #[v1] w (Ret (pRef (n : Rat)) w) := fun w v1 h => by
  have h : v1 = .int .i64 n := h
  rw [h]
  exact nint_num w n h1 h2
theorem cn_new_ok {n d : Int} (h1 : -9223372036854775808 ≤ n) (h2 : n ≤ 9223372036854775807) (h3 : -9223372036854775808 ≤ d) (h4 : d ≤ 9223372036854775807) (hd : d ≠ 0) : ∀ w v1 v2, pI n w v1 → pI d w v2 → Calls Tryz.prog 69 #[v1, v2] w (Ret (pTup2 (pRef (newR n d)) (pI 0)) w) := fun w v1 v2 e1 e2 => by
  have e1 : v1 = .int .i64 n := e1
  have e2 : v2 = .int .i64 d := e2
  rw [e1, e2]
  exact (nnew_num w n d h1 h2 h3 h4 hd).mono fun _ _ => ret_fe
theorem c_is {x y : Rat} {j : Nat} (hx : BdR j x) (hj : j ≤ 100000000) (h : x = y) : ∀ w v1 v2, pRat x w v1 → pRef y w v2 → Calls Tryz.prog 13 #[v1, v2] w (Ret (pB true) w) := fun w v1 v2 h1 h2 => by
  subst h
  exact (is_yes w v1 v2 x h1 h2 hx hj).mono fun _ _ => ret_is
end Wx
