import Derived.Test.YtlomlheajdgdoaaGreatProg
import Derived.Handy
import Derived.Laws.IdiomStrings
import Derived.Test.YtlomlheajdgdoaaGreatJPairs0
import Derived.Test.YtlomlheajdgdoaaGreatJPairs1
import Derived.Test.YtlomlheajdgdoaaGreatJPairs22
import Derived.Test.YtlomlheajdgdoaaGreatJPairs32
import Derived.Test.YtlomlheajdgdoaaGreatJPairs26
import Derived.Test.YtlomlheajdgdoaaGreatCPairsRat1
import Derived.Test.YtlomlheajdgdoaaGreatJPairs9
import Derived.Test.YtlomlheajdgdoaaGreatJPairs18
import Derived.Test.YtlomlheajdgdoaaGreatJPairs20
import Derived.Test.YtlomlheajdgdoaaGreatJPairs21
import Derived.Deep.RegionHeld3
import Derived.Test.YtlomlheajdgdoaaGreatCPairsRat3
import Derived.Test.YtlomlheajdgdoaaGreatJPairs10
import Derived.Test.YtlomlheajdgdoaaGreatJPairs29
import Derived.Test.YtlomlheajdgdoaaGreatJPairs27
import Derived.Test.YtlomlheajdgdoaaGreatJPairs30
import Derived.Test.YtlomlheajdgdoaaGreatCPairsSem
import Derived.Test.YtlomlheajdgdoaaGreatCPairsSemOps
import Derived.Test.YtlomlheajdgdoaaGreatCPairsSemMem
import Derived.Test.YtlomlheajdgdoaaGreatCPairsSemCode
import Derived.Test.YtlomlheajdgdoaaGreatJPairs15
import Derived.Test.YtlomlheajdgdoaaGreatJPairs3
import Derived.Test.YtlomlheajdgdoaaGreatJPairs7
import Derived.Test.YtlomlheajdgdoaaGreatCPairsDown
namespace Wx
set_option maxRecDepth 100000
open Go Go.RowKit Go.Proofs

set_option maxHeartbeats 1000000 in
theorem ntext_00 (w : World) (v : Value) (x : Rat) (hx : IsRef w v x) {j : Nat} (hj : BdR j x) (hj1 : j ≤ 100000000) (hn : ¬ x.num < 0) (hd : ¬ x.den = 1) : Calls Tryz.prog 75 #[v] w (RetIs w (.string (strOf (textR x)))) := by
  obtain ⟨vx1, vx2, rfl, hxa, hxb⟩ := id hx
  obtain ⟨Ax1, cx1, rfl, _⟩ := id hxa
  obtain ⟨Ax2, cx2, rfl, _⟩ := id hxb
  have HB := bx hj
  have hx0 := hx
  clear hx
  have hT : textR x = textB x.num.natAbs ++ 47 :: textB x.den := by unfold textR; rw [if_neg hn, if_neg hd]; simp
  rw [hT]
  rw [decide_eq_false hn] at hx0
  try rw [decide_eq_false hn]
  have hc : cmpI x.den 1 = 1 := by unfold cmpI; have := x.den_pos; rw [if_neg (by omega), if_pos (by omega)]
  have HC := bx hc
  have hl1 := textB_len hj.1
  have hl2 := textB_len hj.2
  have hz1 := strOf_size (textB x.num.natAbs)
  have hz2 := strOf_size (textB x.den)
  have hy2 : strOf (textB x.num.natAbs) ++ (⟨#[47]⟩ : ByteArray) = strOf (textB x.num.natAbs ++ [47]) := strOf_append (textB x.num.natAbs) [47]
  have hz5 : (strOf (textB x.num.natAbs ++ [47])).size = (textB x.num.natAbs).length + 1 := by rw [strOf_size]; simp
  have hy3 := strOf_append (textB x.num.natAbs ++ [47]) (textB x.den)
  have hq2 : (textB x.num.natAbs).length + 1 ≤ 9223372036854775807 := by omega
  have hq3 : (textB x.num.natAbs).length + 1 + 1 ≤ 9223372036854775807 := by omega
  have hq4 : (textB x.num.natAbs).length + 1 + (textB x.den).length ≤ 9223372036854775807 := by omega
  have hq5 : (textB x.num.natAbs).length + 1 + 1 + (textB x.den).length ≤ 9223372036854775807 := by omega
  have HY3 := bx hy3
  clear hy3
  clear hj hn hd hT hl1 hl2 hc hxb
  go_enter Tryz.func75, Tryz.ntmps75
  go_wp2_with fail
  obtain ⟨w1, e1, oP, b1, s1⟩ := layA w [.bool false, .slice Ax1 (digs b32 x.num.natAbs).length cx1, .slice Ax2 (digs b32 x.den).length cx2] 33
  rw [e1]
  clear e1
  replace hx0 := hx0.below b1
  replace hxa := hxa.below b1
  have B := b1
  clear b1
  refine Calls.mono (ndigits_num _ _ x.num.natAbs hxa HB.out.1 hj1) ?_
  rintro e w2 ⟨rfl, b2⟩
  replace hx0 := hx0.below b2
  replace hxa := hxa.below b2
  replace oP := oP.gone b2
  replace B := B.trans (b2.mono B.size)
  clear b2
  clear hxa
  have k1 := oP.cell (i := 0) rfl
  have k2 := oP.cell (i := 1) rfl
  have k3 := oP.cell (i := 2) rfl
  go_wp2_with fail
  clear k1 k2 k3
  refine Calls.mono (nunder_num _ _ x hx0) ?_
  rintro e w3 ⟨vu, rfl, hu, b3⟩
  replace hx0 := hx0.below b3
  replace oP := oP.gone b3
  replace B := B.trans (b3.mono B.size)
  clear b3
  go_wp2_with fail
  refine Calls.mono (nat_num _ 1 (by unfold b64; omega)) ?_
  rintro e w4 ⟨vo, rfl, ho, b4⟩
  replace hx0 := hx0.below b4
  replace oP := oP.gone b4
  replace hu := hu.below b4
  replace B := B.trans (b4.mono B.size)
  clear b4
  go_wp2_with fail
  have hc := order_num _ _ _ x.den 1 hu ho
  rw [HC.out] at hc
  refine Calls.mono (hc) ?_
  rintro e w5 ⟨rfl, b5⟩
  replace hx0 := hx0.below b5
  replace oP := oP.gone b5
  replace hu := hu.below b5
  replace ho := ho.below b5
  replace B := B.trans (b5.mono B.size)
  clear b5
  clear hc hu ho
  have k4 := oP.cell (i := 0) rfl
  have k5 := oP.cell (i := 1) rfl
  have k6 := oP.cell (i := 2) rfl
  go_wp2_with fail
  clear k4 k5 k6
  refine Calls.mono (nunder_num _ _ x hx0) ?_
  rintro e w6 ⟨vu, rfl, hu, b6⟩
  replace hx0 := hx0.below b6
  replace oP := oP.gone b6
  replace B := B.trans (b6.mono B.size)
  clear b6
  go_wp2_with fail
  refine Calls.mono (ndigits_num _ _ x.den hu HB.out.2 hj1) ?_
  rintro e w7 ⟨rfl, b7⟩
  replace hx0 := hx0.below b7
  replace oP := oP.gone b7
  replace hu := hu.below b7
  replace B := B.trans (b7.mono B.size)
  clear b7
  go_wp2
  go_ret
  rw [HY3.out]
  refine ⟨?_, B⟩
  simp

set_option maxHeartbeats 1000000 in
theorem ntext_01 (w : World) (v : Value) (x : Rat) (hx : IsRef w v x) {j : Nat} (hj : BdR j x) (hj1 : j ≤ 100000000) (hn : ¬ x.num < 0) (hd :  x.den = 1) : Calls Tryz.prog 75 #[v] w (RetIs w (.string (strOf (textR x)))) := by
  obtain ⟨vx1, vx2, rfl, hxa, hxb⟩ := id hx
  obtain ⟨Ax1, cx1, rfl, _⟩ := id hxa
  obtain ⟨Ax2, cx2, rfl, _⟩ := id hxb
  have HB := bx hj
  have hx0 := hx
  clear hx
  have hT : textR x = textB x.num.natAbs := by unfold textR; rw [if_neg hn, if_pos hd]; simp
  rw [hT]
  rw [decide_eq_false hn] at hx0
  try rw [decide_eq_false hn]
  have hc : cmpI x.den 1 = 0 := by unfold cmpI; have := x.den_pos; rw [if_neg (by omega), if_neg (by omega)]
  have HC := bx hc
  have hl1 := textB_len hj.1
  have hl2 := textB_len hj.2
  have hz1 := strOf_size (textB x.num.natAbs)
  have hz2 := strOf_size (textB x.den)
  clear hj hn hd hT hl1 hl2 hc hxb
  go_enter Tryz.func75, Tryz.ntmps75
  go_wp2_with fail
  obtain ⟨w1, e1, oP, b1, s1⟩ := layA w [.bool false, .slice Ax1 (digs b32 x.num.natAbs).length cx1, .slice Ax2 (digs b32 x.den).length cx2] 33
  rw [e1]
  clear e1
  replace hx0 := hx0.below b1
  replace hxa := hxa.below b1
  have B := b1
  clear b1
  refine Calls.mono (ndigits_num _ _ x.num.natAbs hxa HB.out.1 hj1) ?_
  rintro e w2 ⟨rfl, b2⟩
  replace hx0 := hx0.below b2
  replace hxa := hxa.below b2
  replace oP := oP.gone b2
  replace B := B.trans (b2.mono B.size)
  clear b2
  clear hxa
  have k1 := oP.cell (i := 0) rfl
  have k2 := oP.cell (i := 1) rfl
  have k3 := oP.cell (i := 2) rfl
  go_wp2_with fail
  clear k1 k2 k3
  refine Calls.mono (nunder_num _ _ x hx0) ?_
  rintro e w3 ⟨vu, rfl, hu, b3⟩
  replace hx0 := hx0.below b3
  replace oP := oP.gone b3
  replace B := B.trans (b3.mono B.size)
  clear b3
  go_wp2_with fail
  refine Calls.mono (nat_num _ 1 (by unfold b64; omega)) ?_
  rintro e w4 ⟨vo, rfl, ho, b4⟩
  replace hx0 := hx0.below b4
  replace oP := oP.gone b4
  replace hu := hu.below b4
  replace B := B.trans (b4.mono B.size)
  clear b4
  go_wp2_with fail
  have hc := order_num _ _ _ x.den 1 hu ho
  rw [HC.out] at hc
  refine Calls.mono (hc) ?_
  rintro e w5 ⟨rfl, b5⟩
  replace hx0 := hx0.below b5
  replace oP := oP.gone b5
  replace hu := hu.below b5
  replace ho := ho.below b5
  replace B := B.trans (b5.mono B.size)
  clear b5
  clear hc hu ho
  go_wp2
  go_ret
  exact ⟨rfl, B⟩

set_option maxHeartbeats 1000000 in
theorem ntext_10 (w : World) (v : Value) (x : Rat) (hx : IsRef w v x) {j : Nat} (hj : BdR j x) (hj1 : j ≤ 100000000) (hn :  x.num < 0) (hd : ¬ x.den = 1) : Calls Tryz.prog 75 #[v] w (RetIs w (.string (strOf (textR x)))) := by
  obtain ⟨vx1, vx2, rfl, hxa, hxb⟩ := id hx
  obtain ⟨Ax1, cx1, rfl, _⟩ := id hxa
  obtain ⟨Ax2, cx2, rfl, _⟩ := id hxb
  have HB := bx hj
  have hx0 := hx
  clear hx
  have hT : textR x = 45 :: (textB x.num.natAbs ++ 47 :: textB x.den) := by unfold textR; rw [if_pos hn, if_neg hd]; simp
  rw [hT]
  rw [decide_eq_true hn] at hx0
  try rw [decide_eq_true hn]
  have hc : cmpI x.den 1 = 1 := by unfold cmpI; have := x.den_pos; rw [if_neg (by omega), if_pos (by omega)]
  have HC := bx hc
  have hl1 := textB_len hj.1
  have hl2 := textB_len hj.2
  have hz1 := strOf_size (textB x.num.natAbs)
  have hz2 := strOf_size (textB x.den)
  have hy1 := cat_minus (textB x.num.natAbs)
  have hz4 := strOf_size (45 :: textB x.num.natAbs)
  have hq1 : 1 + (textB x.num.natAbs).length ≤ 9223372036854775807 := by omega
  have hy2 : strOf (45 :: textB x.num.natAbs) ++ (⟨#[47]⟩ : ByteArray) = strOf (45 :: (textB x.num.natAbs ++ [47])) := strOf_append (45 :: textB x.num.natAbs) [47]
  have hz5 : (strOf (45 :: (textB x.num.natAbs ++ [47]))).size = (textB x.num.natAbs).length + 1 + 1 := by rw [strOf_size]; simp
  have hy3 := strOf_append (45 :: (textB x.num.natAbs ++ [47])) (textB x.den)
  have hq2 : (textB x.num.natAbs).length + 1 ≤ 9223372036854775807 := by omega
  have hq3 : (textB x.num.natAbs).length + 1 + 1 ≤ 9223372036854775807 := by omega
  have hq4 : (textB x.num.natAbs).length + 1 + (textB x.den).length ≤ 9223372036854775807 := by omega
  have hq5 : (textB x.num.natAbs).length + 1 + 1 + (textB x.den).length ≤ 9223372036854775807 := by omega
  have HY3 := bx hy3
  clear hy3
  clear hj hn hd hT hl1 hl2 hc hxb
  go_enter Tryz.func75, Tryz.ntmps75
  go_wp2_with fail
  obtain ⟨w1, e1, oP, b1, s1⟩ := layA w [.bool true, .slice Ax1 (digs b32 x.num.natAbs).length cx1, .slice Ax2 (digs b32 x.den).length cx2] 33
  rw [e1]
  clear e1
  replace hx0 := hx0.below b1
  replace hxa := hxa.below b1
  have B := b1
  clear b1
  refine Calls.mono (ndigits_num _ _ x.num.natAbs hxa HB.out.1 hj1) ?_
  rintro e w2 ⟨rfl, b2⟩
  replace hx0 := hx0.below b2
  replace hxa := hxa.below b2
  replace oP := oP.gone b2
  replace B := B.trans (b2.mono B.size)
  clear b2
  clear hxa
  have k1 := oP.cell (i := 0) rfl
  have k2 := oP.cell (i := 1) rfl
  have k3 := oP.cell (i := 2) rfl
  go_wp2_with fail
  clear k1 k2 k3
  refine Calls.mono (nunder_num _ _ x hx0) ?_
  rintro e w3 ⟨vu, rfl, hu, b3⟩
  replace hx0 := hx0.below b3
  replace oP := oP.gone b3
  replace B := B.trans (b3.mono B.size)
  clear b3
  go_wp2_with fail
  refine Calls.mono (nat_num _ 1 (by unfold b64; omega)) ?_
  rintro e w4 ⟨vo, rfl, ho, b4⟩
  replace hx0 := hx0.below b4
  replace oP := oP.gone b4
  replace hu := hu.below b4
  replace B := B.trans (b4.mono B.size)
  clear b4
  go_wp2_with fail
  have hc := order_num _ _ _ x.den 1 hu ho
  rw [HC.out] at hc
  refine Calls.mono (hc) ?_
  rintro e w5 ⟨rfl, b5⟩
  replace hx0 := hx0.below b5
  replace oP := oP.gone b5
  replace hu := hu.below b5
  replace ho := ho.below b5
  replace B := B.trans (b5.mono B.size)
  clear b5
  clear hc hu ho
  have k4 := oP.cell (i := 0) rfl
  have k5 := oP.cell (i := 1) rfl
  have k6 := oP.cell (i := 2) rfl
  go_wp2_with fail
  clear k4 k5 k6
  refine Calls.mono (nunder_num _ _ x hx0) ?_
  rintro e w6 ⟨vu, rfl, hu, b6⟩
  replace hx0 := hx0.below b6
  replace oP := oP.gone b6
  replace B := B.trans (b6.mono B.size)
  clear b6
  go_wp2_with fail
  refine Calls.mono (ndigits_num _ _ x.den hu HB.out.2 hj1) ?_
  rintro e w7 ⟨rfl, b7⟩
  replace hx0 := hx0.below b7
  replace oP := oP.gone b7
  replace hu := hu.below b7
  replace B := B.trans (b7.mono B.size)
  clear b7
  go_wp2
  go_ret
  rw [HY3.out]
  refine ⟨?_, B⟩
  simp

set_option maxHeartbeats 1000000 in
theorem ntext_11 (w : World) (v : Value) (x : Rat) (hx : IsRef w v x) {j : Nat} (hj : BdR j x) (hj1 : j ≤ 100000000) (hn :  x.num < 0) (hd :  x.den = 1) : Calls Tryz.prog 75 #[v] w (RetIs w (.string (strOf (textR x)))) := by
  obtain ⟨vx1, vx2, rfl, hxa, hxb⟩ := id hx
  obtain ⟨Ax1, cx1, rfl, _⟩ := id hxa
  obtain ⟨Ax2, cx2, rfl, _⟩ := id hxb
  have HB := bx hj
  have hx0 := hx
  clear hx
  have hT : textR x = 45 :: (textB x.num.natAbs) := by unfold textR; rw [if_pos hn, if_pos hd]; simp
  rw [hT]
  rw [decide_eq_true hn] at hx0
  try rw [decide_eq_true hn]
  have hc : cmpI x.den 1 = 0 := by unfold cmpI; have := x.den_pos; rw [if_neg (by omega), if_neg (by omega)]
  have HC := bx hc
  have hl1 := textB_len hj.1
  have hl2 := textB_len hj.2
  have hz1 := strOf_size (textB x.num.natAbs)
  have hz2 := strOf_size (textB x.den)
  have hy1 := cat_minus (textB x.num.natAbs)
  have hz4 := strOf_size (45 :: textB x.num.natAbs)
  have hq1 : 1 + (textB x.num.natAbs).length ≤ 9223372036854775807 := by omega
  clear hj hn hd hT hl1 hl2 hc hxb
  go_enter Tryz.func75, Tryz.ntmps75
  go_wp2_with fail
  obtain ⟨w1, e1, oP, b1, s1⟩ := layA w [.bool true, .slice Ax1 (digs b32 x.num.natAbs).length cx1, .slice Ax2 (digs b32 x.den).length cx2] 33
  rw [e1]
  clear e1
  replace hx0 := hx0.below b1
  replace hxa := hxa.below b1
  have B := b1
  clear b1
  refine Calls.mono (ndigits_num _ _ x.num.natAbs hxa HB.out.1 hj1) ?_
  rintro e w2 ⟨rfl, b2⟩
  replace hx0 := hx0.below b2
  replace hxa := hxa.below b2
  replace oP := oP.gone b2
  replace B := B.trans (b2.mono B.size)
  clear b2
  clear hxa
  have k1 := oP.cell (i := 0) rfl
  have k2 := oP.cell (i := 1) rfl
  have k3 := oP.cell (i := 2) rfl
  go_wp2_with fail
  clear k1 k2 k3
  refine Calls.mono (nunder_num _ _ x hx0) ?_
  rintro e w3 ⟨vu, rfl, hu, b3⟩
  replace hx0 := hx0.below b3
  replace oP := oP.gone b3
  replace B := B.trans (b3.mono B.size)
  clear b3
  go_wp2_with fail
  refine Calls.mono (nat_num _ 1 (by unfold b64; omega)) ?_
  rintro e w4 ⟨vo, rfl, ho, b4⟩
  replace hx0 := hx0.below b4
  replace oP := oP.gone b4
  replace hu := hu.below b4
  replace B := B.trans (b4.mono B.size)
  clear b4
  go_wp2_with fail
  have hc := order_num _ _ _ x.den 1 hu ho
  rw [HC.out] at hc
  refine Calls.mono (hc) ?_
  rintro e w5 ⟨rfl, b5⟩
  replace hx0 := hx0.below b5
  replace oP := oP.gone b5
  replace hu := hu.below b5
  replace ho := ho.below b5
  replace B := B.trans (b5.mono B.size)
  clear b5
  clear hc hu ho
  go_wp2
  go_ret
  exact ⟨rfl, B⟩

theorem ntext_num (w : World) (v : Value) (x : Rat) (hx : IsRef w v x) {j : Nat} (hj : BdR j x) (hj1 : j ≤ 100000000) : Calls Tryz.prog 75 #[v] w (RetIs w (.string (strOf (textR x)))) := by
  by_cases hn : x.num < 0
  · by_cases hd : x.den = 1
    · exact ntext_11 w v x hx hj hj1 hn hd
    · exact ntext_10 w v x hx hj hj1 hn hd
  · by_cases hd : x.den = 1
    · exact ntext_01 w v x hx hj hj1 hn hd
    · exact ntext_00 w v x hx hj hj1 hn hd
end Wx

namespace Wx
set_option maxRecDepth 100000
open Go Go.RowKit Go.Proofs

set_option maxHeartbeats 1000000 in
theorem is_yes (w : World) (vx vy : Value) (x : Rat) (hx : IsRat w vx x) (hy : IsRef w vy x) {j : Nat} (hj : BdR j x) (hj1 : j ≤ 100000000) : Calls Tryz.prog 25 #[vx, vy] w (RetIs w (.bool true)) := by
  obtain ⟨vx1, vx2, rfl, hxa, hxb⟩ := id hx
  obtain ⟨Ax1, cx1, rfl, _⟩ := id hxa
  obtain ⟨Ax2, cx2, rfl, _⟩ := id hxb
  obtain ⟨vy1, vy2, rfl, hya, hyb⟩ := id hy
  obtain ⟨Ay1, cy1, rfl, _⟩ := id hya
  obtain ⟨Ay2, cy2, rfl, _⟩ := id hyb
  have HB := bx hj
  have hx0 := hx
  have hy0 := hy

  clear hj hx hy
  go_enter Tryz.func25, Tryz.ntmps25
  go_wp2_with fail
  obtain ⟨w1, e1, o1, b1, s1⟩ := layA w [.bool (decide (x.num < 0)), .slice Ax1 (digs b64 x.num.natAbs).length cx1, .slice Ax2 (digs b64 (denOf x.den)).length cx2] 29
  obtain ⟨w2, e2, o2, b2, s2⟩ := layA w1 [.bool (decide (x.num < 0)), .slice Ay1 (digs b32 x.num.natAbs).length cy1, .slice Ay2 (digs b32 x.den).length cy2] 33
  rw [e1, e2]
  rw [s1] at o2
  have p1 := (o1.gone b2)
  have p2 := o2
  have B0 := (b1.trans (b2.mono b1.size))
  have hS : ∀ w', HeldQ w [(w.heap.size, [.bool (decide (x.num < 0)), .slice Ax1 (digs b64 x.num.natAbs).length cx1, .slice Ax2 (digs b64 (denOf x.den)).length cx2], 29), (w.heap.size + 1, [.bool (decide (x.num < 0)), .slice Ay1 (digs b32 x.num.natAbs).length cy1, .slice Ay2 (digs b32 x.den).length cy2], 33)] w' → HeldQ w [(w.heap.size, [.bool (decide (x.num < 0)), .slice Ax1 (digs b64 x.num.natAbs).length cx1, .slice Ax2 (digs b64 (denOf x.den)).length cx2], 29), (w.heap.size + 1, [.bool (decide (x.num < 0)), .slice Ay1 (digs b32 x.num.natAbs).length cy1, .slice Ay2 (digs b32 x.den).length cy2], 33)] w' ∧ w'.cell? ⟨w.heap.size, 0, none⟩ = some (.bool (decide (x.num < 0))) ∧ w'.cell? ⟨w.heap.size, 1, none⟩ = some (.slice Ax1 (digs b64 x.num.natAbs).length cx1) ∧ w'.cell? ⟨w.heap.size, 2, none⟩ = some (.slice Ax2 (digs b64 (denOf x.den)).length cx2) ∧ w'.cell? ⟨w.heap.size + 1, 0, none⟩ = some (.bool (decide (x.num < 0))) ∧ w'.cell? ⟨w.heap.size + 1, 1, none⟩ = some (.slice Ay1 (digs b32 x.num.natAbs).length cy1) ∧ w'.cell? ⟨w.heap.size + 1, 2, none⟩ = some (.slice Ay2 (digs b32 x.den).length cy2) := fun w' hh => by
    have r1 := hh.at_ (p := (w.heap.size, [.bool (decide (x.num < 0)), .slice Ax1 (digs b64 x.num.natAbs).length cx1, .slice Ax2 (digs b64 (denOf x.den)).length cx2], 29)) (by simp)
    have r2 := hh.at_ (p := (w.heap.size + 1, [.bool (decide (x.num < 0)), .slice Ay1 (digs b32 x.num.natAbs).length cy1, .slice Ay2 (digs b32 x.den).length cy2], 33)) (by simp)
    exact ⟨hh, r1.cell (i := 0) rfl, r1.cell (i := 1) rfl, r1.cell (i := 2) rfl, r2.cell (i := 0) rfl, r2.cell (i := 1) rfl, r2.cell (i := 2) rfl⟩
  have hz : HeldQ w [(w.heap.size, [.bool (decide (x.num < 0)), .slice Ax1 (digs b64 x.num.natAbs).length cx1, .slice Ax2 (digs b64 (denOf x.den)).length cx2], 29), (w.heap.size + 1, [.bool (decide (x.num < 0)), .slice Ay1 (digs b32 x.num.natAbs).length cy1, .slice Ay2 (digs b32 x.den).length cy2], 33)] w2 := ⟨B0, by intro q hq; simp at hq; rcases hq with rfl | rfl; exact p1; exact p2⟩
  clear e1 e2 o1 b1 s1 p1 o2 b2 s2 p2
  clear B0
  have hz := hz.drew
  go_region_held3 (fun w' => HeldQ w [(w.heap.size, [.bool (decide (x.num < 0)), .slice Ax1 (digs b64 x.num.natAbs).length cx1, .slice Ax2 (digs b64 (denOf x.den)).length cx2], 29), (w.heap.size + 1, [.bool (decide (x.num < 0)), .slice Ay1 (digs b32 x.num.natAbs).length cy1, .slice Ay2 (digs b32 x.den).length cy2], 33)] w' ∧ w'.cell? ⟨w.heap.size, 0, none⟩ = some (.bool (decide (x.num < 0))) ∧ w'.cell? ⟨w.heap.size, 1, none⟩ = some (.slice Ax1 (digs b64 x.num.natAbs).length cx1) ∧ w'.cell? ⟨w.heap.size, 2, none⟩ = some (.slice Ax2 (digs b64 (denOf x.den)).length cx2) ∧ w'.cell? ⟨w.heap.size + 1, 0, none⟩ = some (.bool (decide (x.num < 0))) ∧ w'.cell? ⟨w.heap.size + 1, 1, none⟩ = some (.slice Ay1 (digs b32 x.num.natAbs).length cy1) ∧ w'.cell? ⟨w.heap.size + 1, 2, none⟩ = some (.slice Ay2 (digs b32 x.den).length cy2))
    (exact hS _ hz)
    (first
      | (go_at_call 54; (with_reducible refine Calls.mono (rtext_num _ _ x (hx0.below hz.b) HB.out hj1) ?_); rintro e wz ⟨rfl, hb⟩; have hz := HeldQ.call (And.intro hz trivial) hb)
      | (go_at_call 75; (with_reducible refine Calls.mono (ntext_num _ _ x (hy0.below hz.b) HB.out hj1) ?_); rintro e wz ⟨rfl, hb⟩; have hz := HeldQ.call (And.intro hz trivial) hb))
  all_goals (
    go_wp2
    go_ret
    exact ⟨rfl, hz.b⟩)
end Wx

namespace Wx
open Go Go.RowKit Go.Proofs

theorem ret_fe {w : World} {q : Rat} {n : Int} {e : Ending} {w' : World} (h : RetFE w q n e w') : Ret (pTup2 (pRef q) (pI n)) w e w' := by
  obtain ⟨v, rfl, h1, h2⟩ := h
  exact ⟨_, rfl, ⟨v, _, rfl, h1, rfl⟩, h2⟩
theorem cn_add {x y : Rat} {j k : Nat} (hx : BdR j x) (hy : BdR k y) (h : j + k + j + k + 1 ≤ 10000000) : ∀ w v1 v2, pRef x w v1 → pRef y w v2 → Calls Tryz.prog 83 #[v1, v2] w (Ret (pRef (x + y)) w) :=
  fun w v1 v2 h1 h2 => nadd_num w v1 v2 x y h1 h2 hx hy h
theorem cn_sub {x y : Rat} {j k : Nat} (hx : BdR j x) (hy : BdR k y) (h : j + k + j + k + 1 ≤ 10000000) : ∀ w v1 v2, pRef x w v1 → pRef y w v2 → Calls Tryz.prog 85 #[v1, v2] w (Ret (pRef (x - y)) w) :=
  fun w v1 v2 h1 h2 => nsub_num w v1 v2 x y h1 h2 hx hy h
theorem cn_mul {x y : Rat} {j k : Nat} (hx : BdR j x) (hy : BdR k y) (h : j + k ≤ 10000000) : ∀ w v1 v2, pRef x w v1 → pRef y w v2 → Calls Tryz.prog 14 #[v1, v2] w (Ret (pRef (x * y)) w) :=
  fun w v1 v2 h1 h2 => nmul_num w v1 v2 x y h1 h2 hx hy h
theorem cn_div_ok {x y : Rat} {j k : Nat} (hx : BdR j x) (hy : BdR k y) (h : j + k ≤ 10000000) (h0 : y ≠ 0) : ∀ w v1 v2, pRef x w v1 → pRef y w v2 → Calls Tryz.prog 79 #[v1, v2] w (Ret (pTup2 (pRef (x / y)) (pI 0)) w) :=
  fun w v1 v2 h1 h2 => (ndiv_num w v1 v2 x y h1 h2 (fun h => h0 ((num_zero_iff y).1 (by omega))) hx hy h).mono fun _ _ => ret_fe
theorem cn_div {x y : Rat} {j k : Nat} (hx : BdR j x) (hy : BdR k y) (h : j + k ≤ 10000000) : ∀ w v1 v2, pRef x w v1 → pRef y w v2 → Calls Tryz.prog 79 #[v1, v2] w (Ret (pTup2 (pRef (x / y)) (pI (if y = 0 then 3 else 0))) w) := by
  by_cases h0 : y = 0
  · rw [if_pos h0, show x / y = 0 by rw [h0, Rat.div_def, Rat.inv_zero, Rat.mul_zero]]
    exact fun w v1 v2 h1 h2 => (ndiv_zero w v1 v2 x y h1 h2 h0).mono fun _ _ => ret_fe
  · rw [if_neg h0]; exact cn_div_ok hx hy h h0
theorem cn_neg (x : Rat) : ∀ w v1, pRef x w v1 → Calls Tryz.prog 74 #[v1] w (Ret (pRef (-x)) w) := fun w v1 h1 => nneg_num w v1 x h1
theorem cn_zero (x : Rat) : ∀ w v1, pRef x w v1 → Calls Tryz.prog 88 #[v1] w (Ret (pB (decide (x = 0))) w) := fun w v1 h1 => (nzero_num w v1 x h1).mono fun _ _ => ret_is
theorem cn_cmp {x y : Rat} {j k : Nat} (hx : BdR j x) (hy : BdR k y) (h : j + k + j + k + 1 ≤ 10000000) : ∀ w v1 v2, pRef x w v1 → pRef y w v2 → Calls Tryz.prog 113 #[v1, v2] w (Ret (pI (cmpT x y)) w) :=
  fun w v1 v2 h1 h2 => (ncmp_num w v1 v2 x y h1 h2 hx hy h).mono fun _ _ => ret_is
theorem cn_int (n : Int) (h1 : -9223372036854775808 ≤ n) (h2 : n ≤ 9223372036854775807) : ∀ w v1, pI n w v1 → Calls Tryz.prog 10 #[v1] w (Ret (pRef (n : Rat)) w) := fun w v1 h => by
  have h : v1 = .int .i64 n := h
  rw [h]
  exact nint_num w n h1 h2
theorem c_is {x y : Rat} {j : Nat} (hx : BdR j x) (hj : j ≤ 100000000) (h : x = y) : ∀ w v1 v2, pRat x w v1 → pRef y w v2 → Calls Tryz.prog 25 #[v1, v2] w (Ret (pB true) w) := fun w v1 v2 h1 h2 => by
  subst h
  exact (is_yes w v1 v2 x h1 h2 hx hj).mono fun _ _ => ret_is
end Wx

namespace Wx

def floorR (q : Rat) : Rat := redR (decide (q.num < 0)) (q.num.natAbs / q.den + (if q.num < 0 ∧ 0 < q.num.natAbs % q.den then 1 else 0)) 1
theorem sg_floor (z : Int) (d : Nat) (hd : 0 < d) : sg (decide (z < 0)) (z.natAbs / d + (if z < 0 ∧ 0 < z.natAbs % d then 1 else 0)) = z / (d : Int) := by
  have h1 := Nat.div_add_mod z.natAbs d
  have h2 := Nat.mod_lt z.natAbs hd
  have h3 := Int.mul_ediv_add_emod z (d : Int)
  have h4 := Int.emod_nonneg z (show (d : Int) ≠ 0 by omega)
  have h5 := Int.emod_lt_of_pos z (show (0 : Int) < (d : Int) by omega)
  by_cases hz : z < 0
  · rw [decide_eq_true hz]
    simp only [sg, if_true]
    have e : z = -((z.natAbs : Nat) : Int) := by omega
    generalize z.natAbs = m at *
    subst e
    rcases Nat.eq_zero_or_pos (m % d) with h0 | h0
    · rw [if_neg (by omega), Nat.add_zero]
      symm
      have e2 : -((m : Nat) : Int) = (d : Int) * (-((m / d : Nat) : Int)) := by
        have : (m : Int) = (d : Int) * ((m / d : Nat) : Int) := by rw [← Int.natCast_mul]; omega
        rw [Int.mul_neg, ← this]
      rw [e2, Int.mul_ediv_cancel_left _ (by omega)]
    · rw [if_pos ⟨hz, h0⟩]
      symm
      have e2 : -((m : Nat) : Int) = (d : Int) * (-((m / d + 1 : Nat) : Int)) + ((d - m % d : Nat) : Int) := by
        have h6 : (m : Int) = (d : Int) * ((m / d : Nat) : Int) + ((m % d : Nat) : Int) := by rw [← Int.natCast_mul]; omega
        rw [Int.natCast_add, Int.neg_add, Int.mul_add, Int.mul_neg]
        omega
      rw [e2, Int.add_comm, Int.add_mul_ediv_left _ _ (by omega), Int.ediv_eq_zero_of_lt (by omega) (by omega)]
      omega
  · rw [decide_eq_false hz, if_neg (by omega), Nat.add_zero]
    simp only [sg, Bool.false_eq_true, if_false]
    have e : z = ((z.natAbs : Nat) : Int) := by omega
    generalize z.natAbs = m at *
    subst e
    exact Int.natCast_ediv m d
theorem floor_div (n : Int) (d : Nat) (hd : 0 < d) : ((n : Rat) / (d : Rat)).floor = n / (d : Int) := by
  have hd' : (0 : Rat) < ((d : Nat) : Rat) := by exact_mod_cast hd
  have key : ∀ z : Int, z ≤ ((n : Rat) / (d : Rat)).floor ↔ z ≤ n / (d : Int) := by
    intro z
    rw [Rat.le_floor_iff, Int.le_ediv_iff_mul_le (by omega)]
    rw [← Rat.not_lt, Rat.div_lt_iff hd']
    have e : (z : Rat) * ((d : Nat) : Rat) = ((z * (d : Int) : Int) : Rat) := by rw [Rat.intCast_mul, Rat.intCast_natCast]
    rw [e, Rat.intCast_lt_intCast]
    omega
  exact Int.le_antisymm ((key _).1 (Int.le_refl _)) ((key _).2 (Int.le_refl _))
theorem num_div_den (q : Rat) : (q.num : Rat) / ((q.den : Nat) : Rat) = q := by rw [← Rat.mkRat_eq_div, Rat.mkRat_self]
theorem floor_num_den (q : Rat) : q.floor = q.num / (q.den : Int) := by
  have := floor_div q.num q.den q.den_pos
  rwa [num_div_den] at this
theorem floorR_eq (q : Rat) : floorR q = (q.floor : Rat) := by
  unfold floorR redR
  rw [sg_floor _ _ q.den_pos, Rat.mkRat_one, floor_num_den]
end Wx

namespace Wx
open Go

def wholeB (q : Rat) : Bool := decide (q.den = 1) && decide (-9223372036854775808 ≤ q.num ∧ q.num ≤ 9223372036854775807)
def wholeZ (q : Rat) : Int := if wholeB q then q.num else 0
theorem whole_int {z : Int} (h1 : -9223372036854775808 ≤ z) (h2 : z ≤ 9223372036854775807) : wholeB (z : Rat) = true ∧ wholeZ (z : Rat) = z := by
  have h : wholeB (z : Rat) = true := by
    unfold wholeB
    rw [Rat.num_intCast, Rat.den_intCast, decide_eq_true rfl, decide_eq_true ⟨h1, h2⟩]; rfl
  refine ⟨h, ?_⟩
  unfold wholeZ
  rw [if_pos h, Rat.num_intCast]
theorem whole_yes {q : Rat} (hd : q.den = 1) (h1 : -9223372036854775808 ≤ q.num) (h2 : q.num ≤ 9223372036854775807) : wholeB q = true ∧ wholeZ q = q.num := by
  have h : wholeB q = true := by
    unfold wholeB
    rw [decide_eq_true hd, decide_eq_true ⟨h1, h2⟩]; rfl
  exact ⟨h, by unfold wholeZ; rw [if_pos h]⟩
theorem whole_den {q : Rat} (hd : q.den ≠ 1) : wholeB q = false ∧ wholeZ q = 0 := by
  have h : wholeB q = false := by unfold wholeB; rw [decide_eq_false hd]; rfl
  exact ⟨h, by unfold wholeZ; rw [h]; rfl⟩
theorem whole_big {q : Rat} (h' : q.num < -9223372036854775808 ∨ 9223372036854775807 < q.num) : wholeB q = false ∧ wholeZ q = 0 := by
  have h : wholeB q = false := by
    unfold wholeB
    rw [decide_eq_false (p := _ ∧ _) (by omega), Bool.and_false]
  exact ⟨h, by unfold wholeZ; rw [h]; rfl⟩
end Wx

namespace Wx
open Go Go.RowKit Go.Proofs

def RetWhole (w : World) (q : Rat) (e : Ending) (w' : World) : Prop := e = .returned (.tuple #[.int .i64 (wholeZ q), .bool (wholeB q)]) ∧ Below w.heap.size w w'
theorem ret_whole {w w' : World} {q : Rat} {z : Int} {b : Bool} (h : wholeB q = b ∧ wholeZ q = z) (hb : Below w.heap.size w w') : RetWhole w q (.returned (.tuple #[.int .i64 z, .bool b])) w' := by
  unfold RetWhole
  rw [h.1, h.2]
  exact ⟨rfl, hb⟩
theorem natAbs_neg {z : Int} {n : Nat} (h : z.natAbs = n) (hn : z < 0) : z = -(n : Int) := by omega
theorem natAbs_pos {z : Int} {n : Nat} (h : z.natAbs = n) (hn : ¬ z < 0) : z = (n : Int) := by omega

end Wx

namespace Wx
open Go Go.RowKit Go.Proofs

def absR (q : Rat) : Rat := if q.num < 0 then -q else q
theorem absR_num (q : Rat) : (absR q).num.natAbs = q.num.natAbs ∧ (absR q).den = q.den ∧ decide ((absR q).num < 0) = false := by
  unfold absR
  split
  · next h => exact ⟨by rw [Rat.neg_num, Int.natAbs_neg], rfl, by rw [Rat.neg_num]; exact decide_eq_false (by omega)⟩
  · next h => exact ⟨rfl, rfl, decide_eq_false h⟩
end Wx

namespace Wx
set_option maxRecDepth 100000
open Go Go.RowKit Go.Proofs

set_option maxHeartbeats 1000000 in
theorem nabs_num (w : World) (vx : Value) (x : Rat) (hx : IsRef w vx x) : Calls Tryz.prog 114 #[vx] w (RetRef w (absR x)) := by
  obtain ⟨vx1, vx2, rfl, hxa, hxb⟩ := id hx
  obtain ⟨Ax1, cx1, rfl, _⟩ := id hxa
  obtain ⟨Ax2, cx2, rfl, _⟩ := id hxb
  obtain ⟨a1, a2, a3⟩ := absR_num x
  go_enter Tryz.func114, Tryz.ntmps114
  go_wp2
  obtain ⟨w1, e1, o1, b1, s1⟩ := layA w [.bool (decide (x.num < 0)), .slice Ax1 (digs b32 x.num.natAbs).length cx1, .slice Ax2 (digs b32 x.den).length cx2] 33
  obtain ⟨w2, e2, o2, b2, s2⟩ := layA w1 [.bool false, .slice Ax1 (digs b32 x.num.natAbs).length cx1, .slice Ax2 (digs b32 x.den).length cx2] 33
  rw [e1, e2]
  rw [s1] at o2
  have f0 := o2.cell (i := 0) rfl
  have f1 := o2.cell (i := 1) rfl
  have f2 := o2.cell (i := 2) rfl
  have B := b1.trans (b2.mono b1.size)
  refine bodyPost_ret (by simp [results, Tryz.results114, go_sem, f0, f1, f2]; try rfl) rfl ?_
  exact ⟨_, rfl, ⟨_, _, by rw [a3], by rw [a1]; exact hxa.below B, by rw [a2]; exact hxb.below B⟩, B⟩
end Wx

namespace Wx

def pw (k : Nat) : Rat := ((2 ^ k : Nat) : Rat)
theorem pw_pos (k : Nat) : 0 < pw k := by
  unfold pw
  exact_mod_cast Nat.two_pow_pos k
end Wx
