import Derived.Test.YtioicklnneebnaaGreatProg
import Derived.Handy
import Derived.Laws.IdiomStrings
import Derived.Test.YtioicklnneebnaaGreatPlain1
import Derived.Test.YtioicklnneebnaaGreatMem
import Derived.Test.YtioicklnneebnaaGreatJRounds3
import Derived.Test.YtioicklnneebnaaGreatJRounds31
import Derived.Test.YtioicklnneebnaaGreatJRounds45
import Derived.Test.YtioicklnneebnaaGreatJRounds38
import Derived.Test.YtioicklnneebnaaGreatCRat1
import Derived.Test.YtioicklnneebnaaGreatCRat2
import Derived.Test.YtioicklnneebnaaGreatJRounds23
import Derived.Test.YtioicklnneebnaaGreatJRounds25
import Derived.Test.YtioicklnneebnaaGreatJRounds26
import Derived.Test.YtioicklnneebnaaGreatCText
import Derived.Test.YtioicklnneebnaaGreatJRounds29
namespace Wx
open Go Go.RowKit Go.Proofs

set_option maxRecDepth 100000 in
set_option maxHeartbeats 1000000 in
theorem ntext_00 (w : World) (v : Value) (x : Rat) (hx : IsRef w v x) {j : Nat} (hj : BdR j x) (hj1 : j ≤ 100000000) (hn : ¬ x.num < 0) (hd : ¬ x.den = 1) : Calls Tryz.prog 37 #[v] w (RetIs w (.string (strOf (textR x)))) := by
  obtain ⟨vx1, vx2, rfl, hxa, hxb⟩ := id hx
  obtain ⟨Ax1, cx1, rfl, _⟩ := id hxa
  obtain ⟨Ax2, cx2, rfl, _⟩ := id hxb
  have HB := bx hj
  have hx0 := hx
  clear hx
  have hT : textR x = textB x.num.natAbs ++ 47 :: textB x.den := by unfold textR; rw [if_neg hn, if_neg hd]; simp
  rw [hT]
  rw [decide_eq_false hn] at hx0
  try rw [decide_eq_false hn]
  have hc : cmpI x.den 1 = 1 := by unfold cmpI; have := x.den_pos; rw [if_neg (by omega), if_pos (by omega)]
  have HC := bx hc
  have hl1 := textB_len hj.1
  have hl2 := textB_len hj.2
  have hz1 := strOf_size (textB x.num.natAbs)
  have hz2 := strOf_size (textB x.den)
  have hy2 : strOf (textB x.num.natAbs) ++ (⟨#[47]⟩ : ByteArray) = strOf (textB x.num.natAbs ++ [47]) := strOf_append (textB x.num.natAbs) [47]
  have hz5 : (strOf (textB x.num.natAbs ++ [47])).size = (textB x.num.natAbs).length + 1 := by rw [strOf_size]; simp
  have hy3 := strOf_append (textB x.num.natAbs ++ [47]) (textB x.den)
  have hq2 : (textB x.num.natAbs).length + 1 ≤ 9223372036854775807 := by omega
  have hq3 : (textB x.num.natAbs).length + 1 + 1 ≤ 9223372036854775807 := by omega
  have hq4 : (textB x.num.natAbs).length + 1 + (textB x.den).length ≤ 9223372036854775807 := by omega
  have hq5 : (textB x.num.natAbs).length + 1 + 1 + (textB x.den).length ≤ 9223372036854775807 := by omega
  have HY3 := bx hy3
  clear hy3
  clear hj hn hd hT hl1 hl2 hc hxb
  go_enter Tryz.func37, Tryz.ntmps37
  go_wp2_with fail
  obtain ⟨w1, e1, oP, b1, s1⟩ := layA w [.bool false, .slice Ax1 (digs b32 x.num.natAbs).length cx1, .slice Ax2 (digs b32 x.den).length cx2] 31
  rw [e1]
  clear e1
  replace hx0 := hx0.below b1
  replace hxa := hxa.below b1
  have B := b1
  clear b1
  refine Calls.mono (ndigits_num _ _ x.num.natAbs hxa HB.out.1 hj1) ?_
  rintro e w2 ⟨rfl, b2⟩
  replace hx0 := hx0.below b2
  replace hxa := hxa.below b2
  replace oP := oP.gone b2
  replace B := B.trans (b2.mono B.size)
  clear b2
  clear hxa
  have k1 := oP.cell (i := 0) rfl
  have k2 := oP.cell (i := 1) rfl
  have k3 := oP.cell (i := 2) rfl
  go_wp2_with fail
  clear k1 k2 k3
  refine Calls.mono (nunder_num _ _ x hx0) ?_
  rintro e w3 ⟨vu, rfl, hu, b3⟩
  replace hx0 := hx0.below b3
  replace oP := oP.gone b3
  replace B := B.trans (b3.mono B.size)
  clear b3
  go_wp2_with fail
  refine Calls.mono (nat_num _ 1 (by unfold b64; omega)) ?_
  rintro e w4 ⟨vo, rfl, ho, b4⟩
  replace hx0 := hx0.below b4
  replace oP := oP.gone b4
  replace hu := hu.below b4
  replace B := B.trans (b4.mono B.size)
  clear b4
  go_wp2_with fail
  have hc := order_num _ _ _ x.den 1 hu ho
  rw [HC.out] at hc
  refine Calls.mono (hc) ?_
  rintro e w5 ⟨rfl, b5⟩
  replace hx0 := hx0.below b5
  replace oP := oP.gone b5
  replace hu := hu.below b5
  replace ho := ho.below b5
  replace B := B.trans (b5.mono B.size)
  clear b5
  clear hc hu ho
  have k4 := oP.cell (i := 0) rfl
  have k5 := oP.cell (i := 1) rfl
  have k6 := oP.cell (i := 2) rfl
  go_wp2_with fail
  clear k4 k5 k6
  refine Calls.mono (nunder_num _ _ x hx0) ?_
  rintro e w6 ⟨vu, rfl, hu, b6⟩
  replace hx0 := hx0.below b6
  replace oP := oP.gone b6
  replace B := B.trans (b6.mono B.size)
  clear b6
  go_wp2_with fail
  refine Calls.mono (ndigits_num _ _ x.den hu HB.out.2 hj1) ?_
  rintro e w7 ⟨rfl, b7⟩
  replace hx0 := hx0.below b7
  replace oP := oP.gone b7
  replace hu := hu.below b7
  replace B := B.trans (b7.mono B.size)
  clear b7
  go_wp2
  go_ret
  rw [HY3.out]
  refine ⟨?_, B⟩
  simp

set_option maxRecDepth 100000 in
set_option maxHeartbeats 1000000 in
theorem ntext_01 (w : World) (v : Value) (x : Rat) (hx : IsRef w v x) {j : Nat} (hj : BdR j x) (hj1 : j ≤ 100000000) (hn : ¬ x.num < 0) (hd :  x.den = 1) : Calls Tryz.prog 37 #[v] w (RetIs w (.string (strOf (textR x)))) := by
  obtain ⟨vx1, vx2, rfl, hxa, hxb⟩ := id hx
  obtain ⟨Ax1, cx1, rfl, _⟩ := id hxa
  obtain ⟨Ax2, cx2, rfl, _⟩ := id hxb
  have HB := bx hj
  have hx0 := hx
  clear hx
  have hT : textR x = textB x.num.natAbs := by unfold textR; rw [if_neg hn, if_pos hd]; simp
  rw [hT]
  rw [decide_eq_false hn] at hx0
  try rw [decide_eq_false hn]
  have hc : cmpI x.den 1 = 0 := by unfold cmpI; have := x.den_pos; rw [if_neg (by omega), if_neg (by omega)]
  have HC := bx hc
  have hl1 := textB_len hj.1
  have hl2 := textB_len hj.2
  have hz1 := strOf_size (textB x.num.natAbs)
  have hz2 := strOf_size (textB x.den)
  clear hj hn hd hT hl1 hl2 hc hxb
  go_enter Tryz.func37, Tryz.ntmps37
  go_wp2_with fail
  obtain ⟨w1, e1, oP, b1, s1⟩ := layA w [.bool false, .slice Ax1 (digs b32 x.num.natAbs).length cx1, .slice Ax2 (digs b32 x.den).length cx2] 31
  rw [e1]
  clear e1
  replace hx0 := hx0.below b1
  replace hxa := hxa.below b1
  have B := b1
  clear b1
  refine Calls.mono (ndigits_num _ _ x.num.natAbs hxa HB.out.1 hj1) ?_
  rintro e w2 ⟨rfl, b2⟩
  replace hx0 := hx0.below b2
  replace hxa := hxa.below b2
  replace oP := oP.gone b2
  replace B := B.trans (b2.mono B.size)
  clear b2
  clear hxa
  have k1 := oP.cell (i := 0) rfl
  have k2 := oP.cell (i := 1) rfl
  have k3 := oP.cell (i := 2) rfl
  go_wp2_with fail
  clear k1 k2 k3
  refine Calls.mono (nunder_num _ _ x hx0) ?_
  rintro e w3 ⟨vu, rfl, hu, b3⟩
  replace hx0 := hx0.below b3
  replace oP := oP.gone b3
  replace B := B.trans (b3.mono B.size)
  clear b3
  go_wp2_with fail
  refine Calls.mono (nat_num _ 1 (by unfold b64; omega)) ?_
  rintro e w4 ⟨vo, rfl, ho, b4⟩
  replace hx0 := hx0.below b4
  replace oP := oP.gone b4
  replace hu := hu.below b4
  replace B := B.trans (b4.mono B.size)
  clear b4
  go_wp2_with fail
  have hc := order_num _ _ _ x.den 1 hu ho
  rw [HC.out] at hc
  refine Calls.mono (hc) ?_
  rintro e w5 ⟨rfl, b5⟩
  replace hx0 := hx0.below b5
  replace oP := oP.gone b5
  replace hu := hu.below b5
  replace ho := ho.below b5
  replace B := B.trans (b5.mono B.size)
  clear b5
  clear hc hu ho
  go_wp2
  go_ret
  exact ⟨rfl, B⟩

set_option maxRecDepth 100000 in
set_option maxHeartbeats 1000000 in
theorem ntext_10 (w : World) (v : Value) (x : Rat) (hx : IsRef w v x) {j : Nat} (hj : BdR j x) (hj1 : j ≤ 100000000) (hn :  x.num < 0) (hd : ¬ x.den = 1) : Calls Tryz.prog 37 #[v] w (RetIs w (.string (strOf (textR x)))) := by
  obtain ⟨vx1, vx2, rfl, hxa, hxb⟩ := id hx
  obtain ⟨Ax1, cx1, rfl, _⟩ := id hxa
  obtain ⟨Ax2, cx2, rfl, _⟩ := id hxb
  have HB := bx hj
  have hx0 := hx
  clear hx
  have hT : textR x = 45 :: (textB x.num.natAbs ++ 47 :: textB x.den) := by unfold textR; rw [if_pos hn, if_neg hd]; simp
  rw [hT]
  rw [decide_eq_true hn] at hx0
  try rw [decide_eq_true hn]
  have hc : cmpI x.den 1 = 1 := by unfold cmpI; have := x.den_pos; rw [if_neg (by omega), if_pos (by omega)]
  have HC := bx hc
  have hl1 := textB_len hj.1
  have hl2 := textB_len hj.2
  have hz1 := strOf_size (textB x.num.natAbs)
  have hz2 := strOf_size (textB x.den)
  have hy1 := cat_minus (textB x.num.natAbs)
  have hz4 := strOf_size (45 :: textB x.num.natAbs)
  have hq1 : 1 + (textB x.num.natAbs).length ≤ 9223372036854775807 := by omega
  have hy2 : strOf (45 :: textB x.num.natAbs) ++ (⟨#[47]⟩ : ByteArray) = strOf (45 :: (textB x.num.natAbs ++ [47])) := strOf_append (45 :: textB x.num.natAbs) [47]
  have hz5 : (strOf (45 :: (textB x.num.natAbs ++ [47]))).size = (textB x.num.natAbs).length + 1 + 1 := by rw [strOf_size]; simp
  have hy3 := strOf_append (45 :: (textB x.num.natAbs ++ [47])) (textB x.den)
  have hq2 : (textB x.num.natAbs).length + 1 ≤ 9223372036854775807 := by omega
  have hq3 : (textB x.num.natAbs).length + 1 + 1 ≤ 9223372036854775807 := by omega
  have hq4 : (textB x.num.natAbs).length + 1 + (textB x.den).length ≤ 9223372036854775807 := by omega
  have hq5 : (textB x.num.natAbs).length + 1 + 1 + (textB x.den).length ≤ 9223372036854775807 := by omega
  have HY3 := bx hy3
  clear hy3
  clear hj hn hd hT hl1 hl2 hc hxb
  go_enter Tryz.func37, Tryz.ntmps37
  go_wp2_with fail
  obtain ⟨w1, e1, oP, b1, s1⟩ := layA w [.bool true, .slice Ax1 (digs b32 x.num.natAbs).length cx1, .slice Ax2 (digs b32 x.den).length cx2] 31
  rw [e1]
  clear e1
  replace hx0 := hx0.below b1
  replace hxa := hxa.below b1
  have B := b1
  clear b1
  refine Calls.mono (ndigits_num _ _ x.num.natAbs hxa HB.out.1 hj1) ?_
  rintro e w2 ⟨rfl, b2⟩
  replace hx0 := hx0.below b2
  replace hxa := hxa.below b2
  replace oP := oP.gone b2
  replace B := B.trans (b2.mono B.size)
  clear b2
  clear hxa
  have k1 := oP.cell (i := 0) rfl
  have k2 := oP.cell (i := 1) rfl
  have k3 := oP.cell (i := 2) rfl
  go_wp2_with fail
  clear k1 k2 k3
  refine Calls.mono (nunder_num _ _ x hx0) ?_
  rintro e w3 ⟨vu, rfl, hu, b3⟩
  replace hx0 := hx0.below b3
  replace oP := oP.gone b3
  replace B := B.trans (b3.mono B.size)
  clear b3
  go_wp2_with fail
  refine Calls.mono (nat_num _ 1 (by unfold b64; omega)) ?_
  rintro e w4 ⟨vo, rfl, ho, b4⟩
  replace hx0 := hx0.below b4
  replace oP := oP.gone b4
  replace hu := hu.below b4
  replace B := B.trans (b4.mono B.size)
  clear b4
  go_wp2_with fail
  have hc := order_num _ _ _ x.den 1 hu ho
  rw [HC.out] at hc
  refine Calls.mono (hc) ?_
  rintro e w5 ⟨rfl, b5⟩
  replace hx0 := hx0.below b5
  replace oP := oP.gone b5
  replace hu := hu.below b5
  replace ho := ho.below b5
  replace B := B.trans (b5.mono B.size)
  clear b5
  clear hc hu ho
  have k4 := oP.cell (i := 0) rfl
  have k5 := oP.cell (i := 1) rfl
  have k6 := oP.cell (i := 2) rfl
  go_wp2_with fail
  clear k4 k5 k6
  refine Calls.mono (nunder_num _ _ x hx0) ?_
  rintro e w6 ⟨vu, rfl, hu, b6⟩
  replace hx0 := hx0.below b6
  replace oP := oP.gone b6
  replace B := B.trans (b6.mono B.size)
  clear b6
  go_wp2_with fail
  refine Calls.mono (ndigits_num _ _ x.den hu HB.out.2 hj1) ?_
  rintro e w7 ⟨rfl, b7⟩
  replace hx0 := hx0.below b7
  replace oP := oP.gone b7
  replace hu := hu.below b7
  replace B := B.trans (b7.mono B.size)
  clear b7
  go_wp2
  go_ret
  rw [HY3.out]
  refine ⟨?_, B⟩
  simp

set_option maxRecDepth 100000 in
set_option maxHeartbeats 1000000 in
theorem ntext_11 (w : World) (v : Value) (x : Rat) (hx : IsRef w v x) {j : Nat} (hj : BdR j x) (hj1 : j ≤ 100000000) (hn :  x.num < 0) (hd :  x.den = 1) : Calls Tryz.prog 37 #[v] w (RetIs w (.string (strOf (textR x)))) := by
  obtain ⟨vx1, vx2, rfl, hxa, hxb⟩ := id hx
  obtain ⟨Ax1, cx1, rfl, _⟩ := id hxa
  obtain ⟨Ax2, cx2, rfl, _⟩ := id hxb
  have HB := bx hj
  have hx0 := hx
  clear hx
  have hT : textR x = 45 :: (textB x.num.natAbs) := by unfold textR; rw [if_pos hn, if_pos hd]; simp
  rw [hT]
  rw [decide_eq_true hn] at hx0
  try rw [decide_eq_true hn]
  have hc : cmpI x.den 1 = 0 := by unfold cmpI; have := x.den_pos; rw [if_neg (by omega), if_neg (by omega)]
  have HC := bx hc
  have hl1 := textB_len hj.1
  have hl2 := textB_len hj.2
  have hz1 := strOf_size (textB x.num.natAbs)
  have hz2 := strOf_size (textB x.den)
  have hy1 := cat_minus (textB x.num.natAbs)
  have hz4 := strOf_size (45 :: textB x.num.natAbs)
  have hq1 : 1 + (textB x.num.natAbs).length ≤ 9223372036854775807 := by omega
  clear hj hn hd hT hl1 hl2 hc hxb
  go_enter Tryz.func37, Tryz.ntmps37
  go_wp2_with fail
  obtain ⟨w1, e1, oP, b1, s1⟩ := layA w [.bool true, .slice Ax1 (digs b32 x.num.natAbs).length cx1, .slice Ax2 (digs b32 x.den).length cx2] 31
  rw [e1]
  clear e1
  replace hx0 := hx0.below b1
  replace hxa := hxa.below b1
  have B := b1
  clear b1
  refine Calls.mono (ndigits_num _ _ x.num.natAbs hxa HB.out.1 hj1) ?_
  rintro e w2 ⟨rfl, b2⟩
  replace hx0 := hx0.below b2
  replace hxa := hxa.below b2
  replace oP := oP.gone b2
  replace B := B.trans (b2.mono B.size)
  clear b2
  clear hxa
  have k1 := oP.cell (i := 0) rfl
  have k2 := oP.cell (i := 1) rfl
  have k3 := oP.cell (i := 2) rfl
  go_wp2_with fail
  clear k1 k2 k3
  refine Calls.mono (nunder_num _ _ x hx0) ?_
  rintro e w3 ⟨vu, rfl, hu, b3⟩
  replace hx0 := hx0.below b3
  replace oP := oP.gone b3
  replace B := B.trans (b3.mono B.size)
  clear b3
  go_wp2_with fail
  refine Calls.mono (nat_num _ 1 (by unfold b64; omega)) ?_
  rintro e w4 ⟨vo, rfl, ho, b4⟩
  replace hx0 := hx0.below b4
  replace oP := oP.gone b4
  replace hu := hu.below b4
  replace B := B.trans (b4.mono B.size)
  clear b4
  go_wp2_with fail
  have hc := order_num _ _ _ x.den 1 hu ho
  rw [HC.out] at hc
  refine Calls.mono (hc) ?_
  rintro e w5 ⟨rfl, b5⟩
  replace hx0 := hx0.below b5
  replace oP := oP.gone b5
  replace hu := hu.below b5
  replace ho := ho.below b5
  replace B := B.trans (b5.mono B.size)
  clear b5
  clear hc hu ho
  go_wp2
  go_ret
  exact ⟨rfl, B⟩

theorem ntext_num (w : World) (v : Value) (x : Rat) (hx : IsRef w v x) {j : Nat} (hj : BdR j x) (hj1 : j ≤ 100000000) : Calls Tryz.prog 37 #[v] w (RetIs w (.string (strOf (textR x)))) := by
  by_cases hn : x.num < 0
  · by_cases hd : x.den = 1
    · exact ntext_11 w v x hx hj hj1 hn hd
    · exact ntext_10 w v x hx hj hj1 hn hd
  · by_cases hd : x.den = 1
    · exact ntext_01 w v x hx hj hj1 hn hd
    · exact ntext_00 w v x hx hj hj1 hn hd
end Wx
