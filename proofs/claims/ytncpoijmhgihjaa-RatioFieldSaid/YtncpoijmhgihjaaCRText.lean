import Derived.Test.YtncpoijmhgihjaaProg
import Derived.Handy
import Derived.Laws.IdiomStrings
import Derived.Test.YtncpoijmhgihjaaPlain1
import Derived.Test.YtncpoijmhgihjaaMem
import Derived.Test.YtncpoijmhgihjaaJField3
import Derived.Test.YtncpoijmhgihjaaCRat1
import Derived.Test.YtncpoijmhgihjaaCRat2
import Derived.Test.YtncpoijmhgihjaaJField27
import Derived.Test.YtncpoijmhgihjaaCText
namespace Wx
open Go Go.RowKit Go.Proofs

/-- The text of a ratio. -/
def textR (q : Rat) : List Nat := (if q.num < 0 then [45] else []) ++ (textB q.num.natAbs ++ (if q.den = 1 then [] else 47 :: textB q.den))
theorem textB_len {j n : Nat} (h : Bd j n) : (textB n).length ≤ j + 1 := by
  unfold textB
  split
  · simp
  · have := decL_of h; unfold decL at this; omega
theorem cat_minus (l : List Nat) : (⟨#[45]⟩ : ByteArray) ++ strOf l = strOf (45 :: l) := strOf_append [45] l
theorem cat_slash (l : List Nat) : (⟨#[47]⟩ : ByteArray) ++ strOf l = strOf (47 :: l) := strOf_append [47] l
set_option maxRecDepth 100000 in
set_option maxHeartbeats 1000000 in
theorem rtext_00 (w : World) (v : Value) (x : Rat) (hx : IsRat w v x) {j : Nat} (hj : BdR j x) (hj1 : j ≤ 100000000) (hn : ¬ x.num < 0) (hd : ¬ x.den = 1) : Calls Try.prog 14 #[v] w (RetIs w (.string (strOf (textR x)))) := by
  obtain ⟨vx1, vx2, rfl, hxa, hxb⟩ := id hx
  obtain ⟨Ax1, cx1, rfl, _⟩ := id hxa
  obtain ⟨Ax2, cx2, rfl, _⟩ := id hxb
  have HB := bx hj
  have hT : textR x = textB x.num.natAbs ++ 47 :: textB x.den := by unfold textR; rw [if_neg hn, if_neg hd]; simp
  rw [hT, decide_eq_false hn] at *
  rw [denOf_ne hd] at *
  have hld : (1 : Int) ≤ ((digs b64 x.den).length : Int) := by have := (digs_length_pos (n := x.den) two_le_b64).2 x.den_pos; omega
  have hl2 := textB_len hj.2
  have hz2 := strOf_size (textB x.den)
  have hy2 := cat_slash (textB x.den)
  have hz3 := strOf_size (47 :: textB x.den)
  have hy3 := strOf_append (textB x.num.natAbs) (47 :: textB x.den)
  have hl1 := textB_len hj.1
  have hz1 := strOf_size (textB x.num.natAbs)
  have hq2 : 1 + (textB x.den).length ≤ 9223372036854775807 := by omega
  have hq3 : (textB x.num.natAbs).length + ((textB x.den).length + 1) ≤ 9223372036854775807 := by omega
  clear hj hn hd hT hl1 hl2
  go_enter Try.func14, Try.ntmps14
  go_wp2_with fail
  obtain ⟨w1, e1, o1, b1, s1⟩ := lay3 w (.bool false) (.slice Ax1 (digs b64 x.num.natAbs).length cx1) (.slice Ax2 (digs b64 x.den).length cx2) 27
  rw [e1]
  clear e1
  refine Calls.mono (text_num w1 _ _ (hxa.below b1) HB.out.1 hj1) ?_
  rintro e w2 ⟨rfl, hb2⟩
  have k0 := (o1.gone hb2).c0
  have k1 := (o1.gone hb2).c1
  have k2 := (o1.gone hb2).c2
  have hxb2 := (hxb.below b1).below hb2
  have B2 := b1.trans (hb2.mono b1.size)
  go_wp2_with fail
  refine Calls.mono (text_num w2 _ _ hxb2 HB.out.2 hj1) ?_
  rintro e w3 ⟨rfl, hb3⟩
  go_wp2
  go_ret
  exact ⟨rfl, B2.trans (hb3.mono B2.size)⟩

set_option maxRecDepth 100000 in
set_option maxHeartbeats 1000000 in
theorem rtext_01 (w : World) (v : Value) (x : Rat) (hx : IsRat w v x) {j : Nat} (hj : BdR j x) (hj1 : j ≤ 100000000) (hn : ¬ x.num < 0) (hd :  x.den = 1) : Calls Try.prog 14 #[v] w (RetIs w (.string (strOf (textR x)))) := by
  obtain ⟨vx1, vx2, rfl, hxa, hxb⟩ := id hx
  obtain ⟨Ax1, cx1, rfl, _⟩ := id hxa
  obtain ⟨Ax2, cx2, rfl, _⟩ := id hxb
  have HB := bx hj
  have hT : textR x = textB x.num.natAbs := by unfold textR; rw [if_neg hn, if_pos hd]; simp
  rw [hT, decide_eq_false hn] at *
  rw [hd, denOf_one, digs_zero] at *
  have hl1 := textB_len hj.1
  have hz1 := strOf_size (textB x.num.natAbs)
  clear hj hn hd hT hl1
  go_enter Try.func14, Try.ntmps14
  go_wp2_with fail
  obtain ⟨w1, e1, o1, b1, s1⟩ := lay3 w (.bool false) (.slice Ax1 (digs b64 x.num.natAbs).length cx1) (.slice Ax2 0 cx2) 27
  rw [e1]
  clear e1
  refine Calls.mono (text_num w1 _ _ (hxa.below b1) HB.out.1 hj1) ?_
  rintro e w2 ⟨rfl, hb2⟩
  have k0 := (o1.gone hb2).c0
  have k1 := (o1.gone hb2).c1
  have k2 := (o1.gone hb2).c2
  have hxb2 := (hxb.below b1).below hb2
  have B2 := b1.trans (hb2.mono b1.size)
  go_wp2
  go_ret
  exact ⟨rfl, B2⟩

set_option maxRecDepth 100000 in
set_option maxHeartbeats 1000000 in
theorem rtext_10 (w : World) (v : Value) (x : Rat) (hx : IsRat w v x) {j : Nat} (hj : BdR j x) (hj1 : j ≤ 100000000) (hn :  x.num < 0) (hd : ¬ x.den = 1) : Calls Try.prog 14 #[v] w (RetIs w (.string (strOf (textR x)))) := by
  obtain ⟨vx1, vx2, rfl, hxa, hxb⟩ := id hx
  obtain ⟨Ax1, cx1, rfl, _⟩ := id hxa
  obtain ⟨Ax2, cx2, rfl, _⟩ := id hxb
  have HB := bx hj
  have hT : textR x = 45 :: (textB x.num.natAbs ++ 47 :: textB x.den) := by unfold textR; rw [if_pos hn, if_neg hd]; simp
  rw [hT, decide_eq_true hn] at *
  rw [denOf_ne hd] at *
  have hld : (1 : Int) ≤ ((digs b64 x.den).length : Int) := by have := (digs_length_pos (n := x.den) two_le_b64).2 x.den_pos; omega
  have hl2 := textB_len hj.2
  have hz2 := strOf_size (textB x.den)
  have hy2 := cat_slash (textB x.den)
  have hz3 := strOf_size (47 :: textB x.den)
  have hy1 := cat_minus (textB x.num.natAbs)
  have hz4 := strOf_size (45 :: textB x.num.natAbs)
  have hy3 := strOf_append (45 :: textB x.num.natAbs) (47 :: textB x.den)
  have hl1 := textB_len hj.1
  have hz1 := strOf_size (textB x.num.natAbs)
  have hq1 : 1 + (textB x.num.natAbs).length ≤ 9223372036854775807 := by omega
  have hq2 : 1 + (textB x.den).length ≤ 9223372036854775807 := by omega
  have hq3 : ((textB x.num.natAbs).length + 1) + ((textB x.den).length + 1) ≤ 9223372036854775807 := by omega
  clear hj hn hd hT hl1 hl2
  go_enter Try.func14, Try.ntmps14
  go_wp2_with fail
  obtain ⟨w1, e1, o1, b1, s1⟩ := lay3 w (.bool true) (.slice Ax1 (digs b64 x.num.natAbs).length cx1) (.slice Ax2 (digs b64 x.den).length cx2) 27
  rw [e1]
  clear e1
  refine Calls.mono (text_num w1 _ _ (hxa.below b1) HB.out.1 hj1) ?_
  rintro e w2 ⟨rfl, hb2⟩
  have k0 := (o1.gone hb2).c0
  have k1 := (o1.gone hb2).c1
  have k2 := (o1.gone hb2).c2
  have hxb2 := (hxb.below b1).below hb2
  have B2 := b1.trans (hb2.mono b1.size)
  go_wp2_with fail
  refine Calls.mono (text_num w2 _ _ hxb2 HB.out.2 hj1) ?_
  rintro e w3 ⟨rfl, hb3⟩
  go_wp2
  go_ret
  exact ⟨rfl, B2.trans (hb3.mono B2.size)⟩

set_option maxRecDepth 100000 in
set_option maxHeartbeats 1000000 in
theorem rtext_11 (w : World) (v : Value) (x : Rat) (hx : IsRat w v x) {j : Nat} (hj : BdR j x) (hj1 : j ≤ 100000000) (hn :  x.num < 0) (hd :  x.den = 1) : Calls Try.prog 14 #[v] w (RetIs w (.string (strOf (textR x)))) := by
  obtain ⟨vx1, vx2, rfl, hxa, hxb⟩ := id hx
  obtain ⟨Ax1, cx1, rfl, _⟩ := id hxa
  obtain ⟨Ax2, cx2, rfl, _⟩ := id hxb
  have HB := bx hj
  have hT : textR x = 45 :: textB x.num.natAbs := by unfold textR; rw [if_pos hn, if_pos hd]; simp
  rw [hT, decide_eq_true hn] at *
  rw [hd, denOf_one, digs_zero] at *
  have hy1 := cat_minus (textB x.num.natAbs)
  have hz4 := strOf_size (45 :: textB x.num.natAbs)
  have hl1 := textB_len hj.1
  have hz1 := strOf_size (textB x.num.natAbs)
  have hq1 : 1 + (textB x.num.natAbs).length ≤ 9223372036854775807 := by omega
  clear hj hn hd hT hl1
  go_enter Try.func14, Try.ntmps14
  go_wp2_with fail
  obtain ⟨w1, e1, o1, b1, s1⟩ := lay3 w (.bool true) (.slice Ax1 (digs b64 x.num.natAbs).length cx1) (.slice Ax2 0 cx2) 27
  rw [e1]
  clear e1
  refine Calls.mono (text_num w1 _ _ (hxa.below b1) HB.out.1 hj1) ?_
  rintro e w2 ⟨rfl, hb2⟩
  have k0 := (o1.gone hb2).c0
  have k1 := (o1.gone hb2).c1
  have k2 := (o1.gone hb2).c2
  have hxb2 := (hxb.below b1).below hb2
  have B2 := b1.trans (hb2.mono b1.size)
  go_wp2
  go_ret
  exact ⟨rfl, B2⟩

theorem rtext_num (w : World) (v : Value) (x : Rat) (hx : IsRat w v x) {j : Nat} (hj : BdR j x) (hj1 : j ≤ 100000000) : Calls Try.prog 14 #[v] w (RetIs w (.string (strOf (textR x)))) := by
  by_cases hn : x.num < 0
  · by_cases hd : x.den = 1
    · exact rtext_11 w v x hx hj hj1 hn hd
    · exact rtext_10 w v x hx hj hj1 hn hd
  · by_cases hd : x.den = 1
    · exact rtext_01 w v x hx hj hj1 hn hd
    · exact rtext_00 w v x hx hj hj1 hn hd
end Wx
