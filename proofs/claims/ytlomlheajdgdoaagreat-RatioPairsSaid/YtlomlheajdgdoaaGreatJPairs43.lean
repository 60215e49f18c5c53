import Derived.Handy
import GoSem.Core.Float
import GoSem.Op.Unary
import Derived.Test.YtlomlheajdgdoaaGreatJPairs0
import Derived.Test.YtlomlheajdgdoaaGreatJPairs27
import Derived.Test.YtlomlheajdgdoaaGreatJPairs28
import Derived.Test.YtlomlheajdgdoaaGreatCPairsPlainFloat3
import Derived.KernelRfl
import Derived.Test.YtlomlheajdgdoaaGreatProg
import Derived.Test.YtlomlheajdgdoaaGreatJPairs1
import Derived.Test.YtlomlheajdgdoaaGreatJPairs10
import Derived.Test.YtlomlheajdgdoaaGreatCPairsSem
import Derived.Test.YtlomlheajdgdoaaGreatCPairsSemOps
import Derived.Test.YtlomlheajdgdoaaGreatCPairsSemMem
import Derived.Test.YtlomlheajdgdoaaGreatCPairsSemCode
import Derived.Test.YtlomlheajdgdoaaGreatJPairs15
import Derived.Test.YtlomlheajdgdoaaGreatJPairs16
import Derived.Test.YtlomlheajdgdoaaGreatJPairs38
import Derived.Test.YtlomlheajdgdoaaGreatCPairsMathF
import Derived.Test.YtlomlheajdgdoaaGreatJPairs41
import Derived.Test.YtlomlheajdgdoaaGreatCPairsRat1
import Derived.Test.YtlomlheajdgdoaaGreatJPairs9
import Derived.Test.YtlomlheajdgdoaaGreatJPairs29
import Derived.Test.YtlomlheajdgdoaaGreatCPairsNearC
import Derived.Test.YtlomlheajdgdoaaGreatJPairs33
import Derived.Test.YtlomlheajdgdoaaGreatJPairs26
import Derived.Test.YtlomlheajdgdoaaGreatCPairsNFloor
import Derived.Test.YtlomlheajdgdoaaGreatJPairs18
namespace Wx
open Ieee

theorem xor_top {X : Nat} (h : X < 2 ^ 63) : X ^^^ 2 ^ 63 = 2 ^ 63 + X := by
  apply Nat.eq_of_testBit_eq
  intro i
  rw [Nat.testBit_xor, Nat.testBit_two_pow]
  rcases Nat.lt_trichotomy i 63 with h1 | h1 | h1
  · rw [Nat.testBit_two_pow_add_gt h1]
    have : ¬ 63 = i := by omega
    simp [this]
  · subst h1
    rw [Nat.testBit_two_pow_add_eq]
    simp
  · have h2 : 2 ^ 64 ≤ 2 ^ i := Nat.pow_le_pow_right (by omega) (by omega)
    rw [Nat.testBit_lt_two_pow (Nat.lt_of_lt_of_le (show X < 2 ^ 64 by omega) h2), Nat.testBit_lt_two_pow (Nat.lt_of_lt_of_le (show 2 ^ 63 + X < 2 ^ 64 by omega) h2)]
    have : ¬ 63 = i := by omega
    simp [this]
theorem neg_word {X : Nat} (h : X < 2 ^ 63) : Go.Op.negFloat .f64 X = 2 ^ 63 + X := xor_top h
theorem nearest_pos_lt {m : Nat} {e : Int} : double.nearest false m e < 2 ^ 63 := by
  have hi : double.infRung < 2 ^ 63 := by decide
  unfold Format.nearest
  split
  · simp [Format.word]
  · simp only [Format.word, Bool.false_eq_true, if_false]
    exact Nat.lt_of_le_of_lt (Nat.min_le_right _ _) hi
theorem neg_nearest (m : Nat) (e : Int) : Go.Op.negFloat .f64 (double.nearest false m e) = double.nearest true m e := by
  rw [neg_word nearest_pos_lt, nearest_neg]
  rfl
end Wx

namespace Wx
open Go Go.RowKit Go.Proofs

def to32 (X : Nat) : Nat := Ieee.single.write (Ieee.double.read X)
def Fine32 (X : Nat) : Prop := match Ieee.double.read X with
  | .nan _ _ => False
  | .infinity _ => True
  | .number s m e => (Ieee.single.read (Ieee.single.nearest s m e)).isInfinity = false
theorem conv32 {X : Nat} (h : Fine32 X) (w : World) : (Go.convert 46 51 (.float .f64 X)).run Tryz.prog w = .ok (.float .f32 (to32 X)) w := by
  have e : (Go.convert 46 51 (.float .f64 X)).run Tryz.prog w = (Conv.floatToFloat .f64 X .f32).run Tryz.prog w := by kernel_rfl
  rw [e]
  have e1 : FloatKind.f64.decode X = Ieee.double.read X := rfl
  unfold Fine32 at h
  unfold Conv.floatToFloat to32
  rw [if_neg (by decide), e1]
  cases hr : Ieee.double.read X with
  | nan s t => rw [hr] at h; exact h.elim
  | infinity s => rfl
  | number s m i =>
    rw [hr] at h
    have e2 : FloatKind.f32.decode (FloatKind.f32.encode (.number s m i)) = Ieee.single.read (Ieee.single.nearest s m i) := rfl
    simp only [e2]
    have h : (Ieee.single.read (Ieee.single.nearest s m i)).isInfinity = false := h
    rw [h]
    rfl
end Wx

namespace Wx
open Go

theorem sgn_nearest (x : Rat) (m : Nat) (e : Int) : sgnF x (Ieee.double.nearest false m e) = Ieee.double.nearest (decide (x.num < 0)) m e := by
  unfold sgnF
  split
  · rename_i h; rw [neg_nearest, decide_eq_true h]
  · rename_i h; rw [decide_eq_false h]
theorem sgn_inf (x : Rat) : sgnF x 9218868437227405312 = Ieee.double.write (.infinity (decide (x.num < 0))) := by
  unfold sgnF
  split
  · rename_i h; rw [neg_word (by decide), decide_eq_true h]; decide +kernel
  · rename_i h; rw [decide_eq_false h]; decide +kernel
structure InSingle (m : Nat) (e : Int) : Prop where
  pos : m ≠ 0
  bits : m.log2 ≤ 23
  least : -149 ≤ e
  top : e + m.log2 ≤ 127
theorem InSingle.double {m : Nat} {e : Int} (h : InSingle m e) : InDouble m e := ⟨h.pos, by have := h.bits; omega, by have := h.least; omega, by have := h.top; omega⟩
theorem InSingle.read {m : Nat} {e : Int} (h : InSingle m e) (neg : Bool) : ∃ k : Nat, Ieee.single.read (Ieee.single.nearest neg m e) = .number neg (m * 2 ^ k) (e - k) := by
  have hl : Ieee.single.leastPlace = -149 := by decide
  have he : (2 : Int) ^ Ieee.single.exponentBits = 256 := by decide
  have hf : (Ieee.single.fractionBits : Int) = 23 := rfl
  obtain ⟨k, h1, _⟩ := read_nearest Ieee.single neg h.pos h.bits (by rw [hl]; exact h.least) (by
    rw [hl, he, hf]
    have := h.top
    omega) (by decide)
  exact ⟨k, h1⟩
theorem fine_num {m : Nat} {e : Int} (h : InSingle m e) (neg : Bool) : Fine32 (Ieee.double.nearest neg m e) ∧ to32 (Ieee.double.nearest neg m e) = Ieee.single.nearest neg m e := by
  obtain ⟨k, h1, _⟩ := h.double.read neg
  obtain ⟨k2, h2⟩ := h.read neg
  refine ⟨?_, to_single h.double neg⟩
  unfold Fine32
  rw [h1]
  show (Ieee.single.read (Ieee.single.nearest neg (m * 2 ^ k) (e - k))).isInfinity = false
  rw [nearest_scale, h2]
  rfl
theorem fine_inf (neg : Bool) : Fine32 (Ieee.double.write (.infinity neg)) ∧ to32 (Ieee.double.write (.infinity neg)) = Ieee.single.write (.infinity neg) := by
  have hr : Ieee.double.read (Ieee.double.write (.infinity neg)) = .infinity neg := by cases neg <;> decide +kernel
  constructor
  · unfold Fine32; rw [hr]; trivial
  · unfold to32; rw [hr]
theorem fine_zero : Fine32 0 ∧ to32 0 = 0 := by
  constructor
  · unfold Fine32
    rw [read_zero]
    show (Ieee.single.read (Ieee.single.nearest false 0 (-1074))).isInfinity = false
    decide +kernel
  · decide +kernel
def near32W (x : Rat) : Nat :=
  if x.num.natAbs = 0 then 0 else if decide ((nbits (nearM x 24 (-149)) : Int) + lastR x 24 (-149) > 128) = true then Ieee.single.write (.infinity (decide (x.num < 0))) else if nearM x 24 (-149) = 0 then 0 else Ieee.single.nearest (decide (x.num < 0)) (nearM x 24 (-149)) (lastR x 24 (-149))
theorem near32_in {m : Nat} {last : Int} (h0 : m ≠ 0) (hm : m ≤ 2 ^ 24) (h2 : -149 ≤ last) (h3 : (nbits m : Int) + last ≤ 128) : ∃ (n : Nat) (e : Int), InSingle n e ∧ ∀ (f : Ieee.Format) (neg : Bool), f.nearest neg m last = f.nearest neg n e := by
  rcases Nat.lt_or_ge m (2 ^ 24) with h | h
  · have h1 : m.log2 ≤ 23 := by have := (Nat.log2_lt h0).2 h; omega
    refine ⟨m, last, ⟨h0, h1, h2, ?_⟩, fun _ _ => rfl⟩
    unfold nbits at h3
    rw [if_neg h0] at h3
    omega
  · have e : m = 1 * 2 ^ 24 := by omega
    subst e
    have hn : nbits (1 * 2 ^ 24) = 25 := by decide +kernel
    rw [hn] at h3
    have l1 : (1 : Nat).log2 = 0 := by decide +kernel
    refine ⟨1, 24 + last, ⟨by omega, by rw [l1]; omega, by omega, by rw [l1]; omega⟩, fun f neg => ?_⟩
    have := nearest_scale f neg 1 (24 + last) 24
    rw [← this]
    congr 1
    omega
theorem near32_ok (x : Rat) : Fine32 (nearW x 24 (-149) 128) ∧ to32 (nearW x 24 (-149) 128) = near32W x := by
  unfold nearW near32W
  by_cases h0 : x.num.natAbs = 0
  · rw [if_pos h0, if_pos h0]; exact fine_zero
  rw [if_neg h0, if_neg h0]
  by_cases h2 : decide ((nbits (nearM x 24 (-149)) : Int) + lastR x 24 (-149) > 128) = true
  · rw [if_pos h2, if_pos h2, sgn_inf]; exact fine_inf _
  · rw [if_neg h2, if_neg h2]
    by_cases h3 : nearM x 24 (-149) = 0
    · rw [if_pos h3, if_pos h3]; exact fine_zero
    · rw [if_neg h3, if_neg h3, sgn_nearest]
      have h2 := of_decide_eq_false (Bool.not_eq_true _ ▸ h2)
      have hl := (last0_ge x 24 (-149)).2
      have hlast : -149 ≤ lastR x 24 (-149) := by unfold lastR; split <;> omega
      obtain ⟨n, e, hin, hf⟩ := near32_in h3 (nearM_le x 24 (-149)) hlast (by omega)
      rw [hf, hf]
      exact fine_num hin _
end Wx

namespace Wx
set_option maxRecDepth 100000
open Go Go.RowKit Go.Proofs
set_option linter.unusedVariables false

theorem cells_int3 (w : World) : pCells [⟨false, 1, pI 0⟩, ⟨false, 1, pI 0⟩, ⟨false, 1, pI 0⟩] w [.int .i64 0, .int .i64 0, .int .i64 0] := ⟨by simp, rfl, by simp, rfl, by simp, rfl, rfl⟩
theorem c_long  : ∀ (M : Nat → Nat → Prop) (w : World), Mid M w → Calls Tryz.prog 65 #[] w (RetB M (pS [⟨false, 1, pI 53⟩, ⟨false, 1, pI (-1074)⟩, ⟨false, 1, pI 1024⟩]) w) := by
  intro M w0  hM 
  refine calls_start (N := 2) Tryz.func65 rfl rfl rfl hM (show EntsA M w0 [] [] from trivial) fun a hI => ?_
  refine seq_text (V1 := [⟨0, 0, some 0, none, .ptr, 102, 3, true, pv (pS [⟨false, 1, pI 0⟩, ⟨false, 1, pI 0⟩, ⟨false, 1, pI 0⟩]), []⟩]) (A1 := []) (G1 := []) (V2 := [⟨0, 0, none, none, .ptr, 102, 3, true, pv (pS [⟨false, 1, pI 0⟩, ⟨false, 1, pI 0⟩, ⟨false, 1, pI 0⟩]), []⟩]) (G2 := []) hI rfl rfl rfl [0] (by kernel_rfl) (by kernel_rfl) ?_ [0] [] rfl rfl fun a w hI => ?_
  · exact ⟨op_alloc 0 rfl rfl (by kernel_rfl) (by kernel_rfl) rfl rfl rfl zv_format rfl rfl (by simp [NoU]) rfl (fun w => pS_of (cells_int3 w)), trivial⟩
  refine seq_text (V1 := [⟨0, 0, none, none, .ptr, 102, 3, true, pv (pS [⟨false, 1, pI 0⟩, ⟨false, 1, pI 0⟩, ⟨false, 1, pI 0⟩]), [(1, pv (pS [⟨false, 1, pI 53⟩, ⟨false, 1, pI (-1074)⟩, ⟨false, 1, pI 1024⟩]))]⟩]) (A1 := []) (G1 := [⟨some 0, none, 1, pS [⟨false, 1, pI 53⟩, ⟨false, 1, pI (-1074)⟩, ⟨false, 1, pI 1024⟩]⟩]) (V2 := [⟨0, 0, none, none, .ptr, 102, 3, true, pv (pS [⟨false, 1, pI 53⟩, ⟨false, 1, pI (-1074)⟩, ⟨false, 1, pI 1024⟩]), []⟩]) (G2 := []) hI rfl rfl rfl [0, 1] (by kernel_rfl) (by kernel_rfl) ?_ [0] [] rfl rfl fun a w hI => ?_
  · exact ⟨op_build (fs := [⟨false, 1, pI 0⟩, ⟨false, 1, pI 0⟩, ⟨false, 1, pI 0⟩]) (ps := [(0, pI 53), (1, pI (-1074)), (2, pI 1024)]) bt_format (places_ok (by kernel_rfl)) (cells_int3) (show HasParts _ _ _ _ _ _ from ⟨⟨rfl, (.const _), _, rfl, fits_int _⟩, ⟨rfl, (.const _), _, rfl, fits_int _⟩, ⟨rfl, (.const _), _, rfl, fits_int _⟩, trivial⟩) rfl (.here 0 rfl), op_store 0 rfl rfl rfl rfl 0 rfl (by kernel_rfl) (by kernel_rfl) ty_format (.tmp 0 rfl rfl) (fits_s (fs := [⟨false, 1, pI 53⟩, ⟨false, 1, pI (-1074)⟩, ⟨false, 1, pI 1024⟩]) ⟨fits_int _, fits_int _, fits_int _, trivial⟩ rfl), trivial⟩
  refine wp_ret ?_
  exact fin1 hI rfl (.cell 0 rfl rfl rfl rfl ty_format rfl)
theorem c_Near {x : Rat} {j : Nat} (hx : BdR j x) (hj : j ≤ 100000) : ∀ (M : Nat → Nat → Prop) (w : World) (v0 : Value), Mid M w → Box M (fun w => (pRat x) w v0) w → Calls Tryz.prog 16 #[v0] w (RetB M (pF (nearW x 53 (-1074) 1024)) w) := by
  intro M w0 v0 hM hv0
  refine calls_start (N := 6) Tryz.func16 rfl rfl rfl hM (show EntsA M w0 [v0] [⟨none, none, 0, pRat x⟩] from ⟨⟨rfl, _, rfl, hv0⟩, trivial⟩) fun a hI => ?_
  refine seq_text (V1 := [⟨1, 1, some 0, none, .ptr, 29, 3, true, pv (pS (ratFs x)), []⟩]) (A1 := []) (G1 := [⟨none, none, 0, pRat x⟩, ⟨some 1, none, 2, pF 0⟩]) (V2 := [⟨1, 1, none, none, .ptr, 29, 3, true, pv (pS (ratFs x)), []⟩]) (G2 := [⟨none, none, 2, pF 0⟩]) hI rfl rfl rfl [0, 1] (by kernel_rfl) (by kernel_rfl) ?_ [0] [1] rfl rfl fun a w hI => ?_
  · exact ⟨op_box 0 rfl rfl (by kernel_rfl) (by kernel_rfl) rfl rfl rfl (.imp (.tmp 0 rfl rfl) (rat_S _)) (fits_ratS _) rfl, op_assign (.const _) (.here 1 rfl), trivial⟩
  refine seq_drawn (V1 := [⟨1, 1, none, none, .ptr, 29, 3, true, pv (pS (ratFs x)), []⟩]) (A1 := []) (G1 := [⟨none, some 3, 2, pF 0⟩, ⟨some 0, none, 3, pS [⟨false, 1, pI 53⟩, ⟨false, 1, pI (-1074)⟩, ⟨false, 1, pI 1024⟩]⟩, ⟨some 1, none, 4, pRat x⟩, ⟨some 2, none, 5, pF (nearW x 53 (-1074) 1024)⟩, ⟨some 3, none, 2, pF (nearW x 53 (-1074) 1024)⟩]) (V2 := [⟨1, 1, none, none, .ptr, 29, 3, true, pv (pS (ratFs x)), []⟩]) (G2 := [⟨none, none, 2, pF (nearW x 53 (-1074) 1024)⟩]) hI rfl rfl rfl [0, 0, 3, 7] (by kernel_rfl) (by kernel_rfl) (by kernel_rfl) (by kernel_rfl) ?_ [0] [3] rfl rfl fun a w hI => ?_
  · exact ⟨op_callB0 (fun _ _ => by kernel_rfl)  (.here 1 rfl) (c_long), op_load 0 rfl rfl rfl rfl (by kernel_rfl) ty_Ratio rfl (.at_ 2 _ _ rfl (S_rat _)), op_callB2 (fun _ _ => by kernel_rfl) (.tmp 1 rfl rfl) (.tmp 2 rfl rfl) (.here 3 rfl) (c_near (bits := 53) hx hj (by omega) (by omega) (by omega)), op_assign (.tmp 3 rfl rfl) (.here 4 rfl), trivial⟩
  refine wp_ret ?_
  exact fin1 hI rfl (.tmp 0 rfl)
theorem c_short  : ∀ (M : Nat → Nat → Prop) (w : World), Mid M w → Calls Tryz.prog 68 #[] w (RetB M (pS [⟨false, 1, pI 24⟩, ⟨false, 1, pI (-149)⟩, ⟨false, 1, pI 128⟩]) w) := by
  intro M w0  hM 
  refine calls_start (N := 2) Tryz.func68 rfl rfl rfl hM (show EntsA M w0 [] [] from trivial) fun a hI => ?_
  refine seq_text (V1 := [⟨0, 0, some 0, none, .ptr, 102, 3, true, pv (pS [⟨false, 1, pI 0⟩, ⟨false, 1, pI 0⟩, ⟨false, 1, pI 0⟩]), []⟩]) (A1 := []) (G1 := []) (V2 := [⟨0, 0, none, none, .ptr, 102, 3, true, pv (pS [⟨false, 1, pI 0⟩, ⟨false, 1, pI 0⟩, ⟨false, 1, pI 0⟩]), []⟩]) (G2 := []) hI rfl rfl rfl [0] (by kernel_rfl) (by kernel_rfl) ?_ [0] [] rfl rfl fun a w hI => ?_
  · exact ⟨op_alloc 0 rfl rfl (by kernel_rfl) (by kernel_rfl) rfl rfl rfl zv_format rfl rfl (by simp [NoU]) rfl (fun w => pS_of (cells_int3 w)), trivial⟩
  refine seq_text (V1 := [⟨0, 0, none, none, .ptr, 102, 3, true, pv (pS [⟨false, 1, pI 0⟩, ⟨false, 1, pI 0⟩, ⟨false, 1, pI 0⟩]), [(1, pv (pS [⟨false, 1, pI 24⟩, ⟨false, 1, pI (-149)⟩, ⟨false, 1, pI 128⟩]))]⟩]) (A1 := []) (G1 := [⟨some 0, none, 1, pS [⟨false, 1, pI 24⟩, ⟨false, 1, pI (-149)⟩, ⟨false, 1, pI 128⟩]⟩]) (V2 := [⟨0, 0, none, none, .ptr, 102, 3, true, pv (pS [⟨false, 1, pI 24⟩, ⟨false, 1, pI (-149)⟩, ⟨false, 1, pI 128⟩]), []⟩]) (G2 := []) hI rfl rfl rfl [0, 1] (by kernel_rfl) (by kernel_rfl) ?_ [0] [] rfl rfl fun a w hI => ?_
  · exact ⟨op_build (fs := [⟨false, 1, pI 0⟩, ⟨false, 1, pI 0⟩, ⟨false, 1, pI 0⟩]) (ps := [(0, pI 24), (1, pI (-149)), (2, pI 128)]) bt_format (places_ok (by kernel_rfl)) (cells_int3) (show HasParts _ _ _ _ _ _ from ⟨⟨rfl, (.const _), _, rfl, fits_int _⟩, ⟨rfl, (.const _), _, rfl, fits_int _⟩, ⟨rfl, (.const _), _, rfl, fits_int _⟩, trivial⟩) rfl (.here 0 rfl), op_store 0 rfl rfl rfl rfl 0 rfl (by kernel_rfl) (by kernel_rfl) ty_format (.tmp 0 rfl rfl) (fits_s (fs := [⟨false, 1, pI 24⟩, ⟨false, 1, pI (-149)⟩, ⟨false, 1, pI 128⟩]) ⟨fits_int _, fits_int _, fits_int _, trivial⟩ rfl), trivial⟩
  refine wp_ret ?_
  exact fin1 hI rfl (.cell 0 rfl rfl rfl rfl ty_format rfl)
theorem c_Near32 {x : Rat} {j : Nat} (hx : BdR j x) (hj : j ≤ 100000) : ∀ (M : Nat → Nat → Prop) (w : World) (v0 : Value), Mid M w → Box M (fun w => (pRat x) w v0) w → Calls Tryz.prog 19 #[v0] w (RetB M (pF32 (near32W x)) w) := by
  intro M w0 v0 hM hv0
  refine calls_start (N := 7) Tryz.func19 rfl rfl rfl hM (show EntsA M w0 [v0] [⟨none, none, 0, pRat x⟩] from ⟨⟨rfl, _, rfl, hv0⟩, trivial⟩) fun a hI => ?_
  refine seq_text (V1 := [⟨1, 1, some 0, none, .ptr, 29, 3, true, pv (pS (ratFs x)), []⟩]) (A1 := []) (G1 := [⟨none, none, 0, pRat x⟩, ⟨some 1, none, 2, pF32 0⟩]) (V2 := [⟨1, 1, none, none, .ptr, 29, 3, true, pv (pS (ratFs x)), []⟩]) (G2 := [⟨none, none, 2, pF32 0⟩]) hI rfl rfl rfl [0, 1] (by kernel_rfl) (by kernel_rfl) ?_ [0] [1] rfl rfl fun a w hI => ?_
  · exact ⟨op_box 0 rfl rfl (by kernel_rfl) (by kernel_rfl) rfl rfl rfl (.imp (.tmp 0 rfl rfl) (rat_S _)) (fits_ratS _) rfl, op_assign (.const _) (.here 1 rfl), trivial⟩
  refine seq_drawn (V1 := [⟨1, 1, none, none, .ptr, 29, 3, true, pv (pS (ratFs x)), []⟩]) (A1 := []) (G1 := [⟨none, some 4, 2, pF32 0⟩, ⟨some 0, none, 3, pS [⟨false, 1, pI 24⟩, ⟨false, 1, pI (-149)⟩, ⟨false, 1, pI 128⟩]⟩, ⟨some 1, none, 4, pRat x⟩, ⟨some 2, none, 5, pF (nearW x 24 (-149) 128)⟩, ⟨some 3, none, 6, pF32 (to32 (nearW x 24 (-149) 128))⟩, ⟨some 4, none, 2, pF32 (to32 (nearW x 24 (-149) 128))⟩]) (V2 := [⟨1, 1, none, none, .ptr, 29, 3, true, pv (pS (ratFs x)), []⟩]) (G2 := [⟨none, none, 2, pF32 (to32 (nearW x 24 (-149) 128))⟩]) hI rfl rfl rfl [0, 0, 3, 7, 15] (by kernel_rfl) (by kernel_rfl) (by kernel_rfl) (by kernel_rfl) ?_ [0] [4] rfl rfl fun a w hI => ?_
  · exact ⟨op_callB0 (fun _ _ => by kernel_rfl)  (.here 1 rfl) (c_short), op_load 0 rfl rfl rfl rfl (by kernel_rfl) ty_Ratio rfl (.at_ 2 _ _ rfl (S_rat _)), op_callB2 (fun _ _ => by kernel_rfl) (.tmp 1 rfl rfl) (.tmp 2 rfl rfl) (.here 3 rfl) (c_near (bits := 24) hx hj (by omega) (by omega) (by omega)), op_conv (.tmp 3 rfl rfl) (fun w => conv32 (near32_ok x).1 w) (.here 4 rfl), op_assign (.tmp 4 rfl rfl) (.here 5 rfl), trivial⟩
  refine wp_ret ?_
  exact fin1 hI rfl (.imp (.tmp 0 rfl) (fun _ _ e => by rw [← (near32_ok x).2]; exact e))
end Wx

namespace Wx
open Go Go.RowKit Go.Proofs

theorem cn_two {z : Int} (h : -1000000 ≤ z ∧ z ≤ 1000000) : ∀ w v1, pI z w v1 → Calls Tryz.prog 73 #[v1] w (Ret (pRef (twoR z)) w) := fun w v1 h1 => by
  have h1 : v1 = .int .i64 z := h1
  rw [h1]
  by_cases hz : z < 0
  · have e : twoR z = 1 / pw z.natAbs := by unfold twoR; rw [if_pos hz]
    rw [e]
    exact ntwo_neg w z z.natAbs (by omega) (by omega) (by omega)
  · have e : twoR z = pw z.natAbs := by unfold twoR; rw [if_neg hz]
    rw [e]
    have := ntwo_pos w z.natAbs (by omega)
    rwa [show ((z.natAbs : Nat) : Int) = z by omega] at this
end Wx

namespace Wx
open Go

theorem quo_add (u d : Nat) (l : Int) : ∀ b : Nat, shN u (l + b) / shD d (l + b) = shN u l / shD d l / 2 ^ b := by
  intro b
  induction b with
  | zero => simp
  | succ b ih =>
    have e : l + ((b + 1 : Nat) : Int) = l + b + 1 := by omega
    rw [e, quo_succ, ih, Nat.div_div_eq_div_mul, Nat.pow_succ]
def belowR (x : Rat) (z : Int) : Prop := shN x.num.natAbs z < shD x.den z
instance (x : Rat) (z : Int) : Decidable (belowR x z) := Nat.decLt _ _
theorem below_iff (x : Rat) (l : Int) (b : Nat) : belowR x (l + b) ↔ nbits (shN x.num.natAbs l / shD x.den l) ≤ b := by
  have hd := shD_gt x.den_pos (l + b)
  have hq := quo_add x.num.natAbs x.den l b
  rw [nbits_le_iff]
  unfold belowR
  constructor
  · intro h
    rw [Nat.div_eq_of_lt h] at hq
    rcases Nat.lt_or_ge (shN x.num.natAbs l / shD x.den l) (2 ^ b) with h1 | h1
    · exact h1
    · have := Nat.div_pos h1 (Nat.two_pow_pos b)
      omega
  · intro h
    rw [Nat.div_eq_of_lt h] at hq
    rcases Nat.lt_or_ge (shN x.num.natAbs (l + b)) (shD x.den (l + b)) with h1 | h1
    · exact h1
    · have := Nat.div_pos h1 hd
      omega
theorem below_succ (x : Rat) : belowR x ((nbits x.num.natAbs : Int) - nbits x.den + 1) := by
  have h := quo_first (u := x.num.natAbs) x.den_pos (bits := 0) (l := (nbits x.num.natAbs : Int) - nbits x.den) (by omega)
  have := (below_iff x ((nbits x.num.natAbs : Int) - nbits x.den) 1).2 (nbits_le_iff.2 h)
  exact this
theorem below_mono {x : Rat} {y z : Int} (h : belowR x y) (hz : y ≤ z) : belowR x z := by
  obtain ⟨b, hb⟩ : ∃ b : Nat, z = y + b := ⟨(z - y).toNat, by omega⟩
  rw [hb]
  refine (below_iff x y b).2 ?_
  have : shN x.num.natAbs y / shD x.den y = 0 := Nat.div_eq_of_lt h
  rw [this]
  exact Nat.zero_le b
def expR (x : Rat) : Int := if belowR x ((nbits x.num.natAbs : Int) - nbits x.den) then (nbits x.num.natAbs : Int) - nbits x.den - 1 else (nbits x.num.natAbs : Int) - nbits x.den
theorem last_ref (x : Rat) (bits : Nat) (least : Int) : lastR x bits least = maxZ (expR x - bits + 1) least := by
  have h0 : last0 x bits least = maxZ ((nbits x.num.natAbs : Int) - nbits x.den - bits) least := rfl
  have hb := below_iff x (last0 x bits least) bits
  have hs := below_succ x
  have hlast : lastR x bits least = if belowR x (last0 x bits least + bits) then last0 x bits least else last0 x bits least + 1 := by
    unfold lastR
    by_cases h : belowR x (last0 x bits least + bits)
    · have := hb.1 h
      rw [if_pos h, if_neg (by simp; omega)]
    · have : ¬ nbits (shN x.num.natAbs (last0 x bits least) / shD x.den (last0 x bits least)) ≤ bits := fun h' => h (hb.2 h')
      rw [if_neg h, if_pos (by simp; omega)]
  rw [hlast, h0]
  generalize he : (nbits x.num.natAbs : Int) - nbits x.den = e at *
  unfold expR
  rw [he]
  rcases Int.lt_or_le least (e - bits) with h | h
  · have e1 : maxZ (e - bits) least = e - bits := by unfold maxZ; split <;> omega
    rw [e1, show e - (bits : Int) + bits = e by omega]
    by_cases hx : belowR x e
    · rw [if_pos hx, if_pos hx]; unfold maxZ; split <;> omega
    · rw [if_neg hx, if_neg hx]; unfold maxZ; split <;> omega
  · have e1 : maxZ (e - bits) least = least := by unfold maxZ; split <;> omega
    rw [e1]
    by_cases hx : belowR x e
    · rw [if_pos hx, if_pos (below_mono hx (by omega))]; unfold maxZ; split <;> omega
    · rw [if_neg hx]
      rcases Int.lt_or_le (e - bits) least with h' | h'
      · rw [if_pos (below_mono hs (by omega))]; unfold maxZ; split <;> omega
      · have : least = e - bits := by omega
        rw [if_neg (by rw [this, show e - (bits : Int) + bits = e by omega]; exact hx)]; unfold maxZ; split <;> omega
end Wx

namespace Wx
open Go

theorem not_below {x : Rat} (h0 : x.num.natAbs ≠ 0) : ¬ belowR x ((nbits x.num.natAbs : Int) - nbits x.den - 1) := by
  have h1 := nbits_le (Nat.pos_of_ne_zero h0)
  have h2 := nbits_lt x.den
  have h3 := nbits_pos (Nat.pos_of_ne_zero h0)
  unfold belowR
  refine Nat.not_lt.2 ?_
  rcases Int.le_total 0 ((nbits x.num.natAbs : Int) - nbits x.den - 1) with h | h
  · rw [shN_pos h, shD_pos h]
    calc x.den * 2 ^ ((nbits x.num.natAbs : Int) - nbits x.den - 1).toNat ≤ 2 ^ nbits x.den * 2 ^ ((nbits x.num.natAbs : Int) - nbits x.den - 1).toNat := Nat.mul_le_mul_right _ (Nat.le_of_lt h2)
      _ = 2 ^ (nbits x.num.natAbs - 1) := by rw [← Nat.pow_add]; congr 1; omega
      _ ≤ x.num.natAbs := h1
  · rw [shN_neg h, shD_neg h]
    calc x.den ≤ 2 ^ nbits x.den := Nat.le_of_lt h2
      _ = 2 ^ (nbits x.num.natAbs - 1) * 2 ^ (-((nbits x.num.natAbs : Int) - nbits x.den - 1)).toNat := by rw [← Nat.pow_add]; congr 1; omega
      _ ≤ x.num.natAbs * 2 ^ (-((nbits x.num.natAbs : Int) - nbits x.den - 1)).toNat := Nat.mul_le_mul_right _ h1
theorem exp_le {x : Rat} (h0 : x.num.natAbs ≠ 0) : ¬ belowR x (expR x) := by
  unfold expR
  split
  · exact not_below h0
  · assumption
theorem over_ref {x : Rat} {bits : Nat} {least beyond : Int} (h0 : x.num.natAbs ≠ 0) (hb : 1 ≤ bits) (hl : least + bits + 1 ≤ beyond) :
    (nbits (nearM x bits least) : Int) + lastR x bits least > beyond ↔ expR x > beyond - 1 ∨ (nearM x bits least = 2 ^ bits ∧ lastR x bits least = beyond - bits) := by
  have hle := nearM_le x bits least
  have hr := last_ref x bits least
  have hn : nbits (nearM x bits least) ≤ bits + 1 := nbits_le_iff.2 (by rw [Nat.pow_succ]; have := Nat.two_pow_pos bits; omega)
  have hlo : expR x - bits + 1 = lastR x bits least → 2 ^ (bits - 1) ≤ nearM x bits least := by
    intro he
    have h1 := exp_le h0
    have e : expR x = lastR x bits least + ((bits - 1 : Nat) : Int) := by omega
    rw [e, below_iff, nbits_le_iff] at h1
    unfold nearM rndR
    split <;> omega
  have hnb : nearM x bits least < 2 ^ bits → nbits (nearM x bits least) ≤ bits := fun h => nbits_le_iff.2 h
  have hnl : 2 ^ (bits - 1) ≤ nearM x bits least → bits ≤ nbits (nearM x bits least) := by
    intro h
    rcases Nat.lt_or_ge (nbits (nearM x bits least)) bits with h1 | h1
    · have := nbits_le_iff.1 (show nbits (nearM x bits least) ≤ bits - 1 by omega)
      omega
    · exact h1
  have hnt : nearM x bits least = 2 ^ bits → nbits (nearM x bits least) = bits + 1 := by
    intro h
    rw [h]
    exact nbits_unique (Nat.le_refl _) (by rw [Nat.pow_succ]; have := Nat.two_pow_pos bits; omega)
  unfold maxZ at hr
  split at hr
  · -- the least place
    rcases Nat.lt_or_ge (nearM x bits least) (2 ^ bits) with h | h
    · have := hnb h
      constructor
      · intro h'; omega
      · rintro (h' | ⟨h', _⟩) <;> omega
    · have h := Nat.le_antisymm hle h
      have := hnt h
      constructor
      · intro h'; omega
      · rintro (h' | ⟨_, h'⟩) <;> omega
  · have h5 := hlo hr.symm
    have h6 := hnl h5
    rcases Nat.lt_or_ge (nearM x bits least) (2 ^ bits) with h | h
    · have := hnb h
      constructor
      · intro h'; exact .inl (by omega)
      · rintro (h' | ⟨h', _⟩) <;> omega
    · have h := Nat.le_antisymm hle h
      have := hnt h
      constructor
      · intro h'
        rcases Int.lt_or_le (beyond - 1) (expR x) with h7 | h7
        · exact .inl h7
        · exact .inr ⟨h, by omega⟩
      · rintro (h' | ⟨_, h'⟩) <;> omega
end Wx

namespace Wx
open Go

theorem pw_ne (K : Nat) : pw K ≠ 0 := fun h => by have := pw_pos K; rw [h] at this; exact absurd this (by decide)
theorem twoR_eq (z : Int) : twoR z = pw (maxZ z (0 : Int)).toNat / pw (maxZ (-z) (0 : Int)).toNat := by
  unfold twoR
  have p0 : pw 0 = 1 := rfl
  split
  · have e1 : (maxZ z (0 : Int)).toNat = 0 := by unfold maxZ; split <;> omega
    have e2 : (maxZ (-z) (0 : Int)).toNat = z.natAbs := by unfold maxZ; split <;> omega
    rw [e1, e2, p0]
  · have e1 : (maxZ z (0 : Int)).toNat = z.natAbs := by unfold maxZ; split <;> omega
    have e2 : (maxZ (-z) (0 : Int)).toNat = 0 := by unfold maxZ; split <;> omega
    rw [e1, e2, p0, Rat.div_def, show (1 : Rat)⁻¹ = 1 by decide +kernel, Rat.mul_one]
theorem abs_div (x : Rat) : absR x = ((x.num.natAbs : Nat) : Rat) / ((x.den : Nat) : Rat) := by
  obtain ⟨h1, h2, h3⟩ := absR_num x
  have h3 := of_decide_eq_false h3
  have e := num_div_den (absR x)
  have e2 : (absR x).num = ((x.num.natAbs : Nat) : Int) := by omega
  rw [e2, h2] at e
  rw [← e]
  rfl
theorem val_two (x : Rat) (l : Int) : absR x * twoR (-l) = ((shN x.num.natAbs l : Nat) : Rat) / ((shD x.den l : Nat) : Rat) := by
  rw [abs_div, twoR_eq, Int.neg_neg]
  have e1 : ((shN x.num.natAbs l : Nat) : Rat) = ((x.num.natAbs : Nat) : Rat) * pw (maxZ (-l) (0 : Int)).toNat := by unfold shN pw; rw [Rat.natCast_mul]
  have e2 : ((shD x.den l : Nat) : Rat) = ((x.den : Nat) : Rat) * pw (maxZ l (0 : Int)).toNat := by unfold shD pw; rw [Rat.natCast_mul]
  rw [e1, e2, Rat.div_def, Rat.div_def, Rat.div_def, Rat.inv_mul_rev]
  grind
theorem two_inv (z : Int) : twoR z * twoR (-z) = 1 := by
  rw [twoR_eq, twoR_eq, Int.neg_neg]
  have h1 := pw_ne (maxZ z (0 : Int)).toNat
  have h2 := pw_ne (maxZ (-z) (0 : Int)).toNat
  grind
theorem twoR_pos (z : Int) : 0 < twoR z := by
  unfold twoR
  split
  · have := pw_pos z.natAbs
    rw [Rat.div_def, Rat.one_mul]
    exact Rat.inv_pos.2 this
  · exact pw_pos _
theorem below_twoR (x : Rat) (z : Int) : absR x < twoR z ↔ belowR x z := by
  have h1 := val_two x z
  have h2 := two_inv z
  have h3 := twoR_pos z
  have h4 := twoR_pos (-z)
  have hd : (0 : Rat) < ((shD x.den z : Nat) : Rat) := Rat.natCast_pos.2 (shD_gt x.den_pos z)
  unfold belowR
  rw [← Rat.natCast_lt_natCast]
  have e : ((shN x.num.natAbs z : Nat) : Rat) = absR x * twoR (-z) * ((shD x.den z : Nat) : Rat) := by
    rw [h1, Rat.div_mul_cancel]
    intro h; rw [h] at hd; exact absurd hd (by decide)
  rw [e]
  constructor
  · intro h
    have k1 : absR x * twoR (-z) < twoR z * twoR (-z) := Rat.mul_lt_mul_of_pos_right h h4
    rw [h2] at k1
    have k2 := Rat.mul_lt_mul_of_pos_right k1 hd
    rwa [Rat.one_mul] at k2
  · intro h
    rcases tri (absR x) (twoR z) with k | k | k
    · exact k
    · rw [k, h2, Rat.one_mul] at h; exact absurd h (Rat.lt_irrefl)
    · have k1 : twoR z * twoR (-z) < absR x * twoR (-z) := Rat.mul_lt_mul_of_pos_right k h4
      rw [h2] at k1
      have k2 := Rat.mul_lt_mul_of_pos_right k1 hd
      rw [Rat.one_mul] at k2
      exact absurd (Std.lt_trans h k2) Rat.lt_irrefl
end Wx

namespace Wx
open Go

theorem floor_near (x : Rat) (l : Int) : floorR (absR x * twoR (-l)) = (((shN x.num.natAbs l / shD x.den l : Nat) : Int) : Rat) := by
  rw [floorR_eq, val_two]
  have := floor_div ((shN x.num.natAbs l : Nat) : Int) (shD x.den l) (shD_gt x.den_pos l)
  rw [Rat.intCast_natCast] at this
  rw [this, Int.natCast_ediv]
theorem rem_near {n d : Nat} (hd : 0 < d) : ((n : Nat) : Rat) / ((d : Nat) : Rat) - (((n / d : Nat) : Int) : Rat) = ((n % d : Nat) : Rat) / ((d : Nat) : Rat) := by
  have h0 : ((d : Nat) : Rat) ≠ 0 := by
    intro h
    have := Rat.natCast_pos.2 hd
    rw [h] at this; exact absurd this (by decide)
  have e : ((n : Nat) : Rat) = ((d : Nat) : Rat) * ((n / d : Nat) : Rat) + ((n % d : Nat) : Rat) := by
    rw [← Rat.natCast_mul, ← Rat.natCast_add, Nat.div_add_mod]
  rw [Rat.intCast_natCast]
  generalize ((n / d : Nat) : Rat) = q at e ⊢
  generalize ((n % d : Nat) : Rat) = r at e ⊢
  rw [e]
  generalize ((d : Nat) : Rat) = D at h0 ⊢
  grind
theorem cmpT_nat (m n : Nat) : cmpT ((m : Nat) : Rat) ((n : Nat) : Rat) = cmpI m n := by
  rcases cmpI_val m n with ⟨h, e⟩ | ⟨h, e⟩ | ⟨h, e⟩
  · rw [e, cmpT_lt (Rat.natCast_lt_natCast.2 h)]
  · rw [e, cmpT_eq (by rw [h])]
  · rw [e, cmpT_gt (Rat.natCast_lt_natCast.2 h)]
theorem cmp_near (x : Rat) (l : Int) : cmpT (absR x * twoR (-l) - (((shN x.num.natAbs l / shD x.den l : Nat) : Int) : Rat)) (twoR (-1)) = cmpI (shN x.num.natAbs l % shD x.den l * 2 ^ 1) (shD x.den l) := by
  have hd := shD_gt x.den_pos l
  rw [val_two, rem_near hd]
  generalize shN x.num.natAbs l % shD x.den l = r
  generalize shD x.den l = d at hd
  have hp : (0 : Rat) < ((d : Nat) : Rat) := Rat.natCast_pos.2 hd
  have h0 : ((d : Nat) : Rat) ≠ 0 := by intro h; rw [h] at hp; exact absurd hp (by decide)
  have e2 : twoR (-1) = 1 / 2 := by decide +kernel
  have k := cmpT_mul (((r : Nat) : Rat) / ((d : Nat) : Rat)) (1 / 2) (2 * ((d : Nat) : Rat))
  rw [cmpT_gt (show (0 : Rat) < 2 * ((d : Nat) : Rat) by grind), Int.one_mul] at k
  rw [e2, ← k, ← cmpT_nat]
  congr 1
  · rw [Rat.natCast_mul]
    have : ((2 ^ 1 : Nat) : Rat) = 2 := by decide +kernel
    rw [this]
    grind
  · grind
theorem whole_nat {n : Nat} (h : n ≤ 9223372036854775807) : wholeB (((n : Nat) : Int) : Rat) = true ∧ wholeZ (((n : Nat) : Int) : Rat) = ((n : Nat) : Int) := whole_int (by omega) (by omega)
theorem quo_near (x : Rat) (bits : Nat) (least : Int) : shN x.num.natAbs (lastR x bits least) / shD x.den (lastR x bits least) ≤ 2 ^ bits := by
  have := nearM_le x bits least
  unfold nearM rndR at this
  split at this <;> omega
end Wx
