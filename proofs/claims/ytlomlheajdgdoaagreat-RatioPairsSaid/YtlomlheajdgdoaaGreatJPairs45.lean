import Derived.Handy
import Derived.KernelRfl
import Derived.Test.YtlomlheajdgdoaaGreatProg
import Derived.Test.YtlomlheajdgdoaaGreatJPairs0
import Derived.Test.YtlomlheajdgdoaaGreatJPairs1
import Derived.Test.YtlomlheajdgdoaaGreatCPairsRat1
import Derived.Test.YtlomlheajdgdoaaGreatJPairs9
import Derived.Test.YtlomlheajdgdoaaGreatJPairs18
import Derived.Test.YtlomlheajdgdoaaGreatJPairs10
import Derived.Test.YtlomlheajdgdoaaGreatJPairs22
import Derived.Test.YtlomlheajdgdoaaGreatJPairs26
import Derived.Test.YtlomlheajdgdoaaGreatJPairs27
import Derived.Test.YtlomlheajdgdoaaGreatCPairsSem
import Derived.Test.YtlomlheajdgdoaaGreatCPairsSemOps
import Derived.Test.YtlomlheajdgdoaaGreatCPairsSemMem
import Derived.Test.YtlomlheajdgdoaaGreatCPairsSemCode
import Derived.Test.YtlomlheajdgdoaaGreatJPairs15
import Derived.Test.YtlomlheajdgdoaaGreatJPairs28
import Derived.Test.YtlomlheajdgdoaaGreatJPairs16
import Derived.Test.YtlomlheajdgdoaaGreatJPairs29
import Derived.Test.YtlomlheajdgdoaaGreatJPairs33
import Derived.Test.YtlomlheajdgdoaaGreatJPairs35
import Derived.Test.YtlomlheajdgdoaaGreatJPairs38
import Derived.Test.YtlomlheajdgdoaaGreatCPairsPlainFloat3
import Derived.Test.YtlomlheajdgdoaaGreatCPairsMathF
import Derived.Test.YtlomlheajdgdoaaGreatJPairs41
import Derived.Test.YtlomlheajdgdoaaGreatJPairs43
import Derived.Test.YtlomlheajdgdoaaGreatCPairsNNear
import Derived.Test.YtlomlheajdgdoaaGreatCPairsNFloor
namespace Wx
set_option maxRecDepth 100000
open Go Go.RowKit Go.Proofs
set_option linter.unusedVariables false

theorem cn_Near {x : Rat} {j : Nat} (hx : BdR j x) (hj : j ≤ 100000) : ∀ (M : Nat → Nat → Prop) (w : World) (v0 : Value), Mid M w → Box M (fun w => (pRef x) w v0) w → Calls Tryz.prog 17 #[v0] w (RetB M (pF (nearW x 53 (-1074) 1024)) w) := by
  intro M w0 v0 hM hv0
  refine calls_start (N := 5) Tryz.func17 rfl rfl rfl hM (show EntsA M w0 [v0] [⟨none, none, 0, pRef x⟩] from ⟨⟨rfl, _, rfl, hv0⟩, trivial⟩) fun a hI => ?_
  refine seq_text (V1 := [⟨1, 1, some 0, none, .ptr, 33, 3, true, pv (pRef x), []⟩]) (A1 := []) (G1 := [⟨none, none, 0, pRef x⟩, ⟨some 1, none, 2, pF 0⟩]) (V2 := [⟨1, 1, none, none, .ptr, 33, 3, true, pv (pRef x), []⟩]) (G2 := [⟨none, none, 2, pF 0⟩]) hI rfl rfl rfl [0, 1] (by kernel_rfl) (by kernel_rfl) ?_ [0] [1] rfl rfl fun a w hI => ?_
  · exact ⟨op_box 0 rfl rfl (by kernel_rfl) (by kernel_rfl) rfl rfl rfl (.tmp 0 rfl rfl) (fits_ref _) rfl, op_assign (.const _) (.here 1 rfl), trivial⟩
  refine seq_text (V1 := [⟨1, 1, none, none, .ptr, 33, 3, true, pv (pRef x), []⟩]) (A1 := []) (G1 := [⟨none, some 2, 2, pF 0⟩, ⟨some 0, none, 3, pRef x⟩, ⟨some 1, none, 4, pF (nearW x 53 (-1074) 1024)⟩, ⟨some 2, none, 2, pF (nearW x 53 (-1074) 1024)⟩]) (V2 := [⟨1, 1, none, none, .ptr, 33, 3, true, pv (pRef x), []⟩]) (G2 := [⟨none, none, 2, pF (nearW x 53 (-1074) 1024)⟩]) hI rfl rfl rfl [0, 1, 3] (by kernel_rfl) (by kernel_rfl) ?_ [0] [2] rfl rfl fun a w hI => ?_
  · exact ⟨op_load 0 rfl rfl rfl rfl (by kernel_rfl) ty_R rfl (.here 1 rfl), op_callB4 (fun _ _ => by kernel_rfl) (.tmp 1 rfl rfl) (.const _) (.const _) (.const _) (.here 2 rfl) (cn_nearest (bits := 53) (beyond := 1024) hx hj (by omega) (by omega) (by omega) (by omega) (fun _ => by kernel_rfl) (fun _ => by kernel_rfl)), op_assign (.tmp 2 rfl rfl) (.here 3 rfl), trivial⟩
  refine wp_ret ?_
  exact fin1 hI rfl (.tmp 0 rfl)
theorem cn_Near32 {x : Rat} {j : Nat} (hx : BdR j x) (hj : j ≤ 100000) : ∀ (M : Nat → Nat → Prop) (w : World) (v0 : Value), Mid M w → Box M (fun w => (pRef x) w v0) w → Calls Tryz.prog 20 #[v0] w (RetB M (pF32 (near32W x)) w) := by
  intro M w0 v0 hM hv0
  refine calls_start (N := 6) Tryz.func20 rfl rfl rfl hM (show EntsA M w0 [v0] [⟨none, none, 0, pRef x⟩] from ⟨⟨rfl, _, rfl, hv0⟩, trivial⟩) fun a hI => ?_
  refine seq_text (V1 := [⟨1, 1, some 0, none, .ptr, 33, 3, true, pv (pRef x), []⟩]) (A1 := []) (G1 := [⟨none, none, 0, pRef x⟩, ⟨some 1, none, 2, pF32 0⟩]) (V2 := [⟨1, 1, none, none, .ptr, 33, 3, true, pv (pRef x), []⟩]) (G2 := [⟨none, none, 2, pF32 0⟩]) hI rfl rfl rfl [0, 1] (by kernel_rfl) (by kernel_rfl) ?_ [0] [1] rfl rfl fun a w hI => ?_
  · exact ⟨op_box 0 rfl rfl (by kernel_rfl) (by kernel_rfl) rfl rfl rfl (.tmp 0 rfl rfl) (fits_ref _) rfl, op_assign (.const _) (.here 1 rfl), trivial⟩
  refine seq_text (V1 := [⟨1, 1, none, none, .ptr, 33, 3, true, pv (pRef x), []⟩]) (A1 := []) (G1 := [⟨none, some 3, 2, pF32 0⟩, ⟨some 0, none, 3, pRef x⟩, ⟨some 1, none, 4, pF (nearW x 24 (-149) 128)⟩, ⟨some 2, none, 5, pF32 (to32 (nearW x 24 (-149) 128))⟩, ⟨some 3, none, 2, pF32 (to32 (nearW x 24 (-149) 128))⟩]) (V2 := [⟨1, 1, none, none, .ptr, 33, 3, true, pv (pRef x), []⟩]) (G2 := [⟨none, none, 2, pF32 (to32 (nearW x 24 (-149) 128))⟩]) hI rfl rfl rfl [0, 1, 3, 7] (by kernel_rfl) (by kernel_rfl) ?_ [0] [3] rfl rfl fun a w hI => ?_
  · exact ⟨op_load 0 rfl rfl rfl rfl (by kernel_rfl) ty_R rfl (.here 1 rfl), op_callB4 (fun _ _ => by kernel_rfl) (.tmp 1 rfl rfl) (.const _) (.const _) (.const _) (.here 2 rfl) (cn_nearest (bits := 24) (beyond := 128) hx hj (by omega) (by omega) (by omega) (by omega) (fun _ => by kernel_rfl) (fun _ => by kernel_rfl)), op_conv (.tmp 2 rfl rfl) (fun w => conv32 (near32_ok x).1 w) (.here 3 rfl), op_assign (.tmp 3 rfl rfl) (.here 4 rfl), trivial⟩
  refine wp_ret ?_
  exact fin1 hI rfl (.imp (.tmp 0 rfl) (fun _ _ e => by rw [← (near32_ok x).2]; exact e))
end Wx

namespace Wx
open Go Ieee

def manW (f : Format) (c : Nat) : Nat := if c % f.signWeight < f.binade then c % f.signWeight else f.binade + c % f.signWeight % f.binade
def placeW (f : Format) (c : Nat) : Int := if c % f.signWeight < f.binade then f.leastPlace else f.leastPlace + ((c % f.signWeight / f.binade - 1 : Nat) : Int)
def negW (f : Format) (c : Nat) : Bool := c / f.signWeight % 2 == 1
def FinW (f : Format) (c : Nat) : Prop := c % f.signWeight < f.infRung
theorem read_fin {f : Format} {c : Nat} (h : FinW f c) : f.read c = .number (negW f c) (manW f c) (placeW f c) := by
  unfold Format.read manW placeW negW
  dsimp only
  by_cases h1 : c % f.signWeight < f.binade
  · rw [if_pos h1, if_pos h1, if_pos h1]
  · rw [if_neg h1, if_neg h1, if_neg h1, if_pos (show _ < f.infRung from h)]
theorem order_fin {f : Format} {c : Nat} (h : FinW f c) : f.order c c = some .eq := by
  unfold Format.order
  rw [read_fin h]
  simp only [Datum.order, Option.some.injEq]
  exact Std.ReflCmp.compare_self
end Wx

namespace Wx
open Go Ieee

section
variable {x : Rat} {m : Nat} {e : Int}
end
def floatR (neg : Bool) (m : Nat) (e : Int) : Rat := redR neg (m * 2 ^ (maxZ e (0 : Int)).toNat) (2 ^ (maxZ (-e) (0 : Int)).toNat)
section
variable {neg : Bool} {m : Nat} {e : Int}
theorem floatR_hi (h : 0 ≤ e) : redR neg (m * 2 ^ e.toNat) 1 = floatR neg m e := by
  unfold floatR
  have h1 : maxZ e (0 : Int) = e := by unfold maxZ; split <;> omega
  have h2 : (maxZ (-e) (0 : Int)).toNat = 0 := by unfold maxZ; split <;> omega
  rw [h1, h2]
theorem floatR_lo (h : ¬ 0 ≤ e) : redR neg m (1 * 2 ^ (-e).toNat) = floatR neg m e := by
  unfold floatR
  have h1 : (maxZ e (0 : Int)).toNat = 0 := by unfold maxZ; split <;> omega
  have h2 : (maxZ (-e) (0 : Int)) = -e := by unfold maxZ; split <;> omega
  rw [h1, h2, Nat.pow_zero, Nat.mul_one, Nat.one_mul]
theorem floatR_ref : redR false m 1 * twoR e = floatR false m e := by
  unfold floatR redR
  rw [twoR_eq]
  unfold pw
  rw [Rat.mkRat_eq_div, Rat.mkRat_eq_div]
  show ((m : Int) : Rat) / ((1 : Nat) : Rat) * _ = (((m * 2 ^ (maxZ e (0 : Int)).toNat : Nat) : Int) : Rat) / _
  rw [Rat.intCast_natCast, Rat.intCast_natCast, Rat.natCast_mul]
  generalize ((2 ^ (maxZ e (0 : Int)).toNat : Nat) : Rat) = a
  generalize ((2 ^ (maxZ (-e) (0 : Int)).toNat : Nat) : Rat) = b
  have : ((1 : Nat) : Rat) = 1 := rfl
  rw [this]
  grind
theorem floatR_opp : -floatR false m e = floatR true m e := by
  unfold floatR redR
  rw [Rat.mkRat_eq_div, Rat.mkRat_eq_div]
  show -((((m * 2 ^ (maxZ e (0 : Int)).toNat : Nat) : Int) : Rat) / _) = ((-((m * 2 ^ (maxZ e (0 : Int)).toNat : Nat) : Int) : Int) : Rat) / _
  rw [Rat.intCast_neg]
  grind
theorem bd_shl {m a j : Nat} (h : m < 2 ^ 53) (ha : 53 + a ≤ j) : Bd j (m * 2 ^ a) := by
  show m * 2 ^ a < 2 ^ j
  calc m * 2 ^ a < 2 ^ 53 * 2 ^ a := (Nat.mul_lt_mul_right (Nat.two_pow_pos _)).2 h
    _ = 2 ^ (53 + a) := (Nat.pow_add _ _ _).symm
    _ ≤ 2 ^ j := Nat.pow_le_pow_right (by omega) ha
theorem bd_pw {a j : Nat} (ha : a < j) : Bd j (2 ^ a) := Nat.pow_lt_pow_right (by omega) ha
theorem bd_floatR (h : m < 2 ^ 53) (h1 : -1074 ≤ e) (h2 : e ≤ 1074) : BdR 2200 (floatR neg m e) := by
  have a1 : (maxZ e (0 : Int)).toNat ≤ 1074 := by unfold maxZ; split <;> omega
  have a2 : (maxZ (-e) (0 : Int)).toNat ≤ 1074 := by unfold maxZ; split <;> omega
  refine redR_bd (Nat.two_pow_pos _) ?_ ?_
  · exact bd_shl h (by omega)
  · exact bd_pw (by omega)
end
end Wx

namespace Wx
open Go Ieee

theorem dbl_sw : double.signWeight = 9223372036854775808 := by decide +kernel
theorem dbl_bin : double.binade = 4503599627370496 := by decide +kernel
theorem dbl_inf : double.infRung = 9218868437227405312 := by decide +kernel
theorem sgl_sw : single.signWeight = 2147483648 := by decide +kernel
theorem sgl_bin : single.binade = 8388608 := by decide +kernel
theorem sgl_inf : single.infRung = 2139095040 := by decide +kernel
theorem sgl_least : single.leastPlace = -149 := by decide +kernel
theorem dbl_fin {X : Nat} : FinW double X ↔ X / 2 ^ 52 % 2 ^ 11 ≠ 2047 := by
  unfold FinW
  rw [dbl_sw, dbl_inf]
  omega
theorem dbl_man (X : Nat) : manW double X = if X / 2 ^ 52 % 2 ^ 11 = 0 then X % 2 ^ 52 else X % 2 ^ 52 + 2 ^ 52 := by
  unfold manW
  rw [dbl_sw, dbl_bin]
  split <;> split <;> omega
theorem dbl_place (X : Nat) : placeW double X + 1075 = if X / 2 ^ 52 % 2 ^ 11 = 0 then 1 else ((X / 2 ^ 52 % 2 ^ 11 : Nat) : Int) := by
  unfold placeW
  rw [dbl_sw, dbl_bin, double_least]
  split <;> split <;> omega
theorem dbl_neg {X : Nat} (hX : X < 2 ^ 64) : negW double X = (((X / 2 ^ 63 : Nat) : Int) == (1 : Int)) := by
  unfold negW
  rw [dbl_sw]
  have h1 : X / 2 ^ 63 = 0 ∨ X / 2 ^ 63 = 1 := by omega
  have e : X / 9223372036854775808 = X / 2 ^ 63 := rfl
  rw [e]
  rcases h1 with h | h <;> rw [h] <;> rfl
theorem dbl_bounds {X : Nat} (hf : FinW double X) : manW double X < 2 ^ 53 ∧ -1074 ≤ placeW double X ∧ placeW double X ≤ 971 := by
  unfold FinW at hf
  rw [dbl_sw, dbl_inf] at hf
  unfold manW placeW
  rw [dbl_sw, dbl_bin, double_least]
  split <;> omega
def floatX (X : Nat) : Rat := floatR (negW double X) (manW double X) (placeW double X)
theorem bd_floatX {X : Nat} (hf : FinW double X) : BdR 2200 (floatX X) := bd_floatR (dbl_bounds hf).1 (dbl_bounds hf).2.1 (by have := (dbl_bounds hf).2.2; omega)
def D32 (c : Nat) : Nat := double.write (single.read c)
theorem sgl_bounds {c : Nat} (hf : FinW single c) : manW single c < 2 ^ 24 ∧ -149 ≤ placeW single c ∧ placeW single c ≤ 104 := by
  unfold FinW at hf
  rw [sgl_sw, sgl_inf] at hf
  unfold manW placeW
  rw [sgl_sw, sgl_bin, sgl_least]
  split <;> omega
theorem sgl_in {c : Nat} (hf : FinW single c) (h0 : manW single c ≠ 0) : InDouble (manW single c) (placeW single c) := by
  have h3 := sgl_bounds hf
  have h5 : (manW single c).log2 ≤ 23 := by have := (Nat.log2_lt h0).2 h3.1; omega
  exact ⟨h0, by omega, by omega, by omega⟩
theorem D32_fin {c : Nat} (hf : FinW single c) : D32 c = double.nearest (negW single c) (manW single c) (placeW single c) := by
  unfold D32
  rw [read_fin hf]
  rfl
theorem not_fin {X : Nat} (hf : ¬ FinW double X) : (double.read X).isNaN = true ∨ (double.read X).isInfinity = true := by
  have h1 : ¬ X % double.signWeight < double.infRung := hf
  have h2 : ¬ X % double.signWeight < double.binade := by
    rw [dbl_sw, dbl_inf] at h1
    rw [dbl_sw, dbl_bin]
    omega
  unfold Format.read
  dsimp only
  rw [if_neg h2, if_neg h1]
  split
  · exact .inr rfl
  · exact .inl rfl
theorem fin_of_read {X : Nat} {s : Bool} {m : Nat} {e : Int} (h : double.read X = .number s m e) : FinW double X ∧ negW double X = s ∧ manW double X = m ∧ placeW double X = e := by
  by_cases hf : FinW double X
  · rw [read_fin hf] at h
    injection h with h1 h2 h3
    exact ⟨hf, h1, h2, h3⟩
  · rcases not_fin hf with k | k <;> rw [h] at k <;> cases k
theorem word_read (neg : Bool) : double.read (double.word neg 0) = .number neg 0 (-1074) := by cases neg <;> decide +kernel
theorem dnear_lt (neg : Bool) (m : Nat) (e : Int) : double.nearest neg m e < 2 ^ 64 := by
  have h := nearest_pos_lt (m := m) (e := e)
  cases neg
  · omega
  · rw [nearest_neg, dbl_sw]
    omega
theorem D32_zero {c : Nat} (hf : FinW single c) (h0 : manW single c = 0) : FinW double (D32 c) ∧ manW double (D32 c) = 0 := by
  rw [D32_fin hf, h0, nearest_zero]
  obtain ⟨h1, _, h3, _⟩ := fin_of_read (word_read (negW single c))
  exact ⟨h1, h3⟩
theorem D32_num {c : Nat} (hf : FinW single c) (h0 : manW single c ≠ 0) : ∃ k : Nat, FinW double (D32 c) ∧ negW double (D32 c) = negW single c ∧ manW double (D32 c) = manW single c * 2 ^ k ∧ placeW double (D32 c) = placeW single c - k := by
  obtain ⟨k, h, _⟩ := (sgl_in hf h0).read (negW single c)
  rw [D32_fin hf]
  exact ⟨k, fin_of_read h⟩
theorem D32_ok {c : Nat} (hf : FinW single c) : FinW double (D32 c) := by
  by_cases h0 : manW single c = 0
  · exact (D32_zero hf h0).1
  · obtain ⟨k, h, _⟩ := D32_num hf h0
    exact h
theorem D32_lt {c : Nat} (hf : FinW single c) : D32 c < 2 ^ 64 := by
  rw [D32_fin hf]
  exact dnear_lt _ _ _
theorem fin_test {X : Nat} : ((double.order X X != some .eq) || (double.order (X % 2 ^ 63) 9218868437227405311 == some .gt)) = decide (X / 2 ^ 52 % 2 ^ 11 = 2047) := by
  by_cases hf : FinW double X
  · have h1 : FinW double (X % 2 ^ 63) := by
      unfold FinW at hf ⊢
      rw [dbl_sw, dbl_inf] at hf ⊢
      omega
    have h2 : negW double (X % 2 ^ 63) = false := by
      unfold negW
      rw [dbl_sw]
      exact beq_eq_false_iff_ne.2 (by omega)
    have hb := dbl_bounds h1
    rw [order_fin hf, decide_eq_false (dbl_fin.1 hf)]
    have hr := read_fin h1
    rw [h2] at hr
    rw [order_fl hr read_most]
    have e1 : min (placeW double (X % 2 ^ 63)) 971 = placeW double (X % 2 ^ 63) := by omega
    rw [e1, Int.sub_self]
    have hle : manW double (X % 2 ^ 63) * 2 ^ (0 : Int).toNat ≤ (2 ^ 53 - 1) * 2 ^ (971 - placeW double (X % 2 ^ 63)).toNat := by
      rw [Int.toNat_zero, Nat.pow_zero, Nat.mul_one]
      exact Nat.le_trans (Nat.le_sub_one_of_lt hb.1) (Nat.le_mul_of_pos_right _ (Nat.two_pow_pos _))
    have hne : compare (manW double (X % 2 ^ 63) * 2 ^ (0 : Int).toNat) ((2 ^ 53 - 1) * 2 ^ (971 - placeW double (X % 2 ^ 63)).toNat) ≠ .gt := fun k => by
      have := Nat.compare_eq_gt.1 k
      omega
    generalize compare (manW double (X % 2 ^ 63) * 2 ^ (0 : Int).toNat) ((2 ^ 53 - 1) * 2 ^ (971 - placeW double (X % 2 ^ 63)).toNat) = o at hne
    cases o
    · rfl
    · rfl
    · exact absurd rfl hne
  · have hd : X / 2 ^ 52 % 2 ^ 11 = 2047 := by
      by_cases h : X / 2 ^ 52 % 2 ^ 11 = 2047
      · exact h
      · exact absurd (dbl_fin.2 h) hf
    rw [decide_eq_true hd]
    have h1 : ¬ X % double.signWeight < double.infRung := hf
    have h2 : ¬ X % double.signWeight < double.binade := by
      rw [dbl_sw, dbl_inf] at h1
      rw [dbl_sw, dbl_bin]
      omega
    by_cases hi : X % double.signWeight = double.infRung
    · have h3 : X % 2 ^ 63 = 9218868437227405312 := by
        rw [dbl_sw, dbl_inf] at hi
        exact hi
      rw [h3]
      have : (double.order 9218868437227405312 9218868437227405311 == some .gt) = true := by decide +kernel
      rw [this, Bool.or_true]
    · have hn : double.read X = .nan (X / double.signWeight % 2 == 1) (X % double.signWeight - double.infRung) := by
        unfold Format.read
        dsimp only
        rw [if_neg h2, if_neg h1, if_neg hi]
      unfold Format.order
      rw [hn]
      rfl
end Wx

namespace Wx
set_option maxRecDepth 100000
open Go Go.RowKit Go.Proofs

def Dbl (c D : Nat) : Prop := D < 2 ^ 64 ∧ (FinW Ieee.single c → D = D32 c) ∧ (¬ FinW Ieee.single c → ¬ FinW Ieee.double D)
theorem not_fin32 {c : Nat} (hf : ¬ FinW Ieee.single c) : (∃ s t, Ieee.single.read c = .nan s t) ∨ ∃ s, Ieee.single.read c = .infinity s := by
  have h1 : ¬ c % Ieee.single.signWeight < Ieee.single.infRung := hf
  have h2 : ¬ c % Ieee.single.signWeight < Ieee.single.binade := by
    rw [sgl_sw, sgl_inf] at h1
    rw [sgl_sw, sgl_bin]
    omega
  unfold Ieee.Format.read
  dsimp only
  rw [if_neg h2, if_neg h1]
  split
  · exact .inr ⟨_, rfl⟩
  · exact .inl ⟨_, _, rfl⟩
theorem inf_not (s : Bool) : Ieee.double.write (.infinity s) < 2 ^ 64 ∧ ¬ FinW Ieee.double (Ieee.double.write (.infinity s)) := by
  unfold FinW
  rw [dbl_sw, dbl_inf]
  cases s <;> decide +kernel
theorem conv64_eq (c : Nat) (w : World) : (Go.convert 51 46 (.float .f32 c)).run Tryz.prog w = (Conv.floatToFloat .f32 c .f64).run Tryz.prog w := by kernel_rfl
theorem conv64_fin {c : Nat} (hf : FinW Ieee.single c) (w : World) : (Go.convert 51 46 (.float .f32 c)).run Tryz.prog w = .ok (.float .f64 (D32 c)) w := by
  rw [conv64_eq]
  have e1 : FloatKind.f32.decode c = Ieee.single.read c := rfl
  unfold Conv.floatToFloat
  rw [if_neg (by decide), e1, read_fin hf]
  have e2 : FloatKind.f64.encode (.number (negW Ieee.single c) (manW Ieee.single c) (placeW Ieee.single c)) = D32 c := by
    unfold D32
    rw [read_fin hf]
    rfl
  have e3 : FloatKind.f64.decode (D32 c) = Ieee.double.read (D32 c) := rfl
  simp only [e2, e3]
  rw [read_fin (D32_ok hf)]
  rfl
theorem conv64_run (c : Nat) (w : World) : ∃ D w', (Go.convert 51 46 (.float .f32 c)).run Tryz.prog w = .ok (.float .f64 D) w' ∧ Below w.heap.size w w' ∧ Dbl c D := by
  by_cases hf : FinW Ieee.single c
  · exact ⟨_, w, conv64_fin hf w, Below.refl _ _, D32_lt hf, fun _ => rfl, fun h => absurd hf h⟩
  · rw [conv64_eq]
    have e1 : FloatKind.f32.decode c = Ieee.single.read c := rfl
    unfold Conv.floatToFloat
    rw [if_neg (by decide), e1]
    rcases not_fin32 hf with ⟨s, t, h⟩ | ⟨s, h⟩
    · rw [h]
      refine ⟨(Question.nanConv .f64 c).cut (w.tape w.drawn (Question.nanConv .f64 c)), { w with drawn := w.drawn + 1 }, rfl, ⟨rfl, rfl, rfl, Nat.le_refl _, fun _ _ => rfl⟩, ?_, fun h => absurd h hf, fun _ => ?_⟩
      · show (w.tape w.drawn (Question.nanConv .f64 c) % 2) * 2 ^ 63 + 0x7ff0000000000000 + 1 + (w.tape w.drawn (Question.nanConv .f64 c) / 2) % (2 ^ 52 - 1) < 2 ^ 64
        omega
      · show ¬ FinW Ieee.double ((w.tape w.drawn (Question.nanConv .f64 c) % 2) * 2 ^ 63 + 0x7ff0000000000000 + 1 + (w.tape w.drawn (Question.nanConv .f64 c) / 2) % (2 ^ 52 - 1))
        unfold FinW
        rw [dbl_sw, dbl_inf]
        have a1 : w.tape w.drawn (Question.nanConv .f64 c) % 2 < 2 := Nat.mod_lt _ (by decide)
        have a2 : w.tape w.drawn (Question.nanConv .f64 c) / 2 % (2 ^ 52 - 1) < 2 ^ 52 - 1 := Nat.mod_lt _ (by decide)
        generalize w.tape w.drawn (Question.nanConv .f64 c) % 2 = a at *
        generalize w.tape w.drawn (Question.nanConv .f64 c) / 2 % (2 ^ 52 - 1) = b at *
        omega
    · rw [h]
      exact ⟨_, w, rfl, Below.refl _ _, (inf_not s).1, fun h => absurd h hf, fun _ => (inf_not s).2⟩
def pD (c : Nat) : Pred := fun _ v => ∃ D, v = .float .f64 D ∧ Dbl c D
section
variable {P : Program} {ops : Array Oper} {ms : List Nat} {c : Cfg} {V : List Vr} {A : List Al} {G : List Ent} {i d : Nat} {x y : Operand} {ty : TypeId} {pos : String} {aft : Array Edge}
theorem op_convW {S D : TypeId} {v : Value} {q : Value → Prop} (h : Has ms G i x (pEq v)) (hr : ∀ w, ∃ u w', (Go.convert S D v).run P w = .ok u w' ∧ Below w.heap.size w w' ∧ q u) (hp : Post G i (fun _ u => q u)) : OpOk P ops ms c V A G i ⟨some d, .convert S D x, ty, pos, aft, none⟩ :=
  op_val rfl rfl rfl (.inl rfl) hp fun L β a w hI hd => by
    have k := (h.spec hI hd).out
    have k : a.eval x = v := k
    obtain ⟨u, w', h1, h2, h3⟩ := hr w
    refine ⟨u, w', ?_, h2, fun _ _ => h3⟩
    show (do pure (Next.value (← Go.convert S D (a.eval x)))).run P w = _
    rw [k]
    simp only [Sem.run_bind, h1, Result.andThen_ok]
    rfl
end
theorem op_conv64 {ops : Array Oper} {ms : List Nat} {c : Cfg} {V : List Vr} {A : List Al} {G : List Ent} {i d : Nat} {x : Operand} {ty : TypeId} {pos : String} {aft : Array Edge} {n : Nat} (h : Has ms G i x (pF32 n)) (hp : Post G i (pD n)) : OpOk Tryz.prog ops ms c V A G i ⟨some d, .convert 51 46 x, ty, pos, aft, none⟩ :=
  op_convW (q := fun v => ∃ D, v = .float .f64 D ∧ Dbl n D) h (fun w => by
    obtain ⟨D, w', h1, h2, h3⟩ := conv64_run n w
    exact ⟨_, w', h1, h2, D, rfl, h3⟩) hp
end Wx
