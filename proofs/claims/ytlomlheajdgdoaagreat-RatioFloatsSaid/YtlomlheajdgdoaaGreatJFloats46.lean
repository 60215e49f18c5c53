import Derived.Handy
import Derived.Test.YtlomlheajdgdoaaGreatJFloats0
import Derived.Test.YtlomlheajdgdoaaGreatCFloatsMem
import Derived.Test.YtlomlheajdgdoaaGreatJFloats2
import Derived.Test.YtlomlheajdgdoaaGreatCFloatsRat1
import Derived.Test.YtlomlheajdgdoaaGreatJFloats12
import Derived.Test.YtlomlheajdgdoaaGreatJFloats36
import Derived.Test.YtlomlheajdgdoaaGreatJFloats14
import Derived.Test.YtlomlheajdgdoaaGreatJFloats38
import Derived.Test.YtlomlheajdgdoaaGreatCFloatsNums
import Derived.Test.YtlomlheajdgdoaaGreatJFloats42
import Derived.Test.YtlomlheajdgdoaaGreatJFloats35
import Derived.Test.YtlomlheajdgdoaaGreatCFloatsPlainFloat3
import Derived.Test.YtlomlheajdgdoaaGreatJFloats44
import Derived.Test.YtlomlheajdgdoaaGreatJFloats45
import Derived.KernelRfl
import Derived.Test.YtlomlheajdgdoaaGreatProg
import Derived.Test.YtlomlheajdgdoaaGreatCFloatsInv
import Derived.Test.YtlomlheajdgdoaaGreatCFloatsSem
import Derived.Test.YtlomlheajdgdoaaGreatCFloatsSemOps
import Derived.Test.YtlomlheajdgdoaaGreatCFloatsSemMem
import Derived.Test.YtlomlheajdgdoaaGreatCFloatsSemCode
import Derived.Test.YtlomlheajdgdoaaGreatJFloats19
namespace Wx
open Go Ieee

theorem dbl_sw : double.signWeight = 9223372036854775808 := by decide +kernel
theorem dbl_bin : double.binade = 4503599627370496 := by decide +kernel
theorem dbl_inf : double.infRung = 9218868437227405312 := by decide +kernel
theorem sgl_sw : single.signWeight = 2147483648 := by decide +kernel
theorem sgl_bin : single.binade = 8388608 := by decide +kernel
theorem sgl_inf : single.infRung = 2139095040 := by decide +kernel
theorem sgl_least : single.leastPlace = -149 := by decide +kernel
theorem dbl_fin {X : Nat} : FinW double X ↔ X / 2 ^ 52 % 2 ^ 11 ≠ 2047 := by
  unfold FinW
  rw [dbl_sw, dbl_inf]
  omega
theorem dbl_man (X : Nat) : manW double X = if X / 2 ^ 52 % 2 ^ 11 = 0 then X % 2 ^ 52 else X % 2 ^ 52 + 2 ^ 52 := by
  unfold manW
  rw [dbl_sw, dbl_bin]
  split <;> split <;> omega
theorem dbl_place (X : Nat) : placeW double X + 1075 = if X / 2 ^ 52 % 2 ^ 11 = 0 then 1 else ((X / 2 ^ 52 % 2 ^ 11 : Nat) : Int) := by
  unfold placeW
  rw [dbl_sw, dbl_bin, double_least]
  split <;> split <;> omega
theorem dbl_neg {X : Nat} (hX : X < 2 ^ 64) : negW double X = (((X / 2 ^ 63 : Nat) : Int) == (1 : Int)) := by
  unfold negW
  rw [dbl_sw]
  have h1 : X / 2 ^ 63 = 0 ∨ X / 2 ^ 63 = 1 := by omega
  have e : X / 9223372036854775808 = X / 2 ^ 63 := rfl
  rw [e]
  rcases h1 with h | h <;> rw [h] <;> rfl
theorem dbl_top {X : Nat} (hX : X < 2 ^ 64) : negW double X = decide (9223372036854775808 ≤ X) := by
  rw [dbl_neg hX]
  by_cases h : 9223372036854775808 ≤ X
  · rw [decide_eq_true h]
    exact beq_iff_eq.2 (by omega)
  · rw [decide_eq_false h]
    exact beq_eq_false_iff_ne.2 (by omega)
theorem dbl_bounds {X : Nat} (hf : FinW double X) : manW double X < 2 ^ 53 ∧ -1074 ≤ placeW double X ∧ placeW double X ≤ 971 := by
  unfold FinW at hf
  rw [dbl_sw, dbl_inf] at hf
  unfold manW placeW
  rw [dbl_sw, dbl_bin, double_least]
  split <;> omega
theorem dbl_canon {X : Nat} (hf : FinW double X) (h0 : manW double X ≠ 0) : maxZ (placeW double X + nbits (manW double X) - (53 : Nat)) (-1074) = placeW double X ∧ (nbits (manW double X) : Int) + placeW double X ≤ 1024 := by
  have h1 := place_max double X h0
  have h2 := nbits_log h0
  have h3 := dbl_bounds hf
  have hfb : (double.fractionBits : Int) = 52 := rfl
  have h5 : (manW double X).log2 ≤ 52 := by have := (Nat.log2_lt h0).2 h3.1; omega
  rw [hfb, double_least] at h1
  refine ⟨?_, by omega⟩
  unfold maxZ
  split <;> omega
def floatX (X : Nat) : Rat := floatR (negW double X) (manW double X) (placeW double X)
theorem bd_floatX {X : Nat} (hf : FinW double X) : BdR 2200 (floatX X) := bd_floatR (dbl_bounds hf).1 (dbl_bounds hf).2.1 (by have := (dbl_bounds hf).2.2; omega)
theorem floatX_zero {X : Nat} (h0 : manW double X = 0) : floatX X = 0 := by
  unfold floatX
  rw [h0, floatR_zero]
theorem near_nil : nearW 0 53 (-1074) 1024 = 0 ∧ near32W 0 = 0 := ⟨if_pos rfl, if_pos rfl⟩
theorem near_float {X : Nat} (hX : X < 2 ^ 64) (hf : FinW double X) : nearW (floatX X) 53 (-1074) 1024 = if manW double X = 0 then 0 else X := by
  split
  · rename_i h0
    rw [floatX_zero h0]
    exact near_nil.1
  · rename_i h0
    rw [nearW_exact (x := floatX X) floatR_mag h0 (dbl_canon hf h0).1 (dbl_canon hf h0).2]
    show double.nearest (decide ((floatR _ _ _).num < 0)) _ _ = X
    rw [floatR_neg h0]
    exact nearest_back h0 hf (by rw [dbl_sw]; omega)
def D32 (c : Nat) : Nat := double.write (single.read c)
theorem sgl_bounds {c : Nat} (hf : FinW single c) : manW single c < 2 ^ 24 ∧ -149 ≤ placeW single c ∧ placeW single c ≤ 104 := by
  unfold FinW at hf
  rw [sgl_sw, sgl_inf] at hf
  unfold manW placeW
  rw [sgl_sw, sgl_bin, sgl_least]
  split <;> omega
theorem sgl_canon {c : Nat} (hf : FinW single c) (h0 : manW single c ≠ 0) : maxZ (placeW single c + nbits (manW single c) - (24 : Nat)) (-149) = placeW single c ∧ (nbits (manW single c) : Int) + placeW single c ≤ 128 := by
  have h1 := place_max single c h0
  have h2 := nbits_log h0
  have h3 := sgl_bounds hf
  have hfb : (single.fractionBits : Int) = 23 := rfl
  have h5 : (manW single c).log2 ≤ 23 := by have := (Nat.log2_lt h0).2 h3.1; omega
  rw [hfb, sgl_least] at h1
  refine ⟨?_, by omega⟩
  unfold maxZ
  split <;> omega
theorem sgl_in {c : Nat} (hf : FinW single c) (h0 : manW single c ≠ 0) : InDouble (manW single c) (placeW single c) := by
  have h3 := sgl_bounds hf
  have h5 : (manW single c).log2 ≤ 23 := by have := (Nat.log2_lt h0).2 h3.1; omega
  exact ⟨h0, by omega, by omega, by omega⟩
theorem D32_fin {c : Nat} (hf : FinW single c) : D32 c = double.nearest (negW single c) (manW single c) (placeW single c) := by
  unfold D32
  rw [read_fin hf]
  rfl
theorem not_fin {X : Nat} (hf : ¬ FinW double X) : (double.read X).isNaN = true ∨ (double.read X).isInfinity = true := by
  have h1 : ¬ X % double.signWeight < double.infRung := hf
  have h2 : ¬ X % double.signWeight < double.binade := by
    rw [dbl_sw, dbl_inf] at h1
    rw [dbl_sw, dbl_bin]
    omega
  unfold Format.read
  dsimp only
  rw [if_neg h2, if_neg h1]
  split
  · exact .inr rfl
  · exact .inl rfl
theorem fin_of_read {X : Nat} {s : Bool} {m : Nat} {e : Int} (h : double.read X = .number s m e) : FinW double X ∧ negW double X = s ∧ manW double X = m ∧ placeW double X = e := by
  by_cases hf : FinW double X
  · rw [read_fin hf] at h
    injection h with h1 h2 h3
    exact ⟨hf, h1, h2, h3⟩
  · rcases not_fin hf with k | k <;> rw [h] at k <;> cases k
theorem word_read (neg : Bool) : double.read (double.word neg 0) = .number neg 0 (-1074) := by cases neg <;> decide +kernel
theorem dnear_lt (neg : Bool) (m : Nat) (e : Int) : double.nearest neg m e < 2 ^ 64 := by
  have h := nearest_pos_lt (m := m) (e := e)
  cases neg
  · omega
  · rw [nearest_neg, dbl_sw]
    omega
theorem D32_zero {c : Nat} (hf : FinW single c) (h0 : manW single c = 0) : FinW double (D32 c) ∧ manW double (D32 c) = 0 := by
  rw [D32_fin hf, h0, nearest_zero]
  obtain ⟨h1, _, h3, _⟩ := fin_of_read (word_read (negW single c))
  exact ⟨h1, h3⟩
theorem D32_num {c : Nat} (hf : FinW single c) (h0 : manW single c ≠ 0) : ∃ k : Nat, FinW double (D32 c) ∧ negW double (D32 c) = negW single c ∧ manW double (D32 c) = manW single c * 2 ^ k ∧ placeW double (D32 c) = placeW single c - k := by
  obtain ⟨k, h, _⟩ := (sgl_in hf h0).read (negW single c)
  rw [D32_fin hf]
  exact ⟨k, fin_of_read h⟩
theorem D32_ok {c : Nat} (hf : FinW single c) : FinW double (D32 c) := by
  by_cases h0 : manW single c = 0
  · exact (D32_zero hf h0).1
  · obtain ⟨k, h, _⟩ := D32_num hf h0
    exact h
theorem D32_lt {c : Nat} (hf : FinW single c) : D32 c < 2 ^ 64 := by
  rw [D32_fin hf]
  exact dnear_lt _ _ _
theorem near32_float {c : Nat} (hc : c < 2 ^ 32) (hf : FinW single c) : near32W (floatX (D32 c)) = if manW single c = 0 then 0 else c := by
  split
  · rename_i h0
    rw [floatX_zero (D32_zero hf h0).2]
    exact near_nil.2
  · rename_i h0
    obtain ⟨k, h1, h2, h3, h4⟩ := D32_num hf h0
    have hm : manW single c * 2 ^ k ≠ 0 := Nat.mul_ne_zero h0 (by have := Nat.two_pow_pos k; omega)
    have hx : IsMag (floatX (D32 c)) (manW single c) (placeW single c) := by
      refine IsMag.scale (k := k) ?_
      unfold floatX
      rw [h3, h4]
      exact floatR_mag
    rw [near32W_exact hx h0 (sgl_canon hf h0).1 (sgl_canon hf h0).2]
    have hs : decide ((floatX (D32 c)).num < 0) = negW single c := by
      unfold floatX
      rw [h3, h2]
      exact floatR_neg hm
    rw [hs]
    exact nearest_back h0 hf (by rw [sgl_sw]; omega)
theorem zero_read : double.read 0 = .number false 0 double.leastPlace := by rw [double_least]; exact read_zero
theorem zero_read32 : single.read 0 = .number false 0 single.leastPlace := by decide +kernel
theorem fl_a {X : Nat} (hX : X < 2 ^ 64) (hf : FinW double X) : (double.order (nearW (floatX X) 53 (-1074) 1024) X != some .eq) = false := by
  rw [near_float hX hf]
  split
  · rename_i h0
    rw [(order_nil hf h0 zero_read).2]; rfl
  · rw [order_fin hf]; rfl
theorem fl_b {X : Nat} (hX : X < 2 ^ 64) (hf : FinW double X) : ((decide (9223372036854775808 ≤ nearW (floatX X) 53 (-1074) 1024)) != (double.order X 0 == some .lt)) = false := by
  rw [near_float hX hf]
  split
  · rename_i h0
    rw [(order_nil hf h0 zero_read).1]; rfl
  · rename_i h0
    rw [order_sign hf h0 zero_read, ← dbl_top hX]
    cases negW double X <;> rfl
theorem fl_c {c : Nat} (hc : c < 2 ^ 32) (hf : FinW single c) : (single.order (near32W (floatX (D32 c))) c == some .eq) = true := by
  rw [near32_float hc hf]
  split
  · rename_i h0
    rw [(order_nil hf h0 zero_read32).2]; rfl
  · rw [order_fin hf]; rfl
theorem fl_d {c : Nat} (hc : c < 2 ^ 32) (hf : FinW single c) : ((decide (9223372036854775808 ≤ D32 (near32W (floatX (D32 c))))) == (single.order c 0 == some .lt)) = true := by
  rw [near32_float hc hf]
  split
  · rename_i h0
    rw [(order_nil hf h0 zero_read32).1]; decide +kernel
  · rename_i h0
    obtain ⟨k, h1, h2, h3, h4⟩ := D32_num hf h0
    rw [order_sign hf h0 zero_read32, ← dbl_top (D32_lt hf), h2]
    cases negW single c <;> rfl
theorem near32_fin {c : Nat} (hc : c < 2 ^ 32) (hf : FinW single c) : FinW single (near32W (floatX (D32 c))) := by
  rw [near32_float hc hf]
  split
  · unfold FinW; rw [sgl_sw, sgl_inf]; decide
  · exact hf
theorem fin_test {X : Nat} : ((double.order X X != some .eq) || (double.order (X % 2 ^ 63) 9218868437227405311 == some .gt)) = decide (X / 2 ^ 52 % 2 ^ 11 = 2047) := by
  by_cases hf : FinW double X
  · have h1 : FinW double (X % 2 ^ 63) := by
      unfold FinW at hf ⊢
      rw [dbl_sw, dbl_inf] at hf ⊢
      omega
    have h2 : negW double (X % 2 ^ 63) = false := by
      unfold negW
      rw [dbl_sw]
      exact beq_eq_false_iff_ne.2 (by omega)
    have hb := dbl_bounds h1
    rw [order_fin hf, decide_eq_false (dbl_fin.1 hf)]
    have hr := read_fin h1
    rw [h2] at hr
    rw [order_fl hr read_most]
    have e1 : min (placeW double (X % 2 ^ 63)) 971 = placeW double (X % 2 ^ 63) := by omega
    rw [e1, Int.sub_self]
    have hle : manW double (X % 2 ^ 63) * 2 ^ (0 : Int).toNat ≤ (2 ^ 53 - 1) * 2 ^ (971 - placeW double (X % 2 ^ 63)).toNat := by
      rw [Int.toNat_zero, Nat.pow_zero, Nat.mul_one]
      exact Nat.le_trans (Nat.le_sub_one_of_lt hb.1) (Nat.le_mul_of_pos_right _ (Nat.two_pow_pos _))
    have hne : compare (manW double (X % 2 ^ 63) * 2 ^ (0 : Int).toNat) ((2 ^ 53 - 1) * 2 ^ (971 - placeW double (X % 2 ^ 63)).toNat) ≠ .gt := fun k => by
      have := Nat.compare_eq_gt.1 k
      omega
    generalize compare (manW double (X % 2 ^ 63) * 2 ^ (0 : Int).toNat) ((2 ^ 53 - 1) * 2 ^ (971 - placeW double (X % 2 ^ 63)).toNat) = o at hne
    cases o
    · rfl
    · rfl
    · exact absurd rfl hne
  · have hd : X / 2 ^ 52 % 2 ^ 11 = 2047 := by
      by_cases h : X / 2 ^ 52 % 2 ^ 11 = 2047
      · exact h
      · exact absurd (dbl_fin.2 h) hf
    rw [decide_eq_true hd]
    have h1 : ¬ X % double.signWeight < double.infRung := hf
    have h2 : ¬ X % double.signWeight < double.binade := by
      rw [dbl_sw, dbl_inf] at h1
      rw [dbl_sw, dbl_bin]
      omega
    by_cases hi : X % double.signWeight = double.infRung
    · have h3 : X % 2 ^ 63 = 9218868437227405312 := by
        rw [dbl_sw, dbl_inf] at hi
        exact hi
      rw [h3]
      have : (double.order 9218868437227405312 9218868437227405311 == some .gt) = true := by decide +kernel
      rw [this, Bool.or_true]
    · have hn : double.read X = .nan (X / double.signWeight % 2 == 1) (X % double.signWeight - double.infRung) := by
        unfold Format.read
        dsimp only
        rw [if_neg h2, if_neg h1, if_neg hi]
      unfold Format.order
      rw [hn]
      rfl
end Wx

namespace Wx
set_option maxRecDepth 100000
open Go Go.RowKit Go.Proofs

def Dbl (c D : Nat) : Prop := D < 2 ^ 64 ∧ (FinW Ieee.single c → D = D32 c) ∧ (¬ FinW Ieee.single c → ¬ FinW Ieee.double D)
theorem not_fin32 {c : Nat} (hf : ¬ FinW Ieee.single c) : (∃ s t, Ieee.single.read c = .nan s t) ∨ ∃ s, Ieee.single.read c = .infinity s := by
  have h1 : ¬ c % Ieee.single.signWeight < Ieee.single.infRung := hf
  have h2 : ¬ c % Ieee.single.signWeight < Ieee.single.binade := by
    rw [sgl_sw, sgl_inf] at h1
    rw [sgl_sw, sgl_bin]
    omega
  unfold Ieee.Format.read
  dsimp only
  rw [if_neg h2, if_neg h1]
  split
  · exact .inr ⟨_, rfl⟩
  · exact .inl ⟨_, _, rfl⟩
theorem inf_not (s : Bool) : Ieee.double.write (.infinity s) < 2 ^ 64 ∧ ¬ FinW Ieee.double (Ieee.double.write (.infinity s)) := by
  unfold FinW
  rw [dbl_sw, dbl_inf]
  cases s <;> decide +kernel
theorem conv64_eq (c : Nat) (w : World) : (Go.convert 51 46 (.float .f32 c)).run Tryz.prog w = (Conv.floatToFloat .f32 c .f64).run Tryz.prog w := by kernel_rfl
theorem conv64_fin {c : Nat} (hf : FinW Ieee.single c) (w : World) : (Go.convert 51 46 (.float .f32 c)).run Tryz.prog w = .ok (.float .f64 (D32 c)) w := by
  rw [conv64_eq]
  have e1 : FloatKind.f32.decode c = Ieee.single.read c := rfl
  unfold Conv.floatToFloat
  rw [if_neg (by decide), e1, read_fin hf]
  have e2 : FloatKind.f64.encode (.number (negW Ieee.single c) (manW Ieee.single c) (placeW Ieee.single c)) = D32 c := by
    unfold D32
    rw [read_fin hf]
    rfl
  have e3 : FloatKind.f64.decode (D32 c) = Ieee.double.read (D32 c) := rfl
  simp only [e2, e3]
  rw [read_fin (D32_ok hf)]
  rfl
theorem conv64_run (c : Nat) (w : World) : ∃ D w', (Go.convert 51 46 (.float .f32 c)).run Tryz.prog w = .ok (.float .f64 D) w' ∧ Below w.heap.size w w' ∧ Dbl c D := by
  by_cases hf : FinW Ieee.single c
  · exact ⟨_, w, conv64_fin hf w, Below.refl _ _, D32_lt hf, fun _ => rfl, fun h => absurd hf h⟩
  · rw [conv64_eq]
    have e1 : FloatKind.f32.decode c = Ieee.single.read c := rfl
    unfold Conv.floatToFloat
    rw [if_neg (by decide), e1]
    rcases not_fin32 hf with ⟨s, t, h⟩ | ⟨s, h⟩
    · rw [h]
      refine ⟨(Question.nanConv .f64 c).cut (w.tape w.drawn (Question.nanConv .f64 c)), { w with drawn := w.drawn + 1 }, rfl, ⟨rfl, rfl, rfl, Nat.le_refl _, fun _ _ => rfl⟩, ?_, fun h => absurd h hf, fun _ => ?_⟩
      · show (w.tape w.drawn (Question.nanConv .f64 c) % 2) * 2 ^ 63 + 0x7ff0000000000000 + 1 + (w.tape w.drawn (Question.nanConv .f64 c) / 2) % (2 ^ 52 - 1) < 2 ^ 64
        omega
      · show ¬ FinW Ieee.double ((w.tape w.drawn (Question.nanConv .f64 c) % 2) * 2 ^ 63 + 0x7ff0000000000000 + 1 + (w.tape w.drawn (Question.nanConv .f64 c) / 2) % (2 ^ 52 - 1))
        unfold FinW
        rw [dbl_sw, dbl_inf]
        have a1 : w.tape w.drawn (Question.nanConv .f64 c) % 2 < 2 := Nat.mod_lt _ (by decide)
        have a2 : w.tape w.drawn (Question.nanConv .f64 c) / 2 % (2 ^ 52 - 1) < 2 ^ 52 - 1 := Nat.mod_lt _ (by decide)
        generalize w.tape w.drawn (Question.nanConv .f64 c) % 2 = a at *
        generalize w.tape w.drawn (Question.nanConv .f64 c) / 2 % (2 ^ 52 - 1) = b at *
        omega
    · rw [h]
      exact ⟨_, w, rfl, Below.refl _ _, (inf_not s).1, fun h => absurd h hf, fun _ => (inf_not s).2⟩
def pD (c : Nat) : Pred := fun _ v => ∃ D, v = .float .f64 D ∧ Dbl c D
section
variable {P : Program} {ops : Array Oper} {ms : List Nat} {c : Cfg} {V : List Vr} {A : List Al} {G : List Ent} {i d : Nat} {x y : Operand} {ty : TypeId} {pos : String} {aft : Array Edge}
theorem op_convW {S D : TypeId} {v : Value} {q : Value → Prop} (h : Has ms G i x (pEq v)) (hr : ∀ w, ∃ u w', (Go.convert S D v).run P w = .ok u w' ∧ Below w.heap.size w w' ∧ q u) (hp : Post G i (fun _ u => q u)) : OpOk P ops ms c V A G i ⟨some d, .convert S D x, ty, pos, aft, none⟩ :=
  op_val rfl rfl rfl (.inl rfl) hp fun L β a w hI hd => by
    have k := (h.spec hI hd).out
    have k : a.eval x = v := k
    obtain ⟨u, w', h1, h2, h3⟩ := hr w
    refine ⟨u, w', ?_, h2, fun _ _ => h3⟩
    show (do pure (Next.value (← Go.convert S D (a.eval x)))).run P w = _
    rw [k]
    simp only [Sem.run_bind, h1, Result.andThen_ok]
    rfl
end
theorem op_conv64 {ops : Array Oper} {ms : List Nat} {c : Cfg} {V : List Vr} {A : List Al} {G : List Ent} {i d : Nat} {x : Operand} {ty : TypeId} {pos : String} {aft : Array Edge} {n : Nat} (h : Has ms G i x (pF32 n)) (hp : Post G i (pD n)) : OpOk Tryz.prog ops ms c V A G i ⟨some d, .convert 51 46 x, ty, pos, aft, none⟩ :=
  op_convW (q := fun v => ∃ D, v = .float .f64 D ∧ Dbl n D) h (fun w => by
    obtain ⟨D, w', h1, h2, h3⟩ := conv64_run n w
    exact ⟨_, w', h1, h2, D, rfl, h3⟩) hp
end Wx
