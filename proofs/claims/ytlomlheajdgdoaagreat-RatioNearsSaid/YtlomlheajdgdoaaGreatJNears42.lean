import Derived.Handy
import Derived.Test.YtlomlheajdgdoaaGreatJNears0
import Derived.Test.YtlomlheajdgdoaaGreatJNears1
import Derived.Test.YtlomlheajdgdoaaGreatJNears20
import Derived.Test.YtlomlheajdgdoaaGreatJNears32
import Derived.Test.YtlomlheajdgdoaaGreatCNums
import Derived.Test.YtlomlheajdgdoaaGreatJNears31
import Derived.Test.YtlomlheajdgdoaaGreatCPlainFloat3
import Derived.Test.YtlomlheajdgdoaaGreatCMathF
import Derived.Test.YtlomlheajdgdoaaGreatCNearest
import Derived.Test.YtlomlheajdgdoaaGreatProg
import Derived.Test.YtlomlheajdgdoaaGreatCRat1
import Derived.Test.YtlomlheajdgdoaaGreatJNears10
import Derived.Test.YtlomlheajdgdoaaGreatJNears12
import Derived.Test.YtlomlheajdgdoaaGreatCSem
import Derived.Test.YtlomlheajdgdoaaGreatCSemOps
import Derived.Test.YtlomlheajdgdoaaGreatCSemMem
import Derived.Test.YtlomlheajdgdoaaGreatCSemCode
import Derived.Test.YtlomlheajdgdoaaGreatJNears30
import Derived.Test.YtlomlheajdgdoaaGreatJNears37
import GoSem.Core.Float
import GoSem.Op.Unary
import Derived.KernelRfl
import Derived.Test.YtlomlheajdgdoaaGreatJNears13
import Derived.Test.YtlomlheajdgdoaaGreatJNears35
import Derived.Test.YtlomlheajdgdoaaGreatJNears24
import Derived.Test.YtlomlheajdgdoaaGreatJNears25
import Derived.Test.YtlomlheajdgdoaaGreatCNFloor
namespace Wx
open Go

theorem shN_pos {u : Nat} {l : Int} (h : 0 ≤ l) : shN u l = u := by
  have e : (maxZ (-l) (0 : Int)).toNat = 0 := by unfold maxZ; split <;> omega
  unfold shN; rw [e, Nat.pow_zero, Nat.mul_one]
theorem shN_neg {u : Nat} {l : Int} (h : l ≤ 0) : shN u l = u * 2 ^ (-l).toNat := by
  have e : (maxZ (-l) (0 : Int)).toNat = (-l).toNat := by unfold maxZ; split <;> omega
  unfold shN; rw [e]
theorem shD_pos {d : Nat} {l : Int} (h : 0 ≤ l) : shD d l = d * 2 ^ l.toNat := by
  have e : (maxZ l (0 : Int)).toNat = l.toNat := by unfold maxZ; split <;> omega
  unfold shD; rw [e]
theorem shD_neg {d : Nat} {l : Int} (h : l ≤ 0) : shD d l = d := by
  have e : (maxZ l (0 : Int)).toNat = 0 := by unfold maxZ; split <;> omega
  unfold shD; rw [e, Nat.pow_zero, Nat.mul_one]
theorem shD_gt {d : Nat} (hd : 0 < d) (l : Int) : 0 < shD d l := Nat.mul_pos hd (Nat.two_pow_pos _)
/-- One place further to the left: half. -/
theorem quo_succ (u d : Nat) (l : Int) : shN u (l + 1) / shD d (l + 1) = shN u l / shD d l / 2 := by
  rcases Int.le_total 0 l with h | h
  · rw [shN_pos h, shN_pos (by omega), shD_pos h, shD_pos (by omega), Nat.div_div_eq_div_mul]
    congr 1
    have : (l + 1).toNat = l.toNat + 1 := by omega
    rw [this, Nat.pow_succ, Nat.mul_assoc]
  · rcases Int.lt_or_le l 0 with h' | h'
    · rw [shN_neg h, shN_neg (by omega), shD_neg h, shD_neg (by omega), Nat.div_div_eq_div_mul]
      have : (-l).toNat = (-(l + 1)).toNat + 1 := by omega
      rw [this, Nat.pow_succ, ← Nat.mul_assoc]
      exact (Nat.mul_div_mul_right _ _ (by omega)).symm
    · have h0 : l = 0 := by omega
      subst h0
      rw [shN_pos (by omega), shN_pos (by omega), shD_pos (by omega), shD_pos (by omega), Nat.div_div_eq_div_mul]
      simp
/-- The first quotient has at most one bit too many. -/
theorem quo_first {u d : Nat} (hd : 0 < d) {bits : Nat} {l : Int} (hl : (nbits u : Int) - nbits d - bits ≤ l) : shN u l / shD d l < 2 ^ (bits + 1) := by
  refine Nat.div_lt_of_lt_mul ?_
  have h1 := nbits_lt u
  have h2 := nbits_le hd
  have h3 := nbits_pos hd
  rcases Int.le_total 0 l with h | h
  · rw [shN_pos h, shD_pos h]
    calc u < 2 ^ nbits u := h1
      _ ≤ 2 ^ (nbits d - 1 + l.toNat + (bits + 1)) := Nat.pow_le_pow_right (by omega) (by omega)
      _ = 2 ^ (nbits d - 1) * 2 ^ l.toNat * 2 ^ (bits + 1) := by rw [Nat.pow_add, Nat.pow_add]
      _ ≤ d * 2 ^ l.toNat * 2 ^ (bits + 1) := Nat.mul_le_mul_right _ (Nat.mul_le_mul_right _ h2)
  · rw [shN_neg h, shD_neg h]
    calc u * 2 ^ (-l).toNat < 2 ^ nbits u * 2 ^ (-l).toNat := Nat.mul_lt_mul_of_pos_right h1 (Nat.two_pow_pos _)
      _ = 2 ^ (nbits u + (-l).toNat) := (Nat.pow_add _ _ _).symm
      _ ≤ 2 ^ (nbits d - 1 + (bits + 1)) := Nat.pow_le_pow_right (by omega) (by omega)
      _ = 2 ^ (nbits d - 1) * 2 ^ (bits + 1) := Nat.pow_add _ _ _
      _ ≤ d * 2 ^ (bits + 1) := Nat.mul_le_mul_right _ h2
/-- The place of the last bit. -/
def lastR (x : Rat) (bits least : Int) : Int := if decide ((nbits (shN x.num.natAbs (last0 x bits least) / shD x.den (last0 x bits least)) : Int) > bits) = true then last0 x bits least + (1 : Int) else last0 x bits least
def nearM (x : Rat) (bits least : Int) : Nat := rndR (shN x.num.natAbs (lastR x bits least)) (shD x.den (lastR x bits least))
theorem last0_ge (x : Rat) (bits least : Int) : (nbits x.num.natAbs : Int) - nbits x.den - bits ≤ last0 x bits least ∧ least ≤ last0 x bits least := by
  unfold last0 maxZ
  split <;> omega
theorem nbits_le_iff {n k : Nat} : nbits n ≤ k ↔ n < 2 ^ k := by
  constructor
  · intro h
    exact Nat.lt_of_lt_of_le (nbits_lt n) (Nat.pow_le_pow_right (by omega) h)
  · intro h
    exact nbits_bd (show Bd k n from h)
/-- The rounded quotient has at most so many bits, or is the next power of two. -/
theorem nearM_le (x : Rat) (bits : Nat) (least : Int) : nearM x bits least ≤ 2 ^ bits := by
  have hq : shN x.num.natAbs (lastR x bits least) / shD x.den (lastR x bits least) < 2 ^ bits := by
    unfold lastR
    by_cases h : decide ((nbits (shN x.num.natAbs (last0 x bits least) / shD x.den (last0 x bits least)) : Int) > (bits : Int)) = true
    · rw [if_pos h, quo_succ]
      have := quo_first x.den_pos (last0_ge x bits least).1
      rw [Nat.pow_succ] at this
      omega
    · rw [if_neg h]
      refine nbits_le_iff.1 ?_
      have := of_decide_eq_false (Bool.not_eq_true _ ▸ h)
      omega
  unfold nearM rndR
  split <;> omega
end Wx

namespace Wx
open Go Go.RowKit Go.Proofs

/-- The word of the number nearest to x in a format, as a float64. -/
def nearW (x : Rat) (bits least beyond : Int) : Nat :=
  if x.num.natAbs = 0 then 0 else if decide ((nbits (nearM x bits least) : Int) + lastR x bits least > beyond) = true then sgnF x 9218868437227405312 else if nearM x bits least = 0 then 0 else sgnF x (Ieee.double.nearest false (nearM x bits least) (lastR x bits least))
theorem near_in {m : Nat} {last : Int} (h0 : m ≠ 0) (h1 : m.log2 ≤ 52) (h2 : -1074 ≤ last) (h3 : (nbits m : Int) + last ≤ 1024) : InDouble m last := by
  refine ⟨h0, h1, h2, ?_⟩
  unfold nbits at h3
  rw [if_neg h0] at h3
  omega
theorem near_ok {x : Rat} {bits : Nat} {least beyond : Int} (hb : bits ≤ 53) (hl : -1074 ≤ least) (ht : beyond ≤ 1024) (h2 : decide ((nbits (nearM x bits least) : Int) + lastR x bits least > beyond) = false) (h3 : nearM x bits least ≠ 0) :
    ∃ (m : Nat) (e0 : Int), Ieee.double.nearest false (nearM x bits least) 0 = Ieee.double.nearest false m e0 ∧ InDouble m e0 ∧ (0 ≤ e0 ∧ e0 ≤ 60) ∧ InDouble m (e0 + lastR x bits least) ∧ Ieee.double.nearest false m (e0 + lastR x bits least) = Ieee.double.nearest false (nearM x bits least) (lastR x bits least) := by
  have hle := nearM_le x bits least
  have hlast : least ≤ lastR x bits least := by
    have := (last0_ge x bits least).2
    unfold lastR; split <;> omega
  have h2 := of_decide_eq_false h2
  generalize nearM x bits least = m at *
  generalize lastR x bits least = last at *
  have hle2 : m ≤ 2 ^ 53 := Nat.le_trans hle (Nat.pow_le_pow_right (by omega) hb)
  rcases Nat.lt_or_ge m (2 ^ 53) with h | h
  · have h1 : m.log2 ≤ 52 := by have := (Nat.log2_lt h3).2 h; omega
    refine ⟨m, 0, rfl, whole_in h3 h1, by omega, ?_, ?_⟩
    · rw [Int.zero_add]; exact near_in h3 h1 (by omega) (by omega)
    · rw [Int.zero_add]
  · have e : m = 1 * 2 ^ 53 := by omega
    subst e
    have hs := nearest_scale Ieee.double false 1 53 53
    have hs2 := nearest_scale Ieee.double false 1 (53 + last) 53
    have hn : nbits (1 * 2 ^ 53) = 54 := by decide +kernel
    rw [hn] at h2
    have l1 : (1 : Nat).log2 = 0 := by decide +kernel
    refine ⟨1, 53, ?_, ⟨by omega, by rw [l1]; omega, by omega, by rw [l1]; omega⟩, by omega, ⟨by omega, by rw [l1]; omega, by omega, by rw [l1]; omega⟩, ?_⟩
    · rw [← hs]; congr 1
    · rw [← hs2]
      congr 1
      omega
theorem nearM_lt (x : Rat) {bits : Nat} (least : Int) (hb : bits ≤ 53) : nearM x bits least < b64 :=
  Nat.lt_of_le_of_lt (nearM_le x bits least) (Nat.lt_of_le_of_lt (Nat.pow_le_pow_right (by omega) hb) (by decide))
/-- (ratio.format).nearest. -/
theorem c_near {x : Rat} {j bits : Nat} {least beyond : Int} (hx : BdR j x) (hj : j ≤ 100000) (hb : bits ≤ 53) (hl : -1074 ≤ least ∧ least ≤ 0) (ht : 0 ≤ beyond ∧ beyond ≤ 1024) : ∀ (M : Nat → Nat → Prop) (w : World) (v0 v1 : Value), Mid M w → Box M (fun w => (pS [⟨false, 1, pI (bits : Int)⟩, ⟨false, 1, pI least⟩, ⟨false, 1, pI beyond⟩]) w v0) w → Box M (fun w => (pRat x) w v1) w → Calls Tryz.prog 66 #[v0, v1] w (RetB M (pF (nearW x bits least beyond)) w) := by
  have kb : (0 : Int) ≤ (bits : Int) ∧ (bits : Int) ≤ 64 := by omega
  have kl : -2000 ≤ least ∧ least ≤ 0 := by omega
  have kt : 0 ≤ beyond ∧ beyond ≤ 5000 := by omega
  unfold nearW
  by_cases h0 : x.num.natAbs = 0
  · rw [if_pos h0]
    exact c_near_0 hx hj kb kl kt h0
  rw [if_neg h0]
  have hM := nearM_lt x least hb
  by_cases h2 : decide ((nbits (nearM x bits least) : Int) + lastR x bits least > beyond) = true
  · rw [if_pos h2]
    unfold nearM lastR at h2
    split at h2
    · rename_i h1
      exact c_near_inf1 hx hj kb kl kt h0 h1 h2
    · rename_i h1
      exact c_near_inf0 hx hj kb kl kt h0 (Bool.not_eq_true _ ▸ h1) h2
  · rw [if_neg h2]
    have h2 := Bool.not_eq_true _ ▸ h2
    by_cases h3 : nearM x bits least = 0
    · rw [if_pos h3]
      unfold nearM lastR at h2 h3
      split at h2
      · rename_i h1
        rw [if_pos h1] at h3
        exact c_near_nil1 hx hj kb kl kt h0 h1 h2 h3
      · rename_i h1
        rw [if_neg h1] at h3
        exact c_near_nil0 hx hj kb kl kt h0 (Bool.not_eq_true _ ▸ h1) h2 h3
    · rw [if_neg h3]
      obtain ⟨m, e0, hX, hin0, he0, hin, hr⟩ := near_ok hb hl.1 ht.2 h2 h3
      rw [← hr]
      clear hr
      unfold nearM lastR at h2 h3 hX hM
      unfold lastR at hin ⊢
      split at h2
      · rename_i h1
        rw [if_pos h1] at h3 hX hM hin ⊢
        exact c_near_ok1 hx hj kb kl kt h0 h1 h2 h3 hM hX hin0 he0 hin
      · rename_i h1
        rw [if_neg h1] at h3 hX hM hin ⊢
        exact c_near_ok0 hx hj kb kl kt h0 (Bool.not_eq_true _ ▸ h1) h2 h3 hM hX hin0 he0 hin
end Wx

namespace Wx
open Ieee

theorem xor_top {X : Nat} (h : X < 2 ^ 63) : X ^^^ 2 ^ 63 = 2 ^ 63 + X := by
  apply Nat.eq_of_testBit_eq
  intro i
  rw [Nat.testBit_xor, Nat.testBit_two_pow]
  rcases Nat.lt_trichotomy i 63 with h1 | h1 | h1
  · rw [Nat.testBit_two_pow_add_gt h1]
    have : ¬ 63 = i := by omega
    simp [this]
  · subst h1
    rw [Nat.testBit_two_pow_add_eq]
    simp
  · have h2 : 2 ^ 64 ≤ 2 ^ i := Nat.pow_le_pow_right (by omega) (by omega)
    rw [Nat.testBit_lt_two_pow (Nat.lt_of_lt_of_le (show X < 2 ^ 64 by omega) h2), Nat.testBit_lt_two_pow (Nat.lt_of_lt_of_le (show 2 ^ 63 + X < 2 ^ 64 by omega) h2)]
    have : ¬ 63 = i := by omega
    simp [this]
theorem neg_word {X : Nat} (h : X < 2 ^ 63) : Go.Op.negFloat .f64 X = 2 ^ 63 + X := xor_top h
theorem nearest_pos_lt {m : Nat} {e : Int} : double.nearest false m e < 2 ^ 63 := by
  have hi : double.infRung < 2 ^ 63 := by decide
  unfold Format.nearest
  split
  · simp [Format.word]
  · simp only [Format.word, Bool.false_eq_true, if_false]
    exact Nat.lt_of_le_of_lt (Nat.min_le_right _ _) hi
theorem neg_nearest (m : Nat) (e : Int) : Go.Op.negFloat .f64 (double.nearest false m e) = double.nearest true m e := by
  rw [neg_word nearest_pos_lt, nearest_neg]
  rfl
end Wx

namespace Wx
open Go Go.RowKit Go.Proofs

/-- A float64's word as a float32's. -/
def to32 (X : Nat) : Nat := Ieee.single.write (Ieee.double.read X)
/-- No NaN, and no number that becomes infinite. -/
def Fine32 (X : Nat) : Prop := match Ieee.double.read X with
  | .nan _ _ => False
  | .infinity _ => True
  | .number s m e => (Ieee.single.read (Ieee.single.nearest s m e)).isInfinity = false
theorem conv32 {X : Nat} (h : Fine32 X) (w : World) : (Go.convert 46 51 (.float .f64 X)).run Tryz.prog w = .ok (.float .f32 (to32 X)) w := by
  have e : (Go.convert 46 51 (.float .f64 X)).run Tryz.prog w = (Conv.floatToFloat .f64 X .f32).run Tryz.prog w := by kernel_rfl
  rw [e]
  have e1 : FloatKind.f64.decode X = Ieee.double.read X := rfl
  unfold Fine32 at h
  unfold Conv.floatToFloat to32
  rw [if_neg (by decide), e1]
  cases hr : Ieee.double.read X with
  | nan s t => rw [hr] at h; exact h.elim
  | infinity s => rfl
  | number s m i =>
    rw [hr] at h
    have e2 : FloatKind.f32.decode (FloatKind.f32.encode (.number s m i)) = Ieee.single.read (Ieee.single.nearest s m i) := rfl
    simp only [e2]
    have h : (Ieee.single.read (Ieee.single.nearest s m i)).isInfinity = false := h
    rw [h]
    rfl
end Wx

namespace Wx
open Go

theorem sgn_nearest (x : Rat) (m : Nat) (e : Int) : sgnF x (Ieee.double.nearest false m e) = Ieee.double.nearest (decide (x.num < 0)) m e := by
  unfold sgnF
  split
  · rename_i h; rw [neg_nearest, decide_eq_true h]
  · rename_i h; rw [decide_eq_false h]
theorem sgn_inf (x : Rat) : sgnF x 9218868437227405312 = Ieee.double.write (.infinity (decide (x.num < 0))) := by
  unfold sgnF
  split
  · rename_i h; rw [neg_word (by decide), decide_eq_true h]; decide +kernel
  · rename_i h; rw [decide_eq_false h]; decide +kernel
/-- A number of float32. -/
structure InSingle (m : Nat) (e : Int) : Prop where
  pos : m ≠ 0
  bits : m.log2 ≤ 23
  least : -149 ≤ e
  top : e + m.log2 ≤ 127
theorem InSingle.double {m : Nat} {e : Int} (h : InSingle m e) : InDouble m e := ⟨h.pos, by have := h.bits; omega, by have := h.least; omega, by have := h.top; omega⟩
theorem InSingle.read {m : Nat} {e : Int} (h : InSingle m e) (neg : Bool) : ∃ k : Nat, Ieee.single.read (Ieee.single.nearest neg m e) = .number neg (m * 2 ^ k) (e - k) := by
  have hl : Ieee.single.leastPlace = -149 := by decide
  have he : (2 : Int) ^ Ieee.single.exponentBits = 256 := by decide
  have hf : (Ieee.single.fractionBits : Int) = 23 := rfl
  obtain ⟨k, h1, _⟩ := read_nearest Ieee.single neg h.pos h.bits (by rw [hl]; exact h.least) (by
    rw [hl, he, hf]
    have := h.top
    omega) (by decide)
  exact ⟨k, h1⟩
theorem fine_num {m : Nat} {e : Int} (h : InSingle m e) (neg : Bool) : Fine32 (Ieee.double.nearest neg m e) ∧ to32 (Ieee.double.nearest neg m e) = Ieee.single.nearest neg m e := by
  obtain ⟨k, h1, _⟩ := h.double.read neg
  obtain ⟨k2, h2⟩ := h.read neg
  refine ⟨?_, to_single h.double neg⟩
  unfold Fine32
  rw [h1]
  show (Ieee.single.read (Ieee.single.nearest neg (m * 2 ^ k) (e - k))).isInfinity = false
  rw [nearest_scale, h2]
  rfl
theorem fine_inf (neg : Bool) : Fine32 (Ieee.double.write (.infinity neg)) ∧ to32 (Ieee.double.write (.infinity neg)) = Ieee.single.write (.infinity neg) := by
  have hr : Ieee.double.read (Ieee.double.write (.infinity neg)) = .infinity neg := by cases neg <;> decide +kernel
  constructor
  · unfold Fine32; rw [hr]; trivial
  · unfold to32; rw [hr]
theorem fine_zero : Fine32 0 ∧ to32 0 = 0 := by
  constructor
  · unfold Fine32
    rw [read_zero]
    show (Ieee.single.read (Ieee.single.nearest false 0 (-1074))).isInfinity = false
    decide +kernel
  · decide +kernel
/-- The word of the float32 nearest to x. -/
def near32W (x : Rat) : Nat :=
  if x.num.natAbs = 0 then 0 else if decide ((nbits (nearM x 24 (-149)) : Int) + lastR x 24 (-149) > 128) = true then Ieee.single.write (.infinity (decide (x.num < 0))) else if nearM x 24 (-149) = 0 then 0 else Ieee.single.nearest (decide (x.num < 0)) (nearM x 24 (-149)) (lastR x 24 (-149))
theorem near32_in {m : Nat} {last : Int} (h0 : m ≠ 0) (hm : m ≤ 2 ^ 24) (h2 : -149 ≤ last) (h3 : (nbits m : Int) + last ≤ 128) : ∃ (n : Nat) (e : Int), InSingle n e ∧ ∀ (f : Ieee.Format) (neg : Bool), f.nearest neg m last = f.nearest neg n e := by
  rcases Nat.lt_or_ge m (2 ^ 24) with h | h
  · have h1 : m.log2 ≤ 23 := by have := (Nat.log2_lt h0).2 h; omega
    refine ⟨m, last, ⟨h0, h1, h2, ?_⟩, fun _ _ => rfl⟩
    unfold nbits at h3
    rw [if_neg h0] at h3
    omega
  · have e : m = 1 * 2 ^ 24 := by omega
    subst e
    have hn : nbits (1 * 2 ^ 24) = 25 := by decide +kernel
    rw [hn] at h3
    have l1 : (1 : Nat).log2 = 0 := by decide +kernel
    refine ⟨1, 24 + last, ⟨by omega, by rw [l1]; omega, by omega, by rw [l1]; omega⟩, fun f neg => ?_⟩
    have := nearest_scale f neg 1 (24 + last) 24
    rw [← this]
    congr 1
    omega
theorem near32_ok (x : Rat) : Fine32 (nearW x 24 (-149) 128) ∧ to32 (nearW x 24 (-149) 128) = near32W x := by
  unfold nearW near32W
  by_cases h0 : x.num.natAbs = 0
  · rw [if_pos h0, if_pos h0]; exact fine_zero
  rw [if_neg h0, if_neg h0]
  by_cases h2 : decide ((nbits (nearM x 24 (-149)) : Int) + lastR x 24 (-149) > 128) = true
  · rw [if_pos h2, if_pos h2, sgn_inf]; exact fine_inf _
  · rw [if_neg h2, if_neg h2]
    by_cases h3 : nearM x 24 (-149) = 0
    · rw [if_pos h3, if_pos h3]; exact fine_zero
    · rw [if_neg h3, if_neg h3, sgn_nearest]
      have h2 := of_decide_eq_false (Bool.not_eq_true _ ▸ h2)
      have hl := (last0_ge x 24 (-149)).2
      have hlast : -149 ≤ lastR x 24 (-149) := by unfold lastR; split <;> omega
      obtain ⟨n, e, hin, hf⟩ := near32_in h3 (nearM_le x 24 (-149)) hlast (by omega)
      rw [hf, hf]
      exact fine_num hin _
end Wx

namespace Wx
open Go Go.RowKit Go.Proofs
set_option linter.unusedVariables false

/-- A fraction's data fit their kind. -/
def FracOk (n d : Int) : Prop := -9223372036854775808 ≤ n ∧ n ≤ 9223372036854775807 ∧ d ≤ 9223372036854775807
theorem bd_ok {n d : Int} (h : FracOk n d) : BdR 64 (ofR n d) := bd_ofR h.1 h.2.1 h.2.2
theorem c_of {n d : Int} {x : Rat} (e : x = ofR n d) (h : FracOk n d) : ∀ w v1, pFrac n d w v1 → Calls Tryz.prog 7 #[v1] w (Ret (pRat x) w) := fun w v1 h1 => by
  rw [pFrac_eq h1, e]
  exact of_num w n d h.1 h.2.1 h.2.2
theorem c_awake : ∀ w, Calls Tryz.prog 6 #[] w (Ret (pB true) w) := fun w => (awake_num w).mono fun _ _ => ret_is
theorem bd_int {z : Int} (h1 : -9223372036854775808 ≤ z) (h2 : z ≤ 9223372036854775807) : BdR 64 (z : Rat) := ⟨by unfold Bd; rw [Rat.num_intCast]; omega, by unfold Bd; rw [Rat.den_intCast]; omega⟩
/-- A law's answer. -/
theorem law_true {f : FuncId} {P : Program} {args : Array Value} {W : World} (h : Calls P f args W (RetB (fun _ _ => False) (pB true) W)) : Calls P f args W fun e w' => e = .returned (.bool true) ∧ Below W.heap.size W w' :=
  h.mono fun e w' h => by
    obtain ⟨v, rfl, hv, hb⟩ := h
    have : v = .bool true := hv.out
    exact ⟨by rw [this], hb⟩
end Wx

namespace Wx
open Go Go.RowKit Go.Proofs

/-- two: a power of two. -/
theorem cn_two {z : Int} (h : -1000000 ≤ z ∧ z ≤ 1000000) : ∀ w v1, pI z w v1 → Calls Tryz.prog 73 #[v1] w (Ret (pRef (twoR z)) w) := fun w v1 h1 => by
  have h1 : v1 = .int .i64 z := h1
  rw [h1]
  by_cases hz : z < 0
  · have e : twoR z = 1 / pw z.natAbs := by unfold twoR; rw [if_pos hz]
    rw [e]
    exact ntwo_neg w z z.natAbs (by omega) (by omega) (by omega)
  · have e : twoR z = pw z.natAbs := by unfold twoR; rw [if_neg hz]
    rw [e]
    have := ntwo_pos w z.natAbs (by omega)
    rwa [show ((z.natAbs : Nat) : Int) = z by omega] at this
end Wx

namespace Wx
open Go

theorem quo_add (u d : Nat) (l : Int) : ∀ b : Nat, shN u (l + b) / shD d (l + b) = shN u l / shD d l / 2 ^ b := by
  intro b
  induction b with
  | zero => simp
  | succ b ih =>
    have e : l + ((b + 1 : Nat) : Int) = l + b + 1 := by omega
    rw [e, quo_succ, ih, Nat.div_div_eq_div_mul, Nat.pow_succ]
/-- x is below 2^z. -/
def belowR (x : Rat) (z : Int) : Prop := shN x.num.natAbs z < shD x.den z
instance (x : Rat) (z : Int) : Decidable (belowR x z) := Nat.decLt _ _
theorem below_iff (x : Rat) (l : Int) (b : Nat) : belowR x (l + b) ↔ nbits (shN x.num.natAbs l / shD x.den l) ≤ b := by
  have hd := shD_gt x.den_pos (l + b)
  have hq := quo_add x.num.natAbs x.den l b
  rw [nbits_le_iff]
  unfold belowR
  constructor
  · intro h
    rw [Nat.div_eq_of_lt h] at hq
    rcases Nat.lt_or_ge (shN x.num.natAbs l / shD x.den l) (2 ^ b) with h1 | h1
    · exact h1
    · have := Nat.div_pos h1 (Nat.two_pow_pos b)
      omega
  · intro h
    rw [Nat.div_eq_of_lt h] at hq
    rcases Nat.lt_or_ge (shN x.num.natAbs (l + b)) (shD x.den (l + b)) with h1 | h1
    · exact h1
    · have := Nat.div_pos h1 hd
      omega
theorem below_succ (x : Rat) : belowR x ((nbits x.num.natAbs : Int) - nbits x.den + 1) := by
  have h := quo_first (u := x.num.natAbs) x.den_pos (bits := 0) (l := (nbits x.num.natAbs : Int) - nbits x.den) (by omega)
  have := (below_iff x ((nbits x.num.natAbs : Int) - nbits x.den) 1).2 (nbits_le_iff.2 h)
  exact this
theorem below_mono {x : Rat} {y z : Int} (h : belowR x y) (hz : y ≤ z) : belowR x z := by
  obtain ⟨b, hb⟩ : ∃ b : Nat, z = y + b := ⟨(z - y).toNat, by omega⟩
  rw [hb]
  refine (below_iff x y b).2 ?_
  have : shN x.num.natAbs y / shD x.den y = 0 := Nat.div_eq_of_lt h
  rw [this]
  exact Nat.zero_le b
/-- The exponent of x. -/
def expR (x : Rat) : Int := if belowR x ((nbits x.num.natAbs : Int) - nbits x.den) then (nbits x.num.natAbs : Int) - nbits x.den - 1 else (nbits x.num.natAbs : Int) - nbits x.den
/-- The reference's place of the last bit is the program's. -/
theorem last_ref (x : Rat) (bits : Nat) (least : Int) : lastR x bits least = maxZ (expR x - bits + 1) least := by
  have h0 : last0 x bits least = maxZ ((nbits x.num.natAbs : Int) - nbits x.den - bits) least := rfl
  have hb := below_iff x (last0 x bits least) bits
  have hs := below_succ x
  have hlast : lastR x bits least = if belowR x (last0 x bits least + bits) then last0 x bits least else last0 x bits least + 1 := by
    unfold lastR
    by_cases h : belowR x (last0 x bits least + bits)
    · have := hb.1 h
      rw [if_pos h, if_neg (by simp; omega)]
    · have : ¬ nbits (shN x.num.natAbs (last0 x bits least) / shD x.den (last0 x bits least)) ≤ bits := fun h' => h (hb.2 h')
      rw [if_neg h, if_pos (by simp; omega)]
  rw [hlast, h0]
  generalize he : (nbits x.num.natAbs : Int) - nbits x.den = e at *
  unfold expR
  rw [he]
  rcases Int.lt_or_le least (e - bits) with h | h
  · have e1 : maxZ (e - bits) least = e - bits := by unfold maxZ; split <;> omega
    rw [e1, show e - (bits : Int) + bits = e by omega]
    by_cases hx : belowR x e
    · rw [if_pos hx, if_pos hx]; unfold maxZ; split <;> omega
    · rw [if_neg hx, if_neg hx]; unfold maxZ; split <;> omega
  · have e1 : maxZ (e - bits) least = least := by unfold maxZ; split <;> omega
    rw [e1]
    by_cases hx : belowR x e
    · rw [if_pos hx, if_pos (below_mono hx (by omega))]; unfold maxZ; split <;> omega
    · rw [if_neg hx]
      rcases Int.lt_or_le (e - bits) least with h' | h'
      · rw [if_pos (below_mono hs (by omega))]; unfold maxZ; split <;> omega
      · have : least = e - bits := by omega
        rw [if_neg (by rw [this, show e - (bits : Int) + bits = e by omega]; exact hx)]; unfold maxZ; split <;> omega
end Wx
