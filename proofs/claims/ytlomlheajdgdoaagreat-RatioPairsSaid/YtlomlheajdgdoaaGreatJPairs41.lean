import Derived.Handy
import Derived.KernelRfl
import Derived.Test.YtlomlheajdgdoaaGreatProg
import Derived.Test.YtlomlheajdgdoaaGreatJPairs0
import Derived.Test.YtlomlheajdgdoaaGreatJPairs1
import Derived.Test.YtlomlheajdgdoaaGreatCPairsRat1
import Derived.Test.YtlomlheajdgdoaaGreatJPairs9
import Derived.Test.YtlomlheajdgdoaaGreatJPairs10
import Derived.Test.YtlomlheajdgdoaaGreatCPairsSem
import Derived.Test.YtlomlheajdgdoaaGreatCPairsSemOps
import Derived.Test.YtlomlheajdgdoaaGreatCPairsSemMem
import Derived.Test.YtlomlheajdgdoaaGreatCPairsSemCode
import Derived.Test.YtlomlheajdgdoaaGreatJPairs15
import Derived.Test.YtlomlheajdgdoaaGreatJPairs27
import Derived.Test.YtlomlheajdgdoaaGreatJPairs28
import Derived.Test.YtlomlheajdgdoaaGreatJPairs16
import Derived.Test.YtlomlheajdgdoaaGreatJPairs29
import Derived.Test.YtlomlheajdgdoaaGreatJPairs38
import Derived.Test.YtlomlheajdgdoaaGreatCPairsPlainFloat3
import Derived.Test.YtlomlheajdgdoaaGreatCPairsMathF
namespace Wx
set_option maxRecDepth 100000
open Go Go.RowKit Go.Proofs
set_option linter.unusedVariables false

theorem bd_rnd {j u : Nat} {last : Int} (h : Bd j u) (D : Nat) : Bd (j + (maxZ (-last) (0 : Int)).toNat + 1) (rndR (shN u last) D) := by
  have h1 : shN u last < 2 ^ (j + (maxZ (-last) (0 : Int)).toNat) := bd_shift h _
  have h2 : shN u last / D ≤ shN u last := Nat.div_le_self _ _
  show rndR (shN u last) D < 2 ^ (j + (maxZ (-last) (0 : Int)).toNat + 1)
  unfold rndR
  rw [Nat.pow_succ]
  split <;> omega
def sgnF (x : Rat) (X : Nat) : Nat := if x.num < 0 then Op.negFloat .f64 X else X
theorem dig_first {n : Nat} (h0 : n ≠ 0) (h1 : n < b64) : (digs b64 n).getD 0 0 = n := by
  rw [digs_small (by decide) (Nat.pos_of_ne_zero h0) h1]
  rfl
def last0 (x : Rat) (bits least : Int) : Int := maxZ ((nbits x.num.natAbs : Int) - (nbits x.den : Int) - bits) least
theorem c_signed {x : Rat} {X j : Nat} (hx : BdR j x) : ∀ (M : Nat → Nat → Prop) (w : World) (v0 v1 : Value), Mid M w → Box M (fun w => (pRat x) w v0) w → Box M (fun w => (pF X) w v1) w → Calls Tryz.prog 109 #[v0, v1] w (RetB M (pF (sgnF x X)) w) := by
  intro M w0 v0 v1 hM hv0 hv1
  refine calls_start (N := 10) Tryz.func109 rfl rfl rfl hM (show EntsA M w0 [v0, v1] [⟨none, none, 0, pRat x⟩, ⟨none, none, 1, pF X⟩] from ⟨⟨rfl, _, rfl, hv0⟩, ⟨rfl, _, rfl, hv1⟩, trivial⟩) fun a hI => ?_
  refine seq_text (V1 := [⟨2, 2, some 0, none, .ptr, 29, 3, true, pv (pS (ratFs x)), []⟩]) (A1 := []) (G1 := [⟨none, none, 0, pRat x⟩, ⟨none, none, 1, pF X⟩, ⟨some 1, none, 4, pF 0⟩]) (V2 := [⟨2, 2, none, none, .ptr, 29, 3, true, pv (pS (ratFs x)), []⟩]) (G2 := [⟨none, none, 1, pF X⟩, ⟨none, none, 4, pF 0⟩]) hI rfl rfl rfl [0, 1] (by kernel_rfl) (by kernel_rfl) ?_ [0] [1, 2] rfl rfl fun a w hI => ?_
  · exact ⟨op_box 0 rfl rfl (by kernel_rfl) (by kernel_rfl) rfl rfl rfl (.imp (.tmp 0 rfl rfl) (rat_S _)) (fits_ratS _) rfl, op_assign (.const _) (.here 2 rfl), trivial⟩
  refine wp_seq ?_
  refine seq_text (V1 := [⟨2, 2, none, none, .ptr, 29, 3, true, pv (pS (ratFs x)), []⟩]) (A1 := [⟨some 0, 5, 2, 0, True⟩]) (G1 := [⟨none, none, 1, pF X⟩, ⟨none, none, 4, pF 0⟩, ⟨some 1, none, 6, pB (decide (x.num < 0))⟩]) (V2 := [⟨2, 2, none, none, .ptr, 29, 3, true, pv (pS (ratFs x)), []⟩]) (G2 := [⟨none, none, 1, pF X⟩, ⟨none, none, 4, pF 0⟩, ⟨none, none, 6, pB (decide (x.num < 0))⟩]) hI rfl rfl rfl [0, 1] (by kernel_rfl) (by kernel_rfl) ?_ [0] [0, 1, 2] rfl rfl fun a w hI => ?_
  · exact ⟨op_field 0 rfl rfl rfl 0 rfl rfl rfl rfl (.inl ⟨rfl, rfl⟩) rfl (by kernel_rfl) (fun b w => fa_Ratio_0 b 0 w), op_loadAl 0 rfl 0 rfl rfl rfl rfl rfl trivial rfl rfl (by kernel_rfl) ty_bool rfl rfl (fd_get (fs := (ratFs x)) 0 (f := ⟨false, 1, pB (decide (x.num < 0))⟩) rfl (off := 0) rfl) (.here 2 rfl), trivial⟩
  refine cond_if hI 2 rfl (fun ht => ?_) (fun ht => ?_)
  · have t1 := of_decide_eq_true ht
    refine seq_text (V1 := [⟨2, 2, none, none, .ptr, 29, 3, true, pv (pS (ratFs x)), []⟩]) (A1 := []) (G1 := [⟨none, none, 1, pF X⟩, ⟨none, some 2, 4, pF 0⟩, ⟨none, none, 6, pB (decide (x.num < 0))⟩, ⟨some 0, none, 7, pF X⟩, ⟨some 1, none, 8, pF (Op.negFloat .f64 X)⟩, ⟨some 2, none, 4, pF (Op.negFloat .f64 X)⟩]) (V2 := [⟨2, 2, none, none, .ptr, 29, 3, true, pv (pS (ratFs x)), []⟩]) (G2 := [⟨none, none, 1, pF X⟩, ⟨none, none, 4, pF (Op.negFloat .f64 X)⟩]) hI rfl rfl rfl [0, 1, 3] (by kernel_rfl) (by kernel_rfl) ?_ [0] [0, 4] rfl rfl fun a w hI => ?_
    · exact ⟨op_move (.tmp 0 rfl rfl) (.here 3 rfl), op_fneg (.tmp 3 rfl rfl) (.here 4 rfl), op_assign (.tmp 4 rfl rfl) (.here 5 rfl), trivial⟩
    refine wp_ret ?_
    refine then_ret ?_
    exact fin1 hI rfl (.imp (.tmp 1 rfl) (pF_eq ((if_pos t1).symm)))
  · have t2 := of_decide_eq_false ht
    refine wp_skip ?_
    refine then_of ?_
    refine seq_text (V1 := [⟨2, 2, none, none, .ptr, 29, 3, true, pv (pS (ratFs x)), []⟩]) (A1 := []) (G1 := [⟨none, none, 1, pF X⟩, ⟨none, some 1, 4, pF 0⟩, ⟨none, none, 6, pB (decide (x.num < 0))⟩, ⟨some 0, none, 9, pF X⟩, ⟨some 1, none, 4, pF X⟩]) (V2 := [⟨2, 2, none, none, .ptr, 29, 3, true, pv (pS (ratFs x)), []⟩]) (G2 := [⟨none, none, 4, pF X⟩]) hI rfl rfl rfl [0, 1] (by kernel_rfl) (by kernel_rfl) ?_ [0] [3] rfl rfl fun a w hI => ?_
    · exact ⟨op_move (.tmp 0 rfl rfl) (.here 3 rfl), op_assign (.tmp 3 rfl rfl) (.here 4 rfl), trivial⟩
    refine wp_ret ?_
    exact fin1 hI rfl (.imp (.tmp 0 rfl) (pF_eq ((if_neg t2).symm)))
end Wx

namespace Wx
open Go

theorem shN_pos {u : Nat} {l : Int} (h : 0 ≤ l) : shN u l = u := by
  have e : (maxZ (-l) (0 : Int)).toNat = 0 := by unfold maxZ; split <;> omega
  unfold shN; rw [e, Nat.pow_zero, Nat.mul_one]
theorem shN_neg {u : Nat} {l : Int} (h : l ≤ 0) : shN u l = u * 2 ^ (-l).toNat := by
  have e : (maxZ (-l) (0 : Int)).toNat = (-l).toNat := by unfold maxZ; split <;> omega
  unfold shN; rw [e]
theorem shD_pos {d : Nat} {l : Int} (h : 0 ≤ l) : shD d l = d * 2 ^ l.toNat := by
  have e : (maxZ l (0 : Int)).toNat = l.toNat := by unfold maxZ; split <;> omega
  unfold shD; rw [e]
theorem shD_neg {d : Nat} {l : Int} (h : l ≤ 0) : shD d l = d := by
  have e : (maxZ l (0 : Int)).toNat = 0 := by unfold maxZ; split <;> omega
  unfold shD; rw [e, Nat.pow_zero, Nat.mul_one]
theorem shD_gt {d : Nat} (hd : 0 < d) (l : Int) : 0 < shD d l := Nat.mul_pos hd (Nat.two_pow_pos _)
theorem quo_succ (u d : Nat) (l : Int) : shN u (l + 1) / shD d (l + 1) = shN u l / shD d l / 2 := by
  rcases Int.le_total 0 l with h | h
  · rw [shN_pos h, shN_pos (by omega), shD_pos h, shD_pos (by omega), Nat.div_div_eq_div_mul]
    congr 1
    have : (l + 1).toNat = l.toNat + 1 := by omega
    rw [this, Nat.pow_succ, Nat.mul_assoc]
  · rcases Int.lt_or_le l 0 with h' | h'
    · rw [shN_neg h, shN_neg (by omega), shD_neg h, shD_neg (by omega), Nat.div_div_eq_div_mul]
      have : (-l).toNat = (-(l + 1)).toNat + 1 := by omega
      rw [this, Nat.pow_succ, ← Nat.mul_assoc]
      exact (Nat.mul_div_mul_right _ _ (by omega)).symm
    · have h0 : l = 0 := by omega
      subst h0
      rw [shN_pos (by omega), shN_pos (by omega), shD_pos (by omega), shD_pos (by omega), Nat.div_div_eq_div_mul]
      simp
theorem quo_first {u d : Nat} (hd : 0 < d) {bits : Nat} {l : Int} (hl : (nbits u : Int) - nbits d - bits ≤ l) : shN u l / shD d l < 2 ^ (bits + 1) := by
  refine Nat.div_lt_of_lt_mul ?_
  have h1 := nbits_lt u
  have h2 := nbits_le hd
  have h3 := nbits_pos hd
  rcases Int.le_total 0 l with h | h
  · rw [shN_pos h, shD_pos h]
    calc u < 2 ^ nbits u := h1
      _ ≤ 2 ^ (nbits d - 1 + l.toNat + (bits + 1)) := Nat.pow_le_pow_right (by omega) (by omega)
      _ = 2 ^ (nbits d - 1) * 2 ^ l.toNat * 2 ^ (bits + 1) := by rw [Nat.pow_add, Nat.pow_add]
      _ ≤ d * 2 ^ l.toNat * 2 ^ (bits + 1) := Nat.mul_le_mul_right _ (Nat.mul_le_mul_right _ h2)
  · rw [shN_neg h, shD_neg h]
    calc u * 2 ^ (-l).toNat < 2 ^ nbits u * 2 ^ (-l).toNat := Nat.mul_lt_mul_of_pos_right h1 (Nat.two_pow_pos _)
      _ = 2 ^ (nbits u + (-l).toNat) := (Nat.pow_add _ _ _).symm
      _ ≤ 2 ^ (nbits d - 1 + (bits + 1)) := Nat.pow_le_pow_right (by omega) (by omega)
      _ = 2 ^ (nbits d - 1) * 2 ^ (bits + 1) := Nat.pow_add _ _ _
      _ ≤ d * 2 ^ (bits + 1) := Nat.mul_le_mul_right _ h2
def lastR (x : Rat) (bits least : Int) : Int := if decide ((nbits (shN x.num.natAbs (last0 x bits least) / shD x.den (last0 x bits least)) : Int) > bits) = true then last0 x bits least + (1 : Int) else last0 x bits least
def nearM (x : Rat) (bits least : Int) : Nat := rndR (shN x.num.natAbs (lastR x bits least)) (shD x.den (lastR x bits least))
theorem last0_ge (x : Rat) (bits least : Int) : (nbits x.num.natAbs : Int) - nbits x.den - bits ≤ last0 x bits least ∧ least ≤ last0 x bits least := by
  unfold last0 maxZ
  split <;> omega
theorem nbits_le_iff {n k : Nat} : nbits n ≤ k ↔ n < 2 ^ k := by
  constructor
  · intro h
    exact Nat.lt_of_lt_of_le (nbits_lt n) (Nat.pow_le_pow_right (by omega) h)
  · intro h
    exact nbits_bd (show Bd k n from h)
theorem nearM_le (x : Rat) (bits : Nat) (least : Int) : nearM x bits least ≤ 2 ^ bits := by
  have hq : shN x.num.natAbs (lastR x bits least) / shD x.den (lastR x bits least) < 2 ^ bits := by
    unfold lastR
    by_cases h : decide ((nbits (shN x.num.natAbs (last0 x bits least) / shD x.den (last0 x bits least)) : Int) > (bits : Int)) = true
    · rw [if_pos h, quo_succ]
      have := quo_first x.den_pos (last0_ge x bits least).1
      rw [Nat.pow_succ] at this
      omega
    · rw [if_neg h]
      refine nbits_le_iff.1 ?_
      have := of_decide_eq_false (Bool.not_eq_true _ ▸ h)
      omega
  unfold nearM rndR
  split <;> omega
end Wx

namespace Wx
open Go Go.RowKit Go.Proofs

def nearW (x : Rat) (bits least beyond : Int) : Nat :=
  if x.num.natAbs = 0 then 0 else if decide ((nbits (nearM x bits least) : Int) + lastR x bits least > beyond) = true then sgnF x 9218868437227405312 else if nearM x bits least = 0 then 0 else sgnF x (Ieee.double.nearest false (nearM x bits least) (lastR x bits least))
theorem near_in {m : Nat} {last : Int} (h0 : m ≠ 0) (h1 : m.log2 ≤ 52) (h2 : -1074 ≤ last) (h3 : (nbits m : Int) + last ≤ 1024) : InDouble m last := by
  refine ⟨h0, h1, h2, ?_⟩
  unfold nbits at h3
  rw [if_neg h0] at h3
  omega
theorem near_ok {x : Rat} {bits : Nat} {least beyond : Int} (hb : bits ≤ 53) (hl : -1074 ≤ least) (ht : beyond ≤ 1024) (h2 : decide ((nbits (nearM x bits least) : Int) + lastR x bits least > beyond) = false) (h3 : nearM x bits least ≠ 0) :
    ∃ (m : Nat) (e0 : Int), Ieee.double.nearest false (nearM x bits least) 0 = Ieee.double.nearest false m e0 ∧ InDouble m e0 ∧ (0 ≤ e0 ∧ e0 ≤ 60) ∧ InDouble m (e0 + lastR x bits least) ∧ Ieee.double.nearest false m (e0 + lastR x bits least) = Ieee.double.nearest false (nearM x bits least) (lastR x bits least) := by
  have hle := nearM_le x bits least
  have hlast : least ≤ lastR x bits least := by
    have := (last0_ge x bits least).2
    unfold lastR; split <;> omega
  have h2 := of_decide_eq_false h2
  generalize nearM x bits least = m at *
  generalize lastR x bits least = last at *
  have hle2 : m ≤ 2 ^ 53 := Nat.le_trans hle (Nat.pow_le_pow_right (by omega) hb)
  rcases Nat.lt_or_ge m (2 ^ 53) with h | h
  · have h1 : m.log2 ≤ 52 := by have := (Nat.log2_lt h3).2 h; omega
    refine ⟨m, 0, rfl, whole_in h3 h1, by omega, ?_, ?_⟩
    · rw [Int.zero_add]; exact near_in h3 h1 (by omega) (by omega)
    · rw [Int.zero_add]
  · have e : m = 1 * 2 ^ 53 := by omega
    subst e
    have hs := nearest_scale Ieee.double false 1 53 53
    have hs2 := nearest_scale Ieee.double false 1 (53 + last) 53
    have hn : nbits (1 * 2 ^ 53) = 54 := by decide +kernel
    rw [hn] at h2
    have l1 : (1 : Nat).log2 = 0 := by decide +kernel
    refine ⟨1, 53, ?_, ⟨by omega, by rw [l1]; omega, by omega, by rw [l1]; omega⟩, by omega, ⟨by omega, by rw [l1]; omega, by omega, by rw [l1]; omega⟩, ?_⟩
    · rw [← hs]; congr 1
    · rw [← hs2]
      congr 1
      omega
theorem nearM_lt (x : Rat) {bits : Nat} (least : Int) (hb : bits ≤ 53) : nearM x bits least < b64 :=
  Nat.lt_of_le_of_lt (nearM_le x bits least) (Nat.lt_of_le_of_lt (Nat.pow_le_pow_right (by omega) hb) (by decide))
end Wx
