import Derived.Handy
import Derived.KernelRfl
import Derived.Test.YtlomlheajdgdoaaGreatProg
import Derived.Test.YtlomlheajdgdoaaGreatJFloats0
import Derived.Test.YtlomlheajdgdoaaGreatCFloatsMem
import Derived.Test.YtlomlheajdgdoaaGreatJFloats2
import Derived.Test.YtlomlheajdgdoaaGreatCFloatsRat1
import Derived.Test.YtlomlheajdgdoaaGreatJFloats12
import Derived.Test.YtlomlheajdgdoaaGreatCFloatsInv
import Derived.Test.YtlomlheajdgdoaaGreatJFloats14
import Derived.Test.YtlomlheajdgdoaaGreatCFloatsSem
import Derived.Test.YtlomlheajdgdoaaGreatCFloatsSemOps
import Derived.Test.YtlomlheajdgdoaaGreatCFloatsSemMem
import Derived.Test.YtlomlheajdgdoaaGreatCFloatsSemCode
import Derived.Test.YtlomlheajdgdoaaGreatJFloats19
import Derived.Test.YtlomlheajdgdoaaGreatJFloats20
import Derived.Test.YtlomlheajdgdoaaGreatJFloats35
import Derived.Test.YtlomlheajdgdoaaGreatJFloats36
import Derived.Test.YtlomlheajdgdoaaGreatCFloatsNums
import Derived.Test.YtlomlheajdgdoaaGreatCFloatsPlainFloat3
import Derived.Test.YtlomlheajdgdoaaGreatCFloatsMathF
import Derived.Test.YtlomlheajdgdoaaGreatJFloats42
import Derived.Test.YtlomlheajdgdoaaGreatCFloatsNearC
import Derived.Test.YtlomlheajdgdoaaGreatJFloats38
import Derived.Test.YtlomlheajdgdoaaGreatJFloats33
import Derived.Test.YtlomlheajdgdoaaGreatCFloatsNRat2
import Derived.Test.YtlomlheajdgdoaaGreatJFloats22
import Derived.Test.YtlomlheajdgdoaaGreatJFloats28
namespace Wx
set_option maxRecDepth 100000
open Go Go.RowKit Go.Proofs
set_option linter.unusedVariables false

theorem cells_int3 (w : World) : pCells [⟨false, 1, pI 0⟩, ⟨false, 1, pI 0⟩, ⟨false, 1, pI 0⟩] w [.int .i64 0, .int .i64 0, .int .i64 0] := ⟨by simp, rfl, by simp, rfl, by simp, rfl, rfl⟩
theorem c_long  : ∀ (M : Nat → Nat → Prop) (w : World), Mid M w → Calls Tryz.prog 65 #[] w (RetB M (pS [⟨false, 1, pI 53⟩, ⟨false, 1, pI (-1074)⟩, ⟨false, 1, pI 1024⟩]) w) := by
  intro M w0  hM 
  refine calls_start (N := 2) Tryz.func65 rfl rfl rfl hM (show EntsA M w0 [] [] from trivial) fun a hI => ?_
  refine seq_text (V1 := [⟨0, 0, some 0, none, .ptr, 102, 3, true, pv (pS [⟨false, 1, pI 0⟩, ⟨false, 1, pI 0⟩, ⟨false, 1, pI 0⟩]), []⟩]) (A1 := []) (G1 := []) (V2 := [⟨0, 0, none, none, .ptr, 102, 3, true, pv (pS [⟨false, 1, pI 0⟩, ⟨false, 1, pI 0⟩, ⟨false, 1, pI 0⟩]), []⟩]) (G2 := []) hI rfl rfl rfl [0] (by kernel_rfl) (by kernel_rfl) ?_ [0] [] rfl rfl fun a w hI => ?_
  · exact ⟨op_alloc 0 rfl rfl (by kernel_rfl) (by kernel_rfl) rfl rfl rfl zv_format rfl rfl (by simp [NoU]) rfl (fun w => pS_of (cells_int3 w)), trivial⟩
  refine seq_text (V1 := [⟨0, 0, none, none, .ptr, 102, 3, true, pv (pS [⟨false, 1, pI 0⟩, ⟨false, 1, pI 0⟩, ⟨false, 1, pI 0⟩]), [(1, pv (pS [⟨false, 1, pI 53⟩, ⟨false, 1, pI (-1074)⟩, ⟨false, 1, pI 1024⟩]))]⟩]) (A1 := []) (G1 := [⟨some 0, none, 1, pS [⟨false, 1, pI 53⟩, ⟨false, 1, pI (-1074)⟩, ⟨false, 1, pI 1024⟩]⟩]) (V2 := [⟨0, 0, none, none, .ptr, 102, 3, true, pv (pS [⟨false, 1, pI 53⟩, ⟨false, 1, pI (-1074)⟩, ⟨false, 1, pI 1024⟩]), []⟩]) (G2 := []) hI rfl rfl rfl [0, 1] (by kernel_rfl) (by kernel_rfl) ?_ [0] [] rfl rfl fun a w hI => ?_
  · exact ⟨op_build (fs := [⟨false, 1, pI 0⟩, ⟨false, 1, pI 0⟩, ⟨false, 1, pI 0⟩]) (ps := [(0, pI 53), (1, pI (-1074)), (2, pI 1024)]) bt_format (places_ok (by kernel_rfl)) (cells_int3) (show HasParts _ _ _ _ _ _ from ⟨⟨rfl, (.const _), _, rfl, fits_int _⟩, ⟨rfl, (.const _), _, rfl, fits_int _⟩, ⟨rfl, (.const _), _, rfl, fits_int _⟩, trivial⟩) rfl (.here 0 rfl), op_store 0 rfl rfl rfl rfl 0 rfl (by kernel_rfl) (by kernel_rfl) ty_format (.tmp 0 rfl rfl) (fits_s (fs := [⟨false, 1, pI 53⟩, ⟨false, 1, pI (-1074)⟩, ⟨false, 1, pI 1024⟩]) ⟨fits_int _, fits_int _, fits_int _, trivial⟩ rfl), trivial⟩
  refine wp_ret ?_
  exact fin1 hI rfl (.cell 0 rfl rfl rfl rfl ty_format rfl)
theorem c_Near {x : Rat} {j : Nat} (hx : BdR j x) (hj : j ≤ 100000) : ∀ (M : Nat → Nat → Prop) (w : World) (v0 : Value), Mid M w → Box M (fun w => (pRat x) w v0) w → Calls Tryz.prog 16 #[v0] w (RetB M (pF (nearW x 53 (-1074) 1024)) w) := by
  intro M w0 v0 hM hv0
  refine calls_start (N := 6) Tryz.func16 rfl rfl rfl hM (show EntsA M w0 [v0] [⟨none, none, 0, pRat x⟩] from ⟨⟨rfl, _, rfl, hv0⟩, trivial⟩) fun a hI => ?_
  refine seq_text (V1 := [⟨1, 1, some 0, none, .ptr, 29, 3, true, pv (pS (ratFs x)), []⟩]) (A1 := []) (G1 := [⟨none, none, 0, pRat x⟩, ⟨some 1, none, 2, pF 0⟩]) (V2 := [⟨1, 1, none, none, .ptr, 29, 3, true, pv (pS (ratFs x)), []⟩]) (G2 := [⟨none, none, 2, pF 0⟩]) hI rfl rfl rfl [0, 1] (by kernel_rfl) (by kernel_rfl) ?_ [0] [1] rfl rfl fun a w hI => ?_
  · exact ⟨op_box 0 rfl rfl (by kernel_rfl) (by kernel_rfl) rfl rfl rfl (.imp (.tmp 0 rfl rfl) (rat_S _)) (fits_ratS _) rfl, op_assign (.const _) (.here 1 rfl), trivial⟩
  refine seq_drawn (V1 := [⟨1, 1, none, none, .ptr, 29, 3, true, pv (pS (ratFs x)), []⟩]) (A1 := []) (G1 := [⟨none, some 3, 2, pF 0⟩, ⟨some 0, none, 3, pS [⟨false, 1, pI 53⟩, ⟨false, 1, pI (-1074)⟩, ⟨false, 1, pI 1024⟩]⟩, ⟨some 1, none, 4, pRat x⟩, ⟨some 2, none, 5, pF (nearW x 53 (-1074) 1024)⟩, ⟨some 3, none, 2, pF (nearW x 53 (-1074) 1024)⟩]) (V2 := [⟨1, 1, none, none, .ptr, 29, 3, true, pv (pS (ratFs x)), []⟩]) (G2 := [⟨none, none, 2, pF (nearW x 53 (-1074) 1024)⟩]) hI rfl rfl rfl [0, 0, 3, 7] (by kernel_rfl) (by kernel_rfl) (by kernel_rfl) (by kernel_rfl) ?_ [0] [3] rfl rfl fun a w hI => ?_
  · exact ⟨op_callB0 (fun _ _ => by kernel_rfl)  (.here 1 rfl) (c_long), op_load 0 rfl rfl rfl rfl (by kernel_rfl) ty_Ratio rfl (.at_ 2 _ _ rfl (S_rat _)), op_callB2 (fun _ _ => by kernel_rfl) (.tmp 1 rfl rfl) (.tmp 2 rfl rfl) (.here 3 rfl) (c_near (bits := 53) hx hj (by omega) (by omega) (by omega)), op_assign (.tmp 3 rfl rfl) (.here 4 rfl), trivial⟩
  refine wp_ret ?_
  exact fin1 hI rfl (.tmp 0 rfl)
theorem c_short  : ∀ (M : Nat → Nat → Prop) (w : World), Mid M w → Calls Tryz.prog 68 #[] w (RetB M (pS [⟨false, 1, pI 24⟩, ⟨false, 1, pI (-149)⟩, ⟨false, 1, pI 128⟩]) w) := by
  intro M w0  hM 
  refine calls_start (N := 2) Tryz.func68 rfl rfl rfl hM (show EntsA M w0 [] [] from trivial) fun a hI => ?_
  refine seq_text (V1 := [⟨0, 0, some 0, none, .ptr, 102, 3, true, pv (pS [⟨false, 1, pI 0⟩, ⟨false, 1, pI 0⟩, ⟨false, 1, pI 0⟩]), []⟩]) (A1 := []) (G1 := []) (V2 := [⟨0, 0, none, none, .ptr, 102, 3, true, pv (pS [⟨false, 1, pI 0⟩, ⟨false, 1, pI 0⟩, ⟨false, 1, pI 0⟩]), []⟩]) (G2 := []) hI rfl rfl rfl [0] (by kernel_rfl) (by kernel_rfl) ?_ [0] [] rfl rfl fun a w hI => ?_
  · exact ⟨op_alloc 0 rfl rfl (by kernel_rfl) (by kernel_rfl) rfl rfl rfl zv_format rfl rfl (by simp [NoU]) rfl (fun w => pS_of (cells_int3 w)), trivial⟩
  refine seq_text (V1 := [⟨0, 0, none, none, .ptr, 102, 3, true, pv (pS [⟨false, 1, pI 0⟩, ⟨false, 1, pI 0⟩, ⟨false, 1, pI 0⟩]), [(1, pv (pS [⟨false, 1, pI 24⟩, ⟨false, 1, pI (-149)⟩, ⟨false, 1, pI 128⟩]))]⟩]) (A1 := []) (G1 := [⟨some 0, none, 1, pS [⟨false, 1, pI 24⟩, ⟨false, 1, pI (-149)⟩, ⟨false, 1, pI 128⟩]⟩]) (V2 := [⟨0, 0, none, none, .ptr, 102, 3, true, pv (pS [⟨false, 1, pI 24⟩, ⟨false, 1, pI (-149)⟩, ⟨false, 1, pI 128⟩]), []⟩]) (G2 := []) hI rfl rfl rfl [0, 1] (by kernel_rfl) (by kernel_rfl) ?_ [0] [] rfl rfl fun a w hI => ?_
  · exact ⟨op_build (fs := [⟨false, 1, pI 0⟩, ⟨false, 1, pI 0⟩, ⟨false, 1, pI 0⟩]) (ps := [(0, pI 24), (1, pI (-149)), (2, pI 128)]) bt_format (places_ok (by kernel_rfl)) (cells_int3) (show HasParts _ _ _ _ _ _ from ⟨⟨rfl, (.const _), _, rfl, fits_int _⟩, ⟨rfl, (.const _), _, rfl, fits_int _⟩, ⟨rfl, (.const _), _, rfl, fits_int _⟩, trivial⟩) rfl (.here 0 rfl), op_store 0 rfl rfl rfl rfl 0 rfl (by kernel_rfl) (by kernel_rfl) ty_format (.tmp 0 rfl rfl) (fits_s (fs := [⟨false, 1, pI 24⟩, ⟨false, 1, pI (-149)⟩, ⟨false, 1, pI 128⟩]) ⟨fits_int _, fits_int _, fits_int _, trivial⟩ rfl), trivial⟩
  refine wp_ret ?_
  exact fin1 hI rfl (.cell 0 rfl rfl rfl rfl ty_format rfl)
theorem c_Near32 {x : Rat} {j : Nat} (hx : BdR j x) (hj : j ≤ 100000) : ∀ (M : Nat → Nat → Prop) (w : World) (v0 : Value), Mid M w → Box M (fun w => (pRat x) w v0) w → Calls Tryz.prog 19 #[v0] w (RetB M (pF32 (near32W x)) w) := by
  intro M w0 v0 hM hv0
  refine calls_start (N := 7) Tryz.func19 rfl rfl rfl hM (show EntsA M w0 [v0] [⟨none, none, 0, pRat x⟩] from ⟨⟨rfl, _, rfl, hv0⟩, trivial⟩) fun a hI => ?_
  refine seq_text (V1 := [⟨1, 1, some 0, none, .ptr, 29, 3, true, pv (pS (ratFs x)), []⟩]) (A1 := []) (G1 := [⟨none, none, 0, pRat x⟩, ⟨some 1, none, 2, pF32 0⟩]) (V2 := [⟨1, 1, none, none, .ptr, 29, 3, true, pv (pS (ratFs x)), []⟩]) (G2 := [⟨none, none, 2, pF32 0⟩]) hI rfl rfl rfl [0, 1] (by kernel_rfl) (by kernel_rfl) ?_ [0] [1] rfl rfl fun a w hI => ?_
  · exact ⟨op_box 0 rfl rfl (by kernel_rfl) (by kernel_rfl) rfl rfl rfl (.imp (.tmp 0 rfl rfl) (rat_S _)) (fits_ratS _) rfl, op_assign (.const _) (.here 1 rfl), trivial⟩
  refine seq_drawn (V1 := [⟨1, 1, none, none, .ptr, 29, 3, true, pv (pS (ratFs x)), []⟩]) (A1 := []) (G1 := [⟨none, some 4, 2, pF32 0⟩, ⟨some 0, none, 3, pS [⟨false, 1, pI 24⟩, ⟨false, 1, pI (-149)⟩, ⟨false, 1, pI 128⟩]⟩, ⟨some 1, none, 4, pRat x⟩, ⟨some 2, none, 5, pF (nearW x 24 (-149) 128)⟩, ⟨some 3, none, 6, pF32 (to32 (nearW x 24 (-149) 128))⟩, ⟨some 4, none, 2, pF32 (to32 (nearW x 24 (-149) 128))⟩]) (V2 := [⟨1, 1, none, none, .ptr, 29, 3, true, pv (pS (ratFs x)), []⟩]) (G2 := [⟨none, none, 2, pF32 (to32 (nearW x 24 (-149) 128))⟩]) hI rfl rfl rfl [0, 0, 3, 7, 15] (by kernel_rfl) (by kernel_rfl) (by kernel_rfl) (by kernel_rfl) ?_ [0] [4] rfl rfl fun a w hI => ?_
  · exact ⟨op_callB0 (fun _ _ => by kernel_rfl)  (.here 1 rfl) (c_short), op_load 0 rfl rfl rfl rfl (by kernel_rfl) ty_Ratio rfl (.at_ 2 _ _ rfl (S_rat _)), op_callB2 (fun _ _ => by kernel_rfl) (.tmp 1 rfl rfl) (.tmp 2 rfl rfl) (.here 3 rfl) (c_near (bits := 24) hx hj (by omega) (by omega) (by omega)), op_conv (.tmp 3 rfl rfl) (fun w => conv32 (near32_ok x).1 w) (.here 4 rfl), op_assign (.tmp 4 rfl rfl) (.here 5 rfl), trivial⟩
  refine wp_ret ?_
  exact fin1 hI rfl (.imp (.tmp 0 rfl) (fun _ _ e => by rw [← (near32_ok x).2]; exact e))
end Wx

namespace Wx
open Go Go.RowKit Go.Proofs

theorem cn_two {z : Int} (h : -1000000 ≤ z ∧ z ≤ 1000000) : ∀ w v1, pI z w v1 → Calls Tryz.prog 73 #[v1] w (Ret (pRef (twoR z)) w) := fun w v1 h1 => by
  have h1 : v1 = .int .i64 z := h1
  rw [h1]
  by_cases hz : z < 0
  · have e : twoR z = 1 / pw z.natAbs := by unfold twoR; rw [if_pos hz]
    rw [e]
    exact ntwo_neg w z z.natAbs (by omega) (by omega) (by omega)
  · have e : twoR z = pw z.natAbs := by unfold twoR; rw [if_neg hz]
    rw [e]
    have := ntwo_pos w z.natAbs (by omega)
    rwa [show ((z.natAbs : Nat) : Int) = z by omega] at this
end Wx

namespace Wx
open Go

theorem quo_add (u d : Nat) (l : Int) : ∀ b : Nat, shN u (l + b) / shD d (l + b) = shN u l / shD d l / 2 ^ b := by
  intro b
  induction b with
  | zero => simp
  | succ b ih =>
    have e : l + ((b + 1 : Nat) : Int) = l + b + 1 := by omega
    rw [e, quo_succ, ih, Nat.div_div_eq_div_mul, Nat.pow_succ]
def belowR (x : Rat) (z : Int) : Prop := shN x.num.natAbs z < shD x.den z
instance (x : Rat) (z : Int) : Decidable (belowR x z) := Nat.decLt _ _
theorem below_iff (x : Rat) (l : Int) (b : Nat) : belowR x (l + b) ↔ nbits (shN x.num.natAbs l / shD x.den l) ≤ b := by
  have hd := shD_gt x.den_pos (l + b)
  have hq := quo_add x.num.natAbs x.den l b
  rw [nbits_le_iff]
  unfold belowR
  constructor
  · intro h
    rw [Nat.div_eq_of_lt h] at hq
    rcases Nat.lt_or_ge (shN x.num.natAbs l / shD x.den l) (2 ^ b) with h1 | h1
    · exact h1
    · have := Nat.div_pos h1 (Nat.two_pow_pos b)
      omega
  · intro h
    rw [Nat.div_eq_of_lt h] at hq
    rcases Nat.lt_or_ge (shN x.num.natAbs (l + b)) (shD x.den (l + b)) with h1 | h1
    · exact h1
    · have := Nat.div_pos h1 hd
      omega
theorem below_succ (x : Rat) : belowR x ((nbits x.num.natAbs : Int) - nbits x.den + 1) := by
  have h := quo_first (u := x.num.natAbs) x.den_pos (bits := 0) (l := (nbits x.num.natAbs : Int) - nbits x.den) (by omega)
  have := (below_iff x ((nbits x.num.natAbs : Int) - nbits x.den) 1).2 (nbits_le_iff.2 h)
  exact this
theorem below_mono {x : Rat} {y z : Int} (h : belowR x y) (hz : y ≤ z) : belowR x z := by
  obtain ⟨b, hb⟩ : ∃ b : Nat, z = y + b := ⟨(z - y).toNat, by omega⟩
  rw [hb]
  refine (below_iff x y b).2 ?_
  have : shN x.num.natAbs y / shD x.den y = 0 := Nat.div_eq_of_lt h
  rw [this]
  exact Nat.zero_le b
def expR (x : Rat) : Int := if belowR x ((nbits x.num.natAbs : Int) - nbits x.den) then (nbits x.num.natAbs : Int) - nbits x.den - 1 else (nbits x.num.natAbs : Int) - nbits x.den
theorem last_ref (x : Rat) (bits : Nat) (least : Int) : lastR x bits least = maxZ (expR x - bits + 1) least := by
  have h0 : last0 x bits least = maxZ ((nbits x.num.natAbs : Int) - nbits x.den - bits) least := rfl
  have hb := below_iff x (last0 x bits least) bits
  have hs := below_succ x
  have hlast : lastR x bits least = if belowR x (last0 x bits least + bits) then last0 x bits least else last0 x bits least + 1 := by
    unfold lastR
    by_cases h : belowR x (last0 x bits least + bits)
    · have := hb.1 h
      rw [if_pos h, if_neg (by simp; omega)]
    · have : ¬ nbits (shN x.num.natAbs (last0 x bits least) / shD x.den (last0 x bits least)) ≤ bits := fun h' => h (hb.2 h')
      rw [if_neg h, if_pos (by simp; omega)]
  rw [hlast, h0]
  generalize he : (nbits x.num.natAbs : Int) - nbits x.den = e at *
  unfold expR
  rw [he]
  rcases Int.lt_or_le least (e - bits) with h | h
  · have e1 : maxZ (e - bits) least = e - bits := by unfold maxZ; split <;> omega
    rw [e1, show e - (bits : Int) + bits = e by omega]
    by_cases hx : belowR x e
    · rw [if_pos hx, if_pos hx]; unfold maxZ; split <;> omega
    · rw [if_neg hx, if_neg hx]; unfold maxZ; split <;> omega
  · have e1 : maxZ (e - bits) least = least := by unfold maxZ; split <;> omega
    rw [e1]
    by_cases hx : belowR x e
    · rw [if_pos hx, if_pos (below_mono hx (by omega))]; unfold maxZ; split <;> omega
    · rw [if_neg hx]
      rcases Int.lt_or_le (e - bits) least with h' | h'
      · rw [if_pos (below_mono hs (by omega))]; unfold maxZ; split <;> omega
      · have : least = e - bits := by omega
        rw [if_neg (by rw [this, show e - (bits : Int) + bits = e by omega]; exact hx)]; unfold maxZ; split <;> omega
end Wx

namespace Wx
open Go

theorem not_below {x : Rat} (h0 : x.num.natAbs ≠ 0) : ¬ belowR x ((nbits x.num.natAbs : Int) - nbits x.den - 1) := by
  have h1 := nbits_le (Nat.pos_of_ne_zero h0)
  have h2 := nbits_lt x.den
  have h3 := nbits_pos (Nat.pos_of_ne_zero h0)
  unfold belowR
  refine Nat.not_lt.2 ?_
  rcases Int.le_total 0 ((nbits x.num.natAbs : Int) - nbits x.den - 1) with h | h
  · rw [shN_pos h, shD_pos h]
    calc x.den * 2 ^ ((nbits x.num.natAbs : Int) - nbits x.den - 1).toNat ≤ 2 ^ nbits x.den * 2 ^ ((nbits x.num.natAbs : Int) - nbits x.den - 1).toNat := Nat.mul_le_mul_right _ (Nat.le_of_lt h2)
      _ = 2 ^ (nbits x.num.natAbs - 1) := by rw [← Nat.pow_add]; congr 1; omega
      _ ≤ x.num.natAbs := h1
  · rw [shN_neg h, shD_neg h]
    calc x.den ≤ 2 ^ nbits x.den := Nat.le_of_lt h2
      _ = 2 ^ (nbits x.num.natAbs - 1) * 2 ^ (-((nbits x.num.natAbs : Int) - nbits x.den - 1)).toNat := by rw [← Nat.pow_add]; congr 1; omega
      _ ≤ x.num.natAbs * 2 ^ (-((nbits x.num.natAbs : Int) - nbits x.den - 1)).toNat := Nat.mul_le_mul_right _ h1
theorem exp_le {x : Rat} (h0 : x.num.natAbs ≠ 0) : ¬ belowR x (expR x) := by
  unfold expR
  split
  · exact not_below h0
  · assumption
end Wx

namespace Wx
open Go

theorem twoR_eq (z : Int) : twoR z = pw (maxZ z (0 : Int)).toNat / pw (maxZ (-z) (0 : Int)).toNat := by
  unfold twoR
  have p0 : pw 0 = 1 := rfl
  split
  · have e1 : (maxZ z (0 : Int)).toNat = 0 := by unfold maxZ; split <;> omega
    have e2 : (maxZ (-z) (0 : Int)).toNat = z.natAbs := by unfold maxZ; split <;> omega
    rw [e1, e2, p0]
  · have e1 : (maxZ z (0 : Int)).toNat = z.natAbs := by unfold maxZ; split <;> omega
    have e2 : (maxZ (-z) (0 : Int)).toNat = 0 := by unfold maxZ; split <;> omega
    rw [e1, e2, p0, Rat.div_def, show (1 : Rat)⁻¹ = 1 by decide +kernel, Rat.mul_one]
end Wx

namespace Wx
open Go

end Wx

namespace Wx
open Go Go.RowKit Go.Proofs
set_option linter.unusedVariables false

theorem bd_twoR (z : Int) : BdR (z.natAbs + 1) (twoR z) := by
  have h := Nat.pow_lt_pow_right (a := 2) (by omega) (Nat.lt_succ_self z.natAbs)
  have h1 : 1 < 2 ^ (z.natAbs + 1) := Nat.one_lt_two_pow (by omega)
  unfold twoR
  split
  · obtain ⟨e1, e2⟩ := inv_pw z.natAbs
    exact ⟨by unfold Bd; rw [e1]; exact h1, by unfold Bd; rw [e2]; exact h⟩
  · obtain ⟨e1, e2⟩ := pw_num z.natAbs
    refine ⟨?_, by unfold Bd; rw [e2]; exact h1⟩
    unfold Bd
    rw [e1]
    have : ((2 : Int) ^ z.natAbs).natAbs = 2 ^ z.natAbs := by
      rw [Int.natAbs_pow]
      rfl
    rw [this]
    exact h
section
variable {x : Rat} {bits : Nat} {least beyond : Int}
end
end Wx

namespace Wx
open Go Go.RowKit Go.Proofs
set_option linter.unusedVariables false

end Wx
