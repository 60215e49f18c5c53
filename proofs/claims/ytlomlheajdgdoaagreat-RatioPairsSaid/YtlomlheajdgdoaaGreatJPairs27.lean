import Derived.Test.YtlomlheajdgdoaaGreatProg
import Derived.Handy
import Derived.Deep.RegionHeld3
import Derived.Test.YtlomlheajdgdoaaGreatJPairs0
import Derived.Test.YtlomlheajdgdoaaGreatJPairs1
import Derived.Test.YtlomlheajdgdoaaGreatCPairsRat1
import Derived.Test.YtlomlheajdgdoaaGreatJPairs9
import Derived.Test.YtlomlheajdgdoaaGreatJPairs18
import Derived.Test.YtlomlheajdgdoaaGreatJPairs26
import Derived.Test.YtlomlheajdgdoaaGreatJPairs22
import Derived.Test.YtlomlheajdgdoaaGreatJPairs10
import Derived.Test.YtlomlheajdgdoaaGreatCPairsSem
import Derived.Test.YtlomlheajdgdoaaGreatCPairsSemOps
import Derived.Test.YtlomlheajdgdoaaGreatCPairsSemMem
import Derived.Test.YtlomlheajdgdoaaGreatCPairsSemCode
import Ieee.Arith
namespace Wx
set_option maxRecDepth 100000
open Go Go.RowKit Go.Proofs

set_option maxHeartbeats 1000000 in
theorem nof_num (w : World) (n d : Int) (h1 : -9223372036854775808 ≤ n) (h2 : n ≤ 9223372036854775807) (h4 : d ≤ 9223372036854775807) :
    Calls Tryz.prog 8 #[.agg #[.int .i64 n, .int .i64 d]] w (RetRef w (ofR n d)) := by
  have HH := bx (And.intro h1 (And.intro h2 h4))
  by_cases hd : d ≤ 0
  · have hq : ofR n d = (n : Rat) := if_pos hd
    rw [hq]
    generalize hg : (n : Rat) = q
    have HG := bx hg
    clear h1 h2 h4 hq hg
    go_enter Tryz.func8, Tryz.ntmps8
    go_wp2_with fail
    obtain ⟨w1, e1, oP, b1, s1⟩ := layA w [.int .i64 n, .int .i64 d] 23
    rw [e1]
    clear e1
    have B := b1
    clear b1
    obtain ⟨w2, e2, oR, b2, s2⟩ := layA w1 [.bool false, .slice none 0 0, .slice none 0 0] 33
    rw [e2]
    rw [s1] at oR
    clear e2
    replace oP := oP.gone b2
    replace B := B.trans (b2.mono B.size)
    clear b2
    have hc := nint_num w2 n HH.out.1 HH.out.2.1
    rw [HG.out] at hc
    refine Calls.mono (hc) ?_
    rintro e w3 ⟨vr, rfl, hr, b3⟩
    replace oP := oP.gone b3
    replace oR := oR.gone b3
    replace B := B.trans (b3.mono B.size)
    clear b3
    clear hc
    obtain ⟨vr1, vr2, rfl, hra, hrb⟩ := id hr
    obtain ⟨Ar1, cr1, rfl, _⟩ := id hra
    obtain ⟨Ar2, cr2, rfl, _⟩ := id hrb
    have k1 := oR.cell (i := 0) rfl
    have k2 := oR.fz 0
    have k3 := oR.cell (i := 1) rfl
    have k4 := oR.fz 1
    have k5 := oR.cell (i := 2) rfl
    have k6 := oR.fz 2
    go_wp2
    obtain ⟨wf, HW, ho, _, hN, hBf, _⟩ := oR.put notInt_z3 [.bool (decide (q.num < 0)), .slice Ar1 (digs b32 q.num.natAbs).length cr1, .slice Ar2 (digs b32 q.den).length cr2] rfl notInt3
    simp only [setAll, Nat.reduceAdd] at HW
    (try rw [HW])
    (try simp only [Exit.inBlock, Exit.then])
    have f0 := ho.cell (i := 0) rfl
    have f1 := ho.cell (i := 1) rfl
    have f2 := ho.cell (i := 2) rfl
    refine bodyPost_ret (by simp [results, Tryz.results8, go_sem, f0, f1, f2]; try rfl) rfl ?_
    have HB := hBf _ (by omega) B
    exact ⟨_, rfl, hr.into hN, HB⟩
  · have hq : ofR n d = newR n d := if_neg hd
    rw [hq]
    generalize hg : newR n d = q
    have HG := bx hg
    have hde : d ≠ 0 := by omega
    have HD := bx (And.intro hde (show -9223372036854775808 ≤ d by omega))
    clear h1 h2 h4 hq hg hde
    go_enter Tryz.func8, Tryz.ntmps8
    go_wp2_with fail
    obtain ⟨w1, e1, oP, b1, s1⟩ := layA w [.int .i64 n, .int .i64 d] 23
    rw [e1]
    clear e1
    have B := b1
    clear b1
    obtain ⟨w2, e2, oR, b2, s2⟩ := layA w1 [.bool false, .slice none 0 0, .slice none 0 0] 33
    rw [e2]
    rw [s1] at oR
    clear e2
    replace oP := oP.gone b2
    replace B := B.trans (b2.mono B.size)
    clear b2
    have hc := nnew_num w2 n d HH.out.1 HH.out.2.1 HD.out.2 HH.out.2.2 HD.out.1
    rw [HG.out] at hc
    refine Calls.mono (hc) ?_
    rintro e w3 ⟨vr, rfl, hr, b3⟩
    replace oP := oP.gone b3
    replace oR := oR.gone b3
    replace B := B.trans (b3.mono B.size)
    clear b3
    clear hc
    obtain ⟨vr1, vr2, rfl, hra, hrb⟩ := id hr
    obtain ⟨Ar1, cr1, rfl, _⟩ := id hra
    obtain ⟨Ar2, cr2, rfl, _⟩ := id hrb
    obtain ⟨w4, e4, oV, b4, s4⟩ := layA w3 [.bool (decide (q.num < 0)), .slice Ar1 (digs b32 q.num.natAbs).length cr1, .slice Ar2 (digs b32 q.den).length cr2] 33
    replace oP := oP.gone b4
    replace oR := oR.gone b4
    replace hr := hr.below b4
    replace B := B.trans (b4.mono B.size)
    clear b4 s4
    have k1 := oV.cell (i := 0) rfl
    have k2 := oV.cell (i := 1) rfl
    have k3 := oV.cell (i := 2) rfl
    have k4 := oR.cell (i := 0) rfl
    have k5 := oR.fz 0
    have k6 := oR.cell (i := 1) rfl
    have k7 := oR.fz 1
    have k8 := oR.cell (i := 2) rfl
    have k9 := oR.fz 2
    go_wp2
    obtain ⟨wf, HW, ho, _, hN, hBf, _⟩ := oR.put notInt_z3 [.bool (decide (q.num < 0)), .slice Ar1 (digs b32 q.num.natAbs).length cr1, .slice Ar2 (digs b32 q.den).length cr2] rfl notInt3
    simp only [setAll, Nat.reduceAdd] at HW
    (try rw [HW])
    (try simp only [Exit.inBlock, Exit.then])
    have f0 := ho.cell (i := 0) rfl
    have f1 := ho.cell (i := 1) rfl
    have f2 := ho.cell (i := 2) rfl
    refine bodyPost_ret (by simp [results, Tryz.results8, go_sem, f0, f1, f2]; try rfl) rfl ?_
    have HB := hBf _ (by omega) B
    exact ⟨_, rfl, hr.into hN, HB⟩
end Wx

namespace Wx
open Go Go.RowKit

theorem wp_joinT {P : Program} {Q : Exit → Act → World → Prop} {K : Act → World → Prop} {a : Act} {w : World} {x : Code} (J : Act → World → Prop) (h1 : x.wp P (Exit.then J Q) a w) (h2 : ∀ a w, J a w → K a w) : x.wp P (Exit.then K Q) a w :=
  Go.wp_mono h1 fun e a w h => by
    cases e with
    | normal => exact h2 a w h
    | exit n => exact h
    | goto l => exact h
    | ret => exact h
    | panic c => exact h
    | outgrown => exact h
theorem bin_sub {P : Program} {xt : TypeId} {a b : Int} (h : -9223372036854775808 ≤ a - b ∧ a - b ≤ 9223372036854775807) (w : World) : (Go.binOp .sub xt (.int .i64 a) (.int .i64 b)).run P w = .ok (.int .i64 (a - b)) w := by
  show Result.ok (Value.int .i64 (IntKind.i64.wrap (a - b))) w = _
  rw [IntWalk.i64_in _ h]
theorem bin_add {P : Program} {xt : TypeId} {a b : Int} (h : -9223372036854775808 ≤ a + b ∧ a + b ≤ 9223372036854775807) (w : World) : (Go.binOp .add xt (.int .i64 a) (.int .i64 b)).run P w = .ok (.int .i64 (a + b)) w := by
  show Result.ok (Value.int .i64 (IntKind.i64.wrap (a + b))) w = _
  rw [IntWalk.i64_in _ h]
end Wx

namespace Wx
open Go Go.RowKit

theorem wrap_n64 {n : Nat} (h : n < 2 ^ 64) : IntKind.u64.wrap (n : Int) = (n : Int) := by
  have e : IntKind.u64.wrap (n : Int) = (n : Int) % 2 ^ 64 := by simp [IntKind.wrap, IntKind.signed, IntKind.bits]
  rw [e]
  have h' : (n : Int) < 2 ^ 64 := by exact_mod_cast h
  exact Int.emod_eq_of_lt (Int.natCast_nonneg n) h'
theorem bv_nat (n : Nat) : BitVec.ofInt 64 (n : Int) = BitVec.ofNat 64 n := BitVec.ofInt_natCast 64 n
theorem bv_toNat {n : Nat} (h : n < 2 ^ 64) : (BitVec.ofNat 64 n).toNat = n := by rw [BitVec.toNat_ofNat]; exact Nat.mod_eq_of_lt h
theorem and_maskN {n k : Nat} (hn : n < 2 ^ 64) (hk : k ≤ 64) : (BitVec.ofInt 64 (n : Int) &&& BitVec.ofInt 64 ((2 ^ k - 1 : Nat) : Int)).toNat = n % 2 ^ k := by
  have h1 : 2 ^ k - 1 < 2 ^ 64 := by
    have : 2 ^ k ≤ 2 ^ 64 := Nat.pow_le_pow_right (by omega) hk
    have := Nat.two_pow_pos k
    omega
  rw [bv_nat, bv_nat, BitVec.toNat_and, bv_toNat hn, bv_toNat h1, Nat.and_two_pow_sub_one_eq_mod]
theorem or_disj {m q k : Nat} (hm : m < 2 ^ k) (hq : q * 2 ^ k + m < 2 ^ 64) : (BitVec.ofInt 64 (m : Int) ||| BitVec.ofInt 64 ((q * 2 ^ k : Nat) : Int)).toNat = q * 2 ^ k + m := by
  rw [bv_nat, bv_nat, BitVec.toNat_or, bv_toNat (by omega), bv_toNat (by omega), Nat.or_comm, Nat.mul_comm]
  rw [Nat.mul_comm] at hq
  exact (Nat.two_pow_add_eq_or_of_lt hm q).symm
theorem testBit_mask (i : Nat) : Nat.testBit 9218868437227405312 i = (decide (52 ≤ i) && decide (i < 63)) := by
  have e : (9218868437227405312 : Nat) = (2 ^ 11 - 1) * 2 ^ 52 := by decide
  rw [e, Nat.testBit_mul_two_pow, Nat.testBit_two_pow_sub_one]
  by_cases h : 52 ≤ i
  · simp only [h, decide_true, Bool.true_and]
    apply decide_eq_decide.2
    omega
  · simp [h]
theorem andNot_mask {n : Nat} (hn : n < 2 ^ 63) : (BitVec.ofInt 64 (n : Int) &&& ~~~BitVec.ofInt 64 9218868437227405312).toNat = n % 2 ^ 52 := by
  have e : BitVec.ofInt 64 9218868437227405312 = BitVec.ofNat 64 9218868437227405312 := bv_nat 9218868437227405312
  rw [bv_nat, e, BitVec.toNat_and, bv_toNat (by omega), BitVec.toNat_not, bv_toNat (by decide)]
  apply Nat.eq_of_testBit_eq
  intro i
  have e2 : 2 ^ 64 - 1 - 9218868437227405312 = 2 ^ 64 - (9218868437227405312 + 1) := by decide
  rw [Nat.testBit_and, e2, Nat.testBit_two_pow_sub_succ (by decide), testBit_mask, Nat.testBit_mod_two_pow]
  by_cases h1 : i < 52
  · have h2 : ¬ 52 ≤ i := by omega
    have h3 : i < 64 := by omega
    simp [h1, h2, h3]
  · have h2 : 52 ≤ i := by omega
    by_cases h3 : i < 63
    · have h4 : i < 64 := by omega
      simp [h1, h2, h3, h4]
    · have : n.testBit i = false := Nat.testBit_lt_two_pow (Nat.lt_of_lt_of_le hn (Nat.pow_le_pow_right (by omega) (by omega)))
      simp [this, h1]
theorem andNot_sign {n : Nat} (hn : n < 2 ^ 64) : (BitVec.ofInt 64 (n : Int) &&& ~~~BitVec.ofInt 64 9223372036854775808).toNat = n % 2 ^ 63 := by
  have e : BitVec.ofInt 64 9223372036854775808 = BitVec.ofNat 64 9223372036854775808 := bv_nat 9223372036854775808
  rw [bv_nat, e, BitVec.toNat_and, bv_toNat hn, BitVec.toNat_not, bv_toNat (by decide)]
  have e2 : 2 ^ 64 - 1 - 9223372036854775808 = 2 ^ 63 - 1 := by decide
  rw [e2, Nat.and_two_pow_sub_one_eq_mod]
section
variable {P : Program} {ops : Array Oper} {ms : List Nat} {c : Cfg} {V : List Vr} {A : List Al} {G : List Ent} {i : Nat}
variable {d : Nat} {x y : Operand} {ty : TypeId} {pos : String} {aft : Array Edge}
def pU (n : Nat) : Pred := pEq (.int .u64 (n : Int))
theorem op_andMask {xt yt : TypeId} {n k : Nat} {m : Int} (h1 : Has ms G i x (pU n)) (h2 : Has ms G i y (pEq (.int .u64 m))) (hn : n < 2 ^ 64) (hk : k ≤ 64) (hm : m = ((2 ^ k - 1 : Nat) : Int)) (hp : Post G i (pU (n % 2 ^ k))) : OpOk P ops ms c V A G i ⟨some d, .binOp .and xt x y yt, ty, pos, aft, none⟩ := by
  refine op_bin h1 h2 (fun w => ?_) hp
  show Result.ok (Value.int .u64 (IntKind.u64.wrap ((BitVec.ofInt 64 (n : Int) &&& BitVec.ofInt 64 m).toNat : Int))) w = _
  rw [hm, and_maskN hn hk, wrap_n64 (Nat.lt_of_le_of_lt (Nat.mod_le _ _) hn)]
theorem op_orDisj {xt yt : TypeId} {m q k r : Nat} {z : Int} (h1 : Has ms G i x (pU m)) (h2 : Has ms G i y (pEq (.int .u64 z))) (hz : z = ((q * 2 ^ k : Nat) : Int)) (hm : m < 2 ^ k) (hq : q * 2 ^ k + m < 2 ^ 64) (hr : r = q * 2 ^ k + m) (hp : Post G i (pU r)) : OpOk P ops ms c V A G i ⟨some d, .binOp .or xt x y yt, ty, pos, aft, none⟩ := by
  refine op_bin h1 h2 (fun w => ?_) hp
  show Result.ok (Value.int .u64 (IntKind.u64.wrap ((BitVec.ofInt 64 (m : Int) ||| BitVec.ofInt 64 z).toNat : Int))) w = _
  rw [hz, or_disj hm hq, wrap_n64 hq, hr]
theorem op_andNot {xt yt : TypeId} {n r : Nat} {m : Int} (h1 : Has ms G i x (pU n)) (h2 : Has ms G i y (pEq (.int .u64 m))) (hr : (BitVec.ofInt 64 (n : Int) &&& ~~~BitVec.ofInt 64 m).toNat = r) (hn : r < 2 ^ 64) (hp : Post G i (pU r)) : OpOk P ops ms c V A G i ⟨some d, .binOp .andNot xt x y yt, ty, pos, aft, none⟩ := by
  refine op_bin h1 h2 (fun w => ?_) hp
  show Result.ok (Value.int .u64 (IntKind.u64.wrap ((BitVec.ofInt 64 (n : Int) &&& ~~~BitVec.ofInt 64 m).toNat : Int))) w = _
  rw [hr, wrap_n64 hn]
theorem op_shr {xt yt : TypeId} {n s : Nat} {yk : IntKind} (h1 : Has ms G i x (pU n)) (h2 : Has ms G i y (pEq (.int yk (s : Int)))) (hs : s ≤ 64) (hp : Post G i (pU (n / 2 ^ s))) : OpOk P ops ms c V A G i ⟨some d, .binOp .shr xt x y yt, ty, pos, aft, none⟩ := by
  refine op_bin h1 h2 (fun w => ?_) hp
  show (Op.shift .shr .u64 (n : Int) yk (s : Int)).run P w = _
  unfold Op.shift
  rw [if_neg (by omega)]
  have e : min ((s : Int)).toNat IntKind.u64.bits = s := by show min ((s : Int)).toNat 64 = s; omega
  simp only [e, Sem.run_pure]
  have e2 : ((n : Int)).fdiv (2 ^ s) = ((n / 2 ^ s : Nat) : Int) := by
    rw [Int.fdiv_eq_ediv_of_nonneg _ (by exact Int.le_of_lt (Int.pow_pos (by omega)))]
    simp
  rw [e2]
theorem op_shl {xt yt : TypeId} {n s : Nat} {yk : IntKind} (h1 : Has ms G i x (pU n)) (h2 : Has ms G i y (pEq (.int yk (s : Int)))) (hs : s ≤ 64) (hn : n * 2 ^ s < 2 ^ 64) (hp : Post G i (pU (n * 2 ^ s))) : OpOk P ops ms c V A G i ⟨some d, .binOp .shl xt x y yt, ty, pos, aft, none⟩ := by
  refine op_bin h1 h2 (fun w => ?_) hp
  show (Op.shift .shl .u64 (n : Int) yk (s : Int)).run P w = _
  unfold Op.shift
  rw [if_neg (by omega)]
  have e : min ((s : Int)).toNat IntKind.u64.bits = s := by show min ((s : Int)).toNat 64 = s; omega
  simp only [e, Sem.run_pure]
  have e2 : (n : Int) * 2 ^ s = ((n * 2 ^ s : Nat) : Int) := by simp
  rw [e2, wrap_n64 hn]
end
end Wx

namespace Wx
open Ieee

theorem log2_pow {m : Nat} (h : m ≠ 0) (k : Nat) : (m * 2 ^ k).log2 = m.log2 + k := by
  have h0 : m * 2 ^ k ≠ 0 := Nat.mul_ne_zero h (Nat.ne_of_gt (Nat.two_pow_pos k))
  have h1 : 2 ^ m.log2 ≤ m := (Nat.le_log2 h).1 (Nat.le_refl _)
  have h2 : m < 2 ^ (m.log2 + 1) := (Nat.log2_lt h).1 (Nat.lt_succ_self _)
  apply Nat.le_antisymm
  · refine Nat.lt_succ_iff.1 ((Nat.log2_lt h0).2 ?_)
    calc m * 2 ^ k < 2 ^ (m.log2 + 1) * 2 ^ k := Nat.mul_lt_mul_of_pos_right h2 (Nat.two_pow_pos k)
      _ = 2 ^ (m.log2 + k + 1) := by rw [← Nat.pow_add]; congr 1; omega
  · refine (Nat.le_log2 h0).2 ?_
    calc 2 ^ (m.log2 + k) = 2 ^ m.log2 * 2 ^ k := Nat.pow_add _ _ _
      _ ≤ m * 2 ^ k := Nat.mul_le_mul_right _ h1
theorem cut_scale (neg : Bool) {n : Nat} (h : n ≠ 0) (d k : Nat) : Toward.even.cut neg (n * 2 ^ k) (d + k) = Toward.even.cut neg n d := by
  have hp := Nat.two_pow_pos k
  have hg : (1 <<< min (d + k) ((n * 2 ^ k).log2 + 2)) = (1 <<< min d (n.log2 + 2)) * 2 ^ k := by
    rw [log2_pow h, show min (d + k) (n.log2 + k + 2) = min d (n.log2 + 2) + k by omega, Nat.one_shiftLeft, Nat.one_shiftLeft, Nat.pow_add]
  simp only [Toward.cut, hg]
  generalize (1 <<< min d (n.log2 + 2)) = g
  have e1 : n * 2 ^ k / (g * 2 ^ k) = n / g := Nat.mul_div_mul_right _ _ hp
  have e2 : n * 2 ^ k % (g * 2 ^ k) = n % g * 2 ^ k := Nat.mul_mod_mul_right _ _ _
  rw [e1, e2]
  have e3 : decide (g * 2 ^ k < 2 * (n % g * 2 ^ k)) = decide (g < 2 * (n % g)) := by
    apply decide_eq_decide.2
    rw [← Nat.mul_assoc]
    exact Nat.mul_lt_mul_right hp
  have e4 : (g * 2 ^ k == 2 * (n % g * 2 ^ k)) = (g == 2 * (n % g)) := by
    rw [← Nat.mul_assoc, Bool.eq_iff_iff, beq_iff_eq, beq_iff_eq]
    exact Nat.mul_left_inj (Nat.ne_of_gt hp)
  rw [e3, e4]
theorem cut_none (neg : Bool) (n : Nat) : Toward.even.cut neg n 0 = n := by
  simp only [Toward.cut, Nat.zero_min, Nat.shiftLeft_zero, Nat.div_one, Nat.mod_one]
  simp
theorem cut_exact (neg : Bool) {n : Nat} (h : n ≠ 0) (k : Nat) : Toward.even.cut neg (n * 2 ^ k) k = n := by
  have := cut_scale neg h 0 k
  rw [Nat.zero_add] at this
  rw [this, cut_none]
theorem nearest_scale (f : Format) (neg : Bool) (m : Nat) (e : Int) (k : Nat) : f.nearest neg (m * 2 ^ k) (e - k) = f.nearest neg m e := by
  by_cases h : m = 0
  · subst h; simp [Format.nearest]
  have h0 : m * 2 ^ k ≠ 0 := Nat.mul_ne_zero h (Nat.ne_of_gt (Nat.two_pow_pos k))
  unfold Format.nearest
  rw [if_neg h, if_neg h0, log2_pow h]
  have e1 : (e - k : Int) + ((m.log2 + k : Nat) : Int) - f.fractionBits = e + m.log2 - f.fractionBits := by omega
  rw [e1]
  generalize max (e + (m.log2 : Int) - f.fractionBits) f.leastPlace = last
  have key : Toward.even.cut neg ((m * 2 ^ k) <<< (e - k - last).toNat) (last - (e - k)).toNat = Toward.even.cut neg (m <<< (e - last).toNat) (last - e).toNat := by
    rw [Nat.shiftLeft_eq, Nat.shiftLeft_eq]
    rcases Int.le_total last e with h1 | h1
    · rcases Int.le_total last (e - k) with h2 | h2
      · have a1 : (last - (e - k)).toNat = 0 := by omega
        have a2 : (last - e).toNat = 0 := by omega
        rw [a1, a2, cut_none, cut_none, Nat.mul_assoc, ← Nat.pow_add]
        congr 2; omega
      · have a1 : (e - k - last).toNat = 0 := by omega
        have a2 : (last - e).toNat = 0 := by omega
        rw [a1, a2, Nat.pow_zero, Nat.mul_one, cut_none]
        obtain ⟨j, hj⟩ : ∃ j : Nat, k = (e - last).toNat + j := ⟨k - (e - last).toNat, by omega⟩
        have a3 : (last - (e - k)).toNat = j := by omega
        rw [a3]
        have a4 : m * 2 ^ k = m * 2 ^ (e - last).toNat * 2 ^ j := by rw [Nat.mul_assoc, ← Nat.pow_add, ← hj]
        rw [a4]
        exact cut_exact neg (Nat.mul_ne_zero h (Nat.ne_of_gt (Nat.two_pow_pos _))) j
    · have a1 : (e - k - last).toNat = 0 := by omega
      have a2 : (e - last).toNat = 0 := by omega
      have a3 : (last - (e - k)).toNat = (last - e).toNat + k := by omega
      rw [a1, a2, a3, Nat.pow_zero, Nat.mul_one, Nat.mul_one]
      exact cut_scale neg h _ k
  simp only [key]
theorem read_nearest (f : Format) (neg : Bool) {m : Nat} {e : Int} (h0 : m ≠ 0) (h1 : m.log2 ≤ f.fractionBits) (h2 : f.leastPlace ≤ e) (h3 : e + m.log2 - f.fractionBits - f.leastPlace + 2 < 2 ^ f.exponentBits) (h4 : 2 < 2 ^ f.exponentBits) :
    ∃ k : Nat, f.read (f.nearest neg m e) = .number neg (m * 2 ^ k) (e - k) ∧ (m * 2 ^ k).log2 ≤ f.fractionBits := by
  unfold Format.nearest
  rw [if_neg h0]
  obtain ⟨last, hl⟩ : ∃ last, last = max (e + (m.log2 : Int) - f.fractionBits) f.leastPlace := ⟨_, rfl⟩
  rw [← hl]
  have hle : last ≤ e := by omega
  have hge : f.leastPlace ≤ last := by omega
  obtain ⟨k, hk⟩ : ∃ k : Nat, e - last = k := ⟨(e - last).toNat, by omega⟩
  have a1 : (e - last).toNat = k := by omega
  have a2 : (last - e).toNat = 0 := by omega
  simp only [a1, a2, cut_none, Nat.shiftLeft_eq]
  obtain ⟨q, hq⟩ : ∃ q : Nat, last - f.leastPlace = q := ⟨(last - f.leastPlace).toNat, by omega⟩
  have a3 : (last - f.leastPlace).toNat = q := by omega
  simp only [a3]
  have hb : f.binade = 2 ^ f.fractionBits := rfl
  have hbp : 0 < f.binade := Nat.two_pow_pos _
  have hm0 : m * 2 ^ k ≠ 0 := Nat.mul_ne_zero h0 (Nat.ne_of_gt (Nat.two_pow_pos k))
  have hlog := log2_pow h0 k
  have hup : m * 2 ^ k < 2 * f.binade := by
    have : (m * 2 ^ k).log2 < f.fractionBits + 1 := by rw [hlog]; omega
    have := (Nat.log2_lt hm0).1 this
    rw [hb]; rw [Nat.pow_succ] at this; omega
  have hlo : 0 < q → f.binade ≤ m * 2 ^ k := by
    intro hq0
    rw [hb]
    refine (Nat.le_log2 hm0).1 ?_
    rw [hlog]; omega
  have hE : ((2 ^ f.exponentBits : Nat) : Int) = (2 : Int) ^ f.exponentBits := by simp
  have hq2 : q + 2 < 2 ^ f.exponentBits := by
    rcases Nat.eq_zero_or_pos q with hz | hz
    · rw [hz]; exact h4
    · have : (q : Int) + 2 < ((2 ^ f.exponentBits : Nat) : Int) := by rw [hE]; omega
      omega
  generalize hR : m * 2 ^ k = r at *
  have hinf : q * f.binade + r < f.infRung := by
    unfold Format.infRung
    have : (q + 2) * f.binade ≤ (2 ^ f.exponentBits - 1) * f.binade := Nat.mul_le_mul_right _ (by omega)
    rw [Nat.add_mul] at this
    omega
  rw [Nat.min_eq_left (Nat.le_of_lt hinf)]
  have hsw : f.infRung < f.signWeight := by
    unfold Format.infRung Format.signWeight
    rw [Nat.pow_add, hb]
    exact Nat.mul_lt_mul_of_pos_right (by omega) (Nat.two_pow_pos _)
  have hlt : q * f.binade + r < f.signWeight := Nat.lt_trans hinf hsw
  have hswp : 0 < f.signWeight := Nat.two_pow_pos _
  have hneg : (f.word neg (q * f.binade + r) / f.signWeight % 2 == 1) = neg ∧ f.word neg (q * f.binade + r) % f.signWeight = q * f.binade + r := by
    unfold Format.word
    cases neg with
    | true =>
      simp only [if_true]
      rw [Nat.add_div_left _ hswp, Nat.div_eq_of_lt hlt, Nat.add_mod_left, Nat.mod_eq_of_lt hlt]
      exact ⟨rfl, rfl⟩
    | false =>
      simp only [Bool.false_eq_true, if_false]
      rw [Nat.div_eq_of_lt hlt, Nat.mod_eq_of_lt hlt]
      exact ⟨rfl, rfl⟩
  refine ⟨k, ?_, by rw [hR]; refine Nat.lt_succ_iff.1 ((Nat.log2_lt hm0).2 ?_); rw [Nat.pow_succ]; rw [hb] at hup; omega⟩
  unfold Format.read
  simp only [hneg.1, hneg.2]
  rw [hR]
  by_cases hs : q * f.binade + r < f.binade
  · have hq0 : q = 0 := by
      rcases Nat.eq_zero_or_pos q with hz | hz
      · exact hz
      · have : 1 * f.binade ≤ q * f.binade := Nat.mul_le_mul_right _ hz
        omega
    rw [if_pos hs, hq0, Nat.zero_mul, Nat.zero_add]
    congr 1
    omega
  · rw [if_neg hs, if_pos hinf]
    have hrb : f.binade ≤ r := by
      rcases Nat.eq_zero_or_pos q with hz | hz
      · rw [hz, Nat.zero_mul, Nat.zero_add] at hs; omega
      · exact hlo hz
    have e1 : (q * f.binade + r) % f.binade = r - f.binade := by
      rw [Nat.add_comm, Nat.add_mul_mod_self_right]
      rw [Nat.mod_eq_sub_mod hrb, Nat.mod_eq_of_lt (by omega)]
    have e2 : (q * f.binade + r) / f.binade = q + 1 := by
      rw [Nat.add_comm, Nat.add_mul_div_right _ _ hbp]
      have : r / f.binade = 1 := Nat.div_eq_of_lt_le (by omega) (by omega)
      omega
    rw [e1, e2]
    congr 1 <;> omega
structure InDouble (m : Nat) (e : Int) : Prop where
  pos : m ≠ 0
  bits : m.log2 ≤ 52
  least : -1074 ≤ e
  top : e + m.log2 ≤ 1023
theorem InDouble.read {m : Nat} {e : Int} (h : InDouble m e) (neg : Bool) : ∃ k : Nat, double.read (double.nearest neg m e) = .number neg (m * 2 ^ k) (e - k) ∧ (m * 2 ^ k).log2 ≤ 52 := by
  have hl : double.leastPlace = -1074 := by decide
  have he : (2 : Int) ^ double.exponentBits = 2048 := by decide
  have hf : (double.fractionBits : Int) = 52 := rfl
  refine read_nearest double neg h.pos h.bits (by rw [hl]; exact h.least) ?_ (by decide)
  rw [hl, he, hf]
  have := h.top
  omega
theorem read_two : double.read 4611686018427387904 = .number false (2 ^ 52) (-51) := by decide +kernel
theorem read_one : double.read 4607182418800017408 = .number false (2 ^ 52) (-52) := by decide +kernel
theorem read_none : double.read 13830554455654793216 = .number true (2 ^ 52) (-52) := by decide +kernel
theorem double_twice {m : Nat} {e : Int} (h : InDouble m e) (neg : Bool) : double.mul (double.nearest neg m e) 4611686018427387904 = some (double.nearest neg m (e + 1)) := by
  obtain ⟨k, h1, _⟩ := h.read neg
  unfold Format.mul
  rw [h1, read_two]
  simp only [Datum.product, Option.map_some, Format.write, Bool.xor_false]
  have := nearest_scale double neg m (e + 1) (k + 52)
  rw [Nat.pow_add, ← Nat.mul_assoc] at this
  rw [← this]
  congr 2
  omega
theorem double_half {m : Nat} {e : Int} (h : InDouble m e) (neg : Bool) : double.div (double.nearest neg m e) 4611686018427387904 = some (double.nearest neg m (e - 1)) := by
  obtain ⟨k, h1, h2⟩ := h.read neg
  unfold Format.div
  rw [h1, read_two]
  have hl : (2 ^ 52 : Nat).log2 = 52 := by decide +kernel
  have hm0 : m * 2 ^ k ≠ 0 := Nat.mul_ne_zero h.pos (Nat.ne_of_gt (Nat.two_pow_pos k))
  obtain ⟨more, hmore⟩ : ∃ more, double.fractionBits + 2 + (2 ^ 52 : Nat).log2 - (m * 2 ^ k).log2 = 52 + more := ⟨54 - (m * 2 ^ k).log2, by rw [hl]; show 52 + 2 + 52 - _ = _; omega⟩
  simp only [Datum.quotient, hmore, Nat.shiftLeft_eq]
  rw [if_neg (Nat.ne_of_gt (Nat.two_pow_pos 52))]
  have e1 : m * 2 ^ k * 2 ^ (52 + more) = m * 2 ^ k * 2 ^ more * 2 ^ 52 := by rw [Nat.add_comm 52, Nat.pow_add, ← Nat.mul_assoc]
  have e2 : m * 2 ^ k * 2 ^ (52 + more) / 2 ^ 52 = m * 2 ^ k * 2 ^ more := by rw [e1]; exact Nat.mul_div_cancel _ (Nat.two_pow_pos 52)
  have e3 : m * 2 ^ k * 2 ^ (52 + more) % 2 ^ 52 = 0 := by rw [e1]; exact Nat.mul_mod_left _ _
  rw [e2, e3]
  simp only [Option.map_some, Format.write, Bool.xor_false, bne_self_eq_false, Bool.toNat_false, Nat.add_zero]
  have := nearest_scale double neg m (e - 1) (1 + (k + more))
  rw [Nat.pow_add, Nat.pow_one, Nat.pow_add] at this
  rw [← this]
  congr 2
  · rw [Nat.mul_assoc, ← Nat.mul_assoc 2 m, Nat.mul_comm 2 m, Nat.mul_assoc m 2]
  · omega
theorem double_sign {m : Nat} {e : Int} (h : InDouble m e) (s neg : Bool) : double.mul (if s then 13830554455654793216 else 4607182418800017408) (double.nearest neg m e) = some (double.nearest (s ^^ neg) m e) := by
  obtain ⟨k, h1, _⟩ := h.read neg
  have key : double.read (if s then 13830554455654793216 else 4607182418800017408) = .number s (2 ^ 52) (-52) := by
    cases s
    · exact read_one
    · exact read_none
  unfold Format.mul
  rw [h1, key]
  simp only [Datum.product, Option.map_some, Format.write]
  have := nearest_scale double (s ^^ neg) m e (52 + k)
  rw [Nat.pow_add, ← Nat.mul_assoc, Nat.mul_comm m, Nat.mul_assoc] at this
  rw [← this]
  congr 2
  omega
theorem to_single {m : Nat} {e : Int} (h : InDouble m e) (neg : Bool) : single.write (double.read (double.nearest neg m e)) = single.nearest neg m e := by
  obtain ⟨k, h1, _⟩ := h.read neg
  rw [h1]
  exact nearest_scale single neg m e k
end Wx
