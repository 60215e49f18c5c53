import Derived.Handy
import Derived.IntWalk
import Derived.Deep.MidRow
import Derived.Laws.Tables
import Derived.Test.YtlomlheajdgdoaaGreatJNears0
import Derived.Test.YtlomlheajdgdoaaGreatJNears1
import Derived.Test.YtlomlheajdgdoaaGreatJNears12
import Derived.Test.YtlomlheajdgdoaaGreatCSem
import Derived.Test.YtlomlheajdgdoaaGreatCSemOps
import Derived.Test.YtlomlheajdgdoaaGreatCSemMem
import Derived.Test.YtlomlheajdgdoaaGreatCSemCode
import Derived.Test.YtlomlheajdgdoaaGreatJNears30
import Ieee.Arith
namespace Wx
open Go Go.RowKit
/-- A pointer to something that stands: it reads as what p tells. -/
def pPtr (sz : Nat) (agg : Bool) (p : Pred) : Pred := fun w v => ∃ (b o : Nat) (cs : List Value), v = .pointer (some ⟨b, o, none⟩) ∧ cs.length = sz ∧ (∀ j u, cs[j]? = some u → w.cell? ⟨b, o + j, none⟩ = some u) ∧ p w (wrapV agg cs)
/-- A slice that stands: n elements of sz cells, the i-th one as f i tells. -/
def pRow (sz : Nat) (agg : Bool) (n : Nat) (f : Nat → Pred) : Pred := fun w v => ∃ (A : Option Addr) (cap : Nat), v = .slice A n cap ∧ n ≤ cap ∧ cap ≤ maxLen ∧
  (0 < n → ∃ b o : Nat, A = some ⟨b, o, none⟩ ∧ ∀ i, i < n → ∃ cs : List Value, cs.length = sz ∧ (∀ j u, cs[j]? = some u → w.cell? ⟨b, o + i * sz + j, none⟩ = some u) ∧ f i w (wrapV agg cs))
/-- A slice's type. -/
structure SlTy (P : Program) (T : TypeId) (E : TypeId) (sz : Nat) : Prop where
  under : P.underlying T = some (.slice E)
  size : ∀ w, (Go.sizeOf E).run P w = .ok sz w
section
variable {P : Program} {ops : Array Oper} {ms : List Nat} {c : Cfg} {V : List Vr} {A : List Al} {G : List Ent} {i : Nat} {L : Nat → Bool} {β : Nat → Nat → Prop} {a : Act} {w : World} {o : Oper}
variable {d : Nat} {x y z : Operand} {ty : TypeId} {pos : String} {aft : Array Edge}
theorem run_indexAt {T E : TypeId} {sz b off n cap : Nat} {m : Int} (ht : SlTy P T E sz) (h0 : 0 ≤ m) (h1 : m < n) : (Instr.indexAt T (.slice (some ⟨b, off, none⟩) n cap) (.int .i64 m)).run P w = .ok (.pointer (some ⟨b, off + m.toNat * sz, none⟩)) w := by
  have hu : (underlying T).run P w = .ok (.slice E) w := run_underlying ht.under w
  simp only [Instr.indexAt, asIntOf, pure_bind, Sem.run_bind, hu, Result.andThen_ok]
  rw [if_pos ⟨h0, h1⟩]
  simp only [Sem.run_bind, ht.size, Result.andThen_ok, Sem.run_pure, Addr.add_mid]
theorem op_indexRow {T E : TypeId} {sz n : Nat} {agg : Bool} {f : Nat → Pred} {m : Int} (h : Has ms G i x (pRow sz agg n f)) (hy : Has ms G i y (pI m)) (ht : SlTy P T E sz) (h0 : 0 ≤ m) (h1 : m < n) (hA : (A.all fun q => q.tag != some i) = true) (hp : Post G i (pPtr sz agg (f m.toNat))) :
    OpOk P ops ms c V A G i ⟨some d, .indexAddr T x y, ty, pos, aft, none⟩ :=
  op_val rfl rfl rfl (.inr hA) hp fun L β a w hI hd => by
    have hr := h.spec hI hd
    have hi : a.eval y = .int .i64 m := (hy.spec hI hd).out
    obtain ⟨A', cap, e, hn, hcap, hel⟩ := hr.out
    obtain ⟨b, off, rfl, _⟩ := hel (by omega)
    refine ⟨.pointer (some ⟨b, off + m.toNat * sz, none⟩), w, ?_, Below.refl _ _, fun w' he => ?_⟩
    · show (do pure (Next.value (← Instr.indexAt T (a.eval x) (a.eval y)))).run P w = _
      rw [e, hi, Sem.run_bind, run_indexAt ht h0 h1]
      rfl
    · obtain ⟨A2, cap2, e2, _, _, hel2⟩ := hr w' he
      rw [e] at e2
      injection e2 with e2
      obtain ⟨b2, off2, e3, hel3⟩ := hel2 (by omega)
      rw [← e2] at e3
      injection e3 with e3
      injection e3 with e4 e5
      subst e4 e5
      obtain ⟨cs, h2, h3, h4⟩ := hel3 m.toNat (by omega)
      exact ⟨_, _, cs, rfl, h2, h3, h4⟩
theorem op_len {T E : TypeId} {sz n : Nat} {agg : Bool} {f : Nat → Pred} (h : Has ms G i x (pRow sz agg n f)) (ht : P.underlying T = some (.slice E)) (hp : Post G i (pI (n : Int))) :
    OpOk P ops ms c V A G i ⟨some d, .call ⟨.builtin .len, #[x], #[T]⟩, ty, pos, aft, none⟩ :=
  op_val1 rfl rfl rfl rfl h hp fun ρ w h => ⟨.int .i64 n, by
    obtain ⟨A', cap, e, _⟩ := h
    have hr : (Builtin.len_ #[T] ty #[ρ x]).run P w = .ok (.int .i64 n) w := by
      rw [e]
      unfold Builtin.len_
      simp [run_underlying ht, goInt]
    show (do let d ← resolve ρ ⟨.builtin .len, #[x], #[T]⟩ ty; invoke d.target d.args).run P w = _
    simp only [resolve, invoke, pure_bind, builtin]
    rw [show (#[x] : Array Operand).map ρ = #[ρ x] by simp, Sem.run_bind, hr]
    rfl, fun _ _ => rfl⟩
/-! calls of function values, sums -/
theorem pI_wrap {n : Int} (h : -9223372036854775808 ≤ n ∧ n ≤ 9223372036854775807) : ∀ w v, pEq (.int .i64 (IntKind.i64.wrap n)) w v → pI n w v := fun _ _ e => by rw [IntWalk.i64_in n h] at e; exact e
end
/-- Tables told anew. -/
def GConv (G : List Ent) : List Ent → Prop
  | [] => True
  | e :: es => (e.tag = none ∧ e.till = none ∧ ∃ (k : Nat) (p : Pred), G[k]? = some ⟨none, none, e.slot, p⟩ ∧ ∀ w v, p w v → e.p w v) ∧ GConv G es
def VConv (V : List Vr) : List Vr → Prop
  | [] => True
  | x :: xs => (∃ (k : Nat) (kd : Kd) (p : Rel), V[k]? = some ⟨x.id, x.slot, none, none, kd, x.T, x.n, x.agg, p, []⟩ ∧ (x.born = none ∧ x.dead = none ∧ x.st = []) ∧ kd = x.kd ∧ ∀ F w v, p F w v → x.c0 F w v) ∧ VConv V xs
theorem GConv.get {G : List Ent} : ∀ {G' : List Ent}, GConv G G' → ∀ e, e ∈ G' → e.tag = none ∧ e.till = none ∧ ∃ (k : Nat) (p : Pred), G[k]? = some ⟨none, none, e.slot, p⟩ ∧ ∀ w v, p w v → e.p w v := by
  intro G'
  induction G' with
  | nil => intro _ e he; cases he
  | cons f G' ih =>
    intro h e he
    rcases List.mem_cons.1 he with rfl | he
    · exact h.1
    · exact ih h.2 e he
theorem VConv.get {V : List Vr} : ∀ {V' : List Vr}, VConv V V' → ∀ x, x ∈ V' → ∃ (k : Nat) (kd : Kd) (p : Rel), V[k]? = some ⟨x.id, x.slot, none, none, kd, x.T, x.n, x.agg, p, []⟩ ∧ (x.born = none ∧ x.dead = none ∧ x.st = []) ∧ kd = x.kd ∧ ∀ F w v, p F w v → x.c0 F w v := by
  intro V'
  induction V' with
  | nil => intro _ x hx; cases hx
  | cons f V' ih =>
    intro h x hx
    rcases List.mem_cons.1 hx with rfl | hx
    · exact h.1
    · exact ih h.2 x hx
theorem Inv.conv {c : Cfg} {V V' : List Vr} {A : List Al} {G G' : List Ent} {a : Act} {w : World} (h : Inv c V A G none_ a w) (hV : VConv V V') (hG : GConv G G') : Inv c V' [] G' none_ a w := by
  obtain ⟨β, h⟩ := h
  have eo : ∀ k o, own c V' none_ β k o → own c V none_ β k o := by
    rintro k o (h1 | ⟨x, hx, _, h2, h3⟩)
    · exact .inl h1
    · obtain ⟨j, kd, p, hj, _, hk, _⟩ := hV.get x hx
      subst hk
      exact .inr ⟨_, List.mem_of_getElem? hj, rfl, h2, h3⟩
  refine ⟨β, h.size, h.defers, h.below, h.old, ?_, ?_, (fun p hp => by cases hp), ?_⟩
  · intro x hx _
    obtain ⟨j, kd, p, hj, ⟨hb, hdd, hs⟩, hkd, hp⟩ := hV.get x hx
    subst hkd
    have hv := h.var _ (List.mem_of_getElem? hj) rfl
    rcases kd_cases x.kd with hk | ⟨m, sz, hk⟩ | hk
    · obtain ⟨g, h1, h2, h3⟩ := (vrOk_blk (x := ⟨x.id, x.slot, none, none, x.kd, x.T, x.n, x.agg, p, []⟩) hk).1 hv
      obtain ⟨cs, h4, h5, h6, h7⟩ := h3.held
      refine (vrOk_blk hk).2 ⟨g, h1, h2, h3.new, cs, h4, h5, h6, ?_⟩
      rw [hs]
      exact (h7.sub fun k o _ hk => eo k o hk).imp fun w => hp _ w _
    · exact (vrOk_grow hk).2 ((vrOk_grow (x := ⟨x.id, x.slot, none, none, x.kd, x.T, x.n, x.agg, p, []⟩) hk).1 hv)
    · obtain ⟨h1, h2⟩ := (vrOk_obj (x := ⟨x.id, x.slot, none, none, x.kd, x.T, x.n, x.agg, p, []⟩) hk).1 hv
      refine (vrOk_obj hk).2 ⟨h1, ?_⟩
      rw [hs]
      exact (h2.sub fun k o _ h => ⟨eo k o h.1, h.2⟩).imp fun w => hp _ w _
  · intro x y g hx hy _ _ hne
    obtain ⟨j, kd, p, hj, _⟩ := hV.get x hx
    obtain ⟨j', kd', p', hj', _⟩ := hV.get y hy
    have := h.apart _ _ g (List.mem_of_getElem? hj) (List.mem_of_getElem? hj') rfl rfl hne
    exact this
  · intro e he _ _
    obtain ⟨_, _, k, p, hk, hp⟩ := hG.get e he
    exact ((h.ent _ (List.mem_of_getElem? hk) rfl rfl).sub fun k o _ hk => eo k o hk).imp fun w => hp w _
end Wx

namespace Wx
open Go Go.RowKit

theorem wrap_n64 {n : Nat} (h : n < 2 ^ 64) : IntKind.u64.wrap (n : Int) = (n : Int) := by
  have e : IntKind.u64.wrap (n : Int) = (n : Int) % 2 ^ 64 := by simp [IntKind.wrap, IntKind.signed, IntKind.bits]
  rw [e]
  have h' : (n : Int) < 2 ^ 64 := by exact_mod_cast h
  exact Int.emod_eq_of_lt (Int.natCast_nonneg n) h'
theorem bv_nat (n : Nat) : BitVec.ofInt 64 (n : Int) = BitVec.ofNat 64 n := BitVec.ofInt_natCast 64 n
theorem bv_toNat {n : Nat} (h : n < 2 ^ 64) : (BitVec.ofNat 64 n).toNat = n := by rw [BitVec.toNat_ofNat]; exact Nat.mod_eq_of_lt h
theorem and_maskN {n k : Nat} (hn : n < 2 ^ 64) (hk : k ≤ 64) : (BitVec.ofInt 64 (n : Int) &&& BitVec.ofInt 64 ((2 ^ k - 1 : Nat) : Int)).toNat = n % 2 ^ k := by
  have h1 : 2 ^ k - 1 < 2 ^ 64 := by
    have : 2 ^ k ≤ 2 ^ 64 := Nat.pow_le_pow_right (by omega) hk
    have := Nat.two_pow_pos k
    omega
  rw [bv_nat, bv_nat, BitVec.toNat_and, bv_toNat hn, bv_toNat h1, Nat.and_two_pow_sub_one_eq_mod]
theorem or_disj {m q k : Nat} (hm : m < 2 ^ k) (hq : q * 2 ^ k + m < 2 ^ 64) : (BitVec.ofInt 64 (m : Int) ||| BitVec.ofInt 64 ((q * 2 ^ k : Nat) : Int)).toNat = q * 2 ^ k + m := by
  rw [bv_nat, bv_nat, BitVec.toNat_or, bv_toNat (by omega), bv_toNat (by omega), Nat.or_comm, Nat.mul_comm]
  rw [Nat.mul_comm] at hq
  exact (Nat.two_pow_add_eq_or_of_lt hm q).symm
theorem testBit_mask (i : Nat) : Nat.testBit 9218868437227405312 i = (decide (52 ≤ i) && decide (i < 63)) := by
  have e : (9218868437227405312 : Nat) = (2 ^ 11 - 1) * 2 ^ 52 := by decide
  rw [e, Nat.testBit_mul_two_pow, Nat.testBit_two_pow_sub_one]
  by_cases h : 52 ≤ i
  · simp only [h, decide_true, Bool.true_and]
    apply decide_eq_decide.2
    omega
  · simp [h]
/-- The exponent's field is taken out. -/
theorem andNot_mask {n : Nat} (hn : n < 2 ^ 63) : (BitVec.ofInt 64 (n : Int) &&& ~~~BitVec.ofInt 64 9218868437227405312).toNat = n % 2 ^ 52 := by
  have e : BitVec.ofInt 64 9218868437227405312 = BitVec.ofNat 64 9218868437227405312 := bv_nat 9218868437227405312
  rw [bv_nat, e, BitVec.toNat_and, bv_toNat (by omega), BitVec.toNat_not, bv_toNat (by decide)]
  apply Nat.eq_of_testBit_eq
  intro i
  have e2 : 2 ^ 64 - 1 - 9218868437227405312 = 2 ^ 64 - (9218868437227405312 + 1) := by decide
  rw [Nat.testBit_and, e2, Nat.testBit_two_pow_sub_succ (by decide), testBit_mask, Nat.testBit_mod_two_pow]
  by_cases h1 : i < 52
  · have h2 : ¬ 52 ≤ i := by omega
    have h3 : i < 64 := by omega
    simp [h1, h2, h3]
  · have h2 : 52 ≤ i := by omega
    by_cases h3 : i < 63
    · have h4 : i < 64 := by omega
      simp [h1, h2, h3, h4]
    · have : n.testBit i = false := Nat.testBit_lt_two_pow (Nat.lt_of_lt_of_le hn (Nat.pow_le_pow_right (by omega) (by omega)))
      simp [this, h1]
/-- The sign is taken out. -/
theorem andNot_sign {n : Nat} (hn : n < 2 ^ 64) : (BitVec.ofInt 64 (n : Int) &&& ~~~BitVec.ofInt 64 9223372036854775808).toNat = n % 2 ^ 63 := by
  have e : BitVec.ofInt 64 9223372036854775808 = BitVec.ofNat 64 9223372036854775808 := bv_nat 9223372036854775808
  rw [bv_nat, e, BitVec.toNat_and, bv_toNat hn, BitVec.toNat_not, bv_toNat (by decide)]
  have e2 : 2 ^ 64 - 1 - 9223372036854775808 = 2 ^ 63 - 1 := by decide
  rw [e2, Nat.and_two_pow_sub_one_eq_mod]
section
variable {P : Program} {ops : Array Oper} {ms : List Nat} {c : Cfg} {V : List Vr} {A : List Al} {G : List Ent} {i : Nat}
variable {d : Nat} {x y : Operand} {ty : TypeId} {pos : String} {aft : Array Edge}
def pU (n : Nat) : Pred := pEq (.int .u64 (n : Int))
theorem op_andMask {xt yt : TypeId} {n k : Nat} {m : Int} (h1 : Has ms G i x (pU n)) (h2 : Has ms G i y (pEq (.int .u64 m))) (hn : n < 2 ^ 64) (hk : k ≤ 64) (hm : m = ((2 ^ k - 1 : Nat) : Int)) (hp : Post G i (pU (n % 2 ^ k))) : OpOk P ops ms c V A G i ⟨some d, .binOp .and xt x y yt, ty, pos, aft, none⟩ := by
  refine op_bin h1 h2 (fun w => ?_) hp
  show Result.ok (Value.int .u64 (IntKind.u64.wrap ((BitVec.ofInt 64 (n : Int) &&& BitVec.ofInt 64 m).toNat : Int))) w = _
  rw [hm, and_maskN hn hk, wrap_n64 (Nat.lt_of_le_of_lt (Nat.mod_le _ _) hn)]
theorem op_orDisj {xt yt : TypeId} {m q k r : Nat} {z : Int} (h1 : Has ms G i x (pU m)) (h2 : Has ms G i y (pEq (.int .u64 z))) (hz : z = ((q * 2 ^ k : Nat) : Int)) (hm : m < 2 ^ k) (hq : q * 2 ^ k + m < 2 ^ 64) (hr : r = q * 2 ^ k + m) (hp : Post G i (pU r)) : OpOk P ops ms c V A G i ⟨some d, .binOp .or xt x y yt, ty, pos, aft, none⟩ := by
  refine op_bin h1 h2 (fun w => ?_) hp
  show Result.ok (Value.int .u64 (IntKind.u64.wrap ((BitVec.ofInt 64 (m : Int) ||| BitVec.ofInt 64 z).toNat : Int))) w = _
  rw [hz, or_disj hm hq, wrap_n64 hq, hr]
theorem op_andNot {xt yt : TypeId} {n r : Nat} {m : Int} (h1 : Has ms G i x (pU n)) (h2 : Has ms G i y (pEq (.int .u64 m))) (hr : (BitVec.ofInt 64 (n : Int) &&& ~~~BitVec.ofInt 64 m).toNat = r) (hn : r < 2 ^ 64) (hp : Post G i (pU r)) : OpOk P ops ms c V A G i ⟨some d, .binOp .andNot xt x y yt, ty, pos, aft, none⟩ := by
  refine op_bin h1 h2 (fun w => ?_) hp
  show Result.ok (Value.int .u64 (IntKind.u64.wrap ((BitVec.ofInt 64 (n : Int) &&& ~~~BitVec.ofInt 64 m).toNat : Int))) w = _
  rw [hr, wrap_n64 hn]
theorem op_shr {xt yt : TypeId} {n s : Nat} {yk : IntKind} (h1 : Has ms G i x (pU n)) (h2 : Has ms G i y (pEq (.int yk (s : Int)))) (hs : s ≤ 64) (hp : Post G i (pU (n / 2 ^ s))) : OpOk P ops ms c V A G i ⟨some d, .binOp .shr xt x y yt, ty, pos, aft, none⟩ := by
  refine op_bin h1 h2 (fun w => ?_) hp
  show (Op.shift .shr .u64 (n : Int) yk (s : Int)).run P w = _
  unfold Op.shift
  rw [if_neg (by omega)]
  have e : min ((s : Int)).toNat IntKind.u64.bits = s := by show min ((s : Int)).toNat 64 = s; omega
  simp only [e, Sem.run_pure]
  have e2 : ((n : Int)).fdiv (2 ^ s) = ((n / 2 ^ s : Nat) : Int) := by
    rw [Int.fdiv_eq_ediv_of_nonneg _ (by exact Int.le_of_lt (Int.pow_pos (by omega)))]
    simp
  rw [e2]
theorem op_shl {xt yt : TypeId} {n s : Nat} {yk : IntKind} (h1 : Has ms G i x (pU n)) (h2 : Has ms G i y (pEq (.int yk (s : Int)))) (hs : s ≤ 64) (hn : n * 2 ^ s < 2 ^ 64) (hp : Post G i (pU (n * 2 ^ s))) : OpOk P ops ms c V A G i ⟨some d, .binOp .shl xt x y yt, ty, pos, aft, none⟩ := by
  refine op_bin h1 h2 (fun w => ?_) hp
  show (Op.shift .shl .u64 (n : Int) yk (s : Int)).run P w = _
  unfold Op.shift
  rw [if_neg (by omega)]
  have e : min ((s : Int)).toNat IntKind.u64.bits = s := by show min ((s : Int)).toNat 64 = s; omega
  simp only [e, Sem.run_pure]
  have e2 : (n : Int) * 2 ^ s = ((n * 2 ^ s : Nat) : Int) := by simp
  rw [e2, wrap_n64 hn]
end
end Wx

namespace Wx
open Ieee

theorem log2_pow {m : Nat} (h : m ≠ 0) (k : Nat) : (m * 2 ^ k).log2 = m.log2 + k := by
  have h0 : m * 2 ^ k ≠ 0 := Nat.mul_ne_zero h (Nat.ne_of_gt (Nat.two_pow_pos k))
  have h1 : 2 ^ m.log2 ≤ m := (Nat.le_log2 h).1 (Nat.le_refl _)
  have h2 : m < 2 ^ (m.log2 + 1) := (Nat.log2_lt h).1 (Nat.lt_succ_self _)
  apply Nat.le_antisymm
  · refine Nat.lt_succ_iff.1 ((Nat.log2_lt h0).2 ?_)
    calc m * 2 ^ k < 2 ^ (m.log2 + 1) * 2 ^ k := Nat.mul_lt_mul_of_pos_right h2 (Nat.two_pow_pos k)
      _ = 2 ^ (m.log2 + k + 1) := by rw [← Nat.pow_add]; congr 1; omega
  · refine (Nat.le_log2 h0).2 ?_
    calc 2 ^ (m.log2 + k) = 2 ^ m.log2 * 2 ^ k := Nat.pow_add _ _ _
      _ ≤ m * 2 ^ k := Nat.mul_le_mul_right _ h1
theorem cut_scale (neg : Bool) {n : Nat} (h : n ≠ 0) (d k : Nat) : Toward.even.cut neg (n * 2 ^ k) (d + k) = Toward.even.cut neg n d := by
  have hp := Nat.two_pow_pos k
  have hg : (1 <<< min (d + k) ((n * 2 ^ k).log2 + 2)) = (1 <<< min d (n.log2 + 2)) * 2 ^ k := by
    rw [log2_pow h, show min (d + k) (n.log2 + k + 2) = min d (n.log2 + 2) + k by omega, Nat.one_shiftLeft, Nat.one_shiftLeft, Nat.pow_add]
  simp only [Toward.cut, hg]
  generalize (1 <<< min d (n.log2 + 2)) = g
  have e1 : n * 2 ^ k / (g * 2 ^ k) = n / g := Nat.mul_div_mul_right _ _ hp
  have e2 : n * 2 ^ k % (g * 2 ^ k) = n % g * 2 ^ k := Nat.mul_mod_mul_right _ _ _
  rw [e1, e2]
  have e3 : decide (g * 2 ^ k < 2 * (n % g * 2 ^ k)) = decide (g < 2 * (n % g)) := by
    apply decide_eq_decide.2
    rw [← Nat.mul_assoc]
    exact Nat.mul_lt_mul_right hp
  have e4 : (g * 2 ^ k == 2 * (n % g * 2 ^ k)) = (g == 2 * (n % g)) := by
    rw [← Nat.mul_assoc, Bool.eq_iff_iff, beq_iff_eq, beq_iff_eq]
    exact Nat.mul_left_inj (Nat.ne_of_gt hp)
  rw [e3, e4]
theorem cut_none (neg : Bool) (n : Nat) : Toward.even.cut neg n 0 = n := by
  simp only [Toward.cut, Nat.zero_min, Nat.shiftLeft_zero, Nat.div_one, Nat.mod_one]
  simp
theorem cut_exact (neg : Bool) {n : Nat} (h : n ≠ 0) (k : Nat) : Toward.even.cut neg (n * 2 ^ k) k = n := by
  have := cut_scale neg h 0 k
  rw [Nat.zero_add] at this
  rw [this, cut_none]
/-- The nearest word hangs on the number alone. -/
theorem nearest_scale (f : Format) (neg : Bool) (m : Nat) (e : Int) (k : Nat) : f.nearest neg (m * 2 ^ k) (e - k) = f.nearest neg m e := by
  by_cases h : m = 0
  · subst h; simp [Format.nearest]
  have h0 : m * 2 ^ k ≠ 0 := Nat.mul_ne_zero h (Nat.ne_of_gt (Nat.two_pow_pos k))
  unfold Format.nearest
  rw [if_neg h, if_neg h0, log2_pow h]
  have e1 : (e - k : Int) + ((m.log2 + k : Nat) : Int) - f.fractionBits = e + m.log2 - f.fractionBits := by omega
  rw [e1]
  generalize max (e + (m.log2 : Int) - f.fractionBits) f.leastPlace = last
  have key : Toward.even.cut neg ((m * 2 ^ k) <<< (e - k - last).toNat) (last - (e - k)).toNat = Toward.even.cut neg (m <<< (e - last).toNat) (last - e).toNat := by
    rw [Nat.shiftLeft_eq, Nat.shiftLeft_eq]
    rcases Int.le_total last e with h1 | h1
    · rcases Int.le_total last (e - k) with h2 | h2
      · have a1 : (last - (e - k)).toNat = 0 := by omega
        have a2 : (last - e).toNat = 0 := by omega
        rw [a1, a2, cut_none, cut_none, Nat.mul_assoc, ← Nat.pow_add]
        congr 2; omega
      · have a1 : (e - k - last).toNat = 0 := by omega
        have a2 : (last - e).toNat = 0 := by omega
        rw [a1, a2, Nat.pow_zero, Nat.mul_one, cut_none]
        obtain ⟨j, hj⟩ : ∃ j : Nat, k = (e - last).toNat + j := ⟨k - (e - last).toNat, by omega⟩
        have a3 : (last - (e - k)).toNat = j := by omega
        rw [a3]
        have a4 : m * 2 ^ k = m * 2 ^ (e - last).toNat * 2 ^ j := by rw [Nat.mul_assoc, ← Nat.pow_add, ← hj]
        rw [a4]
        exact cut_exact neg (Nat.mul_ne_zero h (Nat.ne_of_gt (Nat.two_pow_pos _))) j
    · have a1 : (e - k - last).toNat = 0 := by omega
      have a2 : (e - last).toNat = 0 := by omega
      have a3 : (last - (e - k)).toNat = (last - e).toNat + k := by omega
      rw [a1, a2, a3, Nat.pow_zero, Nat.mul_one, Nat.mul_one]
      exact cut_scale neg h _ k
  simp only [key]
/-- A number that the format has: its word reads as it. -/
theorem read_nearest (f : Format) (neg : Bool) {m : Nat} {e : Int} (h0 : m ≠ 0) (h1 : m.log2 ≤ f.fractionBits) (h2 : f.leastPlace ≤ e) (h3 : e + m.log2 - f.fractionBits - f.leastPlace + 2 < 2 ^ f.exponentBits) (h4 : 2 < 2 ^ f.exponentBits) :
    ∃ k : Nat, f.read (f.nearest neg m e) = .number neg (m * 2 ^ k) (e - k) ∧ (m * 2 ^ k).log2 ≤ f.fractionBits := by
  unfold Format.nearest
  rw [if_neg h0]
  obtain ⟨last, hl⟩ : ∃ last, last = max (e + (m.log2 : Int) - f.fractionBits) f.leastPlace := ⟨_, rfl⟩
  rw [← hl]
  have hle : last ≤ e := by omega
  have hge : f.leastPlace ≤ last := by omega
  obtain ⟨k, hk⟩ : ∃ k : Nat, e - last = k := ⟨(e - last).toNat, by omega⟩
  have a1 : (e - last).toNat = k := by omega
  have a2 : (last - e).toNat = 0 := by omega
  simp only [a1, a2, cut_none, Nat.shiftLeft_eq]
  obtain ⟨q, hq⟩ : ∃ q : Nat, last - f.leastPlace = q := ⟨(last - f.leastPlace).toNat, by omega⟩
  have a3 : (last - f.leastPlace).toNat = q := by omega
  simp only [a3]
  have hb : f.binade = 2 ^ f.fractionBits := rfl
  have hbp : 0 < f.binade := Nat.two_pow_pos _
  have hm0 : m * 2 ^ k ≠ 0 := Nat.mul_ne_zero h0 (Nat.ne_of_gt (Nat.two_pow_pos k))
  have hlog := log2_pow h0 k
  have hup : m * 2 ^ k < 2 * f.binade := by
    have : (m * 2 ^ k).log2 < f.fractionBits + 1 := by rw [hlog]; omega
    have := (Nat.log2_lt hm0).1 this
    rw [hb]; rw [Nat.pow_succ] at this; omega
  have hlo : 0 < q → f.binade ≤ m * 2 ^ k := by
    intro hq0
    rw [hb]
    refine (Nat.le_log2 hm0).1 ?_
    rw [hlog]; omega
  have hE : ((2 ^ f.exponentBits : Nat) : Int) = (2 : Int) ^ f.exponentBits := by simp
  have hq2 : q + 2 < 2 ^ f.exponentBits := by
    rcases Nat.eq_zero_or_pos q with hz | hz
    · rw [hz]; exact h4
    · have : (q : Int) + 2 < ((2 ^ f.exponentBits : Nat) : Int) := by rw [hE]; omega
      omega
  generalize hR : m * 2 ^ k = r at *
  have hinf : q * f.binade + r < f.infRung := by
    unfold Format.infRung
    have : (q + 2) * f.binade ≤ (2 ^ f.exponentBits - 1) * f.binade := Nat.mul_le_mul_right _ (by omega)
    rw [Nat.add_mul] at this
    omega
  rw [Nat.min_eq_left (Nat.le_of_lt hinf)]
  have hsw : f.infRung < f.signWeight := by
    unfold Format.infRung Format.signWeight
    rw [Nat.pow_add, hb]
    exact Nat.mul_lt_mul_of_pos_right (by omega) (Nat.two_pow_pos _)
  have hlt : q * f.binade + r < f.signWeight := Nat.lt_trans hinf hsw
  have hswp : 0 < f.signWeight := Nat.two_pow_pos _
  have hneg : (f.word neg (q * f.binade + r) / f.signWeight % 2 == 1) = neg ∧ f.word neg (q * f.binade + r) % f.signWeight = q * f.binade + r := by
    unfold Format.word
    cases neg with
    | true =>
      simp only [if_true]
      rw [Nat.add_div_left _ hswp, Nat.div_eq_of_lt hlt, Nat.add_mod_left, Nat.mod_eq_of_lt hlt]
      exact ⟨rfl, rfl⟩
    | false =>
      simp only [Bool.false_eq_true, if_false]
      rw [Nat.div_eq_of_lt hlt, Nat.mod_eq_of_lt hlt]
      exact ⟨rfl, rfl⟩
  refine ⟨k, ?_, by rw [hR]; refine Nat.lt_succ_iff.1 ((Nat.log2_lt hm0).2 ?_); rw [Nat.pow_succ]; rw [hb] at hup; omega⟩
  unfold Format.read
  simp only [hneg.1, hneg.2]
  rw [hR]
  by_cases hs : q * f.binade + r < f.binade
  · have hq0 : q = 0 := by
      rcases Nat.eq_zero_or_pos q with hz | hz
      · exact hz
      · have : 1 * f.binade ≤ q * f.binade := Nat.mul_le_mul_right _ hz
        omega
    rw [if_pos hs, hq0, Nat.zero_mul, Nat.zero_add]
    congr 1
    omega
  · rw [if_neg hs, if_pos hinf]
    have hrb : f.binade ≤ r := by
      rcases Nat.eq_zero_or_pos q with hz | hz
      · rw [hz, Nat.zero_mul, Nat.zero_add] at hs; omega
      · exact hlo hz
    have e1 : (q * f.binade + r) % f.binade = r - f.binade := by
      rw [Nat.add_comm, Nat.add_mul_mod_self_right]
      rw [Nat.mod_eq_sub_mod hrb, Nat.mod_eq_of_lt (by omega)]
    have e2 : (q * f.binade + r) / f.binade = q + 1 := by
      rw [Nat.add_comm, Nat.add_mul_div_right _ _ hbp]
      have : r / f.binade = 1 := Nat.div_eq_of_lt_le (by omega) (by omega)
      omega
    rw [e1, e2]
    congr 1 <;> omega
/-- A number of float64: of at most 53 bits, a multiple of the least one, below 2^1024. -/
structure InDouble (m : Nat) (e : Int) : Prop where
  pos : m ≠ 0
  bits : m.log2 ≤ 52
  least : -1074 ≤ e
  top : e + m.log2 ≤ 1023
theorem InDouble.read {m : Nat} {e : Int} (h : InDouble m e) (neg : Bool) : ∃ k : Nat, double.read (double.nearest neg m e) = .number neg (m * 2 ^ k) (e - k) ∧ (m * 2 ^ k).log2 ≤ 52 := by
  have hl : double.leastPlace = -1074 := by decide
  have he : (2 : Int) ^ double.exponentBits = 2048 := by decide
  have hf : (double.fractionBits : Int) = 52 := rfl
  refine read_nearest double neg h.pos h.bits (by rw [hl]; exact h.least) ?_ (by decide)
  rw [hl, he, hf]
  have := h.top
  omega
theorem read_two : double.read 4611686018427387904 = .number false (2 ^ 52) (-51) := by decide +kernel
theorem read_one : double.read 4607182418800017408 = .number false (2 ^ 52) (-52) := by decide +kernel
theorem read_none : double.read 13830554455654793216 = .number true (2 ^ 52) (-52) := by decide +kernel
theorem double_twice {m : Nat} {e : Int} (h : InDouble m e) (neg : Bool) : double.mul (double.nearest neg m e) 4611686018427387904 = some (double.nearest neg m (e + 1)) := by
  obtain ⟨k, h1, _⟩ := h.read neg
  unfold Format.mul
  rw [h1, read_two]
  simp only [Datum.product, Option.map_some, Format.write, Bool.xor_false]
  have := nearest_scale double neg m (e + 1) (k + 52)
  rw [Nat.pow_add, ← Nat.mul_assoc] at this
  rw [← this]
  congr 2
  omega
theorem double_half {m : Nat} {e : Int} (h : InDouble m e) (neg : Bool) : double.div (double.nearest neg m e) 4611686018427387904 = some (double.nearest neg m (e - 1)) := by
  obtain ⟨k, h1, h2⟩ := h.read neg
  unfold Format.div
  rw [h1, read_two]
  have hl : (2 ^ 52 : Nat).log2 = 52 := by decide +kernel
  have hm0 : m * 2 ^ k ≠ 0 := Nat.mul_ne_zero h.pos (Nat.ne_of_gt (Nat.two_pow_pos k))
  obtain ⟨more, hmore⟩ : ∃ more, double.fractionBits + 2 + (2 ^ 52 : Nat).log2 - (m * 2 ^ k).log2 = 52 + more := ⟨54 - (m * 2 ^ k).log2, by rw [hl]; show 52 + 2 + 52 - _ = _; omega⟩
  simp only [Datum.quotient, hmore, Nat.shiftLeft_eq]
  rw [if_neg (Nat.ne_of_gt (Nat.two_pow_pos 52))]
  have e1 : m * 2 ^ k * 2 ^ (52 + more) = m * 2 ^ k * 2 ^ more * 2 ^ 52 := by rw [Nat.add_comm 52, Nat.pow_add, ← Nat.mul_assoc]
  have e2 : m * 2 ^ k * 2 ^ (52 + more) / 2 ^ 52 = m * 2 ^ k * 2 ^ more := by rw [e1]; exact Nat.mul_div_cancel _ (Nat.two_pow_pos 52)
  have e3 : m * 2 ^ k * 2 ^ (52 + more) % 2 ^ 52 = 0 := by rw [e1]; exact Nat.mul_mod_left _ _
  rw [e2, e3]
  simp only [Option.map_some, Format.write, Bool.xor_false, bne_self_eq_false, Bool.toNat_false, Nat.add_zero]
  have := nearest_scale double neg m (e - 1) (1 + (k + more))
  rw [Nat.pow_add, Nat.pow_one, Nat.pow_add] at this
  rw [← this]
  congr 2
  · rw [Nat.mul_assoc, ← Nat.mul_assoc 2 m, Nat.mul_comm 2 m, Nat.mul_assoc m 2]
  · omega
theorem double_sign {m : Nat} {e : Int} (h : InDouble m e) (s neg : Bool) : double.mul (if s then 13830554455654793216 else 4607182418800017408) (double.nearest neg m e) = some (double.nearest (s ^^ neg) m e) := by
  obtain ⟨k, h1, _⟩ := h.read neg
  have key : double.read (if s then 13830554455654793216 else 4607182418800017408) = .number s (2 ^ 52) (-52) := by
    cases s
    · exact read_one
    · exact read_none
  unfold Format.mul
  rw [h1, key]
  simp only [Datum.product, Option.map_some, Format.write]
  have := nearest_scale double (s ^^ neg) m e (52 + k)
  rw [Nat.pow_add, ← Nat.mul_assoc, Nat.mul_comm m, Nat.mul_assoc] at this
  rw [← this]
  congr 2
  omega
/-- A float64's number as a float32. -/
theorem to_single {m : Nat} {e : Int} (h : InDouble m e) (neg : Bool) : single.write (double.read (double.nearest neg m e)) = single.nearest neg m e := by
  obtain ⟨k, h1, _⟩ := h.read neg
  rw [h1]
  exact nearest_scale single neg m e k
end Wx
