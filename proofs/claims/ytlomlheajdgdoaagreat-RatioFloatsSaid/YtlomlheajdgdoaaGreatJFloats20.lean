import Derived.Handy
import Derived.IntWalk
import Derived.Deep.MidRow
import Derived.Laws.Tables
import Derived.Test.YtlomlheajdgdoaaGreatJFloats0
import Derived.Test.YtlomlheajdgdoaaGreatCFloatsMem
import Derived.Test.YtlomlheajdgdoaaGreatCFloatsInv
import Derived.Test.YtlomlheajdgdoaaGreatCFloatsSem
import Derived.Test.YtlomlheajdgdoaaGreatCFloatsSemOps
import Derived.Test.YtlomlheajdgdoaaGreatCFloatsSemMem
import Derived.Test.YtlomlheajdgdoaaGreatCFloatsSemCode
import Derived.Test.YtlomlheajdgdoaaGreatJFloats19
import Derived.KernelRfl
import Derived.Test.YtlomlheajdgdoaaGreatProg
import Derived.Test.YtlomlheajdgdoaaGreatJFloats2
import Derived.Test.YtlomlheajdgdoaaGreatJFloats14
import Derived.Test.YtlomlheajdgdoaaGreatCFloatsLeft
import Derived.Test.YtlomlheajdgdoaaGreatJFloats10
import Derived.Test.YtlomlheajdgdoaaGreatCFloatsRat1
import Derived.Test.YtlomlheajdgdoaaGreatJFloats12
namespace Wx
open Go Go.RowKit

def pPtr (sz : Nat) (agg : Bool) (p : Pred) : Pred := fun w v => ∃ (b o : Nat) (cs : List Value), v = .pointer (some ⟨b, o, none⟩) ∧ cs.length = sz ∧ (∀ j u, cs[j]? = some u → w.cell? ⟨b, o + j, none⟩ = some u) ∧ p w (wrapV agg cs)
def pRow (sz : Nat) (agg : Bool) (n : Nat) (f : Nat → Pred) : Pred := fun w v => ∃ (A : Option Addr) (cap : Nat), v = .slice A n cap ∧ n ≤ cap ∧ cap ≤ maxLen ∧
  (0 < n → ∃ b o : Nat, A = some ⟨b, o, none⟩ ∧ ∀ i, i < n → ∃ cs : List Value, cs.length = sz ∧ (∀ j u, cs[j]? = some u → w.cell? ⟨b, o + i * sz + j, none⟩ = some u) ∧ f i w (wrapV agg cs))
structure SlTy (P : Program) (T : TypeId) (E : TypeId) (sz : Nat) : Prop where
  under : P.underlying T = some (.slice E)
  size : ∀ w, (Go.sizeOf E).run P w = .ok sz w
section
variable {P : Program} {ops : Array Oper} {ms : List Nat} {c : Cfg} {V : List Vr} {A : List Al} {G : List Ent} {i : Nat} {L : Nat → Bool} {β : Nat → Nat → Prop} {a : Act} {w : World} {o : Oper}
variable {d : Nat} {x y z : Operand} {ty : TypeId} {pos : String} {aft : Array Edge}
theorem run_indexAt {T E : TypeId} {sz b off n cap : Nat} {m : Int} (ht : SlTy P T E sz) (h0 : 0 ≤ m) (h1 : m < n) : (Instr.indexAt T (.slice (some ⟨b, off, none⟩) n cap) (.int .i64 m)).run P w = .ok (.pointer (some ⟨b, off + m.toNat * sz, none⟩)) w := by
  have hu : (underlying T).run P w = .ok (.slice E) w := run_underlying ht.under w
  simp only [Instr.indexAt, asIntOf, pure_bind, Sem.run_bind, hu, Result.andThen_ok]
  rw [if_pos ⟨h0, h1⟩]
  simp only [Sem.run_bind, ht.size, Result.andThen_ok, Sem.run_pure, Addr.add_mid]
theorem op_indexRow {T E : TypeId} {sz n : Nat} {agg : Bool} {f : Nat → Pred} {m : Int} (h : Has ms G i x (pRow sz agg n f)) (hy : Has ms G i y (pI m)) (ht : SlTy P T E sz) (h0 : 0 ≤ m) (h1 : m < n) (hA : (A.all fun q => q.tag != some i) = true) (hp : Post G i (pPtr sz agg (f m.toNat))) :
    OpOk P ops ms c V A G i ⟨some d, .indexAddr T x y, ty, pos, aft, none⟩ :=
  op_val rfl rfl rfl (.inr hA) hp fun L β a w hI hd => by
    have hr := h.spec hI hd
    have hi : a.eval y = .int .i64 m := (hy.spec hI hd).out
    obtain ⟨A', cap, e, hn, hcap, hel⟩ := hr.out
    obtain ⟨b, off, rfl, _⟩ := hel (by omega)
    refine ⟨.pointer (some ⟨b, off + m.toNat * sz, none⟩), w, ?_, Below.refl _ _, fun w' he => ?_⟩
    · show (do pure (Next.value (← Instr.indexAt T (a.eval x) (a.eval y)))).run P w = _
      rw [e, hi, Sem.run_bind, run_indexAt ht h0 h1]
      rfl
    · obtain ⟨A2, cap2, e2, _, _, hel2⟩ := hr w' he
      rw [e] at e2
      injection e2 with e2
      obtain ⟨b2, off2, e3, hel3⟩ := hel2 (by omega)
      rw [← e2] at e3
      injection e3 with e3
      injection e3 with e4 e5
      subst e4 e5
      obtain ⟨cs, h2, h3, h4⟩ := hel3 m.toNat (by omega)
      exact ⟨_, _, cs, rfl, h2, h3, h4⟩
theorem op_len {T E : TypeId} {sz n : Nat} {agg : Bool} {f : Nat → Pred} (h : Has ms G i x (pRow sz agg n f)) (ht : P.underlying T = some (.slice E)) (hp : Post G i (pI (n : Int))) :
    OpOk P ops ms c V A G i ⟨some d, .call ⟨.builtin .len, #[x], #[T]⟩, ty, pos, aft, none⟩ :=
  op_val1 rfl rfl rfl rfl h hp fun ρ w h => ⟨.int .i64 n, by
    obtain ⟨A', cap, e, _⟩ := h
    have hr : (Builtin.len_ #[T] ty #[ρ x]).run P w = .ok (.int .i64 n) w := by
      rw [e]
      unfold Builtin.len_
      simp [run_underlying ht, goInt]
    show (do let d ← resolve ρ ⟨.builtin .len, #[x], #[T]⟩ ty; invoke d.target d.args).run P w = _
    simp only [resolve, invoke, pure_bind, builtin]
    rw [show (#[x] : Array Operand).map ρ = #[ρ x] by simp, Sem.run_bind, hr]
    rfl, fun _ _ => rfl⟩
theorem pI_wrap {n : Int} (h : -9223372036854775808 ≤ n ∧ n ≤ 9223372036854775807) : ∀ w v, pEq (.int .i64 (IntKind.i64.wrap n)) w v → pI n w v := fun _ _ e => by rw [IntWalk.i64_in n h] at e; exact e
end
def GConv (G : List Ent) : List Ent → Prop
  | [] => True
  | e :: es => (e.tag = none ∧ e.till = none ∧ ∃ (k : Nat) (p : Pred), G[k]? = some ⟨none, none, e.slot, p⟩ ∧ ∀ w v, p w v → e.p w v) ∧ GConv G es
def VConv (V : List Vr) : List Vr → Prop
  | [] => True
  | x :: xs => (∃ (k : Nat) (kd : Kd) (p : Rel), V[k]? = some ⟨x.id, x.slot, none, none, kd, x.T, x.n, x.agg, p, []⟩ ∧ (x.born = none ∧ x.dead = none ∧ x.st = []) ∧ kd = x.kd ∧ ∀ F w v, p F w v → x.c0 F w v) ∧ VConv V xs
theorem GConv.get {G : List Ent} : ∀ {G' : List Ent}, GConv G G' → ∀ e, e ∈ G' → e.tag = none ∧ e.till = none ∧ ∃ (k : Nat) (p : Pred), G[k]? = some ⟨none, none, e.slot, p⟩ ∧ ∀ w v, p w v → e.p w v := by
  intro G'
  induction G' with
  | nil => intro _ e he; cases he
  | cons f G' ih =>
    intro h e he
    rcases List.mem_cons.1 he with rfl | he
    · exact h.1
    · exact ih h.2 e he
theorem VConv.get {V : List Vr} : ∀ {V' : List Vr}, VConv V V' → ∀ x, x ∈ V' → ∃ (k : Nat) (kd : Kd) (p : Rel), V[k]? = some ⟨x.id, x.slot, none, none, kd, x.T, x.n, x.agg, p, []⟩ ∧ (x.born = none ∧ x.dead = none ∧ x.st = []) ∧ kd = x.kd ∧ ∀ F w v, p F w v → x.c0 F w v := by
  intro V'
  induction V' with
  | nil => intro _ x hx; cases hx
  | cons f V' ih =>
    intro h x hx
    rcases List.mem_cons.1 hx with rfl | hx
    · exact h.1
    · exact ih h.2 x hx
theorem Inv.conv {c : Cfg} {V V' : List Vr} {A : List Al} {G G' : List Ent} {a : Act} {w : World} (h : Inv c V A G none_ a w) (hV : VConv V V') (hG : GConv G G') : Inv c V' [] G' none_ a w := by
  obtain ⟨β, h⟩ := h
  have eo : ∀ k o, own c V' none_ β k o → own c V none_ β k o := by
    rintro k o (h1 | ⟨x, hx, _, h2, h3⟩)
    · exact .inl h1
    · obtain ⟨j, kd, p, hj, _, hk, _⟩ := hV.get x hx
      subst hk
      exact .inr ⟨_, List.mem_of_getElem? hj, rfl, h2, h3⟩
  refine ⟨β, h.size, h.defers, h.below, h.old, ?_, ?_, (fun p hp => by cases hp), ?_⟩
  · intro x hx _
    obtain ⟨j, kd, p, hj, ⟨hb, hdd, hs⟩, hkd, hp⟩ := hV.get x hx
    subst hkd
    have hv := h.var _ (List.mem_of_getElem? hj) rfl
    rcases kd_cases x.kd with hk | ⟨m, sz, hk⟩ | hk
    · obtain ⟨g, h1, h2, h3⟩ := (vrOk_blk (x := ⟨x.id, x.slot, none, none, x.kd, x.T, x.n, x.agg, p, []⟩) hk).1 hv
      obtain ⟨cs, h4, h5, h6, h7⟩ := h3.held
      refine (vrOk_blk hk).2 ⟨g, h1, h2, h3.new, cs, h4, h5, h6, ?_⟩
      rw [hs]
      exact (h7.sub fun k o _ hk => eo k o hk).imp fun w => hp _ w _
    · exact (vrOk_grow hk).2 ((vrOk_grow (x := ⟨x.id, x.slot, none, none, x.kd, x.T, x.n, x.agg, p, []⟩) hk).1 hv)
    · obtain ⟨h1, h2⟩ := (vrOk_obj (x := ⟨x.id, x.slot, none, none, x.kd, x.T, x.n, x.agg, p, []⟩) hk).1 hv
      refine (vrOk_obj hk).2 ⟨h1, ?_⟩
      rw [hs]
      exact (h2.sub fun k o _ h => ⟨eo k o h.1, h.2⟩).imp fun w => hp _ w _
  · intro x y g hx hy _ _ hne
    obtain ⟨j, kd, p, hj, _⟩ := hV.get x hx
    obtain ⟨j', kd', p', hj', _⟩ := hV.get y hy
    have := h.apart _ _ g (List.mem_of_getElem? hj) (List.mem_of_getElem? hj') rfl rfl hne
    exact this
  · intro e he _ _
    obtain ⟨_, _, k, p, hk, hp⟩ := hG.get e he
    exact ((h.ent _ (List.mem_of_getElem? hk) rfl rfl).sub fun k o _ hk => eo k o hk).imp fun w => hp w _
end Wx

namespace Wx
open Go Go.RowKit Go.Proofs

theorem ty_Ratio : Ty Tryz.prog 29 true 3 := ⟨fun _ => by kernel_rfl, fun _ => by kernel_rfl, by decide⟩
theorem zv_Ratio : ∀ w, (zeroValue 29).run Tryz.prog w = .ok (.agg #[.bool false, .slice none 0 0, .slice none 0 0]) w := fun _ => by kernel_rfl
theorem bt_Ratio : BuildTy Tryz.prog 29 #[(0, 1), (1, 1), (2, 1)] [.bool false, .slice none 0 0, .slice none 0 0] := fun _ => by kernel_rfl
theorem fa_Ratio_0 : ∀ b o w, (Instr.fieldAt 29 (.pointer (some ⟨b, o, none⟩)) 0).run Tryz.prog w = .ok (.pointer (some ⟨b, o + 0, none⟩)) w := fun _ _ _ => by kernel_rfl
theorem fa_Ratio_1 : ∀ b o w, (Instr.fieldAt 29 (.pointer (some ⟨b, o, none⟩)) 1).run Tryz.prog w = .ok (.pointer (some ⟨b, o + 1, none⟩)) w := fun _ _ _ => by kernel_rfl
theorem fa_Ratio_2 : ∀ b o w, (Instr.fieldAt 29 (.pointer (some ⟨b, o, none⟩)) 2).run Tryz.prog w = .ok (.pointer (some ⟨b, o + 2, none⟩)) w := fun _ _ _ => by kernel_rfl
theorem ty_int : Ty Tryz.prog 3 false 1 := ⟨fun _ => by kernel_rfl, fun _ => by kernel_rfl, by decide⟩
theorem ty_bool : Ty Tryz.prog 4 false 1 := ⟨fun _ => by kernel_rfl, fun _ => by kernel_rfl, by decide⟩
theorem ty_R : Ty Tryz.prog 33 true 3 := ⟨fun _ => by kernel_rfl, fun _ => by kernel_rfl, by decide⟩
theorem zv_R : ∀ w, (zeroValue 33).run Tryz.prog w = .ok (.agg #[.bool false, .slice none 0 0, .slice none 0 0]) w := fun _ => by kernel_rfl
theorem ty_format : Ty Tryz.prog 102 true 3 := ⟨fun _ => by kernel_rfl, fun _ => by kernel_rfl, by decide⟩
theorem zv_format : ∀ w, (zeroValue 102).run Tryz.prog w = .ok (.agg #[.int .i64 0, .int .i64 0, .int .i64 0]) w := fun _ => by kernel_rfl
theorem bt_format : BuildTy Tryz.prog 102 #[(0, 1), (1, 1), (2, 1)] [.int .i64 0, .int .i64 0, .int .i64 0] := fun _ => by kernel_rfl
theorem fa_format_0 : ∀ b o w, (Instr.fieldAt 102 (.pointer (some ⟨b, o, none⟩)) 0).run Tryz.prog w = .ok (.pointer (some ⟨b, o + 0, none⟩)) w := fun _ _ _ => by kernel_rfl
theorem fa_format_1 : ∀ b o w, (Instr.fieldAt 102 (.pointer (some ⟨b, o, none⟩)) 1).run Tryz.prog w = .ok (.pointer (some ⟨b, o + 1, none⟩)) w := fun _ _ _ => by kernel_rfl
theorem fa_format_2 : ∀ b o w, (Instr.fieldAt 102 (.pointer (some ⟨b, o, none⟩)) 2).run Tryz.prog w = .ok (.pointer (some ⟨b, o + 2, none⟩)) w := fun _ _ _ => by kernel_rfl
theorem ty_limbs : Ty Tryz.prog 27 false 1 := ⟨fun _ => by kernel_rfl, fun _ => by kernel_rfl, by decide⟩
theorem ty_uint64 : Ty Tryz.prog 44 false 1 := ⟨fun _ => by kernel_rfl, fun _ => by kernel_rfl, by decide⟩
theorem sl_limbs : SlTy Tryz.prog 27 44 1 := ⟨by kernel_rfl, fun _ => by kernel_rfl⟩
end Wx

namespace Wx
open Go Go.RowKit Go.Proofs

def pNum (n : Nat) : Pred := fun w v => Num .u64 b64 w v n
theorem numlike_num (n : Nat) : Numlike (pNum n) := fun _ _ _ hM h => num_box hM (.inl rfl) h
theorem fits_num (n : Nat) : Fits 1 false (pNum n) := by
  rintro w v ⟨A, c, rfl, _⟩
  refine ⟨[_], rfl, rfl, rfl, ?_⟩
  intro u hu
  simp at hu
  subst hu
  exact ⟨noU_slice _ _ _, rfl⟩
theorem pNum_eq {m n : Nat} (h : m = n) : ∀ w v, pNum m w v → pNum n w v := fun _ _ k => h ▸ k
def ratFs (q : Rat) : List Fd := [⟨false, 1, pB (decide (q.num < 0))⟩, ⟨false, 1, pNum q.num.natAbs⟩, ⟨false, 1, pNum (denOf q.den)⟩]
theorem rat_S (q : Rat) : ∀ w v, pRat q w v → pS (ratFs q) w v := by
  rintro w v ⟨vn, vd, rfl, h1, h2⟩
  exact pS_of' (cs := [.bool (decide (q.num < 0)), vn, vd]) ⟨by simp, rfl, by simp, h1, by simp, h2, rfl⟩
theorem S_rat (q : Rat) : ∀ w v, pS (ratFs q) w v → pRat q w v := by
  rintro w v ⟨cs, rfl, hc⟩
  have hl := pCells_len hc
  match cs, hl, hc with
  | [x, y, z], _, hc =>
    obtain ⟨_, h1, _, h2, _, h3, _⟩ := hc
    have e1 : x = .bool (decide (q.num < 0)) := h1
    subst e1
    exact ⟨y, z, rfl, h2, h3⟩
theorem fits_ratS (q : Rat) : Fits 3 true (pS (ratFs q)) := fits_s (fs := ratFs q) ⟨fits_bool _, fits_num _, fits_num _, trivial⟩ rfl
theorem ret_num {w : World} {n : Nat} {e : Ending} {w' : World} (h : RetNum .u64 b64 w n e w') : Ret (pNum n) w e w' := h
theorem c_left {m j : Nat} (hj : Bd j m) (hj1 : j ≤ 1000000000) {k : Int} (hk0 : 0 ≤ k) (hk : k ≤ 1000000000) : ∀ w v1 v2, pNum m w v1 → pI k w v2 → Calls Tryz.prog 72 #[v1, v2] w (Ret (pNum (m * 2 ^ k.toNat)) w) := fun w v1 v2 h1 h2 => by
  have h2 : v2 = .int .i64 k := h2
  have e : ((k.toNat : Nat) : Int) = k := Int.toNat_of_nonneg hk0
  rw [h2]
  have := left_num w v1 m k.toNat h1 hj hj1 (by omega)
  rw [e] at this
  exact this.mono fun _ _ => ret_num
theorem c_divide {m n j : Nat} (hj : Bd j m) (hj1 : j ≤ 100000000) (h0 : 0 < n) : ∀ w v1 v2, pNum m w v1 → pNum n w v2 → Calls Tryz.prog 103 #[v1, v2] w (Ret (pTup2 (pNum (m / n)) (pNum (m % n))) w) := fun w v1 v2 h1 h2 =>
  (divide_num w v1 v2 m n h1 h2 h0 hj hj1).mono fun _ _ ⟨u1, u2, e, k1, k2, k3⟩ => ⟨_, e, ⟨u1, u2, rfl, k1, k2⟩, k3⟩
theorem c_lcmp (m n : Nat) : ∀ w v1 v2, pNum m w v1 → pNum n w v2 → Calls Tryz.prog 121 #[v1, v2] w (Ret (pI (cmpI m n)) w) := fun w v1 v2 h1 h2 => (cmp_num w v1 v2 m n h1 h2).mono fun _ _ h => ⟨_, h.1, rfl, h.2⟩
theorem c_plus {m n j k : Nat} (hj : Bd j m) (hk : Bd k n) (hj1 : j ≤ 1000000000) (hk1 : k ≤ 1000000000) : ∀ w v1 v2, pNum m w v1 → pNum n w v2 → Calls Tryz.prog 120 #[v1, v2] w (Ret (pNum (m + n)) w) := fun w v1 v2 h1 h2 => (plus_num w v1 v2 m n h1 h2 hj hk hj1 hk1).mono fun _ _ => ret_num
theorem c_under {d : Nat} (hd : 0 < d) : ∀ w v1, pNum (denOf d) w v1 → Calls Tryz.prog 62 #[v1] w (Ret (pNum d) w) := fun w v1 h1 => (under_num w v1 d h1 hd).mono fun _ _ => ret_num
theorem c_word {n : Nat} (hn : n < b64) : ∀ w v1, pEq (.int .u64 (n : Int)) w v1 → Calls Tryz.prog 71 #[v1] w (Ret (pNum n) w) := fun w v1 h1 => by
  have h1 : v1 = .int .u64 (n : Int) := h1
  rw [h1]
  exact (word_num w n hn).mono fun _ _ => ret_num
theorem num_row (n : Nat) : ∀ w v, pNum n w v → pRow 1 false (digs b64 n).length (fun i => pEq (.int .u64 (((digs b64 n).getD i 0 : Nat) : Int))) w v := by
  rintro w v ⟨A, c, rfl, h1, h2, h3⟩
  refine ⟨A, c, rfl, h1, h2, fun hpos => ?_⟩
  obtain ⟨b, o, e, hc⟩ := h3 (by rintro h; rw [h] at hpos; exact absurd hpos (Nat.lt_irrefl 0))
  refine ⟨b, o, e, fun i hi => ⟨[_], rfl, fun j u hj => ?_, rfl⟩⟩
  have hj0 : j = 0 := by
    rcases Nat.eq_zero_or_pos j with h | h
    · exact h
    · rw [List.getElem?_eq_none (by simp; omega)] at hj; cases hj
  subst hj0
  simp at hj
  subst hj
  rw [Nat.mul_one, Nat.add_zero]
  exact hc i hi
section
variable {P : Program} {ops : Array Oper} {ms : List Nat} {c : Cfg} {V : List Vr} {A : List Al} {G : List Ent} {i : Nat} {L : Nat → Bool} {β : Nat → Nat → Prop} {a : Act} {w : World} {o : Oper}
variable {d : Nat} {x y z : Operand} {ty : TypeId} {pos : String} {aft : Array Edge}
theorem op_loadEq {T : TypeId} {v : Value} (h : Has ms G i x (pPtr 1 false (pEq v))) (ht : Ty P T false 1) (hp : Post G i (pEq v)) : OpOk P ops ms c V A G i ⟨some d, .load T x, ty, pos, aft, none⟩ :=
  op_val1 rfl rfl rfl rfl h hp fun ρ w h => by
    obtain ⟨b, o, cs, e, hl, hc, hv⟩ := h
    refine ⟨wrapV false cs, ?_, fun _ _ => hv⟩
    show (do pure (Next.value (← Instr.loadAt T (ρ x)))).run P w = _
    rw [e, Sem.run_bind, run_load_at ht hc hl]
    rfl
end
end Wx
