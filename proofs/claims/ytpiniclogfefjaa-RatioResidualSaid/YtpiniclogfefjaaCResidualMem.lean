import Derived.WalkKit
import Derived.Lib.Hide
import Derived.Laws.Externs
import Derived.Laws.MakeOwn
import Derived.Deep.DeepCutAuto
import Derived.Deep.CutBlock
import Derived.Deep.AppendLies
import Derived.WalkSmall
import Derived.Deep.QuietTactic
import Derived.BigQuiet
import Derived.Test.YtpiniclogfefjaaJResidual0
namespace Wx
open Go Go.RowKit

structure Bx (p : Prop) : Prop where
  out : p
theorem bx {p : Prop} (h : p) : Bx p := ⟨h⟩
def nums (k : IntKind) (l : List Nat) : List Value := l.map fun (n : Nat) => Value.int k (n : Int)
theorem nums_length (k : IntKind) (l : List Nat) : (nums k l).length = l.length := by simp [nums]
theorem nums_get {k : IntKind} {l : List Nat} {i : Nat} (h : i < l.length) : (nums k l)[i]? = some (.int k ((l.getD i 0 : Nat) : Int)) := by
  simp [nums, h]

def Rd (w : World) (k : IntKind) (A : Option Addr) (c : Nat) (l : List Nat) : Prop :=
  l.length ≤ c ∧ c ≤ maxLen ∧ (l ≠ [] → ∃ b o, A = some ⟨b, o, none⟩ ∧ ∀ i, i < l.length → w.cell? ⟨b, o + i, none⟩ = some (.int k (l.getD i 0 : Nat)))

theorem Rd.nil (w : World) (k : IntKind) : Rd w k none 0 [] := ⟨Nat.le_refl _, Nat.zero_le _, fun h => absurd rfl h⟩
theorem Rd.take {w : World} {k : IntKind} {A : Option Addr} {c : Nat} {l : List Nat} (h : Rd w k A c l) (n : Nat) : Rd w k A c (l.take n) := by
  obtain ⟨h1, h2, h3⟩ := h
  refine ⟨by simp; omega, h2, fun hne => ?_⟩
  have hl : l ≠ [] := by rintro rfl; simp at hne
  obtain ⟨b, o, e, hc⟩ := h3 hl
  refine ⟨b, o, e, fun i hi => ?_⟩
  have : i < n ∧ i < l.length := by rw [List.length_take] at hi; omega
  rw [hc i this.2, List.getD_eq_getElem?_getD, List.getD_eq_getElem?_getD, List.getElem?_take_of_lt this.1]
theorem Rd.below {w w' : World} {k : IntKind} {A : Option Addr} {c : Nat} {l : List Nat} (h : Rd w k A c l) (hb : Below w.heap.size w w') : Rd w' k A c l := by
  obtain ⟨h1, h2, h3⟩ := h
  refine ⟨h1, h2, fun hne => ?_⟩
  obtain ⟨b, o, e, hc⟩ := h3 hne
  refine ⟨b, o, e, fun i hi => ?_⟩
  have := hc i hi
  rw [hb.cell (World.block_lt_of_cell? w _ this)]
  exact this
theorem Rd.at_ {w : World} {k : IntKind} {A : Option Addr} {c : Nat} {l : List Nat} (h : Rd w k A c l) {i : Nat} (hi : i < l.length) :
    ∃ b o, A = some ⟨b, o, none⟩ ∧ w.cell? ⟨b, o + i, none⟩ = some (.int k (l.getD i 0 : Nat)) := by
  obtain ⟨b, o, e, hc⟩ := h.2.2 (by rintro rfl; simp at hi)
  exact ⟨b, o, e, hc i hi⟩
theorem Rd.get {w : World} {k : IntKind} {A : Option Addr} {c : Nat} {l : List Nat} (h : Rd w k A c l) {i : Nat} (hi : i < l.length) :
    ∃ b o, ∃ v : Nat, A = some ⟨b, o, none⟩ ∧ w.cell? ⟨b, o + i, none⟩ = some (.int k (v : Int)) ∧ Hid (l[i]? = some v) := by
  obtain ⟨b, o, e, hc⟩ := h.at_ hi
  refine ⟨b, o, l.getD i 0, e, hc, ?_⟩
  show l[i]? = some (l.getD i 0)
  rw [List.getD_eq_getElem?_getD, List.getElem?_eq_getElem hi]
  rfl
theorem Rd.len {w : World} {k : IntKind} {A : Option Addr} {c : Nat} {l : List Nat} (h : Rd w k A c l) : l.length ≤ 9223372036854775807 := by
  have h1 := h.1
  have h2 := h.2.1
  unfold maxLen at h2
  omega

def Row (w : World) (k : IntKind) (e : TypeId) (g : Nat) (l : List Nat) : Prop := ∃ rest : List Value, w.heap[g]? = some (.cells (nums k l ++ rest).toArray e (0, 0))
theorem Row.lt {w : World} {k : IntKind} {e : TypeId} {g : Nat} {l : List Nat} (h : Row w k e g l) : g < w.heap.size := by
  obtain ⟨r, h⟩ := h
  rcases Nat.lt_or_ge g w.heap.size with hlt | hge
  · exact hlt
  · rw [Array.getElem?_eq_none hge] at h; cases h
theorem Row.cell {w : World} {k : IntKind} {e : TypeId} {g : Nat} {l : List Nat} (h : Row w k e g l) {i : Nat} (hi : i < l.length) : w.cell? ⟨g, i, none⟩ = some (.int k (l.getD i 0 : Nat)) := by
  obtain ⟨r, h⟩ := h
  rw [cell_of_row w g i _ e (0, 0) h]
  have : (nums k l ++ r)[i]? = (nums k l)[i]? := List.getElem?_append_left (by rw [nums_length]; exact hi)
  simpa [this] using nums_get (k := k) hi
theorem Row.get {w : World} {k : IntKind} {e : TypeId} {g : Nat} {l : List Nat} (h : Row w k e g l) {i : Nat} (hi : i < l.length) :
    ∃ v : Nat, w.cell? ⟨g, i, none⟩ = some (.int k (v : Int)) ∧ Hid (l[i]? = some v) := by
  refine ⟨l.getD i 0, h.cell hi, ?_⟩
  show l[i]? = some (l.getD i 0)
  rw [List.getD_eq_getElem?_getD, List.getElem?_eq_getElem hi]
  rfl
theorem Row.frozen {w : World} {k : IntKind} {e : TypeId} {g : Nat} {l : List Nat} (h : Row w k e g l) (i : Nat) : w.frozen? ⟨g, i, none⟩ = false := by
  obtain ⟨r, h⟩ := h
  simp [World.frozen?, h]
theorem Row.set {w : World} {k : IntKind} {e : TypeId} {g : Nat} {l : List Nat} (h : Row w k e g l) (i x : Nat) : Row (w.setCell ⟨g, i, none⟩ (.int k (x : Int))) k e g (l.set i x) := by
  obtain ⟨r, h⟩ := h
  have hs : (w.setCell ⟨g, i, none⟩ (.int k (x : Int))).heap[g]? = some (.cells ((nums k l ++ r).set i (.int k (x : Int))).toArray e (0, 0)) := by
    simp [World.setCell, Array.getElem?_modify, h]
  by_cases hi : i < l.length
  · refine ⟨r, ?_⟩
    rw [hs, List.set_append_left _ _ (by rw [nums_length]; exact hi)]
    simp [nums]
  · refine ⟨r.set (i - l.length) (.int k (x : Int)), ?_⟩
    rw [hs, List.set_append_right _ _ (by rw [nums_length]; omega), nums_length, List.set_eq_of_length_le (l := l) (by omega)]
theorem Row.far {w : World} {k : IntKind} {e : TypeId} {g : Nat} {l : List Nat} (h : Row w k e g l) {p : Addr} (hp : g ≠ p.block) (u : Value) : Row (w.setCell p u) k e g l := h.imp fun _ h => (Below.heap_setCell w p u g hp).trans h
theorem Row.below {B : Nat} {w w' : World} {k : IntKind} {e : TypeId} {g : Nat} {l : List Nat} (h : Row w k e g l) (hb : Below B w w') (hg : g < B) : Row w' k e g l := h.imp fun _ h => (hb.block g hg).trans h
theorem Row.keep {w w' : World} {k : IntKind} {e : TypeId} {g : Nat} {l : List Nat} (h : Row w k e g l) (hb : Below w.heap.size w w') : Row w' k e g l := h.below hb h.lt
theorem Row.rd {w : World} {k : IntKind} {e : TypeId} {g : Nat} {l : List Nat} (h : Row w k e g l) {n c : Nat} (hn : n ≤ l.length) (hc : n ≤ c) (hm : c ≤ maxLen) : Rd w k (some ⟨g, 0, none⟩) c (l.take n) := by
  have hl : (l.take n).length = n := by rw [List.length_take]; omega
  refine ⟨by omega, hm, fun _ => ⟨g, 0, rfl, fun i hi => ?_⟩⟩
  rw [hl] at hi
  rw [Nat.zero_add, h.cell (by omega), List.getD_eq_getElem?_getD, List.getD_eq_getElem?_getD, List.getElem?_take_of_lt hi]
theorem Row.rd_all {w : World} {k : IntKind} {e : TypeId} {g : Nat} {l : List Nat} (h : Row w k e g l) {c : Nat} (hc : l.length ≤ c) (hm : c ≤ maxLen) : Rd w k (some ⟨g, 0, none⟩) c l := by
  have := h.rd (Nat.le_refl _) hc hm
  rwa [List.take_length] at this

theorem row_of_owns {w : World} {k : IntKind} {e : TypeId} {base : Nat} {A : Option Addr} {c : Nat} {l : List Nat} (h : w.ownsRow base e 1 (.slice A l.length c) l.length (nums k l)) (hl : 0 < l.length) :
    ∃ g, A = some ⟨g, 0, none⟩ ∧ base ≤ g ∧ Row w k e g l ∧ l.length ≤ c ∧ c ≤ maxLen := by
  rcases h.2 with ⟨h1, h2⟩ | ⟨g, cap, cur, hv, hb, hg, hn, hm, hs, ht⟩
  · omega
  · injection hv with e1 e2 e3
    subst e1 e3
    refine ⟨g, rfl, hb, ⟨cur.toList.drop l.length, ?_⟩, hn, hm⟩
    rw [hg]
    rw [Nat.mul_one] at ht
    rw [← ht, List.take_append_drop]
theorem Row.new (w : World) (k : IntKind) (e : TypeId) (l : List Nat) : Row (w.alloc (.cells (nums k l).toArray e)) k e w.heap.size l := ⟨[], by rw [heap_alloc_new, List.append_nil]⟩
def Num (k : IntKind) (b : Nat) (w : World) (v : Value) (n : Nat) : Prop := ∃ A c, v = .slice A (digs b n).length c ∧ Rd w k A c (digs b n)
theorem Num.below {k : IntKind} {b : Nat} {w w' : World} {v : Value} {n : Nat} (h : Num k b w v n) (hb : Below w.heap.size w w') : Num k b w' v n := by
  obtain ⟨A, c, e, hr⟩ := h
  exact ⟨A, c, e, hr.below hb⟩
theorem Num.zero (k : IntKind) (b : Nat) (w : World) : Num k b w (.slice none 0 0) 0 := ⟨none, 0, by rw [digs_zero]; rfl, by rw [digs_zero]; exact Rd.nil _ _⟩
theorem Num.of {k : IntKind} {b : Nat} {w : World} {A : Option Addr} {n c : Nat} {l : List Nat} (hb : 2 ≤ b) (h : Rd w k A c l) (hn : l.length = n) (hw : Wf b l) (ht : Top l) : Num k b w (.slice A n c) (val b l) := by
  refine ⟨A, c, ?_, ?_⟩
  · rw [digs_val hb hw ht, hn]
  · rw [digs_val hb hw ht]; exact h
def RetNum (k : IntKind) (b : Nat) (w : World) (n : Nat) (e : Ending) (w' : World) : Prop := ∃ v, e = .returned v ∧ Num k b w' v n ∧ Below w.heap.size w w'
def SameNum (k : IntKind) (b : Nat) (w : World) (n : Nat) (e : Ending) (w' : World) : Prop := w = w' ∧ ∃ v, e = .returned v ∧ Num k b w v n
def RetIs (w : World) (v : Value) (e : Ending) (w' : World) : Prop := e = .returned v ∧ Below w.heap.size w w'
def vlen : Value → Nat | .slice _ n _ => n | _ => 0
theorem ret_int {k : IntKind} {a b : Int} (h : a = b) : Ending.returned (.int k a) = .returned (.int k b) := by rw [h]
theorem ret_bool {a b : Bool} (h : a = b) : Ending.returned (.bool a) = .returned (.bool b) := by rw [h]
theorem madeCells_int (k : IntKind) (n : Nat) : madeCells #[.int k 0] n = (nums k (List.replicate n 0)).toArray := by
  apply Array.ext
  · simp [madeCells, nums]
  · intro i h1 h2
    simp [madeCells, nums, Nat.mod_one]

theorem wpList_mk {P : Program} (w : World) {ops : Array Oper} {rest : List Oper} {o : Oper} {a : Act} {Q : Exit → Act → World → Prop}
    (hg : o.guard = none) (l c : Operand) (t : TypeId) (hop : o.op = Op.makeSlice t l c)
    (k : IntKind) (e : TypeId) (h1 : P.underlying t = some (.slice e)) (hi : (P.info? e).map (fun i => (i.zero, i.size, decide (i.bytes ≤ 8))) = some (some (.int k 0), 1, true))
    (L C : Int) (hl : a.eval l = .int .i64 L) (hc : a.eval c = .int .i64 C) (hL : 0 ≤ L) (hLC : L ≤ C) (hC : C ≤ 1099511627776)
    (hK : ∀ w', Row w' k e w.heap.size (List.replicate C.toNat 0) → Below w.heap.size w w' → w'.heap.size = w.heap.size + 1 → wpList P ops Q rest (a.put o.dst (.slice (some ⟨w.heap.size, 0, none⟩) L.toNat C.toNat)) w') :
    wpList P ops Q (o :: rest) a w := by
  obtain ⟨i, h2, hzz⟩ := Option.map_eq_some_iff.1 hi
  simp only [Prod.mk.injEq, decide_eq_true_eq] at hzz
  obtain ⟨hz, hs, hb⟩ := hzz
  refine wpList_plain hg fun K hK' => ?_
  have hbytes : (i.bytes : Int) * C ≤ 281474976710656 := by
    have h8 : (i.bytes : Int) ≤ 8 := by omega
    have := Int.mul_le_mul_of_nonneg_right h8 (show 0 ≤ C by omega)
    omega
  have hrun := run_make (P := P) w t e i (.int k 0) h1 h2 hz .i64 .i64 L C hL hLC hbytes (by omega)
  rw [hs, Nat.mul_one] at hrun
  unfold Oper.wp
  simp only [execOp, hop, hl, hc, Sem.run_bind, hrun, Result.andThen]
  simp only [Sem.run_pure, Oper.upon]
  refine hK' _ _ (hK _ ?_ ((Below.refl _ _).alloc (Nat.le_refl _) _) (by simp))
  simp only [Value.cells, madeCells_int]
  exact Row.new _ _ _ _

def Ext3 (P : Program) (f : FuncId) (x y c : Operand) (ops : Array Oper) (Q : Exit → Act → World → Prop) (o : Oper) (rest : List Oper) (a : Act) (w : World) : Prop :=
  ∃ v w', (callFunc f #[a.eval x, a.eval y, a.eval c]).run P w = .ok (.value v) w' ∧ wpList P ops Q rest (a.put o.dst v) w'
theorem at_ext3 {P : Program} (f : FuncId) {x y c : Operand} {ts : Array TypeId} {ops : Array Oper} {Q : Exit → Act → World → Prop} {o : Oper} {rest : List Oper} {a : Act} {w : World}
    (hg : o.guard = none) (hop : o.op = Op.call { callee := .value (.func f), args := #[x, y, c], argTypes := ts }) (h : Ext3 P f x y c ops Q o rest a w) : wpList P ops Q (o :: rest) a w := by
  obtain ⟨v, w', hrun, hK⟩ := h
  refine wpList_plain hg fun K hK' => ?_
  have e : (execOp a.eval o).run P w = .ok (.value v) w' := by
    unfold execOp
    simp [hop, resolve, Act.eval, Deferred.ofValue, invoke]
    simpa [Act.eval] using hrun
  unfold Oper.wp
  rw [e]
  exact hK' _ _ hK

def addLo (x y c : Int) : Int := (x + y + c) % 18446744073709551616
def addHi (x y c : Int) : Int := (x + y + c) / 18446744073709551616
theorem add64_ext {P : Program} {f : FuncId} {fn : Func} (hf : P.funcs[f]? = some fn) (hname : (fn.name == "runtime.NumGoroutine") = false)
    (hb : fn.body.isNone = true) (hn : Extern.findNext fn = none) (he : Extern.find fn = some add64Entry)
    {x y c : Operand} {ops : Array Oper} {Q : Exit → Act → World → Prop} {o : Oper} {rest : List Oper} {a : Act} {w : World} {X Y C : Int}
    (hx : a.eval x = .int .u64 X) (hy : a.eval y = .int .u64 Y) (hc : a.eval c = .int .u64 C) (x0 : 0 ≤ X) (y0 : 0 ≤ Y) (c0 : 0 ≤ C) (c1 : C ≤ 1)
    (hK : wpList P ops Q rest (a.put o.dst (.tuple #[.int .u64 (addLo X Y C), .int .u64 (addHi X Y C)])) w) : Ext3 P f x y c ops Q o rest a w := by
  refine ⟨_, w, ?_, hK⟩
  rw [hx, hy, hc, run_callFunc_extern hf hname hb hn he, run_add64 X Y C x0 y0 c0 c1]
  rfl
def subLo (x y c : Nat) : Nat := (x + 18446744073709551616 - y - c) % 18446744073709551616
def subHi (x y c : Nat) : Nat := if x < y + c then 1 else 0
def subEntry : Array Value → Sem Value := (Extern.MathBitsCarry.rows.getD 1 ("", fun _ => default)).2
theorem run_subEntry {P : Program} (x y b : Nat) (hb : b ≤ 1) (w : World) :
    (subEntry #[.int .u64 x, .int .u64 y, .int .u64 b]).run P w = .ok (.tuple #[.int .u64 (subLo x y b : Nat), .int .u64 (subHi x y b : Nat)]) w := by
  have : b = 0 ∨ b = 1 := by omega
  rcases this with rfl | rfl <;> rfl
theorem sub64_ext {P : Program} {f : FuncId} {fn : Func} (hf : P.funcs[f]? = some fn) (hname : (fn.name == "runtime.NumGoroutine") = false)
    (hb : fn.body.isNone = true) (hn : Extern.findNext fn = none) (he : Extern.find fn = some subEntry)
    {x y c : Operand} {ops : Array Oper} {Q : Exit → Act → World → Prop} {o : Oper} {rest : List Oper} {a : Act} {w : World} (X Y C : Nat)
    (hx : a.eval x = .int .u64 X) (hy : a.eval y = .int .u64 Y) (hc : a.eval c = .int .u64 C) (c1 : C ≤ 1)
    (hK : wpList P ops Q rest (a.put o.dst (.tuple #[.int .u64 (subLo X Y C : Nat), .int .u64 (subHi X Y C : Nat)])) w) : Ext3 P f x y c ops Q o rest a w := by
  refine ⟨_, w, ?_, hK⟩
  rw [hx, hy, hc, run_callFunc_extern hf hname hb hn he, run_subEntry X Y C c1]
  rfl
theorem subHi_le (x y c : Nat) : subHi x y c ≤ 1 := by unfold subHi; split <;> omega
theorem sub_spec {x y c : Nat} (hx : x < 18446744073709551616) (hy : y < 18446744073709551616) (hc : c ≤ 1) : subLo x y c + y + c = x + 18446744073709551616 * subHi x y c ∧ subLo x y c < 18446744073709551616 := by
  unfold subLo subHi
  split <;> omega
@[irreducible] def adLo (x y : Nat) : Nat := (x + y) % 18446744073709551616
@[irreducible] def adHi (x y : Nat) : Nat := (x + y) / 18446744073709551616
@[irreducible] def muLo (x y : Nat) : Nat := x * y % 18446744073709551616
@[irreducible] def muHi (x y : Nat) : Nat := x * y / 18446744073709551616
theorem ad_spec (x y : Nat) : adLo x y + 18446744073709551616 * adHi x y = x + y := by
  unfold adLo adHi; omega
theorem adLo_lt (x y : Nat) : adLo x y < 18446744073709551616 := by unfold adLo; omega
theorem mu_spec (x y : Nat) : muLo x y + 18446744073709551616 * muHi x y = x * y := by
  unfold muLo muHi; exact Nat.mod_add_div _ _
theorem muLo_lt (x y : Nat) : muLo x y < 18446744073709551616 := by unfold muLo; exact Nat.mod_lt _ (by omega)
theorem add64z_ext {P : Program} {f : FuncId} {fn : Func} (hf : P.funcs[f]? = some fn) (hname : (fn.name == "runtime.NumGoroutine") = false)
    (hb : fn.body.isNone = true) (hn : Extern.findNext fn = none) (he : Extern.find fn = some add64Entry)
    {x y c : Operand} {ops : Array Oper} {Q : Exit → Act → World → Prop} {o : Oper} {rest : List Oper} {a : Act} {w : World} {X Y : Nat}
    (hx : a.eval x = .int .u64 X) (hy : a.eval y = .int .u64 Y) (hc : a.eval c = .int .u64 0)
    (hK : wpList P ops Q rest (a.put o.dst (.tuple #[.int .u64 (adLo X Y : Nat), .int .u64 (adHi X Y : Nat)])) w) : Ext3 P f x y c ops Q o rest a w := by
  refine ⟨_, w, ?_, hK⟩
  rw [hx, hy, hc, run_callFunc_extern hf hname hb hn he, run_add64 X Y 0 (by omega) (by omega) (by omega) (by omega)]
  simp only [Result.andThen]
  unfold adLo adHi
  congr 5 <;> omega
theorem wrap_u64 {n : Int} (h0 : 0 ≤ n) (h1 : n < 18446744073709551616) : IntKind.u64.wrap n = n := by
  rw [IntKind.wrap_u64]; omega
def RetDr (w : World) (v : Value) (e : Ending) (w' : World) : Prop := e = .returned v ∧ ∃ m, w' = w.drewN m
theorem RetDr.is {w w' : World} {v : Value} {e : Ending} (h : RetDr w v e w') : RetIs w v e w' := by
  obtain ⟨he, m, rfl⟩ := h
  exact ⟨he, below_drewN (Below.refl _ _) m⟩
theorem Row.drew {w : World} {k : IntKind} {e : TypeId} {g : Nat} {l : List Nat} (h : Row w k e g l) : Row w.drew k e g l := h
theorem Row.drewN {w : World} {k : IntKind} {e : TypeId} {g : Nat} {l : List Nat} (h : Row w k e g l) (n : Nat) : Row (w.drewN n) k e g l := h
theorem Rd.news {w : World} {k : IntKind} {b o c : Nat} {l : List Nat} (h : Rd w k (some ⟨b, o, none⟩) c l) : ∀ j u, (nums k l)[j]? = some u → w.cell? ((⟨b, o, none⟩ : Addr).add j) = some u := by
  intro j u hu
  have hj : j < l.length := by
    have := (List.getElem?_eq_some_iff.1 hu).1
    simpa [nums] using this
  obtain ⟨b', o', e, hc⟩ := h.at_ hj
  injection e with e
  injection e with e1 e2
  subst e1 e2
  rw [Addr.add_lit, hc]
  rw [nums_get hj] at hu
  exact hu
theorem nums_append (k : IntKind) (l r : List Nat) : nums k (l ++ r) = nums k l ++ nums k r := by simp [nums]
theorem nums_oneCell (k : IntKind) (l : List Nat) : ∀ u ∈ nums k l, u.oneCell' = true := by
  intro u hu
  obtain ⟨_, _, rfl⟩ := List.mem_map.1 hu
  rfl
theorem wpList_app {P : Program} (w : World) {ops : Array Oper} {rest : List Oper} {o : Oper} {a : Act} {Q : Exit → Act → World → Prop} (hgd : o.guard = none) (s x : Operand) (t : TypeId)
    (ho : o.op = .call { callee := .builtin .append, args := #[s, x], argTypes := #[t, t] })
    (k : IntKind) (e : TypeId) (base : Nat) (ht : P.underlying t = some (.slice e)) (hi : (P.info? e).map (fun i => (i.zero, i.size, decide (i.bytes ≤ 8))) = some (some (.int k 0), 1, true))
    (v : Value) (l : List Nat) (hs : a.eval s = v) (hown : w.ownsRow base e 1 v l.length (nums k l))
    (b ob c : Nat) (r : List Nat) (R : Nat) (hR : r.length = R) (hx : a.eval x = .slice (some ⟨b, ob, none⟩) R c) (hrd : Rd w k (some ⟨b, ob, none⟩) c r)
    (hlen : l.length + r.length ≤ 1000000000) (hbase : base ≤ w.heap.size)
    (hK : ∀ (U : List Nat) (A' : Option Addr) (c' : Nat) (w' : World), Bx (U = l ++ r) → w'.ownsRow base e 1 (.slice A' U.length c') U.length (nums k U) → w.grownBy w' v.ownBlock →
      wpList P ops Q rest (a.put o.dst (.slice A' U.length c')) w') : wpList P ops Q (o :: rest) a w := by
  obtain ⟨i, h2, hzz⟩ := Option.map_eq_some_iff.1 hi
  simp only [Prod.mk.injEq, decide_eq_true_eq] at hzz
  obtain ⟨hz, hsz, hb⟩ := hzz
  subst hR
  refine wpList_append_own w hgd s x t ho base e i (.int k 0) 1 i.bytes ht h2 hz hsz rfl rfl (by omega) v l.length (nums k l) hs hown ⟨b, ob, none⟩ r.length c (nums k r) hx (by simp [nums_length]) hrd.news (nums_oneCell k r) (by unfold maxLen; omega) ?_ hbase ?_
  · have := Nat.mul_le_mul (show l.length + r.length ≤ 1000000000 from hlen) hb
    omega
  · intro v' w' hown' hg _
    rw [← nums_append, ← List.length_append] at hown'
    have hf : ∃ A' c', v' = .slice A' (l ++ r).length c' := by
      rcases hown'.2 with ⟨h1, h3⟩ | ⟨g, cap, cur, h1, _⟩
      · exact ⟨none, 0, by rw [h1, h3]⟩
      · exact ⟨_, _, h1⟩
    obtain ⟨A', c', hv'⟩ := hf
    rw [hv'] at hown' ⊢
    exact hK (l ++ r) A' c' w' ⟨rfl⟩ hown' hg
end Wx
