import Derived.Test.YtlomlheajdgdoaaGreatRows
import Derived.WalkKit
import Derived.ProofKit
import Derived.OpenShut
import Derived.Below
import Derived.ChangeSame
import Derived.Lib.SmallJoins
namespace Wx
open Go Go.RowKit Go.Proofs Go.ChangeShapes Go.WideShapes Go.ChangeAt Go.Joins

section
variable {H : Type} {enc : TypeId × Value → H} {P : Program}
theorem post_of_below {f : Func} {s : ChangeSpec} {apart fresh handsOn again : Bool} {W W' : World} {args : Array Value} {v : Value} {ds gs : List (DataW H)} {before pa pv : List MemPlace}
    (hW : DataW.Whole enc P f.params.toList s.vars apart W args.toList ds gs before)
    (hres : ∀ (b : Nat) (sp : Nat → Bool) (hd : Bool), DataW.TrodAll enc P W' b sp hd f.resultTypes.toList (v.resultList f.resultTypes.size) (s.fn H (ds ++ gs)).results [])
    (hargs : ∀ sp : Nat → Bool, (∀ p ∈ before, sp p.block = true) → DataW.TrodAll enc P W' 0 sp true f.params.toList args.toList (s.fn H (ds ++ gs)).args pa)
    (hvars : ∀ sp : Nat → Bool, (∀ p ∈ before, sp p.block = true) → DataW.TrodVars enc P W' sp s.vars (s.fn H (ds ++ gs)).vars pv)
    (hps : before = pa ++ pv) (hb : Below W.heap.size W W')
    (hok : ∀ (j : Nat) (t : TypeId) (r : Value), f.resultTypes[j]? = some t → (v.resultList f.resultTypes.size)[j]? = some r → Value.okWide P W' .any 0 t r) :
    s.post enc P f apart fresh handsOn again W args v W' := by
  have hlt : ∀ p ∈ before, p.block < W.heap.size := fun p hp => hW.lt p hp
  have hold : ∀ p ∈ before, (fun b => decide (b < W.heap.size)) p.block = true := fun p hp => by simpa using hlt p hp
  refine ⟨ds, gs, before, [], pa, pv, hW, hres _ _ _, hargs _ hold, hvars _ hold, World.keptBut_mono (fun p hp => ⟨hp, ?_⟩) (hb.frame (· ∈ before)), fun _ => ?_⟩
  · rw [hps, List.mem_append] at hp
    exact Or.inr hp
  · obtain ⟨_, _, _, _, _, hz, hn⟩ := hW
    refine ⟨hok, _, _, ([] ++ pa) ++ pv, ⟨[] ++ pa, pv, trodAll_append (hargs _ (fun _ _ => rfl)) (hres _ _ _), hvars _ (fun _ _ => rfl), rfl, ?_, ?_⟩, ?_⟩
    · intro b off hp
      have hin : MemPlace.cell b off ∈ before := by rw [hps]; simpa using hp
      rw [hb.frozen (hlt _ hin)]
      exact hz b off hin
    · intro ha
      have := hn ha
      rw [hps] at this
      simpa using this
    · intro p hp _
      rw [hps]
      simpa using hp
end

theorem wf_i64 {n : Int} (h : (Lit.int .i64 n).wf = true) : -9223372036854775808 ≤ n ∧ n ≤ 9223372036854775807 := by
  simp [Lit.wf, IntKind.min, IntKind.max, IntKind.bits, IntKind.signed] at h
  omega
end Wx

namespace Wx
set_option maxRecDepth 100000
open Go Go.RowKit Go.Proofs Go.ChangeShapes Go.WideShapes Go.ChangeAt Go.Joins Go.Deep

theorem arr4 (T : Array Value) (h : T.size = 4) : ∃ a b c d : Value, T = #[a, b, c, d] := by
  obtain ⟨l⟩ := T
  simp only [List.size_toArray] at h
  match l, h with
  | [a, b, c, d], _ => exact ⟨a, b, c, d, rfl⟩
section
variable {H : Type} {enc : TypeId × Value → H} {P : Program} {w : World} {base : Nat} {spare : Nat → Bool} {held : Bool}
theorem cells2 {t : TypeId} {f0 f1 : Field} {m : Nat} {c0 c1 : Value} {y : DataW H × List MemPlace} (hs : P.underlying t = some (.struct #[f0, f1])) (hone : oneCellFields P #[f0, f1] = true) (h : DataW.trod enc P w base spare held m t [c0, c1] = some y) :
    ∃ y0 y1 n, y = (.agg [y0.1, y1.1], y0.2 ++ y1.2) ∧ DataW.trod enc P w base spare held n f0.type [c0] = some y0 ∧ DataW.trod enc P w base spare held n f1.type [c1] = some y1 := by
  obtain ⟨y0, y1, n, hx, _, h0, h1⟩ := trod_struct2 hs h
  obtain ⟨o0, k0⟩ := hone_of hone 0 f0 rfl
  obtain ⟨o1, k1⟩ := hone_of hone 1 f1 rfl
  exact ⟨y0, y1, n, hx, by simpa [o0, k0] using h0, by simpa [o1, k1] using h1⟩
theorem mk2 {t : TypeId} {f0 f1 : Field} {n : Nat} {c0 c1 : Value} {y0 y1 : DataW H × List MemPlace} (hs : P.underlying t = some (.struct #[f0, f1])) (hone : oneCellFields P #[f0, f1] = true) (hC : P.cellsOf t = 2)
    (h0 : DataW.trod enc P w base spare held n f0.type [c0] = some y0) (h1 : DataW.trod enc P w base spare held n f1.type [c1] = some y1) : DataW.trod enc P w base spare held (n + 1) t [c0, c1] = some (.agg [y0.1, y1.1], y0.2 ++ y1.2) := by
  obtain ⟨o0, k0⟩ := hone_of hone 0 f0 rfl
  obtain ⟨o1, k1⟩ := hone_of hone 1 f1 rfl
  exact trod_struct2_mk hs (by simp [hC]) (by simpa [o0, k0] using h0) (by simpa [o1, k1] using h1)
theorem pairs_mk {t e : TypeId} {m : Nat} {c0 c1 c2 c3 : Value} {y0 y1 : DataW H × List MemPlace} (ht : P.underlying t = some (.array 2 e)) (hc : P.cellsOf e = 2) (hC : P.cellsOf t = 4)
    (h0 : DataW.trod enc P w base spare held m e [c0, c1] = some y0) (h1 : DataW.trod enc P w base spare held m e [c2, c3] = some y1) : DataW.trod enc P w base spare held (m + 1) t [c0, c1, c2, c3] = some (.agg [y0.1, y1.1], y0.2 ++ y1.2) := by
  have hp : (List.range 2).mapM (fun i => DataW.trod enc P w base spare held m e (([c0, c1, c2, c3].drop (i * P.cellsOf e)).take (P.cellsOf e))) = some [y0, y1] := by simp [hc, List.range, List.range.loop, h0, h1]
  unfold DataW.trod
  rw [ht]
  split <;> simp_all
end
section
variable {H : Type} {enc : TypeId × Value → H} {w : World} {base : Nat} {spare : Nat → Bool} {held : Bool}
theorem cells_frac {m : Nat} {c0 c1 : Value} {y : DataW H × List MemPlace} (h : DataW.trod enc Tryz.prog w base spare held m 23 [c0, c1] = some y) :
    ∃ n k : Int, c0 = .int .i64 n ∧ c1 = .int .i64 k ∧ y = (.agg [.lit (.int .i64 n), .lit (.int .i64 k)], []) ∧ (Lit.int .i64 n).wf = true ∧ (Lit.int .i64 k).wf = true := by
  obtain ⟨y0, y1, n, rfl, hy0, hy1⟩ := cells2 Tryz.underlying23 (by kernel_rfl) h
  obtain ⟨a, e0, rfl, wa⟩ := DataW.trod_int Tryz.underlying2 hy0
  obtain ⟨b, e1, rfl, wb⟩ := DataW.trod_int Tryz.underlying2 hy1
  simp at e0 e1
  exact ⟨a, b, e0, e1, rfl, wa, wb⟩
theorem open_frac2 {r : Reach} {b0 : Nat} {v : Value} {d : DataW H} {p : List MemPlace}
    (hv : Value.okWide Tryz.prog w r b0 62 v) (h : DataW.Trod enc Tryz.prog w base spare held 62 v d p) :
    ∃ n1 d1 n2 d2 : Int, v = .agg #[.int .i64 n1, .int .i64 d1, .int .i64 n2, .int .i64 d2] ∧ d = .agg [.agg [.lit (.int .i64 n1), .lit (.int .i64 d1)], .agg [.lit (.int .i64 n2), .lit (.int .i64 d2)]] ∧ p = [] ∧
      (Lit.int .i64 n1).wf = true ∧ (Lit.int .i64 d1).wf = true ∧ (Lit.int .i64 n2).wf = true ∧ (Lit.int .i64 d2).wf = true := by
  have hc : Tryz.prog.cellsOf 23 = 2 := by kernel_rfl
  have hC : Tryz.prog.cellsOf 62 = 4 := by kernel_rfl
  simp only [Value.okWide, Tryz.underlying62] at hv
  obtain ⟨cs, rfl, hsz, _⟩ := hv
  obtain ⟨c0, c1, c2, c3, rfl⟩ := arr4 cs (hsz.trans hC)
  obtain ⟨fuel, hf⟩ := h
  obtain ⟨xs, m, rfl, hx, _, hl, hg⟩ := DataW.trod_array Tryz.underlying62 hf
  match xs, hl with
  | [y0, y1], _ =>
    have g0 := hg 0 (by omega)
    have g1 := hg 1 (by omega)
    rw [hc] at g0 g1
    obtain ⟨n1, d1, rfl, rfl, rfl, w1, w2⟩ := cells_frac (c0 := c0) (c1 := c1) g0
    obtain ⟨n2, d2, rfl, rfl, rfl, w3, w4⟩ := cells_frac (c0 := c2) (c1 := c3) g1
    simp only [Prod.mk.injEq] at hx
    exact ⟨n1, d1, n2, d2, rfl, hx.1, hx.2, w1, w2, w3, w4⟩
theorem frac_mk {n m : Int} (wa : (Lit.int .i64 n).wf = true) (wb : (Lit.int .i64 m).wf = true) :
    DataW.trod enc Tryz.prog w base spare held 2 23 [.int .i64 n, .int .i64 m] = some (.agg [.lit (.int .i64 n), .lit (.int .i64 m)], []) :=
  mk2 (y0 := (.lit (.int .i64 n), [])) (y1 := (.lit (.int .i64 m), [])) Tryz.underlying23 (by kernel_rfl) (by kernel_rfl) (trod_int_mk 0 Tryz.underlying2 wa) (trod_int_mk 0 Tryz.underlying2 wb)
theorem shut_frac2 {n1 d1 n2 d2 : Int} (w1 : (Lit.int .i64 n1).wf = true) (w2 : (Lit.int .i64 d1).wf = true) (w3 : (Lit.int .i64 n2).wf = true) (w4 : (Lit.int .i64 d2).wf = true) :
    DataW.Trod enc Tryz.prog w base spare held 62 (.agg #[.int .i64 n1, .int .i64 d1, .int .i64 n2, .int .i64 d2]) (.agg [.agg [.lit (.int .i64 n1), .lit (.int .i64 d1)], .agg [.lit (.int .i64 n2), .lit (.int .i64 d2)]]) [] :=
  ⟨3, pairs_mk Tryz.underlying62 (by kernel_rfl) (by kernel_rfl) (frac_mk w1 w2) (frac_mk w3 w4)⟩
end
end Wx

namespace Wx
open Go Go.RowKit Go.Proofs

theorem wf_u32 {n : Int} (h : (Lit.int .u32 n).wf = true) : 0 ≤ n ∧ n ≤ 4294967295 := by
  simp [Lit.wf, IntKind.min, IntKind.max, IntKind.bits, IntKind.signed] at h
  omega
end Wx

namespace Wx
set_option maxRecDepth 100000
open Go Go.RowKit Go.Proofs Go.ChangeShapes Go.WideShapes Go.ChangeAt Go.Joins Go.Deep

theorem arr2 (T : Array Value) (h : T.size = 2) : ∃ a b : Value, T = #[a, b] := by
  obtain ⟨l⟩ := T
  simp only [List.size_toArray] at h
  match l, h with
  | [a, b], _ => exact ⟨a, b, rfl⟩
section
variable {H : Type} {enc : TypeId × Value → H} {w : World} {base : Nat} {spare : Nat → Bool} {held : Bool}
theorem two_mk {P : Program} {t e : TypeId} {m : Nat} {c0 c1 : Value} {y0 y1 : DataW H × List MemPlace} (ht : P.underlying t = some (.array 2 e)) (hc : P.cellsOf e = 1) (hC : P.cellsOf t = 2)
    (h0 : DataW.trod enc P w base spare held m e [c0] = some y0) (h1 : DataW.trod enc P w base spare held m e [c1] = some y1) : DataW.trod enc P w base spare held (m + 1) t [c0, c1] = some (.agg [y0.1, y1.1], y0.2 ++ y1.2) := by
  have hp : (List.range 2).mapM (fun i => DataW.trod enc P w base spare held m e (([c0, c1].drop (i * P.cellsOf e)).take (P.cellsOf e))) = some [y0, y1] := by simp [hc, List.range, List.range.loop, h0, h1]
  unfold DataW.trod
  rw [ht]
  split <;> simp_all
theorem open_u2 {r : Reach} {b0 : Nat} {v : Value} {d : DataW H} {p : List MemPlace}
    (hv : Value.okWide Tryz.prog w r b0 63 v) (h : DataW.Trod enc Tryz.prog w base spare held 63 v d p) :
    ∃ a b : Int, v = .agg #[.int .u32 a, .int .u32 b] ∧ d = .agg [.lit (.int .u32 a), .lit (.int .u32 b)] ∧ p = [] ∧ (Lit.int .u32 a).wf = true ∧ (Lit.int .u32 b).wf = true := by
  have hc : Tryz.prog.cellsOf 49 = 1 := by kernel_rfl
  have hC : Tryz.prog.cellsOf 63 = 2 := by kernel_rfl
  simp only [Value.okWide, Tryz.underlying63] at hv
  obtain ⟨cs, rfl, hsz, _⟩ := hv
  obtain ⟨c0, c1, rfl⟩ := arr2 cs (hsz.trans hC)
  obtain ⟨fuel, hf⟩ := h
  obtain ⟨xs, m, rfl, hx, _, hl, hg⟩ := DataW.trod_array Tryz.underlying63 hf
  match xs, hl with
  | [y0, y1], _ =>
    have g0 := hg 0 (by omega)
    have g1 := hg 1 (by omega)
    rw [hc] at g0 g1
    obtain ⟨a, e0, k0, wa⟩ := DataW.trod_int Tryz.underlying49 (show DataW.trod enc Tryz.prog w base spare held m 49 [c0] = some y0 from g0)
    obtain ⟨b, e1, k1, wb⟩ := DataW.trod_int Tryz.underlying49 (show DataW.trod enc Tryz.prog w base spare held m 49 [c1] = some y1 from g1)
    simp at e0 e1 k0 k1
    subst e0 e1
    rw [k0, k1] at hx
    simp only [Prod.mk.injEq] at hx
    exact ⟨a, b, rfl, hx.1, hx.2, wa, wb⟩
theorem shut_u2 {a b : Int} (w1 : (Lit.int .u32 a).wf = true) (w2 : (Lit.int .u32 b).wf = true) :
    DataW.Trod enc Tryz.prog w base spare held 63 (.agg #[.int .u32 a, .int .u32 b]) (.agg [.lit (.int .u32 a), .lit (.int .u32 b)]) [] :=
  ⟨2, two_mk (y0 := (.lit (.int .u32 a), [])) (y1 := (.lit (.int .u32 b), [])) Tryz.underlying63 (by kernel_rfl) (by kernel_rfl) (trod_int_mk 0 Tryz.underlying49 w1) (trod_int_mk 0 Tryz.underlying49 w2)⟩
end
end Wx

namespace Wx

def digsF (b : Nat) : Nat → Nat → List Nat
  | 0, _ => []
  | f + 1, n => if n = 0 then [] else n % b :: digsF b f (n / b)
def digs (b n : Nat) : List Nat := digsF b n n
def val (b : Nat) : List Nat → Nat
  | [] => 0
  | x :: l => x + b * val b l
def Wf (b : Nat) (l : List Nat) : Prop := ∀ x ∈ l, x < b

theorem Wf.nil (b : Nat) : Wf b [] := fun _ h => absurd h (List.not_mem_nil)
theorem Wf.cons {b x : Nat} {l : List Nat} (hx : x < b) (h : Wf b l) : Wf b (x :: l) := by
  intro y hy
  rcases List.mem_cons.1 hy with rfl | h'
  · exact hx
  · exact h y h'
theorem Wf.append {b : Nat} {l r : List Nat} (h : Wf b l) (k : Wf b r) : Wf b (l ++ r) := by
  intro y hy
  rcases List.mem_append.1 hy with h' | h'
  · exact h y h'
  · exact k y h'
theorem Wf.take {b : Nat} {l : List Nat} (h : Wf b l) (n : Nat) : Wf b (l.take n) := fun x hx => h x (List.mem_of_mem_take hx)
theorem Wf.drop {b : Nat} {l : List Nat} (h : Wf b l) (n : Nat) : Wf b (l.drop n) := fun x hx => h x (List.mem_of_mem_drop hx)
theorem Wf.get {b : Nat} {l : List Nat} (h : Wf b l) {i : Nat} (hi : i < l.length) : l[i] < b := h _ (List.getElem_mem hi)
theorem Wf.replicate {b : Nat} (hb : 0 < b) (n : Nat) : Wf b (List.replicate n 0) := by
  intro x hx
  rw [(List.mem_replicate.1 hx).2]; exact hb
theorem Wf.set {b : Nat} {l : List Nat} (h : Wf b l) {i x : Nat} (hx : x < b) : Wf b (l.set i x) := by
  intro y hy
  rcases List.mem_or_eq_of_mem_set hy with h' | h'
  · exact h y h'
  · rw [h']; exact hx

theorem val_nil (b : Nat) : val b [] = 0 := rfl
theorem val_cons (b x : Nat) (l : List Nat) : val b (x :: l) = x + b * val b l := rfl
theorem val_append (b : Nat) (l r : List Nat) : val b (l ++ r) = val b l + b ^ l.length * val b r := by
  induction l with
  | nil => simp [val]
  | cons x l ih =>
    simp only [List.cons_append, val, ih, List.length_cons, Nat.pow_succ]
    rw [Nat.mul_add, ← Nat.add_assoc]
    congr 1
    rw [← Nat.mul_assoc, Nat.mul_comm b (b ^ l.length)]
theorem val_replicate (b n : Nat) : val b (List.replicate n 0) = 0 := by
  induction n with
  | zero => rfl
  | succ n ih => simp [List.replicate_succ, val, ih]
theorem val_lt {b : Nat} {l : List Nat} (h : Wf b l) : val b l < b ^ l.length := by
  induction l with
  | nil => simp [val]
  | cons x l ih =>
    have hx : x < b := h x (List.mem_cons_self)
    have hl := ih (fun y hy => h y (List.mem_cons_of_mem _ hy))
    simp only [val, List.length_cons, Nat.pow_succ]
    have : b * val b l + b ≤ b ^ l.length * b := by
      have := Nat.mul_le_mul_left b (Nat.succ_le_of_lt hl)
      rw [Nat.mul_succ] at this
      rw [Nat.mul_comm (b ^ l.length) b]; exact this
    omega
theorem val_take_succ (b : Nat) (l : List Nat) (i : Nat) (h : i < l.length) : val b (l.take (i + 1)) = val b (l.take i) + b ^ i * l[i] := by
  rw [List.take_succ_eq_append_getElem h, val_append, List.length_take, Nat.min_eq_left (Nat.le_of_lt h)]
  simp [val]
theorem val_snoc (b : Nat) (l : List Nat) (x : Nat) : val b (l ++ [x]) = val b l + b ^ l.length * x := by
  rw [val_append]; simp [val]
theorem val_take_drop (b : Nat) (l : List Nat) (i : Nat) (h : i ≤ l.length) : val b l = val b (l.take i) + b ^ i * val b (l.drop i) := by
  have := val_append b (l.take i) (l.drop i)
  rw [List.take_append_drop, List.length_take, Nat.min_eq_left h] at this
  exact this
theorem val_drop (b : Nat) (l : List Nat) (i : Nat) (h : i < l.length) : val b (l.drop i) = l[i] + b * val b (l.drop (i + 1)) := by
  rw [List.drop_eq_getElem_cons h]; rfl

theorem digsF_zero (b f : Nat) : digsF b f 0 = [] := by cases f <;> rfl
theorem digsF_more {b : Nat} (hb : 2 ≤ b) : ∀ (f g n : Nat), n ≤ f → n ≤ g → digsF b f n = digsF b g n := by
  intro f
  induction f with
  | zero =>
    intro g n hf hg
    obtain rfl : n = 0 := by omega
    rw [digsF_zero, digsF_zero]
  | succ f ih =>
    intro g n hf hg
    cases g with
    | zero =>
      obtain rfl : n = 0 := by omega
      rw [digsF_zero, digsF_zero]
    | succ g =>
      by_cases h0 : n = 0
      · subst h0; rfl
      · simp only [digsF, if_neg h0]
        have : n / b < n := Nat.div_lt_self (by omega) (by omega)
        rw [ih g (n / b) (by omega) (by omega)]
theorem digs_zero (b : Nat) : digs b 0 = [] := rfl
theorem digs_pos {b n : Nat} (hb : 2 ≤ b) (hn : 0 < n) : digs b n = n % b :: digs b (n / b) := by
  unfold digs
  cases n with
  | zero => omega
  | succ n =>
    have : (n + 1) / b < n + 1 := Nat.div_lt_self (by omega) (by omega)
    simp only [digsF, if_neg (Nat.succ_ne_zero n)]
    rw [digsF_more hb n ((n + 1) / b) _ (by omega) (Nat.le_refl _)]
theorem digs_wf {b : Nat} (hb : 2 ≤ b) : ∀ n, Wf b (digs b n) := by
  intro n
  induction n using Nat.strongRecOn with
  | _ n ih =>
    by_cases h0 : n = 0
    · subst h0; exact Wf.nil b
    · rw [digs_pos hb (by omega)]
      exact Wf.cons (Nat.mod_lt _ (by omega)) (ih _ (Nat.div_lt_self (by omega) (by omega)))
theorem val_digs {b : Nat} (hb : 2 ≤ b) : ∀ n, val b (digs b n) = n := by
  intro n
  induction n using Nat.strongRecOn with
  | _ n ih =>
    by_cases h0 : n = 0
    · subst h0; rfl
    · rw [digs_pos hb (by omega), val, ih _ (Nat.div_lt_self (by omega) (by omega))]
      exact Nat.mod_add_div n b
def Top (l : List Nat) : Prop := l.getLast? ≠ some 0
theorem Top.nil : Top [] := by simp [Top]
theorem digs_val {b : Nat} (hb : 2 ≤ b) : ∀ {l : List Nat}, Wf b l → Top l → digs b (val b l) = l := by
  intro l
  induction l with
  | nil => intro _ _; rfl
  | cons x l ih =>
    intro hw ht
    have hx : x < b := hw x (List.mem_cons_self)
    have hwl : Wf b l := fun y hy => hw y (List.mem_cons_of_mem _ hy)
    by_cases hl : l = []
    · subst hl
      have hx0 : x ≠ 0 := by simpa [Top] using ht
      have e : val b [x] = x := by simp [val]
      rw [e, digs_pos hb (by omega), Nat.mod_eq_of_lt hx, Nat.div_eq_of_lt hx, digs_zero]
    · have htl : Top l := by
        unfold Top at ht ⊢
        rwa [List.getLast?_cons_of_ne_nil hl] at ht
      have ihl := ih hwl htl
      have hv : 0 < val b l := by
        rcases Nat.eq_zero_or_pos (val b l) with h | h
        · rw [h, digs_zero] at ihl; exact absurd ihl.symm hl
        · exact h
      have hpos : 0 < val b (x :: l) := by
        have : 0 < b * val b l := Nat.mul_pos (by omega) hv
        rw [val]; omega
      rw [digs_pos hb hpos, val]
      have e1 : (x + b * val b l) % b = x := by rw [Nat.add_mul_mod_self_left, Nat.mod_eq_of_lt hx]
      have e2 : (x + b * val b l) / b = val b l := by rw [Nat.add_mul_div_left _ _ (by omega), Nat.div_eq_of_lt hx, Nat.zero_add]
      rw [e1, e2, ihl]
theorem digs_top {b : Nat} (hb : 2 ≤ b) : ∀ n, Top (digs b n) := by
  intro n
  induction n using Nat.strongRecOn with
  | _ n ih =>
    by_cases h0 : n = 0
    · subst h0; exact Top.nil
    · rw [digs_pos hb (by omega)]
      by_cases hq : n / b = 0
      · rw [hq, digs_zero]
        have : n < b := by
          rcases Nat.lt_or_ge n b with h | h
          · exact h
          · have h1 := Nat.div_pos h (by omega); rw [hq] at h1; exact absurd h1 (Nat.lt_irrefl 0)
        simp [Top, Nat.mod_eq_of_lt this, h0]
      · have hne : digs b (n / b) ≠ [] := by rw [digs_pos hb (Nat.pos_of_ne_zero hq)]; simp
        unfold Top
        rw [List.getLast?_cons_of_ne_nil hne]
        exact ih _ (Nat.div_lt_self (by omega) (by omega))
theorem digs_nil_iff {b n : Nat} (hb : 2 ≤ b) : digs b n = [] ↔ n = 0 := by
  constructor
  · intro h
    have := val_digs hb n
    rw [h] at this; exact this.symm
  · rintro rfl; rfl
theorem digs_length_pos {b n : Nat} (hb : 2 ≤ b) : 0 < (digs b n).length ↔ 0 < n := by
  rw [List.length_pos_iff, ne_eq, digs_nil_iff hb]; omega
theorem digs_small {b n : Nat} (hb : 2 ≤ b) (h0 : 0 < n) (h : n < b) : digs b n = [n] := by
  rw [digs_pos hb h0, Nat.mod_eq_of_lt h, Nat.div_eq_of_lt h, digs_zero]
theorem digs_length_le {b : Nat} (hb : 2 ≤ b) {n k : Nat} (h : n < b ^ k) : (digs b n).length ≤ k := by
  induction k generalizing n with
  | zero =>
    obtain rfl : n = 0 := by simpa using h
    simp [digs_zero]
  | succ k ih =>
    by_cases h0 : n = 0
    · subst h0; simp [digs_zero]
    · rw [digs_pos hb (by omega), List.length_cons]
      have : n / b < b ^ k := by rw [Nat.div_lt_iff_lt_mul (by omega)]; rwa [Nat.pow_succ] at h
      have := ih this
      omega
theorem lt_pow_digs {b : Nat} (hb : 2 ≤ b) (n : Nat) : n < b ^ (digs b n).length := by
  have := val_lt (digs_wf hb n)
  rwa [val_digs hb] at this
theorem pow_digs_le {b : Nat} (hb : 2 ≤ b) {n : Nat} (h : 0 < n) : b ^ ((digs b n).length - 1) ≤ n := by
  rcases Nat.lt_or_ge n (b ^ ((digs b n).length - 1)) with h' | h'
  · have := digs_length_le hb h'
    have := (digs_length_pos (n := n) hb).2 h
    omega
  · exact h'
theorem val_lt_of_top {b : Nat} {l r : List Nat} (hl : Wf b l) {i : Nat} (h1 : i < l.length) (h2 : i < r.length)
    (hd : l.drop (i + 1) = r.drop (i + 1)) (hlt : l[i] < r[i]) : val b l < val b r := by
  rw [val_take_drop b l i (by omega), val_take_drop b r i (by omega), val_drop b l i h1, val_drop b r i h2, hd]
  have hL := val_lt (hl.take i)
  rw [List.length_take, Nat.min_eq_left (by omega)] at hL
  have : b ^ i * (l[i] + b * val b (r.drop (i + 1))) + b ^ i ≤ b ^ i * (r[i] + b * val b (r.drop (i + 1))) := by
    rw [← Nat.mul_succ]
    exact Nat.mul_le_mul_left _ (by omega)
  omega
theorem val_lt_of_length {b : Nat} (hb : 2 ≤ b) {m n : Nat} (h : (digs b m).length < (digs b n).length) : m < n := by
  have h1 := lt_pow_digs hb m
  have h2 : 0 < n := (digs_length_pos hb).1 (by omega)
  have h3 := pow_digs_le hb h2
  have : b ^ (digs b m).length ≤ b ^ ((digs b n).length - 1) := Nat.pow_le_pow_right (by omega) (by omega)
  omega
theorem digs_inj {b : Nat} (hb : 2 ≤ b) {m n : Nat} (h : digs b m = digs b n) : m = n := by
  have := congrArg (val b) h
  rwa [val_digs hb, val_digs hb] at this
theorem val_of_zero_last' (b : Nat) (l : List Nat) (h : l.getLast? = some 0) : val b l.dropLast = val b l := by
  induction l with
  | nil => simp at h
  | cons x l ih =>
    by_cases hl : l = []
    · subst hl
      have : x = 0 := by simpa using h
      subst this
      simp [val]
    · rw [List.getLast?_cons_of_ne_nil hl] at h
      rw [List.dropLast_cons_of_ne_nil hl, val, val, ih h]
theorem top_of_pow {b : Nat} {l : List Nat} (hl : Wf b l) (h : l = [] ∨ b ^ (l.length - 1) ≤ val b l) : Top l := by
  rcases h with rfl | h
  · exact Top.nil
  · intro h0
    by_cases he : l = []
    · subst he; simp at h0
    · have hd := val_of_zero_last' b l h0
      have hw : Wf b l.dropLast := fun x hx => hl x (List.dropLast_subset l hx)
      have := val_lt hw
      rw [List.length_dropLast] at this
      omega
def Bd (k n : Nat) : Prop := n < 2 ^ k
theorem Bd.mono {j k n : Nat} (h : Bd j n) (hk : j ≤ k) : Bd k n := Nat.lt_of_lt_of_le h (Nat.pow_le_pow_right (by omega) hk)
theorem Bd.le {k m n : Nat} (h : Bd k n) (hm : m ≤ n) : Bd k m := Nat.lt_of_le_of_lt hm h
theorem Bd.pow2 {K k : Nat} (h : K < k) : Bd k (2 ^ K) := Nat.pow_lt_pow_right (by omega) h
theorem Bd.add {j k m n : Nat} (h : Bd j m) (g : Bd k n) : Bd (j + k + 1) (m + n) := by
  unfold Bd at *
  have h1 : 2 ^ j ≤ 2 ^ (j + k) := Nat.pow_le_pow_right (by omega) (by omega)
  have h2 : 2 ^ k ≤ 2 ^ (j + k) := Nat.pow_le_pow_right (by omega) (by omega)
  rw [Nat.pow_succ]
  omega
theorem Bd.mul {j k m n : Nat} (h : Bd j m) (g : Bd k n) : Bd (j + k) (m * n) := by
  unfold Bd at *
  rw [Nat.pow_add]
  rcases Nat.eq_zero_or_pos n with rfl | hn
  · simpa using Nat.mul_pos (Nat.two_pow_pos j) (Nat.two_pow_pos k)
  · exact Nat.lt_of_lt_of_le (Nat.mul_lt_mul_of_pos_right h hn) (Nat.mul_le_mul_left _ (Nat.le_of_lt g))
theorem Bd.digs {s k n : Nat} (hs : 0 < s) (h : Bd k n) : (digs (2 ^ s) n).length ≤ k / s + 1 := by
  have hb : 2 ≤ 2 ^ s := by
    have := Nat.pow_le_pow_right (show 0 < 2 by omega) (show 1 ≤ s by omega)
    simpa using this
  refine digs_length_le hb (Nat.lt_of_lt_of_le h ?_)
  rw [← Nat.pow_mul]
  refine Nat.pow_le_pow_right (by omega) ?_
  have := Nat.div_add_mod k s
  have := Nat.mod_lt k hs
  rw [Nat.mul_add]
  omega

theorem val_take_get {b : Nat} {l : List Nat} {i v : Nat} (h : l[i]? = some v) : val b (l.take (i + 1)) = val b (l.take i) + b ^ i * v := by
  obtain ⟨hi, rfl⟩ := List.getElem?_eq_some_iff.1 h
  exact val_take_succ b l i hi
theorem get_or_zero {b : Nat} (l : List Nat) (i : Nat) : val b (l.take (i + 1)) = val b (l.take i) + b ^ i * l.getD i 0 := by
  by_cases hi : i < l.length
  · rw [val_take_succ b l i hi, List.getD_eq_getElem?_getD, List.getElem?_eq_getElem hi]; rfl
  · rw [List.take_of_length_le (by omega), List.take_of_length_le (by omega), List.getD_eq_getElem?_getD, List.getElem?_eq_none (by omega)]; simp
theorem sum_step {b : Nat} {o x y : List Nat} {i c vx vy s t : Nat} (hol : o.length = i) (hv : val b o + b ^ i * c = val b (x.take i) + val b (y.take i))
    (hx : val b (x.take (i + 1)) = val b (x.take i) + b ^ i * vx) (hy : val b (y.take (i + 1)) = val b (y.take i) + b ^ i * vy) (hs : s + b * t = vx + vy + c) :
    val b (o ++ [s]) + b ^ (i + 1) * t = val b (x.take (i + 1)) + val b (y.take (i + 1)) := by
  rw [val_snoc, hol, hx, hy, Nat.pow_succ]
  have : b ^ i * s + b ^ i * b * t = b ^ i * (s + b * t) := by rw [Nat.mul_add, Nat.mul_assoc]
  rw [Nat.add_assoc, this, hs, Nat.mul_add, Nat.mul_add]
  omega
theorem set_mid {o r : List Nat} {i x : Nat} (h : o.length = i) (z : Nat) : (o ++ z :: r).set i x = o ++ x :: r := by
  subst h; simp
theorem val_lt_get {b : Nat} {l r : List Nat} {i x y : Nat} (hl : Wf b l) (hx : l[i]? = some x) (hy : r[i]? = some y) (hd : l.drop (i + 1) = r.drop (i + 1)) (h : x < y) : val b l < val b r := by
  obtain ⟨h1, rfl⟩ := List.getElem?_eq_some_iff.1 hx
  obtain ⟨h2, rfl⟩ := List.getElem?_eq_some_iff.1 hy
  exact val_lt_of_top hl h1 h2 hd h
theorem drop_get {l r : List Nat} {i x : Nat} (hx : l[i]? = some x) (hy : r[i]? = some x) (hd : l.drop (i + 1) = r.drop (i + 1)) : l.drop i = r.drop i := by
  obtain ⟨h1, rfl⟩ := List.getElem?_eq_some_iff.1 hx
  obtain ⟨h2, h3⟩ := List.getElem?_eq_some_iff.1 hy
  rw [List.drop_eq_getElem_cons h1, List.drop_eq_getElem_cons h2, hd, h3]
theorem dif_step {b : Nat} {o x y : List Nat} {i c vx vy s t : Nat} (hol : o.length = i) (hv : val b o + val b (y.take i) = val b (x.take i) + b ^ i * c)
    (hx : val b (x.take (i + 1)) = val b (x.take i) + b ^ i * vx) (hy : val b (y.take (i + 1)) = val b (y.take i) + b ^ i * vy) (hs : s + vy + c = vx + b * t) :
    val b (o ++ [s]) + val b (y.take (i + 1)) = val b (x.take (i + 1)) + b ^ (i + 1) * t := by
  rw [val_snoc, hol, hx, hy, Nat.pow_succ]
  have e1 : b ^ i * (s + vy + c) = b ^ i * (vx + b * t) := by rw [hs]
  rw [Nat.mul_add, Nat.mul_add, Nat.mul_add, ← Nat.mul_assoc] at e1
  omega
theorem val_set {b : Nat} {l : List Nat} {i u : Nat} (h : l[i]? = some u) (v : Nat) : val b (l.set i v) + b ^ i * u = val b l + b ^ i * v := by
  induction l generalizing i with
  | nil => simp at h
  | cons x l ih =>
    cases i with
    | zero =>
      have : x = u := by simpa using h
      subst this
      simp only [List.set_cons_zero, val, Nat.pow_zero]
      omega
    | succ i =>
      have := ih (i := i) (by simpa using h)
      simp only [List.set_cons_succ, val, Nat.pow_succ]
      have e1 : b * (val b (l.set i v) + b ^ i * u) = b * (val b l + b ^ i * v) := by rw [this]
      rw [Nat.mul_add, Nat.mul_add] at e1
      have c1 : b ^ i * b * u = b * (b ^ i * u) := by rw [Nat.mul_comm (b ^ i) b, Nat.mul_assoc]
      have c2 : b ^ i * b * v = b * (b ^ i * v) := by rw [Nat.mul_comm (b ^ i) b, Nat.mul_assoc]
      omega
theorem drop_set_lt {l : List Nat} {i j v : Nat} (h : i < j) : (l.set i v).drop j = l.drop j := by
  rw [List.drop_set]; rw [if_pos h]
theorem mul_step {b : Nat} {o y : List Nat} {i k x c u vy lo hi s : Nat} (hv : val b o + b ^ (i + k) * c = s + b ^ i * (x * val b (y.take k)))
    (hu : o[i + k]? = some u) (hy : y[k]? = some vy) (he : lo + b * hi = x * vy + u + c) :
    val b (o.set (i + k) lo) + b ^ (i + (k + 1)) * hi = s + b ^ i * (x * val b (y.take (k + 1))) := by
  have h1 := val_set (b := b) hu lo
  rw [val_take_get hy]
  have e : b ^ (i + k) * (lo + b * hi) = b ^ (i + k) * (x * vy + u + c) := by rw [he]
  rw [Nat.mul_add, Nat.mul_add, Nat.mul_add, ← Nat.mul_assoc, ← Nat.pow_succ] at e
  have e2 : b ^ i * (x * (val b (y.take k) + b ^ k * vy)) = b ^ i * (x * val b (y.take k)) + b ^ (i + k) * (x * vy) := by
    rw [Nat.mul_add, Nat.mul_add, Nat.pow_add]
    congr 1
    rw [Nat.mul_assoc, Nat.mul_left_comm x]
  rw [e2, show i + (k + 1) = (i + k).succ from rfl]
  omega
theorem getD_set_ne {l : List Nat} {i p v : Nat} (h : i ≠ p) : (l.set i v).getD p 0 = l.getD p 0 := by
  rw [List.getD_eq_getElem?_getD, List.getD_eq_getElem?_getD, List.getElem?_set_ne h]
end Wx
