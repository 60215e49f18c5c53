import Derived.Test.YtncpoijmhgihjaaRows
import Derived.WalkKit
import Derived.ProofKit
import Derived.OpenShut
import Derived.Below
import Derived.ChangeSame
import Derived.Lib.SmallJoins
namespace Wx
open Go Go.RowKit Go.Proofs Go.ChangeShapes Go.WideShapes Go.ChangeAt Go.Joins

section
variable {H : Type} {enc : TypeId × Value → H} {P : Program}
/-- What a row asks of the world behind a call that leaves what was there. -/
theorem post_of_below {f : Func} {s : ChangeSpec} {apart fresh handsOn again : Bool} {W W' : World} {args : Array Value} {v : Value} {ds gs : List (DataW H)} {before pa pv : List MemPlace}
    (hW : DataW.Whole enc P f.params.toList s.vars apart W args.toList ds gs before)
    (hres : ∀ (b : Nat) (sp : Nat → Bool) (hd : Bool), DataW.TrodAll enc P W' b sp hd f.resultTypes.toList (v.resultList f.resultTypes.size) (s.fn H (ds ++ gs)).results [])
    (hargs : ∀ sp : Nat → Bool, (∀ p ∈ before, sp p.block = true) → DataW.TrodAll enc P W' 0 sp true f.params.toList args.toList (s.fn H (ds ++ gs)).args pa)
    (hvars : ∀ sp : Nat → Bool, (∀ p ∈ before, sp p.block = true) → DataW.TrodVars enc P W' sp s.vars (s.fn H (ds ++ gs)).vars pv)
    (hps : before = pa ++ pv) (hb : Below W.heap.size W W')
    (hok : ∀ (j : Nat) (t : TypeId) (r : Value), f.resultTypes[j]? = some t → (v.resultList f.resultTypes.size)[j]? = some r → Value.okWide P W' .any 0 t r) :
    s.post enc P f apart fresh handsOn again W args v W' := by
  have hlt : ∀ p ∈ before, p.block < W.heap.size := fun p hp => hW.lt p hp
  have hold : ∀ p ∈ before, (fun b => decide (b < W.heap.size)) p.block = true := fun p hp => by simpa using hlt p hp
  refine ⟨ds, gs, before, [], pa, pv, hW, hres _ _ _, hargs _ hold, hvars _ hold, World.keptBut_mono (fun p hp => ⟨hp, ?_⟩) (hb.frame (· ∈ before)), fun _ => ?_⟩
  · rw [hps, List.mem_append] at hp
    exact Or.inr hp
  · obtain ⟨_, _, _, _, _, hz, hn⟩ := hW
    refine ⟨hok, _, _, ([] ++ pa) ++ pv, ⟨[] ++ pa, pv, trodAll_append (hargs _ (fun _ _ => rfl)) (hres _ _ _), hvars _ (fun _ _ => rfl), rfl, ?_, ?_⟩, ?_⟩
    · intro b off hp
      have hin : MemPlace.cell b off ∈ before := by rw [hps]; simpa using hp
      rw [hb.frozen (hlt _ hin)]
      exact hz b off hin
    · intro ha
      have := hn ha
      rw [hps] at this
      simpa using this
    · intro p hp _
      rw [hps]
      simpa using hp
end

set_option maxRecDepth 100000 in
theorem open_frac {H : Type} {enc : TypeId × Value → H} {w : World} {base : Nat} {spare : Nat → Bool} {held : Bool} {r : Reach} {b0 : Nat} {v : Value} {d : DataW H} {p : List MemPlace}
    (hv : Value.okWide Try.prog w r b0 23 v) (h : DataW.Trod enc Try.prog w base spare held 23 v d p) :
    ∃ n m : Int, v = .agg #[.int .i64 n, .int .i64 m] ∧ d = .agg [.lit (.int .i64 n), .lit (.int .i64 m)] ∧ p = [] ∧ (Lit.int .i64 n).wf = true ∧ (Lit.int .i64 m).wf = true := by
  obtain ⟨c0, c1, y0, y1, k, rfl, rfl, rfl, hy0, hy1⟩ := open_agg2 Try.underlying23 (by kernel_rfl) (by kernel_rfl) hv h
  obtain ⟨a, e0, rfl, wa⟩ := DataW.trod_int Try.underlying2 hy0
  obtain ⟨b, e1, rfl, wb⟩ := DataW.trod_int Try.underlying2 hy1
  simp at e0 e1
  subst e0 e1
  exact ⟨a, b, rfl, rfl, rfl, wa, wb⟩
set_option maxRecDepth 100000 in
theorem shut_frac {H : Type} {enc : TypeId × Value → H} {w : World} {base : Nat} {spare : Nat → Bool} {held : Bool} {n m : Int} (wa : (Lit.int .i64 n).wf = true) (wb : (Lit.int .i64 m).wf = true) :
    DataW.Trod enc Try.prog w base spare held 23 (.agg #[.int .i64 n, .int .i64 m]) (.agg [.lit (.int .i64 n), .lit (.int .i64 m)]) [] :=
  shut_agg2 (y0 := (.lit (.int .i64 n), [])) (y1 := (.lit (.int .i64 m), [])) Try.underlying23 (by kernel_rfl) (by kernel_rfl) ⟨1, by simp [DataW.trod, Try.underlying2, wa]⟩ ⟨1, by simp [DataW.trod, Try.underlying2, wb]⟩
theorem wf_i64 {n : Int} (h : (Lit.int .i64 n).wf = true) : -9223372036854775808 ≤ n ∧ n ≤ 9223372036854775807 := by
  simp [Lit.wf, IntKind.min, IntKind.max, IntKind.bits, IntKind.signed] at h
  omega
end Wx

namespace Wx
open Go Go.RowKit Go.Proofs Go.ChangeShapes Go.WideShapes Go.ChangeAt Go.Joins Go.Deep

theorem arr4 (T : Array Value) (h : T.size = 4) : ∃ a b c d : Value, T = #[a, b, c, d] := by
  obtain ⟨l⟩ := T
  simp only [List.size_toArray] at h
  match l, h with
  | [a, b, c, d], _ => exact ⟨a, b, c, d, rfl⟩
section
variable {H : Type} {enc : TypeId × Value → H} {P : Program} {w : World} {base : Nat} {spare : Nat → Bool} {held : Bool}
/-- Two cells that read as a struct of two one-cell fields. -/
theorem cells2 {t : TypeId} {f0 f1 : Field} {m : Nat} {c0 c1 : Value} {y : DataW H × List MemPlace} (hs : P.underlying t = some (.struct #[f0, f1])) (hone : oneCellFields P #[f0, f1] = true) (h : DataW.trod enc P w base spare held m t [c0, c1] = some y) :
    ∃ y0 y1 n, y = (.agg [y0.1, y1.1], y0.2 ++ y1.2) ∧ DataW.trod enc P w base spare held n f0.type [c0] = some y0 ∧ DataW.trod enc P w base spare held n f1.type [c1] = some y1 := by
  obtain ⟨y0, y1, n, hx, _, h0, h1⟩ := trod_struct2 hs h
  obtain ⟨o0, k0⟩ := hone_of hone 0 f0 rfl
  obtain ⟨o1, k1⟩ := hone_of hone 1 f1 rfl
  exact ⟨y0, y1, n, hx, by simpa [o0, k0] using h0, by simpa [o1, k1] using h1⟩
theorem mk2 {t : TypeId} {f0 f1 : Field} {n : Nat} {c0 c1 : Value} {y0 y1 : DataW H × List MemPlace} (hs : P.underlying t = some (.struct #[f0, f1])) (hone : oneCellFields P #[f0, f1] = true) (hC : P.cellsOf t = 2)
    (h0 : DataW.trod enc P w base spare held n f0.type [c0] = some y0) (h1 : DataW.trod enc P w base spare held n f1.type [c1] = some y1) : DataW.trod enc P w base spare held (n + 1) t [c0, c1] = some (.agg [y0.1, y1.1], y0.2 ++ y1.2) := by
  obtain ⟨o0, k0⟩ := hone_of hone 0 f0 rfl
  obtain ⟨o1, k1⟩ := hone_of hone 1 f1 rfl
  exact trod_struct2_mk hs (by simp [hC]) (by simpa [o0, k0] using h0) (by simpa [o1, k1] using h1)
theorem pairs_mk {t e : TypeId} {m : Nat} {c0 c1 c2 c3 : Value} {y0 y1 : DataW H × List MemPlace} (ht : P.underlying t = some (.array 2 e)) (hc : P.cellsOf e = 2) (hC : P.cellsOf t = 4)
    (h0 : DataW.trod enc P w base spare held m e [c0, c1] = some y0) (h1 : DataW.trod enc P w base spare held m e [c2, c3] = some y1) : DataW.trod enc P w base spare held (m + 1) t [c0, c1, c2, c3] = some (.agg [y0.1, y1.1], y0.2 ++ y1.2) := by
  have hp : (List.range 2).mapM (fun i => DataW.trod enc P w base spare held m e (([c0, c1, c2, c3].drop (i * P.cellsOf e)).take (P.cellsOf e))) = some [y0, y1] := by simp [hc, List.range, List.range.loop, h0, h1]
  unfold DataW.trod
  rw [ht]
  split <;> simp_all
end
section
variable {H : Type} {enc : TypeId × Value → H} {w : World} {base : Nat} {spare : Nat → Bool} {held : Bool}
set_option maxRecDepth 100000 in
theorem cells_frac {m : Nat} {c0 c1 : Value} {y : DataW H × List MemPlace} (h : DataW.trod enc Try.prog w base spare held m 23 [c0, c1] = some y) :
    ∃ n k : Int, c0 = .int .i64 n ∧ c1 = .int .i64 k ∧ y = (.agg [.lit (.int .i64 n), .lit (.int .i64 k)], []) ∧ (Lit.int .i64 n).wf = true ∧ (Lit.int .i64 k).wf = true := by
  obtain ⟨y0, y1, n, rfl, hy0, hy1⟩ := cells2 Try.underlying23 (by kernel_rfl) h
  obtain ⟨a, e0, rfl, wa⟩ := DataW.trod_int Try.underlying2 hy0
  obtain ⟨b, e1, rfl, wb⟩ := DataW.trod_int Try.underlying2 hy1
  simp at e0 e1
  exact ⟨a, b, e0, e1, rfl, wa, wb⟩
set_option maxRecDepth 100000 in
theorem open_frac2 {r : Reach} {b0 : Nat} {v : Value} {d : DataW H} {p : List MemPlace}
    (hv : Value.okWide Try.prog w r b0 39 v) (h : DataW.Trod enc Try.prog w base spare held 39 v d p) :
    ∃ n1 d1 n2 d2 : Int, v = .agg #[.int .i64 n1, .int .i64 d1, .int .i64 n2, .int .i64 d2] ∧ d = .agg [.agg [.lit (.int .i64 n1), .lit (.int .i64 d1)], .agg [.lit (.int .i64 n2), .lit (.int .i64 d2)]] ∧ p = [] ∧
      (Lit.int .i64 n1).wf = true ∧ (Lit.int .i64 d1).wf = true ∧ (Lit.int .i64 n2).wf = true ∧ (Lit.int .i64 d2).wf = true := by
  have hc : Try.prog.cellsOf 23 = 2 := by kernel_rfl
  have hC : Try.prog.cellsOf 39 = 4 := by kernel_rfl
  simp only [Value.okWide, Try.underlying39] at hv
  obtain ⟨cs, rfl, hsz, _⟩ := hv
  obtain ⟨c0, c1, c2, c3, rfl⟩ := arr4 cs (hsz.trans hC)
  obtain ⟨fuel, hf⟩ := h
  obtain ⟨xs, m, rfl, hx, _, hl, hg⟩ := DataW.trod_array Try.underlying39 hf
  match xs, hl with
  | [y0, y1], _ =>
    have g0 := hg 0 (by omega)
    have g1 := hg 1 (by omega)
    rw [hc] at g0 g1
    obtain ⟨n1, d1, rfl, rfl, rfl, w1, w2⟩ := cells_frac (c0 := c0) (c1 := c1) g0
    obtain ⟨n2, d2, rfl, rfl, rfl, w3, w4⟩ := cells_frac (c0 := c2) (c1 := c3) g1
    simp only [Prod.mk.injEq] at hx
    exact ⟨n1, d1, n2, d2, rfl, hx.1, hx.2, w1, w2, w3, w4⟩
set_option maxRecDepth 100000 in
theorem frac_mk {n m : Int} (wa : (Lit.int .i64 n).wf = true) (wb : (Lit.int .i64 m).wf = true) :
    DataW.trod enc Try.prog w base spare held 2 23 [.int .i64 n, .int .i64 m] = some (.agg [.lit (.int .i64 n), .lit (.int .i64 m)], []) :=
  mk2 (y0 := (.lit (.int .i64 n), [])) (y1 := (.lit (.int .i64 m), [])) Try.underlying23 (by kernel_rfl) (by kernel_rfl) (trod_int_mk 0 Try.underlying2 wa) (trod_int_mk 0 Try.underlying2 wb)
set_option maxRecDepth 100000 in
theorem shut_frac2 {n1 d1 n2 d2 : Int} (w1 : (Lit.int .i64 n1).wf = true) (w2 : (Lit.int .i64 d1).wf = true) (w3 : (Lit.int .i64 n2).wf = true) (w4 : (Lit.int .i64 d2).wf = true) :
    DataW.Trod enc Try.prog w base spare held 39 (.agg #[.int .i64 n1, .int .i64 d1, .int .i64 n2, .int .i64 d2]) (.agg [.agg [.lit (.int .i64 n1), .lit (.int .i64 d1)], .agg [.lit (.int .i64 n2), .lit (.int .i64 d2)]]) [] :=
  ⟨3, pairs_mk Try.underlying39 (by kernel_rfl) (by kernel_rfl) (frac_mk w1 w2) (frac_mk w3 w4)⟩
end
end Wx

namespace Wx
open Go Go.RowKit Go.Proofs

theorem wf_u8 {n : Int} (h : (Lit.int .u8 n).wf = true) : 0 ≤ n ∧ n ≤ 255 := by
  simp [Lit.wf, IntKind.min, IntKind.max, IntKind.bits, IntKind.signed] at h
  omega
theorem wf_i8 {n : Int} (h : (Lit.int .i8 n).wf = true) : -128 ≤ n ∧ n ≤ 127 := by
  simp [Lit.wf, IntKind.min, IntKind.max, IntKind.bits, IntKind.signed] at h
  omega
end Wx
