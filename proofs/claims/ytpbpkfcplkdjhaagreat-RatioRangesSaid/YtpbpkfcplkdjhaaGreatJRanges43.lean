import Derived.Handy
import Derived.KernelRfl
import Derived.Test.YtpbpkfcplkdjhaaGreatProg
import Derived.Test.YtpbpkfcplkdjhaaGreatJRanges0
import Derived.Test.YtpbpkfcplkdjhaaGreatJRanges1
import Derived.Test.YtpbpkfcplkdjhaaGreatCRat1
import Derived.Test.YtpbpkfcplkdjhaaGreatJRanges10
import Derived.Test.YtpbpkfcplkdjhaaGreatCRat3
import Derived.Test.YtpbpkfcplkdjhaaGreatCLess
import Derived.Test.YtpbpkfcplkdjhaaGreatJRanges29
import Derived.Test.YtpbpkfcplkdjhaaGreatJRanges14
import Derived.Test.YtpbpkfcplkdjhaaGreatInv
import Derived.Test.YtpbpkfcplkdjhaaGreatJRanges15
import Derived.Test.YtpbpkfcplkdjhaaGreatJRanges22
import Derived.Test.YtpbpkfcplkdjhaaGreatCSem
import Derived.Test.YtpbpkfcplkdjhaaGreatCSemOps
import Derived.Test.YtpbpkfcplkdjhaaGreatCSemMem
import Derived.Test.YtpbpkfcplkdjhaaGreatCSemCode
import Derived.Test.YtpbpkfcplkdjhaaGreatJRanges27
import Derived.Test.YtpbpkfcplkdjhaaGreatCSemRow
import Derived.Test.YtpbpkfcplkdjhaaGreatJRanges41
import Derived.Test.YtpbpkfcplkdjhaaGreatCRanges
import Derived.Test.YtpbpkfcplkdjhaaGreatJRanges18
import Derived.Test.YtpbpkfcplkdjhaaGreatJRanges20
import Derived.Test.YtpbpkfcplkdjhaaGreatCText
import Derived.Test.YtpbpkfcplkdjhaaGreatCParse
namespace Wx
open Go Go.RowKit Go.Proofs
set_option linter.unusedVariables false

set_option maxRecDepth 100000 in
theorem cl_range {n1 d1 n2 d2 : Int} {x1 x2 : Rat} (e1 : x1 = ofR n1 d1) (f1 : FracOk n1 d1) (e2 : x2 = ofR n2 d2) (f2 : FracOk n2 d2) {xl xh : Rat} (el : xl = min4 x1 x1 x2 x2) (eh : xh = max4 x1 x1 x2 x2) : ∀ (M : Nat → Nat → Prop) (w : World) (v0 : Value), Mid M w → Box M (fun w => (pS [⟨true, 2, pFrac n1 d1⟩, ⟨true, 2, pFrac n2 d2⟩]) w v0) w → Calls Tryz.prog 11 #[v0] w (RetB M (pPair xl xh) w) := by
  intro M w0 v0 hM hv0
  have B1 : BdR 64 x1 := e1 ▸ bd_ok f1
  have B2 : BdR 64 x2 := e2 ▸ bd_ok f2
  have B3 : BdR 64 (min4 x1 x1 x2 x2) := BdR.mono (bd_min4 (B1) (B1) (B2) (B2)) (by omega)
  have B4 : BdR 64 (max4 x1 x1 x2 x2) := BdR.mono (bd_max4 (B1) (B1) (B2) (B2)) (by omega)
  refine calls_start (N := 12) Tryz.func11 rfl rfl rfl hM (show EntsA M w0 [v0] [⟨none, none, 0, pS [⟨true, 2, pFrac n1 d1⟩, ⟨true, 2, pFrac n2 d2⟩]⟩] from ⟨⟨rfl, _, rfl, hv0⟩, trivial⟩) fun a hI => ?_
  refine seq_text (V1 := [⟨1, 1, some 0, none, .ptr, 24, 4, true, pS [⟨true, 2, pFrac n1 d1⟩, ⟨true, 2, pFrac n2 d2⟩], []⟩, ⟨2, 2, some 1, none, .ptr, 30, 6, true, pPair 0 0, []⟩]) (A1 := []) (G1 := [⟨none, none, 0, pS [⟨true, 2, pFrac n1 d1⟩, ⟨true, 2, pFrac n2 d2⟩]⟩]) (V2 := [⟨1, 1, none, none, .ptr, 24, 4, true, pS [⟨true, 2, pFrac n1 d1⟩, ⟨true, 2, pFrac n2 d2⟩], []⟩, ⟨2, 2, none, none, .ptr, 30, 6, true, pPair 0 0, []⟩]) (G2 := []) hI rfl rfl rfl [0, 1] (by kernel_rfl) (by kernel_rfl) ?_ [0, 1] [] rfl rfl fun a w hI => ?_
  · exact ⟨op_box 0 rfl rfl (by kernel_rfl) (by kernel_rfl) rfl rfl rfl (.tmp 0 rfl rfl) (fits_s (fs := [⟨true, 2, pFrac n1 d1⟩, ⟨true, 2, pFrac n2 d2⟩]) ⟨fits_frac _ _, fits_frac _ _, trivial⟩ rfl) rfl,
      op_alloc 1 rfl rfl (by kernel_rfl) (by kernel_rfl) rfl rfl rfl zv_Range rfl rfl (by simp [NoU]) (fun w => pS_of (cells_pair0 w)),
      trivial⟩
  refine seq_drawn (V1 := [⟨1, 1, none, none, .ptr, 24, 4, true, pS [⟨true, 2, pFrac n1 d1⟩, ⟨true, 2, pFrac n2 d2⟩], []⟩, ⟨2, 2, none, none, .ptr, 30, 6, true, pPair 0 0, [(9, pPair (min4 x1 x1 x2 x2) (max4 x1 x1 x2 x2))]⟩]) (A1 := [⟨some 0, 3, 1, 0, True⟩, ⟨some 4, 7, 1, 2, True⟩]) (G1 := [⟨some 1, none, 4, pFrac n1 d1⟩, ⟨some 2, none, 5, pRat x1⟩, ⟨some 3, none, 6, pPair x1 x1⟩, ⟨some 5, none, 8, pFrac n2 d2⟩, ⟨some 6, none, 9, pRat x2⟩, ⟨some 7, none, 10, pPair x2 x2⟩, ⟨some 8, none, 11, pPair (min4 x1 x1 x2 x2) (max4 x1 x1 x2 x2)⟩]) (V2 := [⟨1, 1, none, none, .ptr, 24, 4, true, pS [⟨true, 2, pFrac n1 d1⟩, ⟨true, 2, pFrac n2 d2⟩], []⟩, ⟨2, 2, none, none, .ptr, 30, 6, true, pPair (min4 x1 x1 x2 x2) (max4 x1 x1 x2 x2), []⟩]) (G2 := []) hI rfl rfl rfl [0, 1, 3, 7, 0, 16, 63, 127, 255, 511] (by kernel_rfl) (by kernel_rfl) (by kernel_rfl) (by kernel_rfl) ?_ [0, 1] [] rfl rfl fun a w hI => ?_
  · exact ⟨op_index 0 rfl rfl rfl 0 rfl rfl rfl rfl (.inl ⟨rfl, rfl⟩) rfl (by kernel_rfl) (.const _) (fun _ _ => by kernel_rfl),
      op_loadAl 0 rfl 0 rfl rfl rfl rfl rfl trivial rfl rfl (by kernel_rfl) ty_Frac rfl rfl (fd_get (fs := [⟨true, 2, pFrac n1 d1⟩, ⟨true, 2, pFrac n2 d2⟩]) 0 (f := ⟨true, 2, pFrac n1 d1⟩) rfl (off := 0) rfl) (.here 0 rfl),
      op_call1 (fun _ _ => by kernel_rfl) (numlike_rat _) (.tmp 0 rfl rfl) (.here 1 rfl) (c_of e1 f1),
      op_callB1 (fun _ _ => by kernel_rfl) (.tmp 1 rfl rfl) (.here 2 rfl) (cr_only _),
      op_index 0 rfl rfl rfl 1 rfl rfl rfl rfl (.inl ⟨rfl, rfl⟩) rfl (by kernel_rfl) (.const _) (fun _ _ => by kernel_rfl),
      op_loadAl 0 rfl 1 rfl rfl rfl rfl rfl trivial rfl rfl (by kernel_rfl) ty_Frac rfl rfl (fd_get (fs := [⟨true, 2, pFrac n1 d1⟩, ⟨true, 2, pFrac n2 d2⟩]) 1 (f := ⟨true, 2, pFrac n2 d2⟩) rfl (off := 2) rfl) (.here 3 rfl),
      op_call1 (fun _ _ => by kernel_rfl) (numlike_rat _) (.tmp 3 rfl rfl) (.here 4 rfl) (c_of e2 f2),
      op_callB1 (fun _ _ => by kernel_rfl) (.tmp 4 rfl rfl) (.here 5 rfl) (cr_only _),
      op_callB2 (fun _ _ => by kernel_rfl) (.tmp 2 rfl rfl) (.tmp 5 rfl rfl) (.here 6 rfl) (cr_hull (j := 64) ⟨B1, B1⟩ ⟨B2, B2⟩ (by omega)),
      op_store 1 rfl rfl rfl rfl 0 rfl (by kernel_rfl) (by kernel_rfl) ty_Range (.tmp 6 rfl rfl) (fits_pair _ _),
      trivial⟩
  refine wp_ret ?_
  exact fin1 hI rfl (.imp (.cell 1 rfl rfl rfl rfl ty_Range rfl) (by rw [el, eh]; exact fun _ _ h => h))
end Wx

namespace Wx
open Go Go.RowKit Go.Proofs

theorem valD_decB : ∀ n, valD (decB n) = n := by
  intro n
  induction n using Nat.strongRecOn with
  | _ n ih =>
    rcases Nat.eq_zero_or_pos n with h | h
    · subst h; rfl
    · rw [decB_pos h, valD_app, ih (n / 10) (by omega)]; omega
theorem valD_textB (n : Nat) : valD (textB n) = n := by
  unfold textB
  split
  · next h => rw [h]; rfl
  · exact valD_decB n
theorem textB_dig {n x : Nat} (h : x ∈ textB n) : 48 ≤ x ∧ x ≤ 57 := by
  unfold textB at h
  split at h
  · simp at h; omega
  · exact decB_dig h
theorem textB_ne (n : Nat) : textB n ≠ [] := by
  unfold textB
  split
  · simp
  · next h => exact List.length_pos_iff.1 (decB_len_pos (by omega))
theorem decB_head {n : Nat} (h : 0 < n) : (decB n).getD 0 0 ≠ 48 := by
  have ht : (digs 10 n).getLast? ≠ some 0 := digs_top (b := 10) (by omega) n
  have hne : digs 10 n ≠ [] := List.length_pos_iff.1 ((digs_length_pos (by omega)).2 h)
  unfold decB
  rw [List.getD_eq_getElem?_getD, ← List.head?_eq_getElem?, List.head?_reverse, List.getLast?_map]
  rw [List.getLast?_eq_some_getLast hne] at ht ⊢
  intro h'
  apply ht
  simp at h'
  rw [h']
theorem digitsB_textB (n : Nat) : digitsB (textB n) = true := by
  unfold digitsB
  rw [Bool.and_eq_true]
  constructor
  · rw [List.all_eq_true]
    intro x hx
    have := textB_dig hx
    unfold isDig; simp; omega
  · unfold textB
    split
    · rfl
    · next h =>
      rw [Bool.or_eq_true, Bool.and_eq_true]
      right
      exact ⟨decide_eq_true (List.length_pos_iff.1 (decB_len_pos (by omega))), decide_eq_true (decB_head (by omega))⟩
theorem slash_textB (n : Nat) : ¬ 47 ∈ textB n := fun h => by have := textB_dig h; omega
theorem befS_app {a b : List Nat} (h : ¬ 47 ∈ a) : befS (a ++ 47 :: b) = a := by
  unfold befS
  induction a with
  | nil => simp
  | cons x a ih =>
    have hx : x ≠ 47 := by rintro rfl; exact h (by simp)
    rw [List.cons_append, List.takeWhile_cons]
    simp only [decide_eq_true_eq, ne_eq, hx, not_false_eq_true, if_true]
    rw [ih (fun h' => h (List.mem_cons_of_mem _ h'))]
theorem aftS_app {a b : List Nat} (h : ¬ 47 ∈ a) : aftS (a ++ 47 :: b) = b := by
  unfold aftS
  rw [befS_app h]
  rw [List.drop_append, List.drop_eq_nil_of_le (by omega)]
  simp
/-- The text without its sign. -/
def bodyR (q : Rat) : List Nat := textB q.num.natAbs ++ (if q.den = 1 then [] else 47 :: textB q.den)
theorem body_head (q : Rat) : (bodyR q).head? ≠ some 45 := by
  unfold bodyR
  cases h : textB q.num.natAbs with
  | nil => exact absurd h (textB_ne _)
  | cons x l =>
    have := textB_dig (n := q.num.natAbs) (x := x) (by rw [h]; simp)
    simp; omega
theorem restS_text (q : Rat) : restS (textR q) = bodyR q ∧ negS (textR q) = decide (q.num < 0) := by
  unfold textR
  change restS ((if q.num < 0 then [45] else []) ++ bodyR q) = bodyR q ∧ negS ((if q.num < 0 then [45] else []) ++ bodyR q) = decide (q.num < 0)
  by_cases h : q.num < 0
  · rw [if_pos h, decide_eq_true h]
    exact ⟨rfl, rfl⟩
  · rw [if_neg h, List.nil_append, decide_eq_false h]
    exact ⟨if_neg (body_head q), decide_eq_false (body_head q)⟩
theorem body_parts (q : Rat) : befS (bodyR q) = textB q.num.natAbs ∧ digitsB (denS (bodyR q)) = true ∧ valD (denS (bodyR q)) = q.den ∧ denS (bodyR q) ≠ [48] := by
  have hd := q.den_pos
  unfold bodyR
  by_cases h : q.den = 1
  · rw [if_pos h, List.append_nil, befS_none (slash_textB _)]
    have e : denS (textB q.num.natAbs) = [49] := if_neg (slash_textB _)
    rw [e, h]
    exact ⟨rfl, rfl, rfl, by simp⟩
  · rw [if_neg h, befS_app (slash_textB _)]
    have e : denS (textB q.num.natAbs ++ 47 :: textB q.den) = textB q.den := by
      unfold denS
      rw [if_pos (by simp), aftS_app (slash_textB _)]
    rw [e]
    refine ⟨rfl, digitsB_textB _, valD_textB _, fun h' => ?_⟩
    have := valD_textB q.den
    rw [h'] at this
    simp [valD] at this
    omega
theorem parse_text (q : Rat) : parseOk (textR q) = true ∧ parseQ (textR q) = q := by
  obtain ⟨h1, h2⟩ := restS_text q
  obtain ⟨h3, h4, h5, h6⟩ := body_parts q
  unfold parseOk parseQ
  rw [h1, h2, h3, h4, h5, digitsB_textB, valD_textB, decide_eq_true h6]
  refine ⟨rfl, ?_⟩
  unfold redR
  rw [sg_mk, Rat.mkRat_self]
theorem textR_inj {x y : Rat} (h : textR x = textR y) : x = y := by
  rw [← (parse_text x).2, ← (parse_text y).2, h]
theorem textR_len {j : Nat} {q : Rat} (h : BdR j q) : (textR q).length ≤ 2 * j + 4 := by
  have h1 := textB_len h.1
  have h2 := textB_len h.2
  unfold textR
  rw [List.length_append, List.length_append]
  split <;> split <;> simp <;> omega
end Wx
