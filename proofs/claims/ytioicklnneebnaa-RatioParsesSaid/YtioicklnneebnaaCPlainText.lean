import Derived.Test.YtioicklnneebnaaProg
import Derived.Test.YtioicklnneebnaaPlain1
import Derived.Test.YtioicklnneebnaaMem
import Derived.Test.YtioicklnneebnaaCRat1
import Derived.Test.YtioicklnneebnaaCRat2
import Derived.Test.YtioicklnneebnaaJParses17
import Derived.Test.YtioicklnneebnaaJParses23
import Derived.Test.YtioicklnneebnaaCFrom
import Derived.Test.YtioicklnneebnaaJParses25
import Derived.Test.YtioicklnneebnaaCText
import Derived.Test.YtioicklnneebnaaCRText
import Derived.Test.YtioicklnneebnaaCParse
namespace Wx
open Go Go.RowKit Go.Proofs

theorem valD_decB : ∀ n, valD (decB n) = n := by
  intro n
  induction n using Nat.strongRecOn with
  | _ n ih =>
    rcases Nat.eq_zero_or_pos n with h | h
    · subst h; rfl
    · rw [decB_pos h, valD_app, ih (n / 10) (by omega)]; omega
theorem valD_textB (n : Nat) : valD (textB n) = n := by
  unfold textB
  split
  · next h => rw [h]; rfl
  · exact valD_decB n
theorem textB_dig {n x : Nat} (h : x ∈ textB n) : 48 ≤ x ∧ x ≤ 57 := by
  unfold textB at h
  split at h
  · simp at h; omega
  · exact decB_dig h
theorem textB_ne (n : Nat) : textB n ≠ [] := by
  unfold textB
  split
  · simp
  · next h => exact List.length_pos_iff.1 (decB_len_pos (by omega))
theorem decB_head {n : Nat} (h : 0 < n) : (decB n).getD 0 0 ≠ 48 := by
  have ht : (digs 10 n).getLast? ≠ some 0 := digs_top (b := 10) (by omega) n
  have hne : digs 10 n ≠ [] := List.length_pos_iff.1 ((digs_length_pos (by omega)).2 h)
  unfold decB
  rw [List.getD_eq_getElem?_getD, ← List.head?_eq_getElem?, List.head?_reverse, List.getLast?_map]
  rw [List.getLast?_eq_some_getLast hne] at ht ⊢
  intro h'
  apply ht
  simp at h'
  rw [h']
theorem digitsB_textB (n : Nat) : digitsB (textB n) = true := by
  unfold digitsB
  rw [Bool.and_eq_true]
  constructor
  · rw [List.all_eq_true]
    intro x hx
    have := textB_dig hx
    unfold isDig; simp; omega
  · unfold textB
    split
    · rfl
    · next h =>
      rw [Bool.or_eq_true, Bool.and_eq_true]
      right
      exact ⟨decide_eq_true (List.length_pos_iff.1 (decB_len_pos (by omega))), decide_eq_true (decB_head (by omega))⟩
theorem slash_textB (n : Nat) : ¬ 47 ∈ textB n := fun h => by have := textB_dig h; omega
theorem befS_app {a b : List Nat} (h : ¬ 47 ∈ a) : befS (a ++ 47 :: b) = a := by
  unfold befS
  induction a with
  | nil => simp
  | cons x a ih =>
    have hx : x ≠ 47 := by rintro rfl; exact h (by simp)
    rw [List.cons_append, List.takeWhile_cons]
    simp only [decide_eq_true_eq, ne_eq, hx, not_false_eq_true, if_true]
    rw [ih (fun h' => h (List.mem_cons_of_mem _ h'))]
theorem aftS_app {a b : List Nat} (h : ¬ 47 ∈ a) : aftS (a ++ 47 :: b) = b := by
  unfold aftS
  rw [befS_app h]
  rw [List.drop_append, List.drop_eq_nil_of_le (by omega)]
  simp
/-- The text without its sign. -/
def bodyR (q : Rat) : List Nat := textB q.num.natAbs ++ (if q.den = 1 then [] else 47 :: textB q.den)
theorem body_head (q : Rat) : (bodyR q).head? ≠ some 45 := by
  unfold bodyR
  cases h : textB q.num.natAbs with
  | nil => exact absurd h (textB_ne _)
  | cons x l =>
    have := textB_dig (n := q.num.natAbs) (x := x) (by rw [h]; simp)
    simp; omega
theorem restS_text (q : Rat) : restS (textR q) = bodyR q ∧ negS (textR q) = decide (q.num < 0) := by
  unfold textR
  change restS ((if q.num < 0 then [45] else []) ++ bodyR q) = bodyR q ∧ negS ((if q.num < 0 then [45] else []) ++ bodyR q) = decide (q.num < 0)
  by_cases h : q.num < 0
  · rw [if_pos h, decide_eq_true h]
    exact ⟨rfl, rfl⟩
  · rw [if_neg h, List.nil_append, decide_eq_false h]
    exact ⟨if_neg (body_head q), decide_eq_false (body_head q)⟩
theorem body_parts (q : Rat) : befS (bodyR q) = textB q.num.natAbs ∧ digitsB (denS (bodyR q)) = true ∧ valD (denS (bodyR q)) = q.den ∧ denS (bodyR q) ≠ [48] := by
  have hd := q.den_pos
  unfold bodyR
  by_cases h : q.den = 1
  · rw [if_pos h, List.append_nil, befS_none (slash_textB _)]
    have e : denS (textB q.num.natAbs) = [49] := if_neg (slash_textB _)
    rw [e, h]
    exact ⟨rfl, rfl, rfl, by simp⟩
  · rw [if_neg h, befS_app (slash_textB _)]
    have e : denS (textB q.num.natAbs ++ 47 :: textB q.den) = textB q.den := by
      unfold denS
      rw [if_pos (by simp), aftS_app (slash_textB _)]
    rw [e]
    refine ⟨rfl, digitsB_textB _, valD_textB _, fun h' => ?_⟩
    have := valD_textB q.den
    rw [h'] at this
    simp [valD] at this
    omega
theorem parse_text (q : Rat) : parseOk (textR q) = true ∧ parseQ (textR q) = q := by
  obtain ⟨h1, h2⟩ := restS_text q
  obtain ⟨h3, h4, h5, h6⟩ := body_parts q
  unfold parseOk parseQ
  rw [h1, h2, h3, h4, h5, digitsB_textB, valD_textB, decide_eq_true h6]
  refine ⟨rfl, ?_⟩
  unfold redR
  rw [sg_mk, Rat.mkRat_self]
theorem textR_inj {x y : Rat} (h : textR x = textR y) : x = y := by
  rw [← (parse_text x).2, ← (parse_text y).2, h]
theorem textR_len {j : Nat} {q : Rat} (h : BdR j q) : (textR q).length ≤ 2 * j + 4 := by
  have h1 := textB_len h.1
  have h2 := textB_len h.2
  unfold textR
  rw [List.length_append, List.length_append]
  split <;> split <;> simp <;> omega
end Wx
