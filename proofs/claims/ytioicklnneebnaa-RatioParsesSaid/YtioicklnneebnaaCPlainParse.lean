import Derived.Test.YtioicklnneebnaaProg
import Derived.Test.YtioicklnneebnaaPlain1
import Derived.Test.YtioicklnneebnaaMem
import Derived.Test.YtioicklnneebnaaCRat1
import Derived.Test.YtioicklnneebnaaCRat2
import Derived.Test.YtioicklnneebnaaJParses17
import Derived.Test.YtioicklnneebnaaJParses23
import Derived.Test.YtioicklnneebnaaCFrom
import Derived.Test.YtioicklnneebnaaJParses25
import Derived.Test.YtioicklnneebnaaCText
import Derived.Test.YtioicklnneebnaaCRText
import Derived.Test.YtioicklnneebnaaCParse
import Derived.Test.YtioicklnneebnaaCPlainText
import Derived.Test.YtioicklnneebnaaCNNumber
import Derived.Test.YtioicklnneebnaaCNParse
namespace Wx
open Go Go.RowKit Go.Proofs

theorem numEnd_app {pre body rest : List Nat} (hb : digitsB body = true) (hr : rest = [] ∨ ∃ x r, rest = x :: r ∧ isDig x = false) : numEnd (pre ++ (body ++ rest)) pre.length = pre.length + body.length := by
  have hd : ∀ x ∈ body, isDig x = true := by
    unfold digitsB at hb
    rw [Bool.and_eq_true, List.all_eq_true] at hb
    exact hb.1
  have e : runEnd (pre ++ (body ++ rest)) pre.length = pre.length + body.length := by
    unfold runEnd
    rw [List.drop_left]
    congr 1
    refine takeWhile_len (by simp) (fun j hj => ?_) ?_
    · rw [List.getD_eq_getElem?_getD, List.getElem?_append_left hj, List.getElem?_eq_getElem hj]
      exact hd _ (List.getElem_mem hj)
    · rcases hr with rfl | ⟨x, r, rfl, hx⟩
      · exact .inl (by simp)
      · refine .inr ?_
        rw [List.getD_eq_getElem?_getD, List.getElem?_append_right (Nat.le_refl _), Nat.sub_self]
        exact hx
  unfold numEnd
  rw [e, if_neg]
  rintro ⟨h1, h2⟩
  unfold digitsB at hb
  rw [Bool.and_eq_true, Bool.or_eq_true, Bool.and_eq_true, decide_eq_true_eq, decide_eq_true_eq, decide_eq_true_eq] at hb
  rcases hb.2 with rfl | ⟨h3, h4⟩
  · simp at h1
  · apply h4
    rw [List.getD_eq_getElem?_getD, List.getElem?_append_right (Nat.le_refl _), Nat.sub_self, List.getElem?_append_left (List.length_pos_iff.2 h3)] at h2
    rw [List.getD_eq_getElem?_getD]
    exact h2
theorem ntext_shape (q : Rat) : nShape (textR q) ∧ nPQ (textR q) = q := by
  obtain ⟨pre, hpre⟩ : ∃ pre, (if q.num < 0 then [45] else []) = pre := ⟨_, rfl⟩
  obtain ⟨rest, hrest⟩ : ∃ rest, (if q.den = 1 then [] else 47 :: textB q.den) = rest := ⟨_, rfl⟩
  have hl : textR q = pre ++ (textB q.num.natAbs ++ rest) := by unfold textR; rw [hpre, hrest]
  have hbp : 0 < (textB q.num.natAbs).length := List.length_pos_iff.2 (textB_ne _)
  have hat : nAt (textR q) = pre.length := by
    unfold nAt
    rw [hl]
    by_cases h : q.num < 0
    · rw [if_pos h] at hpre
      subst hpre
      rw [if_pos ⟨rfl, by simp⟩]; rfl
    · rw [if_neg h] at hpre
      subst hpre
      rw [if_neg]; rfl
      rintro ⟨h1, _⟩
      rw [List.nil_append, List.getD_eq_getElem?_getD, List.getElem?_append_left hbp, List.getElem?_eq_getElem hbp, Option.getD_some] at h1
      have := textB_dig (List.getElem_mem hbp)
      omega
  have hend : nEnd (textR q) = pre.length + (textB q.num.natAbs).length := by
    unfold nEnd
    rw [hat, hl]
    refine numEnd_app (digitsB_textB _) ?_
    by_cases h : q.den = 1
    · rw [if_pos h] at hrest; exact .inl hrest.symm
    · rw [if_neg h] at hrest; exact .inr ⟨47, _, hrest.symm, by decide⟩
  have hnum : nNum (textR q) = q.num.natAbs := by
    unfold nNum
    rw [hend, hat, hl, ← List.append_assoc, List.take_left' (by simp), List.drop_left, valD_textB]
  have hlen : (textR q).length = pre.length + ((textB q.num.natAbs).length + rest.length) := by rw [hl]; simp
  have hneg : ((nAt (textR q) : Int) == 1) = decide (q.num < 0) := by
    rw [hat]
    by_cases h : q.num < 0
    · rw [if_pos h] at hpre; subst hpre; rw [decide_eq_true h]; rfl
    · rw [if_neg h] at hpre; subst hpre; rw [decide_eq_false h]; rfl
  by_cases h : q.den = 1
  · rw [if_pos h] at hrest
    subst hrest
    have hnl : ¬ nEnd (textR q) < (textR q).length := by rw [hend, hlen]; simp
    have hden : nDen (textR q) = 1 := by unfold nDen; rw [if_neg hnl]
    refine ⟨⟨by rw [hend, hat]; omega, fun h' => absurd h' hnl, by rw [hden]; omega⟩, ?_⟩
    unfold nPQ
    rw [hneg, hnum, hden, ← h]
    unfold redR
    rw [sg_mk, Rat.mkRat_self]
  · rw [if_neg h] at hrest
    subst hrest
    have hlt : nEnd (textR q) < (textR q).length := by rw [hend, hlen]; simp
    have hdrop : (textR q).drop (nEnd (textR q) + 1) = textB q.den := by
      rw [hend, hl, ← List.append_assoc]
      have e : pre.length + (textB q.num.natAbs).length + 1 = (pre ++ textB q.num.natAbs ++ [47]).length := by simp; omega
      rw [e, show pre ++ textB q.num.natAbs ++ 47 :: textB q.den = (pre ++ textB q.num.natAbs ++ [47]) ++ textB q.den by simp, List.drop_left]
    have hden : nDen (textR q) = q.den := by unfold nDen; rw [if_pos hlt, hdrop, valD_textB]
    have hbd : 0 < (textB q.den).length := List.length_pos_iff.2 (textB_ne _)
    refine ⟨⟨by rw [hend, hat]; omega, fun _ => ⟨?_, ?_, ?_⟩, by rw [hden]; have := q.den_pos; omega⟩, ?_⟩
    · rw [hend, hl, ← List.append_assoc, List.getD_eq_getElem?_getD, List.getElem?_append_right (by simp)]
      simp
    · have e : nEnd (textR q) + 1 = (pre ++ textB q.num.natAbs ++ [47]).length := by rw [hend]; simp; omega
      have e2 : textR q = (pre ++ textB q.num.natAbs ++ [47]) ++ (textB q.den ++ []) := by rw [hl]; simp
      rw [e]
      conv => lhs; rw [e2]
      rw [numEnd_app (digitsB_textB _) (.inl rfl)]
      rw [hlen]; simp; omega
    · rw [hend, hlen]; simp; omega
    · unfold nPQ
      rw [hneg, hnum, hden]
      unfold redR
      rw [sg_mk, Rat.mkRat_self]
/-- Both parse the same strings, to the same fractions. -/
theorem parse_same (l : List Nat) : ((parseOk l = true ∧ textR (parseQ l) = l) ∧ (nShape l ∧ textR (nPQ l) = l) ∧ nPQ l = parseQ l) ∨ (¬ (parseOk l = true ∧ textR (parseQ l) = l) ∧ ¬ (nShape l ∧ textR (nPQ l) = l)) := by
  by_cases h : parseOk l = true ∧ textR (parseQ l) = l
  · left
    have h2 := ntext_shape (parseQ l)
    rw [h.2] at h2
    exact ⟨h, ⟨h2.1, by rw [h2.2]; exact h.2⟩, h2.2⟩
  · right
    refine ⟨h, fun h2 => h ?_⟩
    have h3 := parse_text (nPQ l)
    rw [h2.2] at h3
    exact ⟨h3.1, by rw [h3.2]; exact h2.2⟩
end Wx
