import Derived.Test.YtioicklnneebnaaProg
import Derived.Handy
import Derived.Laws.IdiomStrings
import Derived.Test.YtioicklnneebnaaPlain1
import Derived.Test.YtioicklnneebnaaMem
import Derived.Test.YtioicklnneebnaaJParses23
namespace Wx
open Go Go.RowKit Go.Proofs

/-- Where the digits that begin at a place end. -/
def runEnd (l : List Nat) (a : Nat) : Nat := a + ((l.drop a).takeWhile isDig).length
def numEnd (l : List Nat) (a : Nat) : Nat := if a + 1 < runEnd l a ∧ l.getD a 0 = 48 then a else runEnd l a
theorem runEnd_le {l : List Nat} {a : Nat} (h : a ≤ l.length) : runEnd l a ≤ l.length := by
  unfold runEnd
  have := (List.takeWhile_sublist (p := isDig) (l := l.drop a)).length_le
  rw [List.length_drop] at this
  omega
theorem runEnd_ge (l : List Nat) (a : Nat) : a ≤ runEnd l a := by unfold runEnd; omega
theorem takeWhile_len {p : Nat → Bool} : ∀ {l : List Nat} {k : Nat}, k ≤ l.length → (∀ j, j < k → p (l.getD j 0) = true) → (k = l.length ∨ p (l.getD k 0) = false) → (l.takeWhile p).length = k := by
  intro l
  induction l with
  | nil => intro k h _ _; simp at h; subst h; rfl
  | cons x l ih =>
    intro k h h1 h2
    cases k with
    | zero =>
      have : p x = false := by rcases h2 with h2 | h2; simp at h2; simpa using h2
      rw [List.takeWhile_cons, this]; rfl
    | succ k =>
      have hx : p x = true := by simpa using h1 0 (by omega)
      rw [List.takeWhile_cons, hx, if_pos rfl, List.length_cons, ih (k := k) (by simpa using h) (fun j hj => by simpa using h1 (j + 1) (by omega)) (by simpa using h2)]
theorem runEnd_of {l : List Nat} {a n : Nat} (ha : a ≤ n) (hn : n ≤ l.length) (h1 : ∀ j, a ≤ j → j < n → isDig (l.getD j 0) = true) (h2 : n = l.length ∨ isDig (l.getD n 0) = false) : runEnd l a = n := by
  unfold runEnd
  have e : ∀ i, (l.drop a).getD i 0 = l.getD (a + i) 0 := by intro i; rw [List.getD_eq_getElem?_getD, List.getD_eq_getElem?_getD, List.getElem?_drop]
  rw [takeWhile_len (k := n - a) (by rw [List.length_drop]; omega) (fun j hj => by rw [e]; exact h1 _ (by omega) (by omega)) (by rw [List.length_drop, e, show a + (n - a) = n by omega]; rcases h2 with h | h; exact .inl (by omega); exact .inr h)]
  omega
theorem str_at {l : List Nat} (hw : Wf 256 l) {i : Nat} (h : i < l.length) : ∃ (hs : i < (strOf l).size) (x : Nat), ((strOf l)[i]'hs).toNat = x ∧ l.getD i 0 = x := by
  obtain ⟨h1, h2⟩ := strOf_data hw h
  exact ⟨by rw [strOf_size]; exact h, l.getD i 0, h2, rfl⟩

set_option maxRecDepth 100000 in
set_option maxHeartbeats 1000000 in
theorem number_num (w : World) (l : List Nat) (a : Nat) (hw : Wf 256 l) (hl : l.length ≤ 1000000000) (ha : a ≤ l.length) : Calls Try.prog 38 #[.string (strOf l), .int .i64 (a : Int)] w fun e w' => e = .returned (.int .i64 ((numEnd l a : Nat) : Int)) ∧ w = w' := by
  have hsz := strOf_size l
  go_enter Try.func38, Try.ntmps38
  go_wp2_with fail
  go_loop [5] (fun s5 => ∃ n : Nat, n ≤ l.length ∧ a ≤ n ∧ s5 = .int .i64 (n : Int) ∧ Bx (∀ j, a ≤ j → j < n → isDig (l.getD j 0) = true)) (fun s5 => l.length - (intOf s5).toNat)
  case atStart => exact ⟨a, ha, Nat.le_refl _, rfl, bx (fun j h1 h2 => absurd h1 (by omega))⟩
  case round =>
    obtain ⟨n, hn, han, rfl, HD⟩ := hrel
    have fin : ∀ (_ : n = l.length ∨ isDig (l.getD n 0) = false), Bx (runEnd l a = n) := fun h => bx (runEnd_of han hn HD.out h)
    by_cases hlt : n < l.length
    · obtain ⟨hs, x, hx, hg⟩ := str_at hw hlt
      have hn0 : (0 : Int) ≤ (n : Int) := by omega
      have hn1 : (n : Int) < (l.length : Int) := by omega
      have HG := bx hg
      clear hg
      by_cases h1 : 48 ≤ x
      · have h1' : (48 : Int) ≤ (x : Int) := by omega
        by_cases h2 : x ≤ 57
        · have h2' : (x : Int) ≤ 57 := by omega
          clear fin
          go_wp2
          go_round
          case rel =>
            exact ⟨n + 1, by omega, by omega, by go_num, bx (fun j g1 g2 => by
              rcases Nat.lt_or_ge j n with h | h
              · exact HD.out j g1 h
              · obtain rfl : j = n := by omega
                rw [HG.out]; unfold isDig; simp; omega)⟩
          case measure => simp [intOf]; omega
        · have h2' : ¬ (x : Int) ≤ 57 := by omega
          have HR := fin (.inr (by rw [HG.out]; unfold isDig; simp; omega))
          clear fin HD
          by_cases hz : a + 1 < n ∧ l.getD a 0 = 48
          · have HF := bx (show numEnd l a = a by unfold numEnd; rw [HR.out, if_pos hz])
            obtain ⟨ha2, ha3⟩ := hz
            have hal : a < l.length := by omega
            obtain ⟨hsa, y, hy, hgy⟩ := str_at hw hal
            have hy48 : ((y : Int) == 48) = true := beq_iff_eq.2 (by omega)
            have haa : (a : Int) + 1 < (n : Int) := by omega
            have haa1 : (a : Int) < (l.length : Int) := by omega
            clear ha3 hgy HR
            go_wp2
            go_ret
            exact ⟨ret_int (by rw [HF.out]), rfl⟩
          · have HF := bx (show numEnd l a = n by unfold numEnd; rw [HR.out, if_neg hz])
            by_cases ha2 : a + 1 < n
            · have hal : a < l.length := by omega
              obtain ⟨hsa, y, hy, hgy⟩ := str_at hw hal
              have hy48 : ((y : Int) == 48) = false := beq_eq_false_iff_ne.2 (fun h => hz ⟨ha2, by omega⟩)
              have haa : (a : Int) + 1 < (n : Int) := by omega
              have haa1 : (a : Int) < (l.length : Int) := by omega
              clear hz hgy HR
              go_wp2
              go_ret
              exact ⟨ret_int (by rw [HF.out]), rfl⟩
            · have haa : ¬ (a : Int) + 1 < (n : Int) := by omega
              clear hz HR
              go_wp2
              go_ret
              exact ⟨ret_int (by rw [HF.out]), rfl⟩
      · have h1' : ¬ (48 : Int) ≤ (x : Int) := by omega
        have HR := fin (.inr (by rw [HG.out]; unfold isDig; simp; omega))
        clear fin HD
        by_cases hz : a + 1 < n ∧ l.getD a 0 = 48
        · have HF := bx (show numEnd l a = a by unfold numEnd; rw [HR.out, if_pos hz])
          obtain ⟨ha2, ha3⟩ := hz
          have hal : a < l.length := by omega
          obtain ⟨hsa, y, hy, hgy⟩ := str_at hw hal
          have hy48 : ((y : Int) == 48) = true := beq_iff_eq.2 (by omega)
          have haa : (a : Int) + 1 < (n : Int) := by omega
          have haa1 : (a : Int) < (l.length : Int) := by omega
          clear ha3 hgy HR
          go_wp2
          go_ret
          exact ⟨ret_int (by rw [HF.out]), rfl⟩
        · have HF := bx (show numEnd l a = n by unfold numEnd; rw [HR.out, if_neg hz])
          by_cases ha2 : a + 1 < n
          · have hal : a < l.length := by omega
            obtain ⟨hsa, y, hy, hgy⟩ := str_at hw hal
            have hy48 : ((y : Int) == 48) = false := beq_eq_false_iff_ne.2 (fun h => hz ⟨ha2, by omega⟩)
            have haa : (a : Int) + 1 < (n : Int) := by omega
            have haa1 : (a : Int) < (l.length : Int) := by omega
            clear hz hgy HR
            go_wp2
            go_ret
            exact ⟨ret_int (by rw [HF.out]), rfl⟩
          · have haa : ¬ (a : Int) + 1 < (n : Int) := by omega
            clear hz HR
            go_wp2
            go_ret
            exact ⟨ret_int (by rw [HF.out]), rfl⟩
    · have HR := fin (.inl (by omega))
      clear fin HD
      by_cases hz : a + 1 < n ∧ l.getD a 0 = 48
      · have HF := bx (show numEnd l a = a by unfold numEnd; rw [HR.out, if_pos hz])
        obtain ⟨ha2, ha3⟩ := hz
        have hal : a < l.length := by omega
        obtain ⟨hsa, y, hy, hgy⟩ := str_at hw hal
        have hy48 : ((y : Int) == 48) = true := beq_iff_eq.2 (by omega)
        have haa : (a : Int) + 1 < (n : Int) := by omega
        have haa1 : (a : Int) < (l.length : Int) := by omega
        clear ha3 hgy HR
        go_wp2
        go_ret
        exact ⟨ret_int (by rw [HF.out]), rfl⟩
      · have HF := bx (show numEnd l a = n by unfold numEnd; rw [HR.out, if_neg hz])
        by_cases ha2 : a + 1 < n
        · have hal : a < l.length := by omega
          obtain ⟨hsa, y, hy, hgy⟩ := str_at hw hal
          have hy48 : ((y : Int) == 48) = false := beq_eq_false_iff_ne.2 (fun h => hz ⟨ha2, by omega⟩)
          have haa : (a : Int) + 1 < (n : Int) := by omega
          have haa1 : (a : Int) < (l.length : Int) := by omega
          clear hz hgy HR
          go_wp2
          go_ret
          exact ⟨ret_int (by rw [HF.out]), rfl⟩
        · have haa : ¬ (a : Int) + 1 < (n : Int) := by omega
          clear hz HR
          go_wp2
          go_ret
          exact ⟨ret_int (by rw [HF.out]), rfl⟩
end Wx
