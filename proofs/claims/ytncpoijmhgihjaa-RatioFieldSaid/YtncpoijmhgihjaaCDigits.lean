import Derived.Test.YtncpoijmhgihjaaProg
import Derived.Handy
import Derived.Laws.IdiomStrings
import Derived.Test.YtncpoijmhgihjaaPlain1
import Derived.Test.YtncpoijmhgihjaaMem
import Derived.Test.YtncpoijmhgihjaaJField3
import Derived.Test.YtncpoijmhgihjaaJField27
namespace Wx
open Go Go.RowKit Go.Proofs

def isDig (x : Nat) : Bool := decide (48 ≤ x) && decide (x ≤ 57)
def digitsB (l : List Nat) : Bool := l.all isDig && (decide (l = [48]) || (decide (l ≠ []) && decide (l.getD 0 0 ≠ 48)))

theorem digitsB_bad {l : List Nat} {i x : Nat} (_h : ∀ j, j < i → isDig (l.getD j 0) = true) (hi : i < l.length) (hx : l.getD i 0 = x) (hb : x < 48 ∨ 57 < x) : digitsB l = false := by
  have : l.all isDig = false := by
    rw [List.all_eq_false]
    refine ⟨l[i], List.getElem_mem hi, ?_⟩
    rw [List.getD_eq_getElem?_getD, List.getElem?_eq_getElem hi, Option.getD_some] at hx
    rw [hx]; unfold isDig; simp; omega
  unfold digitsB
  rw [this]; rfl

theorem strOf_inj {l r : List Nat} (hl : Wf 256 l) (hr : Wf 256 r) (h : (strOf l).toList = (strOf r).toList) : l = r := by
  have e : ∀ {l : List Nat}, Wf 256 l → ((strOf l).data.toList.map UInt8.toNat) = l := by
    intro l hl
    simp only [strOf, List.toList_toArray, List.map_map]
    conv => rhs; rw [← List.map_id l]
    apply List.map_congr_left
    intro x hx
    exact UInt8.toNat_ofNat_of_lt' (hl x hx)
  have h2 : (strOf l).data.toList = (strOf r).data.toList := by rw [← baToList, ← baToList]; exact h
  rw [← e hl, ← e hr, h2]

set_option maxRecDepth 100000 in
set_option maxHeartbeats 1000000 in
theorem digits_num (w : World) (l : List Nat) (hw : Wf 256 l) (hl : l.length ≤ 1000000000) : Calls Try.prog 55 #[.string (strOf l)] w (RetIs w (.bool (digitsB l))) := by
  obtain ⟨c, w1, hcv, hrd, hb⟩ := str_bytes w hw hl
  go_enter Try.func55, Try.ntmps55
  go_wp2_with fail
  go_loop [8] (fun s8 => ∃ i : Nat, i ≤ l.length ∧ s8 = .int .i64 (i : Int) ∧ Bx (∀ j, j < i → isDig (l.getD j 0) = true)) (fun s8 => (l.length - (intOf s8).toNat))
  case atStart => exact ⟨0, Nat.zero_le _, rfl, bx (fun j hj => absurd hj (by omega))⟩
  case round =>
    obtain ⟨i, hi, rfl, HD⟩ := hrel
    rcases Nat.lt_or_ge i l.length with hlt | hge
    · obtain ⟨b, o, vx, hA, hcx, HVX⟩ := hrd.get (i := i) hlt
      injection hA with hA
      injection hA with h1 h2 h3
      subst h1 h2
      clear h3
      have hi0 : (0 : Int) ≤ (i : Int) := by omega
      have hi1 : (i : Int) < (l.length : Int) := by omega
      rw [Nat.zero_add] at hcx
      have hgd : l.getD i 0 = vx := by rw [List.getD_eq_getElem?_getD, HVX.out]; rfl
      have HGD := bx hgd
      clear hgd
      by_cases h1 : vx < 48
      · have h1' : (vx : Int) < 48 := by omega
        go_wp2
        go_ret
        exact ⟨ret_bool (digitsB_bad HD.out hlt HGD.out (by omega)).symm, hb⟩
      · have h1' : ¬ ((vx : Int) < 48) := by omega
        by_cases h2 : vx ≤ 57
        · have h2' : (vx : Int) ≤ 57 := by omega
          go_wp2
          refine ⟨⟨i + 1, by omega, by go_num, bx (fun j hj => ?_)⟩, by simp [intOf]; omega⟩
          rcases Nat.lt_or_ge j i with h | h
          · exact HD.out j h
          · obtain rfl : j = i := by omega
            rw [HGD.out]; unfold isDig; simp; omega
        · have h2' : (57 : Int) < (vx : Int) := by omega
          go_wp2
          go_ret
          exact ⟨ret_bool (digitsB_bad HD.out hlt HGD.out (by omega)).symm, hb⟩
    · obtain rfl : i = l.length := by omega
      have hall : l.all isDig = true := by
        rw [List.all_eq_true]
        intro x hx
        obtain ⟨j, hj, rfl⟩ := List.getElem_of_mem hx
        have := HD.out j hj
        rwa [List.getD_eq_getElem?_getD, List.getElem?_eq_getElem hj, Option.getD_some] at this
      have hval : digitsB l = (decide (l = [48]) || (decide (l ≠ []) && decide (l.getD 0 0 ≠ 48))) := by unfold digitsB; rw [hall]; rfl
      have HVL := bx hval
      clear HD hval hall hge hi
      by_cases h0 : l = [48]
      · have ht : (strOf l).toList = [48] := by rw [strOf_toList, h0]; rfl
        have HR := bx (show (decide (l = [48]) || (decide (l ≠ []) && decide (l.getD 0 0 ≠ 48))) = true by rw [decide_eq_true h0]; rfl)
        clear h0
        go_wp2
        go_ret
        exact ⟨ret_bool (by rw [HVL.out, HR.out]), hb⟩
      · have ht : ¬ (strOf l).toList = [48] := fun h => h0 (strOf_inj hw (by intro x hx; simp at hx; omega) (by rw [h, strOf_toList]; rfl))
        by_cases h1 : l = []
        · have hn : (strOf l).toList = [] := by rw [strOf_toList, h1]; rfl
          have HR := bx (show (decide (l = [48]) || (decide (l ≠ []) && decide (l.getD 0 0 ≠ 48))) = false by subst h1; rfl)
          clear h0 h1
          go_wp2
          go_ret
          exact ⟨ret_bool (by rw [HVL.out, HR.out]), hb⟩
        · have hn : ¬ (strOf l).toList = [] := fun h => h1 (strOf_inj hw (Wf.nil _) (by rw [h, strOf_toList]; rfl))
          have hs : 0 < (strOf l).size := by rw [strOf_size]; exact List.length_pos_iff.2 h1
          obtain ⟨x, hx⟩ : ∃ x, (strOf l)[0].toNat = x := ⟨_, rfl⟩
          have hx' : l.getD 0 0 = x := by
            obtain ⟨_, e⟩ := strOf_data hw (List.length_pos_iff.2 h1)
            rw [← hx, ← e]; rfl
          have HR := bx (show (decide (l = [48]) || (decide (l ≠ []) && decide (l.getD 0 0 ≠ 48))) = ((x : Int) != 48) by
            rw [decide_eq_false h0, decide_eq_true h1, hx']
            by_cases h : x = 48
            · subst h; rfl
            · rw [decide_eq_true h]; simp; omega)
          clear h0 h1 hx'
          go_wp2
          go_ret
          refine ⟨ret_bool ?_, hb⟩
          rw [HVL.out, HR.out]
          rw [show ((strOf l).toList == [48]) = false from beq_eq_false_iff_ne.2 ht, show (strOf l).toList.isEmpty = false by simpa using hn]
          rfl
end Wx
