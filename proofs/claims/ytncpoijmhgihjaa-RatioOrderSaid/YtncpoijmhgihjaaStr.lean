import Derived.Test.YtncpoijmhgihjaaProg
import Derived.Handy
import Derived.Laws.IdiomStrings
import Derived.Maps.AppendAt
import Derived.Test.YtncpoijmhgihjaaPlain1
import Derived.Test.YtncpoijmhgihjaaMem
import Derived.Test.YtncpoijmhgihjaaLimbs1
import Derived.Test.YtncpoijmhgihjaaDecimal
namespace Wx
open Go Go.RowKit Go.Proofs

theorem baLoop (bs : ByteArray) : ∀ (k i : Nat) (r : List UInt8), bs.size - i = k → ByteArray.toList.loop bs i r = r.reverse ++ bs.data.toList.drop i := by
  intro k
  induction k with
  | zero =>
    intro i r h
    unfold ByteArray.toList.loop
    rw [if_neg (by omega), List.drop_eq_nil_of_le (by show bs.data.toList.length ≤ i; rw [Array.length_toList]; show bs.size ≤ i; omega), List.append_nil]
  | succ k ih =>
    intro i r h
    have hi : i < bs.data.toList.length := by rw [Array.length_toList]; show i < bs.size; omega
    unfold ByteArray.toList.loop
    rw [if_pos (by omega), ih (i + 1) _ (by omega), List.drop_eq_getElem_cons hi, List.reverse_cons, List.append_assoc]
    have hx : bs.get! i = bs.data.toList[i] := by
      show bs.data[i]! = _
      rw [getElem!_pos bs.data i (by simpa using hi), Array.getElem_toList]
    rw [hx]; rfl
theorem baToList (bs : ByteArray) : bs.toList = bs.data.toList := by
  unfold ByteArray.toList
  rw [baLoop bs _ 0 [] rfl]; rfl
theorem strOf_toList (l : List Nat) : (strOf l).toList = l.map UInt8.ofNat := by rw [baToList]; simp [strOf]
theorem strOf_size (l : List Nat) : (strOf l).size = l.length := by simp [strOf, ByteArray.size]
theorem strOf_extract (l : List Nat) (a b : Nat) : (strOf l).extract a b = strOf ((l.take b).drop a) := by
  apply ByteArray.ext
  rw [ByteArray.data_extract]
  simp [strOf, List.map_drop, List.map_take, List.drop_take]
theorem strOf_data {l : List Nat} (hw : Wf 256 l) {j : Nat} (hj : j < l.length) : ∃ h : j < (strOf l).data.size, ((strOf l).data[j]'h).toNat = l.getD j 0 := by
  refine ⟨by simpa [strOf] using hj, ?_⟩
  have h2 := hw.get hj
  rw [List.getD_eq_getElem?_getD, List.getElem?_eq_getElem hj, Option.getD_some]
  simp only [strOf, List.getElem_toArray, List.getElem_map]
  exact UInt8.toNat_ofNat_of_lt' h2
/-- '[]byte(s)'. -/
theorem str_bytes (w : World) {l : List Nat} (hw : Wf 256 l) (hl : l.length ≤ 1000000000) : ∃ c w', (convert 9 89 (.string (strOf l))).run Try.prog w = .ok (.slice (some ⟨w.heap.size, 0, none⟩) l.length c) w' ∧ Rd w' .u8 (some ⟨w.heap.size, 0, none⟩) c l ∧ Below w.heap.size w w' := by
  have hr := run_bytes_of_string w 9 89 5 (strOf l) Try.underlying9 Try.underlying89 Try.underlying5
  have hsz := strOf_size l
  have g1 := grownCap_ge w (strOf l).size 0 5
  have g2 := grownCap_le_maxLen w (strOf l).size 0 5 (by rw [hsz]; unfold maxLen; omega)
  generalize grownCap w (strOf l).size 0 5 = c at *
  rw [hsz] at hr g1
  refine ⟨c, _, hr, ⟨g1, g2, fun _ => ⟨_, _, rfl, fun i hi => ?_⟩⟩, (Below.refl _ _).drew.alloc (by simp) _⟩
  obtain ⟨h, e⟩ := strOf_data hw hi
  have hc := World.cell?_alloc_mark w.drew (bytesRow (strOf l) c) 5 ((bytesRow (strOf l) c).size, (bytesRow (strOf l) c).size + 1) i
  rw [Nat.zero_add, ← e]
  exact hc.trans (bytesRow_at _ _ _ h)
end Wx
