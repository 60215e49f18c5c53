import Derived.Test.YtncpoijmhgihjaaProg
import Derived.Handy
import Derived.Laws.IdiomStrings
import Derived.Test.YtncpoijmhgihjaaPlain1
import Derived.Test.YtncpoijmhgihjaaMem
import Derived.Test.YtncpoijmhgihjaaLimbs1
import Derived.Test.YtncpoijmhgihjaaByWord
namespace Wx
open Go Go.RowKit Go.Proofs

/-- The decimal digits of a number as bytes, the greatest first; none of 0. -/
def decB (n : Nat) : List Nat := ((digs 10 n).map (· + 48)).reverse
theorem decB_zero : decB 0 = [] := rfl
theorem decB_pos {n : Nat} (h : 0 < n) : decB n = decB (n / 10) ++ [n % 10 + 48] := by
  unfold decB
  rw [digs_pos (by omega) h]
  simp
theorem decB_length {n k : Nat} (h : n < 10 ^ k) : (decB n).length ≤ k := by
  unfold decB
  rw [List.length_reverse, List.length_map]
  exact digs_length_le (by omega) h
theorem decB_len_pos {n : Nat} (h : 0 < n) : 0 < (decB n).length := by
  rw [decB_pos h]; simp

/-- The string of a list of bytes. -/
def strOf (l : List Nat) : ByteArray := ⟨(l.map UInt8.ofNat).toArray⟩
theorem str_back {w : World} {g o c : Nat} {l : List Nat} (hw : Wf 256 l) (h : ∀ j, j < l.length → w.cell? ⟨g, o + j, none⟩ = some (.int .u8 (l.getD j 0 : Nat))) (n : Nat) (hn : n = l.length) :
    (convert 89 9 (.slice (some ⟨g, o, none⟩) n c)).run Try.prog w = .ok (.string (strOf l)) w := by
  subst hn
  have hl : l.length = (l.map UInt8.ofNat).length := by simp
  rw [hl]
  refine run_convert_bytes_back w 89 9 5 ⟨g, o, none⟩ c (l.map UInt8.ofNat) Try.underlying89 Try.underlying5 Try.underlying9 (fun j hj => ?_)
  rw [← hl] at hj
  have h1 := h j hj
  have h2 := hw.get hj
  rw [List.getD_eq_getElem?_getD, List.getElem?_eq_getElem hj, Option.getD_some] at h1
  rw [show (⟨g, o, none⟩ : Addr).add j = ⟨g, o + j, none⟩ by simp [Addr.add], h1, List.getElem_map, UInt8.toNat_ofNat_of_lt' h2]

set_option maxRecDepth 100000 in
set_option maxHeartbeats 1000000 in
theorem decimal_num (w : World) (n : Nat) (hn : n < b64) : Calls Try.prog 79 #[.int .u64 (n : Int)] w (RetIs w (.string (strOf (decB n)))) := by
  have HL := bx (decB_length (n := n) (k := 20) (Nat.lt_of_lt_of_le hn (by unfold b64; decide)))
  have HN := bx hn
  clear hn
  go_enter Try.func79, Try.ntmps79
  go_wp2_with fail
  have hrow := Row.new w .u8 111 (List.replicate 20 0)
  have hb0 : Below w.heap.size w (w.alloc (.cells (nums .u8 (List.replicate 20 0)).toArray 111)) := Below.alloc (Below.refl _ _) (Nat.le_refl _) _
  change (Code.wp _ _ _ _ (w.alloc (.cells (nums .u8 (List.replicate 20 0)).toArray 111)))
  generalize w.alloc (.cells (nums .u8 (List.replicate 20 0)).toArray 111) = w1 at *
  go_loopw [0, 4] (fun s0 s4 wr => ∃ (m at_ : Nat) (L : List Nat), s0 = .int .u64 (m : Int) ∧ s4 = .int .i64 (at_ : Int) ∧ at_ ≤ 20 ∧ Bx (L.length = 20) ∧ Wf 256 L ∧ Row wr .u8 111 w.heap.size L ∧ Below w.heap.size w wr ∧ Bx (decB n = decB m ++ L.drop at_) ∧ Bx (m < b64)) (fun s0 _ _ => (intOf s0).toNat)
  case atStart => exact ⟨n, 20, List.replicate 20 0, rfl, rfl, Nat.le_refl _, bx (by simp), Wf.replicate (by omega) _, hrow, hb0, bx (by simp), HN⟩
  case round =>
    clear hrow hb0
    obtain ⟨m, at_, L, rfl, rfl, hat, HLL, hwL, hr, hbl, HD, HM⟩ := hrel
    rcases Nat.eq_zero_or_pos m with rfl | hm0
    · have hai : (at_ : Int) ≤ 20 := by omega
      have hai0 : (0 : Int) ≤ (at_ : Int) := by omega
      have hu := Try.underlying111
      have hdn : decB n = L.drop at_ := HD.out
      have hwd : Wf 256 (decB n) := by rw [hdn]; exact hwL.drop _
      have hln : 20 - at_ = (decB n).length := by rw [hdn, List.length_drop, HLL.out]
      have hcs : ∀ j, j < (decB n).length → wr.cell? ⟨w.heap.size, at_ + j, none⟩ = some (.int .u8 ((decB n).getD j 0 : Nat)) := fun j hj => by
        rw [hr.cell (i := at_ + j) (by rw [HLL.out]; omega), hdn]
        simp [List.getD_eq_getElem?_getD]
      have hcv := str_back (c := 20 - at_) hwd hcs _ hln
      have HLN := bx hln
      clear hdn hwd hcs hln HD
      by_cases h20 : at_ = 20
      · subst h20
        have hcv0 := str_back (w := wr) (g := w.heap.size) (o := 0) (c := 0) (Wf.nil 256) (fun j hj => absurd hj (by simp)) 0 rfl
        have hE : decB n = [] := List.eq_nil_of_length_eq_zero (by have := HLN.out; omega)
        clear hcv
        go_wp2
        go_ret
        rw [hE]
        exact ⟨rfl, hbl⟩
      · have hne : ¬ 20 = at_ := fun h => h20 h.symm
        go_wp2
        go_ret
        exact ⟨rfl, hbl⟩
    · have hat0 : 1 ≤ at_ := by
        have h1 := congrArg List.length HD.out
        have h2 := decB_len_pos hm0
        have h3 := HL.out
        have h4 := HLL.out
        rw [List.length_append, List.length_drop] at h1
        omega
      obtain ⟨k, rfl⟩ : ∃ k, at_ = k + 1 := ⟨at_ - 1, by omega⟩
      obtain ⟨vo, hco, HVO⟩ := hr.get (i := k) (by have := HLL.out; omega)
      have hcf := hr.frozen k
      have hk1 : (k : Int) < 20 := by omega
      have hk0 : (0 : Int) ≤ (k : Int) := by omega
      have hm1 : (1 : Int) ≤ (m : Int) := by omega
      have hw : IntKind.u64.wrap ((m : Int) / 10) = ((m / 10 : Nat) : Int) := by
        have := HM.out
        rw [wrap_u64 (by omega) (by unfold b64 at this; omega)]; omega
      have hv : 48 + (m : Int) % 10 = ((m % 10 + 48 : Nat) : Int) := by omega
      have HW := bx hw
      have HV := bx hv
      clear hw hv
      go_wp2_with fail
      rw [HW.out, HV.out]
      refine ⟨⟨m / 10, k, L.set k (m % 10 + 48), rfl, rfl, by omega, bx (by rw [List.length_set]; exact HLL.out), hwL.set (by omega), hr.set k _, hbl.setCell (Nat.le_refl _) _, bx ?_, bx (Nat.lt_of_le_of_lt (Nat.div_le_self _ _) HM.out)⟩, by simp [intOf]; omega⟩
      rw [HD.out, decB_pos hm0, drop_set_self (by have := HLL.out; omega), List.append_assoc]
      rfl
end Wx
