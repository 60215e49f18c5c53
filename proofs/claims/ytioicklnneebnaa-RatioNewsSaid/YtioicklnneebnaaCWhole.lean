import Derived.Test.YtioicklnneebnaaProg
import Derived.Handy
import Derived.Test.YtioicklnneebnaaPlain1
import Derived.Test.YtioicklnneebnaaMem
import Derived.Test.YtioicklnneebnaaJNews3
import Derived.Test.YtioicklnneebnaaCRat1
import Derived.Test.YtioicklnneebnaaCRat2
import Derived.Test.YtioicklnneebnaaCHeld
import Derived.Test.YtioicklnneebnaaJNews45
namespace Wx
open Go Go.RowKit Go.Proofs

/-- What Whole hands back. -/
def RetWhole (w : World) (q : Rat) (e : Ending) (w' : World) : Prop := e = .returned (.tuple #[.int .i64 (wholeZ q), .bool (wholeB q)]) ∧ Below w.heap.size w w'
theorem ret_whole {w w' : World} {q : Rat} {z : Int} {b : Bool} (h : wholeB q = b ∧ wholeZ q = z) (hb : Below w.heap.size w w') : RetWhole w q (.returned (.tuple #[.int .i64 z, .bool b])) w' := by
  unfold RetWhole
  rw [h.1, h.2]
  exact ⟨rfl, hb⟩
theorem natAbs_neg {z : Int} {n : Nat} (h : z.natAbs = n) (hn : z < 0) : z = -(n : Int) := by omega
theorem natAbs_pos {z : Int} {n : Nat} (h : z.natAbs = n) (hn : ¬ z < 0) : z = (n : Int) := by omega

set_option maxRecDepth 100000 in
set_option maxHeartbeats 1000000 in
theorem whole_num (w : World) (v : Value) (q : Rat) (hx : IsRat w v q) : Calls Try.prog 19 #[v] w (RetWhole w q) := by
  obtain ⟨vx1, vx2, rfl, hxa, hxb⟩ := hx
  obtain ⟨Ax1, cx1, rfl, hra⟩ := id hxa
  obtain ⟨Ax2, cx2, rfl, hrb⟩ := id hxb
  have hB : Below w.heap.size w (w.alloc (.cells #[.bool (decide (q.num < 0)), .slice Ax1 (digs b64 q.num.natAbs).length cx1, .slice Ax2 (digs b64 (denOf q.den)).length cx2] 26)) := Below.alloc (Below.refl _ _) (Nat.le_refl _) _
  have hb1 := hra.len
  have hb2 := hrb.len
  by_cases hd : q.den = 1
  · have e : (digs b64 (denOf q.den)).length = 0 := by rw [hd, denOf_one]; rfl
    rw [e] at hB ⊢
    clear hb2 hrb hxb
    rcases Nat.lt_or_ge (digs b64 q.num.natAbs).length 2 with hl | hl
    · rcases Nat.eq_zero_or_pos q.num.natAbs with h0 | h0
      · have hq0 : q.num = 0 := by omega
        have hW : wholeB q = true ∧ wholeZ q = 0 := by have := whole_yes hd (by omega) (by omega); rwa [hq0] at this
        have HW := bx hW
        rw [h0, digs_zero] at *
        have hf : decide (q.num < 0) = false := decide_eq_false (by omega)
        rw [hf]
        clear hW hq0 hd e hl h0
        go_enter Try.func19, Try.ntmps19
        go_wp2
        go_ret2
        exact ret_whole HW.out (Below.alloc (Below.refl _ _) (Nat.le_refl _) _)
      · have hl1 : (digs b64 q.num.natAbs).length = 1 := by have := (digs_length_pos (n := q.num.natAbs) two_le_b64).2 h0; omega
        obtain ⟨b, o, x, rfl, hc, HX⟩ := hra.get (i := 0) (by omega)
        have hn : digs b64 q.num.natAbs = [x] := by
          have hx := HX.out
          match hd : digs b64 q.num.natAbs, hl1, hx with
          | [y], _, hx => simp at hx; rw [hx]
        have hxv : q.num.natAbs = x := by have := val_digs two_le_b64 q.num.natAbs; rw [hn] at this; simpa [val] using this.symm
        have hxb : x < 18446744073709551616 := by
          have := digs_wf two_le_b64 q.num.natAbs x (by rw [hn]; simp)
          simpa [b64] using this
        rw [hl1] at hB ⊢
        rw [Nat.add_zero] at hc
        have hx0 : 0 < x := by omega
        have HXV := bx hxv
        have HD := bx hd
        have HXB := bx hxb
        have hc1 : (w.alloc (.cells #[.bool (decide (q.num < 0)), .slice (some ⟨b, o, none⟩) 1 cx1, .slice Ax2 0 cx2] 26)).cell? ⟨b, o, none⟩ = some (.int .u64 (x : Int)) := by
          have := World.block_lt_of_cell? w _ hc
          rw [hB.cell this]; exact hc
        clear hra hxa HX hn hxv hl1 hl h0 hd e hxb hb1
        by_cases hneg : q.num < 0
        · rw [decide_eq_true hneg] at *
          have HN := bx hneg
          clear hneg
          rcases Nat.lt_trichotomy x 9223372036854775808 with hx1 | hx1 | hx1
          · skip
            have hlt : decide ((x : Int) < 9223372036854775808) = true := decide_eq_true (by omega)
            have W2 := bx (show wrap64 (-wrap64 (x : Int)) = -(x : Int) by unfold wrap64; omega)
            have HW := bx (show wholeB q = true ∧ wholeZ q = -(x : Int) by have h := natAbs_neg HXV.out HN.out; have hW := whole_yes HD.out (by omega) (by omega); rwa [h] at hW)
            clear hx1
            go_enter Try.func19, Try.ntmps19
            go_wp2
            go_ret2
            rw [W2.out]
            exact ret_whole HW.out (Below.alloc (Below.refl _ _) (Nat.le_refl _) _)
          · skip
            have hlt : decide ((x : Int) < 9223372036854775808) = false := decide_eq_false (by omega)
            have heq : ((x : Int) == 9223372036854775808) = true := beq_iff_eq.2 (by omega)
            have HW := bx (show wholeB q = true ∧ wholeZ q = -9223372036854775808 by have h := natAbs_neg HXV.out HN.out; have hW := whole_yes HD.out (by omega) (by omega); rw [show q.num = -9223372036854775808 by omega] at hW; exact hW)
            clear hx1
            go_enter Try.func19, Try.ntmps19
            go_wp2
            go_ret2
            exact ret_whole HW.out (Below.alloc (Below.refl _ _) (Nat.le_refl _) _)
          · skip
            have hlt : decide ((x : Int) < 9223372036854775808) = false := decide_eq_false (by omega)
            have heq : ((x : Int) == 9223372036854775808) = false := beq_eq_false_iff_ne.2 (by omega)
            have HW := bx (show wholeB q = false ∧ wholeZ q = 0 by have h := natAbs_neg HXV.out HN.out; exact whole_big (by omega))
            clear hx1
            go_enter Try.func19, Try.ntmps19
            go_wp2
            go_ret2
            exact ret_whole HW.out (Below.alloc (Below.refl _ _) (Nat.le_refl _) _)
        · rw [decide_eq_false hneg]
          have HN := bx hneg
          clear hneg hB hc1
          have hc1 : (w.alloc (.cells #[.bool false, .slice (some ⟨b, o, none⟩) 1 cx1, .slice Ax2 0 cx2] 26)).cell? ⟨b, o, none⟩ = some (.int .u64 (x : Int)) := by
            have := World.block_lt_of_cell? w _ hc
            have hB : Below w.heap.size w (w.alloc (.cells #[.bool false, .slice (some ⟨b, o, none⟩) 1 cx1, .slice Ax2 0 cx2] 26)) := Below.alloc (Below.refl _ _) (Nat.le_refl _) _
            rw [hB.cell this]; exact hc
          rcases Nat.lt_or_ge x 9223372036854775808 with hx1 | hx1
          · skip
            have hlt : decide ((x : Int) < 9223372036854775808) = true := decide_eq_true (by omega)
            have W2 := bx (show wrap64 (x : Int) = (x : Int) by unfold wrap64; omega)
            have HW := bx (show wholeB q = true ∧ wholeZ q = (x : Int) by have h := natAbs_pos HXV.out HN.out; have hW := whole_yes HD.out (by omega) (by omega); rwa [h] at hW)
            clear hx1
            go_enter Try.func19, Try.ntmps19
            go_wp2
            go_ret2
            rw [W2.out]
            exact ret_whole HW.out (Below.alloc (Below.refl _ _) (Nat.le_refl _) _)
          · by_cases hx2 : x = 9223372036854775808
            · skip
              have hlt : decide ((x : Int) < 9223372036854775808) = false := decide_eq_false (by omega)
              have heq : ((x : Int) == 9223372036854775808) = true := beq_iff_eq.2 (by omega)
              have HW := bx (show wholeB q = false ∧ wholeZ q = 0 by have h := natAbs_pos HXV.out HN.out; exact whole_big (by omega))
              clear hx1 hx2
              go_enter Try.func19, Try.ntmps19
              go_wp2
              go_ret2
              exact ret_whole HW.out (Below.alloc (Below.refl _ _) (Nat.le_refl _) _)
            · skip
              have hlt : decide ((x : Int) < 9223372036854775808) = false := decide_eq_false (by omega)
              have heq : ((x : Int) == 9223372036854775808) = false := beq_eq_false_iff_ne.2 (by omega)
              have HW := bx (show wholeB q = false ∧ wholeZ q = 0 by have h := natAbs_pos HXV.out HN.out; exact whole_big (by omega))
              clear hx1 hx2
              go_enter Try.func19, Try.ntmps19
              go_wp2
              go_ret2
              exact ret_whole HW.out (Below.alloc (Below.refl _ _) (Nat.le_refl _) _)
    · have hbig : b64 ≤ q.num.natAbs := by
        have h1 := pow_digs_le (b := b64) two_le_b64 (n := q.num.natAbs) ((digs_length_pos two_le_b64).1 (by omega))
        have h2 : b64 ^ 1 ≤ b64 ^ ((digs b64 q.num.natAbs).length - 1) := Nat.pow_le_pow_right (by unfold b64; omega) (by omega)
        rw [Nat.pow_one] at h2
        exact Nat.le_trans h2 h1
      have HW := bx (show wholeB q = false ∧ wholeZ q = 0 from whole_big (by unfold b64 at hbig; omega))
      generalize (digs b64 q.num.natAbs).length = L at *
      generalize decide (q.num < 0) = neg at *
      have hl2 : (1 : Int) < (L : Int) := by omega
      clear hbig hra hxa hd e hl hB
      go_enter Try.func19, Try.ntmps19
      go_wp2
      go_ret2
      exact ret_whole HW.out (Below.alloc (Below.refl _ _) (Nat.le_refl _) _)
  · have HW := bx (whole_den hd)
    have hl2 : (0 : Int) < ((digs b64 (denOf q.den)).length : Int) := by
      rw [denOf_ne hd]; have := (digs_length_pos (n := q.den) two_le_b64).2 q.den_pos; omega
    generalize (digs b64 (denOf q.den)).length = L at *
    generalize decide (q.num < 0) = neg at *
    clear hra hxa hrb hxb hd hB
    go_enter Try.func19, Try.ntmps19
    go_wp2
    go_ret2
    exact ret_whole HW.out (Below.alloc (Below.refl _ _) (Nat.le_refl _) _)
end Wx
