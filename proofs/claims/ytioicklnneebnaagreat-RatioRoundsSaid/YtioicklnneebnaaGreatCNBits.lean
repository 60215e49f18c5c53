import Derived.Test.YtioicklnneebnaaGreatProg
import Derived.Deep.QuietTactic
import Derived.BigQuiet
import Derived.Test.YtioicklnneebnaaGreatPlain1
import Derived.Test.YtioicklnneebnaaGreatMem
import Derived.Test.YtioicklnneebnaaGreatJRounds3
import Derived.Test.YtioicklnneebnaaGreatJRounds32
import Derived.Test.YtioicklnneebnaaGreatJRounds31
import Derived.Test.YtioicklnneebnaaGreatCNProd
namespace Wx
open Go Go.RowKit Go.Proofs

theorem nbits_digs {n t : Nat} (h0 : 0 < n) (ht : (digs b32 n)[(digs b32 n).length - 1]? = some t) : nbits n = 32 * ((digs b32 n).length - 1) + nbits t := by
  have hl := (digs_length_pos (n := n) two_le_b32).2 h0
  have hw := digs_wf two_le_b32 n
  have htop := digs_top two_le_b32 n
  have hv := val_digs two_le_b32 n
  have ht2 := ht
  obtain ⟨hi, e⟩ := List.getElem?_eq_some_iff.1 ht
  have ht0 : 0 < t := by
    rcases Nat.eq_zero_or_pos t with h | h
    · exfalso
      apply htop
      rw [List.getLast?_eq_getElem?, ht, h]
    · exact h
  have e1 := val_take_drop b32 (digs b32 n) ((digs b32 n).length - 1) (by omega)
  rw [val_drop b32 _ _ hi, e, List.drop_of_length_le (by omega), val_nil, Nat.mul_zero, Nat.add_zero, hv] at e1
  have hlow := val_lt (hw.take ((digs b32 n).length - 1))
  rw [List.length_take, Nat.min_eq_left (by omega)] at hlow
  have hp : b32 ^ ((digs b32 n).length - 1) = 2 ^ (32 * ((digs b32 n).length - 1)) := by rw [b32_pow, ← Nat.pow_mul]
  rw [hp] at e1 hlow
  exact nbits_mul_add ht0 hlow e1

set_option maxRecDepth 100000 in
theorem bits_num (w : World) (v : Value) (n : Nat) (h : Num .u32 b32 w v n) {j : Nat} (hj : Bd j n) (hj1 : j ≤ 1000000000) : Calls Tryz.prog 70 #[v] w fun e w' => e = .returned (.int .i64 (nbits n : Nat)) ∧ w = w' := by
  obtain ⟨A, c, rfl, ha⟩ := h
  have hl := len32 hj
  rcases Nat.eq_zero_or_pos n with rfl | h0
  · rw [digs_zero, nbits_zero]
    go_enter Tryz.func70, Tryz.ntmps70
    go_wp2
    go_ret
    exact ⟨rfl, rfl⟩
  · have hlp := (digs_length_pos (n := n) two_le_b32).2 h0
    obtain ⟨b, o, t, rfl, hc, HT⟩ := ha.get (i := (digs b32 n).length - 1) (by omega)
    have HN := bx (nbits_digs h0 HT.out)
    have hbt := u32_val (digs_wf two_le_b32 n _ (List.mem_of_getElem? HT.out))
    have HNB := bx (show nbits n ≤ 1000000000 from Nat.le_trans (nbits_bd hj) hj1)
    clear HT ha hj h0
    have hll : (digs b32 n).length ≤ 100000000 := by omega
    clear hl
    generalize (digs b32 n).length = L at *
    obtain ⟨K, rfl⟩ : ∃ K, L = K + 1 := ⟨L - 1, by omega⟩
    rw [Nat.add_sub_cancel] at hc HN
    have hk1 : (K : Int) ≤ 100000000 := by omega
    clear hll hlp
    have hk0 : (((K + 1 : Nat) : Int) == 0) = false := beq_eq_false_iff_ne.2 (by omega)
    go_enter Tryz.func70, Tryz.ntmps70
    go_wp2_with fail
    go_loop [3, 4] (fun s3 s4 => ∃ (m x : Nat), s3 = .int .i64 (m : Int) ∧ s4 = .int .u32 (x : Int) ∧ Bx (nbits n = m + nbits x) ∧ (x : Int) ≤ 4294967295) (fun _ s4 => (intOf s4).toNat)
    case atStart => exact ⟨32 * K, t, by go_num, rfl, HN, hbt⟩
    case round =>
      obtain ⟨m, x, rfl, rfl, HX, hx⟩ := hrel
      have hm : (m : Int) ≤ 4000000000 := by have := HX.out; have := HNB.out; omega
      rcases Nat.eq_zero_or_pos x with rfl | hx0
      · have e := HX.out
        rw [nbits_zero, Nat.add_zero] at e
        have E := bx e
        clear e
        go_wp2
        go_ret
        exact ⟨ret_int (by rw [E.out]), rfl⟩
      · have hx1 : (0 : Int) < (x : Int) := by omega
        have e := HX.out
        rw [nbits_half hx0] at e
        have E := bx e
        clear e
        go_wp2
        go_round
        case rel => exact ⟨m + 1, x / 2, by go_num, by go_num, bx (by rw [E.out]; omega), by omega⟩
        case measure => simp [intOf]; omega

/-- 'make([]T, l, c)' of integers: the call's own row of zeros. -/
theorem wpList_mk_own {P : Program} (w : World) {ops : Array Oper} {rest : List Oper} {o : Oper} {a : Act} {Q : Exit → Act → World → Prop}
    (hg : o.guard = none) (l c : Operand) (t : TypeId) (hop : o.op = Op.makeSlice t l c)
    (k : IntKind) (e : TypeId) (h1 : P.underlying t = some (.slice e)) (hi : (P.info? e).map (fun i => (i.zero, i.size, decide (i.bytes ≤ 8))) = some (some (.int k 0), 1, true))
    (C : Nat) (hl : a.eval l = .int .i64 C) (hc : a.eval c = .int .i64 C) (hC : C ≤ 1099511627776)
    (hK : ∀ w', w'.ownsRow w.heap.size e 1 (.slice (some ⟨w.heap.size, 0, none⟩) C C) C (nums k (List.replicate C 0)) → Below w.heap.size w w' → w'.heap.size = w.heap.size + 1 → wpList P ops Q rest (a.put o.dst (.slice (some ⟨w.heap.size, 0, none⟩) C C)) w') :
    wpList P ops Q (o :: rest) a w := by
  obtain ⟨i, h2, hzz⟩ := Option.map_eq_some_iff.1 hi
  simp only [Prod.mk.injEq, decide_eq_true_eq] at hzz
  obtain ⟨hz, hs, hb⟩ := hzz
  refine wpList_plain hg fun K hK' => ?_
  have hbytes : (i.bytes : Int) * (C : Int) ≤ 281474976710656 := by
    have h8 : (i.bytes : Int) ≤ 8 := by omega
    have := Int.mul_le_mul_of_nonneg_right h8 (show 0 ≤ (C : Int) by omega)
    omega
  have hrun := run_make (P := P) w t e i (.int k 0) h1 h2 hz .i64 .i64 C C (by omega) (by omega) hbytes (by omega)
  rw [hs, Nat.mul_one] at hrun
  unfold Oper.wp
  simp only [execOp, hop, hl, hc, Sem.run_bind, hrun, Result.andThen]
  simp only [Sem.run_pure, Oper.upon]
  refine hK' _ _ (hK _ ?_ ((Below.refl _ _).alloc (Nat.le_refl _) _) (by simp))
  simp only [Value.cells, madeCells_int, Int.toNat_natCast]
  refine ⟨by simp [nums_length], .inr ⟨w.heap.size, C, _, rfl, Nat.le_refl _, heap_alloc_new _ _, Nat.le_refl _, by unfold maxLen; omega, by simp [nums_length], by rw [Nat.mul_one, List.toList_toArray, List.take_of_length_le (by simp [nums_length])]⟩⟩
theorem top_append {l r : List Nat} (h : r ≠ []) (ht : Top r) : Top (l ++ r) := by
  unfold Top at *
  rw [List.getLast?_append]
  obtain ⟨x, hx⟩ : ∃ x, r.getLast? = some x := ⟨r.getLast h, List.getLast?_eq_some_getLast h⟩
  rw [hx] at ht ⊢
  simpa using ht
theorem shift_digs {n k : Nat} (h : 0 < n) : List.replicate k 0 ++ digs b32 n = digs b32 (b32 ^ k * n) := by
  have hne : digs b32 n ≠ [] := List.length_pos_iff.1 ((digs_length_pos two_le_b32).2 h)
  have e : val b32 (List.replicate k 0 ++ digs b32 n) = b32 ^ k * n := by
    rw [val_append, val_replicate, List.length_replicate, Nat.zero_add, val_digs two_le_b32]
  rw [← e]
  exact (digs_val two_le_b32 ((Wf.replicate (by unfold b32; omega) k).append (digs_wf two_le_b32 n)) (top_append hne (digs_top two_le_b32 n))).symm

set_option maxRecDepth 100000 in
set_option maxHeartbeats 1000000 in
theorem shifted_numG (w : World) (v : Value) (n k : Nat) (h : Num .u32 b32 w v n) (h0 : 0 < n) {j : Nat} (hj : Bd j n) (hj1 : j ≤ 100000000) (hk : k ≤ 100000000) : Calls Tryz.prog 71 #[v, .int .i64 (k : Int)] w (RetNumG w (n * 2 ^ k)) := by
  obtain ⟨A, c, rfl, ha⟩ := h
  have hl := len32 hj
  have hlp := (digs_length_pos (n := n) two_le_b32).2 h0
  obtain ⟨b, o, t, rfl, _, _⟩ := ha.get (i := 0) hlp
  have hll : (digs b32 n).length ≤ 100000000 := by omega
  clear hl
  have HE := bx (shift_digs (k := k / 32) h0)
  have HP := bx (show b32 ^ (k / 32) * n * 2 ^ (k % 32) = n * 2 ^ k by
    rw [b32_pow, ← Nat.pow_mul, Nat.mul_comm (2 ^ (32 * (k / 32))) n, Nat.mul_assoc, ← Nat.pow_add, Nat.div_add_mod])
  have HJ : Bx (Bd (k + j) (b32 ^ (k / 32) * n)) := bx (by
    have e : b32 ^ (k / 32) = 2 ^ (32 * (k / 32)) := by rw [b32_pow, ← Nat.pow_mul]
    have h2 := hj
    unfold Bd at *
    rw [e, Nat.pow_add]
    have h3 : 2 ^ (32 * (k / 32)) ≤ 2 ^ k := Nat.pow_le_pow_right (by omega) (by omega)
    exact Nat.lt_of_le_of_lt (Nat.mul_le_mul_right _ h3) (Nat.mul_lt_mul_of_pos_left h2 (Nat.two_pow_pos k)))
  clear hj
  generalize digs b32 n = l at *
  go_enter Tryz.func71, Tryz.ntmps71
  go_wp2_with (first
    | (at_make; refine wpList_mk_own _ rfl _ _ _ rfl .u32 87 Tryz.underlying29 i32row (k / 32) rfl rfl (by omega) ?_; intro w1 hown hbel hsz; have hown : w1.ownsRow w.heap.size 87 1 (.slice (some ⟨w.heap.size, 0, none⟩) (k / 32) (k / 32)) (List.replicate (k / 32) 0).length (nums .u32 (List.replicate (k / 32) 0)) := by rw [List.length_replicate]; exact hown)
    | (at_builtin; refine wpList_app _ rfl (.tmp 9) (.tmp 10) _ rfl .u32 87 w.heap.size Tryz.underlying29 i32row (.slice (some ⟨w.heap.size, 0, none⟩) (k / 32) (k / 32)) (List.replicate (k / 32) 0) rfl hown _ _ _ l _ rfl rfl (ha.below hbel) (by simp; omega) (by have := hbel.size; omega) ?_; intro U A4 c4 w4 HU hown4 hg4))
  have hp2 : 2 ^ (k % 32) < 2 ^ 32 := Nat.pow_lt_pow_right (by omega) (by omega)
  have W2 := bx (show IntKind.u64.wrap ((2 : Int) ^ (k % 32)) = ((2 ^ (k % 32) : Nat) : Int) by
    have e : ((2 : Int) ^ (k % 32)) = ((2 ^ (k % 32) : Nat) : Int) := by simp
    rw [e]
    generalize 2 ^ (k % 32) = P at hp2 ⊢
    exact wrap_u64 (by omega) (by omega))
  rw [W2.out]
  have hB4 : Below w.heap.size w w4 := hbel.grown hg4 (by omega) (by intro g hg; simp [Value.ownBlock] at hg; omega)
  have hN : Num .u32 b32 w4 (.slice A4 U.length c4) (b32 ^ (k / 32) * n) := ⟨A4, c4, by rw [HU.out, HE.out], by rw [← HE.out, ← HU.out]; exact rd_of_owns hown4⟩
  refine Calls.mono (nat_num w4 (2 ^ (k % 32)) (by unfold b64; omega)) ?_
  rintro e w5 ⟨v5, rfl, h5, hb5⟩
  clear hp2
  go_wp2_with fail
  refine Calls.mono (product_numG w5 _ _ _ _ (hN.below hb5) h5 (j := k + j) (k := 32) (HJ.out) (Nat.pow_lt_pow_right (by omega) (by omega)) (by omega) (by omega)) ?_
  rintro e w6 ⟨g6, L6, c6, hg6, rfl, h6, hb6⟩
  go_wp2
  go_ret
  rw [HP.out] at h6
  exact ⟨g6, _, _, Nat.le_trans (Nat.le_trans hB4.size hb5.size) hg6, rfl, h6, (hB4.trans (hb5.mono hB4.size)).trans (hb6.mono (Nat.le_trans hB4.size hb5.size))⟩
theorem shifted_num (w : World) (v : Value) (n k : Nat) (h : Num .u32 b32 w v n) (h0 : 0 < n) {j : Nat} (hj : Bd j n) (hj1 : j ≤ 100000000) (hk : k ≤ 100000000) : Calls Tryz.prog 71 #[v, .int .i64 (k : Int)] w (RetNum .u32 b32 w (n * 2 ^ k)) :=
  (shifted_numG w v n k h h0 hj hj1 hk).mono fun _ _ h => h.num
end Wx
