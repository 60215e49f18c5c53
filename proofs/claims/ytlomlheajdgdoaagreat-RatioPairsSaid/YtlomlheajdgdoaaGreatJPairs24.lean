import Derived.Test.YtlomlheajdgdoaaGreatProg
import Derived.Deep.QuietTactic
import Derived.BigQuiet
import Derived.Test.YtlomlheajdgdoaaGreatJPairs0
import Derived.Test.YtlomlheajdgdoaaGreatJPairs1
import Derived.Test.YtlomlheajdgdoaaGreatJPairs10
import Derived.Test.YtlomlheajdgdoaaGreatJPairs22
import Derived.Test.YtlomlheajdgdoaaGreatJPairs23
import Derived.Test.YtlomlheajdgdoaaGreatJPairs5
namespace Wx
set_option maxRecDepth 100000
open Go Go.RowKit Go.Proofs

theorem nbits_digs {n t : Nat} (h0 : 0 < n) (ht : (digs b32 n)[(digs b32 n).length - 1]? = some t) : nbits n = 32 * ((digs b32 n).length - 1) + nbits t := by
  have hl := (digs_length_pos (n := n) two_le_b32).2 h0
  have hw := digs_wf two_le_b32 n
  have htop := digs_top two_le_b32 n
  have hv := val_digs two_le_b32 n
  have ht2 := ht
  obtain ⟨hi, e⟩ := List.getElem?_eq_some_iff.1 ht
  have ht0 : 0 < t := by
    rcases Nat.eq_zero_or_pos t with h | h
    · exfalso
      apply htop
      rw [List.getLast?_eq_getElem?, ht, h]
    · exact h
  have e1 := val_take_drop b32 (digs b32 n) ((digs b32 n).length - 1) (by omega)
  rw [val_drop b32 _ _ hi, e, List.drop_of_length_le (by omega), val_nil, Nat.mul_zero, Nat.add_zero, hv] at e1
  have hlow := val_lt (hw.take ((digs b32 n).length - 1))
  rw [List.length_take, Nat.min_eq_left (by omega)] at hlow
  have hp : b32 ^ ((digs b32 n).length - 1) = 2 ^ (32 * ((digs b32 n).length - 1)) := by rw [b32_pow, ← Nat.pow_mul]
  rw [hp] at e1 hlow
  exact nbits_mul_add ht0 hlow e1

theorem bits_num (w : World) (v : Value) (n : Nat) (h : Num .u32 b32 w v n) {j : Nat} (hj : Bd j n) (hj1 : j ≤ 1000000000) : Calls Tryz.prog 112 #[v] w fun e w' => e = .returned (.int .i64 (nbits n : Nat)) ∧ w = w' := by
  obtain ⟨A, c, rfl, ha⟩ := h
  have hl := len32 hj
  rcases Nat.eq_zero_or_pos n with rfl | h0
  · rw [digs_zero, nbits_zero]
    go_enter Tryz.func112, Tryz.ntmps112
    go_wp2
    go_ret
    exact ⟨rfl, rfl⟩
  · have hlp := (digs_length_pos (n := n) two_le_b32).2 h0
    obtain ⟨b, o, t, rfl, hc, HT⟩ := ha.get (i := (digs b32 n).length - 1) (by omega)
    have HN := bx (nbits_digs h0 HT.out)
    have hbt := u32_val (digs_wf two_le_b32 n _ (List.mem_of_getElem? HT.out))
    have HNB := bx (show nbits n ≤ 1000000000 from Nat.le_trans (nbits_bd hj) hj1)
    clear HT ha hj h0
    have hll : (digs b32 n).length ≤ 100000000 := by omega
    clear hl
    generalize (digs b32 n).length = L at *
    obtain ⟨K, rfl⟩ : ∃ K, L = K + 1 := ⟨L - 1, by omega⟩
    rw [Nat.add_sub_cancel] at hc HN
    have hk1 : (K : Int) ≤ 100000000 := by omega
    clear hll hlp
    have hk0 : (((K + 1 : Nat) : Int) == 0) = false := beq_eq_false_iff_ne.2 (by omega)
    go_enter Tryz.func112, Tryz.ntmps112
    go_wp2_with fail
    go_loop [3, 4] (fun s3 s4 => ∃ (m x : Nat), s3 = .int .i64 (m : Int) ∧ s4 = .int .u32 (x : Int) ∧ Bx (nbits n = m + nbits x) ∧ (x : Int) ≤ 4294967295) (fun _ s4 => (intOf s4).toNat)
    case atStart => exact ⟨32 * K, t, by go_num, rfl, HN, hbt⟩
    case round =>
      obtain ⟨m, x, rfl, rfl, HX, hx⟩ := hrel
      have hm : (m : Int) ≤ 4000000000 := by have := HX.out; have := HNB.out; omega
      rcases Nat.eq_zero_or_pos x with rfl | hx0
      · have e := HX.out
        rw [nbits_zero, Nat.add_zero] at e
        have E := bx e
        clear e
        go_wp2
        go_ret
        exact ⟨ret_int (by rw [E.out]), rfl⟩
      · have hx1 : (0 : Int) < (x : Int) := by omega
        have e := HX.out
        rw [nbits_half hx0] at e
        have E := bx e
        clear e
        go_wp2
        go_round
        case rel => exact ⟨m + 1, x / 2, by go_num, by go_num, bx (by rw [E.out]; omega), by omega⟩
        case measure => simp [intOf]; omega

theorem wpList_mk_own {P : Program} (w : World) {ops : Array Oper} {rest : List Oper} {o : Oper} {a : Act} {Q : Exit → Act → World → Prop}
    (hg : o.guard = none) (l c : Operand) (t : TypeId) (hop : o.op = Op.makeSlice t l c)
    (k : IntKind) (e : TypeId) (h1 : P.underlying t = some (.slice e)) (hi : (P.info? e).map (fun i => (i.zero, i.size, decide (i.bytes ≤ 8))) = some (some (.int k 0), 1, true))
    (C : Nat) (hl : a.eval l = .int .i64 C) (hc : a.eval c = .int .i64 C) (hC : C ≤ 1099511627776)
    (hK : ∀ w', w'.ownsRow w.heap.size e 1 (.slice (some ⟨w.heap.size, 0, none⟩) C C) C (nums k (List.replicate C 0)) → Below w.heap.size w w' → w'.heap.size = w.heap.size + 1 → wpList P ops Q rest (a.put o.dst (.slice (some ⟨w.heap.size, 0, none⟩) C C)) w') :
    wpList P ops Q (o :: rest) a w := by
  obtain ⟨i, h2, hzz⟩ := Option.map_eq_some_iff.1 hi
  simp only [Prod.mk.injEq, decide_eq_true_eq] at hzz
  obtain ⟨hz, hs, hb⟩ := hzz
  refine wpList_plain hg fun K hK' => ?_
  have hbytes : (i.bytes : Int) * (C : Int) ≤ 281474976710656 := by
    have h8 : (i.bytes : Int) ≤ 8 := by omega
    have := Int.mul_le_mul_of_nonneg_right h8 (show 0 ≤ (C : Int) by omega)
    omega
  have hrun := run_make (P := P) w t e i (.int k 0) h1 h2 hz .i64 .i64 C C (by omega) (by omega) hbytes (by omega)
  rw [hs, Nat.mul_one] at hrun
  unfold Oper.wp
  simp only [execOp, hop, hl, hc, Sem.run_bind, hrun, Result.andThen]
  simp only [Sem.run_pure, Oper.upon]
  refine hK' _ _ (hK _ ?_ ((Below.refl _ _).alloc (Nat.le_refl _) _) (by simp))
  simp only [Value.cells, madeCells_int, Int.toNat_natCast]
  refine ⟨by simp [nums_length], .inr ⟨w.heap.size, C, _, rfl, Nat.le_refl _, heap_alloc_new _ _, Nat.le_refl _, by unfold maxLen; omega, by simp [nums_length], by rw [Nat.mul_one, List.toList_toArray, List.take_of_length_le (by simp [nums_length])]⟩⟩
theorem top_append {l r : List Nat} (h : r ≠ []) (ht : Top r) : Top (l ++ r) := by
  unfold Top at *
  rw [List.getLast?_append]
  obtain ⟨x, hx⟩ : ∃ x, r.getLast? = some x := ⟨r.getLast h, List.getLast?_eq_some_getLast h⟩
  rw [hx] at ht ⊢
  simpa using ht
theorem shift_digs {n k : Nat} (h : 0 < n) : List.replicate k 0 ++ digs b32 n = digs b32 (b32 ^ k * n) := by
  have hne : digs b32 n ≠ [] := List.length_pos_iff.1 ((digs_length_pos two_le_b32).2 h)
  have e : val b32 (List.replicate k 0 ++ digs b32 n) = b32 ^ k * n := by
    rw [val_append, val_replicate, List.length_replicate, Nat.zero_add, val_digs two_le_b32]
  rw [← e]
  exact (digs_val two_le_b32 ((Wf.replicate (by unfold b32; omega) k).append (digs_wf two_le_b32 n)) (top_append hne (digs_top two_le_b32 n))).symm

set_option maxHeartbeats 1000000 in
theorem shifted_numG (w : World) (v : Value) (n k : Nat) (h : Num .u32 b32 w v n) (h0 : 0 < n) {j : Nat} (hj : Bd j n) (hj1 : j ≤ 100000000) (hk : k ≤ 100000000) : Calls Tryz.prog 118 #[v, .int .i64 (k : Int)] w (RetNumG w (n * 2 ^ k)) := by
  obtain ⟨A, c, rfl, ha⟩ := h
  have hl := len32 hj
  have hlp := (digs_length_pos (n := n) two_le_b32).2 h0
  obtain ⟨b, o, t, rfl, _, _⟩ := ha.get (i := 0) hlp
  have hll : (digs b32 n).length ≤ 100000000 := by omega
  clear hl
  have HE := bx (shift_digs (k := k / 32) h0)
  have HP := bx (show b32 ^ (k / 32) * n * 2 ^ (k % 32) = n * 2 ^ k by
    rw [b32_pow, ← Nat.pow_mul, Nat.mul_comm (2 ^ (32 * (k / 32))) n, Nat.mul_assoc, ← Nat.pow_add, Nat.div_add_mod])
  have HJ : Bx (Bd (k + j) (b32 ^ (k / 32) * n)) := bx (by
    have e : b32 ^ (k / 32) = 2 ^ (32 * (k / 32)) := by rw [b32_pow, ← Nat.pow_mul]
    have h2 := hj
    unfold Bd at *
    rw [e, Nat.pow_add]
    have h3 : 2 ^ (32 * (k / 32)) ≤ 2 ^ k := Nat.pow_le_pow_right (by omega) (by omega)
    exact Nat.lt_of_le_of_lt (Nat.mul_le_mul_right _ h3) (Nat.mul_lt_mul_of_pos_left h2 (Nat.two_pow_pos k)))
  clear hj
  generalize digs b32 n = l at *
  go_enter Tryz.func118, Tryz.ntmps118
  go_wp2_with (first
    | (at_make; refine wpList_mk_own _ rfl _ _ _ rfl .u32 49 Tryz.underlying31 i32row (k / 32) rfl rfl (by omega) ?_; intro w1 hown hbel hsz; have hown : w1.ownsRow w.heap.size 49 1 (.slice (some ⟨w.heap.size, 0, none⟩) (k / 32) (k / 32)) (List.replicate (k / 32) 0).length (nums .u32 (List.replicate (k / 32) 0)) := by rw [List.length_replicate]; exact hown)
    | (at_builtin; refine wpList_app _ rfl (.tmp 9) (.tmp 10) _ rfl .u32 49 w.heap.size Tryz.underlying31 i32row (.slice (some ⟨w.heap.size, 0, none⟩) (k / 32) (k / 32)) (List.replicate (k / 32) 0) rfl hown _ _ _ l _ rfl rfl (ha.below hbel) (by simp; omega) (by have := hbel.size; omega) ?_; intro U A4 c4 w4 HU hown4 hg4))
  have hp2 : 2 ^ (k % 32) < 2 ^ 32 := Nat.pow_lt_pow_right (by omega) (by omega)
  have W2 := bx (show IntKind.u64.wrap ((2 : Int) ^ (k % 32)) = ((2 ^ (k % 32) : Nat) : Int) by
    have e : ((2 : Int) ^ (k % 32)) = ((2 ^ (k % 32) : Nat) : Int) := by simp
    rw [e]
    generalize 2 ^ (k % 32) = P at hp2 ⊢
    exact wrap_u64 (by omega) (by omega))
  rw [W2.out]
  have hB4 : Below w.heap.size w w4 := hbel.grown hg4 (by omega) (by intro g hg; simp [Value.ownBlock] at hg; omega)
  have hN : Num .u32 b32 w4 (.slice A4 U.length c4) (b32 ^ (k / 32) * n) := ⟨A4, c4, by rw [HU.out, HE.out], by rw [← HE.out, ← HU.out]; exact rd_of_owns hown4⟩
  refine Calls.mono (nat_num w4 (2 ^ (k % 32)) (by unfold b64; omega)) ?_
  rintro e w5 ⟨v5, rfl, h5, hb5⟩
  clear hp2
  go_wp2_with fail
  refine Calls.mono (product_numG w5 _ _ _ _ (hN.below hb5) h5 (j := k + j) (k := 32) (HJ.out) (Nat.pow_lt_pow_right (by omega) (by omega)) (by omega) (by omega)) ?_
  rintro e w6 ⟨g6, L6, c6, hg6, rfl, h6, hb6⟩
  go_wp2
  go_ret
  rw [HP.out] at h6
  exact ⟨g6, _, _, Nat.le_trans (Nat.le_trans hB4.size hb5.size) hg6, rfl, h6, (hB4.trans (hb5.mono hB4.size)).trans (hb6.mono (Nat.le_trans hB4.size hb5.size))⟩
theorem shifted_num (w : World) (v : Value) (n k : Nat) (h : Num .u32 b32 w v n) (h0 : 0 < n) {j : Nat} (hj : Bd j n) (hj1 : j ≤ 100000000) (hk : k ≤ 100000000) : Calls Tryz.prog 118 #[v, .int .i64 (k : Int)] w (RetNum .u32 b32 w (n * 2 ^ k)) :=
  (shifted_numG w v n k h h0 hj hj1 hk).mono fun _ _ h => h.num
end Wx

namespace Wx
set_option maxRecDepth 100000
open Go Go.RowKit Go.Proofs

theorem val_drop_mod2 {l : List Nat} {i : Nat} : val b32 (l.drop i) % 2 = l.getD i 0 % 2 := by
  by_cases h : i < l.length
  · rw [val_drop b32 l i h, List.getD_eq_getElem?_getD, List.getElem?_eq_getElem h, Option.getD_some]
    unfold b32; omega
  · rw [List.drop_of_length_le (by omega), List.getD_eq_getElem?_getD, List.getElem?_eq_none (by omega)]; rfl
theorem half_round {a o : List Nat} {i x y d z L g T : Nat} {wr w0 : World} (hol : o.length = i) (hlt : i < L) (hwo : Wf b32 o) (hwa : Wf b32 a) (hx : a[i]? = some x) (hy : a.getD (i + 1) 0 = y) (hd : y % 2 = d) (hz : z = x / 2 + 2147483648 * d)
    (hr : Row wr .u32 49 g ((o ++ List.replicate (L - i) 0).set i z)) (hbl : Below w0.heap.size w0 wr)
    (hval : val b32 o + b32 ^ i * (val b32 (a.drop i) / 2) = T) :
    ∃ (o' : List Nat), o'.length = i + 1 ∧ Wf b32 o' ∧ Row wr .u32 49 g (o' ++ List.replicate (L - (i + 1)) 0) ∧ Below w0.heap.size w0 wr ∧ val b32 o' + b32 ^ (i + 1) * (val b32 (a.drop (i + 1)) / 2) = T := by
  have hxb : x < b32 := hwa _ (List.mem_of_getElem? hx)
  have hzb : z < b32 := by
    subst hz
    have : d ≤ 1 := by omega
    unfold b32 at *; omega
  refine ⟨o ++ [z], by simp [hol], hwo.append (Wf.cons hzb (Wf.nil _)), ?_, hbl, ?_⟩
  · rw [show L - i = (L - (i + 1)) + 1 by omega, List.replicate_succ, set_mid hol] at hr
    rw [List.append_assoc]
    exact hr
  · rw [← hval, val_snoc, hol, drop_get_cons hx, val_cons]
    have hm := val_drop_mod2 (l := a) (i := i + 1)
    rw [hy, hd] at hm
    have h := half_step (x := x) hm
    have e : b32 = 4294967296 := rfl
    rw [← e] at h
    rw [h, ← hz, Nat.pow_succ, Nat.mul_assoc, Nat.mul_add]
    omega

set_option maxHeartbeats 1000000 in
theorem halved_numG (w : World) (v : Value) (n : Nat) (h : Num .u32 b32 w v n) {j : Nat} (hj : Bd j n) (hj1 : j ≤ 1000000000) : Calls Tryz.prog 133 #[v] w (RetNumG w (n / 2)) := by
  obtain ⟨A, c, rfl, ha⟩ := h
  have hl := len32 hj
  have hva := val_digs two_le_b32 n
  have wa := digs_wf two_le_b32 n
  clear hj
  generalize digs b32 n = a at *
  have hla : a.length ≤ 100000000 := by omega
  clear hl
  have VA := bx hva
  clear hva
  go_enter Tryz.func133, Tryz.ntmps133
  go_wp2_with (at_make; refine wpList_mk _ rfl _ _ _ rfl .u32 49 Tryz.underlying31 i32row _ _ rfl rfl (by omega) (by omega) (by omega) ?_; intro w1 hrow hbel hsz)
  rw [Int.toNat_natCast] at hrow
  go_loopw [4] (fun s4 wr => ∃ (i : Nat) (o : List Nat), i ≤ a.length ∧ s4 = .int .i64 i ∧ o.length = i ∧ Wf b32 o ∧ Row wr .u32 49 w.heap.size (o ++ List.replicate (a.length - i) 0) ∧ Below w.heap.size w wr ∧ val b32 o + b32 ^ i * (val b32 (a.drop i) / 2) = n / 2)
    (fun s4 _ => a.length - (intOf s4).toNat)
  case atStart => exact ⟨0, [], by omega, rfl, rfl, Wf.nil _, by simpa using hrow, hbel, by simp [val]; rw [VA.out]⟩
  case round =>
    obtain ⟨i, o, hi, rfl, hol, hwo, hr, hbl, hval⟩ := hrel
    have HVAL := bx hval
    have HOL := bx hol
    clear hval hol hrow hbel hsz
    by_cases hlt : i < a.length
    · obtain ⟨gx, ox, x, rfl, hcx, HVX⟩ := (ha.below hbl).get hlt
      obtain ⟨vo, hco, HVO⟩ := hr.get (i := i) (by have := HOL.out; simp; omega)
      have hcf := hr.frozen i
      have hi0 : (0 : Int) ≤ (i : Int) := by omega
      have hi1 : (i : Int) < (a.length : Int) := by omega
      have hx1 := u32_val (wa _ (List.mem_of_getElem? HVX.out))
      obtain ⟨b2, o2, e2, hcw⟩ := ha.at_ hlt
      injection e2 with e2
      injection e2 with e1 e2
      subst e1 e2
      have hgx := World.block_lt_of_cell? w _ hcw
      have hne : gx ≠ w.heap.size := by
        have : gx < w.heap.size := hgx
        omega
      clear hcw hgx
      have hx2 : (0 : Int) ≤ (x : Int) / 2 := by omega
      have hrs : ∀ z : Nat, Row (wr.setCell ⟨w.heap.size, i, none⟩ (.int .u32 (z : Int))) .u32 49 w.heap.size ((o ++ List.replicate (a.length - i) 0).set i z) := fun z => hr.set i z
      have HRS := bx hrs
      have HBS : Bx (∀ u, Below w.heap.size w (wr.setCell ⟨w.heap.size, i, none⟩ u)) := bx (fun u => hbl.setCell (Nat.le_refl w.heap.size) u)
      clear hrs
      by_cases hn : i + 1 < a.length
      · obtain ⟨gy, oy, y, e1, hcy, HVY⟩ := (ha.below hbl).get hn
        injection e1 with e1
        injection e1 with e1 e2
        subst e1 e2
        have hcy' : (wr.setCell ⟨w.heap.size, i, none⟩ (.int .u32 ((x : Int) / 2))).cell? ⟨gx, ox + (i + 1), none⟩ = some (.int .u32 (y : Int)) := by
          rw [World.cell?_of_block (Below.heap_setCell wr ⟨w.heap.size, i, none⟩ _ gx hne)]; exact hcy
        rcases Nat.mod_two_eq_zero_or_one y with hy | hy
        · have hy0 : ((y : Int) % 2 == 1) = false := beq_eq_false_iff_ne.2 (by omega)
          have HY := bx hy
          clear hy
          go_wp2
          go_roundw
          case rel =>
            obtain ⟨o', r⟩ := half_round (z := x / 2) HOL.out hlt hwo wa HVX.out (by rw [List.getD_eq_getElem?_getD, HVY.out]; rfl) HY.out (by omega) (HRS.out (x / 2)) (HBS.out _) HVAL.out
            exact ⟨i + 1, o', by omega, by go_num, r⟩
          case measure => simp [intOf]; omega
        · have hy0 : ((y : Int) % 2 == 1) = true := beq_iff_eq.2 (by omega)
          have HY := bx hy
          clear hy
          go_wp2
          go_roundw
          case rel =>
            have hR := (HRS.out (x / 2)).set i (x / 2 + 2147483648)
            rw [List.set_set] at hR
            obtain ⟨o', r⟩ := half_round (z := x / 2 + 2147483648) HOL.out hlt hwo wa HVX.out (by rw [List.getD_eq_getElem?_getD, HVY.out]; rfl) HY.out (by omega) hR ((HBS.out _).setCell (Nat.le_refl _) _) HVAL.out
            exact ⟨i + 1, o', by omega, by go_num, r⟩
          case measure => simp [intOf]; omega
      · go_wp2
        go_roundw
        case rel =>
          obtain ⟨o', r⟩ := half_round (z := x / 2) (y := 0) HOL.out hlt hwo wa HVX.out (by rw [List.getD_eq_getElem?_getD, List.getElem?_eq_none (by omega)]; rfl) rfl (by omega) (HRS.out (x / 2)) (HBS.out _) HVAL.out
          exact ⟨i + 1, o', by omega, by go_num, r⟩
        case measure => simp [intOf]; omega
    · obtain rfl : i = a.length := by omega
      have HF := bx (show val b32 o = n / 2 by have := HVAL.out; rw [List.drop_of_length_le (Nat.le_refl _)] at this; simpa [val] using this)
      rw [Nat.sub_self, List.replicate_zero, List.append_nil] at hr
      have hrd := hr.rd_all (c := a.length) (by have := HOL.out; omega) (by unfold maxLen; omega)
      go_wp2_with fail
      refine (ncut_numA _ _ _ o (n / 2) hrd hwo _ HOL.out HF.out).mono ?_
      rintro e w' ⟨rfl, kn, rfl, hv⟩
      go_wp2
      go_ret
      exact ⟨_, _, _, Nat.le_refl _, rfl, hv, hbl⟩
end Wx

namespace Wx
set_option maxRecDepth 100000
open Go Go.RowKit Go.Proofs

@[irreducible] def bdQ (r x d : Nat) : Nat := (r * 4294967296 + x) / d
@[irreducible] def bdR (r x d : Nat) : Nat := (r * 4294967296 + x) % d
theorem bd_spec {r x d : Nat} (hd : 0 < d) (hr : r < d) (hx : x < b32) : bdQ r x d * d + bdR r x d = r * b32 + x ∧ bdR r x d < d ∧ bdQ r x d < b32 := by
  unfold bdQ bdR b32
  unfold b32 at hx
  refine ⟨by rw [Nat.mul_comm]; exact Nat.div_add_mod _ _, Nat.mod_lt _ hd, ?_⟩
  rw [Nat.div_lt_iff_lt_mul hd]
  have := Nat.mul_le_mul_right 4294967296 (Nat.succ_le_of_lt hr)
  rw [Nat.succ_mul, Nat.mul_comm d] at this
  omega
theorem bd_eqs {r x d : Nat} (hd : 0 < d) (hr : r < d) (hx : x < b32) :
    ((r : Int) * 4294967296 + (x : Int)) / (d : Int) % 4294967296 = ((bdQ r x d : Nat) : Int) ∧ ((r : Int) * 4294967296 + (x : Int)) % (d : Int) = ((bdR r x d : Nat) : Int) := by
  obtain ⟨_, h2, h3⟩ := bd_spec hd hr hx
  have e : (r : Int) * 4294967296 + (x : Int) = ((r * 4294967296 + x : Nat) : Int) := by omega
  unfold bdQ bdR at *
  rw [e, ← Int.natCast_ediv, ← Int.natCast_emod]
  unfold b32 at h3
  generalize (r * 4294967296 + x) / d = q at *
  omega
def RetDigit (w : World) (q r : Nat) (e : Ending) (w' : World) : Prop := ∃ v, e = .returned (.tuple #[v, .int .u32 (r : Int)]) ∧ Num .u32 b32 w' v q ∧ Below w.heap.size w w'

set_option maxHeartbeats 1000000 in
theorem byDigit_num (w : World) (v1 : Value) (m d : Nat) (h1 : Num .u32 b32 w v1 m) {j : Nat} (hj : Bd j m) (hj1 : j ≤ 1000000000) (hd : 0 < d) (hd1 : d < b32) :
    Calls Tryz.prog 132 #[v1, .int .u32 (d : Int)] w (RetDigit w (m / d) (m % d)) := by
  obtain ⟨A, c, rfl, ha⟩ := h1
  have hl := len32 hj
  have hva := val_digs two_le_b32 m
  have wa := digs_wf two_le_b32 m
  clear hj
  generalize digs b32 m = a at *
  have hla : a.length ≤ 100000000 := by omega
  clear hl
  have VA := Lib.hid hva
  have HD1 := Lib.hid hd1
  have hd2 := u32_val hd1
  have hd0 : (0 : Int) < (d : Int) := by omega
  clear hva hd1
  go_enter Tryz.func132, Tryz.ntmps132
  go_wp2_with (at_make; refine wpList_mk _ rfl _ _ _ rfl .u32 49 Tryz.underlying31 i32row _ _ rfl rfl (by omega) (by omega) (by omega) ?_; intro w1 hrow hbel hsz)
  rw [Int.toNat_natCast] at hrow
  go_loopw [7, 8] (fun s7 s8 wr => ∃ (i rest : Nat) (o : List Nat), i ≤ a.length ∧ s8 = .int .i64 ((i : Int) - 1) ∧ s7 = .int .u64 (rest : Int) ∧ Bx (rest < d) ∧ Bx (o.length = a.length) ∧ Wf b32 o ∧ Row wr .u32 49 w.heap.size o ∧ Below w.heap.size w wr ∧ Bx (val b32 (a.drop i) = val b32 (o.drop i) * d + rest))
    (fun _ s8 _ => (intOf s8 + 1).toNat)
  case atStart => exact ⟨a.length, 0, List.replicate a.length 0, by omega, rfl, rfl, bx hd, bx (by simp), Wf.replicate (by unfold b32; omega) _, hrow, hbel, bx (by rw [List.drop_of_length_le (by omega), List.drop_of_length_le (by simp)]; simp [val])⟩
  case round =>
    obtain ⟨i, rest, o, hi, rfl, rfl, HRD, HOL, hwo, hr, hbl, HVAL⟩ := hrel
    clear hrow hbel hsz
    rcases Nat.eq_zero_or_pos i with rfl | hpos
    · rw [show (((0 : Nat) : Int) - 1) = -1 by omega]
      have h := HVAL.out
      rw [List.drop_zero, List.drop_zero, VA.out] at h
      obtain ⟨e1, e2⟩ := div_unique h HRD.out
      have HF := Lib.hid e1.symm
      have HG := Lib.hid e2.symm
      clear h e1 e2
      have hrd := hr.rd_all (c := a.length) (by have := HOL.out; omega) (by unfold maxLen; omega)
      have hr1 : (rest : Int) ≤ 4294967295 := by have := HRD.out; omega
      go_wp2_with fail
      refine (ncut_num _ _ _ o (m / d) hrd hwo _ HOL.out HF.out).mono ?_
      rintro e w' ⟨rfl, v, rfl, hv⟩
      go_wp2
      rw [HG.out]
      go_ret2
      exact ⟨_, rfl, hv, hbl⟩
    · obtain ⟨k, rfl⟩ : ∃ k, i = k + 1 := ⟨i - 1, by omega⟩
      rw [show (((k + 1 : Nat) : Int) - 1) = (k : Int) by omega]
      obtain ⟨gx, ox, vx, rfl, hcx, HVX⟩ := (ha.below hbl).get (i := k) (by omega)
      obtain ⟨vo, hco, HVO⟩ := hr.get (i := k) (by have := HOL.out; omega)
      have hcf := hr.frozen k
      have HVB : Bx (vx < b32) := bx (wa _ (List.mem_of_getElem? HVX.out))
      have hvx := u32_val HVB.out
      have hk0 : (0 : Int) ≤ (k : Int) := by omega
      have hk1 : (k : Int) < (a.length : Int) := by omega
      have hrx : (rest : Int) ≤ 4294967294 := by have := HRD.out; omega
      obtain ⟨q1, q2⟩ := bd_eqs hd HRD.out HVB.out
      have Q1 := bx q1
      have Q2 := bx q2
      have HS := bx (bd_spec hd HRD.out HVB.out)
      clear q1 q2
      go_wp2_with fail
      rw [Q1.out, Q2.out]
      go_roundw
      case rel =>
        refine ⟨k, _, o.set k (bdQ rest vx d), by omega, rfl, rfl, bx HS.out.2.1, bx (by rw [List.length_set]; exact HOL.out), hwo.set HS.out.2.2, hr.set _ _, hbl.setCell (Nat.le_refl _) _, bx ?_⟩
        rw [drop_set_self (by have := HOL.out; omega), drop_get_cons HVX.out, val_cons, val_cons]
        exact byWord_step HVAL.out HS.out.1
      case measure => simp [intOf]
end Wx
