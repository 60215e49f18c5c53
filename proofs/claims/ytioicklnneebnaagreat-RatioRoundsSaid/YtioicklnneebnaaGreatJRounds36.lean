import Derived.Test.YtioicklnneebnaaGreatProg
import Derived.Test.YtioicklnneebnaaGreatPlain1
import Derived.Test.YtioicklnneebnaaGreatMem
import Derived.Test.YtioicklnneebnaaGreatJRounds3
import Derived.Test.YtioicklnneebnaaGreatJRounds32
import Derived.Test.YtioicklnneebnaaGreatJRounds31
import Derived.Test.YtioicklnneebnaaGreatJRounds9
namespace Wx
open Go Go.RowKit Go.Proofs

theorem val_drop_mod2 {l : List Nat} {i : Nat} : val b32 (l.drop i) % 2 = l.getD i 0 % 2 := by
  by_cases h : i < l.length
  · rw [val_drop b32 l i h, List.getD_eq_getElem?_getD, List.getElem?_eq_getElem h, Option.getD_some]
    unfold b32; omega
  · rw [List.drop_of_length_le (by omega), List.getD_eq_getElem?_getD, List.getElem?_eq_none (by omega)]; rfl
/-- One round of halved. -/
theorem half_round {a o : List Nat} {i x y d z L g T : Nat} {wr w0 : World} (hol : o.length = i) (hlt : i < L) (hwo : Wf b32 o) (hwa : Wf b32 a) (hx : a[i]? = some x) (hy : a.getD (i + 1) 0 = y) (hd : y % 2 = d) (hz : z = x / 2 + 2147483648 * d)
    (hr : Row wr .u32 87 g ((o ++ List.replicate (L - i) 0).set i z)) (hbl : Below w0.heap.size w0 wr)
    (hval : val b32 o + b32 ^ i * (val b32 (a.drop i) / 2) = T) :
    ∃ (o' : List Nat), o'.length = i + 1 ∧ Wf b32 o' ∧ Row wr .u32 87 g (o' ++ List.replicate (L - (i + 1)) 0) ∧ Below w0.heap.size w0 wr ∧ val b32 o' + b32 ^ (i + 1) * (val b32 (a.drop (i + 1)) / 2) = T := by
  have hxb : x < b32 := hwa _ (List.mem_of_getElem? hx)
  have hzb : z < b32 := by
    subst hz
    have : d ≤ 1 := by omega
    unfold b32 at *; omega
  refine ⟨o ++ [z], by simp [hol], hwo.append (Wf.cons hzb (Wf.nil _)), ?_, hbl, ?_⟩
  · rw [show L - i = (L - (i + 1)) + 1 by omega, List.replicate_succ, set_mid hol] at hr
    rw [List.append_assoc]
    exact hr
  · rw [← hval, val_snoc, hol, drop_get_cons hx, val_cons]
    have hm := val_drop_mod2 (l := a) (i := i + 1)
    rw [hy, hd] at hm
    have h := half_step (x := x) hm
    have e : b32 = 4294967296 := rfl
    rw [← e] at h
    rw [h, ← hz, Nat.pow_succ, Nat.mul_assoc, Nat.mul_add]
    omega

set_option maxRecDepth 100000 in
set_option maxHeartbeats 1000000 in
theorem halved_numG (w : World) (v : Value) (n : Nat) (h : Num .u32 b32 w v n) {j : Nat} (hj : Bd j n) (hj1 : j ≤ 1000000000) : Calls Tryz.prog 72 #[v] w (RetNumG w (n / 2)) := by
  obtain ⟨A, c, rfl, ha⟩ := h
  have hl := len32 hj
  have hva := val_digs two_le_b32 n
  have wa := digs_wf two_le_b32 n
  clear hj
  generalize digs b32 n = a at *
  have hla : a.length ≤ 100000000 := by omega
  clear hl
  have VA := bx hva
  clear hva
  go_enter Tryz.func72, Tryz.ntmps72
  go_wp2_with (at_make; refine wpList_mk _ rfl _ _ _ rfl .u32 87 Tryz.underlying29 i32row _ _ rfl rfl (by omega) (by omega) (by omega) ?_; intro w1 hrow hbel hsz)
  rw [Int.toNat_natCast] at hrow
  go_loopw [4] (fun s4 wr => ∃ (i : Nat) (o : List Nat), i ≤ a.length ∧ s4 = .int .i64 i ∧ o.length = i ∧ Wf b32 o ∧ Row wr .u32 87 w.heap.size (o ++ List.replicate (a.length - i) 0) ∧ Below w.heap.size w wr ∧ val b32 o + b32 ^ i * (val b32 (a.drop i) / 2) = n / 2)
    (fun s4 _ => a.length - (intOf s4).toNat)
  case atStart => exact ⟨0, [], by omega, rfl, rfl, Wf.nil _, by simpa using hrow, hbel, by simp [val]; rw [VA.out]⟩
  case round =>
    obtain ⟨i, o, hi, rfl, hol, hwo, hr, hbl, hval⟩ := hrel
    have HVAL := bx hval
    have HOL := bx hol
    clear hval hol hrow hbel hsz
    by_cases hlt : i < a.length
    · obtain ⟨gx, ox, x, rfl, hcx, HVX⟩ := (ha.below hbl).get hlt
      obtain ⟨vo, hco, HVO⟩ := hr.get (i := i) (by have := HOL.out; simp; omega)
      have hcf := hr.frozen i
      have hi0 : (0 : Int) ≤ (i : Int) := by omega
      have hi1 : (i : Int) < (a.length : Int) := by omega
      have hx1 := u32_val (wa _ (List.mem_of_getElem? HVX.out))
      obtain ⟨b2, o2, e2, hcw⟩ := ha.at_ hlt
      injection e2 with e2
      injection e2 with e1 e2
      subst e1 e2
      have hgx := World.block_lt_of_cell? w _ hcw
      have hne : gx ≠ w.heap.size := by
        have : gx < w.heap.size := hgx
        omega
      clear hcw hgx
      have hx2 : (0 : Int) ≤ (x : Int) / 2 := by omega
      have hrs : ∀ z : Nat, Row (wr.setCell ⟨w.heap.size, i, none⟩ (.int .u32 (z : Int))) .u32 87 w.heap.size ((o ++ List.replicate (a.length - i) 0).set i z) := fun z => hr.set i z
      have HRS := bx hrs
      have HBS : Bx (∀ u, Below w.heap.size w (wr.setCell ⟨w.heap.size, i, none⟩ u)) := bx (fun u => hbl.setCell (Nat.le_refl w.heap.size) u)
      clear hrs
      by_cases hn : i + 1 < a.length
      · obtain ⟨gy, oy, y, e1, hcy, HVY⟩ := (ha.below hbl).get hn
        injection e1 with e1
        injection e1 with e1 e2
        subst e1 e2
        have hcy' : (wr.setCell ⟨w.heap.size, i, none⟩ (.int .u32 ((x : Int) / 2))).cell? ⟨gx, ox + (i + 1), none⟩ = some (.int .u32 (y : Int)) := by
          rw [World.cell?_of_block (Below.heap_setCell wr ⟨w.heap.size, i, none⟩ _ gx hne)]; exact hcy
        rcases Nat.mod_two_eq_zero_or_one y with hy | hy
        · have hy0 : ((y : Int) % 2 == 1) = false := beq_eq_false_iff_ne.2 (by omega)
          have HY := bx hy
          clear hy
          go_wp2
          go_roundw
          case rel =>
            obtain ⟨o', r⟩ := half_round (z := x / 2) HOL.out hlt hwo wa HVX.out (by rw [List.getD_eq_getElem?_getD, HVY.out]; rfl) HY.out (by omega) (HRS.out (x / 2)) (HBS.out _) HVAL.out
            exact ⟨i + 1, o', by omega, by go_num, r⟩
          case measure => simp [intOf]; omega
        · have hy0 : ((y : Int) % 2 == 1) = true := beq_iff_eq.2 (by omega)
          have HY := bx hy
          clear hy
          go_wp2
          go_roundw
          case rel =>
            have hR := (HRS.out (x / 2)).set i (x / 2 + 2147483648)
            rw [List.set_set] at hR
            obtain ⟨o', r⟩ := half_round (z := x / 2 + 2147483648) HOL.out hlt hwo wa HVX.out (by rw [List.getD_eq_getElem?_getD, HVY.out]; rfl) HY.out (by omega) hR ((HBS.out _).setCell (Nat.le_refl _) _) HVAL.out
            exact ⟨i + 1, o', by omega, by go_num, r⟩
          case measure => simp [intOf]; omega
      · go_wp2
        go_roundw
        case rel =>
          obtain ⟨o', r⟩ := half_round (z := x / 2) (y := 0) HOL.out hlt hwo wa HVX.out (by rw [List.getD_eq_getElem?_getD, List.getElem?_eq_none (by omega)]; rfl) rfl (by omega) (HRS.out (x / 2)) (HBS.out _) HVAL.out
          exact ⟨i + 1, o', by omega, by go_num, r⟩
        case measure => simp [intOf]; omega
    · obtain rfl : i = a.length := by omega
      have HF := bx (show val b32 o = n / 2 by have := HVAL.out; rw [List.drop_of_length_le (Nat.le_refl _)] at this; simpa [val] using this)
      rw [Nat.sub_self, List.replicate_zero, List.append_nil] at hr
      have hrd := hr.rd_all (c := a.length) (by have := HOL.out; omega) (by unfold maxLen; omega)
      go_wp2_with fail
      refine (ncut_numA _ _ _ o (n / 2) hrd hwo _ HOL.out HF.out).mono ?_
      rintro e w' ⟨rfl, kn, rfl, hv⟩
      go_wp2
      go_ret
      exact ⟨_, _, _, Nat.le_refl _, rfl, hv, hbl⟩
theorem halved_num (w : World) (v : Value) (n : Nat) (h : Num .u32 b32 w v n) {j : Nat} (hj : Bd j n) (hj1 : j ≤ 1000000000) : Calls Tryz.prog 72 #[v] w (RetNum .u32 b32 w (n / 2)) := (halved_numG w v n h hj hj1).mono fun _ _ h => h.num
end Wx

namespace Wx
open Go Go.RowKit Go.Proofs

@[irreducible] def bdQ (r x d : Nat) : Nat := (r * 4294967296 + x) / d
@[irreducible] def bdR (r x d : Nat) : Nat := (r * 4294967296 + x) % d
theorem bd_spec {r x d : Nat} (hd : 0 < d) (hr : r < d) (hx : x < b32) : bdQ r x d * d + bdR r x d = r * b32 + x ∧ bdR r x d < d ∧ bdQ r x d < b32 := by
  unfold bdQ bdR b32
  unfold b32 at hx
  refine ⟨by rw [Nat.mul_comm]; exact Nat.div_add_mod _ _, Nat.mod_lt _ hd, ?_⟩
  rw [Nat.div_lt_iff_lt_mul hd]
  have := Nat.mul_le_mul_right 4294967296 (Nat.succ_le_of_lt hr)
  rw [Nat.succ_mul, Nat.mul_comm d] at this
  omega
/-- What the walk spells. -/
theorem bd_eqs {r x d : Nat} (hd : 0 < d) (hr : r < d) (hx : x < b32) :
    ((r : Int) * 4294967296 + (x : Int)) / (d : Int) % 4294967296 = ((bdQ r x d : Nat) : Int) ∧ ((r : Int) * 4294967296 + (x : Int)) % (d : Int) = ((bdR r x d : Nat) : Int) := by
  obtain ⟨_, h2, h3⟩ := bd_spec hd hr hx
  have e : (r : Int) * 4294967296 + (x : Int) = ((r * 4294967296 + x : Nat) : Int) := by omega
  unfold bdQ bdR at *
  rw [e, ← Int.natCast_ediv, ← Int.natCast_emod]
  unfold b32 at h3
  generalize (r * 4294967296 + x) / d = q at *
  omega
/-- What byDigit hands back. -/
def RetDigit (w : World) (q r : Nat) (e : Ending) (w' : World) : Prop := ∃ v, e = .returned (.tuple #[v, .int .u32 (r : Int)]) ∧ Num .u32 b32 w' v q ∧ Below w.heap.size w w'

set_option maxRecDepth 100000 in
set_option maxHeartbeats 1000000 in
theorem byDigit_num (w : World) (v1 : Value) (m d : Nat) (h1 : Num .u32 b32 w v1 m) {j : Nat} (hj : Bd j m) (hj1 : j ≤ 1000000000) (hd : 0 < d) (hd1 : d < b32) :
    Calls Tryz.prog 69 #[v1, .int .u32 (d : Int)] w (RetDigit w (m / d) (m % d)) := by
  obtain ⟨A, c, rfl, ha⟩ := h1
  have hl := len32 hj
  have hva := val_digs two_le_b32 m
  have wa := digs_wf two_le_b32 m
  clear hj
  generalize digs b32 m = a at *
  have hla : a.length ≤ 100000000 := by omega
  clear hl
  have VA := Lib.hid hva
  have HD1 := Lib.hid hd1
  have hd2 := u32_val hd1
  have hd0 : (0 : Int) < (d : Int) := by omega
  clear hva hd1
  go_enter Tryz.func69, Tryz.ntmps69
  go_wp2_with (at_make; refine wpList_mk _ rfl _ _ _ rfl .u32 87 Tryz.underlying29 i32row _ _ rfl rfl (by omega) (by omega) (by omega) ?_; intro w1 hrow hbel hsz)
  rw [Int.toNat_natCast] at hrow
  go_loopw [7, 8] (fun s7 s8 wr => ∃ (i rest : Nat) (o : List Nat), i ≤ a.length ∧ s8 = .int .i64 ((i : Int) - 1) ∧ s7 = .int .u64 (rest : Int) ∧ Bx (rest < d) ∧ Bx (o.length = a.length) ∧ Wf b32 o ∧ Row wr .u32 87 w.heap.size o ∧ Below w.heap.size w wr ∧ Bx (val b32 (a.drop i) = val b32 (o.drop i) * d + rest))
    (fun _ s8 _ => (intOf s8 + 1).toNat)
  case atStart => exact ⟨a.length, 0, List.replicate a.length 0, by omega, rfl, rfl, bx hd, bx (by simp), Wf.replicate (by unfold b32; omega) _, hrow, hbel, bx (by rw [List.drop_of_length_le (by omega), List.drop_of_length_le (by simp)]; simp [val])⟩
  case round =>
    obtain ⟨i, rest, o, hi, rfl, rfl, HRD, HOL, hwo, hr, hbl, HVAL⟩ := hrel
    clear hrow hbel hsz
    rcases Nat.eq_zero_or_pos i with rfl | hpos
    · rw [show (((0 : Nat) : Int) - 1) = -1 by omega]
      have h := HVAL.out
      rw [List.drop_zero, List.drop_zero, VA.out] at h
      obtain ⟨e1, e2⟩ := div_unique h HRD.out
      have HF := Lib.hid e1.symm
      have HG := Lib.hid e2.symm
      clear h e1 e2
      have hrd := hr.rd_all (c := a.length) (by have := HOL.out; omega) (by unfold maxLen; omega)
      have hr1 : (rest : Int) ≤ 4294967295 := by have := HRD.out; omega
      go_wp2_with fail
      refine (ncut_num _ _ _ o (m / d) hrd hwo _ HOL.out HF.out).mono ?_
      rintro e w' ⟨rfl, v, rfl, hv⟩
      go_wp2
      rw [HG.out]
      go_ret2
      exact ⟨_, rfl, hv, hbl⟩
    · obtain ⟨k, rfl⟩ : ∃ k, i = k + 1 := ⟨i - 1, by omega⟩
      rw [show (((k + 1 : Nat) : Int) - 1) = (k : Int) by omega]
      obtain ⟨gx, ox, vx, rfl, hcx, HVX⟩ := (ha.below hbl).get (i := k) (by omega)
      obtain ⟨vo, hco, HVO⟩ := hr.get (i := k) (by have := HOL.out; omega)
      have hcf := hr.frozen k
      have HVB : Bx (vx < b32) := bx (wa _ (List.mem_of_getElem? HVX.out))
      have hvx := u32_val HVB.out
      have hk0 : (0 : Int) ≤ (k : Int) := by omega
      have hk1 : (k : Int) < (a.length : Int) := by omega
      have hrx : (rest : Int) ≤ 4294967294 := by have := HRD.out; omega
      obtain ⟨q1, q2⟩ := bd_eqs hd HRD.out HVB.out
      have Q1 := bx q1
      have Q2 := bx q2
      have HS := bx (bd_spec hd HRD.out HVB.out)
      clear q1 q2
      go_wp2_with fail
      rw [Q1.out, Q2.out]
      go_roundw
      case rel =>
        refine ⟨k, _, o.set k (bdQ rest vx d), by omega, rfl, rfl, bx HS.out.2.1, bx (by rw [List.length_set]; exact HOL.out), hwo.set HS.out.2.2, hr.set _ _, hbl.setCell (Nat.le_refl _) _, bx ?_⟩
        rw [drop_set_self (by have := HOL.out; omega), drop_get_cons HVX.out, val_cons, val_cons]
        exact byWord_step HVAL.out HS.out.1
      case measure => simp [intOf]
end Wx
