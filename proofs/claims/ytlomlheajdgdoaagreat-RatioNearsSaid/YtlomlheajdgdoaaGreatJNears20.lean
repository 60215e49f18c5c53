import Derived.Test.YtlomlheajdgdoaaGreatProg
import Derived.Handy
import Derived.Test.YtlomlheajdgdoaaGreatJNears0
import Derived.Test.YtlomlheajdgdoaaGreatJNears1
import Derived.Test.YtlomlheajdgdoaaGreatCRat1
import Derived.Test.YtlomlheajdgdoaaGreatJNears10
import Derived.Test.YtlomlheajdgdoaaGreatJNears12
import Derived.Test.YtlomlheajdgdoaaGreatJNears13
import Derived.Test.YtlomlheajdgdoaaGreatCDown
import Derived.Test.YtlomlheajdgdoaaGreatJNears15
import Derived.Test.YtlomlheajdgdoaaGreatCText
import Derived.Test.YtlomlheajdgdoaaGreatJNears18
import Derived.Test.YtlomlheajdgdoaaGreatCParse
import Derived.Deep.QuietTactic
import Derived.BigQuiet
namespace Wx
open Go Go.RowKit Go.Proofs

def awX : Rat := newR 2 3
def awY : Rat := newR 1 6
def awZ : Rat := parseQ [45, 55, 47, 50]
def awD : Rat := awX - awY
def awF : Rat := downR awZ 0
theorem aw1 : parseOk [45, 55, 47, 50] = true := by decide +kernel
theorem aw2 : textR awZ = [45, 55, 47, 50] := by decide +kernel
theorem aw3 : textR awD = [49, 47, 50] := by decide +kernel
theorem aw4 : textR awF = [45, 52] := by decide +kernel
theorem aw5 : Bd 10 awD.num.natAbs ∧ Bd 10 awD.den := by unfold Bd; decide +kernel
theorem aw6 : Bd 10 awF.num.natAbs ∧ Bd 10 awF.den := by unfold Bd; decide +kernel
theorem aw7 : Bd 10 awX.num.natAbs ∧ Bd 10 awX.den := by unfold Bd; decide +kernel
theorem aw8 : Bd 10 awY.num.natAbs ∧ Bd 10 awY.den := by unfold Bd; decide +kernel
theorem aw9 : Bd 10 awZ.num.natAbs ∧ Bd 10 awZ.den := by unfold Bd; decide +kernel

set_option maxRecDepth 100000 in
set_option maxHeartbeats 1000000 in
/-- The examples of the chapter. -/
theorem awake_num (w : World) : Calls Tryz.prog 6 #[] w (RetIs w (.bool true)) := by
  have hc1 : ∀ w, Calls Tryz.prog 11 #[.int .i64 2, .int .i64 3] w (RetRE w awX 0) := fun w => new_num w 2 3 (by omega) (by omega) (by omega) (by omega) (by omega)
  have hc2 : ∀ w, Calls Tryz.prog 11 #[.int .i64 1, .int .i64 6] w (RetRE w awY 0) := fun w => new_num w 1 6 (by omega) (by omega) (by omega) (by omega) (by omega)
  have hc3 : ∀ w, Calls Tryz.prog 52 #[.string ⟨#[45, 55, 47, 50]⟩] w (RetRE w awZ 0) := fun w => parse_ok w [45, 55, 47, 50] (by intro x hx; simp at hx; omega) (by simp) aw1 aw2
  have HC1 := bx hc1
  have HC2 := bx hc2
  have HC3 := bx hc3
  have HB := bx (And.intro (show BdR 10 awX from aw7) (And.intro (show BdR 10 awY from aw8) (And.intro (show BdR 10 awZ from aw9) (And.intro (show BdR 10 awD from aw5) (show BdR 10 awF from aw6)))))
  have hd1 : awX - awY = awD := rfl
  have hf1 : downR awZ 0 = awF := rfl
  have HD := bx hd1
  have HF := bx hf1
  have ht1 : ((strOf (textR awD)).toList == [49, 47, 50]) = true := by rw [aw3, strOf_toList]; decide
  have ht2 : ((strOf (textR awF)).toList == [45, 52]) = true := by rw [aw4, strOf_toList]; decide
  clear hc1 hc2 hc3 hd1 hf1
  generalize awX = x at *
  generalize awY = y at *
  generalize awZ = z at *
  generalize awD = d at *
  generalize awF = f at *
  go_enter Tryz.func6, Tryz.ntmps6
  go_wp2_with fail
  refine Calls.mono (HC1.out _) ?_
  rintro e w1 ⟨vx, rfl, hx, b1⟩
  obtain ⟨vxn, vxd, rfl, hxn, hxd⟩ := id hx
  obtain ⟨Ax1, cx1, rfl, _⟩ := id hxn
  obtain ⟨Ax2, cx2, rfl, _⟩ := id hxd
  go_wp2_with fail
  obtain ⟨w2, e2, o2, b2, s2⟩ := layA w1 [.bool (decide (x.num < 0)), .slice Ax1 (digs b64 x.num.natAbs).length cx1, .slice Ax2 (digs b64 (denOf x.den)).length cx2] 29
  rw [e2]
  clear e2
  have B2 := b1.trans (b2.mono b1.size)
  have hx := hx.below b2
  refine Calls.mono (HC2.out _) ?_
  rintro e w3 ⟨vy, rfl, hy, b3⟩
  obtain ⟨vyn, vyd, rfl, hyn, hyd⟩ := id hy
  obtain ⟨Ay1, cy1, rfl, _⟩ := id hyn
  obtain ⟨Ay2, cy2, rfl, _⟩ := id hyd
  have B3 := B2.trans (b3.mono B2.size)
  go_wp2_with fail
  obtain ⟨w4, e4, o4, b4, s4⟩ := layA w3 [.bool (decide (y.num < 0)), .slice Ay1 (digs b64 y.num.natAbs).length cy1, .slice Ay2 (digs b64 (denOf y.den)).length cy2] 29
  rw [e4]
  clear e4
  have B4 := B3.trans (b4.mono B3.size)
  have hx := (hx.below b3).below b4
  have hy := hy.below b4
  have o2 := (o2.gone b3).gone b4
  refine Calls.mono (HC3.out _) ?_
  rintro e w5 ⟨vz, rfl, hz, b5⟩
  obtain ⟨vzn, vzd, rfl, hzn, hzd⟩ := id hz
  obtain ⟨Az1, cz1, rfl, _⟩ := id hzn
  obtain ⟨Az2, cz2, rfl, _⟩ := id hzd
  have B5 := B4.trans (b5.mono B4.size)
  obtain ⟨w6, e6, o6, b6, s6⟩ := layA w5 [.bool (decide (z.num < 0)), .slice Az1 (digs b64 z.num.natAbs).length cz1, .slice Az2 (digs b64 (denOf z.den)).length cz2] 29
  have B6 := B5.trans (b6.mono B5.size)
  have hx := (hx.below b5).below b6
  have hy := (hy.below b5).below b6
  have hz := hz.below b6
  have o2 := (o2.gone b5).gone b6
  have o4 := (o4.gone b5).gone b6
  have j0 := o2.cell (i := 0) rfl
  have j1 := o2.cell (i := 1) rfl
  have j2 := o2.cell (i := 2) rfl
  have k0 := o4.cell (i := 0) rfl
  have k1 := o4.cell (i := 1) rfl
  have k2 := o4.cell (i := 2) rfl
  have l0 := o6.cell (i := 0) rfl
  have l1 := o6.cell (i := 1) rfl
  have l2 := o6.cell (i := 2) rfl
  go_wp2_with fail
  have hc := sub_num w6 _ _ x y hx hy HB.out.1 HB.out.2.1 (by omega)
  rw [HD.out] at hc
  refine Calls.mono hc ?_
  clear hc j0 j1 j2 k0 k1 k2 l0 l1 l2
  rintro e w7 ⟨vd, rfl, hd, b7⟩
  have B7 := B6.trans (b7.mono B6.size)
  have hz := hz.below b7
  have o6 := o6.gone b7
  go_wp2_with fail
  refine Calls.mono (rtext_num w7 _ d hd HB.out.2.2.2.1 (by omega)) ?_
  rintro e w8 ⟨rfl, b8⟩
  have B8 := B7.trans (b8.mono B7.size)
  have hz := hz.below b8
  have o6 := o6.gone b8
  have l0 := o6.cell (i := 0) rfl
  have l1 := o6.cell (i := 1) rfl
  have l2 := o6.cell (i := 2) rfl
  go_wp2_with fail
  have hc := floor_num w8 _ z hz HB.out.2.2.1 (by omega)
  rw [HF.out] at hc
  refine Calls.mono hc ?_
  clear hc
  rintro e w9 ⟨vf, rfl, hf, b9⟩
  have B9 := B8.trans (b9.mono B8.size)
  go_wp2_with fail
  refine Calls.mono (rtext_num w9 _ f hf HB.out.2.2.2.2 (by omega)) ?_
  rintro e wa ⟨rfl, ba⟩
  go_wp2
  go_ret
  exact ⟨rfl, B9.trans (ba.mono B9.size)⟩
end Wx

namespace Wx

/-- The number of binary digits. -/
def nbits (n : Nat) : Nat := if n = 0 then 0 else Nat.log2 n + 1
theorem nbits_zero : nbits 0 = 0 := rfl
theorem nbits_pos {n : Nat} (h : 0 < n) : 0 < nbits n := by unfold nbits; rw [if_neg (by omega)]; omega
theorem nbits_lt (n : Nat) : n < 2 ^ nbits n := by
  unfold nbits
  split
  · next h => subst h; decide
  · exact Nat.lt_log2_self
theorem nbits_le {n : Nat} (h : 0 < n) : 2 ^ (nbits n - 1) ≤ n := by
  unfold nbits
  rw [if_neg (by omega)]
  exact Nat.log2_self_le (by omega)
theorem nbits_unique {n k : Nat} (h1 : 2 ^ k ≤ n) (h2 : n < 2 ^ (k + 1)) : nbits n = k + 1 := by
  have h0 : 0 < n := Nat.lt_of_lt_of_le (Nat.two_pow_pos k) h1
  have a1 := nbits_lt n
  have a2 := nbits_le h0
  have a3 := nbits_pos h0
  have b1 : k < nbits n := by
    rcases Nat.lt_or_ge k (nbits n) with h | h
    · exact h
    · have := Nat.pow_le_pow_right (show 0 < 2 by omega) h; omega
  have b2 : nbits n - 1 < k + 1 := by
    rcases Nat.lt_or_ge (nbits n - 1) (k + 1) with h | h
    · exact h
    · have := Nat.pow_le_pow_right (show 0 < 2 by omega) h; omega
  omega
theorem nbits_half {n : Nat} (h : 0 < n) : nbits n = nbits (n / 2) + 1 := by
  by_cases h1 : n = 1
  · subst h1; decide
  · have h2 : 0 < n / 2 := by omega
    have a := nbits_lt (n / 2)
    have b := nbits_le h2
    have c := nbits_pos h2
    have e := nbits_unique (n := n) (k := nbits (n / 2)) (by
      have : 2 ^ nbits (n / 2) = 2 * 2 ^ (nbits (n / 2) - 1) := by
        rw [← Nat.pow_succ']; congr 1; omega
      omega) (by rw [Nat.pow_succ]; omega)
    exact e
theorem nbits_mul_add {t m low k : Nat} (ht : 0 < t) (hl : low < 2 ^ k) (hm : m = low + 2 ^ k * t) : nbits m = k + nbits t := by
  have a := nbits_lt t
  have b := nbits_le ht
  have c := nbits_pos ht
  have e := nbits_unique (n := m) (k := k + (nbits t - 1)) (by
    rw [Nat.pow_add, hm]
    have := Nat.mul_le_mul_left (2 ^ k) b
    omega) (by
    rw [show k + (nbits t - 1) + 1 = k + nbits t by omega, Nat.pow_add, hm]
    have := Nat.mul_le_mul_left (2 ^ k) (Nat.succ_le_of_lt a)
    rw [Nat.mul_succ] at this
    omega)
  omega
theorem nbits_bd {j n : Nat} (h : Bd j n) : nbits n ≤ j := by
  rcases Nat.eq_zero_or_pos n with rfl | h0
  · rw [nbits_zero]; omega
  · have a := nbits_le h0
    have b := nbits_pos h0
    rcases Nat.lt_or_ge j (nbits n) with h' | h'
    · have := Nat.pow_le_pow_right (show 0 < 2 by omega) (show j ≤ nbits n - 1 by omega)
      unfold Bd at h
      omega
    · exact h'
theorem nbits_lt_of {m n : Nat} (h : nbits m < nbits n) : m < n := by
  have a := nbits_lt m
  have b : 0 < n := by
    rcases Nat.eq_zero_or_pos n with rfl | h0
    · rw [nbits_zero] at h; omega
    · exact h0
  have c := nbits_le b
  have := Nat.pow_le_pow_right (show 0 < 2 by omega) (show nbits m ≤ nbits n - 1 by omega)
  omega
/-- The start of a long division. -/
theorem nbits_start {a b : Nat} (hb : 0 < b) : a < b * 2 ^ (nbits a - nbits b + 1) := by
  have h1 := nbits_lt a
  have h2 := nbits_le hb
  have h3 := nbits_pos hb
  have h4 : 2 ^ nbits a ≤ 2 ^ ((nbits b - 1) + (nbits a - nbits b + 1)) := Nat.pow_le_pow_right (by omega) (by omega)
  rw [Nat.pow_add] at h4
  have h5 := Nat.mul_le_mul_right (2 ^ (nbits a - nbits b + 1)) h2
  omega
/-- One step of a long division, from the bit i down. -/
theorem ldiv_step {A b Q a i : Nat} (hA : A = Q * b + a) (ha : a < b * 2 ^ (i + 1)) (hQ : 2 ^ (i + 1) ∣ Q) :
    (b * 2 ^ i ≤ a → A = (Q + 2 ^ i) * b + (a - b * 2 ^ i) ∧ a - b * 2 ^ i < b * 2 ^ i ∧ 2 ^ i ∣ Q + 2 ^ i) ∧ (a < b * 2 ^ i → 2 ^ i ∣ Q) := by
  have hd : 2 ^ i ∣ Q := Nat.dvd_trans (Nat.pow_dvd_pow 2 (by omega)) hQ
  refine ⟨fun h => ⟨?_, ?_, Nat.dvd_add hd (Nat.dvd_refl _)⟩, fun _ => hd⟩
  · rw [Nat.add_mul, Nat.mul_comm (2 ^ i) b]; omega
  · rw [Nat.pow_succ, ← Nat.mul_assoc] at ha; omega
theorem half_pow (b i : Nat) : b * 2 ^ (i + 1) / 2 = b * 2 ^ i := by
  rw [Nat.pow_succ, ← Nat.mul_assoc, Nat.mul_div_cancel _ (by omega)]
/-- A bit is set in a word whose lower bits are 0. -/
theorem bit_room {x k : Nat} (hx : x < 4294967296) (hk : k < 32) (hd : 2 ^ (k + 1) ∣ x) : x + 2 ^ k < 4294967296 := by
  obtain ⟨y, rfl⟩ := hd
  have e : 4294967296 = 2 ^ (k + 1) * 2 ^ (31 - k) := by rw [← Nat.pow_add, show k + 1 + (31 - k) = 32 by omega]
  have h1 : y < 2 ^ (31 - k) := by
    rw [e] at hx
    exact Nat.lt_of_mul_lt_mul_left hx
  have h2 := Nat.mul_le_mul_left (2 ^ (k + 1)) (Nat.succ_le_of_lt h1)
  rw [Nat.mul_succ, ← e] at h2
  have h3 : 2 ^ k < 2 ^ (k + 1) := Nat.pow_lt_pow_right (by omega) (by omega)
  omega
/-- The word of a number that 2^(i+1) divides. -/
theorem word_dvd {l : List Nat} {i v : Nat} (hw : Wf 4294967296 l) (hd : 2 ^ (i + 1) ∣ val 4294967296 l) (h : l[i / 32]? = some v) : 2 ^ (i % 32 + 1) ∣ v := by
  obtain ⟨hi, hv⟩ := List.getElem?_eq_some_iff.1 h
  have e := val_take_drop 4294967296 l (i / 32) (by omega)
  rw [val_drop 4294967296 l (i / 32) hi, hv] at e
  have hp : (4294967296 : Nat) ^ (i / 32) = 2 ^ (32 * (i / 32)) := by rw [Nat.pow_mul]
  have hi' : i + 1 = 32 * (i / 32) + (i % 32 + 1) := by omega
  have hlow := val_lt (hw.take (i / 32))
  rw [List.length_take, Nat.min_eq_left (by omega), hp] at hlow
  rw [hp] at e
  have h1 : 2 ^ (32 * (i / 32)) ∣ val 4294967296 l := Nat.dvd_trans (Nat.pow_dvd_pow 2 (by omega)) hd
  have h0 : val 4294967296 (l.take (i / 32)) = 0 := by
    rw [e] at h1
    have := (Nat.dvd_add_left (Nat.dvd_mul_right _ _)).1 h1
    exact Nat.eq_zero_of_dvd_of_lt this hlow
  rw [e, h0, Nat.zero_add, hi', Nat.pow_add] at hd
  have h2 := Nat.dvd_of_mul_dvd_mul_left (Nat.two_pow_pos _) hd
  refine (Nat.dvd_add_left (Nat.dvd_trans ?_ (Nat.dvd_mul_right _ _))).1 h2
  have : (4294967296 : Nat) = 2 ^ 32 := by decide
  rw [this]
  exact Nat.pow_dvd_pow 2 (by omega)
theorem set_bit {l : List Nat} {i v : Nat} (h : l[i / 32]? = some v) : val 4294967296 (l.set (i / 32) (v + 2 ^ (i % 32))) = val 4294967296 l + 2 ^ i := by
  have h1 := val_set (b := 4294967296) h (v + 2 ^ (i % 32))
  have hp : (4294967296 : Nat) ^ (i / 32) = 2 ^ (32 * (i / 32)) := by rw [Nat.pow_mul]
  have e : 2 ^ i = 2 ^ (32 * (i / 32)) * 2 ^ (i % 32) := by rw [← Nat.pow_add]; congr 1; omega
  rw [Nat.mul_add, hp, ← e] at h1
  omega
/-- One round of halving. -/
theorem half_step {x d D : Nat} (hd : D % 2 = d) : (x + 4294967296 * D) / 2 = (x / 2 + 2147483648 * d) + 4294967296 * (D / 2) := by omega
end Wx

namespace Wx
open Go Go.RowKit Go.Proofs

def b32 : Nat := 4294967296
theorem b32_pow : b32 = 2 ^ 32 := by unfold b32; decide
theorem two_le_b32 : 2 ≤ b32 := by unfold b32; omega
theorem len32 {k n : Nat} (h : Bd k n) : (digs b32 n).length ≤ k / 32 + 1 := by rw [b32_pow]; exact h.digs (by omega)
theorem i32row : (Tryz.prog.info? 49).map (fun i => (i.zero, i.size, decide (i.bytes ≤ 8))) = some (some (.int .u32 0), 1, true) := by kernel_rfl
theorem ncut_any (w : World) (A : Option Addr) (c : Nat) (l : List Nat) (h : Rd w .u32 A c l) :
    Calls Tryz.prog 100 #[.slice A l.length c] w (CutPost w A c l) := by
  obtain ⟨hl, hm, hcell⟩ := h
  unfold maxLen at hm
  go_enter Tryz.func100, Tryz.ntmps100
  go_wp2
  go_loop [3] (fun v => ∃ n : Nat, n ≤ l.length ∧ v = .int .i64 n ∧ (∀ b, val b (l.take n) = val b l)) (fun v => (intOf v).toNat)
  case atStart => exact ⟨l.length, Nat.le_refl _, rfl, fun b => by rw [List.take_length]⟩
  case round =>
    obtain ⟨n, hn, rfl, hv⟩ := hrel
    have HV := Lib.hid hv
    clear hv
    rcases Nat.eq_zero_or_pos n with rfl | hpos
    · go_wp2
      go_ret
      exact ⟨0, hn, rfl, rfl, Top.nil, HV.out⟩
    · obtain ⟨b, o, rfl, hc⟩ := hcell (by rintro rfl; simp at hn; omega)
      have hc1 := hc (n - 1) (by omega)
      clear hc hcell
      obtain ⟨x, hx⟩ : ∃ x, x = l.getD (n - 1) 0 := ⟨_, rfl⟩
      rw [← hx] at hc1
      have HX := Lib.hid hx
      clear hx
      obtain ⟨k, rfl⟩ : ∃ k, n = k + 1 := ⟨n - 1, by omega⟩
      rw [Nat.add_sub_cancel] at hc1 HX
      rcases Nat.eq_zero_or_pos x with rfl | h0
      · go_wp2
        go_round
        case rel => exact ⟨k, by omega, by go_num, fun b => by rw [step_zero (by omega) HX.out.symm]; exact HV.out b⟩
        case measure => simp [intOf]
      · have h0' : ((x : Int) == 0) = false := beq_eq_false_iff_ne.2 (by omega)
        go_wp2
        go_ret
        exact ⟨k + 1, hn, rfl, rfl, top_of (l := l) (n := k) (by omega) (by have := HX.out; omega), HV.out⟩
theorem ncut_num (w : World) (A : Option Addr) (c : Nat) (l : List Nat) (n : Nat) (h : Rd w .u32 A c l) (hw : Wf b32 l) (L : Nat) (hL : l.length = L) (hn : val b32 l = n) :
    Calls Tryz.prog 100 #[.slice A L c] w (SameNum .u32 b32 w n) := by
  subst hL
  refine (ncut_any w A c l h).mono fun e w' ⟨k, hk, he, hw', ht, hv⟩ => ⟨hw', _, he, ?_⟩
  rw [← hn, ← hv b32]
  exact Num.of two_le_b32 (h.take k) (by rw [List.length_take]; omega) (hw.take k) ht

/-- What a call hands back that returns a new number in a block of its own. -/
def RetNumG (w : World) (n : Nat) (e : Ending) (w' : World) : Prop := ∃ g L c, w.heap.size ≤ g ∧ e = .returned (.slice (some ⟨g, 0, none⟩) L c) ∧ Num .u32 b32 w' (.slice (some ⟨g, 0, none⟩) L c) n ∧ Below w.heap.size w w'
theorem RetNumG.num {w : World} {n : Nat} {e : Ending} {w' : World} (h : RetNumG w n e w') : RetNum .u32 b32 w n e w' := by
  obtain ⟨g, L, c, _, he, hn, hb⟩ := h
  exact ⟨_, he, hn, hb⟩
theorem ncut_numA (w : World) (A : Option Addr) (c : Nat) (l : List Nat) (n : Nat) (h : Rd w .u32 A c l) (hw : Wf b32 l) (L : Nat) (hL : l.length = L) (hn : val b32 l = n) :
    Calls Tryz.prog 100 #[.slice A L c] w (fun e w' => w = w' ∧ ∃ k, e = .returned (.slice A k c) ∧ Num .u32 b32 w (.slice A k c) n) := by
  subst hL
  refine (ncut_any w A c l h).mono fun e w' ⟨k, hk, he, hw', ht, hv⟩ => ⟨hw', _, he, ?_⟩
  rw [← hn, ← hv b32]
  exact Num.of two_le_b32 (h.take k) (by rw [List.length_take]; omega) (hw.take k) ht

theorem nat_num (w : World) (n : Nat) (hn : n < b64) : Calls Tryz.prog 59 #[.int .u64 (n : Int)] w (RetNum .u32 b32 w n) := by
  have e1 : (n : Int) % 4294967296 = ((n % b32 : Nat) : Int) := by unfold b32; omega
  have e2 : IntKind.u64.wrap ((n : Int) / 4294967296) % 4294967296 = ((n / b32 : Nat) : Int) := by
    unfold b64 at hn
    rw [wrap_u64 (by omega) (by omega)]; unfold b32; omega
  have hw : Wf b32 [n % b32, n / b32] := Wf.cons (Nat.mod_lt _ (by unfold b32; omega)) (Wf.cons (by unfold b32; unfold b64 at hn; omega) (Wf.nil _))
  have hv : val b32 [n % b32, n / b32] = n := by simp [val]; exact Nat.mod_add_div _ _
  have E1 := Lib.hid e1
  have E2 := Lib.hid e2
  have HV := Lib.hid hv
  clear e1 e2 hv hn
  go_enter Tryz.func59, Tryz.ntmps59
  go_wp2_with fail
  rw [E1.out, E2.out]
  have hR : Row (w.alloc (.cells #[.int .u32 ((n % b32 : Nat) : Int), .int .u32 ((n / b32 : Nat) : Int)] 49)) .u32 49 w.heap.size [n % b32, n / b32] := Row.new w .u32 49 [n % b32, n / b32]
  refine (ncut_num _ _ _ [n % b32, n / b32] n (hR.rd_all (Nat.le_refl _) (by simp [maxLen])) hw _ rfl HV.out).mono ?_
  rintro e w' ⟨rfl, v, rfl, hv⟩
  go_wp2
  go_ret
  exact ⟨v, rfl, hv, (Below.refl _ _).alloc (Nat.le_refl _) _⟩
end Wx

namespace Wx
open Go Go.RowKit Go.Proofs

set_option maxHeartbeats 400000 in
theorem order_dr (w : World) (v1 v2 : Value) (m n : Nat) (h1 : Num .u32 b32 w v1 m) (h2 : Num .u32 b32 w v2 n) :
    Calls Tryz.prog 98 #[v1, v2] w (RetDr w (.int .i64 (cmpI m n))) := by
  obtain ⟨A, c, rfl, ha⟩ := h1
  obtain ⟨B, d, rfl, hb⟩ := h2
  have hla := ha.len
  have hlb := hb.len
  by_cases hlt : (digs b32 m).length < (digs b32 n).length
  · have hmn := val_lt_of_length two_le_b32 hlt
    have e : cmpI m n = -1 := by unfold cmpI; rw [if_pos hmn]
    rw [e]
    go_enter Tryz.func98, Tryz.ntmps98
    go_wp2
    all_goals (go_ret; exact ⟨rfl, 0, rfl⟩)
  · by_cases hgt : (digs b32 n).length < (digs b32 m).length
    · have hmn := val_lt_of_length two_le_b32 hgt
      have e : cmpI m n = 1 := by unfold cmpI; rw [if_neg (by omega), if_pos hmn]
      rw [e]
      go_enter Tryz.func98, Tryz.ntmps98
      go_wp2
      all_goals (go_ret; exact ⟨rfl, 0, rfl⟩)
    · have hll : (digs b32 m).length = (digs b32 n).length := by omega
      have wa := digs_wf two_le_b32 m
      have wb := digs_wf two_le_b32 n
      have va := val_digs two_le_b32 m
      have vb := val_digs two_le_b32 n
      generalize digs b32 m = a at *
      generalize digs b32 n = b at *
      rw [← hll] at hlb ⊢
      have HL := Lib.hid hll
      have VA := Lib.hid va
      have VB := Lib.hid vb
      clear hll va vb hlt hgt hlb
      go_enter Tryz.func98, Tryz.ntmps98
      go_wp2
      go_loopw [5] (fun s5 wr => ∃ i : Nat, i ≤ a.length ∧ s5 = .int .i64 ((i : Int) - 1) ∧ a.drop i = b.drop i ∧ ∃ q, wr = w.drewN q)
        (fun s5 _ => (intOf s5 + 1).toNat)
      case atStart => exact ⟨a.length, Nat.le_refl _, rfl, by rw [List.drop_of_length_le (Nat.le_refl _), List.drop_of_length_le (by have := HL.out; omega)], 0, rfl⟩
      case round =>
        obtain ⟨i, hi, rfl, hd, q, rfl⟩ := hrel
        have HD := Lib.hid hd
        clear hd
        rcases Nat.eq_zero_or_pos i with rfl | hpos
        · rw [show (((0 : Nat) : Int) - 1) = -1 by omega]
          have : a = b := by simpa using HD.out
          have e : m = n := by rw [← VA.out, ← VB.out, this]
          have e0 : cmpI m n = 0 := by unfold cmpI; rw [if_neg (by omega), if_neg (by omega)]
          have E0 := Lib.hid e0
          clear e e0 this
          go_wp2
          go_ret
          exact ⟨ret_int E0.out.symm, _, rfl⟩
        · obtain ⟨j, rfl⟩ : ∃ j, i = j + 1 := ⟨i - 1, by omega⟩
          obtain ⟨b1, o1, x, rfl, hcx, HX⟩ := ha.get (i := j) (by omega)
          obtain ⟨b2, o2, y, rfl, hcy, HY⟩ := hb.get (i := j) (by have := HL.out; omega)
          rw [show (((j + 1 : Nat) : Int) - 1) = (j : Int) by omega]
          have hj0 : (0 : Int) ≤ (j : Int) := by omega
          have hj1 : (j : Int) < (a.length : Int) := by omega
          rcases Nat.lt_trichotomy x y with hxy | hxy | hxy
          · have hxy' : (x : Int) < (y : Int) := by omega
            have hmn : m < n := by
              rw [← VA.out, ← VB.out]
              exact val_lt_get wa HX.out HY.out HD.out hxy
            have E0 : Hid (cmpI m n = -1) := by show cmpI m n = -1; unfold cmpI; rw [if_pos hmn]
            clear hmn
            go_wp2
            go_quiet (fail)
            go_wp2
            go_ret
            exact ⟨ret_int E0.out.symm, _, World.drewN_drewN _ _ _⟩
          · subst hxy
            go_wp2
            go_quiet (fail)
            go_wp2
            go_quiet (fail)
            go_wp2
            go_roundw
            case rel => exact ⟨j, by omega, by go_num, drop_get HX.out HY.out HD.out, _, rfl⟩
            case measure => simp [intOf]
          · have hxy' : (y : Int) < (x : Int) := by omega
            have hmn : n < m := by
              rw [← VA.out, ← VB.out]
              exact val_lt_get wb HY.out HX.out HD.out.symm hxy
            have E0 : Hid (cmpI m n = 1) := by show cmpI m n = 1; unfold cmpI; rw [if_neg (by omega), if_pos hmn]
            clear hmn
            go_wp2
            go_quiet (fail)
            go_wp2
            go_quiet (fail)
            go_wp2
            go_ret
            exact ⟨ret_int E0.out.symm, _, (World.drewN_drewN _ _ _).trans (World.drewN_drewN _ _ _)⟩
theorem order_num (w : World) (v1 v2 : Value) (m n : Nat) (h1 : Num .u32 b32 w v1 m) (h2 : Num .u32 b32 w v2 n) :
    Calls Tryz.prog 98 #[v1, v2] w (RetIs w (.int .i64 (cmpI m n))) := (order_dr w v1 v2 m n h1 h2).mono fun _ _ h => h.is
end Wx
