import Derived.Test.YtlomlheajdgdoaaGreatProg
import Derived.Deep.QuietTactic
import Derived.BigQuiet
import Derived.Test.YtlomlheajdgdoaaGreatJFloats0
import Derived.Test.YtlomlheajdgdoaaGreatCFloatsMem
import Derived.Test.YtlomlheajdgdoaaGreatJFloats2
import Derived.Test.YtlomlheajdgdoaaGreatJFloats29
namespace Wx
set_option maxRecDepth 100000
open Go Go.RowKit Go.Proofs

@[irreducible] def npLo (x y u c : Nat) : Nat := (u + c + x * y) % 4294967296
@[irreducible] def npHi (x y u c : Nat) : Nat := (u + c + x * y) / 4294967296
theorem np_spec (x y u c : Nat) : npLo x y u c + b32 * npHi x y u c = x * y + u + c := by unfold npLo npHi b32; omega
theorem npLo_lt (x y u c : Nat) : npLo x y u c < b32 := by unfold npLo b32; omega
theorem npHi_lt {x y u c : Nat} (hx : x < b32) (hy : y < b32) (hu : u < b32) (hc : c < b32) : npHi x y u c < b32 ∧ u + c + x * y < 18446744073709551616 := by
  have hxy : x * y ≤ 4294967295 * 4294967295 := Nat.mul_le_mul (by unfold b32 at hx; omega) (by unfold b32 at hy; omega)
  unfold b32 npHi at *
  omega
theorem nprod_round {w0 wr : World} {g : Nat} {o b : List Nat} {i k c vx vy vu s N : Nat} (hk : k < b.length) (hc : c < b32) (hol : o.length = N) (hwo : Wf b32 o) (hx : vx < b32) (hy : vy < b32) (hu : vu < b32)
    (hr : Row wr .u32 49 g o) (hg : w0.heap.size ≤ g) (hbl : Below w0.heap.size w0 wr) (hz : ∀ p, i + b.length + 1 ≤ p → o.getD p 0 = 0) (hz0 : o.getD (i + b.length) 0 = 0) (hval : val b32 o + b32 ^ (i + k) * c = s + b32 ^ i * (vx * val b32 (b.take k)))
    (HU : o[i + k]? = some vu) (HY : b[k]? = some vy) :
    ∃ (o' : List Nat), npHi vx vy vu c < b32 ∧ o'.length = N ∧ Wf b32 o' ∧
      Row (wr.setCell ⟨g, i + k, none⟩ (.int .u32 (npLo vx vy vu c : Nat))) .u32 49 g o' ∧ Below w0.heap.size w0 (wr.setCell ⟨g, i + k, none⟩ (.int .u32 (npLo vx vy vu c : Nat))) ∧
      (∀ p, i + b.length + 1 ≤ p → o'.getD p 0 = 0) ∧ o'.getD (i + b.length) 0 = 0 ∧ val b32 o' + b32 ^ (i + (k + 1)) * npHi vx vy vu c = s + b32 ^ i * (vx * val b32 (b.take (k + 1))) := by
  refine ⟨o.set (i + k) (npLo vx vy vu c), (npHi_lt hx hy hu hc).1, by simp [hol], hwo.set (npLo_lt _ _ _ _), hr.set _ _, hbl.setCell hg _, ?_, ?_, mul_step hval HU HY (np_spec _ _ _ _)⟩
  · intro p hp
    rw [getD_set_ne (by omega)]; exact hz p hp
  · rw [getD_set_ne (by omega)]; exact hz0
theorem nprod_carry {w0 wr : World} {g : Nat} {o b : List Nat} {i c vx s N : Nat} (hc : c < b32) (hN : i + b.length < N) (hol : o.length = N) (hwo : Wf b32 o)
    (hr : Row wr .u32 49 g o) (hg : w0.heap.size ≤ g) (hbl : Below w0.heap.size w0 wr) (hz : ∀ p, i + b.length + 1 ≤ p → o.getD p 0 = 0) (hz0 : o.getD (i + b.length) 0 = 0) (hval : val b32 o + b32 ^ (i + b.length) * c = s + b32 ^ i * (vx * val b32 (b.take b.length))) :
    ∃ (o' : List Nat), o'.length = N ∧ Wf b32 o' ∧
      Row (wr.setCell ⟨g, i + b.length, none⟩ (.int .u32 (c : Nat))) .u32 49 g o' ∧ Below w0.heap.size w0 (wr.setCell ⟨g, i + b.length, none⟩ (.int .u32 (c : Nat))) ∧
      (∀ p, i + b.length + 1 ≤ p → o'.getD p 0 = 0) ∧ val b32 o' + b32 ^ (i + (b.length + 1)) * 0 = s + b32 ^ i * (vx * val b32 (b.take (b.length + 1))) := by
  refine ⟨o.set (i + b.length) c, by simp [hol], hwo.set hc, hr.set _ _, hbl.setCell hg _, fun p hp => by rw [getD_set_ne (by omega)]; exact hz p hp, ?_⟩
  have hu : o[i + b.length]? = some 0 := by
    rw [List.getD_eq_getElem?_getD, List.getElem?_eq_getElem (by omega)] at hz0
    rw [List.getElem?_eq_getElem (by omega)]
    simpa using hz0
  have h1 := val_set (b := b32) hu c
  rw [Nat.mul_zero, Nat.add_zero] at h1
  rw [h1, hval, Nat.mul_zero, Nat.add_zero, List.take_length, List.take_of_length_le (by omega)]
theorem nprod_row {b : Nat} {o o0 x y : List Nat} {i vx n k : Nat} (hk : y.length ≤ k) (hval : val b o + b ^ (i + k) * 0 = val b o0 + b ^ i * (vx * val b (y.take k))) (h0 : val b o0 = val b (x.take i) * n) (hb : val b y = n) (hx : x[i]? = some vx) :
    val b o = val b (x.take (i + 1)) * n := by
  rw [Nat.mul_zero, Nat.add_zero, List.take_of_length_le hk, hb] at hval
  rw [hval, h0, val_take_get hx, Nat.add_mul, Nat.mul_assoc]

theorem np_eqs {vx vy vu c : Nat} (hx : vx < b32) (hy : vy < b32) (hu : vu < b32) (hc : c < b32) :
    IntKind.u64.wrap ((IntKind.u64.wrap ((vu : Int) + (c : Int) + IntKind.u64.wrap ((vx : Int) * (vy : Int)))).tdiv 4294967296) = ((npHi vx vy vu c : Nat) : Int) ∧
    (IntKind.u64.wrap ((vu : Int) + (c : Int) + IntKind.u64.wrap ((vx : Int) * (vy : Int)))).tmod 4294967296 % 4294967296 = ((npLo vx vy vu c : Nat) : Int) := by
  obtain ⟨h1, h2⟩ := npHi_lt hx hy hu hc
  have e0 : IntKind.u64.wrap ((vx : Int) * (vy : Int)) = ((vx * vy : Nat) : Int) := by
    rw [← Int.natCast_mul, wrap_u64 (by omega) (by omega)]
  have e : (vu : Int) + (c : Int) + ((vx * vy : Nat) : Int) = ((vu + c + vx * vy : Nat) : Int) := by omega
  rw [e0, e]
  unfold npLo npHi at *
  generalize vu + c + vx * vy = N at *
  unfold b32 at h1
  rw [wrap_u64 (n := (N : Int)) (by omega) (by omega), Int.tdiv_eq_ediv_of_nonneg (by omega), Int.tmod_eq_emod_of_nonneg (by omega), wrap_u64 (by omega) (by omega)]
  omega

set_option maxHeartbeats 1000000 in
theorem product_numG (w : World) (v1 v2 : Value) (m n : Nat) (h1 : Num .u32 b32 w v1 m) (h2 : Num .u32 b32 w v2 n) {j k : Nat} (hj : Bd j m) (hk : Bd k n) (hj1 : j ≤ 1000000000) (hk1 : k ≤ 1000000000) :
    Calls Tryz.prog 63 #[v1, v2] w (RetNumG w (m * n)) := by
  obtain ⟨A, c, rfl, ha⟩ := h1
  obtain ⟨B, d, rfl, hb⟩ := h2
  have hla := len32 hj
  have hlb := len32 hk
  have hva := val_digs two_le_b32 m
  have hvb := val_digs two_le_b32 n
  have wa := digs_wf two_le_b32 m
  have wb := digs_wf two_le_b32 n
  clear hj hk
  go_enter Tryz.func63, Tryz.ntmps63
  generalize digs b32 m = a at *
  generalize digs b32 n = b at *
  have VA := Lib.hid hva
  have VB := Lib.hid hvb
  clear hva hvb
  have hla1 : a.length ≤ 100000000 := by omega
  have hlb1 : b.length ≤ 100000000 := by omega
  clear hla hlb
  go_wp2_with (at_make; refine wpList_mk _ rfl _ _ _ rfl .u32 49 Tryz.underlying31 i32row _ _ rfl rfl (by omega) (by omega) (by omega) ?_; intro w1 hrow hbel hsz)
  rw [show ((a.length : Int) + (b.length : Int)).toNat = a.length + b.length by omega] at hrow
  go_loopw [6] (fun s6 wr => ∃ (i : Nat) (o : List Nat), i ≤ a.length ∧ s6 = .int .i64 i ∧ o.length = a.length + b.length ∧ Wf b32 o ∧ Row wr .u32 49 w.heap.size o ∧ Below w.heap.size w wr ∧ (∀ p, i + b.length ≤ p → o.getD p 0 = 0) ∧ val b32 o = val b32 (a.take i) * n)
    (fun s6 _ => a.length - (intOf s6).toNat)
  case atStart => exact ⟨0, List.replicate (a.length + b.length) 0, by omega, rfl, by simp, Wf.replicate (by unfold b32; omega) _, hrow, hbel, fun p _ => by simp [List.getD_eq_getElem?_getD, List.getElem?_replicate]; split <;> rfl, by rw [val_replicate]; simp [val]⟩
  case round =>
    obtain ⟨i, o, hi, rfl, hol, hwo, hr, hbl, hz, hval⟩ := hrel
    have HVAL := Lib.hid hval
    have HOL := Lib.hid hol
    have HZ := Lib.hid hz
    clear hval hol hz hrow hbel hsz
    by_cases hlt : i < a.length
    · obtain ⟨gx, ox, vx, rfl, _, HVX⟩ := (ha.below hbl).get hlt
      have HLX := Lib.hid (wa _ (List.mem_of_getElem? HVX.out))
      have hvx := u32_val HLX.out
      have hi0 : (0 : Int) ≤ (i : Int) := by omega
      have hi1 : (i : Int) < (a.length : Int) := by omega
      go_wp2_with fail
      obtain ⟨wo, rfl⟩ : ∃ wo : World, wo = wr := ⟨_, rfl⟩
      go_loopw [7, 8] (fun s7 s8 wr => ∃ (k c : Nat) (o' : List Nat), k ≤ b.length + 1 ∧ s8 = .int .i64 k ∧ s7 = .int .u64 c ∧ Bx (c < b32 ∧ (k = b.length + 1 → c = 0)) ∧ Bx (o'.length = a.length + b.length) ∧ Wf b32 o' ∧ Row wr .u32 49 w.heap.size o' ∧ Below w.heap.size w wr ∧ Bx (∀ p, i + b.length + 1 ≤ p → o'.getD p 0 = 0) ∧ Bx (k ≤ b.length → o'.getD (i + b.length) 0 = 0) ∧ Bx (val b32 o' + b32 ^ (i + k) * c = val b32 o + b32 ^ i * (vx * val b32 (b.take k))))
        (fun _ s8 _ => b.length + 1 - (intOf s8).toNat)
      case atStart => exact ⟨0, 0, o, by omega, rfl, rfl, bx ⟨by unfold b32; omega, by omega⟩, bx HOL.out, hwo, hr, hbl, bx (fun p hp => HZ.out p (by omega)), bx (fun _ => HZ.out _ (Nat.le_refl _)), bx (by simp [val])⟩
      case round =>
        clear hr hwo
        obtain ⟨k, c, o', hk, rfl, rfl, HC, HOL', hwo', hr', hbl', HZ', HZ0, HVAL'⟩ := hrel
        have hcx := ((ha.below hbl').at_ hlt)
        by_cases hlk : k < b.length
        · obtain ⟨b1, o1, e1, hcx⟩ := hcx
          injection e1 with e1
          injection e1 with e1 e2
          subst e1 e2
          rw [List.getD_eq_getElem?_getD, HVX.out, Option.getD_some] at hcx
          obtain ⟨by_, oy, vy, rfl, hcy, HVY⟩ := (hb.below hbl').get hlk
          obtain ⟨vu, hcu, HVU⟩ := hr'.get (i := i + k) (by have := HOL'.out; omega)
          have hcf := hr'.frozen (i + k)
          have HLY := Lib.hid (wb _ (List.mem_of_getElem? HVY.out))
          have HLU := Lib.hid (hwo' _ (List.mem_of_getElem? HVU.out))
          have hvy := u32_val HLY.out
          have hvu := u32_val HLU.out
          have hvc := u32_val HC.out.1
          have hk0 : (0 : Int) ≤ (k : Int) := by omega
          have hk1 : (k : Int) < (b.length : Int) := by omega
          obtain ⟨q1, q2⟩ := np_eqs HLX.out HLY.out HLU.out HC.out.1
          have Q1 := bx q1
          have Q2 := bx q2
          clear q1 q2
          go_wp2
          go_quiet (fail)
          go_wp2
          rw [Q1.out, Q2.out]
          go_roundw
          case rel =>
            obtain ⟨o2, hc2, hl2, hw2, hr2, hb2, hz2, hz3, hv2⟩ := nprod_round hlk HC.out.1 HOL'.out hwo' HLX.out HLY.out HLU.out (hr'.drewN nq) (Nat.le_refl _) (below_drewN hbl' nq) HZ'.out (HZ0.out (by omega)) HVAL'.out HVU.out HVY.out
            exact ⟨k + 1, _, o2, by omega, by go_num, rfl, bx ⟨hc2, fun h => by omega⟩, bx hl2, hw2, hr2, hb2, bx hz2, bx (fun _ => hz3), bx hv2⟩
          case measure => (simp [intOf]; try omega)
        · clear hcx
          by_cases hkb : k = b.length
          · subst hkb
            rcases Nat.eq_zero_or_pos c with rfl | hc0
            · go_wp2
              go_roundw
              case rel =>
                exact ⟨i + 1, o', by omega, by go_num, HOL'.out, hwo', hr', hbl', fun p hp => by
                  rcases Nat.lt_or_ge p (i + b.length + 1) with h | h
                  · have := HZ0.out (Nat.le_refl _)
                    omega
                  · exact HZ'.out p h, nprod_row (Nat.le_refl _) HVAL'.out HVAL.out VB.out HVX.out⟩
              case measure => (simp [intOf]; try omega)
            · obtain ⟨vu, hcu, HVU⟩ := hr'.get (i := i + b.length) (by have := HOL'.out; omega)
              have hcf := hr'.frozen (i + b.length)
              have hu0 : vu = 0 := by
                have h := HZ0.out (Nat.le_refl _)
                rw [List.getD_eq_getElem?_getD, HVU.out] at h
                simpa using h
              subst hu0
              have hvc := u32_val HC.out.1
              have hc1 : (0 : Int) < (c : Int) := by omega
              have C1 := bx (show (c : Int) / 4294967296 = ((0 : Nat) : Int) by omega)
              have C2 := bx (show (c : Int) % 4294967296 = (c : Int) by omega)
              go_wp2
              rw [C1.out, C2.out]
              go_roundw
              case rel =>
                obtain ⟨o2, hl2, hw2, hr2, hb2, hz2, hv2⟩ := nprod_carry HC.out.1 (by omega) HOL'.out hwo' hr' (Nat.le_refl _) hbl' HZ'.out (HZ0.out (Nat.le_refl _)) HVAL'.out
                exact ⟨b.length + 1, 0, o2, by omega, by go_num, rfl, bx ⟨by unfold b32; omega, fun _ => rfl⟩, bx hl2, hw2, hr2, hb2, bx hz2, bx (fun h => by omega), bx hv2⟩
              case measure => (simp [intOf]; try omega)
          · obtain rfl : k = b.length + 1 := by omega
            obtain rfl : c = 0 := HC.out.2 rfl
            go_wp2
            go_roundw
            case rel =>
              exact ⟨i + 1, o', by omega, by go_num, HOL'.out, hwo', hr', hbl', fun p hp => HZ'.out p (by omega), nprod_row (by omega) HVAL'.out HVAL.out VB.out HVX.out⟩
            case measure => (simp [intOf]; try omega)
    · obtain rfl : i = a.length := by omega
      have hfin : val b32 o = m * n := by
        have h := HVAL.out
        rw [List.take_length, VA.out] at h
        exact h
      have HF := Lib.hid hfin
      clear hfin
      have hrd := hr.rd_all (c := a.length + b.length) (by have := HOL.out; omega) (by unfold maxLen; omega)
      go_wp2_with fail
      refine (ncut_numA _ _ _ o (m * n) hrd hwo _ HOL.out HF.out).mono ?_
      rintro e w' ⟨rfl, kn, rfl, hv⟩
      go_wp2
      go_ret
      exact ⟨_, _, _, Nat.le_refl _, rfl, hv, hbl⟩
theorem product_num (w : World) (v1 v2 : Value) (m n : Nat) (h1 : Num .u32 b32 w v1 m) (h2 : Num .u32 b32 w v2 n) {j k : Nat} (hj : Bd j m) (hk : Bd k n) (hj1 : j ≤ 1000000000) (hk1 : k ≤ 1000000000) :
    Calls Tryz.prog 63 #[v1, v2] w (RetNum .u32 b32 w (m * n)) := (product_numG w v1 v2 m n h1 h2 hj hk hj1 hk1).mono fun _ _ h => h.num
end Wx
