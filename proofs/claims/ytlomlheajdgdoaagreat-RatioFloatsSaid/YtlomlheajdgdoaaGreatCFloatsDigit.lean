import Derived.Test.YtlomlheajdgdoaaGreatProg
import Derived.Deep.DeepMust
import Derived.Test.YtlomlheajdgdoaaGreatCFloatsShelf
import Derived.Test.YtlomlheajdgdoaaGreatJFloats0
import Derived.Test.YtlomlheajdgdoaaGreatJFloats4
import Derived.Test.YtlomlheajdgdoaaGreatCFloatsMem
import Derived.Test.YtlomlheajdgdoaaGreatJFloats2
import Derived.Test.YtlomlheajdgdoaaGreatCFloatsDiv64
import Derived.Test.YtlomlheajdgdoaaGreatCFloatsTake
namespace Wx
set_option maxRecDepth 100000
open Go Go.RowKit Go.Proofs

theorem val_top1 {b : Nat} {l : List Nat} {n x : Nat} (hn : l.length = n + 1) (hx : l[n]? = some x) : val b l = x * b ^ n + val b (l.take n) := by
  have h := val_take_get (b := b) hx
  rw [List.take_of_length_le (by omega)] at h
  rw [h, Nat.mul_comm, Nat.add_comm]

theorem digit_facts {v : List Nat} {n un un1 un2 v1 v2 : Nat} {L : List Nat} {j : Nat} (hnn : v.length = n + 2) (hj : j + (v.length + 1) ≤ L.length) (hu : (win L j (v.length + 1))[n + 2]? = some un) (hu1 : (win L j (v.length + 1))[n + 1]? = some un1) (hu2 : (win L j (v.length + 1))[n]? = some un2)
    (hv1 : v[n + 1]? = some v1) (hv2 : v[n]? = some v2) (wu : Wf b64 (win L j (v.length + 1))) (ht : Top v) (hlt : val b64 (win L j (v.length + 1)) < val b64 v * b64) :
    val b64 (win L j (v.length + 1)) / val b64 v ≤ (un * b64 + un1) / v1 ∧
    (∀ g r, un * b64 + un1 = g * v1 + r → r * b64 + un2 < g * v2 → val b64 (win L j (v.length + 1)) / val b64 v < g) ∧ val b64 (win L j (v.length + 1)) / val b64 v < b64 ∧ 0 < v1 := by
  have hul := win_length hj
  generalize win L j (v.length + 1) = u at *
  have hv0 : 0 < v1 := by
    rcases Nat.eq_zero_or_pos v1 with rfl | h
    · exfalso; apply ht
      rw [List.getLast?_eq_getElem?, hnn]
      exact hv1
    · exact h
  have hp : ∀ k, 0 < b64 ^ k := fun k => Nat.pow_pos (by unfold b64; omega)
  have hU0 := val_top1 (b := b64) (n := n + 2) (by omega) hu
  have hU1 := val_top1 (b := b64) (l := u.take (n + 2)) (n := n + 1) (by simp; omega) (by rw [List.getElem?_take_of_lt (by omega)]; exact hu1)
  have hU2 := val_top1 (b := b64) (l := u.take (n + 1)) (n := n) (by simp; omega) (by rw [List.getElem?_take_of_lt (by omega)]; exact hu2)
  rw [List.take_take, Nat.min_eq_left (by omega)] at hU1 hU2
  have hV0 := val_top1 (b := b64) (n := n + 1) (by omega) hv1
  have hV1 := val_top1 (b := b64) (l := v.take (n + 1)) (n := n) (by simp; omega) (by rw [List.getElem?_take_of_lt (by omega)]; exact hv2)
  rw [List.take_take, Nat.min_eq_left (by omega)] at hV1
  have e1 : val b64 u = (un * b64 + un1) * b64 ^ (n + 1) + val b64 (u.take (n + 1)) := by
    rw [hU0, hU1, Nat.add_mul, Nat.mul_assoc, show b64 * b64 ^ (n + 1) = b64 ^ (n + 2) from Nat.pow_succ'.symm]; omega
  have e2 : val b64 u = ((un * b64 + un1) * b64 + un2) * b64 ^ n + val b64 (u.take n) := by
    rw [e1, hU2, Nat.add_mul _ un2, Nat.mul_assoc _ b64, show b64 * b64 ^ n = b64 ^ (n + 1) from Nat.pow_succ'.symm]; omega
  have e3 : val b64 v = (v1 * b64 + v2) * b64 ^ n + val b64 (v.take n) := by
    rw [hV0, hV1, Nat.add_mul, Nat.mul_assoc, show b64 * b64 ^ n = b64 ^ (n + 1) from Nat.pow_succ'.symm]; omega
  have hVp : 0 < val b64 v := by rw [hV0]; have := Nat.mul_pos hv0 (hp (n + 1)); omega
  have l1 := val_lt (wu.take (n + 1))
  rw [List.length_take, Nat.min_eq_left (by omega)] at l1
  have l2 := val_lt (wu.take n)
  rw [List.length_take, Nat.min_eq_left (by omega)] at l2
  refine ⟨est_le (hp _) e1 l1 hV0 hv0, fun g r hN ht => est_dec e2 l2 e3 hVp hN ht, ?_, hv0⟩
  rw [Nat.div_lt_iff_lt_mul hVp, Nat.mul_comm]; exact hlt

theorem div64_quiet (w : World) (k n hi lo y : Nat) (hlo : lo < b64) (hy : y < b64) (hhi : hi < y) :
    Calls Tryz.prog 146 #[.int .u64 (hi : Int), .int .u64 (lo : Int), .int .u64 (y : Int)] (w.drewN (k + n)) fun e w'' => e = .returned (.tuple #[.int .u64 (dvQ hi lo y : Nat), .int .u64 (dvR hi lo y : Nat)]) ∧ ∃ m, w'' = w.drewN (k + m) :=
  (div64_dr _ hi lo y hlo hy hhi).mono fun e w' ⟨he, m, hw⟩ => ⟨he, n + m, by rw [hw, World.drewN_drewN, Nat.add_assoc]⟩

theorem third_le {gs v2 r un2 : Nat} (h : gs * v2 ≤ r * b64 + un2) (hu : un2 < b64) : ∃ hi lo, muHi gs v2 = hi ∧ muLo gs v2 = lo ∧ (hi < r ∨ (hi = r ∧ lo ≤ un2)) := by
  refine ⟨_, _, rfl, rfl, ?_⟩
  have h1 := mu_spec gs v2
  have h2 := muLo_lt gs v2
  unfold b64 at *
  rcases Nat.lt_trichotomy (muHi gs v2) r with h3 | h3 | h3
  · exact .inl h3
  · refine .inr ⟨h3, ?_⟩
    rw [← h1, h3] at h
    omega
  · exfalso; omega
theorem third_gt {gs v2 r un2 : Nat} (h : r * b64 + un2 < gs * v2) : ∃ hi lo, muHi gs v2 = hi ∧ muLo gs v2 = lo ∧ (r < hi ∨ (hi = r ∧ un2 < lo)) := by
  refine ⟨_, _, rfl, rfl, ?_⟩
  have h1 := mu_spec gs v2
  have h2 := muLo_lt gs v2
  unfold b64 at *
  rcases Nat.lt_trichotomy (muHi gs v2) r with h3 | h3 | h3
  · exfalso; omega
  · refine .inr ⟨h3, ?_⟩
    rw [← h1, h3] at h
    omega
  · exact .inl h3

def DigitPost (w : World) (g j n : Nat) (L : List Nat) (V : Nat) (e : Ending) (w' : World) : Prop :=
  e = .returned (.int .u64 (val b64 (win L j (n + 1)) / V : Nat)) ∧ w.grownBy w' (some g) ∧
    ∃ L', L'.length = L.length ∧ Wf b64 L' ∧ Row w' .u64 44 g L' ∧ L'.take j = L.take j ∧ L'.drop (j + (n + 1)) = L.drop (j + (n + 1)) ∧ val b64 (win L' j (n + 1)) = val b64 (win L j (n + 1)) % V

set_option maxHeartbeats 1000000 in
theorem digit_num (w : World) (B g j cu : Nat) (L v : List Nat) (A : Option Addr) (cv : Nat) (hR : Row w .u64 44 g L) (hwL : Wf b64 L) (hj : j + (v.length + 1) ≤ L.length) (hcu : v.length + 1 ≤ cu) (hcm : cu ≤ maxLen)
    (hv : RdB w B .u64 A cv v) (hB : B ≤ g) (hwv : Wf b64 v) (hn : v.length ≤ 1000000000) (hn2 : 2 ≤ v.length) (htop : Top v) (hlt : val b64 (win L j (v.length + 1)) < val b64 v * b64) :
    Calls Tryz.prog 136 #[.slice (some ⟨g, j, none⟩) (v.length + 1) cu, .slice A v.length cv] w (DigitPost w g j v.length L (val b64 v)) := by
  have hvl := hv.1.len
  have hcm' : cu ≤ 9223372036854775807 := by unfold maxLen at hcm; omega
  obtain ⟨n, hnn⟩ : ∃ n, v.length = n + 2 := ⟨v.length - 2, by omega⟩
  obtain ⟨un, hcun, HUN⟩ := hR.get (i := j + (n + 2)) (by omega)
  obtain ⟨un1, hcun1, HUN1⟩ := hR.get (i := j + (n + 1)) (by omega)
  obtain ⟨un2, hcun2, HUN2⟩ := hR.get (i := j + n) (by omega)
  obtain ⟨bv, ov, v1, rfl, hcv1, HV1⟩ := hv.1.get (i := n + 1) (by omega)
  obtain ⟨bv', ov', v2, hae, hcv2, HV2⟩ := hv.1.get (i := n) (by omega)
  injection hae with hae
  injection hae with h1 h2 h3
  subst h1 h2
  clear h3
  have HNN := Lib.hid hnn
  rw [hnn]
  obtain ⟨f1, f2, f3, f4⟩ := digit_facts hnn hj (by rw [win_get (by omega)]; exact HUN.out) (by rw [win_get (by omega)]; exact HUN1.out) (by rw [win_get (by omega)]; exact HUN2.out) HV1.out HV2.out (win_wf hwL _ _) htop hlt
  rw [hnn] at f1 f2 f3
  have FU : Bx (un < b64 ∧ un1 < b64 ∧ un2 < b64 ∧ v1 < b64 ∧ v2 < b64) := bx ⟨hwL _ (List.mem_of_getElem? HUN.out), hwL _ (List.mem_of_getElem? HUN1.out), hwL _ (List.mem_of_getElem? HUN2.out), hwv _ (List.mem_of_getElem? HV1.out), hwv _ (List.mem_of_getElem? HV2.out)⟩
  obtain ⟨q, hq⟩ : ∃ q, q = val b64 (win L j (n + 2 + 1)) / val b64 v := ⟨_, rfl⟩
  rw [← hq] at f1 f2 f3
  have F1 := bx f1
  have F2 := bx f2
  have F3 := bx f3
  have F4 := bx f4
  have HQ := bx hq
  have HLT := bx hlt
  rw [hnn] at hj hcu hn hvl
  have HNL := bx hn
  clear f1 f2 f3 f4 hq hlt hnn hn2 htop hvl
  have hnI : (n : Int) ≤ 999999998 := by omega
  have hn0 : (0 : Int) ≤ (n : Int) := by omega
  clear hn
  go_enter Tryz.func136, Tryz.ntmps136
  go_upto_region 3 with fail
  go_quiet (fail)
  go_upto_if 22 with fail
  go_cut [6] (fun v6 w' => ∃ gs : Nat, v6 = .int .u64 (gs : Int) ∧ Bx (q ≤ gs ∧ gs < b64) ∧ ∃ m, w' = w.drewN m)
  case first =>
    by_cases hlt1 : un < v1
    · have hlt1' : (un : Int) < (v1 : Int) := by omega
      obtain ⟨d1, d2, d3⟩ := dv_spec FU.out.2.1 hlt1
      have hqd : q ≤ dvQ un un1 v1 := by
        have h := F1.out
        unfold dvQ; exact h
      have HD := bx (And.intro d1 (And.intro d2 (And.intro d3 hqd)))
      clear d1 d2 d3 hqd
      rw [show decide (un < v1) = true from decide_eq_true hlt1]
      go_upto_region 5 with fail
      go_quiet ((go_at_call 146; go_must (exact div64_quiet _ _ _ un un1 v1 FU.out.2.1 FU.out.2.2.2.1 hlt1)))
      go_wp2_with fail
      rw [show n + 2 - 1 = n + 1 from rfl]
      go_loopw [6, 7] (fun v6 v7 wr => ∃ gs r : Nat, v6 = .int .u64 (gs : Int) ∧ v7 = .int .u64 (r : Int) ∧ Bx (un * b64 + un1 = gs * v1 + r ∧ q ≤ gs ∧ gs < b64 ∧ r < b64) ∧ ∃ m, wr = w.drewN m) (fun v6 _ _ => (intOf v6).toNat)
      case atStart => exact ⟨_, _, rfl, rfl, bx ⟨HD.out.1.symm, HD.out.2.2.2, HD.out.2.2.1, Nat.lt_trans HD.out.2.1 FU.out.2.2.2.1⟩, _, World.drewN_drewN _ _ _⟩
      case round =>
        clear HD
        obtain ⟨gs, r, rfl, rfl, HI, mq, rfl⟩ := hrel
        have hg64 : (gs : Int) ≤ 18446744073709551615 := by have := HI.out.2.2.1; unfold b64 at this; omega
        by_cases hle : gs * v2 ≤ r * b64 + un2
        · -- the third word is content: out of the loop
          obtain ⟨hi, lo, hhi, hlo, hcmp⟩ := third_le hle FU.out.2.2.1
          by_cases hc1 : hi < r
          · have hc1' : (hi : Int) < (r : Int) := by omega
            go_wp2_with (go_at_call 104; refine (mul64_num gs v2 HI.out.2.2.1 FU.out.2.2.2.2 _).mono ?_; rintro e w' ⟨rfl, rfl⟩; rw [hhi, hlo])
            go_meet
            case rel => exact ⟨gs, rfl, bx ⟨HI.out.2.1, HI.out.2.2.1⟩, _, rfl⟩
          · obtain ⟨rfl, hc2⟩ : hi = r ∧ lo ≤ un2 := by rcases hcmp with h | h; exact absurd h hc1; exact h
            have hc2' : (lo : Int) ≤ (un2 : Int) := by omega
            go_wp2_with (go_at_call 104; refine (mul64_num gs v2 HI.out.2.2.1 FU.out.2.2.2.2 _).mono ?_; rintro e w' ⟨rfl, rfl⟩; rw [hhi, hlo])
            go_meet
            case rel => exact ⟨gs, rfl, bx ⟨HI.out.2.1, HI.out.2.2.1⟩, _, rfl⟩
        · have hqg := F2.out gs r HI.out.1 (by omega)
          have HG := bx hqg
          have hg1 : (1 : Int) ≤ (gs : Int) := by omega
          obtain ⟨hi, lo, hhi, hlo, hcmp⟩ := third_gt (gs := gs) (v2 := v2) (r := r) (un2 := un2) (by omega)
          have HA := bx (ad_spec r v1)
          have HAL := bx (adLo_lt r v1)
          clear hqg hle
          by_cases hov : adHi r v1 = 0
          · have hov' : (((adHi r v1 : Nat)) : Int) = 0 := by omega
            have HOV := bx hov
            clear hov
            rcases hcmp with hc | ⟨rfl, hc⟩
            · have hc1 : ¬ ((hi : Int) < (r : Int)) := by omega
              have hc2 : ((hi : Int) == (r : Int)) = false := beq_eq_false_iff_ne.2 (by omega)
              go_wp2_with (first | (go_at_call 104; refine (mul64_num gs v2 HI.out.2.2.1 FU.out.2.2.2.2 _).mono ?_; rintro e w' ⟨rfl, rfl⟩; rw [hhi, hlo]) | ((with_reducible refine at_ext3 105 rfl rfl ?_); refine add64_z rfl rfl rfl ?_))
              go_roundw
              case rel => exact ⟨gs - 1, adLo r v1, by congr 1; omega, rfl, bx ⟨by have h := dec_eq (by omega) HI.out.1; have h2 := HA.out; rw [HOV.out] at h2; rw [h]; omega, by have := HG.out; omega, by have := HI.out.2.2.1; omega, by unfold b64; exact HAL.out⟩, _, rfl⟩
              case measure => simp [intOf]; omega
            · have hc1 : ¬ ((hi : Int) < (hi : Int)) := by omega
              have hc2 : ¬ ((lo : Int) ≤ (un2 : Int)) := by omega
              go_wp2_with (first | (go_at_call 104; refine (mul64_num gs v2 HI.out.2.2.1 FU.out.2.2.2.2 _).mono ?_; rintro e w' ⟨rfl, rfl⟩; rw [hhi, hlo]) | ((with_reducible refine at_ext3 105 rfl rfl ?_); refine add64_z rfl rfl rfl ?_))
              go_roundw
              case rel => exact ⟨gs - 1, adLo hi v1, by congr 1; omega, rfl, bx ⟨by have h := dec_eq (by omega) HI.out.1; have h2 := HA.out; rw [HOV.out] at h2; rw [h]; omega, by have := HG.out; omega, by have := HI.out.2.2.1; omega, by unfold b64; exact HAL.out⟩, _, rfl⟩
              case measure => simp [intOf]; omega
          · have hov' : (0 : Int) < (((adHi r v1 : Nat)) : Int) := by omega
            clear hov
            rcases hcmp with hc | ⟨rfl, hc⟩
            · have hc1 : ¬ ((hi : Int) < (r : Int)) := by omega
              have hc2 : ((hi : Int) == (r : Int)) = false := beq_eq_false_iff_ne.2 (by omega)
              go_wp2_with (first | (go_at_call 104; refine (mul64_num gs v2 HI.out.2.2.1 FU.out.2.2.2.2 _).mono ?_; rintro e w' ⟨rfl, rfl⟩; rw [hhi, hlo]) | ((with_reducible refine at_ext3 105 rfl rfl ?_); refine add64_z rfl rfl rfl ?_))
              go_meet
              case rel => exact ⟨gs - 1, by congr 1; omega, bx ⟨by have := HG.out; omega, by have := HI.out.2.2.1; omega⟩, _, rfl⟩
            · have hc1 : ¬ ((hi : Int) < (hi : Int)) := by omega
              have hc2 : ¬ ((lo : Int) ≤ (un2 : Int)) := by omega
              go_wp2_with (first | (go_at_call 104; refine (mul64_num gs v2 HI.out.2.2.1 FU.out.2.2.2.2 _).mono ?_; rintro e w' ⟨rfl, rfl⟩; rw [hhi, hlo]) | ((with_reducible refine at_ext3 105 rfl rfl ?_); refine add64_z rfl rfl rfl ?_))
              go_meet
              case rel => exact ⟨gs - 1, by congr 1; omega, bx ⟨by have := HG.out; omega, by have := HI.out.2.2.1; omega⟩, _, rfl⟩
    · have hlt1' : ¬ ((un : Int) < (v1 : Int)) := by omega
      go_wp2
      go_meet
      case rel => exact ⟨18446744073709551615, rfl, bx ⟨by have := F3.out; unfold b64 at this; omega, by unfold b64; omega⟩, _, rfl⟩
  case rest =>
    obtain ⟨gs0, rfl, HG0, m0, rfl⟩ := hcut
    have hR0 := hR.drewN m0
    have hv0 : RdB (w.drewN m0) B .u64 (some ⟨bv, ov, none⟩) cv v := hv
    have hgr0 := grown_drewN w m0 (some g)
    have hwsz : w.heap.size = (w.drewN m0).heap.size := rfl
    clear hcun hcun1 hcun2 hcv1 hcv2 hR hv F1 F2 FU HUN HUN1 HUN2 HV1 HV2
    go_wp2_with fail
    go_loopw [6] (fun v6 wr => ∃ gs : Nat, v6 = .int .u64 (gs : Int) ∧ Bx (q ≤ gs ∧ gs < b64) ∧ Row wr .u64 44 g L ∧ RdB wr B .u64 (some ⟨bv, ov, none⟩) cv v ∧ w.grownBy wr (some g)) (fun v6 _ => (intOf v6).toNat)
    case atStart => exact ⟨gs0, rfl, HG0, hR0, hv0, hgr0⟩
    case round =>
      clear hR0 hv0 hgr0 HG0 hwsz
      obtain ⟨gs, rfl, HG, hRr, hvr, hgr⟩ := hrel
      go_wp2_with fail
      have htk := take_num wr B g j cu L v _ cv gs hRr hwL (by have := HNN.out; omega) (by have := HNN.out; omega) hcm hvr hB hwv HG.out.2 (by have := HNN.out; have := HNL.out; omega)
      rw [HNN.out] at htk
      refine htk.mono ?_
      clear htk
      rintro e w2 (⟨hlt2, rfl, hb2⟩ | ⟨hge2, rfl, hg2, M, m1, m2, m3, m4, m5, m6⟩)
      · have hqlt : q < gs := by
          rw [HQ.out, Nat.div_lt_iff_lt_mul, Nat.mul_comm]
          · exact hlt2
          · rcases Nat.eq_zero_or_pos (val b64 v) with h | h
            · rw [h, Nat.zero_mul] at hlt2; omega
            · exact h
        have HQG := bx hqlt
        have hg1 : (1 : Int) ≤ (gs : Int) := by omega
        have hg64 : (gs : Int) ≤ 18446744073709551615 := by have := HG.out.2; unfold b64 at this; omega
        have hR2 := hRr.keep hb2
        have hv2 := hvr.grown (grown_of_below hb2 (some g)) hB
        have hgr2 := grown_trans hgr (grown_of_below hb2 (some g))
        clear hlt2 hqlt hRr hvr hgr hb2
        go_wp2
        go_roundw
        case rel => exact ⟨gs - 1, by congr 1; omega, bx ⟨by have := HQG.out; omega, by have := HG.out.2; omega⟩, hR2, hv2, hgr2⟩
        case measure => simp [intOf]; omega
      · have hge := HG.out.1
        have hqe : gs = val b64 (win L j (n + 2 + 1)) / val b64 v := by
          refine Nat.le_antisymm ?_ (by rw [HQ.out] at hge; exact hge)
          rcases Nat.eq_zero_or_pos (val b64 v) with h | h
          · have := HLT.out; rw [h, Nat.zero_mul] at this; omega
          · rw [Nat.le_div_iff_mul_le h, Nat.mul_comm]; exact hge2
        have hmod : val b64 (win M j (n + 2 + 1)) = val b64 (win L j (n + 2 + 1)) % val b64 v := by
          have h := Nat.div_add_mod (val b64 (win L j (n + 2 + 1))) (val b64 v)
          rw [← hqe] at h
          omega
        have HQE := bx hqe
        have HMOD := bx hmod
        clear hge2 hqe hmod m6 hge
        have M1 := bx m1
        have M4 := bx m4
        have M5 := bx m5
        clear m1 m4 m5
        go_wp2
        go_ret
        exact ⟨ret_int (by rw [HQE.out]), grown_trans hgr hg2, M, M1.out, m2, m3, M4.out, M5.out, HMOD.out⟩
theorem long_step {M M' qs : List Nat} {j K V A : Nat} (hl : M'.length = M.length) (hj : j + (K + 1) ≤ M.length) (hV : V < b64 ^ K) (hqj : j < qs.length)
    (htk : M'.take j = M.take j) (hdr : M'.drop (j + (K + 1)) = M.drop (j + (K + 1))) (hmod : val b64 (win M' j (K + 1)) = val b64 (win M j (K + 1)) % V) (hlt : val b64 (M.drop (j + 1)) < V)
    (hval : val b64 M + val b64 (qs.drop (j + 1)) * b64 ^ (j + 1) * V = A) :
    val b64 M' + val b64 ((qs.set j (val b64 (win M j (K + 1)) / V)).drop j) * b64 ^ j * V = A ∧ val b64 (M'.drop j) < V := by
  have hz : val b64 (M.drop (j + (K + 1))) = 0 := by
    have h := val_take_drop b64 (M.drop (j + 1)) K (by simp; omega)
    rw [List.drop_drop, show j + 1 + K = j + (K + 1) by omega] at h
    rcases Nat.eq_zero_or_pos (val b64 (M.drop (j + (K + 1)))) with h0 | h0
    · exact h0
    · have : b64 ^ K * 1 ≤ b64 ^ K * val b64 (M.drop (j + (K + 1))) := Nat.mul_le_mul_left _ h0
      omega
  have e1 : val b64 (M.drop j) = val b64 (win M j (K + 1)) := by
    have h := val_take_drop b64 (M.drop j) (K + 1) (by simp; omega)
    rw [List.drop_drop, hz, Nat.mul_zero, Nat.add_zero] at h
    exact h
  have e2 : val b64 (M'.drop j) = val b64 (win M j (K + 1)) % V := by
    have h := val_take_drop b64 (M'.drop j) (K + 1) (by simp; omega)
    rw [List.drop_drop, hdr, hz, Nat.mul_zero, Nat.add_zero] at h
    rw [← hmod]; exact h
  refine ⟨?_, by rw [e2]; exact Nat.mod_lt _ (by omega)⟩
  have m1 := val_take_drop b64 M j (by omega)
  have m2 := val_take_drop b64 M' j (by omega)
  rw [e1] at m1
  rw [e2, htk] at m2
  have hd : (qs.set j (val b64 (win M j (K + 1)) / V)).drop j = val b64 (win M j (K + 1)) / V :: qs.drop (j + 1) := by
    rw [List.drop_eq_getElem_cons (by simpa using hqj), List.getElem_set_self, drop_set_lt (by omega)]
  rw [hd, val_cons, m2, ← hval, m1]
  generalize val b64 (win M j (K + 1)) = W at *
  generalize val b64 (qs.drop (j + 1)) = Y at *
  have hdm := Nat.div_add_mod W V
  rw [Nat.add_mul, Nat.add_mul, Nat.pow_succ]
  have t1 : b64 * Y * b64 ^ j * V = Y * (b64 ^ j * b64) * V := by
    congr 1
    rw [Nat.mul_comm b64 Y, Nat.mul_assoc, Nat.mul_comm b64]
  have t2 : W / V * b64 ^ j * V + b64 ^ j * (W % V) = b64 ^ j * W := by
    have : b64 ^ j * W = b64 ^ j * (V * (W / V) + W % V) := by rw [hdm]
    rw [this, Nat.mul_add]
    congr 1
    rw [Nat.mul_comm (W / V), Nat.mul_assoc, Nat.mul_comm (W / V)]
  omega
theorem long_window {M : List Nat} {j K V : Nat} (hj : j + (K + 1) ≤ M.length) (wM : Wf b64 M) (hlt : val b64 (M.drop (j + 1)) < V) : val b64 (win M j (K + 1)) < V * b64 := by
  have h : val b64 (win M j (K + 1)) ≤ val b64 (M.drop j) := by
    have h := val_take_drop b64 (M.drop j) (K + 1) (by simp; omega)
    unfold win
    omega
  have h2 := val_drop b64 M j (by omega)
  have h3 := wM.get (i := j) (by omega)
  have h4 : b64 * (val b64 (M.drop (j + 1)) + 1) ≤ b64 * V := Nat.mul_le_mul_left _ hlt
  rw [Nat.mul_add, Nat.mul_one, Nat.mul_comm b64 V] at h4
  omega
end Wx
