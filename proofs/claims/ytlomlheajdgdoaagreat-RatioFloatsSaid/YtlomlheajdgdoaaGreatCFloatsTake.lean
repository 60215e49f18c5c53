import Derived.Test.YtlomlheajdgdoaaGreatProg
import Derived.Test.YtlomlheajdgdoaaGreatCFloatsShelf
import Derived.Test.YtlomlheajdgdoaaGreatJFloats0
import Derived.Test.YtlomlheajdgdoaaGreatJFloats4
import Derived.Test.YtlomlheajdgdoaaGreatCFloatsMem
import Derived.Test.YtlomlheajdgdoaaGreatJFloats2
namespace Wx
open Go Go.RowKit Go.Proofs

def win (L : List Nat) (j n : Nat) : List Nat := (L.drop j).take n
theorem win_length {L : List Nat} {j n : Nat} (h : j + n ≤ L.length) : (win L j n).length = n := by unfold win; simp; omega
theorem win_get {L : List Nat} {j n i : Nat} (hi : i < n) : (win L j n)[i]? = L[j + i]? := by
  unfold win; rw [List.getElem?_take_of_lt hi, List.getElem?_drop]
theorem win_wf {b : Nat} {L : List Nat} (h : Wf b L) (j n : Nat) : Wf b (win L j n) := (h.drop j).take n
theorem win_set {L : List Nat} {j n i v : Nat} : win (L.set (j + i) v) j n = (win L j n).set i v := by
  unfold win
  rw [List.drop_set, if_neg (by omega), show j + i - j = i by omega, List.take_set]
theorem Row.win {w : World} {k : IntKind} {e : TypeId} {g : Nat} {L : List Nat} (h : Row w k e g L) {j n c : Nat} (hj : j + n ≤ L.length) (hc : n ≤ c) (hm : c ≤ maxLen) : Rd w k (some ⟨g, j, none⟩) c (win L j n) := by
  have hl := win_length hj
  refine ⟨by omega, hm, fun _ => ⟨g, j, rfl, fun i hi => ?_⟩⟩
  rw [hl] at hi
  rw [h.cell (i := j + i) (by omega), List.getD_eq_getElem?_getD, List.getD_eq_getElem?_getD, win_get hi]

def RdB (w : World) (B : Nat) (k : IntKind) (A : Option Addr) (c : Nat) (l : List Nat) : Prop := Rd w k A c l ∧ (l ≠ [] → ∀ a, A = some a → a.block < B)
theorem RdB.grown {w w' : World} {B g : Nat} {k : IntKind} {A : Option Addr} {c : Nat} {l : List Nat} (h : RdB w B k A c l) (hg : w.grownBy w' (some g)) (hB : B ≤ g) : RdB w' B k A c l := by
  obtain ⟨⟨h1, h2, h3⟩, h4⟩ := h
  refine ⟨⟨h1, h2, fun hne => ?_⟩, h4⟩
  obtain ⟨b, o, e, hc⟩ := h3 hne
  refine ⟨b, o, e, fun i hi => ?_⟩
  have hb := h4 hne _ e
  exact hg.cell (hc i hi) (by simp at hb ⊢; omega)
theorem RdB.grown' {w w' : World} {B : Nat} {row : Option Nat} {k : IntKind} {A : Option Addr} {c : Nat} {l : List Nat} (h : RdB w B k A c l) (hg : w.grownBy w' row) (hB : ∀ g, row = some g → B ≤ g) : RdB w' B k A c l := by
  obtain ⟨⟨h1, h2, h3⟩, h4⟩ := h
  refine ⟨⟨h1, h2, fun hne => ?_⟩, h4⟩
  obtain ⟨b, o, e, hc⟩ := h3 hne
  refine ⟨b, o, e, fun i hi => ?_⟩
  have hb := h4 hne _ e
  refine hg.cell (hc i hi) (fun e => ?_)
  have := hB _ e.symm
  simp at hb this
  omega
theorem RdB.of {w : World} {k : IntKind} {A : Option Addr} {c : Nat} {l : List Nat} (h : Rd w k A c l) : RdB w w.heap.size k A c l := by
  refine ⟨h, fun hne a ha => ?_⟩
  obtain ⟨b, o, e, hc⟩ := h.2.2 hne
  rw [e] at ha
  injection ha with ha
  subst ha
  have hl : 0 < l.length := List.length_pos_iff.2 hne
  exact World.block_lt_of_cell? w _ (hc 0 hl)
theorem grown_of_below {w w' : World} (h : Below w.heap.size w w') (row : Option Nat) : w.grownBy w' row :=
  ⟨h.os, h.tape, h.output, h.size, fun k hk _ => h.block k hk⟩
theorem grown_trans {w w1 w2 : World} {row : Option Nat} (h : w.grownBy w1 row) (k : w1.grownBy w2 row) : w.grownBy w2 row :=
  ⟨k.os.trans h.os, k.tape.trans h.tape, k.output.trans h.output, Nat.le_trans h.size k.size, fun i hi hn => (k.block i (Nat.lt_of_lt_of_le hi h.size) hn).trans (h.block i hi hn)⟩
theorem grown_set (w : World) (g i : Nat) (v : Value) : w.grownBy (w.setCell ⟨g, i, none⟩ v) (some g) :=
  ⟨rfl, rfl, rfl, by simp [World.setCell], fun k _ hk => Below.heap_setCell w ⟨g, i, none⟩ v k (fun e => hk (by simp [e]))⟩
theorem grown_drewN (w : World) (n : Nat) (row : Option Nat) : w.grownBy (w.drewN n) row := ⟨rfl, rfl, rfl, Nat.le_refl _, fun _ _ _ => rfl⟩
theorem take_round {w0 wr : World} {g : Nat} {v o : List Nat} {i c vx q : Nat} (hol : o.length = i) (hi : i < v.length) (hx : v[i]? = some vx) (hwv : Wf b64 v) (hwo : Wf b64 o) (hc : c < b64) (hq : q < b64)
    (hr : Row wr .u64 44 g (o ++ List.replicate (v.length + 1 - i) 0)) (hg : w0.heap.size ≤ g) (hbl : Below w0.heap.size w0 wr) (hval : val b64 o + b64 ^ i * c = val b64 (v.take i) * q) :
    ∃ (c' : Nat) (o' : List Nat), IntKind.u64.wrap ((muHi vx q : Nat) + (adHi (muLo vx q) c : Nat)) = (c' : Int) ∧ c' < b64 ∧ o'.length = i + 1 ∧ Wf b64 o' ∧
      Row (wr.setCell ⟨g, i, none⟩ (.int .u64 (adLo (muLo vx q) c : Nat))) .u64 44 g (o' ++ List.replicate (v.length + 1 - (i + 1)) 0) ∧ Below w0.heap.size w0 (wr.setCell ⟨g, i, none⟩ (.int .u64 (adLo (muLo vx q) c : Nat))) ∧
      val b64 o' + b64 ^ (i + 1) * c' = val b64 (v.take (i + 1)) * q := by
  have hvx : vx < b64 := hwv _ (List.mem_of_getElem? hx)
  have h1 := mu_spec vx q
  have h2 := ad_spec (muLo vx q) c
  have h3 := adLo_lt (muLo vx q) c
  have hxq : vx * q ≤ 18446744073709551615 * 18446744073709551615 := Nat.mul_le_mul (by unfold b64 at hvx; omega) (by unfold b64 at hq; omega)
  have hlt : muHi vx q + adHi (muLo vx q) c < b64 := by
    unfold b64 at *
    generalize vx * q = p at *
    omega
  refine ⟨_, o ++ [adLo (muLo vx q) c], ?_, hlt, by simp [hol], hwo.append (Wf.cons h3 (Wf.nil _)), ?_, hbl.setCell hg _, ?_⟩
  · rw [wrap_u64 (by omega) (by unfold b64 at hlt; omega)]; omega
  · have h := hr.set i (adLo (muLo vx q) c)
    rw [show v.length + 1 - i = (v.length + 1 - (i + 1)) + 1 by omega, List.replicate_succ, set_mid hol] at h
    rw [List.append_assoc]
    exact h
  · rw [val_snoc, hol, val_take_get hx, Nat.add_mul, ← hval, Nat.pow_succ]
    have e : b64 ^ i * (adLo (muLo vx q) c + b64 * (muHi vx q + adHi (muLo vx q) c)) = b64 ^ i * (vx * q + c) := by
      congr 1
      unfold b64
      rw [← h1]
      omega
    rw [Nat.mul_add (b64 ^ i) (adLo (muLo vx q) c), Nat.mul_add (b64 ^ i) (vx * q), ← Nat.mul_assoc (b64 ^ i) b64] at e
    rw [Nat.mul_assoc (b64 ^ i) vx q]
    omega

theorem sub64_run (x y c : Nat) (hc : c ≤ 1) : ∀ w : World, (callFunc 143 #[.int .u64 (x : Int), .int .u64 (y : Int), .int .u64 (c : Int)]).run Tryz.prog w = .ok (.value (.tuple #[.int .u64 (subLo x y c : Nat), .int .u64 (subHi x y c : Nat)])) w := by
  intro w
  rw [run_callFunc_extern Tryz.func143 (by kernel_rfl) (by kernel_rfl) (by kernel_rfl) (e := subEntry) (by kernel_rfl), run_subEntry x y c hc]
  rfl
theorem sub_window {M L P : List Nat} {j n i br vu vp : Nat} (hml : M.length = L.length) (hj : j + n ≤ L.length) (hi : i < n) (hu : M[j + i]? = some vu) (hp : P[i]? = some vp) (hd : M.drop (j + i) = L.drop (j + i))
    (hvu : vu < b64) (hvp : vp < b64) (hbr : br ≤ 1) (hval : val b64 ((win M j n).take i) + val b64 (P.take i) = val b64 ((win L j n).take i) + b64 ^ i * br) :
    val b64 ((win (M.set (j + i) (subLo vu vp br)) j n).take (i + 1)) + val b64 (P.take (i + 1)) = val b64 ((win L j n).take (i + 1)) + b64 ^ (i + 1) * subHi vu vp br := by
  have hs := (sub_spec (c := br) hvu hvp hbr).1
  have hwu : (win M j n)[i]? = some vu := by rw [win_get hi]; exact hu
  have hlu : (win L j n)[i]? = some vu := by
    rw [win_get hi]
    have : (M.drop (j + i))[0]? = (L.drop (j + i))[0]? := by rw [hd]
    rw [List.getElem?_drop, List.getElem?_drop, Nat.add_zero] at this
    rw [← this]; exact hu
  have hwl := win_length (L := M) (j := j) (n := n) (by omega)
  rw [win_set, val_take_get hp, val_take_get hlu]
  rw [val_take_get (l := (win M j n).set i (subLo vu vp br)) (v := subLo vu vp br) (by rw [List.getElem?_set_self (by omega)]), List.take_set_of_le (Nat.le_refl _), Nat.pow_succ]
  have e : b64 ^ i * (subLo vu vp br + vp + br) = b64 ^ i * (vu + b64 * subHi vu vp br) := by rw [hs]; rfl
  rw [Nat.mul_add, Nat.mul_add, Nat.mul_add, ← Nat.mul_assoc] at e
  omega
def TakePost (w : World) (g j n : Nat) (L : List Nat) (p : Nat) (e : Ending) (w' : World) : Prop :=
  (val b64 (win L j (n + 1)) < p ∧ e = .returned (.bool false) ∧ Below w.heap.size w w') ∨
  (p ≤ val b64 (win L j (n + 1)) ∧ e = .returned (.bool true) ∧ w.grownBy w' (some g) ∧
    ∃ L', L'.length = L.length ∧ Wf b64 L' ∧ Row w' .u64 44 g L' ∧ L'.take j = L.take j ∧ L'.drop (j + (n + 1)) = L.drop (j + (n + 1)) ∧ val b64 (win L' j (n + 1)) + p = val b64 (win L j (n + 1)))

set_option maxHeartbeats 1000000 in
theorem take_num (w : World) (B g j cu : Nat) (L v : List Nat) (A : Option Addr) (cv q : Nat) (hR : Row w .u64 44 g L) (hwL : Wf b64 L) (hj : j + (v.length + 1) ≤ L.length) (hcu : v.length + 1 ≤ cu) (hcm : cu ≤ maxLen)
    (hv : RdB w B .u64 A cv v) (_hB : B ≤ g) (hwv : Wf b64 v) (hq : q < b64) (hn : v.length ≤ 1000000000) :
    Calls Tryz.prog 152 #[.slice (some ⟨g, j, none⟩) (v.length + 1) cu, .slice A v.length cv, .int .u64 (q : Int)] w (TakePost w g j v.length L (val b64 v * q)) := by
  have hvl := hv.1.len
  have HQ := Lib.hid hq
  have hcm' : cu ≤ 9223372036854775807 := by unfold maxLen at hcm; omega
  clear hq
  go_enter Tryz.func152, Tryz.ntmps152
  go_wp2_with (at_make; refine wpList_mk _ rfl _ _ _ rfl .u64 44 Tryz.underlying27 i64row _ _ rfl rfl (by omega) (by omega) (by omega) ?_; intro w1 hrow hbel hsz)
  rw [show ((v.length : Int) + 1).toNat = v.length + 1 by omega] at hrow
  go_loopw [8, 22] (fun s8 s22 wr => ∃ (i c : Nat) (o : List Nat), i ≤ v.length ∧ s22 = .int .i64 i ∧ s8 = .int .u64 c ∧ c < b64 ∧ o.length = i ∧ Wf b64 o ∧ Row wr .u64 44 w.heap.size (o ++ List.replicate (v.length + 1 - i) 0) ∧ Below w.heap.size w wr ∧ val b64 o + b64 ^ i * c = val b64 (v.take i) * q)
    (fun _ s22 _ => v.length - (intOf s22).toNat)
  case atStart => exact ⟨0, 0, [], by omega, rfl, rfl, by unfold b64; omega, rfl, Wf.nil _, by simpa using hrow, hbel, by simp [val]⟩
  case round =>
    obtain ⟨i, c, o, hi, rfl, rfl, hc, hol, hwo, hr, hbl, hval⟩ := hrel
    have HVAL := Lib.hid hval
    have HOL := Lib.hid hol
    have HC := Lib.hid hc
    clear hval hol hc hrow hbel hsz
    by_cases hlt : i < v.length
    · obtain ⟨bx, ox, vx, rfl, hcx, HVX⟩ := (hv.1.below hbl).get hlt
      obtain ⟨vo, hco, HVO⟩ := hr.get (i := i) (by have := HOL.out; simp; omega)
      have hcf := hr.frozen i
      have HLX : Hid (vx < b64) := hwv _ (List.mem_of_getElem? HVX.out)
      go_wp2_with (first | (go_at_call 104; refine (mul64_num vx q HLX.out HQ.out _).mono ?_; rintro e w' ⟨rfl, rfl⟩) | ((with_reducible refine at_ext3 105 rfl rfl ?_); refine add64_z rfl rfl rfl ?_))
      go_roundw
      case rel =>
        obtain ⟨c', o2, e, r⟩ := take_round HOL.out hlt HVX.out hwv hwo HC.out HQ.out hr (Nat.le_refl _) hbl HVAL.out
        exact ⟨i + 1, c', o2, by omega, by go_num, by rw [e], r⟩
      case measure => simp [intOf]; omega
    · obtain rfl : i = v.length := by omega
      rw [show v.length + 1 - v.length = 1 by omega, show List.replicate 1 0 = [0] from rfl] at hr
      obtain ⟨vo, hco, HVO⟩ := hr.get (i := v.length) (by have := HOL.out; simp; omega)
      have hcf := hr.frozen v.length
      have HP : Hid (val b64 (o ++ [c]) = val b64 v * q) := by
        show _ = _
        have h := HVAL.out
        rw [List.take_length] at h
        rw [val_snoc, HOL.out]; exact h
      have hRP := hr.set v.length c
      rw [set_mid HOL.out] at hRP
      have hwP : Wf b64 (o ++ [c]) := hwo.append (Wf.cons HC.out (Wf.nil _))
      have HPL : Hid ((o ++ [c]).length = v.length + 1) := by show _ = _; simp [HOL.out]
      have hb2 := hbl.setCell (p := ⟨w.heap.size, v.length, none⟩) (Nat.le_refl _) (.int .u64 (c : Int))
      generalize o ++ [c] = P at *
      clear HVAL HOL hwo hr HVO
      have hgl := hR.lt
      go_wp2_with fail
      obtain ⟨w2, hw2⟩ : ∃ w2, w2 = wr.setCell ⟨w.heap.size, v.length, none⟩ (.int .u64 (c : Int)) := ⟨_, rfl⟩
      rw [← hw2] at hRP hb2 ⊢
      clear hw2 hbl hcf hco
      have hR2 := hR.keep hb2
      refine (cut_num _ _ _ (win L j (v.length + 1)) _ (hR2.win hj hcu hcm) (win_wf hwL _ _) _ (win_length hj) rfl).mono ?_
      rintro e w' ⟨rfl, x1, rfl, hx1⟩
      go_wp2_with fail
      refine (cut_num _ _ _ P _ (hRP.rd_all (c := v.length + 1) (by have := HPL.out; omega) (by unfold maxLen; omega)) hwP _ HPL.out HP.out).mono ?_
      rintro e w' ⟨rfl, x2, rfl, hx2⟩
      go_wp2_with fail
      refine (cmp_num _ _ _ _ _ hx1 hx2).mono ?_
      rintro e w3 ⟨rfl, hb3⟩
      clear hx1 hx2
      have hb23 := hb2.trans (hb3.mono hb2.size)
      have hR3 := hR2.keep hb3
      have hRP3 := hRP.keep hb3
      clear hR2 hRP hb2 hb3
      by_cases hlt : val b64 (win L j (v.length + 1)) < val b64 v * q
      · have e1 : cmpI (val b64 (win L j (v.length + 1))) (val b64 v * q) = -1 := by unfold cmpI; rw [if_pos hlt]
        rw [e1]
        go_wp2
        go_ret
        exact .inl ⟨hlt, rfl, hb23⟩
      · have e1 : ∃ z : Int, z = cmpI (val b64 (win L j (v.length + 1))) (val b64 v * q) ∧ ¬ (z < 0) := ⟨_, rfl, by unfold cmpI; rw [if_neg hlt]; split <;> omega⟩
        obtain ⟨z, hz, hz0⟩ := e1
        rw [← hz]
        clear hz
        go_wp2_with fail
        have hPl := HPL.out
        have HLT := Lib.hid hlt
        have HSZ : Hid (w.heap.size ≠ g) := by show _ ≠ _; omega
        have hg3 := grown_of_below hb23 (some g)
        clear hlt hb23 hR
        go_loopw [14, 59] (fun s14 s59 wr => ∃ (i br : Nat) (M : List Nat), i ≤ v.length + 1 ∧ s59 = .int .i64 i ∧ s14 = .int .u64 br ∧ br ≤ 1 ∧ Hid (M.length = L.length) ∧ Wf b64 M ∧ Row wr .u64 44 g M ∧ Row wr .u64 44 w.heap.size P ∧ w.grownBy wr (some g) ∧ M.take j = L.take j ∧ M.drop (j + i) = L.drop (j + i) ∧
            Hid (val b64 ((win M j (v.length + 1)).take i) + val b64 (P.take i) = val b64 ((win L j (v.length + 1)).take i) + b64 ^ i * br))
          (fun _ s59 _ => v.length + 1 - (intOf s59).toNat)
        case atStart => exact ⟨0, 0, L, by omega, rfl, rfl, by omega, rfl, hwL, hR3, hRP3, hg3, rfl, rfl, rfl⟩
        case round =>
          obtain ⟨i, br, M, hi, rfl, rfl, hbr, HML, hwM, hrM, hrP, hgr, htk, hdr, HV⟩ := hrel
          have HTK := Lib.hid htk
          have HDR := Lib.hid hdr
          clear htk hdr hR3 hRP3 hg3
          by_cases hlt : i < v.length + 1
          · obtain ⟨vu, hcu1, HVU⟩ := hrM.get (i := j + i) (by have := HML.out; omega)
            obtain ⟨vp, hcp, HVP⟩ := hrP.get (i := i) (by omega)
            have hcf := hrM.frozen (j + i)
            have e1 : (0 : Int) ≤ (i : Int) := by omega
            have e2 : (i : Int) < (v.length : Int) + 1 := by omega
            have hsub := sub64_run vu vp br hbr
            go_wp2
            go_region
            all_goals go_wp2
            all_goals
              go_roundw
              case rel =>
                have hgl2 : g ≠ w.heap.size := by omega
                refine ⟨i + 1, subHi vu vp br, M.set (j + i) (subLo vu vp br), by omega, by go_num, rfl, subHi_le _ _ _, ?_, hwM.set (sub_spec (hwM _ (List.mem_of_getElem? HVU.out)) (hwP _ (List.mem_of_getElem? HVP.out)) hbr).2, (hrM.set _ _).drew, (hrP.far (p := ⟨g, j + i, none⟩) (by exact hgl2.symm) _).drew, grown_trans (grown_trans hgr (grown_set _ _ _ _)) (grown_drewN _ 1 _), ?_, ?_, ?_⟩
                · show _ = _; rw [List.length_set]; exact HML.out
                · rw [List.take_set_of_le (by omega)]; exact HTK.out
                · rw [drop_set_lt (by omega), show j + (i + 1) = j + i + 1 by omega, ← List.drop_drop, ← List.drop_drop (l := L), HDR.out]
                · show _ = _
                  exact sub_window HML.out hj hlt HVU.out HVP.out HDR.out (hwM _ (List.mem_of_getElem? HVU.out)) (hwP _ (List.mem_of_getElem? HVP.out)) hbr HV.out
              case measure => simp [intOf]; omega
          · obtain rfl : i = v.length + 1 := by omega
            go_wp2
            go_ret
            have h := HV.out
            have l1 := win_length (L := M) (j := j) (n := v.length + 1) (by have := HML.out; omega)
            have l2 := win_length (L := L) (j := j) (n := v.length + 1) hj
            rw [List.take_of_length_le (by omega), List.take_of_length_le (l := P) (by omega), List.take_of_length_le (l := win L j (v.length + 1)) (by omega)] at h
            have hP := HP.out
            have hlt' := val_lt (win_wf hwM j (v.length + 1))
            rw [l1] at hlt'
            have hnlt := HLT.out
            have hbr0 : br = 0 := by
              rcases Nat.eq_zero_or_pos br with h0 | h0
              · exact h0
              · obtain rfl : br = 1 := by omega
                omega
            subst hbr0
            exact .inr ⟨by omega, rfl, hgr, M, HML.out, hwM, hrM, HTK.out, HDR.out, by omega⟩
end Wx
