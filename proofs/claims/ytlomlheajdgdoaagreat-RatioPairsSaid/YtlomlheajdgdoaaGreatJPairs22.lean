import Derived.Test.YtlomlheajdgdoaaGreatProg
import Derived.Handy
import Derived.Laws.IdiomStrings
import Derived.Test.YtlomlheajdgdoaaGreatJPairs0
import Derived.Test.YtlomlheajdgdoaaGreatJPairs1
import Derived.Test.YtlomlheajdgdoaaGreatCPairsRat1
import Derived.Test.YtlomlheajdgdoaaGreatJPairs9
import Derived.Test.YtlomlheajdgdoaaGreatJPairs18
import Derived.Test.YtlomlheajdgdoaaGreatJPairs20
import Derived.Test.YtlomlheajdgdoaaGreatJPairs21
import Derived.Test.YtlomlheajdgdoaaGreatCPairsDown
import Derived.Deep.QuietTactic
import Derived.BigQuiet
namespace Wx
set_option maxRecDepth 100000
open Go Go.RowKit Go.Proofs

def denS (r : List Nat) : List Nat := if 47 ∈ r then aftS r else [49]
def parseOk (l : List Nat) : Bool := digitsB (befS (restS l)) && (digitsB (denS (restS l)) && decide (denS (restS l) ≠ [48]))
def parseQ (l : List Nat) : Rat := redR (negS l) (valD (befS (restS l))) (valD (denS (restS l)))
theorem befS_sub {l : List Nat} {x : Nat} (h : x ∈ befS l) : x ∈ l := (List.takeWhile_sublist _).subset h
theorem aftS_sub {l : List Nat} {x : Nat} (h : x ∈ aftS l) : x ∈ l := List.mem_of_mem_drop h
theorem restS_sub {l : List Nat} {x : Nat} (h : x ∈ restS l) : x ∈ l := by
  unfold restS at h
  split at h
  · exact List.mem_of_mem_tail h
  · exact h
theorem restS_len (l : List Nat) : (restS l).length ≤ l.length := by
  unfold restS
  split
  · rw [List.length_tail]; omega
  · exact Nat.le_refl _
theorem befS_len (l : List Nat) : (befS l).length ≤ l.length := (List.takeWhile_sublist _).length_le
theorem aftS_len (l : List Nat) : (aftS l).length ≤ l.length := by unfold aftS; rw [List.length_drop]; omega
theorem digitsB_dig {l : List Nat} (h : digitsB l = true) : ∀ x ∈ l, 48 ≤ x ∧ x ≤ 57 := by
  unfold digitsB at h
  rw [Bool.and_eq_true, List.all_eq_true] at h
  intro x hx
  have := h.1 x hx
  unfold isDig at this
  simpa using this
theorem valD_cons (x : Nat) (l : List Nat) : valD (x :: l) = (x - 48) * 10 ^ l.length + valD l := by
  have := valD_append [x] l
  simpa [valD] using this
theorem digitsB_pos {l : List Nat} (h : digitsB l = true) (h0 : l ≠ [48]) : 0 < valD l := by
  have hd := digitsB_dig h
  unfold digitsB at h
  rw [Bool.and_eq_true, Bool.or_eq_true, Bool.and_eq_true, decide_eq_true_eq, decide_eq_true_eq, decide_eq_true_eq] at h
  rcases h.2 with h1 | ⟨h1, h2⟩
  · exact absurd h1 h0
  · cases l with
    | nil => exact absurd rfl h1
    | cons x l =>
      have := hd x (by simp)
      have h3 : x ≠ 48 := by simpa using h2
      rw [valD_cons]
      have h4 : 0 < (x - 48) * 10 ^ l.length := Nat.mul_pos (by omega) (Nat.pow_pos (by omega))
      omega
theorem strOf_ne {l r : List Nat} (hl : Wf 256 l) (hr : Wf 256 r) (h : ¬ l = r) : ¬ (strOf l).toList = (strOf r).toList := fun e => h (strOf_inj hl hr e)
theorem textB_wf (n : Nat) : Wf 256 (textB n) := by
  unfold textB
  split
  · intro x hx; simp at hx; omega
  · exact decB_wf _
theorem textR_wf (q : Rat) : Wf 256 (textR q) := by
  intro x hx
  unfold textR at hx
  rcases List.mem_append.1 hx with h | h
  · split at h
    · simp at h; omega
    · simp at h
  · rcases List.mem_append.1 h with h | h
    · exact textB_wf _ x h
    · split at h
      · simp at h
      · rcases List.mem_cons.1 h with h | h
        · omega
        · exact textB_wf _ x h
set_option maxHeartbeats 1000000 in
theorem parse_f0 (w : World) (l : List Nat) (hw : Wf 256 l) (hl : l.length ≤ 4096) (hm : ¬ 47 ∈ restS l) (h1 : digitsB (befS (restS l)) = true) (h2 : digitsB [49] = true) (h3 : ¬ [49] = [48]) (h4 : textR (redR (negS l) (valD (befS (restS l))) (valD [49])) = l) : Calls Tryz.prog 52 #[.string (strOf l)] w (RetRE w (redR (negS l) (valD (befS (restS l))) (valD [49])) 0) := by
  have hwr : Wf 256 (restS l) := fun x hx => hw x (restS_sub hx)
  have hwn : Wf 256 (befS (restS l)) := fun x hx => hwr x (befS_sub hx)
  have hwd : Wf 256 [49] := by intro x hx; simp at hx; omega
  have hlr := restS_len l
  have hln := befS_len (restS l)
  have hld : [49].length ≤ 4096 := by simp
  have hs := strOf_size l
  have hl0 : (l.length : Int) ≤ 4096 := by omega
  have hc1 := fun w => cutPrefix_minus w l hw
  have hc2 := fun w => cut_slash w (restS l) hwr (by omega)
  simp only [decide_eq_false hm] at hc2
  have hc3 := fun w => digits_num w (befS (restS l)) hwn (by omega)
  rw [h1] at hc3
  have hc4 : ∀ w, Calls Tryz.prog 92 #[.string ⟨#[49]⟩] w (RetIs w (.bool true)) := fun w => by have h := digits_num w [49] hwd (by omega); rw [h2] at h; exact h
  have hc5 := fun w => from_num w (befS (restS l)) (digitsB_dig h1) (by omega)
  have hc6 : ∀ w, Calls Tryz.prog 93 #[.string ⟨#[49]⟩] w (RetNum .u64 b64 w (valD [49])) := fun w => from_num w [49] (digitsB_dig h2) (by omega)
  have HV := bx (digitsB_pos h2 h3)
  have HB1 : Bx (Bd 16384 (valD (befS (restS l)))) := bx ((Bd.ten (valD_lt (digitsB_dig h1))).mono (by omega))
  have HB2 : Bx (Bd 16384 (valD [49])) := bx ((Bd.ten (valD_lt (digitsB_dig h2))).mono (by omega))
  have hbq := redR_bd (neg := negS l) HV.out HB1.out HB2.out
  have hwt := textR_wf (redR (negS l) (valD (befS (restS l))) (valD [49]))
  generalize hq : (redR (negS l) (valD (befS (restS l))) (valD [49])) = q at *
  have HQ := bx hq
  have HBQ := bx hbq
  have ht : ((strOf (textR q)).toList == (strOf l).toList) = true := beq_iff_eq.2 (by rw [h4])
  clear hwt hq hbq h4
  have HC1 := bx hc1
  have HC2 := bx hc2
  have HC3 := bx hc3
  have HC4 := bx hc4
  have HC5 := bx hc5
  have HC6 := bx hc6
  clear hw hwr hwn hwd hlr hln hld hl hm hc1 hc2 hc3 h1 hc4 h2 hc5 hc6 h3
  go_enter Tryz.func52, Tryz.ntmps52
  go_wp2_with fail
  obtain ⟨w1, e1, o1, b1, s1⟩ := lay3 w (.bool false) (.slice none 0 0) (.slice none 0 0) 29
  rw [e1]
  clear e1 s1
  have hz : HeldR w w.heap.size 29 [] w1 := ⟨b1, Nat.le_refl _, by simp, _, _, _, o1, notInt_bool _, notInt_slice _ _ _, notInt_slice _ _ _⟩
  refine Calls.mono (HC1.out _) ?_
  rintro e w' ⟨rfl, rfl⟩
  go_wp2_with fail
  refine Calls.mono (HC2.out _) ?_
  rintro e w2 ⟨rfl, hb2⟩
  have hz := HeldR.call (And.intro hz trivial) hb2
  go_wp2_with fail
  refine Calls.mono (HC3.out _) ?_
  rintro e w3 ⟨rfl, hb3⟩
  have hz := HeldR.call (And.intro hz trivial) hb3
  go_wp2_with fail
  refine Calls.mono (HC4.out _) ?_
  rintro e w4 ⟨rfl, hb4⟩
  have hz := HeldR.call (And.intro hz trivial) hb4
  go_wp2_with fail
  refine Calls.mono (HC5.out _) ?_
  rintro e w5 ⟨vn, rfl, hn, hb5⟩
  have hz := HeldR.call (And.intro hz trivial) hb5
  go_wp2_with fail
  refine Calls.mono (HC6.out _) ?_
  rintro e w6 ⟨vd, rfl, hd, hb6⟩
  have hn := hn.below hb6
  have hz := HeldR.call (And.intro hz trivial) hb6
  go_wp2_with fail
  refine Calls.mono (reduced_num w6 _ _ _ _ _ hn hd HV.out HB1.out HB2.out (by omega)) ?_
  rw [HQ.out]
  rintro e w7 ⟨vr, rfl, hr, hb7⟩
  have hz := HeldR.call (And.intro hz trivial) hb7
  obtain ⟨vrn, vrd, rfl, hrn, hrd⟩ := id hr
  obtain ⟨Ar1, cr1, rfl, _⟩ := id hrn
  obtain ⟨Ar2, cr2, rfl, _⟩ := id hrd
  go_wp2_with fail
  obtain ⟨w8, e8, o8, b8, s8⟩ := lay3 w7 (.bool (decide (q.num < 0))) (.slice Ar1 (digs b64 q.num.natAbs).length cr1) (.slice Ar2 (digs b64 (denOf q.den)).length cr2) 29
  rw [e8]
  clear e8 s8
  have hz := HeldR.call (And.intro hz trivial) b8
  refine Calls.mono (rtext_num w8 _ q (hr.below b8) HBQ.out (by omega)) ?_
  rintro e w9 ⟨rfl, hb9⟩
  have hz := HeldR.call (And.intro hz trivial) hb9
  have o9 := o8.gone hb9
  obtain ⟨k0, k1, k2, k3, k4, k5⟩ := hz.cells
  have k6 := o9.c0
  have k7 := o9.c1
  have k8 := o9.c2
  have hrn := (hrn.below b8).below hb9
  have hrd := (hrd.below b8).below hb9
  go_wp2
  obtain ⟨wf, HW, f0, f1, f2, hfin⟩ := hz.fin rfl hrn hrd
  rw [HW]
  (try simp only [Exit.inBlock, Exit.then])
  refine bodyPost_ret (by simp [results, Tryz.results52, go_sem, f0, f1, f2]; try rfl) rfl ?_
  exact RetRE.of hfin 0

set_option maxHeartbeats 1000000 in
theorem parse_f1 (w : World) (l : List Nat) (hw : Wf 256 l) (hl : l.length ≤ 4096) (hm :  47 ∈ restS l) (h1 : digitsB (befS (restS l)) = true) (h2 : digitsB (aftS (restS l)) = true) (h3 : ¬ (aftS (restS l)) = [48]) (h4 : textR (redR (negS l) (valD (befS (restS l))) (valD (aftS (restS l)))) = l) : Calls Tryz.prog 52 #[.string (strOf l)] w (RetRE w (redR (negS l) (valD (befS (restS l))) (valD (aftS (restS l)))) 0) := by
  have hwr : Wf 256 (restS l) := fun x hx => hw x (restS_sub hx)
  have hwn : Wf 256 (befS (restS l)) := fun x hx => hwr x (befS_sub hx)
  have hwd : Wf 256 (aftS (restS l)) := fun x hx => hwr x (aftS_sub hx)
  have hlr := restS_len l
  have hln := befS_len (restS l)
  have hld : (aftS (restS l)).length ≤ 4096 := Nat.le_trans (aftS_len _) (by omega)
  have hs := strOf_size l
  have hl0 : (l.length : Int) ≤ 4096 := by omega
  have hc1 := fun w => cutPrefix_minus w l hw
  have hc2 := fun w => cut_slash w (restS l) hwr (by omega)
  simp only [decide_eq_true hm] at hc2
  have hc3 := fun w => digits_num w (befS (restS l)) hwn (by omega)
  rw [h1] at hc3
  have hc4 : ∀ w, Calls Tryz.prog 92 #[.string (strOf (aftS (restS l)))] w (RetIs w (.bool true)) := fun w => by have h := digits_num w (aftS (restS l)) hwd (by omega); rw [h2] at h; exact h
  have hc5 := fun w => from_num w (befS (restS l)) (digitsB_dig h1) (by omega)
  have hc6 : ∀ w, Calls Tryz.prog 93 #[.string (strOf (aftS (restS l)))] w (RetNum .u64 b64 w (valD (aftS (restS l)))) := fun w => from_num w (aftS (restS l)) (digitsB_dig h2) (by omega)
  have HV := bx (digitsB_pos h2 h3)
  have HB1 : Bx (Bd 16384 (valD (befS (restS l)))) := bx ((Bd.ten (valD_lt (digitsB_dig h1))).mono (by omega))
  have HB2 : Bx (Bd 16384 (valD (aftS (restS l)))) := bx ((Bd.ten (valD_lt (digitsB_dig h2))).mono (by omega))
  have hbq := redR_bd (neg := negS l) HV.out HB1.out HB2.out
  have hwt := textR_wf (redR (negS l) (valD (befS (restS l))) (valD (aftS (restS l))))
  generalize hq : (redR (negS l) (valD (befS (restS l))) (valD (aftS (restS l)))) = q at *
  have HQ := bx hq
  have HBQ := bx hbq
  have ht : ((strOf (textR q)).toList == (strOf l).toList) = true := beq_iff_eq.2 (by rw [h4])
  clear hwt hq hbq h4
  have htd : ((strOf (aftS (restS l))).toList == [48]) = false := beq_eq_false_iff_ne.2 (by rw [show ([48] : List UInt8) = (strOf [48]).toList by rw [strOf_toList]; rfl]; exact strOf_ne (r := [48]) hwd (by intro x hx; simp at hx; omega) h3)
  have HC1 := bx hc1
  have HC2 := bx hc2
  have HC3 := bx hc3
  have HC4 := bx hc4
  have HC5 := bx hc5
  have HC6 := bx hc6
  clear hw hwr hwn hwd hlr hln hld hl hm hc1 hc2 hc3 h1 hc4 h2 hc5 hc6 h3
  go_enter Tryz.func52, Tryz.ntmps52
  go_wp2_with fail
  obtain ⟨w1, e1, o1, b1, s1⟩ := lay3 w (.bool false) (.slice none 0 0) (.slice none 0 0) 29
  rw [e1]
  clear e1 s1
  have hz : HeldR w w.heap.size 29 [] w1 := ⟨b1, Nat.le_refl _, by simp, _, _, _, o1, notInt_bool _, notInt_slice _ _ _, notInt_slice _ _ _⟩
  refine Calls.mono (HC1.out _) ?_
  rintro e w' ⟨rfl, rfl⟩
  go_wp2_with fail
  refine Calls.mono (HC2.out _) ?_
  rintro e w2 ⟨rfl, hb2⟩
  have hz := HeldR.call (And.intro hz trivial) hb2
  go_wp2_with fail
  refine Calls.mono (HC3.out _) ?_
  rintro e w3 ⟨rfl, hb3⟩
  have hz := HeldR.call (And.intro hz trivial) hb3
  go_wp2_with fail
  refine Calls.mono (HC4.out _) ?_
  rintro e w4 ⟨rfl, hb4⟩
  have hz := HeldR.call (And.intro hz trivial) hb4
  go_wp2_with fail
  refine Calls.mono (HC5.out _) ?_
  rintro e w5 ⟨vn, rfl, hn, hb5⟩
  have hz := HeldR.call (And.intro hz trivial) hb5
  go_wp2_with fail
  refine Calls.mono (HC6.out _) ?_
  rintro e w6 ⟨vd, rfl, hd, hb6⟩
  have hn := hn.below hb6
  have hz := HeldR.call (And.intro hz trivial) hb6
  go_wp2_with fail
  refine Calls.mono (reduced_num w6 _ _ _ _ _ hn hd HV.out HB1.out HB2.out (by omega)) ?_
  rw [HQ.out]
  rintro e w7 ⟨vr, rfl, hr, hb7⟩
  have hz := HeldR.call (And.intro hz trivial) hb7
  obtain ⟨vrn, vrd, rfl, hrn, hrd⟩ := id hr
  obtain ⟨Ar1, cr1, rfl, _⟩ := id hrn
  obtain ⟨Ar2, cr2, rfl, _⟩ := id hrd
  go_wp2_with fail
  obtain ⟨w8, e8, o8, b8, s8⟩ := lay3 w7 (.bool (decide (q.num < 0))) (.slice Ar1 (digs b64 q.num.natAbs).length cr1) (.slice Ar2 (digs b64 (denOf q.den)).length cr2) 29
  rw [e8]
  clear e8 s8
  have hz := HeldR.call (And.intro hz trivial) b8
  refine Calls.mono (rtext_num w8 _ q (hr.below b8) HBQ.out (by omega)) ?_
  rintro e w9 ⟨rfl, hb9⟩
  have hz := HeldR.call (And.intro hz trivial) hb9
  have o9 := o8.gone hb9
  obtain ⟨k0, k1, k2, k3, k4, k5⟩ := hz.cells
  have k6 := o9.c0
  have k7 := o9.c1
  have k8 := o9.c2
  have hrn := (hrn.below b8).below hb9
  have hrd := (hrd.below b8).below hb9
  go_wp2
  obtain ⟨wf, HW, f0, f1, f2, hfin⟩ := hz.fin rfl hrn hrd
  rw [HW]
  (try simp only [Exit.inBlock, Exit.then])
  refine bodyPost_ret (by simp [results, Tryz.results52, go_sem, f0, f1, f2]; try rfl) rfl ?_
  exact RetRE.of hfin 0


theorem parse_ok (w : World) (l : List Nat) (hw : Wf 256 l) (hl : l.length ≤ 4096) (h1 : parseOk l = true) (h2 : textR (parseQ l) = l) : Calls Tryz.prog 52 #[.string (strOf l)] w (RetRE w (parseQ l) 0) := by
  unfold parseOk at h1
  rw [Bool.and_eq_true, Bool.and_eq_true, decide_eq_true_eq] at h1
  obtain ⟨a, b, c⟩ := h1
  unfold parseQ at h2 ⊢
  by_cases hm : 47 ∈ restS l
  · have e : denS (restS l) = aftS (restS l) := if_pos hm
    rw [e] at b c h2 ⊢
    exact parse_f1 w l hw hl hm a b c h2
  · have e : denS (restS l) = [49] := if_neg hm
    rw [e] at b c h2 ⊢
    exact parse_f0 w l hw hl hm a b c h2
end Wx

namespace Wx
set_option maxRecDepth 100000
open Go Go.RowKit Go.Proofs

def awX : Rat := newR 2 3
def awY : Rat := newR 1 6
def awZ : Rat := parseQ [45, 55, 47, 50]
def awD : Rat := awX - awY
def awF : Rat := downR awZ 0
theorem aw1 : parseOk [45, 55, 47, 50] = true := by decide +kernel
theorem aw2 : textR awZ = [45, 55, 47, 50] := by decide +kernel
theorem aw3 : textR awD = [49, 47, 50] := by decide +kernel
theorem aw4 : textR awF = [45, 52] := by decide +kernel
theorem aw5 : Bd 10 awD.num.natAbs ∧ Bd 10 awD.den := by unfold Bd; decide +kernel
theorem aw6 : Bd 10 awF.num.natAbs ∧ Bd 10 awF.den := by unfold Bd; decide +kernel
theorem aw7 : Bd 10 awX.num.natAbs ∧ Bd 10 awX.den := by unfold Bd; decide +kernel
theorem aw8 : Bd 10 awY.num.natAbs ∧ Bd 10 awY.den := by unfold Bd; decide +kernel
theorem aw9 : Bd 10 awZ.num.natAbs ∧ Bd 10 awZ.den := by unfold Bd; decide +kernel

set_option maxHeartbeats 1000000 in
theorem awake_num (w : World) : Calls Tryz.prog 6 #[] w (RetIs w (.bool true)) := by
  have hc1 : ∀ w, Calls Tryz.prog 11 #[.int .i64 2, .int .i64 3] w (RetRE w awX 0) := fun w => new_num w 2 3 (by omega) (by omega) (by omega) (by omega) (by omega)
  have hc2 : ∀ w, Calls Tryz.prog 11 #[.int .i64 1, .int .i64 6] w (RetRE w awY 0) := fun w => new_num w 1 6 (by omega) (by omega) (by omega) (by omega) (by omega)
  have hc3 : ∀ w, Calls Tryz.prog 52 #[.string ⟨#[45, 55, 47, 50]⟩] w (RetRE w awZ 0) := fun w => parse_ok w [45, 55, 47, 50] (by intro x hx; simp at hx; omega) (by simp) aw1 aw2
  have HC1 := bx hc1
  have HC2 := bx hc2
  have HC3 := bx hc3
  have HB := bx (And.intro (show BdR 10 awX from aw7) (And.intro (show BdR 10 awY from aw8) (And.intro (show BdR 10 awZ from aw9) (And.intro (show BdR 10 awD from aw5) (show BdR 10 awF from aw6)))))
  have hd1 : awX - awY = awD := rfl
  have hf1 : downR awZ 0 = awF := rfl
  have HD := bx hd1
  have HF := bx hf1
  have ht1 : ((strOf (textR awD)).toList == [49, 47, 50]) = true := by rw [aw3, strOf_toList]; decide
  have ht2 : ((strOf (textR awF)).toList == [45, 52]) = true := by rw [aw4, strOf_toList]; decide
  clear hc1 hc2 hc3 hd1 hf1
  generalize awX = x at *
  generalize awY = y at *
  generalize awZ = z at *
  generalize awD = d at *
  generalize awF = f at *
  go_enter Tryz.func6, Tryz.ntmps6
  go_wp2_with fail
  refine Calls.mono (HC1.out _) ?_
  rintro e w1 ⟨vx, rfl, hx, b1⟩
  obtain ⟨vxn, vxd, rfl, hxn, hxd⟩ := id hx
  obtain ⟨Ax1, cx1, rfl, _⟩ := id hxn
  obtain ⟨Ax2, cx2, rfl, _⟩ := id hxd
  go_wp2_with fail
  obtain ⟨w2, e2, o2, b2, s2⟩ := layA w1 [.bool (decide (x.num < 0)), .slice Ax1 (digs b64 x.num.natAbs).length cx1, .slice Ax2 (digs b64 (denOf x.den)).length cx2] 29
  rw [e2]
  clear e2
  have B2 := b1.trans (b2.mono b1.size)
  have hx := hx.below b2
  refine Calls.mono (HC2.out _) ?_
  rintro e w3 ⟨vy, rfl, hy, b3⟩
  obtain ⟨vyn, vyd, rfl, hyn, hyd⟩ := id hy
  obtain ⟨Ay1, cy1, rfl, _⟩ := id hyn
  obtain ⟨Ay2, cy2, rfl, _⟩ := id hyd
  have B3 := B2.trans (b3.mono B2.size)
  go_wp2_with fail
  obtain ⟨w4, e4, o4, b4, s4⟩ := layA w3 [.bool (decide (y.num < 0)), .slice Ay1 (digs b64 y.num.natAbs).length cy1, .slice Ay2 (digs b64 (denOf y.den)).length cy2] 29
  rw [e4]
  clear e4
  have B4 := B3.trans (b4.mono B3.size)
  have hx := (hx.below b3).below b4
  have hy := hy.below b4
  have o2 := (o2.gone b3).gone b4
  refine Calls.mono (HC3.out _) ?_
  rintro e w5 ⟨vz, rfl, hz, b5⟩
  obtain ⟨vzn, vzd, rfl, hzn, hzd⟩ := id hz
  obtain ⟨Az1, cz1, rfl, _⟩ := id hzn
  obtain ⟨Az2, cz2, rfl, _⟩ := id hzd
  have B5 := B4.trans (b5.mono B4.size)
  obtain ⟨w6, e6, o6, b6, s6⟩ := layA w5 [.bool (decide (z.num < 0)), .slice Az1 (digs b64 z.num.natAbs).length cz1, .slice Az2 (digs b64 (denOf z.den)).length cz2] 29
  have B6 := B5.trans (b6.mono B5.size)
  have hx := (hx.below b5).below b6
  have hy := (hy.below b5).below b6
  have hz := hz.below b6
  have o2 := (o2.gone b5).gone b6
  have o4 := (o4.gone b5).gone b6
  have j0 := o2.cell (i := 0) rfl
  have j1 := o2.cell (i := 1) rfl
  have j2 := o2.cell (i := 2) rfl
  have k0 := o4.cell (i := 0) rfl
  have k1 := o4.cell (i := 1) rfl
  have k2 := o4.cell (i := 2) rfl
  have l0 := o6.cell (i := 0) rfl
  have l1 := o6.cell (i := 1) rfl
  have l2 := o6.cell (i := 2) rfl
  go_wp2_with fail
  have hc := sub_num w6 _ _ x y hx hy HB.out.1 HB.out.2.1 (by omega)
  rw [HD.out] at hc
  refine Calls.mono hc ?_
  clear hc j0 j1 j2 k0 k1 k2 l0 l1 l2
  rintro e w7 ⟨vd, rfl, hd, b7⟩
  have B7 := B6.trans (b7.mono B6.size)
  have hz := hz.below b7
  have o6 := o6.gone b7
  go_wp2_with fail
  refine Calls.mono (rtext_num w7 _ d hd HB.out.2.2.2.1 (by omega)) ?_
  rintro e w8 ⟨rfl, b8⟩
  have B8 := B7.trans (b8.mono B7.size)
  have hz := hz.below b8
  have o6 := o6.gone b8
  have l0 := o6.cell (i := 0) rfl
  have l1 := o6.cell (i := 1) rfl
  have l2 := o6.cell (i := 2) rfl
  go_wp2_with fail
  have hc := floor_num w8 _ z hz HB.out.2.2.1 (by omega)
  rw [HF.out] at hc
  refine Calls.mono hc ?_
  clear hc
  rintro e w9 ⟨vf, rfl, hf, b9⟩
  have B9 := B8.trans (b9.mono B8.size)
  go_wp2_with fail
  refine Calls.mono (rtext_num w9 _ f hf HB.out.2.2.2.2 (by omega)) ?_
  rintro e wa ⟨rfl, ba⟩
  go_wp2
  go_ret
  exact ⟨rfl, B9.trans (ba.mono B9.size)⟩
end Wx

namespace Wx
open Go Go.RowKit Go.Proofs

def b32 : Nat := 4294967296
theorem b32_pow : b32 = 2 ^ 32 := by unfold b32; decide
theorem two_le_b32 : 2 ≤ b32 := by unfold b32; omega
theorem len32 {k n : Nat} (h : Bd k n) : (digs b32 n).length ≤ k / 32 + 1 := by rw [b32_pow]; exact h.digs (by omega)
theorem i32row : (Tryz.prog.info? 49).map (fun i => (i.zero, i.size, decide (i.bytes ≤ 8))) = some (some (.int .u32 0), 1, true) := by kernel_rfl
theorem ncut_any (w : World) (A : Option Addr) (c : Nat) (l : List Nat) (h : Rd w .u32 A c l) :
    Calls Tryz.prog 100 #[.slice A l.length c] w (CutPost w A c l) := by
  obtain ⟨hl, hm, hcell⟩ := h
  unfold maxLen at hm
  go_enter Tryz.func100, Tryz.ntmps100
  go_wp2
  go_loop [3] (fun v => ∃ n : Nat, n ≤ l.length ∧ v = .int .i64 n ∧ (∀ b, val b (l.take n) = val b l)) (fun v => (intOf v).toNat)
  case atStart => exact ⟨l.length, Nat.le_refl _, rfl, fun b => by rw [List.take_length]⟩
  case round =>
    obtain ⟨n, hn, rfl, hv⟩ := hrel
    have HV := Lib.hid hv
    clear hv
    rcases Nat.eq_zero_or_pos n with rfl | hpos
    · go_wp2
      go_ret
      exact ⟨0, hn, rfl, rfl, Top.nil, HV.out⟩
    · obtain ⟨b, o, rfl, hc⟩ := hcell (by rintro rfl; simp at hn; omega)
      have hc1 := hc (n - 1) (by omega)
      clear hc hcell
      obtain ⟨x, hx⟩ : ∃ x, x = l.getD (n - 1) 0 := ⟨_, rfl⟩
      rw [← hx] at hc1
      have HX := Lib.hid hx
      clear hx
      obtain ⟨k, rfl⟩ : ∃ k, n = k + 1 := ⟨n - 1, by omega⟩
      rw [Nat.add_sub_cancel] at hc1 HX
      rcases Nat.eq_zero_or_pos x with rfl | h0
      · go_wp2
        go_round
        case rel => exact ⟨k, by omega, by go_num, fun b => by rw [step_zero (by omega) HX.out.symm]; exact HV.out b⟩
        case measure => simp [intOf]
      · have h0' : ((x : Int) == 0) = false := beq_eq_false_iff_ne.2 (by omega)
        go_wp2
        go_ret
        exact ⟨k + 1, hn, rfl, rfl, top_of (l := l) (n := k) (by omega) (by have := HX.out; omega), HV.out⟩
theorem ncut_num (w : World) (A : Option Addr) (c : Nat) (l : List Nat) (n : Nat) (h : Rd w .u32 A c l) (hw : Wf b32 l) (L : Nat) (hL : l.length = L) (hn : val b32 l = n) :
    Calls Tryz.prog 100 #[.slice A L c] w (SameNum .u32 b32 w n) := by
  subst hL
  refine (ncut_any w A c l h).mono fun e w' ⟨k, hk, he, hw', ht, hv⟩ => ⟨hw', _, he, ?_⟩
  rw [← hn, ← hv b32]
  exact Num.of two_le_b32 (h.take k) (by rw [List.length_take]; omega) (hw.take k) ht

def RetNumG (w : World) (n : Nat) (e : Ending) (w' : World) : Prop := ∃ g L c, w.heap.size ≤ g ∧ e = .returned (.slice (some ⟨g, 0, none⟩) L c) ∧ Num .u32 b32 w' (.slice (some ⟨g, 0, none⟩) L c) n ∧ Below w.heap.size w w'
theorem RetNumG.num {w : World} {n : Nat} {e : Ending} {w' : World} (h : RetNumG w n e w') : RetNum .u32 b32 w n e w' := by
  obtain ⟨g, L, c, _, he, hn, hb⟩ := h
  exact ⟨_, he, hn, hb⟩
theorem ncut_numA (w : World) (A : Option Addr) (c : Nat) (l : List Nat) (n : Nat) (h : Rd w .u32 A c l) (hw : Wf b32 l) (L : Nat) (hL : l.length = L) (hn : val b32 l = n) :
    Calls Tryz.prog 100 #[.slice A L c] w (fun e w' => w = w' ∧ ∃ k, e = .returned (.slice A k c) ∧ Num .u32 b32 w (.slice A k c) n) := by
  subst hL
  refine (ncut_any w A c l h).mono fun e w' ⟨k, hk, he, hw', ht, hv⟩ => ⟨hw', _, he, ?_⟩
  rw [← hn, ← hv b32]
  exact Num.of two_le_b32 (h.take k) (by rw [List.length_take]; omega) (hw.take k) ht

theorem nat_num (w : World) (n : Nat) (hn : n < b64) : Calls Tryz.prog 59 #[.int .u64 (n : Int)] w (RetNum .u32 b32 w n) := by
  have e1 : (n : Int) % 4294967296 = ((n % b32 : Nat) : Int) := by unfold b32; omega
  have e2 : IntKind.u64.wrap ((n : Int) / 4294967296) % 4294967296 = ((n / b32 : Nat) : Int) := by
    unfold b64 at hn
    rw [wrap_u64 (by omega) (by omega)]; unfold b32; omega
  have hw : Wf b32 [n % b32, n / b32] := Wf.cons (Nat.mod_lt _ (by unfold b32; omega)) (Wf.cons (by unfold b32; unfold b64 at hn; omega) (Wf.nil _))
  have hv : val b32 [n % b32, n / b32] = n := by simp [val]; exact Nat.mod_add_div _ _
  have E1 := Lib.hid e1
  have E2 := Lib.hid e2
  have HV := Lib.hid hv
  clear e1 e2 hv hn
  go_enter Tryz.func59, Tryz.ntmps59
  go_wp2_with fail
  rw [E1.out, E2.out]
  have hR : Row (w.alloc (.cells #[.int .u32 ((n % b32 : Nat) : Int), .int .u32 ((n / b32 : Nat) : Int)] 49)) .u32 49 w.heap.size [n % b32, n / b32] := Row.new w .u32 49 [n % b32, n / b32]
  refine (ncut_num _ _ _ [n % b32, n / b32] n (hR.rd_all (Nat.le_refl _) (by simp [maxLen])) hw _ rfl HV.out).mono ?_
  rintro e w' ⟨rfl, v, rfl, hv⟩
  go_wp2
  go_ret
  exact ⟨v, rfl, hv, (Below.refl _ _).alloc (Nat.le_refl _) _⟩
end Wx

namespace Wx
open Go Go.RowKit Go.Proofs

set_option maxHeartbeats 400000 in
theorem order_dr (w : World) (v1 v2 : Value) (m n : Nat) (h1 : Num .u32 b32 w v1 m) (h2 : Num .u32 b32 w v2 n) :
    Calls Tryz.prog 98 #[v1, v2] w (RetDr w (.int .i64 (cmpI m n))) := by
  obtain ⟨A, c, rfl, ha⟩ := h1
  obtain ⟨B, d, rfl, hb⟩ := h2
  have hla := ha.len
  have hlb := hb.len
  by_cases hlt : (digs b32 m).length < (digs b32 n).length
  · have hmn := val_lt_of_length two_le_b32 hlt
    have e : cmpI m n = -1 := by unfold cmpI; rw [if_pos hmn]
    rw [e]
    go_enter Tryz.func98, Tryz.ntmps98
    go_wp2
    all_goals (go_ret; exact ⟨rfl, 0, rfl⟩)
  · by_cases hgt : (digs b32 n).length < (digs b32 m).length
    · have hmn := val_lt_of_length two_le_b32 hgt
      have e : cmpI m n = 1 := by unfold cmpI; rw [if_neg (by omega), if_pos hmn]
      rw [e]
      go_enter Tryz.func98, Tryz.ntmps98
      go_wp2
      all_goals (go_ret; exact ⟨rfl, 0, rfl⟩)
    · have hll : (digs b32 m).length = (digs b32 n).length := by omega
      have wa := digs_wf two_le_b32 m
      have wb := digs_wf two_le_b32 n
      have va := val_digs two_le_b32 m
      have vb := val_digs two_le_b32 n
      generalize digs b32 m = a at *
      generalize digs b32 n = b at *
      rw [← hll] at hlb ⊢
      have HL := Lib.hid hll
      have VA := Lib.hid va
      have VB := Lib.hid vb
      clear hll va vb hlt hgt hlb
      go_enter Tryz.func98, Tryz.ntmps98
      go_wp2
      go_loopw [5] (fun s5 wr => ∃ i : Nat, i ≤ a.length ∧ s5 = .int .i64 ((i : Int) - 1) ∧ a.drop i = b.drop i ∧ ∃ q, wr = w.drewN q)
        (fun s5 _ => (intOf s5 + 1).toNat)
      case atStart => exact ⟨a.length, Nat.le_refl _, rfl, by rw [List.drop_of_length_le (Nat.le_refl _), List.drop_of_length_le (by have := HL.out; omega)], 0, rfl⟩
      case round =>
        obtain ⟨i, hi, rfl, hd, q, rfl⟩ := hrel
        have HD := Lib.hid hd
        clear hd
        rcases Nat.eq_zero_or_pos i with rfl | hpos
        · rw [show (((0 : Nat) : Int) - 1) = -1 by omega]
          have : a = b := by simpa using HD.out
          have e : m = n := by rw [← VA.out, ← VB.out, this]
          have e0 : cmpI m n = 0 := by unfold cmpI; rw [if_neg (by omega), if_neg (by omega)]
          have E0 := Lib.hid e0
          clear e e0 this
          go_wp2
          go_ret
          exact ⟨ret_int E0.out.symm, _, rfl⟩
        · obtain ⟨j, rfl⟩ : ∃ j, i = j + 1 := ⟨i - 1, by omega⟩
          obtain ⟨b1, o1, x, rfl, hcx, HX⟩ := ha.get (i := j) (by omega)
          obtain ⟨b2, o2, y, rfl, hcy, HY⟩ := hb.get (i := j) (by have := HL.out; omega)
          rw [show (((j + 1 : Nat) : Int) - 1) = (j : Int) by omega]
          have hj0 : (0 : Int) ≤ (j : Int) := by omega
          have hj1 : (j : Int) < (a.length : Int) := by omega
          rcases Nat.lt_trichotomy x y with hxy | hxy | hxy
          · have hxy' : (x : Int) < (y : Int) := by omega
            have hmn : m < n := by
              rw [← VA.out, ← VB.out]
              exact val_lt_get wa HX.out HY.out HD.out hxy
            have E0 : Hid (cmpI m n = -1) := by show cmpI m n = -1; unfold cmpI; rw [if_pos hmn]
            clear hmn
            go_wp2
            go_quiet (fail)
            go_wp2
            go_ret
            exact ⟨ret_int E0.out.symm, _, World.drewN_drewN _ _ _⟩
          · subst hxy
            go_wp2
            go_quiet (fail)
            go_wp2
            go_quiet (fail)
            go_wp2
            go_roundw
            case rel => exact ⟨j, by omega, by go_num, drop_get HX.out HY.out HD.out, _, rfl⟩
            case measure => simp [intOf]
          · have hxy' : (y : Int) < (x : Int) := by omega
            have hmn : n < m := by
              rw [← VA.out, ← VB.out]
              exact val_lt_get wb HY.out HX.out HD.out.symm hxy
            have E0 : Hid (cmpI m n = 1) := by show cmpI m n = 1; unfold cmpI; rw [if_neg (by omega), if_pos hmn]
            clear hmn
            go_wp2
            go_quiet (fail)
            go_wp2
            go_quiet (fail)
            go_wp2
            go_ret
            exact ⟨ret_int E0.out.symm, _, (World.drewN_drewN _ _ _).trans (World.drewN_drewN _ _ _)⟩
theorem order_num (w : World) (v1 v2 : Value) (m n : Nat) (h1 : Num .u32 b32 w v1 m) (h2 : Num .u32 b32 w v2 n) :
    Calls Tryz.prog 98 #[v1, v2] w (RetIs w (.int .i64 (cmpI m n))) := (order_dr w v1 v2 m n h1 h2).mono fun _ _ h => h.is
end Wx
