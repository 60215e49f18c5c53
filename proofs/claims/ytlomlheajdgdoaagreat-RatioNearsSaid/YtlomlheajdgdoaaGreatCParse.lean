import Derived.Test.YtlomlheajdgdoaaGreatProg
import Derived.Handy
import Derived.Laws.IdiomStrings
import Derived.Test.YtlomlheajdgdoaaGreatJNears0
import Derived.Test.YtlomlheajdgdoaaGreatJNears1
import Derived.Test.YtlomlheajdgdoaaGreatCRat1
import Derived.Test.YtlomlheajdgdoaaGreatJNears10
import Derived.Test.YtlomlheajdgdoaaGreatJNears12
import Derived.Test.YtlomlheajdgdoaaGreatJNears15
import Derived.Test.YtlomlheajdgdoaaGreatJNears18
import Derived.Test.YtlomlheajdgdoaaGreatJNears16
import Derived.Test.YtlomlheajdgdoaaGreatCText
namespace Wx
open Go Go.RowKit Go.Proofs

/-- The denominator's digits. -/
def denS (r : List Nat) : List Nat := if 47 ∈ r then aftS r else [49]
def parseOk (l : List Nat) : Bool := digitsB (befS (restS l)) && (digitsB (denS (restS l)) && decide (denS (restS l) ≠ [48]))
def parseQ (l : List Nat) : Rat := redR (negS l) (valD (befS (restS l))) (valD (denS (restS l)))
theorem befS_sub {l : List Nat} {x : Nat} (h : x ∈ befS l) : x ∈ l := (List.takeWhile_sublist _).subset h
theorem aftS_sub {l : List Nat} {x : Nat} (h : x ∈ aftS l) : x ∈ l := List.mem_of_mem_drop h
theorem restS_sub {l : List Nat} {x : Nat} (h : x ∈ restS l) : x ∈ l := by
  unfold restS at h
  split at h
  · exact List.mem_of_mem_tail h
  · exact h
theorem restS_len (l : List Nat) : (restS l).length ≤ l.length := by
  unfold restS
  split
  · rw [List.length_tail]; omega
  · exact Nat.le_refl _
theorem befS_len (l : List Nat) : (befS l).length ≤ l.length := (List.takeWhile_sublist _).length_le
theorem aftS_len (l : List Nat) : (aftS l).length ≤ l.length := by unfold aftS; rw [List.length_drop]; omega
theorem digitsB_dig {l : List Nat} (h : digitsB l = true) : ∀ x ∈ l, 48 ≤ x ∧ x ≤ 57 := by
  unfold digitsB at h
  rw [Bool.and_eq_true, List.all_eq_true] at h
  intro x hx
  have := h.1 x hx
  unfold isDig at this
  simpa using this
theorem valD_cons (x : Nat) (l : List Nat) : valD (x :: l) = (x - 48) * 10 ^ l.length + valD l := by
  have := valD_append [x] l
  simpa [valD] using this
theorem digitsB_pos {l : List Nat} (h : digitsB l = true) (h0 : l ≠ [48]) : 0 < valD l := by
  have hd := digitsB_dig h
  unfold digitsB at h
  rw [Bool.and_eq_true, Bool.or_eq_true, Bool.and_eq_true, decide_eq_true_eq, decide_eq_true_eq, decide_eq_true_eq] at h
  rcases h.2 with h1 | ⟨h1, h2⟩
  · exact absurd h1 h0
  · cases l with
    | nil => exact absurd rfl h1
    | cons x l =>
      have := hd x (by simp)
      have h3 : x ≠ 48 := by simpa using h2
      rw [valD_cons]
      have h4 : 0 < (x - 48) * 10 ^ l.length := Nat.mul_pos (by omega) (Nat.pow_pos (by omega))
      omega
theorem strOf_ne {l r : List Nat} (hl : Wf 256 l) (hr : Wf 256 r) (h : ¬ l = r) : ¬ (strOf l).toList = (strOf r).toList := fun e => h (strOf_inj hl hr e)
theorem textB_wf (n : Nat) : Wf 256 (textB n) := by
  unfold textB
  split
  · intro x hx; simp at hx; omega
  · exact decB_wf _
theorem textR_wf (q : Rat) : Wf 256 (textR q) := by
  intro x hx
  unfold textR at hx
  rcases List.mem_append.1 hx with h | h
  · split at h
    · simp at h; omega
    · simp at h
  · rcases List.mem_append.1 h with h | h
    · exact textB_wf _ x h
    · split at h
      · simp at h
      · rcases List.mem_cons.1 h with h | h
        · omega
        · exact textB_wf _ x h
set_option maxRecDepth 100000 in
set_option maxHeartbeats 1000000 in
theorem parse_f0 (w : World) (l : List Nat) (hw : Wf 256 l) (hl : l.length ≤ 4096) (hm : ¬ 47 ∈ restS l) (h1 : digitsB (befS (restS l)) = true) (h2 : digitsB [49] = true) (h3 : ¬ [49] = [48]) (h4 : textR (redR (negS l) (valD (befS (restS l))) (valD [49])) = l) : Calls Tryz.prog 52 #[.string (strOf l)] w (RetRE w (redR (negS l) (valD (befS (restS l))) (valD [49])) 0) := by
  have hwr : Wf 256 (restS l) := fun x hx => hw x (restS_sub hx)
  have hwn : Wf 256 (befS (restS l)) := fun x hx => hwr x (befS_sub hx)
  have hwd : Wf 256 [49] := by intro x hx; simp at hx; omega
  have hlr := restS_len l
  have hln := befS_len (restS l)
  have hld : [49].length ≤ 4096 := by simp
  have hs := strOf_size l
  have hl0 : (l.length : Int) ≤ 4096 := by omega
  have hc1 := fun w => cutPrefix_minus w l hw
  have hc2 := fun w => cut_slash w (restS l) hwr (by omega)
  simp only [decide_eq_false hm] at hc2
  have hc3 := fun w => digits_num w (befS (restS l)) hwn (by omega)
  rw [h1] at hc3
  have hc4 : ∀ w, Calls Tryz.prog 92 #[.string ⟨#[49]⟩] w (RetIs w (.bool true)) := fun w => by have h := digits_num w [49] hwd (by omega); rw [h2] at h; exact h
  have hc5 := fun w => from_num w (befS (restS l)) (digitsB_dig h1) (by omega)
  have hc6 : ∀ w, Calls Tryz.prog 93 #[.string ⟨#[49]⟩] w (RetNum .u64 b64 w (valD [49])) := fun w => from_num w [49] (digitsB_dig h2) (by omega)
  have HV := bx (digitsB_pos h2 h3)
  have HB1 : Bx (Bd 16384 (valD (befS (restS l)))) := bx ((Bd.ten (valD_lt (digitsB_dig h1))).mono (by omega))
  have HB2 : Bx (Bd 16384 (valD [49])) := bx ((Bd.ten (valD_lt (digitsB_dig h2))).mono (by omega))
  have hbq := redR_bd (neg := negS l) HV.out HB1.out HB2.out
  have hwt := textR_wf (redR (negS l) (valD (befS (restS l))) (valD [49]))
  generalize hq : (redR (negS l) (valD (befS (restS l))) (valD [49])) = q at *
  have HQ := bx hq
  have HBQ := bx hbq
  have ht : ((strOf (textR q)).toList == (strOf l).toList) = true := beq_iff_eq.2 (by rw [h4])
  clear hwt hq hbq h4
  have HC1 := bx hc1
  have HC2 := bx hc2
  have HC3 := bx hc3
  have HC4 := bx hc4
  have HC5 := bx hc5
  have HC6 := bx hc6
  clear hw hwr hwn hwd hlr hln hld hl hm hc1 hc2 hc3 h1 hc4 h2 hc5 hc6 h3
  go_enter Tryz.func52, Tryz.ntmps52
  go_wp2_with fail
  obtain ⟨w1, e1, o1, b1, s1⟩ := lay3 w (.bool false) (.slice none 0 0) (.slice none 0 0) 29
  rw [e1]
  clear e1 s1
  have hz : HeldR w w.heap.size 29 [] w1 := ⟨b1, Nat.le_refl _, by simp, _, _, _, o1, notInt_bool _, notInt_slice _ _ _, notInt_slice _ _ _⟩
  refine Calls.mono (HC1.out _) ?_
  rintro e w' ⟨rfl, rfl⟩
  go_wp2_with fail
  refine Calls.mono (HC2.out _) ?_
  rintro e w2 ⟨rfl, hb2⟩
  have hz := HeldR.call (And.intro hz trivial) hb2
  go_wp2_with fail
  refine Calls.mono (HC3.out _) ?_
  rintro e w3 ⟨rfl, hb3⟩
  have hz := HeldR.call (And.intro hz trivial) hb3
  go_wp2_with fail
  refine Calls.mono (HC4.out _) ?_
  rintro e w4 ⟨rfl, hb4⟩
  have hz := HeldR.call (And.intro hz trivial) hb4
  go_wp2_with fail
  refine Calls.mono (HC5.out _) ?_
  rintro e w5 ⟨vn, rfl, hn, hb5⟩
  have hz := HeldR.call (And.intro hz trivial) hb5
  go_wp2_with fail
  refine Calls.mono (HC6.out _) ?_
  rintro e w6 ⟨vd, rfl, hd, hb6⟩
  have hn := hn.below hb6
  have hz := HeldR.call (And.intro hz trivial) hb6
  go_wp2_with fail
  refine Calls.mono (reduced_num w6 _ _ _ _ _ hn hd HV.out HB1.out HB2.out (by omega)) ?_
  rw [HQ.out]
  rintro e w7 ⟨vr, rfl, hr, hb7⟩
  have hz := HeldR.call (And.intro hz trivial) hb7
  obtain ⟨vrn, vrd, rfl, hrn, hrd⟩ := id hr
  obtain ⟨Ar1, cr1, rfl, _⟩ := id hrn
  obtain ⟨Ar2, cr2, rfl, _⟩ := id hrd
  go_wp2_with fail
  obtain ⟨w8, e8, o8, b8, s8⟩ := lay3 w7 (.bool (decide (q.num < 0))) (.slice Ar1 (digs b64 q.num.natAbs).length cr1) (.slice Ar2 (digs b64 (denOf q.den)).length cr2) 29
  rw [e8]
  clear e8 s8
  have hz := HeldR.call (And.intro hz trivial) b8
  refine Calls.mono (rtext_num w8 _ q (hr.below b8) HBQ.out (by omega)) ?_
  rintro e w9 ⟨rfl, hb9⟩
  have hz := HeldR.call (And.intro hz trivial) hb9
  have o9 := o8.gone hb9
  obtain ⟨k0, k1, k2, k3, k4, k5⟩ := hz.cells
  have k6 := o9.c0
  have k7 := o9.c1
  have k8 := o9.c2
  have hrn := (hrn.below b8).below hb9
  have hrd := (hrd.below b8).below hb9
  go_wp2
  obtain ⟨wf, HW, f0, f1, f2, hfin⟩ := hz.fin rfl hrn hrd
  rw [HW]
  (try simp only [Exit.inBlock, Exit.then])
  refine bodyPost_ret (by simp [results, Tryz.results52, go_sem, f0, f1, f2]; try rfl) rfl ?_
  exact RetRE.of hfin 0

set_option maxRecDepth 100000 in
set_option maxHeartbeats 1000000 in
theorem parse_f1 (w : World) (l : List Nat) (hw : Wf 256 l) (hl : l.length ≤ 4096) (hm :  47 ∈ restS l) (h1 : digitsB (befS (restS l)) = true) (h2 : digitsB (aftS (restS l)) = true) (h3 : ¬ (aftS (restS l)) = [48]) (h4 : textR (redR (negS l) (valD (befS (restS l))) (valD (aftS (restS l)))) = l) : Calls Tryz.prog 52 #[.string (strOf l)] w (RetRE w (redR (negS l) (valD (befS (restS l))) (valD (aftS (restS l)))) 0) := by
  have hwr : Wf 256 (restS l) := fun x hx => hw x (restS_sub hx)
  have hwn : Wf 256 (befS (restS l)) := fun x hx => hwr x (befS_sub hx)
  have hwd : Wf 256 (aftS (restS l)) := fun x hx => hwr x (aftS_sub hx)
  have hlr := restS_len l
  have hln := befS_len (restS l)
  have hld : (aftS (restS l)).length ≤ 4096 := Nat.le_trans (aftS_len _) (by omega)
  have hs := strOf_size l
  have hl0 : (l.length : Int) ≤ 4096 := by omega
  have hc1 := fun w => cutPrefix_minus w l hw
  have hc2 := fun w => cut_slash w (restS l) hwr (by omega)
  simp only [decide_eq_true hm] at hc2
  have hc3 := fun w => digits_num w (befS (restS l)) hwn (by omega)
  rw [h1] at hc3
  have hc4 : ∀ w, Calls Tryz.prog 92 #[.string (strOf (aftS (restS l)))] w (RetIs w (.bool true)) := fun w => by have h := digits_num w (aftS (restS l)) hwd (by omega); rw [h2] at h; exact h
  have hc5 := fun w => from_num w (befS (restS l)) (digitsB_dig h1) (by omega)
  have hc6 : ∀ w, Calls Tryz.prog 93 #[.string (strOf (aftS (restS l)))] w (RetNum .u64 b64 w (valD (aftS (restS l)))) := fun w => from_num w (aftS (restS l)) (digitsB_dig h2) (by omega)
  have HV := bx (digitsB_pos h2 h3)
  have HB1 : Bx (Bd 16384 (valD (befS (restS l)))) := bx ((Bd.ten (valD_lt (digitsB_dig h1))).mono (by omega))
  have HB2 : Bx (Bd 16384 (valD (aftS (restS l)))) := bx ((Bd.ten (valD_lt (digitsB_dig h2))).mono (by omega))
  have hbq := redR_bd (neg := negS l) HV.out HB1.out HB2.out
  have hwt := textR_wf (redR (negS l) (valD (befS (restS l))) (valD (aftS (restS l))))
  generalize hq : (redR (negS l) (valD (befS (restS l))) (valD (aftS (restS l)))) = q at *
  have HQ := bx hq
  have HBQ := bx hbq
  have ht : ((strOf (textR q)).toList == (strOf l).toList) = true := beq_iff_eq.2 (by rw [h4])
  clear hwt hq hbq h4
  have htd : ((strOf (aftS (restS l))).toList == [48]) = false := beq_eq_false_iff_ne.2 (by rw [show ([48] : List UInt8) = (strOf [48]).toList by rw [strOf_toList]; rfl]; exact strOf_ne (r := [48]) hwd (by intro x hx; simp at hx; omega) h3)
  have HC1 := bx hc1
  have HC2 := bx hc2
  have HC3 := bx hc3
  have HC4 := bx hc4
  have HC5 := bx hc5
  have HC6 := bx hc6
  clear hw hwr hwn hwd hlr hln hld hl hm hc1 hc2 hc3 h1 hc4 h2 hc5 hc6 h3
  go_enter Tryz.func52, Tryz.ntmps52
  go_wp2_with fail
  obtain ⟨w1, e1, o1, b1, s1⟩ := lay3 w (.bool false) (.slice none 0 0) (.slice none 0 0) 29
  rw [e1]
  clear e1 s1
  have hz : HeldR w w.heap.size 29 [] w1 := ⟨b1, Nat.le_refl _, by simp, _, _, _, o1, notInt_bool _, notInt_slice _ _ _, notInt_slice _ _ _⟩
  refine Calls.mono (HC1.out _) ?_
  rintro e w' ⟨rfl, rfl⟩
  go_wp2_with fail
  refine Calls.mono (HC2.out _) ?_
  rintro e w2 ⟨rfl, hb2⟩
  have hz := HeldR.call (And.intro hz trivial) hb2
  go_wp2_with fail
  refine Calls.mono (HC3.out _) ?_
  rintro e w3 ⟨rfl, hb3⟩
  have hz := HeldR.call (And.intro hz trivial) hb3
  go_wp2_with fail
  refine Calls.mono (HC4.out _) ?_
  rintro e w4 ⟨rfl, hb4⟩
  have hz := HeldR.call (And.intro hz trivial) hb4
  go_wp2_with fail
  refine Calls.mono (HC5.out _) ?_
  rintro e w5 ⟨vn, rfl, hn, hb5⟩
  have hz := HeldR.call (And.intro hz trivial) hb5
  go_wp2_with fail
  refine Calls.mono (HC6.out _) ?_
  rintro e w6 ⟨vd, rfl, hd, hb6⟩
  have hn := hn.below hb6
  have hz := HeldR.call (And.intro hz trivial) hb6
  go_wp2_with fail
  refine Calls.mono (reduced_num w6 _ _ _ _ _ hn hd HV.out HB1.out HB2.out (by omega)) ?_
  rw [HQ.out]
  rintro e w7 ⟨vr, rfl, hr, hb7⟩
  have hz := HeldR.call (And.intro hz trivial) hb7
  obtain ⟨vrn, vrd, rfl, hrn, hrd⟩ := id hr
  obtain ⟨Ar1, cr1, rfl, _⟩ := id hrn
  obtain ⟨Ar2, cr2, rfl, _⟩ := id hrd
  go_wp2_with fail
  obtain ⟨w8, e8, o8, b8, s8⟩ := lay3 w7 (.bool (decide (q.num < 0))) (.slice Ar1 (digs b64 q.num.natAbs).length cr1) (.slice Ar2 (digs b64 (denOf q.den)).length cr2) 29
  rw [e8]
  clear e8 s8
  have hz := HeldR.call (And.intro hz trivial) b8
  refine Calls.mono (rtext_num w8 _ q (hr.below b8) HBQ.out (by omega)) ?_
  rintro e w9 ⟨rfl, hb9⟩
  have hz := HeldR.call (And.intro hz trivial) hb9
  have o9 := o8.gone hb9
  obtain ⟨k0, k1, k2, k3, k4, k5⟩ := hz.cells
  have k6 := o9.c0
  have k7 := o9.c1
  have k8 := o9.c2
  have hrn := (hrn.below b8).below hb9
  have hrd := (hrd.below b8).below hb9
  go_wp2
  obtain ⟨wf, HW, f0, f1, f2, hfin⟩ := hz.fin rfl hrn hrd
  rw [HW]
  (try simp only [Exit.inBlock, Exit.then])
  refine bodyPost_ret (by simp [results, Tryz.results52, go_sem, f0, f1, f2]; try rfl) rfl ?_
  exact RetRE.of hfin 0


theorem parse_ok (w : World) (l : List Nat) (hw : Wf 256 l) (hl : l.length ≤ 4096) (h1 : parseOk l = true) (h2 : textR (parseQ l) = l) : Calls Tryz.prog 52 #[.string (strOf l)] w (RetRE w (parseQ l) 0) := by
  unfold parseOk at h1
  rw [Bool.and_eq_true, Bool.and_eq_true, decide_eq_true_eq] at h1
  obtain ⟨a, b, c⟩ := h1
  unfold parseQ at h2 ⊢
  by_cases hm : 47 ∈ restS l
  · have e : denS (restS l) = aftS (restS l) := if_pos hm
    rw [e] at b c h2 ⊢
    exact parse_f1 w l hw hl hm a b c h2
  · have e : denS (restS l) = [49] := if_neg hm
    rw [e] at b c h2 ⊢
    exact parse_f0 w l hw hl hm a b c h2
end Wx
