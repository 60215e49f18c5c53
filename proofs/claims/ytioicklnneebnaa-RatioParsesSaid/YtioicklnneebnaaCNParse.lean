import Derived.Test.YtioicklnneebnaaProg
import Derived.Handy
import Derived.Laws.IdiomStrings
import Derived.Deep.DeepCutAuto
import Derived.Test.YtioicklnneebnaaPlain1
import Derived.Test.YtioicklnneebnaaMem
import Derived.Test.YtioicklnneebnaaJParses3
import Derived.Test.YtioicklnneebnaaCRat1
import Derived.Test.YtioicklnneebnaaCRat2
import Derived.Test.YtioicklnneebnaaCHeld
import Derived.Test.YtioicklnneebnaaJParses22
import Derived.Test.YtioicklnneebnaaJParses23
import Derived.Test.YtioicklnneebnaaCFrom
import Derived.Test.YtioicklnneebnaaJParses25
import Derived.Test.YtioicklnneebnaaCText
import Derived.Test.YtioicklnneebnaaCRText
import Derived.Test.YtioicklnneebnaaCParse
import Derived.Test.YtioicklnneebnaaJParses33
import Derived.Test.YtioicklnneebnaaJParses44
import Derived.Test.YtioicklnneebnaaCNNumber
import Derived.Test.YtioicklnneebnaaJParses40
import Derived.Test.YtioicklnneebnaaCNRat2
import Derived.Test.YtioicklnneebnaaCNText
namespace Wx
open Go Go.RowKit Go.Proofs

theorem bd_one (k : Nat) (h : 0 < k) : Bd k 1 := by unfold Bd; exact Nat.one_lt_two_pow (by omega)
def nAt (l : List Nat) : Nat := if l.getD 0 0 = 45 ∧ 0 < l.length then 1 else 0
def nEnd (l : List Nat) : Nat := numEnd l (nAt l)
def nDen (l : List Nat) : Nat := if nEnd l < l.length then valD (l.drop (nEnd l + 1)) else 1
def nNum (l : List Nat) : Nat := valD ((l.take (nEnd l)).drop (nAt l))
def nPQ (l : List Nat) : Rat := redR ((nAt l : Int) == 1) (nNum l) (nDen l)
/-- The form that the reference's Parse asks for. -/
def nShape (l : List Nat) : Prop := nEnd l ≠ nAt l ∧ (nEnd l < l.length → l.getD (nEnd l) 0 = 47 ∧ numEnd l (nEnd l + 1) = l.length ∧ nEnd l + 1 ≠ l.length) ∧ nDen l ≠ 0
theorem numEnd_le {l : List Nat} {a : Nat} (h : a ≤ l.length) : numEnd l a ≤ l.length := by
  unfold numEnd
  split
  · exact h
  · exact runEnd_le h
theorem numEnd_ge (l : List Nat) (a : Nat) : a ≤ numEnd l a := by
  unfold numEnd
  split
  · exact Nat.le_refl _
  · exact runEnd_ge l a
theorem numEnd_dig {l : List Nat} {a : Nat} : ∀ x ∈ (l.take (numEnd l a)).drop a, 48 ≤ x ∧ x ≤ 57 := by
  intro x hx
  have hr : x ∈ (l.drop a).takeWhile isDig := by
    rw [List.drop_take] at hx
    have h1 : numEnd l a - a ≤ ((l.drop a).takeWhile isDig).length := by
      unfold numEnd
      split
      · omega
      · unfold runEnd; omega
    have h2 : (l.drop a).takeWhile isDig <+: l.drop a := List.takeWhile_prefix _
    have h3 := List.prefix_iff_eq_take.1 h2
    rw [h3]
    have h5 : (l.drop a).take (numEnd l a - a) = ((l.drop a).take ((l.drop a).takeWhile isDig).length).take (numEnd l a - a) := by
      rw [List.take_take, Nat.min_eq_left h1]
    rw [h5] at hx
    exact List.mem_of_mem_take hx
  have := List.all_eq_true.1 (List.all_takeWhile (p := isDig) (l := l.drop a)) x hr
  unfold isDig at this
  simpa using this
/-- What the reference's Parse hands back. -/
def NParsed (l : List Nat) (w : World) (e : Ending) (w' : World) : Prop := (RetFE w (nPQ l) 0 e w' ∧ nShape l ∧ textR (nPQ l) = l) ∨ (RetFE w 0 2 e w' ∧ ¬ (nShape l ∧ textR (nPQ l) = l))
set_option maxRecDepth 100000 in
set_option maxHeartbeats 1000000 in
theorem nparse_big (w : World) (l : List Nat) (hl : l.length ≤ 1000000000) (hb : 4096 < l.length) : Calls Try.prog 8 #[.string (strOf l)] w (RetFE w 0 4) := by
  have hs := strOf_size l
  have hb1 : (4096 : Int) < (l.length : Int) := by omega
  have hi : ∀ w, Calls Try.prog 37 #[.int .i64 0] w (RetRef w 0) := fun w => nint_num w 0 (by omega) (by omega)
  have HI := bx hi
  clear hi
  generalize (0 : Rat) = q at *
  go_enter Try.func8, Try.ntmps8
  go_wp2_with fail
  obtain ⟨w1, e1, oR, b1, s1⟩ := layA w [.bool false, .slice none 0 0, .slice none 0 0] 32
  rw [e1]
  clear e1
  have B := b1
  clear b1
  refine Calls.mono (HI.out _) ?_
  rintro e w2 ⟨vr, rfl, hr, b2⟩
  replace oR := oR.gone b2
  replace B := B.trans (b2.mono B.size)
  clear b2
  obtain ⟨vr1, vr2, rfl, hra, hrb⟩ := id hr
  obtain ⟨Ar1, cr1, rfl, _⟩ := id hra
  obtain ⟨Ar2, cr2, rfl, _⟩ := id hrb
  have k1 := oR.cell (i := 0) rfl
  have k2 := oR.fz 0
  have k3 := oR.cell (i := 1) rfl
  have k4 := oR.fz 1
  have k5 := oR.cell (i := 2) rfl
  have k6 := oR.fz 2
  go_wp2
  obtain ⟨wf, HW, ho, _, hN, hBf, _⟩ := oR.put notInt_z3 [.bool (decide (q.num < 0)), .slice Ar1 (digs b32 q.num.natAbs).length cr1, .slice Ar2 (digs b32 q.den).length cr2] rfl notInt3
  simp only [setAll, Nat.reduceAdd] at HW
  (try rw [HW])
  (try simp only [Exit.inBlock, Exit.then])
  have f0 := ho.cell (i := 0) rfl
  have f1 := ho.cell (i := 1) rfl
  have f2 := ho.cell (i := 2) rfl
  refine bodyPost_ret (by simp [results, Try.results8, go_sem, f0, f1, f2]; try rfl) rfl ?_
  have HB := hBf _ (by omega) B
  exact ⟨_, rfl, hr.into hN, HB⟩

set_option maxRecDepth 100000 in
set_option maxHeartbeats 8000000 in
theorem nparse_walk (w : World) (l : List Nat) (hw : Wf 256 l) (hl : l.length ≤ 4096) : Calls Try.prog 8 #[.string (strOf l)] w (NParsed l w) := by
  have hs := strOf_size l
  have hl0 : (l.length : Int) ≤ 4096 := by omega
  have hi : ∀ w, Calls Try.prog 37 #[.int .i64 0] w (RetRef w 0) := fun w => nint_num w 0 (by omega) (by omega)
  have hnum : ∀ w a, a ≤ l.length → Calls Try.prog 38 #[.string (strOf l), .int .i64 (a : Int)] w fun e w' => e = .returned (.int .i64 ((numEnd l a : Nat) : Int)) ∧ w = w' := fun w a ha => number_num w l a hw (by omega) ha
  have HNUM := bx hnum
  have HIb := bx hi
  obtain ⟨A, hA⟩ : ∃ A, nAt l = A := ⟨_, rfl⟩
  obtain ⟨E, hE⟩ : ∃ E, numEnd l A = E := ⟨_, rfl⟩
  have hAl : A ≤ l.length := by rw [← hA]; unfold nAt; split <;> omega
  have hA1 : A ≤ 1 := by rw [← hA]; unfold nAt; split <;> omega
  have hEl : E ≤ l.length := by rw [← hE]; exact numEnd_le hAl
  have hAE : A ≤ E := by rw [← hE]; exact numEnd_ge l A
  have HA := bx hA
  have HE := bx hE
  have HEN := bx (show nEnd l = E by unfold nEnd; rw [hA, hE])
  have HD1 : Bx (∀ x ∈ (l.take E).drop A, 48 ≤ x ∧ x ≤ 57) := bx (by rw [← hE]; exact numEnd_dig)
  have HNN := bx (show valD ((l.take E).drop A) = nNum l by unfold nNum nEnd; rw [hA, hE])
  obtain ⟨b, hb⟩ : ∃ b, b = decide (A = 1) := ⟨_, rfl⟩
  have HBV := bx hb
  have HW := bx hw
  have HZ : Bx (∃ q0 : Rat, q0 = 0 ∧ ∀ w, Calls Try.prog 37 #[.int .i64 0] w (RetRef w q0)) := bx ⟨0, rfl, hi⟩
  obtain ⟨q0, hq0, hi0⟩ := HZ.out
  have HI := bx hi0
  have HQ0 := bx hq0
  clear hi hi0 hnum hA hE hb hq0 HZ hw HIb
  go_enter Try.func8, Try.ntmps8
  go_upto_region 4 with (fail)
  obtain ⟨w1, e1, oR, b1, s1⟩ := layA w [.bool false, .slice none 0 0, .slice none 0 0] 32
  rw [e1]
  clear e1
  have B := b1
  clear b1
  go_cut [19] (fun v19 wx => v19 = .bool b ∧ ObjA wx w.heap.size [.bool false, .slice none 0 0, .slice none 0 0] 32 ∧ Below w.heap.size w wx)
  case first =>
    rcases Nat.eq_zero_or_pos l.length with h0 | h0
    · have hb : b = false := by rw [HBV.out]; refine decide_eq_false ?_; rw [← HA.out]; unfold nAt; rw [if_neg (by omega)]; omega
      subst hb
      have hl1 : ¬ (0 : Int) < (l.length : Int) := by omega
      go_wp2
      go_meet
      case rel => exact ⟨rfl, oR, B⟩
    · obtain ⟨hs0, x, hx, hg⟩ := str_at HW.out h0
      have hl1 : (0 : Int) < (l.length : Int) := by omega
      by_cases h45 : x = 45
      · have hb : b = true := by rw [HBV.out]; refine decide_eq_true ?_; rw [← HA.out]; unfold nAt; rw [if_pos ⟨by rw [hg, h45], h0⟩]
        subst hb
        have hx45 : ((x : Int) == 45) = true := beq_iff_eq.2 (by omega)
        clear hg h45
        go_wp2
        go_meet
        case rel => exact ⟨rfl, oR, B⟩
      · have hb : b = false := by rw [HBV.out]; refine decide_eq_false ?_; rw [← HA.out]; unfold nAt; rw [if_neg (by rw [hg]; omega)]; omega
        subst hb
        have hx45 : ((x : Int) == 45) = false := beq_eq_false_iff_ne.2 (by omega)
        clear hg h45
        go_wp2
        go_meet
        case rel => exact ⟨rfl, oR, B⟩
  case rest =>
    obtain ⟨rfl, oR, B⟩ := hcut
    go_upto_if 19 with fail
    go_cut [4] (fun v4 wx => v4 = .int .i64 (A : Int) ∧ wx = wc)
    case first =>
      cases b with
      | true =>
        have hA1 := bx (of_decide_eq_true HBV.out.symm)
        go_wp2
        go_meet
        case rel => exact ⟨by rw [hA1.out]; rfl, rfl⟩
      | false =>
        have hA2 := of_decide_eq_false HBV.out.symm
        have hA3 := bx (show A = 0 by omega)
        clear hA2
        go_wp2
        go_meet
        case rel => exact ⟨by rw [hA3.out]; rfl, rfl⟩
    obtain ⟨rfl, rfl⟩ := hcut
    clear HBV
    go_wp2_with fail
    refine Calls.mono (HNUM.out _ A hAl) ?_
    rintro e w' ⟨rfl, rfl⟩
    rw [HE.out]
    have hE0 : (0 : Int) ≤ (E : Int) := by omega
    have hE1 : (E : Int) ≤ (l.length : Int) := by omega
    by_cases hEA : E = A
    · skip
      have hea : ((E : Int) == (A : Int)) = true := beq_iff_eq.2 (by omega)
      have HX := bx (show nEnd l = nAt l by rw [HEN.out, HA.out]; exact hEA)
      clear hEA
      go_wp2_with fail
      refine Calls.mono (HI.out _) ?_
      rintro e w1 ⟨vr, rfl, hr, b1⟩
      replace oR := oR.gone b1
      replace B := B.trans (b1.mono B.size)
      clear b1
      obtain ⟨vr1, vr2, rfl, hra, hrb⟩ := id hr
      obtain ⟨Ar1, cr1, rfl, _⟩ := id hra
      obtain ⟨Ar2, cr2, rfl, _⟩ := id hrb
      have k1 := oR.cell (i := 0) rfl
      have k2 := oR.fz 0
      have k3 := oR.cell (i := 1) rfl
      have k4 := oR.fz 1
      have k5 := oR.cell (i := 2) rfl
      have k6 := oR.fz 2
      go_wp2
      obtain ⟨wf, HW, ho, _, hN, hBf, _⟩ := oR.put notInt_z3 [.bool (decide (q0.num < 0)), .slice Ar1 (digs b32 q0.num.natAbs).length cr1, .slice Ar2 (digs b32 q0.den).length cr2] rfl notInt3
      simp only [setAll, Nat.reduceAdd] at HW
      (try rw [HW])
      (try simp only [Exit.inBlock, Exit.then])
      have f0 := ho.cell (i := 0) rfl
      have f1 := ho.cell (i := 1) rfl
      have f2 := ho.cell (i := 2) rfl
      refine bodyPost_ret (by simp [results, Try.results8, go_sem, f0, f1, f2]; try rfl) rfl ?_
      have HB := hBf _ (by omega) B
      rw [HQ0.out] at *
      exact .inr ⟨⟨_, rfl, hr.into hN, HB⟩, fun h => h.1.1 HX.out⟩
    · have hea : ((E : Int) == (A : Int)) = false := beq_eq_false_iff_ne.2 (by omega)
      have HEA := bx (show nEnd l ≠ nAt l by rw [HEN.out, HA.out]; exact hEA)
      clear hEA
      go_wp2_with fail
      refine Calls.mono (nat_num _ 1 (by unfold b64; omega)) ?_
      rintro e w1 ⟨v6, rfl, h6, b1⟩
      replace oR := oR.gone b1
      replace B := B.trans (b1.mono B.size)
      clear b1
      by_cases hEL : E < l.length
      · obtain ⟨hsE, x, hx, hg⟩ := str_at HW.out hEL
        have hel : (E : Int) < (l.length : Int) := by omega
        have HLT := bx (show nEnd l < l.length by rw [HEN.out]; exact hEL)
        have HG := bx (show l.getD (nEnd l) 0 = x by rw [HEN.out]; exact hg)
        clear hg
        by_cases h47 : x = 47
        · have hx47 : ((x : Int) != 47) = false := by simp; omega
          have HG2 := bx (show l.getD (nEnd l) 0 = 47 by rw [HG.out]; exact h47)
          clear h47 HG
          go_wp2_with fail
          have hc := HNUM.out w1 (E + 1) (by omega)
          obtain ⟨E2, hE2⟩ : ∃ E2, numEnd l (E + 1) = E2 := ⟨_, rfl⟩
          rw [hE2] at hc
          have HE2 := bx hE2
          clear hE2
          rw [show (((E + 1 : Nat)) : Int) = (E : Int) + 1 by omega] at hc
          refine Calls.mono (hc) ?_
          rintro e w' ⟨rfl, rfl⟩
          clear hc
          by_cases hEL2 : E2 = l.length
          · have hel2 : ((E2 : Int) != (l.length : Int)) = false := by simp; omega
            by_cases hE1L : E + 1 = l.length
            · skip
              have he1 : ((E : Int) + 1 == (l.length : Int)) = true := beq_iff_eq.2 (by omega)
              have HX := bx (show nEnd l + 1 = l.length by rw [HEN.out]; exact hE1L)
              clear hE1L hEL2
              go_wp2_with fail
              refine Calls.mono (HI.out _) ?_
              rintro e w2 ⟨vr, rfl, hr, b2⟩
              replace oR := oR.gone b2
              replace h6 := h6.below b2
              replace B := B.trans (b2.mono B.size)
              clear b2
              obtain ⟨vr1, vr2, rfl, hra, hrb⟩ := id hr
              obtain ⟨Ar1, cr1, rfl, _⟩ := id hra
              obtain ⟨Ar2, cr2, rfl, _⟩ := id hrb
              have k1 := oR.cell (i := 0) rfl
              have k2 := oR.fz 0
              have k3 := oR.cell (i := 1) rfl
              have k4 := oR.fz 1
              have k5 := oR.cell (i := 2) rfl
              have k6 := oR.fz 2
              go_wp2
              obtain ⟨wf, HW, ho, _, hN, hBf, _⟩ := oR.put notInt_z3 [.bool (decide (q0.num < 0)), .slice Ar1 (digs b32 q0.num.natAbs).length cr1, .slice Ar2 (digs b32 q0.den).length cr2] rfl notInt3
              simp only [setAll, Nat.reduceAdd] at HW
              (try rw [HW])
              (try simp only [Exit.inBlock, Exit.then])
              have f0 := ho.cell (i := 0) rfl
              have f1 := ho.cell (i := 1) rfl
              have f2 := ho.cell (i := 2) rfl
              refine bodyPost_ret (by simp [results, Try.results8, go_sem, f0, f1, f2]; try rfl) rfl ?_
              have HB := hBf _ (by omega) B
              rw [HQ0.out] at *
              exact .inr ⟨⟨_, rfl, hr.into hN, HB⟩, fun h => (h.1.2.1 HLT.out).2.2 HX.out⟩
            · have he1 : ((E : Int) + 1 == (l.length : Int)) = false := beq_eq_false_iff_ne.2 (by omega)
              have HX2 := bx (show (strOf l).extract (E + 1) l.length = strOf (l.drop (E + 1)) by rw [strOf_extract, List.take_length])
              have HD2 : Bx (∀ x ∈ l.drop (E + 1), 48 ≤ x ∧ x ≤ 57) := bx (by
                have := numEnd_dig (l := l) (a := E + 1)
                rw [HE2.out, hEL2, List.take_length] at this
                exact this)
              have HSH0 := bx (show nEnd l + 1 ≠ l.length ∧ numEnd l (nEnd l + 1) = l.length by rw [HEN.out]; exact ⟨hE1L, by rw [HE2.out]; exact hEL2⟩)
              have HLL2 := bx (show (l.drop (E + 1)).length ≤ 4096 by rw [List.length_drop]; omega)
              have HDD := bx (show valD (l.drop (E + 1)) = nDen l by unfold nDen; rw [if_pos HLT.out, HEN.out])
              have hel3 : (E : Int) + 1 ≤ (l.length : Int) := by omega
              clear hE1L hEL2 he1
              have he1 : ((E : Int) + 1 == (l.length : Int)) = false := beq_eq_false_iff_ne.2 (by have := HSH0.out.1; rw [HEN.out] at this; omega)
              clear h6
              go_wp2_with fail
              rw [HX2.out]
              refine Calls.mono (read_num _ _ HD2.out (by have := HLL2.out; omega)) ?_
              rintro e w2 ⟨vd, rfl, hd, b2⟩
              replace oR := oR.gone b2
              replace B := B.trans (b2.mono B.size)
              clear b2
              rw [HDD.out] at hd
              have HBD : Bx (Bd 16384 (nDen l)) := bx (by rw [← HDD.out]; exact (Bd.ten (valD_lt HD2.out)).mono (by have := HLL2.out; omega))
              have HBN : Bx (Bd 16384 (nNum l)) := bx (by rw [← HNN.out]; exact (Bd.ten (valD_lt HD1.out)).mono (by rw [List.length_drop, List.length_take]; omega))
              rcases Nat.eq_zero_or_pos (nDen l) with hd0 | hd0
              · obtain ⟨Ad, cd, rfl, _⟩ := id hd
                have hdl : (digs b32 (nDen l)).length = 0 := by rw [hd0]; rfl
                rw [hdl]
                have HX := bx hd0
                clear hd hd0 hdl
                go_wp2_with fail
                refine Calls.mono (HI.out _) ?_
                rintro e w3 ⟨vr, rfl, hr, b3⟩
                replace oR := oR.gone b3
                replace B := B.trans (b3.mono B.size)
                clear b3
                obtain ⟨vr1, vr2, rfl, hra, hrb⟩ := id hr
                obtain ⟨Ar1, cr1, rfl, _⟩ := id hra
                obtain ⟨Ar2, cr2, rfl, _⟩ := id hrb
                have k1 := oR.cell (i := 0) rfl
                have k2 := oR.fz 0
                have k3 := oR.cell (i := 1) rfl
                have k4 := oR.fz 1
                have k5 := oR.cell (i := 2) rfl
                have k6 := oR.fz 2
                go_wp2
                obtain ⟨wf, HW, ho, _, hN, hBf, _⟩ := oR.put notInt_z3 [.bool (decide (q0.num < 0)), .slice Ar1 (digs b32 q0.num.natAbs).length cr1, .slice Ar2 (digs b32 q0.den).length cr2] rfl notInt3
                simp only [setAll, Nat.reduceAdd] at HW
                (try rw [HW])
                (try simp only [Exit.inBlock, Exit.then])
                have f0 := ho.cell (i := 0) rfl
                have f1 := ho.cell (i := 1) rfl
                have f2 := ho.cell (i := 2) rfl
                refine bodyPost_ret (by simp [results, Try.results8, go_sem, f0, f1, f2]; try rfl) rfl ?_
                have HB := hBf _ (by omega) B
                rw [HQ0.out] at *
                exact .inr ⟨⟨_, rfl, hr.into hN, HB⟩, fun h => h.1.2.2 HX.out⟩
              · obtain ⟨Ad, cd, rfl, _⟩ := id hd
                have hdl : (((digs b32 (nDen l)).length : Int) == 0) = false := beq_eq_false_iff_ne.2 (by have := (digs_length_pos (n := nDen l) two_le_b32).2 hd0; omega)
                have HDP := bx hd0
                have HPQ := bx (show redR ((A : Int) == 1) (nNum l) (nDen l) = nPQ l by unfold nPQ; rw [HA.out])
                have HSH := bx (show nShape l from ⟨HEA.out, fun _ => ⟨HG2.out, HSH0.out.2, HSH0.out.1⟩, by omega⟩)
                clear hd0
                have HX1 := bx (show (strOf l).extract A E = strOf ((l.take E).drop A) from strOf_extract l A E)
                have hll : ((l.take E).drop A).length ≤ 4096 := by rw [List.length_drop, List.length_take]; omega
                have HLL := bx hll
                have hAi : (A : Int) ≤ (E : Int) := by omega
                clear hll
                go_wp2_with fail
                rw [HX1.out]
                refine Calls.mono (read_num _ _ HD1.out (by have := HLL.out; omega)) ?_
                rintro e w3 ⟨vn, rfl, hn, b3⟩
                replace oR := oR.gone b3
                replace hd := hd.below b3
                replace B := B.trans (b3.mono B.size)
                clear b3
                rw [HNN.out] at hn
                go_wp2_with fail
                refine Calls.mono (made_num _ _ _ _ _ _ hn hd HDP.out HBN.out HBD.out (by omega)) ?_
                rintro e w4 ⟨vr, rfl, hr, b4⟩
                replace oR := oR.gone b4
                replace hd := hd.below b4
                replace hn := hn.below b4
                replace B := B.trans (b4.mono B.size)
                clear b4
                clear hn hd
                change IsRef _ _ (redR ((A : Int) == 1) (nNum l) (nDen l)) at hr
                rw [HPQ.out] at hr
                have HBQ := bx (show BdR 16384 (nPQ l) by rw [← HPQ.out]; exact redR_bd HDP.out HBN.out HBD.out)
                have HWT := bx (textR_wf (nPQ l))
                obtain ⟨q, hq⟩ : ∃ q, nPQ l = q := ⟨_, rfl⟩
                rw [hq] at hr HBQ HWT
                have HNQ := bx hq
                clear hq HPQ
                obtain ⟨vr1, vr2, rfl, hra, hrb⟩ := id hr
                obtain ⟨Ar1, cr1, rfl, _⟩ := id hra
                obtain ⟨Ar2, cr2, rfl, _⟩ := id hrb
                clear hra hrb
                obtain ⟨w5, e5, oX, b5, s5⟩ := layA w4 [.bool (decide (q.num < 0)), .slice Ar1 (digs b32 q.num.natAbs).length cr1, .slice Ar2 (digs b32 q.den).length cr2] 32
                replace oR := oR.gone b5
                replace hr := hr.below b5
                replace B := B.trans (b5.mono B.size)
                clear b5 s5
                have k1 := oX.cell (i := 0) rfl
                have k2 := oX.cell (i := 1) rfl
                have k3 := oX.cell (i := 2) rfl
                go_wp2_with fail
                clear e5 k1 k2 k3
                refine Calls.mono (ntext_num _ _ q hr HBQ.out (by omega)) ?_
                rintro e w6 ⟨rfl, b6⟩
                replace oR := oR.gone b6
                replace hr := hr.below b6
                replace oX := oX.gone b6
                replace B := B.trans (b6.mono B.size)
                clear b6
                by_cases hte : textR q = l
                · skip
                  have ht : ((strOf (textR q)).toList == (strOf l).toList) = true := by rw [hte]; simp
                  have hte := bx hte
                  have k4 := oX.cell (i := 0) rfl
                  have k5 := oX.cell (i := 1) rfl
                  have k6 := oX.cell (i := 2) rfl
                  have k7 := oR.cell (i := 0) rfl
                  have k8 := oR.fz 0
                  have k9 := oR.cell (i := 1) rfl
                  have k10 := oR.fz 1
                  have k11 := oR.cell (i := 2) rfl
                  have k12 := oR.fz 2
                  go_wp2
                  obtain ⟨wf, HW, ho, _, hN, hBf, _⟩ := oR.put notInt_z3 [.bool (decide (q.num < 0)), .slice Ar1 (digs b32 q.num.natAbs).length cr1, .slice Ar2 (digs b32 q.den).length cr2] rfl notInt3
                  simp only [setAll, Nat.reduceAdd] at HW
                  (try rw [HW])
                  (try simp only [Exit.inBlock, Exit.then])
                  have f0 := ho.cell (i := 0) rfl
                  have f1 := ho.cell (i := 1) rfl
                  have f2 := ho.cell (i := 2) rfl
                  refine bodyPost_ret (by simp [results, Try.results8, go_sem, f0, f1, f2]; try rfl) rfl ?_
                  have HB := hBf _ (by omega) B
                  exact .inl ⟨⟨_, rfl, by rw [HNQ.out]; exact hr.into hN, HB⟩, HSH.out, by rw [HNQ.out]; exact hte.out⟩
                · skip
                  have ht : ((strOf (textR q)).toList == (strOf l).toList) = false := beq_eq_false_iff_ne.2 (strOf_ne HWT.out HW.out hte)
                  have hte := bx hte
                  go_wp2_with fail
                  clear hr
                  refine Calls.mono (HI.out _) ?_
                  rintro e w7 ⟨vr, rfl, hr, b7⟩
                  replace oR := oR.gone b7
                  replace oX := oX.gone b7
                  replace B := B.trans (b7.mono B.size)
                  clear b7
                  obtain ⟨vr1, vr2, rfl, hra, hrb⟩ := id hr
                  obtain ⟨Ar1, cr1, rfl, _⟩ := id hra
                  obtain ⟨Ar2, cr2, rfl, _⟩ := id hrb
                  have k4 := oR.cell (i := 0) rfl
                  have k5 := oR.fz 0
                  have k6 := oR.cell (i := 1) rfl
                  have k7 := oR.fz 1
                  have k8 := oR.cell (i := 2) rfl
                  have k9 := oR.fz 2
                  go_wp2
                  obtain ⟨wf, HW, ho, _, hN, hBf, _⟩ := oR.put notInt_z3 [.bool (decide (q0.num < 0)), .slice Ar1 (digs b32 q0.num.natAbs).length cr1, .slice Ar2 (digs b32 q0.den).length cr2] rfl notInt3
                  simp only [setAll, Nat.reduceAdd] at HW
                  (try rw [HW])
                  (try simp only [Exit.inBlock, Exit.then])
                  have f0 := ho.cell (i := 0) rfl
                  have f1 := ho.cell (i := 1) rfl
                  have f2 := ho.cell (i := 2) rfl
                  refine bodyPost_ret (by simp [results, Try.results8, go_sem, f0, f1, f2]; try rfl) rfl ?_
                  have HB := hBf _ (by omega) B
                  rw [HQ0.out] at *
                  exact .inr ⟨⟨_, rfl, hr.into hN, HB⟩, fun h => hte.out (by rw [← HNQ.out]; exact h.2)⟩
          · skip
            have hel2 : ((E2 : Int) != (l.length : Int)) = true := bne_iff_ne.2 (by omega)
            have HX := bx (show numEnd l (nEnd l + 1) ≠ l.length by rw [HEN.out, HE2.out]; exact hEL2)
            clear hEL2
            go_wp2_with fail
            refine Calls.mono (HI.out _) ?_
            rintro e w2 ⟨vr, rfl, hr, b2⟩
            replace oR := oR.gone b2
            replace h6 := h6.below b2
            replace B := B.trans (b2.mono B.size)
            clear b2
            obtain ⟨vr1, vr2, rfl, hra, hrb⟩ := id hr
            obtain ⟨Ar1, cr1, rfl, _⟩ := id hra
            obtain ⟨Ar2, cr2, rfl, _⟩ := id hrb
            have k1 := oR.cell (i := 0) rfl
            have k2 := oR.fz 0
            have k3 := oR.cell (i := 1) rfl
            have k4 := oR.fz 1
            have k5 := oR.cell (i := 2) rfl
            have k6 := oR.fz 2
            go_wp2
            obtain ⟨wf, HW, ho, _, hN, hBf, _⟩ := oR.put notInt_z3 [.bool (decide (q0.num < 0)), .slice Ar1 (digs b32 q0.num.natAbs).length cr1, .slice Ar2 (digs b32 q0.den).length cr2] rfl notInt3
            simp only [setAll, Nat.reduceAdd] at HW
            (try rw [HW])
            (try simp only [Exit.inBlock, Exit.then])
            have f0 := ho.cell (i := 0) rfl
            have f1 := ho.cell (i := 1) rfl
            have f2 := ho.cell (i := 2) rfl
            refine bodyPost_ret (by simp [results, Try.results8, go_sem, f0, f1, f2]; try rfl) rfl ?_
            have HB := hBf _ (by omega) B
            rw [HQ0.out] at *
            exact .inr ⟨⟨_, rfl, hr.into hN, HB⟩, fun h => HX.out (h.1.2.1 HLT.out).2.1⟩
        · skip
          have hx47 : ((x : Int) != 47) = true := bne_iff_ne.2 (by omega)
          have HX := bx (show l.getD (nEnd l) 0 ≠ 47 by rw [HG.out]; exact h47)
          clear h47
          go_wp2_with fail
          refine Calls.mono (HI.out _) ?_
          rintro e w2 ⟨vr, rfl, hr, b2⟩
          replace oR := oR.gone b2
          replace h6 := h6.below b2
          replace B := B.trans (b2.mono B.size)
          clear b2
          obtain ⟨vr1, vr2, rfl, hra, hrb⟩ := id hr
          obtain ⟨Ar1, cr1, rfl, _⟩ := id hra
          obtain ⟨Ar2, cr2, rfl, _⟩ := id hrb
          have k1 := oR.cell (i := 0) rfl
          have k2 := oR.fz 0
          have k3 := oR.cell (i := 1) rfl
          have k4 := oR.fz 1
          have k5 := oR.cell (i := 2) rfl
          have k6 := oR.fz 2
          go_wp2
          obtain ⟨wf, HW, ho, _, hN, hBf, _⟩ := oR.put notInt_z3 [.bool (decide (q0.num < 0)), .slice Ar1 (digs b32 q0.num.natAbs).length cr1, .slice Ar2 (digs b32 q0.den).length cr2] rfl notInt3
          simp only [setAll, Nat.reduceAdd] at HW
          (try rw [HW])
          (try simp only [Exit.inBlock, Exit.then])
          have f0 := ho.cell (i := 0) rfl
          have f1 := ho.cell (i := 1) rfl
          have f2 := ho.cell (i := 2) rfl
          refine bodyPost_ret (by simp [results, Try.results8, go_sem, f0, f1, f2]; try rfl) rfl ?_
          have HB := hBf _ (by omega) B
          rw [HQ0.out] at *
          exact .inr ⟨⟨_, rfl, hr.into hN, HB⟩, fun h => HX.out (h.1.2.1 HLT.out).1⟩
      · have hel : ¬ (E : Int) < (l.length : Int) := by omega
        have HD1v := bx (show nDen l = 1 by unfold nDen; rw [if_neg (by rw [HEN.out]; exact hEL)])
        have HDP : Bx (0 < 1) := bx (by omega)
        have HBN : Bx (Bd 16384 (nNum l)) := bx (by rw [← HNN.out]; exact (Bd.ten (valD_lt HD1.out)).mono (by rw [List.length_drop, List.length_take]; omega))
        have HBD : Bx (Bd 16384 1) := bx (bd_one _ (by omega))
        have HPQ := bx (show redR ((A : Int) == 1) (nNum l) 1 = nPQ l by unfold nPQ; rw [HA.out, HD1v.out])
        have HSH := bx (show nShape l from ⟨HEA.out, fun h => absurd h (by rw [HEN.out]; exact hEL), by rw [HD1v.out]; omega⟩)
        obtain ⟨Ad, cd, rfl, _⟩ := id h6
        have hdl : (((digs b32 1).length : Int) == 0) = false := beq_eq_false_iff_ne.2 (by have := (digs_length_pos (n := 1) two_le_b32).2 (by omega); omega)
        clear hEL
        have HX1 := bx (show (strOf l).extract A E = strOf ((l.take E).drop A) from strOf_extract l A E)
        have hll : ((l.take E).drop A).length ≤ 4096 := by rw [List.length_drop, List.length_take]; omega
        have HLL := bx hll
        have hAi : (A : Int) ≤ (E : Int) := by omega
        clear hll
        go_wp2_with fail
        rw [HX1.out]
        refine Calls.mono (read_num _ _ HD1.out (by have := HLL.out; omega)) ?_
        rintro e w2 ⟨vn, rfl, hn, b2⟩
        replace oR := oR.gone b2
        replace h6 := h6.below b2
        replace B := B.trans (b2.mono B.size)
        clear b2
        rw [HNN.out] at hn
        go_wp2_with fail
        refine Calls.mono (made_num _ _ _ _ _ _ hn h6 HDP.out HBN.out HBD.out (by omega)) ?_
        rintro e w3 ⟨vr, rfl, hr, b3⟩
        replace oR := oR.gone b3
        replace h6 := h6.below b3
        replace hn := hn.below b3
        replace B := B.trans (b3.mono B.size)
        clear b3
        clear hn h6
        change IsRef _ _ (redR ((A : Int) == 1) (nNum l) 1) at hr
        rw [HPQ.out] at hr
        have HBQ := bx (show BdR 16384 (nPQ l) by rw [← HPQ.out]; exact redR_bd HDP.out HBN.out HBD.out)
        have HWT := bx (textR_wf (nPQ l))
        obtain ⟨q, hq⟩ : ∃ q, nPQ l = q := ⟨_, rfl⟩
        rw [hq] at hr HBQ HWT
        have HNQ := bx hq
        clear hq HPQ
        obtain ⟨vr1, vr2, rfl, hra, hrb⟩ := id hr
        obtain ⟨Ar1, cr1, rfl, _⟩ := id hra
        obtain ⟨Ar2, cr2, rfl, _⟩ := id hrb
        clear hra hrb
        obtain ⟨w4, e4, oX, b4, s4⟩ := layA w3 [.bool (decide (q.num < 0)), .slice Ar1 (digs b32 q.num.natAbs).length cr1, .slice Ar2 (digs b32 q.den).length cr2] 32
        replace oR := oR.gone b4
        replace hr := hr.below b4
        replace B := B.trans (b4.mono B.size)
        clear b4 s4
        have k1 := oX.cell (i := 0) rfl
        have k2 := oX.cell (i := 1) rfl
        have k3 := oX.cell (i := 2) rfl
        go_wp2_with fail
        clear e4 k1 k2 k3
        refine Calls.mono (ntext_num _ _ q hr HBQ.out (by omega)) ?_
        rintro e w5 ⟨rfl, b5⟩
        replace oR := oR.gone b5
        replace hr := hr.below b5
        replace oX := oX.gone b5
        replace B := B.trans (b5.mono B.size)
        clear b5
        by_cases hte : textR q = l
        · skip
          have ht : ((strOf (textR q)).toList == (strOf l).toList) = true := by rw [hte]; simp
          have hte := bx hte
          have k4 := oX.cell (i := 0) rfl
          have k5 := oX.cell (i := 1) rfl
          have k6 := oX.cell (i := 2) rfl
          have k7 := oR.cell (i := 0) rfl
          have k8 := oR.fz 0
          have k9 := oR.cell (i := 1) rfl
          have k10 := oR.fz 1
          have k11 := oR.cell (i := 2) rfl
          have k12 := oR.fz 2
          go_wp2
          obtain ⟨wf, HW, ho, _, hN, hBf, _⟩ := oR.put notInt_z3 [.bool (decide (q.num < 0)), .slice Ar1 (digs b32 q.num.natAbs).length cr1, .slice Ar2 (digs b32 q.den).length cr2] rfl notInt3
          simp only [setAll, Nat.reduceAdd] at HW
          (try rw [HW])
          (try simp only [Exit.inBlock, Exit.then])
          have f0 := ho.cell (i := 0) rfl
          have f1 := ho.cell (i := 1) rfl
          have f2 := ho.cell (i := 2) rfl
          refine bodyPost_ret (by simp [results, Try.results8, go_sem, f0, f1, f2]; try rfl) rfl ?_
          have HB := hBf _ (by omega) B
          exact .inl ⟨⟨_, rfl, by rw [HNQ.out]; exact hr.into hN, HB⟩, HSH.out, by rw [HNQ.out]; exact hte.out⟩
        · skip
          have ht : ((strOf (textR q)).toList == (strOf l).toList) = false := beq_eq_false_iff_ne.2 (strOf_ne HWT.out HW.out hte)
          have hte := bx hte
          go_wp2_with fail
          clear hr
          refine Calls.mono (HI.out _) ?_
          rintro e w6 ⟨vr, rfl, hr, b6⟩
          replace oR := oR.gone b6
          replace oX := oX.gone b6
          replace B := B.trans (b6.mono B.size)
          clear b6
          obtain ⟨vr1, vr2, rfl, hra, hrb⟩ := id hr
          obtain ⟨Ar1, cr1, rfl, _⟩ := id hra
          obtain ⟨Ar2, cr2, rfl, _⟩ := id hrb
          have k4 := oR.cell (i := 0) rfl
          have k5 := oR.fz 0
          have k6 := oR.cell (i := 1) rfl
          have k7 := oR.fz 1
          have k8 := oR.cell (i := 2) rfl
          have k9 := oR.fz 2
          go_wp2
          obtain ⟨wf, HW, ho, _, hN, hBf, _⟩ := oR.put notInt_z3 [.bool (decide (q0.num < 0)), .slice Ar1 (digs b32 q0.num.natAbs).length cr1, .slice Ar2 (digs b32 q0.den).length cr2] rfl notInt3
          simp only [setAll, Nat.reduceAdd] at HW
          (try rw [HW])
          (try simp only [Exit.inBlock, Exit.then])
          have f0 := ho.cell (i := 0) rfl
          have f1 := ho.cell (i := 1) rfl
          have f2 := ho.cell (i := 2) rfl
          refine bodyPost_ret (by simp [results, Try.results8, go_sem, f0, f1, f2]; try rfl) rfl ?_
          have HB := hBf _ (by omega) B
          rw [HQ0.out] at *
          exact .inr ⟨⟨_, rfl, hr.into hN, HB⟩, fun h => hte.out (by rw [← HNQ.out]; exact h.2)⟩
end Wx
