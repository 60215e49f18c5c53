import Derived.Test.YtioicklnneebnaaProg
import Derived.Handy
import Derived.Deep.DeepCutAuto
import Derived.Test.YtioicklnneebnaaPlain1
import Derived.Test.YtioicklnneebnaaMem
import Derived.Test.YtioicklnneebnaaJDivs3
import Derived.Test.YtioicklnneebnaaCRat1
import Derived.Test.YtioicklnneebnaaCRat2
import Derived.Test.YtioicklnneebnaaJDivs17
import Derived.Test.YtioicklnneebnaaCRat3
import Derived.Test.YtioicklnneebnaaJDivs19
import Derived.Test.YtioicklnneebnaaCSame
import Derived.Test.YtioicklnneebnaaJDivs21
import Derived.Test.YtioicklnneebnaaInv
import Derived.Test.YtioicklnneebnaaJDivs23
import Derived.Test.YtioicklnneebnaaJDivs33
import Derived.Test.YtioicklnneebnaaJDivs40
import Derived.Test.YtioicklnneebnaaCNRat2
import Derived.Test.YtioicklnneebnaaCNRat3
import Derived.Test.YtioicklnneebnaaCNRDiv
import Derived.Test.YtioicklnneebnaaJDivs44
import Derived.Test.YtioicklnneebnaaJDivs46
import Derived.Test.YtioicklnneebnaaCNPower
namespace Wx
open Go Go.RowKit Go.Proofs

theorem bd_zero0 (j : Nat) (h : 0 < j) : BdR j 0 := ⟨by show Bd _ 0; unfold Bd; exact Nat.two_pow_pos _, by show Bd _ 1; unfold Bd; exact Nat.one_lt_two_pow (by omega)⟩
def TupRt (w : World) (X : Value) (u : Rat) (err : Int) : Prop := ∃ v, X = .tuple #[v, .int .i64 err] ∧ IsRat w v u
theorem TupRt.below {w w' : World} {X : Value} {u : Rat} {err : Int} (h : TupRt w X u err) (hb : Below w.heap.size w w') : TupRt w' X u err := by
  obtain ⟨v, e, h1⟩ := h
  exact ⟨v, e, h1.below hb⟩
theorem TupRt.into {w w' : World} {X : Value} {u : Rat} {err : Int} (h : TupRt w X u err) (hn : ∀ (kd : IntKind) (b : Nat) (v : Value) (m : Nat), Num kd b w v m → Num kd b w' v m) : TupRt w' X u err := by
  obtain ⟨v, e, h1⟩ := h
  exact ⟨v, e, h1.into hn⟩
def TupRf (w : World) (X : Value) (u : Rat) (err : Int) : Prop := ∃ v, X = .tuple #[v, .int .i64 err] ∧ IsRef w v u
theorem TupRf.below {w w' : World} {X : Value} {u : Rat} {err : Int} (h : TupRf w X u err) (hb : Below w.heap.size w w') : TupRf w' X u err := by
  obtain ⟨v, e, h1⟩ := h
  exact ⟨v, e, h1.below hb⟩
theorem TupRf.into {w w' : World} {X : Value} {u : Rat} {err : Int} (h : TupRf w X u err) (hn : ∀ (kd : IntKind) (b : Nat) (v : Value) (m : Nat), Num kd b w v m → Num kd b w' v m) : TupRf w' X u err := by
  obtain ⟨v, e, h1⟩ := h
  exact ⟨v, e, h1.into hn⟩
set_option maxRecDepth 100000 in
def DvsI (w0 : World) (Bs : Nat) (x y u : Rat) (er n1 d1 n2 d2 : Int)  (u0 u1 u2 u3 u4 u5 u6 u9 u10 u11 u12 u13 u14 u15 u16 u17 u18 u19 u20 u21 u22 u31 u32 u33 u34 u35 u36 u37 u38 u39 u40 u41 u42 u43 u44 u45 u46 u47 u48 u49 u50 u51 u52 u53 u54 u55 u56 u57 u58 u59 u60 u61 u62 u63 u64 u65 u66 u67 u68 u69 u70 u71 u72 u73 : Value) (L : Nat → Bool) (a : Act) (w : World) : Prop :=
  ∃ x7 x8 x23 x24 x25 x26 x27 x28 x29 x30 : Value, a = ⟨(List.toArray (u0 :: u1 :: u2 :: u3 :: u4 :: u5 :: u6 :: x7 :: x8 :: u9 :: u10 :: u11 :: u12 :: u13 :: u14 :: u15 :: u16 :: u17 :: u18 :: u19 :: u20 :: u21 :: u22 :: x23 :: x24 :: x25 :: x26 :: x27 :: x28 :: x29 :: x30 :: u31 :: u32 :: u33 :: u34 :: u35 :: u36 :: u37 :: u38 :: u39 :: u40 :: u41 :: u42 :: u43 :: u44 :: u45 :: u46 :: u47 :: u48 :: u49 :: u50 :: u51 :: u52 :: u53 :: u54 :: u55 :: u56 :: u57 :: u58 :: u59 :: u60 :: u61 :: u62 :: u63 :: u64 :: u65 :: u66 :: u67 :: u68 :: u69 :: u70 :: u71 :: u72 :: u73 :: [])), []⟩ ∧ (HeldQ w0 [(w0.heap.size, [.int .i64 n1, .int .i64 d1], 39), (w0.heap.size + 1, [.int .i64 n2, .int .i64 d2], 39)] w ∧ Bs ≤ w.heap.size) ∧ (L 9 = true → L 8 = true) ∧
    (L 0 = true → x24 = .agg #[.int .i64 n1, .int .i64 d1]) ∧
    (L 1 = true → IsRat w x25 x) ∧
    (L 2 = true → x26 = .agg #[.int .i64 n2, .int .i64 d2]) ∧
    (L 3 = true → IsRat w x27 y) ∧
    (L 4 = true → TupRt w x28 u er) ∧
    (L 5 = true → TupRt w x23 u er) ∧
    (L 6 = true → IsRat w x29 u) ∧
    (L 7 = true → x30 = .int .i64 er) ∧
    (L 8 = true → VarR Bs w x7 (L 9) [.bool false, .slice none 0 0, .slice none 0 0] 26 (fun w v => IsRat w v u)) ∧
    (L 10 = true → x8 = .int .i64 er)
set_option maxRecDepth 100000 in
def DvsJ (w0 : World) (Bs : Nat) (x y u : Rat) (er n1 d1 n2 d2 : Int) (gx : Nat) (Ax1 Ax2 : Option Addr) (cx1 cx2 : Nat) (u0 u1 u2 u3 u4 u5 u6 u7 u8 u11 u12 u13 u14 u15 u16 u17 u18 u19 u20 u21 u22 u23 u24 u25 u26 u27 u28 u29 u30 u39 u40 u41 u42 u43 u44 u45 u46 u47 u48 u49 u50 u51 u52 u53 u54 u55 u56 u57 u58 u59 u60 u61 u62 u63 u64 u65 u66 u67 u68 u69 u70 u71 u72 u73 : Value) (L : Nat → Bool) (a : Act) (w : World) : Prop :=
  ∃ x9 x10 x31 x32 x33 x34 x35 x36 x37 x38 : Value, a = ⟨(List.toArray (u0 :: u1 :: u2 :: u3 :: u4 :: u5 :: u6 :: u7 :: u8 :: x9 :: x10 :: u11 :: u12 :: u13 :: u14 :: u15 :: u16 :: u17 :: u18 :: u19 :: u20 :: u21 :: u22 :: u23 :: u24 :: u25 :: u26 :: u27 :: u28 :: u29 :: u30 :: x31 :: x32 :: x33 :: x34 :: x35 :: x36 :: x37 :: x38 :: u39 :: u40 :: u41 :: u42 :: u43 :: u44 :: u45 :: u46 :: u47 :: u48 :: u49 :: u50 :: u51 :: u52 :: u53 :: u54 :: u55 :: u56 :: u57 :: u58 :: u59 :: u60 :: u61 :: u62 :: u63 :: u64 :: u65 :: u66 :: u67 :: u68 :: u69 :: u70 :: u71 :: u72 :: u73 :: [])), []⟩ ∧ (HeldQ w0 [(w0.heap.size, [.int .i64 n1, .int .i64 d1], 39), (w0.heap.size + 1, [.int .i64 n2, .int .i64 d2], 39), (gx, [.bool (decide (u.num < 0)), .slice Ax1 (digs b64 u.num.natAbs).length cx1, .slice Ax2 (digs b64 (denOf u.den)).length cx2], 26)] w ∧ Bs ≤ w.heap.size ∧ IsRat w (.agg #[.bool (decide (u.num < 0)), .slice Ax1 (digs b64 u.num.natAbs).length cx1, .slice Ax2 (digs b64 (denOf u.den)).length cx2]) u) ∧ (L 9 = true → L 8 = true) ∧
    (L 0 = true → x32 = .agg #[.int .i64 n1, .int .i64 d1]) ∧
    (L 1 = true → IsRef w x33 x) ∧
    (L 2 = true → x34 = .agg #[.int .i64 n2, .int .i64 d2]) ∧
    (L 3 = true → IsRef w x35 y) ∧
    (L 4 = true → TupRf w x36 u er) ∧
    (L 5 = true → TupRf w x31 u er) ∧
    (L 6 = true → IsRef w x37 u) ∧
    (L 7 = true → x38 = .int .i64 er) ∧
    (L 8 = true → VarR Bs w x9 (L 9) [.bool false, .slice none 0 0, .slice none 0 0] 32 (fun w v => IsRef w v u)) ∧
    (L 10 = true → x10 = .int .i64 er)

set_option maxRecDepth 100000 in
set_option maxHeartbeats 40000000 in
theorem divs_walk (w0 : World) (n1 d1 n2 d2 n : Int) (x y u p : Rat) (er ep : Int)
    (HO1R : Bx (∀ w, Calls Try.prog 11 #[.agg #[.int .i64 n1, .int .i64 d1]] w (RetRat w x))) (HO2R : Bx (∀ w, Calls Try.prog 11 #[.agg #[.int .i64 n2, .int .i64 d2]] w (RetRat w y)))
    (HO1F : Bx (∀ w, Calls Try.prog 14 #[.agg #[.int .i64 n1, .int .i64 d1]] w (RetRef w x))) (HO2F : Bx (∀ w, Calls Try.prog 14 #[.agg #[.int .i64 n2, .int .i64 d2]] w (RetRef w y)))
    (HDVR : Bx (∀ w vx vy, IsRat w vx x → IsRat w vy y → Calls Try.prog 12 #[vx, vy] w (RetRE w u er))) (HDVF : Bx (∀ w vx vy, IsRef w vx x → IsRef w vy y → Calls Try.prog 13 #[vx, vy] w (RetFE w u er)))
    (m : Int) (hm : Bx (m = if 12 < n ∧ n ≤ 64 then n % 13 else n)) (hn1 : -9223372036854775808 ≤ n) (hn2 : n ≤ 9223372036854775807)
    (HPWR : Bx (∀ w vx, IsRat w vx x → Calls Try.prog 15 #[vx, .int .i64 m] w (RetRE w p ep))) (HPWF : Bx (∀ w vx, IsRef w vx x → Calls Try.prog 16 #[vx, .int .i64 m] w (RetFE w p ep)))
    (HU : Bx (BdR 10000 u)) (HP : Bx (BdR 10000 p)) : Calls Try.prog 4 #[.agg #[.int .i64 n1, .int .i64 d1], .agg #[.int .i64 n2, .int .i64 d2], .int .i64 n] w0 (RetIs w0 (.bool true)) := by
  go_enter Try.func4, Try.ntmps4
  go_upto_region 1 with (fail)
  obtain ⟨b, hb⟩ : ∃ b, b = decide (12 < n ∧ n ≤ 64) := ⟨_, rfl⟩
  have HBV := bx hb
  clear hb
  go_cut [3, 4, 20] (fun v3 v4 v20 wx => v20 = .bool b ∧ v3 = .pointer (some ⟨w0.heap.size, 0, none⟩) ∧ v4 = .pointer (some ⟨w0.heap.size + 1, 0, none⟩) ∧ ObjA wx w0.heap.size [.int .i64 n1, .int .i64 d1] 39 ∧ ObjA wx (w0.heap.size + 1) [.int .i64 n2, .int .i64 d2] 39 ∧ Below w0.heap.size w0 wx)
  case first =>
    obtain ⟨w1, e1, o1, b1, s1⟩ := layA w0 [.int .i64 n1, .int .i64 d1] 39
    obtain ⟨w2, e2, o2, b2, s2⟩ := layA w1 [.int .i64 n2, .int .i64 d2] 39
    rw [s1] at o2
    have B := b1.trans (b2.mono b1.size)
    have o1 := o1.gone b2
    clear b1 b2 s1 s2
    by_cases h12 : 12 < n
    · by_cases h64 : n ≤ 64
      · have hb : b = true := by rw [HBV.out]; exact decide_eq_true ⟨h12, h64⟩
        subst hb
        go_wp2
        go_meet
        case rel => exact ⟨rfl, rfl, rfl, o1, o2, B⟩
      · have hb : b = false := by rw [HBV.out]; exact decide_eq_false (fun h => h64 h.2)
        subst hb
        go_wp2
        go_meet
        case rel => exact ⟨rfl, rfl, rfl, o1, o2, B⟩
    · have hb : b = false := by rw [HBV.out]; exact decide_eq_false (fun h => h12 h.1)
      subst hb
      go_wp2
      go_meet
      case rel => exact ⟨rfl, rfl, rfl, o1, o2, B⟩
  case rest =>
    obtain ⟨rfl, rfl, rfl, oA, oB, B⟩ := hcut
    go_upto_if 20 with fail
    go_cut [2] (fun v2 wx => v2 = .int .i64 m ∧ wx = wc)
    case first =>
      have hmo := hm.out
      cases b with
      | true =>
        have hd := of_decide_eq_true HBV.out.symm
        rw [if_pos hd] at hmo
        have HM := bx hmo
        have h12 : 12 < n := hd.1
        have h64 : n ≤ 64 := hd.2
        clear hmo hd
        go_wp2
        go_meet
        case rel => exact ⟨by rw [HM.out], rfl⟩
      | false =>
        have hd := of_decide_eq_false HBV.out.symm
        rw [if_neg hd] at hmo
        subst hmo
        clear hd
        go_wp2
        go_meet
        case rel => exact ⟨rfl, rfl⟩
    obtain ⟨rfl, rfl⟩ := hcut
    clear hm hn1 hn2
    have hq : HeldQ w0 [(w0.heap.size, [.int .i64 n1, .int .i64 d1], 39), (w0.heap.size + 1, [.int .i64 n2, .int .i64 d2], 39)] wc := ⟨B, by intro r hr; simp at hr; rcases hr with rfl | rfl; exact oA; exact oB⟩
    clear oA oB B
    have HLT := bx hq.lts
    have HB0 := bx hq.1.size
    go_wp2_with fail
    refine region_inv_all (by kernel_rfl) (by kernel_rfl) (DvsI w0 wc.heap.size x y u er n1 d1 n2 d2  _ _ _ _ _ _ _ _ _ _ _ _ _ _ _ _ _ _ _ _ _ _ _ _ _ _ _ _ _ _ _ _ _ _ _ _ _ _ _ _ _ _ _ _ _ _ _ _ _ _ _ _ _ _ _ _ _ _ _ _ _ _ _ _) ⟨_, _, _, _, _, _, _, _, _, _, rfl, ⟨hq.drew, Nat.le_refl _⟩, by simp, by simp, by simp, by simp, by simp, by simp, by simp, by simp, by simp, by simp, by simp⟩ ?_ ?_
    · refine ⟨?_, ?_, ?_, ?_, ?_, ?_, ?_, ?_, ?_, ?_, ?_, trivial⟩
      · rintro L a wz ⟨x7, x8, x23, x24, x25, x26, x27, x28, x29, x30, rfl, ⟨q, bs⟩, nst, h0, h1, h2, h3, h4, h5, h6, h7, h8, h10⟩ hno hpre
        have c0 := (q.at_ (p := (w0.heap.size, [.int .i64 n1, .int .i64 d1], 39)) (by simp)).cell (i := 0) rfl
        have c1 := (q.at_ (p := (w0.heap.size, [.int .i64 n1, .int .i64 d1], 39)) (by simp)).cell (i := 1) rfl
        go_wp2
        exact ⟨_, _, _, _, _, _, _, _, _, _, rfl, ⟨q, bs⟩, fun h => by rw [upd_ne (by decide)] at h ⊢; exact nst h, fun _ => rfl, fun h => h1 (upd_of h (by decide)), fun h => (by first | exact h2 (upd_of h (by decide)) | rfl), fun h => h3 (upd_of h (by decide)), fun h => h4 (upd_of h (by decide)), fun h => h5 (upd_of h (by decide)), fun h => h6 (upd_of h (by decide)), fun h => (by first | exact h7 (upd_of h (by decide)) | rfl), fun h => by rw [upd_ne (by decide)]; exact h8 (upd_of h (by decide)), fun h => (by first | exact h10 (upd_of h (by decide)) | rfl)⟩
      · rintro L a wz ⟨x7, x8, x23, x24, x25, x26, x27, x28, x29, x30, rfl, ⟨q, bs⟩, nst, h0, h1, h2, h3, h4, h5, h6, h7, h8, h10⟩ hno hpre
        have q0 := h0 (hpre 0 (by decide))
        subst q0
        go_wp2_with fail
        refine Calls.mono (HO1R.out wz) ?_
        rintro e wy ⟨v, rfl, hv, hb⟩
        go_wp2
        exact ⟨_, _, _, _, _, _, _, _, _, _, rfl, ⟨HeldQ.call (And.intro q trivial) hb, Nat.le_trans bs hb.size⟩, fun h => by rw [upd_ne (by decide)] at h ⊢; exact nst h, fun h => (by first | exact h0 (upd_of h (by decide)) | rfl), fun _ => hv, fun h => (by first | exact h2 (upd_of h (by decide)) | rfl), fun h => (h3 (upd_of h (by decide))).below hb, fun h => (h4 (upd_of h (by decide))).below hb, fun h => (h5 (upd_of h (by decide))).below hb, fun h => (h6 (upd_of h (by decide))).below hb, fun h => (by first | exact h7 (upd_of h (by decide)) | rfl), fun h => by rw [upd_ne (by decide)]; exact (h8 (upd_of h (by decide))).gone hb (fun _ hv => hv.below hb), fun h => (by first | exact h10 (upd_of h (by decide)) | rfl)⟩
      · rintro L a wz ⟨x7, x8, x23, x24, x25, x26, x27, x28, x29, x30, rfl, ⟨q, bs⟩, nst, h0, h1, h2, h3, h4, h5, h6, h7, h8, h10⟩ hno hpre
        have c0 := (q.at_ (p := (w0.heap.size + 1, [.int .i64 n2, .int .i64 d2], 39)) (by simp)).cell (i := 0) rfl
        have c1 := (q.at_ (p := (w0.heap.size + 1, [.int .i64 n2, .int .i64 d2], 39)) (by simp)).cell (i := 1) rfl
        go_wp2
        exact ⟨_, _, _, _, _, _, _, _, _, _, rfl, ⟨q, bs⟩, fun h => by rw [upd_ne (by decide)] at h ⊢; exact nst h, fun h => (by first | exact h0 (upd_of h (by decide)) | rfl), fun h => h1 (upd_of h (by decide)), fun _ => rfl, fun h => h3 (upd_of h (by decide)), fun h => h4 (upd_of h (by decide)), fun h => h5 (upd_of h (by decide)), fun h => h6 (upd_of h (by decide)), fun h => (by first | exact h7 (upd_of h (by decide)) | rfl), fun h => by rw [upd_ne (by decide)]; exact h8 (upd_of h (by decide)), fun h => (by first | exact h10 (upd_of h (by decide)) | rfl)⟩
      · rintro L a wz ⟨x7, x8, x23, x24, x25, x26, x27, x28, x29, x30, rfl, ⟨q, bs⟩, nst, h0, h1, h2, h3, h4, h5, h6, h7, h8, h10⟩ hno hpre
        have q2 := h2 (hpre 2 (by decide))
        subst q2
        go_wp2_with fail
        refine Calls.mono (HO2R.out wz) ?_
        rintro e wy ⟨v, rfl, hv, hb⟩
        go_wp2
        exact ⟨_, _, _, _, _, _, _, _, _, _, rfl, ⟨HeldQ.call (And.intro q trivial) hb, Nat.le_trans bs hb.size⟩, fun h => by rw [upd_ne (by decide)] at h ⊢; exact nst h, fun h => (by first | exact h0 (upd_of h (by decide)) | rfl), fun h => (h1 (upd_of h (by decide))).below hb, fun h => (by first | exact h2 (upd_of h (by decide)) | rfl), fun _ => hv, fun h => (h4 (upd_of h (by decide))).below hb, fun h => (h5 (upd_of h (by decide))).below hb, fun h => (h6 (upd_of h (by decide))).below hb, fun h => (by first | exact h7 (upd_of h (by decide)) | rfl), fun h => by rw [upd_ne (by decide)]; exact (h8 (upd_of h (by decide))).gone hb (fun _ hv => hv.below hb), fun h => (by first | exact h10 (upd_of h (by decide)) | rfl)⟩
      · rintro L a wz ⟨x7, x8, x23, x24, x25, x26, x27, x28, x29, x30, rfl, ⟨q, bs⟩, nst, h0, h1, h2, h3, h4, h5, h6, h7, h8, h10⟩ hno hpre
        have q1 := h1 (hpre 1 (by decide))
        have q3 := h3 (hpre 3 (by decide))
        go_wp2_with fail
        refine Calls.mono (HDVR.out wz _ _ q1 q3) ?_
        rintro e wy ⟨v, rfl, hv, hb⟩
        go_wp2
        exact ⟨_, _, _, _, _, _, _, _, _, _, rfl, ⟨HeldQ.call (And.intro q trivial) hb, Nat.le_trans bs hb.size⟩, fun h => by rw [upd_ne (by decide)] at h ⊢; exact nst h, fun h => (by first | exact h0 (upd_of h (by decide)) | rfl), fun h => (h1 (upd_of h (by decide))).below hb, fun h => (by first | exact h2 (upd_of h (by decide)) | rfl), fun h => (h3 (upd_of h (by decide))).below hb, fun _ => ⟨_, rfl, hv⟩, fun h => (h5 (upd_of h (by decide))).below hb, fun h => (h6 (upd_of h (by decide))).below hb, fun h => (by first | exact h7 (upd_of h (by decide)) | rfl), fun h => by rw [upd_ne (by decide)]; exact (h8 (upd_of h (by decide))).gone hb (fun _ hv => hv.below hb), fun h => (by first | exact h10 (upd_of h (by decide)) | rfl)⟩
      · rintro L a wz ⟨x7, x8, x23, x24, x25, x26, x27, x28, x29, x30, rfl, ⟨q, bs⟩, nst, h0, h1, h2, h3, h4, h5, h6, h7, h8, h10⟩ hno hpre
        have q4 := h4 (hpre 4 (by decide))
        go_wp2
        exact ⟨_, _, _, _, _, _, _, _, _, _, rfl, ⟨q, bs⟩, fun h => by rw [upd_ne (by decide)] at h ⊢; exact nst h, fun h => (by first | exact h0 (upd_of h (by decide)) | rfl), fun h => h1 (upd_of h (by decide)), fun h => (by first | exact h2 (upd_of h (by decide)) | rfl), fun h => h3 (upd_of h (by decide)), fun h => h4 (upd_of h (by decide)), fun _ => q4, fun h => h6 (upd_of h (by decide)), fun h => (by first | exact h7 (upd_of h (by decide)) | rfl), fun h => by rw [upd_ne (by decide)]; exact h8 (upd_of h (by decide)), fun h => (by first | exact h10 (upd_of h (by decide)) | rfl)⟩
      · rintro L a wz ⟨x7, x8, x23, x24, x25, x26, x27, x28, x29, x30, rfl, ⟨q, bs⟩, nst, h0, h1, h2, h3, h4, h5, h6, h7, h8, h10⟩ hno hpre
        obtain ⟨v, rfl, hv⟩ := h5 (hpre 5 (by decide))
        go_wp2
        exact ⟨_, _, _, _, _, _, _, _, _, _, rfl, ⟨q, bs⟩, fun h => by rw [upd_ne (by decide)] at h ⊢; exact nst h, fun h => (by first | exact h0 (upd_of h (by decide)) | rfl), fun h => h1 (upd_of h (by decide)), fun h => (by first | exact h2 (upd_of h (by decide)) | rfl), fun h => h3 (upd_of h (by decide)), fun h => h4 (upd_of h (by decide)), fun h => h5 (upd_of h (by decide)), fun _ => hv, fun h => (by first | exact h7 (upd_of h (by decide)) | rfl), fun h => by rw [upd_ne (by decide)]; exact h8 (upd_of h (by decide)), fun h => (by first | exact h10 (upd_of h (by decide)) | rfl)⟩
      · rintro L a wz ⟨x7, x8, x23, x24, x25, x26, x27, x28, x29, x30, rfl, ⟨q, bs⟩, nst, h0, h1, h2, h3, h4, h5, h6, h7, h8, h10⟩ hno hpre
        obtain ⟨v, rfl, _⟩ := h5 (hpre 5 (by decide))
        go_wp2
        exact ⟨_, _, _, _, _, _, _, _, _, _, rfl, ⟨q, bs⟩, fun h => by rw [upd_ne (by decide)] at h ⊢; exact nst h, fun h => (by first | exact h0 (upd_of h (by decide)) | rfl), fun h => h1 (upd_of h (by decide)), fun h => (by first | exact h2 (upd_of h (by decide)) | rfl), fun h => h3 (upd_of h (by decide)), fun h => h4 (upd_of h (by decide)), fun h => h5 (upd_of h (by decide)), fun h => h6 (upd_of h (by decide)), fun _ => rfl, fun h => by rw [upd_ne (by decide)]; exact h8 (upd_of h (by decide)), fun h => (by first | exact h10 (upd_of h (by decide)) | rfl)⟩
      · rintro L a wz ⟨x7, x8, x23, x24, x25, x26, x27, x28, x29, x30, rfl, ⟨q, bs⟩, nst, h0, h1, h2, h3, h4, h5, h6, h7, h8, h10⟩ hno hpre
        have e9 : L 9 = false := by
          cases h : L 9 with
          | false => rfl
          | true => have h2 := nst h; rw [hno] at h2; cases h2
        have hb := below_alloc wz #[.bool false, .slice none 0 0, .slice none 0 0] 26
        go_wp2
        exact ⟨_, _, _, _, _, _, _, _, _, _, rfl, ⟨HeldQ.call (And.intro q trivial) hb, Nat.le_trans bs hb.size⟩, fun _ => upd_self _ _, fun h => (by first | exact h0 (upd_of h (by decide)) | rfl), fun h => (h1 (upd_of h (by decide))).below hb, fun h => (by first | exact h2 (upd_of h (by decide)) | rfl), fun h => (h3 (upd_of h (by decide))).below hb, fun h => (h4 (upd_of h (by decide))).below hb, fun h => (h5 (upd_of h (by decide))).below hb, fun h => (h6 (upd_of h (by decide))).below hb, fun h => (by first | exact h7 (upd_of h (by decide)) | rfl), fun _ => by rw [upd_ne (by decide), e9]; exact VarR.new bs, fun h => (by first | exact h10 (upd_of h (by decide)) | rfl)⟩
      · rintro L a wz ⟨x7, x8, x23, x24, x25, x26, x27, x28, x29, x30, rfl, ⟨q, bs⟩, nst, h0, h1, h2, h3, h4, h5, h6, h7, h8, h10⟩ hno hpre
        have hv := h8 (hpre 8 (by decide))
        rw [hno] at hv
        obtain ⟨g, rfl, hgB, og⟩ := hv.zero
        have hs := h6 (hpre 6 (by decide))
        obtain ⟨vs1, vs2, rfl, hsa, hsb⟩ := id hs
        obtain ⟨As1, cs1, rfl, _⟩ := id hsa
        obtain ⟨As2, cs2, rfl, _⟩ := id hsb
        have k0 := og.cell (i := 0) rfl
        have f0 := og.fz 0
        have k1 := og.cell (i := 1) rfl
        have f1 := og.fz 1
        have k2 := og.cell (i := 2) rfl
        have f2 := og.fz 2
        go_wp2
        obtain ⟨wf, HW, oA, hq2, fA, hN⟩ := q.write og HLT.out hgB HB0.out notInt_z3 (vs := [.bool (decide (u.num < 0)), .slice As1 (digs b64 u.num.natAbs).length cs1, .slice As2 (digs b64 (denOf u.den)).length cs2]) rfl notInt3
        simp only [setAll, Nat.reduceAdd] at HW
        rw [HW]
        have hsz : wf.heap.size = wz.heap.size := by rw [← HW]; simp [World.setCell]
        exact ⟨_, _, _, _, _, _, _, _, _, _, rfl, ⟨(by have _t := q; exact hq2), (by rw [hsz]; exact bs)⟩, fun _ => by rw [upd_ne (by decide)]; exact hpre 8 (by decide), fun h => (by first | exact h0 (upd_of h (by decide)) | rfl), fun h => (h1 (upd_of h (by decide))).into hN, fun h => (by first | exact h2 (upd_of h (by decide)) | rfl), fun h => (h3 (upd_of h (by decide))).into hN, fun h => (h4 (upd_of h (by decide))).into hN, fun h => (h5 (upd_of h (by decide))).into hN, fun h => (h6 (upd_of h (by decide))).into hN, fun h => (by first | exact h7 (upd_of h (by decide)) | rfl), fun _ => by rw [upd_self]; exact VarR.set oA hgB (hs.into hN), fun h => (by first | exact h10 (upd_of h (by decide)) | rfl)⟩
      · rintro L a wz ⟨x7, x8, x23, x24, x25, x26, x27, x28, x29, x30, rfl, ⟨q, bs⟩, nst, h0, h1, h2, h3, h4, h5, h6, h7, h8, h10⟩ hno hpre
        have q7 := h7 (hpre 7 (by decide))
        subst q7
        go_wp2
        exact ⟨_, _, _, _, _, _, _, _, _, _, rfl, ⟨q, bs⟩, fun h => by rw [upd_ne (by decide)] at h ⊢; exact nst h, fun h => (by first | exact h0 (upd_of h (by decide)) | rfl), fun h => h1 (upd_of h (by decide)), fun h => (by first | exact h2 (upd_of h (by decide)) | rfl), fun h => h3 (upd_of h (by decide)), fun h => h4 (upd_of h (by decide)), fun h => h5 (upd_of h (by decide)), fun h => h6 (upd_of h (by decide)), fun h => (by first | exact h7 (upd_of h (by decide)) | rfl), fun h => by rw [upd_ne (by decide)]; exact h8 (upd_of h (by decide)), fun _ => rfl⟩
    · intro L a wz hI hall
      obtain ⟨x7, x8, x23, x24, x25, x26, x27, x28, x29, x30, rfl, ⟨q, bs⟩, nst, h0, h1, h2, h3, h4, h5, h6, h7, h8, h10⟩ := hI
      have hv := h8 (hall 8 (by decide))
      rw [hall 9 (by decide)] at hv
      obtain ⟨gx, cs, rfl, hgx, oX, hX⟩ := hv.full
      have q8 := h10 (hall 10 (by decide))
      subst q8
      obtain ⟨vx1, vx2, e, ha, hb⟩ := id hX
      obtain ⟨Ax1, cx1, rfl, _⟩ := id ha
      obtain ⟨Ax2, cx2, rfl, _⟩ := id hb
      obtain rfl := agg_cells e
      clear nst e ha hb hall hv h0 h1 h2 h3 h4 h5 h6 h7 HLT HB0
      clear h8 h10
      have hq := (q.add oX)
      clear q oX hgx bs
      have hq : HeldQ w0 [(w0.heap.size, [.int .i64 n1, .int .i64 d1], 39), (w0.heap.size + 1, [.int .i64 n2, .int .i64 d2], 39), (gx, [.bool (decide (u.num < 0)), .slice Ax1 (digs b64 u.num.natAbs).length cx1, .slice Ax2 (digs b64 (denOf u.den)).length cx2], 26)] wz := ⟨hq.1, by intro r hr; simp at hr; rcases hr with rfl | rfl | rfl; exact hq.2 _ (by simp); exact hq.2 _ (by simp); exact hq.2 _ (by simp)⟩
      have HLT := bx hq.lts
      have HB0 := bx hq.1.size
      obtain ⟨wc, rfl⟩ : ∃ wc : World, wc = wz := ⟨_, rfl⟩
      go_wp2_with fail
      refine region_inv_all (by kernel_rfl) (by kernel_rfl) (DvsJ w0 wc.heap.size x y u er n1 d1 n2 d2 gx Ax1 Ax2 cx1 cx2 _ _ _ _ _ _ _ _ _ _ _ _ _ _ _ _ _ _ _ _ _ _ _ _ _ _ _ _ _ _ _ _ _ _ _ _ _ _ _ _ _ _ _ _ _ _ _ _ _ _ _ _ _ _ _ _ _ _ _ _ _ _ _ _) ⟨_, _, _, _, _, _, _, _, _, _, rfl, ⟨hq.drew, Nat.le_refl _, hX.drew⟩, by simp, by simp, by simp, by simp, by simp, by simp, by simp, by simp, by simp, by simp, by simp⟩ ?_ ?_
      · refine ⟨?_, ?_, ?_, ?_, ?_, ?_, ?_, ?_, ?_, ?_, ?_, trivial⟩
        · rintro L a wz ⟨x9, x10, x31, x32, x33, x34, x35, x36, x37, x38, rfl, ⟨q, bs, hX⟩, nst, h0, h1, h2, h3, h4, h5, h6, h7, h8, h10⟩ hno hpre
          have c0 := (q.at_ (p := (w0.heap.size, [.int .i64 n1, .int .i64 d1], 39)) (by simp)).cell (i := 0) rfl
          have c1 := (q.at_ (p := (w0.heap.size, [.int .i64 n1, .int .i64 d1], 39)) (by simp)).cell (i := 1) rfl
          go_wp2
          exact ⟨_, _, _, _, _, _, _, _, _, _, rfl, ⟨q, bs, hX⟩, fun h => by rw [upd_ne (by decide)] at h ⊢; exact nst h, fun _ => rfl, fun h => h1 (upd_of h (by decide)), fun h => (by first | exact h2 (upd_of h (by decide)) | rfl), fun h => h3 (upd_of h (by decide)), fun h => h4 (upd_of h (by decide)), fun h => h5 (upd_of h (by decide)), fun h => h6 (upd_of h (by decide)), fun h => (by first | exact h7 (upd_of h (by decide)) | rfl), fun h => by rw [upd_ne (by decide)]; exact h8 (upd_of h (by decide)), fun h => (by first | exact h10 (upd_of h (by decide)) | rfl)⟩
        · rintro L a wz ⟨x9, x10, x31, x32, x33, x34, x35, x36, x37, x38, rfl, ⟨q, bs, hX⟩, nst, h0, h1, h2, h3, h4, h5, h6, h7, h8, h10⟩ hno hpre
          have q0 := h0 (hpre 0 (by decide))
          subst q0
          go_wp2_with fail
          refine Calls.mono (HO1F.out wz) ?_
          rintro e wy ⟨v, rfl, hv, hb⟩
          go_wp2
          exact ⟨_, _, _, _, _, _, _, _, _, _, rfl, ⟨HeldQ.call (And.intro q trivial) hb, Nat.le_trans bs hb.size, (hX).below hb⟩, fun h => by rw [upd_ne (by decide)] at h ⊢; exact nst h, fun h => (by first | exact h0 (upd_of h (by decide)) | rfl), fun _ => hv, fun h => (by first | exact h2 (upd_of h (by decide)) | rfl), fun h => (h3 (upd_of h (by decide))).below hb, fun h => (h4 (upd_of h (by decide))).below hb, fun h => (h5 (upd_of h (by decide))).below hb, fun h => (h6 (upd_of h (by decide))).below hb, fun h => (by first | exact h7 (upd_of h (by decide)) | rfl), fun h => by rw [upd_ne (by decide)]; exact (h8 (upd_of h (by decide))).gone hb (fun _ hv => hv.below hb), fun h => (by first | exact h10 (upd_of h (by decide)) | rfl)⟩
        · rintro L a wz ⟨x9, x10, x31, x32, x33, x34, x35, x36, x37, x38, rfl, ⟨q, bs, hX⟩, nst, h0, h1, h2, h3, h4, h5, h6, h7, h8, h10⟩ hno hpre
          have c0 := (q.at_ (p := (w0.heap.size + 1, [.int .i64 n2, .int .i64 d2], 39)) (by simp)).cell (i := 0) rfl
          have c1 := (q.at_ (p := (w0.heap.size + 1, [.int .i64 n2, .int .i64 d2], 39)) (by simp)).cell (i := 1) rfl
          go_wp2
          exact ⟨_, _, _, _, _, _, _, _, _, _, rfl, ⟨q, bs, hX⟩, fun h => by rw [upd_ne (by decide)] at h ⊢; exact nst h, fun h => (by first | exact h0 (upd_of h (by decide)) | rfl), fun h => h1 (upd_of h (by decide)), fun _ => rfl, fun h => h3 (upd_of h (by decide)), fun h => h4 (upd_of h (by decide)), fun h => h5 (upd_of h (by decide)), fun h => h6 (upd_of h (by decide)), fun h => (by first | exact h7 (upd_of h (by decide)) | rfl), fun h => by rw [upd_ne (by decide)]; exact h8 (upd_of h (by decide)), fun h => (by first | exact h10 (upd_of h (by decide)) | rfl)⟩
        · rintro L a wz ⟨x9, x10, x31, x32, x33, x34, x35, x36, x37, x38, rfl, ⟨q, bs, hX⟩, nst, h0, h1, h2, h3, h4, h5, h6, h7, h8, h10⟩ hno hpre
          have q2 := h2 (hpre 2 (by decide))
          subst q2
          go_wp2_with fail
          refine Calls.mono (HO2F.out wz) ?_
          rintro e wy ⟨v, rfl, hv, hb⟩
          go_wp2
          exact ⟨_, _, _, _, _, _, _, _, _, _, rfl, ⟨HeldQ.call (And.intro q trivial) hb, Nat.le_trans bs hb.size, (hX).below hb⟩, fun h => by rw [upd_ne (by decide)] at h ⊢; exact nst h, fun h => (by first | exact h0 (upd_of h (by decide)) | rfl), fun h => (h1 (upd_of h (by decide))).below hb, fun h => (by first | exact h2 (upd_of h (by decide)) | rfl), fun _ => hv, fun h => (h4 (upd_of h (by decide))).below hb, fun h => (h5 (upd_of h (by decide))).below hb, fun h => (h6 (upd_of h (by decide))).below hb, fun h => (by first | exact h7 (upd_of h (by decide)) | rfl), fun h => by rw [upd_ne (by decide)]; exact (h8 (upd_of h (by decide))).gone hb (fun _ hv => hv.below hb), fun h => (by first | exact h10 (upd_of h (by decide)) | rfl)⟩
        · rintro L a wz ⟨x9, x10, x31, x32, x33, x34, x35, x36, x37, x38, rfl, ⟨q, bs, hX⟩, nst, h0, h1, h2, h3, h4, h5, h6, h7, h8, h10⟩ hno hpre
          have q1 := h1 (hpre 1 (by decide))
          have q3 := h3 (hpre 3 (by decide))
          go_wp2_with fail
          refine Calls.mono (HDVF.out wz _ _ q1 q3) ?_
          rintro e wy ⟨v, rfl, hv, hb⟩
          go_wp2
          exact ⟨_, _, _, _, _, _, _, _, _, _, rfl, ⟨HeldQ.call (And.intro q trivial) hb, Nat.le_trans bs hb.size, (hX).below hb⟩, fun h => by rw [upd_ne (by decide)] at h ⊢; exact nst h, fun h => (by first | exact h0 (upd_of h (by decide)) | rfl), fun h => (h1 (upd_of h (by decide))).below hb, fun h => (by first | exact h2 (upd_of h (by decide)) | rfl), fun h => (h3 (upd_of h (by decide))).below hb, fun _ => ⟨_, rfl, hv⟩, fun h => (h5 (upd_of h (by decide))).below hb, fun h => (h6 (upd_of h (by decide))).below hb, fun h => (by first | exact h7 (upd_of h (by decide)) | rfl), fun h => by rw [upd_ne (by decide)]; exact (h8 (upd_of h (by decide))).gone hb (fun _ hv => hv.below hb), fun h => (by first | exact h10 (upd_of h (by decide)) | rfl)⟩
        · rintro L a wz ⟨x9, x10, x31, x32, x33, x34, x35, x36, x37, x38, rfl, ⟨q, bs, hX⟩, nst, h0, h1, h2, h3, h4, h5, h6, h7, h8, h10⟩ hno hpre
          have q4 := h4 (hpre 4 (by decide))
          go_wp2
          exact ⟨_, _, _, _, _, _, _, _, _, _, rfl, ⟨q, bs, hX⟩, fun h => by rw [upd_ne (by decide)] at h ⊢; exact nst h, fun h => (by first | exact h0 (upd_of h (by decide)) | rfl), fun h => h1 (upd_of h (by decide)), fun h => (by first | exact h2 (upd_of h (by decide)) | rfl), fun h => h3 (upd_of h (by decide)), fun h => h4 (upd_of h (by decide)), fun _ => q4, fun h => h6 (upd_of h (by decide)), fun h => (by first | exact h7 (upd_of h (by decide)) | rfl), fun h => by rw [upd_ne (by decide)]; exact h8 (upd_of h (by decide)), fun h => (by first | exact h10 (upd_of h (by decide)) | rfl)⟩
        · rintro L a wz ⟨x9, x10, x31, x32, x33, x34, x35, x36, x37, x38, rfl, ⟨q, bs, hX⟩, nst, h0, h1, h2, h3, h4, h5, h6, h7, h8, h10⟩ hno hpre
          obtain ⟨v, rfl, hv⟩ := h5 (hpre 5 (by decide))
          go_wp2
          exact ⟨_, _, _, _, _, _, _, _, _, _, rfl, ⟨q, bs, hX⟩, fun h => by rw [upd_ne (by decide)] at h ⊢; exact nst h, fun h => (by first | exact h0 (upd_of h (by decide)) | rfl), fun h => h1 (upd_of h (by decide)), fun h => (by first | exact h2 (upd_of h (by decide)) | rfl), fun h => h3 (upd_of h (by decide)), fun h => h4 (upd_of h (by decide)), fun h => h5 (upd_of h (by decide)), fun _ => hv, fun h => (by first | exact h7 (upd_of h (by decide)) | rfl), fun h => by rw [upd_ne (by decide)]; exact h8 (upd_of h (by decide)), fun h => (by first | exact h10 (upd_of h (by decide)) | rfl)⟩
        · rintro L a wz ⟨x9, x10, x31, x32, x33, x34, x35, x36, x37, x38, rfl, ⟨q, bs, hX⟩, nst, h0, h1, h2, h3, h4, h5, h6, h7, h8, h10⟩ hno hpre
          obtain ⟨v, rfl, _⟩ := h5 (hpre 5 (by decide))
          go_wp2
          exact ⟨_, _, _, _, _, _, _, _, _, _, rfl, ⟨q, bs, hX⟩, fun h => by rw [upd_ne (by decide)] at h ⊢; exact nst h, fun h => (by first | exact h0 (upd_of h (by decide)) | rfl), fun h => h1 (upd_of h (by decide)), fun h => (by first | exact h2 (upd_of h (by decide)) | rfl), fun h => h3 (upd_of h (by decide)), fun h => h4 (upd_of h (by decide)), fun h => h5 (upd_of h (by decide)), fun h => h6 (upd_of h (by decide)), fun _ => rfl, fun h => by rw [upd_ne (by decide)]; exact h8 (upd_of h (by decide)), fun h => (by first | exact h10 (upd_of h (by decide)) | rfl)⟩
        · rintro L a wz ⟨x9, x10, x31, x32, x33, x34, x35, x36, x37, x38, rfl, ⟨q, bs, hX⟩, nst, h0, h1, h2, h3, h4, h5, h6, h7, h8, h10⟩ hno hpre
          have e9 : L 9 = false := by
            cases h : L 9 with
            | false => rfl
            | true => have h2 := nst h; rw [hno] at h2; cases h2
          have hb := below_alloc wz #[.bool false, .slice none 0 0, .slice none 0 0] 32
          go_wp2
          exact ⟨_, _, _, _, _, _, _, _, _, _, rfl, ⟨HeldQ.call (And.intro q trivial) hb, Nat.le_trans bs hb.size, (hX).below hb⟩, fun _ => upd_self _ _, fun h => (by first | exact h0 (upd_of h (by decide)) | rfl), fun h => (h1 (upd_of h (by decide))).below hb, fun h => (by first | exact h2 (upd_of h (by decide)) | rfl), fun h => (h3 (upd_of h (by decide))).below hb, fun h => (h4 (upd_of h (by decide))).below hb, fun h => (h5 (upd_of h (by decide))).below hb, fun h => (h6 (upd_of h (by decide))).below hb, fun h => (by first | exact h7 (upd_of h (by decide)) | rfl), fun _ => by rw [upd_ne (by decide), e9]; exact VarR.new bs, fun h => (by first | exact h10 (upd_of h (by decide)) | rfl)⟩
        · rintro L a wz ⟨x9, x10, x31, x32, x33, x34, x35, x36, x37, x38, rfl, ⟨q, bs, hX⟩, nst, h0, h1, h2, h3, h4, h5, h6, h7, h8, h10⟩ hno hpre
          have hv := h8 (hpre 8 (by decide))
          rw [hno] at hv
          obtain ⟨g, rfl, hgB, og⟩ := hv.zero
          have hs := h6 (hpre 6 (by decide))
          obtain ⟨vs1, vs2, rfl, hsa, hsb⟩ := id hs
          obtain ⟨As1, cs1, rfl, _⟩ := id hsa
          obtain ⟨As2, cs2, rfl, _⟩ := id hsb
          have k0 := og.cell (i := 0) rfl
          have f0 := og.fz 0
          have k1 := og.cell (i := 1) rfl
          have f1 := og.fz 1
          have k2 := og.cell (i := 2) rfl
          have f2 := og.fz 2
          go_wp2
          obtain ⟨wf, HW, oA, hq2, fA, hN⟩ := q.write og HLT.out hgB HB0.out notInt_z3 (vs := [.bool (decide (u.num < 0)), .slice As1 (digs b32 u.num.natAbs).length cs1, .slice As2 (digs b32 u.den).length cs2]) rfl notInt3
          simp only [setAll, Nat.reduceAdd] at HW
          rw [HW]
          have hsz : wf.heap.size = wz.heap.size := by rw [← HW]; simp [World.setCell]
          exact ⟨_, _, _, _, _, _, _, _, _, _, rfl, ⟨(by have _t := q; exact hq2), (by rw [hsz]; exact bs), (hX).into hN⟩, fun _ => by rw [upd_ne (by decide)]; exact hpre 8 (by decide), fun h => (by first | exact h0 (upd_of h (by decide)) | rfl), fun h => (h1 (upd_of h (by decide))).into hN, fun h => (by first | exact h2 (upd_of h (by decide)) | rfl), fun h => (h3 (upd_of h (by decide))).into hN, fun h => (h4 (upd_of h (by decide))).into hN, fun h => (h5 (upd_of h (by decide))).into hN, fun h => (h6 (upd_of h (by decide))).into hN, fun h => (by first | exact h7 (upd_of h (by decide)) | rfl), fun _ => by rw [upd_self]; exact VarR.set oA hgB (hs.into hN), fun h => (by first | exact h10 (upd_of h (by decide)) | rfl)⟩
        · rintro L a wz ⟨x9, x10, x31, x32, x33, x34, x35, x36, x37, x38, rfl, ⟨q, bs, hX⟩, nst, h0, h1, h2, h3, h4, h5, h6, h7, h8, h10⟩ hno hpre
          have q7 := h7 (hpre 7 (by decide))
          subst q7
          go_wp2
          exact ⟨_, _, _, _, _, _, _, _, _, _, rfl, ⟨q, bs, hX⟩, fun h => by rw [upd_ne (by decide)] at h ⊢; exact nst h, fun h => (by first | exact h0 (upd_of h (by decide)) | rfl), fun h => h1 (upd_of h (by decide)), fun h => (by first | exact h2 (upd_of h (by decide)) | rfl), fun h => h3 (upd_of h (by decide)), fun h => h4 (upd_of h (by decide)), fun h => h5 (upd_of h (by decide)), fun h => h6 (upd_of h (by decide)), fun h => (by first | exact h7 (upd_of h (by decide)) | rfl), fun h => by rw [upd_ne (by decide)]; exact h8 (upd_of h (by decide)), fun _ => rfl⟩
      · intro L a wz hI hall
        obtain ⟨x9, x10, x31, x32, x33, x34, x35, x36, x37, x38, rfl, ⟨q, bs, hX⟩, nst, h0, h1, h2, h3, h4, h5, h6, h7, h8, h10⟩ := hI
        have hv := h8 (hall 8 (by decide))
        rw [hall 9 (by decide)] at hv
        obtain ⟨gy, cs, rfl, hgy, oY, hY⟩ := hv.full
        have q8 := h10 (hall 10 (by decide))
        subst q8
        obtain ⟨vy1, vy2, e, ha, hb⟩ := id hY
        obtain ⟨Ay1, cy1, rfl, _⟩ := id ha
        obtain ⟨Ay2, cy2, rfl, _⟩ := id hb
        obtain rfl := agg_cells e
        clear nst e ha hb hall hv h0 h1 h2 h3 h4 h5 h6 h7 HLT HB0
        clear h8 h10
        have hq := q.add oY
        have B := hq.1
        have oA := hq.2 (w0.heap.size, [.int .i64 n1, .int .i64 d1], 39) (by simp)
        have oX := hq.2 (gx, [.bool (decide (u.num < 0)), .slice Ax1 (digs b64 u.num.natAbs).length cx1, .slice Ax2 (digs b64 (denOf u.den)).length cx2], 26) (by simp)
        clear hq q hgy bs
        have k1 := oA.cell (i := 0) rfl
        have k2 := oA.cell (i := 1) rfl
        go_wp2_with fail
        clear k1 k2
        refine Calls.mono (HO1R.out _) ?_
        rintro e w1 ⟨va, rfl, ha, b1⟩
        replace oA := oA.gone b1
        replace oX := oX.gone b1
        replace oY := oY.gone b1
        replace hX := hX.below b1
        replace hY := hY.below b1
        replace B := B.trans (b1.mono B.size)
        clear b1
        go_wp2_with fail
        refine Calls.mono (HPWR.out _ _ ha) ?_
        rintro e w2 ⟨vp, rfl, hp, b2⟩
        replace oA := oA.gone b2
        replace oX := oX.gone b2
        replace oY := oY.gone b2
        replace hX := hX.below b2
        replace hY := hY.below b2
        replace ha := ha.below b2
        replace B := B.trans (b2.mono B.size)
        clear b2
        clear ha
        obtain ⟨vp1, vp2, rfl, hpa, hpb⟩ := id hp
        obtain ⟨Ap1, cp1, rfl, _⟩ := id hpa
        obtain ⟨Ap2, cp2, rfl, _⟩ := id hpb
        clear hpa hpb
        obtain ⟨w3, e3, oU, b3, s3⟩ := layA w2 [.bool (decide (p.num < 0)), .slice Ap1 (digs b64 p.num.natAbs).length cp1, .slice Ap2 (digs b64 (denOf p.den)).length cp2] 26
        replace oA := oA.gone b3
        replace oX := oX.gone b3
        replace oY := oY.gone b3
        replace hX := hX.below b3
        replace hY := hY.below b3
        replace hp := hp.below b3
        replace B := B.trans (b3.mono B.size)
        clear b3 s3
        have k3 := oA.cell (i := 0) rfl
        have k4 := oA.cell (i := 1) rfl
        go_wp2_with fail
        clear e3 k3 k4
        refine Calls.mono (HO1F.out _) ?_
        rintro e w4 ⟨va, rfl, ha, b4⟩
        replace oA := oA.gone b4
        replace oX := oX.gone b4
        replace oY := oY.gone b4
        replace hX := hX.below b4
        replace hY := hY.below b4
        replace hp := hp.below b4
        replace oU := oU.gone b4
        replace B := B.trans (b4.mono B.size)
        clear b4
        go_wp2_with fail
        refine Calls.mono (HPWF.out _ _ ha) ?_
        rintro e w5 ⟨vs, rfl, hs, b5⟩
        replace oA := oA.gone b5
        replace oX := oX.gone b5
        replace oY := oY.gone b5
        replace hX := hX.below b5
        replace hY := hY.below b5
        replace hp := hp.below b5
        replace oU := oU.gone b5
        replace ha := ha.below b5
        replace B := B.trans (b5.mono B.size)
        clear b5
        clear ha
        obtain ⟨vs1, vs2, rfl, hsa, hsb⟩ := id hs
        obtain ⟨As1, cs1, rfl, _⟩ := id hsa
        obtain ⟨As2, cs2, rfl, _⟩ := id hsb
        clear hsa hsb
        obtain ⟨w6, e6, oV, b6, s6⟩ := layA w5 [.bool (decide (p.num < 0)), .slice As1 (digs b32 p.num.natAbs).length cs1, .slice As2 (digs b32 p.den).length cs2] 32
        replace oA := oA.gone b6
        replace oX := oX.gone b6
        replace oY := oY.gone b6
        replace hX := hX.below b6
        replace hY := hY.below b6
        replace hp := hp.below b6
        replace oU := oU.gone b6
        replace hs := hs.below b6
        replace B := B.trans (b6.mono B.size)
        clear b6 s6
        have k5 := oX.cell (i := 0) rfl
        have k6 := oX.cell (i := 1) rfl
        have k7 := oX.cell (i := 2) rfl
        have k8 := oY.cell (i := 0) rfl
        have k9 := oY.cell (i := 1) rfl
        have k10 := oY.cell (i := 2) rfl
        go_wp2_with fail
        clear e6 k5 k6 k7 k8 k9 k10
        refine Calls.mono (is_yes _ _ _ u hX hY HU.out (by omega)) ?_
        rintro e w7 ⟨rfl, b7⟩
        replace oA := oA.gone b7
        replace oX := oX.gone b7
        replace oY := oY.gone b7
        replace hX := hX.below b7
        replace hY := hY.below b7
        replace hp := hp.below b7
        replace oU := oU.gone b7
        replace hs := hs.below b7
        replace oV := oV.gone b7
        replace B := B.trans (b7.mono B.size)
        clear b7
        have k11 := oU.cell (i := 0) rfl
        have k12 := oU.cell (i := 1) rfl
        have k13 := oU.cell (i := 2) rfl
        have k14 := oV.cell (i := 0) rfl
        have k15 := oV.cell (i := 1) rfl
        have k16 := oV.cell (i := 2) rfl
        go_wp2_with fail
        clear k11 k12 k13 k14 k15 k16
        refine Calls.mono (is_yes _ _ _ p hp hs HP.out (by omega)) ?_
        rintro e w8 ⟨rfl, b8⟩
        replace oA := oA.gone b8
        replace oX := oX.gone b8
        replace oY := oY.gone b8
        replace hX := hX.below b8
        replace hY := hY.below b8
        replace hp := hp.below b8
        replace oU := oU.gone b8
        replace hs := hs.below b8
        replace oV := oV.gone b8
        replace B := B.trans (b8.mono B.size)
        clear b8
        go_wp2_with fail
        refine Calls.mono (awake_num _) ?_
        rintro e w9 ⟨rfl, b9⟩
        replace oA := oA.gone b9
        replace oX := oX.gone b9
        replace oY := oY.gone b9
        replace hX := hX.below b9
        replace hY := hY.below b9
        replace hp := hp.below b9
        replace oU := oU.gone b9
        replace hs := hs.below b9
        replace oV := oV.gone b9
        replace B := B.trans (b9.mono B.size)
        clear b9
        go_wp2
        go_ret
        exact ⟨rfl, B⟩

theorem divs_law (w0 : World) (n1 d1 n2 d2 n : Int) (h1 : -9223372036854775808 ≤ n1 ∧ n1 ≤ 9223372036854775807) (h2 : d1 ≤ 9223372036854775807) (h3 : -9223372036854775808 ≤ n2 ∧ n2 ≤ 9223372036854775807) (h4 : d2 ≤ 9223372036854775807) (h5 : -9223372036854775808 ≤ n ∧ n ≤ 9223372036854775807) :
    Calls Try.prog 4 #[.agg #[.int .i64 n1, .int .i64 d1], .agg #[.int .i64 n2, .int .i64 d2], .int .i64 n] w0 (RetIs w0 (.bool true)) := by
  have bx1 := bd_ofR h1.1 h1.2 h2
  have by1 := bd_ofR h3.1 h3.2 h4
  obtain ⟨u, er, HDVR, HDVF, HU⟩ : ∃ (u : Rat) (er : Int), Bx (∀ w vx vy, IsRat w vx (ofR n1 d1) → IsRat w vy (ofR n2 d2) → Calls Try.prog 12 #[vx, vy] w (RetRE w u er)) ∧ Bx (∀ w vx vy, IsRef w vx (ofR n1 d1) → IsRef w vy (ofR n2 d2) → Calls Try.prog 13 #[vx, vy] w (RetFE w u er)) ∧ Bx (BdR 10000 u) := by
    by_cases hy0 : ofR n2 d2 = 0
    · exact ⟨0, 3, bx (fun w vx vy a b => div_zero w vx vy _ _ a b hy0), bx (fun w vx vy a b => ndiv_zero w vx vy _ _ a b hy0), bx (bd_zero0 _ (by omega))⟩
    · exact ⟨_, 0, bx (fun w vx vy a b => div_ok w vx vy _ _ a b bx1 by1 (by omega) hy0), bx (fun w vx vy a b => ndiv_num w vx vy _ _ a b (mt Rat.num_eq_zero.1 hy0) bx1 by1 (by omega)), bx ((bx1.div by1 (mt Rat.num_eq_zero.1 hy0)).mono (by omega))⟩
  obtain ⟨m, hm⟩ : ∃ m, m = if 12 < n ∧ n ≤ 64 then n % 13 else n := ⟨_, rfl⟩
  have hmc : (m < 0 ∨ 64 < m) ∨ ∃ k : Nat, m = (k : Int) ∧ k ≤ 12 := by
    by_cases h : 12 < n ∧ n ≤ 64
    · rw [if_pos h] at hm
      exact .inr ⟨m.toNat, by omega, by omega⟩
    · rw [if_neg h] at hm
      by_cases h0 : m < 0 ∨ 64 < m
      · exact .inl h0
      · exact .inr ⟨m.toNat, by omega, by omega⟩
  obtain ⟨p, ep, HPWR, HPWF, HP⟩ : ∃ (p : Rat) (ep : Int), Bx (∀ w vx, IsRat w vx (ofR n1 d1) → Calls Try.prog 15 #[vx, .int .i64 m] w (RetRE w p ep)) ∧ Bx (∀ w vx, IsRef w vx (ofR n1 d1) → Calls Try.prog 16 #[vx, .int .i64 m] w (RetFE w p ep)) ∧ Bx (BdR 10000 p) := by
    rcases hmc with h | ⟨k, rfl, hk⟩
    · exact ⟨0, 1, bx (fun w vx a => power_bad w vx _ m a h), bx (fun w vx a => npower_bad w vx _ m a h), bx (bd_zero0 _ (by omega))⟩
    · exact ⟨_, 0, bx (fun w vx a => power_num w vx _ k a (by omega) bx1 (by omega)), bx (fun w vx a => npower_num w vx _ k a (by omega) bx1 (by omega)), bx ((bd_pow bx1 k).mono (by omega))⟩
  exact divs_walk w0 n1 d1 n2 d2 n _ _ u p er ep (bx (fun w => of_num w n1 d1 h1.1 h1.2 h2)) (bx (fun w => of_num w n2 d2 h3.1 h3.2 h4)) (bx (fun w => nof_num w n1 d1 h1.1 h1.2 h2)) (bx (fun w => nof_num w n2 d2 h3.1 h3.2 h4)) HDVR HDVF m (bx hm) h5.1 h5.2 HPWR HPWF HU HP
end Wx
