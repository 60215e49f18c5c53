import Derived.Test.YtioicklnneebnaaGreatProg
import Derived.Handy
import Derived.Deep.RegionHeld3
import Derived.Deep.DeepCutAuto
import Derived.Test.YtioicklnneebnaaGreatPlain1
import Derived.Test.YtioicklnneebnaaGreatMem
import Derived.Test.YtioicklnneebnaaGreatJRounds3
import Derived.Test.YtioicklnneebnaaGreatCRat1
import Derived.Test.YtioicklnneebnaaGreatCRat2
import Derived.Test.YtioicklnneebnaaGreatJRounds18
import Derived.Test.YtioicklnneebnaaGreatJRounds16
import Derived.Test.YtioicklnneebnaaGreatCRat3
import Derived.Test.YtioicklnneebnaaGreatCCmp
import Derived.Test.YtioicklnneebnaaGreatCPlainOrd
import Derived.Test.YtioicklnneebnaaGreatCDown
import Derived.Test.YtioicklnneebnaaGreatJRounds22
import Derived.Test.YtioicklnneebnaaGreatJRounds23
import Derived.Test.YtioicklnneebnaaGreatInv
import Derived.Test.YtioicklnneebnaaGreatJRounds25
import Derived.Test.YtioicklnneebnaaGreatJRounds31
import Derived.Test.YtioicklnneebnaaGreatJRounds38
import Derived.Test.YtioicklnneebnaaGreatCNRat2
import Derived.Test.YtioicklnneebnaaGreatJRounds40
import Derived.Test.YtioicklnneebnaaGreatCNAdd
import Derived.Test.YtioicklnneebnaaGreatCNSub
import Derived.Test.YtioicklnneebnaaGreatJRounds43
import Derived.Test.YtioicklnneebnaaGreatCNFloor
import Derived.Test.YtioicklnneebnaaGreatJRounds45
import Derived.Test.YtioicklnneebnaaGreatJRounds47
namespace Wx
open Go Go.RowKit Go.Proofs

theorem bd_down {j : Nat} {x : Rat} (h : BdR j x) (k : Int) : BdR (j + 300) (downR x k) := by
  have h2 := (bitsOf_spec k).2
  unfold downR downQ
  refine redR_bd (Nat.two_pow_pos _) ?_ ((Bd.pow2 (K := bitsOf k) (k := 257) (by omega)).mono (by omega))
  have a1 : Bd (j + 257) (x.num.natAbs * 2 ^ bitsOf k) := h.1.mul (Bd.pow2 (by omega))
  have a2 := a1.le (Nat.div_le_self _ x.den)
  exact ((a2.add (show Bd 1 1 by unfold Bd; omega)).mono (by omega)).le (by split <;> omega)
theorem bd_subR {j k : Nat} {x y : Rat} (h : BdR j x) (g : BdR k y) : BdR (j + k + j + k + 1) (x - y) := by rw [Rat.sub_eq_add_neg]; exact h.add g.neg
set_option maxRecDepth 100000 in
def RndI (w0 : World) (x : Rat) (n1 d1 : Int) (u0 u1 u2 u3 u4 u7 u8 u9 u10 u11 u12 u17 u18 u19 u20 u21 u22 u23 u24 u25 u26 u27 u28 u29 u30 u31 u32 u33 u34 u35 u36 u37 u38 u39 u40 u41 u42 u43 u44 u45 u46 u47 u48 u49 u50 u51 u52 u53 u54 u55 u56 u57 u58 u59 u60 u61 u62 u63 u64 u65 u66 u67 u68 u69 u70 u71 u72 u73 u74 u75 u76 u77 u78 u79 u80 u81 u82 u83 u84 u85 u86 u87 u88 u89 u90 u91 u92 u93 u94 u95 u96 u97 u98 u99 u100 u101 u102 u103 u104 u105 u106 : Value) (L : Nat → Bool) (a : Act) (w : World) : Prop :=
  ∃ x5 x6 x13 x14 x15 x16 : Value, a = ⟨(List.toArray (u0 :: u1 :: u2 :: u3 :: u4 :: x5 :: x6 :: u7 :: u8 :: u9 :: u10 :: u11 :: u12 :: x13 :: x14 :: x15 :: x16 :: u17 :: u18 :: u19 :: u20 :: u21 :: u22 :: u23 :: u24 :: u25 :: u26 :: u27 :: u28 :: u29 :: u30 :: u31 :: u32 :: u33 :: u34 :: u35 :: u36 :: u37 :: u38 :: u39 :: u40 :: u41 :: u42 :: u43 :: u44 :: u45 :: u46 :: u47 :: u48 :: u49 :: u50 :: u51 :: u52 :: u53 :: u54 :: u55 :: u56 :: u57 :: u58 :: u59 :: u60 :: u61 :: u62 :: u63 :: u64 :: u65 :: u66 :: u67 :: u68 :: u69 :: u70 :: u71 :: u72 :: u73 :: u74 :: u75 :: u76 :: u77 :: u78 :: u79 :: u80 :: u81 :: u82 :: u83 :: u84 :: u85 :: u86 :: u87 :: u88 :: u89 :: u90 :: u91 :: u92 :: u93 :: u94 :: u95 :: u96 :: u97 :: u98 :: u99 :: u100 :: u101 :: u102 :: u103 :: u104 :: u105 :: u106 :: [])), []⟩ ∧ Below w0.heap.size w0 w ∧ (ObjA w (w0.heap.size) [.int .i64 n1, .int .i64 d1] 23 ∧ True) ∧
    (L 0 = true → x13 = .agg #[.int .i64 n1, .int .i64 d1]) ∧
    (L 1 = true → IsRat w x14 x) ∧
    (L 2 = true → x15 = .agg #[.int .i64 n1, .int .i64 d1]) ∧
    (L 3 = true → IsRef w x16 x) ∧
    (L 4 = true → NewA (w0.heap.size + 1) w x5 [.bool false, .slice none 0 0, .slice none 0 0] 27) ∧
    (L 5 = true → NewA (w0.heap.size + 1) w x6 [.bool false, .slice none 0 0, .slice none 0 0] 31) ∧
    (L 4 = true → L 5 = true → x5 ≠ x6)
set_option maxRecDepth 100000 in
def RndJ (w0 : World) (x f l h : Rat) (k : Int) (Bs g5 g6 : Nat) (Ax1 Ax2 : Option Addr) (cx1 cx2 : Nat) (Ap1 Ap2 : Option Addr) (cp1 cp2 : Nat) (u0 u2 u3 u4 u5 u6 u10 u11 u12 u13 u14 u15 u16 u25 u26 u27 u28 u29 u30 u31 u32 u33 u34 u35 u36 u37 u38 u39 u40 u41 u42 u43 u44 u45 u46 u47 u48 u49 u50 u51 u52 u53 u54 u55 u56 u57 u58 u59 u60 u61 u62 u63 u64 u65 u66 u67 u68 u69 u70 u71 u72 u73 u74 u75 u76 u77 u78 u79 u80 u81 u82 u83 u84 u85 u86 u87 u88 u89 u90 u91 u92 u93 u94 u95 u96 u97 u98 u99 u100 u101 u102 u103 u104 u105 u106 : Value) (L : Nat → Bool) (a : Act) (w : World) : Prop :=
  ∃ x7 x8 x9 x17 x18 x19 x20 x21 x22 x23 x24 : Value, a = ⟨(List.toArray (u0 :: (.int .i64 k) :: u2 :: u3 :: u4 :: u5 :: u6 :: x7 :: x8 :: x9 :: u10 :: u11 :: u12 :: u13 :: u14 :: u15 :: u16 :: x17 :: x18 :: x19 :: x20 :: x21 :: x22 :: x23 :: x24 :: u25 :: u26 :: u27 :: u28 :: u29 :: u30 :: u31 :: u32 :: u33 :: u34 :: u35 :: u36 :: u37 :: u38 :: u39 :: u40 :: u41 :: u42 :: u43 :: u44 :: u45 :: u46 :: u47 :: u48 :: u49 :: u50 :: u51 :: u52 :: u53 :: u54 :: u55 :: u56 :: u57 :: u58 :: u59 :: u60 :: u61 :: u62 :: u63 :: u64 :: u65 :: u66 :: u67 :: u68 :: u69 :: u70 :: u71 :: u72 :: u73 :: u74 :: u75 :: u76 :: u77 :: u78 :: u79 :: u80 :: u81 :: u82 :: u83 :: u84 :: u85 :: u86 :: u87 :: u88 :: u89 :: u90 :: u91 :: u92 :: u93 :: u94 :: u95 :: u96 :: u97 :: u98 :: u99 :: u100 :: u101 :: u102 :: u103 :: u104 :: u105 :: u106 :: [])), []⟩ ∧ Below w0.heap.size w0 w ∧ (ObjA w g5 [.bool (decide (x.num < 0)), .slice Ax1 (digs b64 x.num.natAbs).length cx1, .slice Ax2 (digs b64 (denOf x.den)).length cx2] 27 ∧ ObjA w g6 [.bool (decide (x.num < 0)), .slice Ap1 (digs b32 x.num.natAbs).length cp1, .slice Ap2 (digs b32 x.den).length cp2] 31 ∧ IsRat w (.agg #[.bool (decide (x.num < 0)), .slice Ax1 (digs b64 x.num.natAbs).length cx1, .slice Ax2 (digs b64 (denOf x.den)).length cx2]) x ∧ IsRef w (.agg #[.bool (decide (x.num < 0)), .slice Ap1 (digs b32 x.num.natAbs).length cp1, .slice Ap2 (digs b32 x.den).length cp2]) x ∧ Bs ≤ w.heap.size) ∧
    (L 0 = true → x17 = .agg #[.bool (decide (x.num < 0)), .slice Ax1 (digs b64 x.num.natAbs).length cx1, .slice Ax2 (digs b64 (denOf x.den)).length cx2]) ∧
    (L 1 = true → IsRat w x18 f) ∧
    (L 2 = true → x19 = .agg #[.bool (decide (x.num < 0)), .slice Ax1 (digs b64 x.num.natAbs).length cx1, .slice Ax2 (digs b64 (denOf x.den)).length cx2]) ∧
    (L 3 = true → x20 = .int .i64 k) ∧
    (L 4 = true → IsRat w x21 l) ∧
    (L 5 = true → x22 = .agg #[.bool (decide (x.num < 0)), .slice Ax1 (digs b64 x.num.natAbs).length cx1, .slice Ax2 (digs b64 (denOf x.den)).length cx2]) ∧
    (L 6 = true → x23 = .int .i64 k) ∧
    (L 7 = true → IsRat w x24 h) ∧
    (L 8 = true → NewA Bs w x7 [.bool false, .slice none 0 0, .slice none 0 0] 27) ∧
    (L 9 = true → NewA Bs w x8 [.bool false, .slice none 0 0, .slice none 0 0] 27) ∧
    (L 10 = true → NewA Bs w x9 [.bool false, .slice none 0 0, .slice none 0 0] 27) ∧
    (L 8 = true → L 9 = true → x7 ≠ x8) ∧
    (L 8 = true → L 10 = true → x7 ≠ x9) ∧
    (L 9 = true → L 10 = true → x8 ≠ x9)

set_option maxRecDepth 100000 in
set_option maxHeartbeats 40000000 in
theorem rounds_walk (w0 : World) (n1 d1 k : Int) (x f l h : Rat) (hf0 : Bx (f = floorR x)) (hl0 : Bx (l = downR x k)) (hh0 : Bx (h = -(downR (-x) k)))
    (HOR : Bx (∀ w, Calls Tryz.prog 5 #[.agg #[.int .i64 n1, .int .i64 d1]] w (RetRat w x))) (HOF : Bx (∀ w, Calls Tryz.prog 6 #[.agg #[.int .i64 n1, .int .i64 d1]] w (RetRef w x)))
    (HX : Bx (BdR 64 x)) (HXF : Bx (BdR 400 f)) (HXL : Bx (BdR 400 l)) (HXH : Bx (BdR 400 h)) (_hk : -9223372036854775808 ≤ k ∧ k ≤ 9223372036854775807) : Calls Tryz.prog 3 #[.agg #[.int .i64 n1, .int .i64 d1], .int .i64 k] w0 (RetIs w0 (.bool true)) := by
  have HFL : Bx (∀ w v, IsRat w v x → Calls Tryz.prog 7 #[v] w (RetRat w f)) := bx (fun w v hv => by
    have := floor_num w v x hv HX.out (by omega)
    rwa [floor_zero, ← hf0.out] at this)
  have HDN : Bx (∀ w v, IsRat w v x → Calls Tryz.prog 8 #[v, .int .i64 k] w (RetRat w l)) := bx (fun w v hv => by
    have := down_num w v x k hv HX.out (by omega)
    rwa [← hl0.out] at this)
  have HUP : Bx (∀ w v, IsRat w v x → Calls Tryz.prog 9 #[v, .int .i64 k] w (RetRat w h)) := bx (fun w v hv => by
    have := up_num w v x k hv HX.out (by omega)
    rwa [← hh0.out] at this)
  have NFL : Bx (∀ w v, IsRef w v x → Calls Tryz.prog 11 #[v] w (RetRef w f)) := bx (fun w v hv => by
    have := nfloor_num w v x hv HX.out (by omega)
    rwa [← hf0.out] at this)
  have NDN : Bx (∀ w v, IsRef w v x → Calls Tryz.prog 12 #[v, .int .i64 k] w (RetRef w l)) := bx (fun w v hv => by
    have := ndown_num w v x k hv HX.out (by omega)
    rwa [← hl0.out] at this)
  have NUP : Bx (∀ w v, IsRef w v x → Calls Tryz.prog 13 #[v, .int .i64 k] w (RetRef w h)) := bx (fun w v hv => by
    have := nup_num w v x k hv HX.out (by omega)
    rwa [← hh0.out] at this)
  obtain ⟨c1, c2, c3, c4, c5, c6, e1, g1, e2, g2, e3, g3, e4, g4, e5, g5', e6, g6'⟩ := round_facts x k
  rw [← hf0.out] at e1 e2
  rw [← hl0.out] at e3 e5
  rw [← hh0.out] at e4 e6
  obtain ⟨hb1, hb2⟩ := bitsOf_spec k
  have HCM : Bx (∀ (u v : Rat) (c : Int), cmpT u v = c → BdR 2000 u → BdR 2000 v → ∀ w a b, IsRat w a u → IsRat w b v → Calls Tryz.prog 14 #[a, b] w (RetIs w (.int .i64 c))) := bx (fun u v c e hu hv w a b ha hb => by
    have := cmp_rat w a b u v ha hb hu hv (by omega)
    rwa [cmpF_eq, e] at this)
  have E1 := bx e1
  have E2 := bx e2
  have E3 := bx e3
  have E4 := bx e4
  have E5 := bx e5
  have E6 := bx e6
  have HK := bx hb1
  have HI : Bx (∀ w, Calls Tryz.prog 16 #[.int .i64 1] w (RetRat w 1)) := bx (fun w => int_num w 1 (by omega) (by omega))
  have HNW : Bx (∀ w, Calls Tryz.prog 17 #[.int .i64 1, .int .i64 2] w (RetRE w (newR 1 2) 0)) := bx (fun w => new_num w 1 2 (by omega) (by omega) (by omega) (by omega) (by omega))
  have q1 : decide ((0 : Int) < c1) = false := decide_eq_false (by omega)
  have q2 : decide ((0 : Int) ≤ c2) = false := decide_eq_false (by omega)
  have q3 : decide ((0 : Int) < c3) = false := decide_eq_false (by omega)
  have q4 : decide (c4 < (0 : Int)) = false := decide_eq_false (by omega)
  have q5 : decide (c5 < (0 : Int)) = true := decide_eq_true (by omega)
  have q6 : decide (c6 < (0 : Int)) = true := decide_eq_true (by omega)
  clear g1 g2 g3 g4 g5' g6'
  generalize hK : bitsOf k = K at *
  clear e1 e2 e3 e4 e5 e6 hb1 hf0 hl0 hh0 hK
  go_enter Tryz.func3, Tryz.ntmps3
  go_wp2_with fail
  obtain ⟨w1, e1, o1, b1, s1⟩ := layA w0 [.int .i64 n1, .int .i64 d1] 23
  rw [e1]
  refine region_inv_lit 6 (by kernel_rfl) (by kernel_rfl) (RndI w0 x n1 d1 _ _ _ _ _ _ _ _ _ _ _ _ _ _ _ _ _ _ _ _ _ _ _ _ _ _ _ _ _ _ _ _ _ _ _ _ _ _ _ _ _ _ _ _ _ _ _ _ _ _ _ _ _ _ _ _ _ _ _ _ _ _ _ _ _ _ _ _ _ _ _ _ _ _ _ _ _ _ _ _ _ _ _ _ _ _ _ _ _ _ _ _ _ _ _ _ _ _ _ _ _) ⟨_, _, _, _, _, _, rfl, b1.drew, ⟨o1, trivial⟩, by simp, by simp, by simp, by simp, by simp, by simp, by simp⟩ ?_ ?_
  · simp only [List.take_succ_cons, List.take_zero]
    refine ⟨?_, ?_, ?_, ?_, ?_, ?_, trivial⟩
    · rintro L a wz ⟨x5, x6, x13, x14, x15, x16, rfl, HB, ⟨p1, tt⟩, h0, h1, h2, h3, h4, h5, n4_5⟩ hpre
      have c0 := p1.cell (i := 0) rfl
      have c1 := p1.cell (i := 1) rfl
      go_wp2
      exact ⟨_, _, _, _, _, _, rfl, HB, ⟨p1, tt⟩, fun _ => rfl, fun h => h1 (upd_of h (by decide)), fun h => (by first | exact h2 (upd_of h (by decide)) | rfl), fun h => h3 (upd_of h (by decide)), fun h => h4 (upd_of h (by decide)), fun h => h5 (upd_of h (by decide)), fun h h' => n4_5 (upd_of h (by decide)) (upd_of h' (by decide))⟩
    · rintro L a wz ⟨x5, x6, x13, x14, x15, x16, rfl, HB, ⟨p1, tt⟩, h0, h1, h2, h3, h4, h5, n4_5⟩ hpre
      have q0 := h0 (hpre 0 (by decide))
      subst q0
      go_wp2_with fail
      refine Calls.mono (HOR.out wz) ?_
      rintro e wy ⟨v, rfl, hv, hb⟩
      go_wp2
      exact ⟨_, _, _, _, _, _, rfl, HB.trans (hb.mono HB.size), ⟨(p1).gone hb, (by have _u := tt; trivial)⟩, fun h => (by first | exact h0 (upd_of h (by decide)) | rfl), fun _ => hv, fun h => (by first | exact h2 (upd_of h (by decide)) | rfl), fun h => (h3 (upd_of h (by decide))).below hb, fun h => (h4 (upd_of h (by decide))).gone hb, fun h => (h5 (upd_of h (by decide))).gone hb, fun h h' => n4_5 (upd_of h (by decide)) (upd_of h' (by decide))⟩
    · rintro L a wz ⟨x5, x6, x13, x14, x15, x16, rfl, HB, ⟨p1, tt⟩, h0, h1, h2, h3, h4, h5, n4_5⟩ hpre
      have c0 := p1.cell (i := 0) rfl
      have c1 := p1.cell (i := 1) rfl
      go_wp2
      exact ⟨_, _, _, _, _, _, rfl, HB, ⟨p1, tt⟩, fun h => (by first | exact h0 (upd_of h (by decide)) | rfl), fun h => h1 (upd_of h (by decide)), fun _ => rfl, fun h => h3 (upd_of h (by decide)), fun h => h4 (upd_of h (by decide)), fun h => h5 (upd_of h (by decide)), fun h h' => n4_5 (upd_of h (by decide)) (upd_of h' (by decide))⟩
    · rintro L a wz ⟨x5, x6, x13, x14, x15, x16, rfl, HB, ⟨p1, tt⟩, h0, h1, h2, h3, h4, h5, n4_5⟩ hpre
      have q2 := h2 (hpre 2 (by decide))
      subst q2
      go_wp2_with fail
      refine Calls.mono (HOF.out wz) ?_
      rintro e wy ⟨v, rfl, hv, hb⟩
      go_wp2
      exact ⟨_, _, _, _, _, _, rfl, HB.trans (hb.mono HB.size), ⟨(p1).gone hb, (by have _u := tt; trivial)⟩, fun h => (by first | exact h0 (upd_of h (by decide)) | rfl), fun h => (h1 (upd_of h (by decide))).below hb, fun h => (by first | exact h2 (upd_of h (by decide)) | rfl), fun _ => hv, fun h => (h4 (upd_of h (by decide))).gone hb, fun h => (h5 (upd_of h (by decide))).gone hb, fun h h' => n4_5 (upd_of h (by decide)) (upd_of h' (by decide))⟩
    · rintro L a wz ⟨x5, x6, x13, x14, x15, x16, rfl, HB, ⟨p1, tt⟩, h0, h1, h2, h3, h4, h5, n4_5⟩ hpre
      have hb := below_alloc wz #[.bool false, .slice none 0 0, .slice none 0 0] 27
      have hlt := p1.lt
      go_wp2
      exact ⟨_, _, _, _, _, _, rfl, HB.trans (hb.mono HB.size), ⟨(p1).gone hb, (by have _u := tt; trivial)⟩, fun h => (by first | exact h0 (upd_of h (by decide)) | rfl), fun h => (h1 (upd_of h (by decide))).below hb, fun h => (by first | exact h2 (upd_of h (by decide)) | rfl), fun h => (h3 (upd_of h (by decide))).below hb, fun _ => NewA.new (by omega), fun h => (h5 (upd_of h (by decide))).gone hb, fun _ h => ((h5 (upd_of h (by decide))).ne).symm⟩
    · rintro L a wz ⟨x5, x6, x13, x14, x15, x16, rfl, HB, ⟨p1, tt⟩, h0, h1, h2, h3, h4, h5, n4_5⟩ hpre
      have hb := below_alloc wz #[.bool false, .slice none 0 0, .slice none 0 0] 31
      have hlt := p1.lt
      go_wp2
      exact ⟨_, _, _, _, _, _, rfl, HB.trans (hb.mono HB.size), ⟨(p1).gone hb, (by have _u := tt; trivial)⟩, fun h => (by first | exact h0 (upd_of h (by decide)) | rfl), fun h => (h1 (upd_of h (by decide))).below hb, fun h => (by first | exact h2 (upd_of h (by decide)) | rfl), fun h => (h3 (upd_of h (by decide))).below hb, fun h => (h4 (upd_of h (by decide))).gone hb, fun _ => NewA.new (by omega), fun h _ => (h4 (upd_of h (by decide))).ne⟩
  · intro L a wz hI hall
    simp only [List.drop_succ_cons, List.drop_zero]
    obtain ⟨x5, x6, x13, x14, x15, x16, rfl, HB, ⟨p1, tt⟩, h0, h1, h2, h3, h4, h5, n4_5⟩ := hI
    clear e1 o1 b1 s1
    obtain ⟨g5, rfl, hg5, ox⟩ := h4 (hall 4 (by omega))
    obtain ⟨g6, rfl, hg6, op⟩ := h5 (hall 5 (by omega))
    have m56 := ptr_ne (n4_5 (hall 4 (by omega)) (hall 5 (by omega)))
    have m65 := m56.symm
    have hx := h1 (hall 1 (by omega))
    have hp := h3 (hall 3 (by omega))
    clear h0 h1 h2 h3 h4 h5 n4_5 hall p1
    obtain ⟨vx1, vx2, rfl, hxa, hxb⟩ := id hx
    obtain ⟨Ax1, cx1, rfl, _⟩ := id hxa
    obtain ⟨Ax2, cx2, rfl, _⟩ := id hxb
    obtain ⟨vp1, vp2, rfl, hpa, hpb⟩ := id hp
    obtain ⟨Ap1, cp1, rfl, _⟩ := id hpa
    obtain ⟨Ap2, cp2, rfl, _⟩ := id hpb
    clear hxa hxb hpa hpb
    have kx0 := ox.cell (i := 0) rfl
    have fx0 := ox.fz 0
    have kx1 := ox.cell (i := 1) rfl
    have fx1 := ox.fz 1
    have kx2 := ox.cell (i := 2) rfl
    have fx2 := ox.fz 2
    have kp0 := op.cell (i := 0) rfl
    have fp0 := op.fz 0
    have kp1 := op.cell (i := 1) rfl
    have fp1 := op.fz 1
    have kp2 := op.cell (i := 2) rfl
    have fp2 := op.fz 2
    go_wp2_with fail
    obtain ⟨wx, ex, nx, fA, hN, hBB, _⟩ := ox.put notInt_z3 [.bool (decide (x.num < 0)), .slice Ax1 (digs b64 x.num.natAbs).length cx1, .slice Ax2 (digs b64 (denOf x.den)).length cx2] rfl notInt3
    simp only [setAll, Nat.reduceAdd] at ex
    rw [ex]
    have op := fA _ _ _ m65 op
    have ox := nx
    have HB := hBB _ (by omega) HB
    have hx := hx.into hN
    have hp := hp.into hN
    clear nx fA hBB ex hN
    obtain ⟨wp, ep, np, fA, hN, hBB, _⟩ := op.put notInt_z3 [.bool (decide (x.num < 0)), .slice Ap1 (digs b32 x.num.natAbs).length cp1, .slice Ap2 (digs b32 x.den).length cp2] rfl notInt3
    simp only [setAll, Nat.reduceAdd] at ep
    rw [ep]
    have ox := fA _ _ _ m56 ox
    have op := np
    have HB := hBB _ (by omega) HB
    have hx := hx.into hN
    have hp := hp.into hN
    clear np fA hBB ep hN
    clear kx0 fx0 kx1 fx1 kx2 fx2 kp0 fp0 kp1 fp1 kp2 fp2
    have hb5 : w0.heap.size ≤ g5 := by omega
    have hb6 : w0.heap.size ≤ g6 := by omega
    clear hg5 hg6 HOR HOF
    obtain ⟨wc, rfl⟩ : ∃ wc : World, wc = wp := ⟨_, rfl⟩
    have l5 := ox.lt
    have l6 := op.lt
    have lw := HB.size
    refine region_inv_lit 11 (by kernel_rfl) (by kernel_rfl) (RndJ w0 x f l h k wc.heap.size g5 g6 Ax1 Ax2 cx1 cx2 Ap1 Ap2 cp1 cp2 _ _ _ _ _ _ _ _ _ _ _ _ _ _ _ _ _ _ _ _ _ _ _ _ _ _ _ _ _ _ _ _ _ _ _ _ _ _ _ _ _ _ _ _ _ _ _ _ _ _ _ _ _ _ _ _ _ _ _ _ _ _ _ _ _ _ _ _ _ _ _ _ _ _ _ _ _ _ _ _ _ _ _ _ _ _ _ _ _ _ _ _ _ _ _) ⟨_, _, _, _, _, _, _, _, _, _, _, rfl, HB.drew, ⟨ox, op, hx.drew, hp.drew, (Nat.le_refl _)⟩, by simp, by simp, by simp, by simp, by simp, by simp, by simp, by simp, by simp, by simp, by simp, by simp, by simp, by simp⟩ ?_ ?_
    · simp only [List.take_succ_cons, List.take_zero]
      refine ⟨?_, ?_, ?_, ?_, ?_, ?_, ?_, ?_, ?_, ?_, ?_, trivial⟩
      · rintro L a wz ⟨x7, x8, x9, x17, x18, x19, x20, x21, x22, x23, x24, rfl, HB, ⟨ox, op, hx, hp, bs⟩, h0, h1, h2, h3, h4, h5, h6, h7, h8, h9, h10, n8_9, n8_10, n9_10⟩ hpre
        have c0 := ox.cell (i := 0) rfl
        have c1 := ox.cell (i := 1) rfl
        have c2 := ox.cell (i := 2) rfl
        go_wp2
        exact ⟨_, _, _, _, _, _, _, _, _, _, _, rfl, HB, ⟨ox, op, hx, hp, bs⟩, fun _ => rfl, fun h => h1 (upd_of h (by decide)), fun h => (by first | exact h2 (upd_of h (by decide)) | rfl), fun h => (by first | exact h3 (upd_of h (by decide)) | rfl), fun h => h4 (upd_of h (by decide)), fun h => (by first | exact h5 (upd_of h (by decide)) | rfl), fun h => (by first | exact h6 (upd_of h (by decide)) | rfl), fun h => h7 (upd_of h (by decide)), fun h => h8 (upd_of h (by decide)), fun h => h9 (upd_of h (by decide)), fun h => h10 (upd_of h (by decide)), fun h h' => n8_9 (upd_of h (by decide)) (upd_of h' (by decide)), fun h h' => n8_10 (upd_of h (by decide)) (upd_of h' (by decide)), fun h h' => n9_10 (upd_of h (by decide)) (upd_of h' (by decide))⟩
      · rintro L a wz ⟨x7, x8, x9, x17, x18, x19, x20, x21, x22, x23, x24, rfl, HB, ⟨ox, op, hx, hp, bs⟩, h0, h1, h2, h3, h4, h5, h6, h7, h8, h9, h10, n8_9, n8_10, n9_10⟩ hpre
        have q0 := h0 (hpre 0 (by decide))
        subst q0
        go_wp2_with fail
        refine Calls.mono (HFL.out wz _ hx) ?_
        rintro e wy ⟨v, rfl, hv, hb⟩
        go_wp2
        exact ⟨_, _, _, _, _, _, _, _, _, _, _, rfl, HB.trans (hb.mono HB.size), ⟨(ox).gone hb, (op).gone hb, (hx).below hb, (hp).below hb, Nat.le_trans bs hb.size⟩, fun h => (by first | exact h0 (upd_of h (by decide)) | rfl), fun _ => hv, fun h => (by first | exact h2 (upd_of h (by decide)) | rfl), fun h => (by first | exact h3 (upd_of h (by decide)) | rfl), fun h => (h4 (upd_of h (by decide))).below hb, fun h => (by first | exact h5 (upd_of h (by decide)) | rfl), fun h => (by first | exact h6 (upd_of h (by decide)) | rfl), fun h => (h7 (upd_of h (by decide))).below hb, fun h => (h8 (upd_of h (by decide))).gone hb, fun h => (h9 (upd_of h (by decide))).gone hb, fun h => (h10 (upd_of h (by decide))).gone hb, fun h h' => n8_9 (upd_of h (by decide)) (upd_of h' (by decide)), fun h h' => n8_10 (upd_of h (by decide)) (upd_of h' (by decide)), fun h h' => n9_10 (upd_of h (by decide)) (upd_of h' (by decide))⟩
      · rintro L a wz ⟨x7, x8, x9, x17, x18, x19, x20, x21, x22, x23, x24, rfl, HB, ⟨ox, op, hx, hp, bs⟩, h0, h1, h2, h3, h4, h5, h6, h7, h8, h9, h10, n8_9, n8_10, n9_10⟩ hpre
        have c0 := ox.cell (i := 0) rfl
        have c1 := ox.cell (i := 1) rfl
        have c2 := ox.cell (i := 2) rfl
        go_wp2
        exact ⟨_, _, _, _, _, _, _, _, _, _, _, rfl, HB, ⟨ox, op, hx, hp, bs⟩, fun h => (by first | exact h0 (upd_of h (by decide)) | rfl), fun h => h1 (upd_of h (by decide)), fun _ => rfl, fun h => (by first | exact h3 (upd_of h (by decide)) | rfl), fun h => h4 (upd_of h (by decide)), fun h => (by first | exact h5 (upd_of h (by decide)) | rfl), fun h => (by first | exact h6 (upd_of h (by decide)) | rfl), fun h => h7 (upd_of h (by decide)), fun h => h8 (upd_of h (by decide)), fun h => h9 (upd_of h (by decide)), fun h => h10 (upd_of h (by decide)), fun h h' => n8_9 (upd_of h (by decide)) (upd_of h' (by decide)), fun h h' => n8_10 (upd_of h (by decide)) (upd_of h' (by decide)), fun h h' => n9_10 (upd_of h (by decide)) (upd_of h' (by decide))⟩
      · rintro L a wz ⟨x7, x8, x9, x17, x18, x19, x20, x21, x22, x23, x24, rfl, HB, ⟨ox, op, hx, hp, bs⟩, h0, h1, h2, h3, h4, h5, h6, h7, h8, h9, h10, n8_9, n8_10, n9_10⟩ hpre
        go_wp2
        exact ⟨_, _, _, _, _, _, _, _, _, _, _, rfl, HB, ⟨ox, op, hx, hp, bs⟩, fun h => (by first | exact h0 (upd_of h (by decide)) | rfl), fun h => h1 (upd_of h (by decide)), fun h => (by first | exact h2 (upd_of h (by decide)) | rfl), fun _ => rfl, fun h => h4 (upd_of h (by decide)), fun h => (by first | exact h5 (upd_of h (by decide)) | rfl), fun h => (by first | exact h6 (upd_of h (by decide)) | rfl), fun h => h7 (upd_of h (by decide)), fun h => h8 (upd_of h (by decide)), fun h => h9 (upd_of h (by decide)), fun h => h10 (upd_of h (by decide)), fun h h' => n8_9 (upd_of h (by decide)) (upd_of h' (by decide)), fun h h' => n8_10 (upd_of h (by decide)) (upd_of h' (by decide)), fun h h' => n9_10 (upd_of h (by decide)) (upd_of h' (by decide))⟩
      · rintro L a wz ⟨x7, x8, x9, x17, x18, x19, x20, x21, x22, x23, x24, rfl, HB, ⟨ox, op, hx, hp, bs⟩, h0, h1, h2, h3, h4, h5, h6, h7, h8, h9, h10, n8_9, n8_10, n9_10⟩ hpre
        have q2 := h2 (hpre 2 (by decide))
        subst q2
        have q3 := h3 (hpre 3 (by decide))
        subst q3
        go_wp2_with fail
        refine Calls.mono (HDN.out wz _ hx) ?_
        rintro e wy ⟨v, rfl, hv, hb⟩
        go_wp2
        exact ⟨_, _, _, _, _, _, _, _, _, _, _, rfl, HB.trans (hb.mono HB.size), ⟨(ox).gone hb, (op).gone hb, (hx).below hb, (hp).below hb, Nat.le_trans bs hb.size⟩, fun h => (by first | exact h0 (upd_of h (by decide)) | rfl), fun h => (h1 (upd_of h (by decide))).below hb, fun h => (by first | exact h2 (upd_of h (by decide)) | rfl), fun h => (by first | exact h3 (upd_of h (by decide)) | rfl), fun _ => hv, fun h => (by first | exact h5 (upd_of h (by decide)) | rfl), fun h => (by first | exact h6 (upd_of h (by decide)) | rfl), fun h => (h7 (upd_of h (by decide))).below hb, fun h => (h8 (upd_of h (by decide))).gone hb, fun h => (h9 (upd_of h (by decide))).gone hb, fun h => (h10 (upd_of h (by decide))).gone hb, fun h h' => n8_9 (upd_of h (by decide)) (upd_of h' (by decide)), fun h h' => n8_10 (upd_of h (by decide)) (upd_of h' (by decide)), fun h h' => n9_10 (upd_of h (by decide)) (upd_of h' (by decide))⟩
      · rintro L a wz ⟨x7, x8, x9, x17, x18, x19, x20, x21, x22, x23, x24, rfl, HB, ⟨ox, op, hx, hp, bs⟩, h0, h1, h2, h3, h4, h5, h6, h7, h8, h9, h10, n8_9, n8_10, n9_10⟩ hpre
        have c0 := ox.cell (i := 0) rfl
        have c1 := ox.cell (i := 1) rfl
        have c2 := ox.cell (i := 2) rfl
        go_wp2
        exact ⟨_, _, _, _, _, _, _, _, _, _, _, rfl, HB, ⟨ox, op, hx, hp, bs⟩, fun h => (by first | exact h0 (upd_of h (by decide)) | rfl), fun h => h1 (upd_of h (by decide)), fun h => (by first | exact h2 (upd_of h (by decide)) | rfl), fun h => (by first | exact h3 (upd_of h (by decide)) | rfl), fun h => h4 (upd_of h (by decide)), fun _ => rfl, fun h => (by first | exact h6 (upd_of h (by decide)) | rfl), fun h => h7 (upd_of h (by decide)), fun h => h8 (upd_of h (by decide)), fun h => h9 (upd_of h (by decide)), fun h => h10 (upd_of h (by decide)), fun h h' => n8_9 (upd_of h (by decide)) (upd_of h' (by decide)), fun h h' => n8_10 (upd_of h (by decide)) (upd_of h' (by decide)), fun h h' => n9_10 (upd_of h (by decide)) (upd_of h' (by decide))⟩
      · rintro L a wz ⟨x7, x8, x9, x17, x18, x19, x20, x21, x22, x23, x24, rfl, HB, ⟨ox, op, hx, hp, bs⟩, h0, h1, h2, h3, h4, h5, h6, h7, h8, h9, h10, n8_9, n8_10, n9_10⟩ hpre
        go_wp2
        exact ⟨_, _, _, _, _, _, _, _, _, _, _, rfl, HB, ⟨ox, op, hx, hp, bs⟩, fun h => (by first | exact h0 (upd_of h (by decide)) | rfl), fun h => h1 (upd_of h (by decide)), fun h => (by first | exact h2 (upd_of h (by decide)) | rfl), fun h => (by first | exact h3 (upd_of h (by decide)) | rfl), fun h => h4 (upd_of h (by decide)), fun h => (by first | exact h5 (upd_of h (by decide)) | rfl), fun _ => rfl, fun h => h7 (upd_of h (by decide)), fun h => h8 (upd_of h (by decide)), fun h => h9 (upd_of h (by decide)), fun h => h10 (upd_of h (by decide)), fun h h' => n8_9 (upd_of h (by decide)) (upd_of h' (by decide)), fun h h' => n8_10 (upd_of h (by decide)) (upd_of h' (by decide)), fun h h' => n9_10 (upd_of h (by decide)) (upd_of h' (by decide))⟩
      · rintro L a wz ⟨x7, x8, x9, x17, x18, x19, x20, x21, x22, x23, x24, rfl, HB, ⟨ox, op, hx, hp, bs⟩, h0, h1, h2, h3, h4, h5, h6, h7, h8, h9, h10, n8_9, n8_10, n9_10⟩ hpre
        have q5 := h5 (hpre 5 (by decide))
        subst q5
        have q6 := h6 (hpre 6 (by decide))
        subst q6
        go_wp2_with fail
        refine Calls.mono (HUP.out wz _ hx) ?_
        rintro e wy ⟨v, rfl, hv, hb⟩
        go_wp2
        exact ⟨_, _, _, _, _, _, _, _, _, _, _, rfl, HB.trans (hb.mono HB.size), ⟨(ox).gone hb, (op).gone hb, (hx).below hb, (hp).below hb, Nat.le_trans bs hb.size⟩, fun h => (by first | exact h0 (upd_of h (by decide)) | rfl), fun h => (h1 (upd_of h (by decide))).below hb, fun h => (by first | exact h2 (upd_of h (by decide)) | rfl), fun h => (by first | exact h3 (upd_of h (by decide)) | rfl), fun h => (h4 (upd_of h (by decide))).below hb, fun h => (by first | exact h5 (upd_of h (by decide)) | rfl), fun h => (by first | exact h6 (upd_of h (by decide)) | rfl), fun _ => hv, fun h => (h8 (upd_of h (by decide))).gone hb, fun h => (h9 (upd_of h (by decide))).gone hb, fun h => (h10 (upd_of h (by decide))).gone hb, fun h h' => n8_9 (upd_of h (by decide)) (upd_of h' (by decide)), fun h h' => n8_10 (upd_of h (by decide)) (upd_of h' (by decide)), fun h h' => n9_10 (upd_of h (by decide)) (upd_of h' (by decide))⟩
      · rintro L a wz ⟨x7, x8, x9, x17, x18, x19, x20, x21, x22, x23, x24, rfl, HB, ⟨ox, op, hx, hp, bs⟩, h0, h1, h2, h3, h4, h5, h6, h7, h8, h9, h10, n8_9, n8_10, n9_10⟩ hpre
        have hb := below_alloc wz #[.bool false, .slice none 0 0, .slice none 0 0] 27
        go_wp2
        exact ⟨_, _, _, _, _, _, _, _, _, _, _, rfl, HB.trans (hb.mono HB.size), ⟨(ox).gone hb, (op).gone hb, (hx).below hb, (hp).below hb, Nat.le_trans bs hb.size⟩, fun h => (by first | exact h0 (upd_of h (by decide)) | rfl), fun h => (h1 (upd_of h (by decide))).below hb, fun h => (by first | exact h2 (upd_of h (by decide)) | rfl), fun h => (by first | exact h3 (upd_of h (by decide)) | rfl), fun h => (h4 (upd_of h (by decide))).below hb, fun h => (by first | exact h5 (upd_of h (by decide)) | rfl), fun h => (by first | exact h6 (upd_of h (by decide)) | rfl), fun h => (h7 (upd_of h (by decide))).below hb, fun _ => NewA.new bs, fun h => (h9 (upd_of h (by decide))).gone hb, fun h => (h10 (upd_of h (by decide))).gone hb, fun _ h => ((h9 (upd_of h (by decide))).ne).symm, fun _ h => ((h10 (upd_of h (by decide))).ne).symm, fun h h' => n9_10 (upd_of h (by decide)) (upd_of h' (by decide))⟩
      · rintro L a wz ⟨x7, x8, x9, x17, x18, x19, x20, x21, x22, x23, x24, rfl, HB, ⟨ox, op, hx, hp, bs⟩, h0, h1, h2, h3, h4, h5, h6, h7, h8, h9, h10, n8_9, n8_10, n9_10⟩ hpre
        have hb := below_alloc wz #[.bool false, .slice none 0 0, .slice none 0 0] 27
        go_wp2
        exact ⟨_, _, _, _, _, _, _, _, _, _, _, rfl, HB.trans (hb.mono HB.size), ⟨(ox).gone hb, (op).gone hb, (hx).below hb, (hp).below hb, Nat.le_trans bs hb.size⟩, fun h => (by first | exact h0 (upd_of h (by decide)) | rfl), fun h => (h1 (upd_of h (by decide))).below hb, fun h => (by first | exact h2 (upd_of h (by decide)) | rfl), fun h => (by first | exact h3 (upd_of h (by decide)) | rfl), fun h => (h4 (upd_of h (by decide))).below hb, fun h => (by first | exact h5 (upd_of h (by decide)) | rfl), fun h => (by first | exact h6 (upd_of h (by decide)) | rfl), fun h => (h7 (upd_of h (by decide))).below hb, fun h => (h8 (upd_of h (by decide))).gone hb, fun _ => NewA.new bs, fun h => (h10 (upd_of h (by decide))).gone hb, fun h _ => (h8 (upd_of h (by decide))).ne, fun h h' => n8_10 (upd_of h (by decide)) (upd_of h' (by decide)), fun _ h => ((h10 (upd_of h (by decide))).ne).symm⟩
      · rintro L a wz ⟨x7, x8, x9, x17, x18, x19, x20, x21, x22, x23, x24, rfl, HB, ⟨ox, op, hx, hp, bs⟩, h0, h1, h2, h3, h4, h5, h6, h7, h8, h9, h10, n8_9, n8_10, n9_10⟩ hpre
        have hb := below_alloc wz #[.bool false, .slice none 0 0, .slice none 0 0] 27
        go_wp2
        exact ⟨_, _, _, _, _, _, _, _, _, _, _, rfl, HB.trans (hb.mono HB.size), ⟨(ox).gone hb, (op).gone hb, (hx).below hb, (hp).below hb, Nat.le_trans bs hb.size⟩, fun h => (by first | exact h0 (upd_of h (by decide)) | rfl), fun h => (h1 (upd_of h (by decide))).below hb, fun h => (by first | exact h2 (upd_of h (by decide)) | rfl), fun h => (by first | exact h3 (upd_of h (by decide)) | rfl), fun h => (h4 (upd_of h (by decide))).below hb, fun h => (by first | exact h5 (upd_of h (by decide)) | rfl), fun h => (by first | exact h6 (upd_of h (by decide)) | rfl), fun h => (h7 (upd_of h (by decide))).below hb, fun h => (h8 (upd_of h (by decide))).gone hb, fun h => (h9 (upd_of h (by decide))).gone hb, fun _ => NewA.new bs, fun h h' => n8_9 (upd_of h (by decide)) (upd_of h' (by decide)), fun h _ => (h8 (upd_of h (by decide))).ne, fun h _ => (h9 (upd_of h (by decide))).ne⟩
    · intro L a wz hI hall
      simp only [List.drop_succ_cons, List.drop_zero]
      clear ox op hx hp HB
      obtain ⟨x7, x8, x9, x17, x18, x19, x20, x21, x22, x23, x24, rfl, HB, ⟨ox, op, hx, hp, bs⟩, h0, h1, h2, h3, h4, h5, h6, h7, h8, h9, h10, n8_9, n8_10, n9_10⟩ := hI
      obtain ⟨g7, rfl, hg7, of⟩ := h8 (hall 8 (by omega))
      obtain ⟨g8, rfl, hg8, ol⟩ := h9 (hall 9 (by omega))
      obtain ⟨g9, rfl, hg9, oh⟩ := h10 (hall 10 (by omega))
      have m78 := ptr_ne (n8_9 (hall 8 (by omega)) (hall 9 (by omega)))
      have m79 := ptr_ne (n8_10 (hall 8 (by omega)) (hall 10 (by omega)))
      have m89 := ptr_ne (n9_10 (hall 9 (by omega)) (hall 10 (by omega)))
      have m87 := m78.symm
      have m97 := m79.symm
      have m98 := m89.symm
      have m57 : g5 ≠ g7 := by omega
      have m58 : g5 ≠ g8 := by omega
      have m59 : g5 ≠ g9 := by omega
      have m67 : g6 ≠ g7 := by omega
      have m68 : g6 ≠ g8 := by omega
      have m69 : g6 ≠ g9 := by omega
      have hf := h1 (hall 1 (by omega))
      have hl := h4 (hall 4 (by omega))
      have hh := h7 (hall 7 (by omega))
      clear h0 h1 h2 h3 h4 h5 h6 h7 h8 h9 h10 n8_9 n8_10 n9_10 hall
      obtain ⟨vf1, vf2, rfl, hfa, hfb⟩ := id hf
      obtain ⟨Af1, cf1, rfl, _⟩ := id hfa
      obtain ⟨Af2, cf2, rfl, _⟩ := id hfb
      obtain ⟨vl1, vl2, rfl, hla, hlb⟩ := id hl
      obtain ⟨Al1, cl1, rfl, _⟩ := id hla
      obtain ⟨Al2, cl2, rfl, _⟩ := id hlb
      obtain ⟨vh1, vh2, rfl, hha, hhb⟩ := id hh
      obtain ⟨Ah1, ch1, rfl, _⟩ := id hha
      obtain ⟨Ah2, ch2, rfl, _⟩ := id hhb
      clear hfa hfb hla hlb hha hhb
      have kf0 := of.cell (i := 0) rfl
      have ff0 := of.fz 0
      have kf1 := of.cell (i := 1) rfl
      have ff1 := of.fz 1
      have kf2 := of.cell (i := 2) rfl
      have ff2 := of.fz 2
      have kl0 := ol.cell (i := 0) rfl
      have fl0 := ol.fz 0
      have kl1 := ol.cell (i := 1) rfl
      have fl1 := ol.fz 1
      have kl2 := ol.cell (i := 2) rfl
      have fl2 := ol.fz 2
      have kh0 := oh.cell (i := 0) rfl
      have fh0 := oh.fz 0
      have kh1 := oh.cell (i := 1) rfl
      have fh1 := oh.fz 1
      have kh2 := oh.cell (i := 2) rfl
      have fh2 := oh.fz 2
      go_wp2_with fail
      obtain ⟨wf, ef, nf, fA, hN, hBB, _⟩ := of.put notInt_z3 [.bool (decide (f.num < 0)), .slice Af1 (digs b64 f.num.natAbs).length cf1, .slice Af2 (digs b64 (denOf f.den)).length cf2] rfl notInt3
      simp only [setAll, Nat.reduceAdd] at ef
      rw [ef]
      have ol := fA _ _ _ m87 ol
      have oh := fA _ _ _ m97 oh
      have ox := fA _ _ _ m57 ox
      have op := fA _ _ _ m67 op
      have of := nf
      have HB := hBB _ (by omega) HB
      have hx := hx.into hN
      have hp := hp.into hN
      have hf := hf.into hN
      have hl := hl.into hN
      have hh := hh.into hN
      clear nf fA hBB ef hN
      obtain ⟨wl, el, nl, fA, hN, hBB, _⟩ := ol.put notInt_z3 [.bool (decide (l.num < 0)), .slice Al1 (digs b64 l.num.natAbs).length cl1, .slice Al2 (digs b64 (denOf l.den)).length cl2] rfl notInt3
      simp only [setAll, Nat.reduceAdd] at el
      rw [el]
      have of := fA _ _ _ m78 of
      have oh := fA _ _ _ m98 oh
      have ox := fA _ _ _ m58 ox
      have op := fA _ _ _ m68 op
      have ol := nl
      have HB := hBB _ (by omega) HB
      have hx := hx.into hN
      have hp := hp.into hN
      have hf := hf.into hN
      have hl := hl.into hN
      have hh := hh.into hN
      clear nl fA hBB el hN
      obtain ⟨wh, eh, nh, fA, hN, hBB, _⟩ := oh.put notInt_z3 [.bool (decide (h.num < 0)), .slice Ah1 (digs b64 h.num.natAbs).length ch1, .slice Ah2 (digs b64 (denOf h.den)).length ch2] rfl notInt3
      simp only [setAll, Nat.reduceAdd] at eh
      rw [eh]
      have of := fA _ _ _ m79 of
      have ol := fA _ _ _ m89 ol
      have ox := fA _ _ _ m59 ox
      have op := fA _ _ _ m69 op
      have oh := nh
      have HB := hBB _ (by omega) HB
      have hx := hx.into hN
      have hp := hp.into hN
      have hf := hf.into hN
      have hl := hl.into hN
      have hh := hh.into hN
      clear nh fA hBB eh hN
      clear kf0 ff0 kf1 ff1 kf2 ff2 kl0 fl0 kl1 fl1 kl2 fl2 kh0 fh0 kh1 fh1 kh2 fh2
      clear HFL HDN HUP bs m56 m65 m57 m58 m59 m67 m68 m69 m78 m79 m89 m87 m97 m98 hg7 hg8 hg9 l5 l6 lw hb5 hb6
      obtain ⟨wc, rfl⟩ : ∃ wc : World, wc = wh := ⟨_, rfl⟩
      go_wp2_with fail
      go_cut [71] (fun v71 wx => v71 = .bool false ∧ HeldQ w0 [(g5, [.bool (decide (x.num < 0)), .slice Ax1 (digs b64 x.num.natAbs).length cx1, .slice Ax2 (digs b64 (denOf x.den)).length cx2], 27), (g6, [.bool (decide (x.num < 0)), .slice Ap1 (digs b32 x.num.natAbs).length cp1, .slice Ap2 (digs b32 x.den).length cp2], 31), (g7, [.bool (decide (f.num < 0)), .slice Af1 (digs b64 f.num.natAbs).length cf1, .slice Af2 (digs b64 (denOf f.den)).length cf2], 27), (g8, [.bool (decide (l.num < 0)), .slice Al1 (digs b64 l.num.natAbs).length cl1, .slice Al2 (digs b64 (denOf l.den)).length cl2], 27), (g9, [.bool (decide (h.num < 0)), .slice Ah1 (digs b64 h.num.natAbs).length ch1, .slice Ah2 (digs b64 (denOf h.den)).length ch2], 27)] wx ∧ IsRat wx (.agg #[.bool (decide (x.num < 0)), .slice Ax1 (digs b64 x.num.natAbs).length cx1, .slice Ax2 (digs b64 (denOf x.den)).length cx2]) x ∧ IsRef wx (.agg #[.bool (decide (x.num < 0)), .slice Ap1 (digs b32 x.num.natAbs).length cp1, .slice Ap2 (digs b32 x.den).length cp2]) x ∧ IsRat wx (.agg #[.bool (decide (f.num < 0)), .slice Af1 (digs b64 f.num.natAbs).length cf1, .slice Af2 (digs b64 (denOf f.den)).length cf2]) f ∧ IsRat wx (.agg #[.bool (decide (l.num < 0)), .slice Al1 (digs b64 l.num.natAbs).length cl1, .slice Al2 (digs b64 (denOf l.den)).length cl2]) l ∧ IsRat wx (.agg #[.bool (decide (h.num < 0)), .slice Ah1 (digs b64 h.num.natAbs).length ch1, .slice Ah2 (digs b64 (denOf h.den)).length ch2]) h)
      case first =>
        have B := HB
        have HF1 := bx (HXF.out.add (show BdR 64 1 from ⟨by show Bd 64 1; unfold Bd; omega, by show Bd 64 1; unfold Bd; omega⟩))
        have HONE : Bx (BdR 64 1) := bx ⟨by show Bd 64 1; unfold Bd; omega, by show Bd 64 1; unfold Bd; omega⟩
        have hS : ∀ w', HeldQ w0 [(g5, [.bool (decide (x.num < 0)), .slice Ax1 (digs b64 x.num.natAbs).length cx1, .slice Ax2 (digs b64 (denOf x.den)).length cx2], 27), (g6, [.bool (decide (x.num < 0)), .slice Ap1 (digs b32 x.num.natAbs).length cp1, .slice Ap2 (digs b32 x.den).length cp2], 31), (g7, [.bool (decide (f.num < 0)), .slice Af1 (digs b64 f.num.natAbs).length cf1, .slice Af2 (digs b64 (denOf f.den)).length cf2], 27), (g8, [.bool (decide (l.num < 0)), .slice Al1 (digs b64 l.num.natAbs).length cl1, .slice Al2 (digs b64 (denOf l.den)).length cl2], 27), (g9, [.bool (decide (h.num < 0)), .slice Ah1 (digs b64 h.num.natAbs).length ch1, .slice Ah2 (digs b64 (denOf h.den)).length ch2], 27)] w' → HeldQ w0 [(g5, [.bool (decide (x.num < 0)), .slice Ax1 (digs b64 x.num.natAbs).length cx1, .slice Ax2 (digs b64 (denOf x.den)).length cx2], 27), (g6, [.bool (decide (x.num < 0)), .slice Ap1 (digs b32 x.num.natAbs).length cp1, .slice Ap2 (digs b32 x.den).length cp2], 31), (g7, [.bool (decide (f.num < 0)), .slice Af1 (digs b64 f.num.natAbs).length cf1, .slice Af2 (digs b64 (denOf f.den)).length cf2], 27), (g8, [.bool (decide (l.num < 0)), .slice Al1 (digs b64 l.num.natAbs).length cl1, .slice Al2 (digs b64 (denOf l.den)).length cl2], 27), (g9, [.bool (decide (h.num < 0)), .slice Ah1 (digs b64 h.num.natAbs).length ch1, .slice Ah2 (digs b64 (denOf h.den)).length ch2], 27)] w' ∧ w'.cell? ⟨g5, 0, none⟩ = some (.bool (decide (x.num < 0))) ∧ w'.cell? ⟨g5, 1, none⟩ = some (.slice Ax1 (digs b64 x.num.natAbs).length cx1) ∧ w'.cell? ⟨g5, 2, none⟩ = some (.slice Ax2 (digs b64 (denOf x.den)).length cx2) ∧ w'.cell? ⟨g6, 0, none⟩ = some (.bool (decide (x.num < 0))) ∧ w'.cell? ⟨g6, 1, none⟩ = some (.slice Ap1 (digs b32 x.num.natAbs).length cp1) ∧ w'.cell? ⟨g6, 2, none⟩ = some (.slice Ap2 (digs b32 x.den).length cp2) ∧ w'.cell? ⟨g7, 0, none⟩ = some (.bool (decide (f.num < 0))) ∧ w'.cell? ⟨g7, 1, none⟩ = some (.slice Af1 (digs b64 f.num.natAbs).length cf1) ∧ w'.cell? ⟨g7, 2, none⟩ = some (.slice Af2 (digs b64 (denOf f.den)).length cf2) ∧ w'.cell? ⟨g8, 0, none⟩ = some (.bool (decide (l.num < 0))) ∧ w'.cell? ⟨g8, 1, none⟩ = some (.slice Al1 (digs b64 l.num.natAbs).length cl1) ∧ w'.cell? ⟨g8, 2, none⟩ = some (.slice Al2 (digs b64 (denOf l.den)).length cl2) ∧ w'.cell? ⟨g9, 0, none⟩ = some (.bool (decide (h.num < 0))) ∧ w'.cell? ⟨g9, 1, none⟩ = some (.slice Ah1 (digs b64 h.num.natAbs).length ch1) ∧ w'.cell? ⟨g9, 2, none⟩ = some (.slice Ah2 (digs b64 (denOf h.den)).length ch2) := fun w' hh => by
          have r0 := hh.at_ (p := (g5, [.bool (decide (x.num < 0)), .slice Ax1 (digs b64 x.num.natAbs).length cx1, .slice Ax2 (digs b64 (denOf x.den)).length cx2], 27)) (by simp)
          have r1 := hh.at_ (p := (g6, [.bool (decide (x.num < 0)), .slice Ap1 (digs b32 x.num.natAbs).length cp1, .slice Ap2 (digs b32 x.den).length cp2], 31)) (by simp)
          have r2 := hh.at_ (p := (g7, [.bool (decide (f.num < 0)), .slice Af1 (digs b64 f.num.natAbs).length cf1, .slice Af2 (digs b64 (denOf f.den)).length cf2], 27)) (by simp)
          have r3 := hh.at_ (p := (g8, [.bool (decide (l.num < 0)), .slice Al1 (digs b64 l.num.natAbs).length cl1, .slice Al2 (digs b64 (denOf l.den)).length cl2], 27)) (by simp)
          have r4 := hh.at_ (p := (g9, [.bool (decide (h.num < 0)), .slice Ah1 (digs b64 h.num.natAbs).length ch1, .slice Ah2 (digs b64 (denOf h.den)).length ch2], 27)) (by simp)
          exact ⟨hh, r0.cell (i := 0) rfl, r0.cell (i := 1) rfl, r0.cell (i := 2) rfl, r1.cell (i := 0) rfl, r1.cell (i := 1) rfl, r1.cell (i := 2) rfl, r2.cell (i := 0) rfl, r2.cell (i := 1) rfl, r2.cell (i := 2) rfl, r3.cell (i := 0) rfl, r3.cell (i := 1) rfl, r3.cell (i := 2) rfl, r4.cell (i := 0) rfl, r4.cell (i := 1) rfl, r4.cell (i := 2) rfl⟩
        have hz : HeldQ w0 [(g5, [.bool (decide (x.num < 0)), .slice Ax1 (digs b64 x.num.natAbs).length cx1, .slice Ax2 (digs b64 (denOf x.den)).length cx2], 27), (g6, [.bool (decide (x.num < 0)), .slice Ap1 (digs b32 x.num.natAbs).length cp1, .slice Ap2 (digs b32 x.den).length cp2], 31), (g7, [.bool (decide (f.num < 0)), .slice Af1 (digs b64 f.num.natAbs).length cf1, .slice Af2 (digs b64 (denOf f.den)).length cf2], 27), (g8, [.bool (decide (l.num < 0)), .slice Al1 (digs b64 l.num.natAbs).length cl1, .slice Al2 (digs b64 (denOf l.den)).length cl2], 27), (g9, [.bool (decide (h.num < 0)), .slice Ah1 (digs b64 h.num.natAbs).length ch1, .slice Ah2 (digs b64 (denOf h.den)).length ch2], 27)] wc := ⟨B, by intro p hp; simp at hp; rcases hp with rfl | rfl | rfl | rfl | rfl; exact ox; exact op; exact of; exact ol; exact oh⟩
        have hz := hz.drew
        have hx := hx.drew
        have hp := hp.drew
        have hf := hf.drew
        have hl := hl.drew
        have hh := hh.drew
        have tk0 : True := trivial
        go_region_held3 (fun w' => HeldQ w0 [(g5, [.bool (decide (x.num < 0)), .slice Ax1 (digs b64 x.num.natAbs).length cx1, .slice Ax2 (digs b64 (denOf x.den)).length cx2], 27), (g6, [.bool (decide (x.num < 0)), .slice Ap1 (digs b32 x.num.natAbs).length cp1, .slice Ap2 (digs b32 x.den).length cp2], 31), (g7, [.bool (decide (f.num < 0)), .slice Af1 (digs b64 f.num.natAbs).length cf1, .slice Af2 (digs b64 (denOf f.den)).length cf2], 27), (g8, [.bool (decide (l.num < 0)), .slice Al1 (digs b64 l.num.natAbs).length cl1, .slice Al2 (digs b64 (denOf l.den)).length cl2], 27), (g9, [.bool (decide (h.num < 0)), .slice Ah1 (digs b64 h.num.natAbs).length ch1, .slice Ah2 (digs b64 (denOf h.den)).length ch2], 27)] w' ∧ w'.cell? ⟨g5, 0, none⟩ = some (.bool (decide (x.num < 0))) ∧ w'.cell? ⟨g5, 1, none⟩ = some (.slice Ax1 (digs b64 x.num.natAbs).length cx1) ∧ w'.cell? ⟨g5, 2, none⟩ = some (.slice Ax2 (digs b64 (denOf x.den)).length cx2) ∧ w'.cell? ⟨g6, 0, none⟩ = some (.bool (decide (x.num < 0))) ∧ w'.cell? ⟨g6, 1, none⟩ = some (.slice Ap1 (digs b32 x.num.natAbs).length cp1) ∧ w'.cell? ⟨g6, 2, none⟩ = some (.slice Ap2 (digs b32 x.den).length cp2) ∧ w'.cell? ⟨g7, 0, none⟩ = some (.bool (decide (f.num < 0))) ∧ w'.cell? ⟨g7, 1, none⟩ = some (.slice Af1 (digs b64 f.num.natAbs).length cf1) ∧ w'.cell? ⟨g7, 2, none⟩ = some (.slice Af2 (digs b64 (denOf f.den)).length cf2) ∧ w'.cell? ⟨g8, 0, none⟩ = some (.bool (decide (l.num < 0))) ∧ w'.cell? ⟨g8, 1, none⟩ = some (.slice Al1 (digs b64 l.num.natAbs).length cl1) ∧ w'.cell? ⟨g8, 2, none⟩ = some (.slice Al2 (digs b64 (denOf l.den)).length cl2) ∧ w'.cell? ⟨g9, 0, none⟩ = some (.bool (decide (h.num < 0))) ∧ w'.cell? ⟨g9, 1, none⟩ = some (.slice Ah1 (digs b64 h.num.natAbs).length ch1) ∧ w'.cell? ⟨g9, 2, none⟩ = some (.slice Ah2 (digs b64 (denOf h.den)).length ch2))
          (exact hS _ hz)
          (first
            | (go_at_call 11; have _t := tk0; (with_reducible refine Calls.mono (NFL.out _ _ hp) ?_); rintro e wk ⟨v1, rfl, r1, hb⟩; have hx := hx.below hb; have hp := hp.below hb; have hf := hf.below hb; have hl := hl.below hb; have hh := hh.below hb; have hz := HeldQ.call (And.intro hz trivial) hb; clear tk0; have tk1 : True := trivial)
            | (go_at_call 10; have _t := tk1; (with_reducible refine Calls.mono (is_yes _ _ _ f hf r1 HXF.out (by omega)) ?_); rintro e wk ⟨rfl, hb⟩; have hx := hx.below hb; have hp := hp.below hb; have hf := hf.below hb; have hl := hl.below hb; have hh := hh.below hb; have hz := HeldQ.call (And.intro hz trivial) hb; clear tk1; have tk2 : True := trivial)
            | (go_at_call 12; have _t := tk2; (with_reducible refine Calls.mono (NDN.out _ _ hp) ?_); rintro e wk ⟨v2, rfl, r2, hb⟩; have hx := hx.below hb; have hp := hp.below hb; have hf := hf.below hb; have hl := hl.below hb; have hh := hh.below hb; have hz := HeldQ.call (And.intro hz trivial) hb; clear tk2; have tk3 : True := trivial)
            | (go_at_call 10; have _t := tk3; (with_reducible refine Calls.mono (is_yes _ _ _ l hl r2 HXL.out (by omega)) ?_); rintro e wk ⟨rfl, hb⟩; have hx := hx.below hb; have hp := hp.below hb; have hf := hf.below hb; have hl := hl.below hb; have hh := hh.below hb; have hz := HeldQ.call (And.intro hz trivial) hb; clear tk3; have tk4 : True := trivial)
            | (go_at_call 13; have _t := tk4; (with_reducible refine Calls.mono (NUP.out _ _ hp) ?_); rintro e wk ⟨v3, rfl, r3, hb⟩; have hx := hx.below hb; have hp := hp.below hb; have hf := hf.below hb; have hl := hl.below hb; have hh := hh.below hb; have hz := HeldQ.call (And.intro hz trivial) hb; clear tk4; have tk5 : True := trivial)
            | (go_at_call 10; have _t := tk5; (with_reducible refine Calls.mono (is_yes _ _ _ h hh r3 HXH.out (by omega)) ?_); rintro e wk ⟨rfl, hb⟩; have hx := hx.below hb; have hp := hp.below hb; have hf := hf.below hb; have hl := hl.below hb; have hh := hh.below hb; have hz := HeldQ.call (And.intro hz trivial) hb; clear tk5; have tk6 : True := trivial)
            | (go_at_call 14; have _t := tk6; (with_reducible refine Calls.mono (HCM.out f x c1 E1.out (HXF.out.mono (by omega)) (HX.out.mono (by omega)) _ _ _ hf hx) ?_); rintro e wk ⟨rfl, hb⟩; have hx := hx.below hb; have hp := hp.below hb; have hf := hf.below hb; have hl := hl.below hb; have hh := hh.below hb; have hz := HeldQ.call (And.intro hz trivial) hb; clear tk6; have tk7 : True := trivial)
            | (go_at_call 16; have _t := tk7; (with_reducible refine Calls.mono (HI.out _) ?_); rintro e wk ⟨v4, rfl, r4, hb⟩; have hx := hx.below hb; have hp := hp.below hb; have hf := hf.below hb; have hl := hl.below hb; have hh := hh.below hb; have hz := HeldQ.call (And.intro hz trivial) hb; clear tk7; have tk8 : True := trivial)
            | (go_at_call 15; have _t := tk8; (with_reducible refine Calls.mono (add_num _ _ _ f 1 hf r4 HXF.out HONE.out (by omega)) ?_); rintro e wk ⟨v5, rfl, r5, hb⟩; have hx := hx.below hb; have hp := hp.below hb; have hf := hf.below hb; have hl := hl.below hb; have hh := hh.below hb; have hz := HeldQ.call (And.intro hz trivial) hb; clear tk8; have tk9 : True := trivial)
            | (go_at_call 14; have _t := tk9; (with_reducible refine Calls.mono (HCM.out x (f + 1) c2 E2.out (HX.out.mono (by omega)) (HF1.out.mono (by omega)) _ _ _ hx r5) ?_); rintro e wk ⟨rfl, hb⟩; have hx := hx.below hb; have hp := hp.below hb; have hf := hf.below hb; have hl := hl.below hb; have hh := hh.below hb; have hz := HeldQ.call (And.intro hz trivial) hb; clear tk9; have tk10 : True := trivial)
            | (go_at_call 14; have _t := tk10; (with_reducible refine Calls.mono (HCM.out l x c3 E3.out (HXL.out.mono (by omega)) (HX.out.mono (by omega)) _ _ _ hl hx) ?_); rintro e wk ⟨rfl, hb⟩; have hx := hx.below hb; have hp := hp.below hb; have hf := hf.below hb; have hl := hl.below hb; have hh := hh.below hb; have hz := HeldQ.call (And.intro hz trivial) hb; clear tk10; have tk11 : True := trivial)
            | (go_at_call 14; have _t := tk11; (with_reducible refine Calls.mono (HCM.out h x c4 E4.out (HXH.out.mono (by omega)) (HX.out.mono (by omega)) _ _ _ hh hx) ?_); rintro e wk ⟨rfl, hb⟩; have hx := hx.below hb; have hp := hp.below hb; have hf := hf.below hb; have hl := hl.below hb; have hh := hh.below hb; have hz := HeldQ.call (And.intro hz trivial) hb; clear tk11; have tk12 : True := trivial))
        all_goals (
          go_wp2
          go_meet
          case rel => exact ⟨rfl, hz, hx, hp, hf, hl, hh⟩)
      case rest =>
        obtain ⟨rfl, hz, hx, hp, hf, hl, hh⟩ := hcut
        clear ox op of ol oh HB NFL NDN NUP E1 E2 E3 E4
        have B := hz.b
        have ox := hz.at_ (p := (g5, [.bool (decide (x.num < 0)), .slice Ax1 (digs b64 x.num.natAbs).length cx1, .slice Ax2 (digs b64 (denOf x.den)).length cx2], 27)) (by simp)
        have ol := hz.at_ (p := (g8, [.bool (decide (l.num < 0)), .slice Al1 (digs b64 l.num.natAbs).length cl1, .slice Al2 (digs b64 (denOf l.den)).length cl2], 27)) (by simp)
        have oh := hz.at_ (p := (g9, [.bool (decide (h.num < 0)), .slice Ah1 (digs b64 h.num.natAbs).length ch1, .slice Ah2 (digs b64 (denOf h.den)).length ch2], 27)) (by simp)
        clear hz hp hf
        go_wp2_with fail
        obtain ⟨s, hss⟩ : ∃ s : Rat, (1 : Rat) = s := ⟨_, rfl⟩
        have hc := HI.out wc
        rw [hss] at hc
        have HS0 : Bx (s = powR (newR 1 2) 0) := bx hss.symm
        clear hss
        refine Calls.mono (hc) ?_
        rintro e w1 ⟨vs, rfl, hs, b1⟩
        replace ox := ox.gone b1
        replace hx := hx.below b1
        replace ol := ol.gone b1
        replace hl := hl.below b1
        replace oh := oh.gone b1
        replace hh := hh.below b1
        replace B := B.trans (b1.mono B.size)
        clear b1
        clear hc
        obtain ⟨vs1, vs2, rfl, hsa, hsb⟩ := id hs
        obtain ⟨As1, cs1, rfl, _⟩ := id hsa
        obtain ⟨As2, cs2, rfl, _⟩ := id hsb
        clear hsa hsb
        have hwa := B.size
        have n5 := ox.lt
        have n8 := ol.lt
        have n9 := oh.lt
        obtain ⟨w2, e2, os, b2, s2⟩ := layA w1 [.bool (decide (s.num < 0)), .slice As1 (digs b64 s.num.natAbs).length cs1, .slice As2 (digs b64 (denOf s.den)).length cs2] 27
        replace ox := ox.gone b2
        replace hx := hx.below b2
        replace ol := ol.gone b2
        replace hl := hl.below b2
        replace oh := oh.gone b2
        replace hh := hh.below b2
        replace hs := hs.below b2
        replace B := B.trans (b2.mono B.size)
        clear b2 s2
        go_wp2_with fail
        clear e2
        refine Calls.mono (HNW.out _) ?_
        rintro e w3 ⟨vt, rfl, ht, b3⟩
        replace ox := ox.gone b3
        replace hx := hx.below b3
        replace ol := ol.gone b3
        replace hl := hl.below b3
        replace oh := oh.gone b3
        replace hh := hh.below b3
        replace hs := hs.below b3
        replace os := os.gone b3
        replace B := B.trans (b3.mono B.size)
        clear b3
        have HT : Bx (BdR 2 (newR 1 2)) := bx ⟨by unfold Bd; decide +kernel, by unfold Bd; decide +kernel⟩
        obtain ⟨t, hht⟩ : ∃ t, newR 1 2 = t := ⟨_, rfl⟩
        rw [hht] at HS0 ht HT
        have HTT := bx hht
        clear hht HI HNW
        obtain ⟨vt1, vt2, rfl, hta, htb⟩ := id ht
        obtain ⟨At1, ct1, rfl, _⟩ := id hta
        obtain ⟨At2, ct2, rfl, _⟩ := id htb
        clear hta htb
        have na := os.lt
        obtain ⟨w4, e4, ot, b4, s4⟩ := layA w3 [.bool (decide (t.num < 0)), .slice At1 (digs b64 t.num.natAbs).length ct1, .slice At2 (digs b64 (denOf t.den)).length ct2] 27
        replace ox := ox.gone b4
        replace hx := hx.below b4
        replace ol := ol.gone b4
        replace hl := hl.below b4
        replace oh := oh.gone b4
        replace hh := hh.below b4
        replace hs := hs.below b4
        replace os := os.gone b4
        replace ht := ht.below b4
        replace B := B.trans (b4.mono B.size)
        clear b4 s4
        go_wp2_with fail
        obtain ⟨ga, hga⟩ : ∃ g, g = w1.heap.size := ⟨_, rfl⟩
        obtain ⟨gb, hgb⟩ : ∃ g, g = w3.heap.size := ⟨_, rfl⟩
        have lab : ga < gb := by rw [hga, hgb]; exact Nat.lt_of_lt_of_le (by first | exact na | omega) (Nat.le_refl _)
        have n5a : g5 < ga := by rw [hga]; exact n5
        have n8a : g8 < ga := by rw [hga]; exact n8
        have n9a : g9 < ga := by rw [hga]; exact n9
        have lw0 : w0.heap.size ≤ ga := by rw [hga]; exact hwa
        rw [← hga] at os
        rw [← hgb] at ot
        rw [← hga, ← hgb]
        clear hga hgb n5 n8 n9 na hwa e4
        rw [HK.out]
        obtain ⟨wd, rfl⟩ : ∃ wd : World, wd = w4 := ⟨_, rfl⟩
        go_loopw [80] (fun s80 wr => ∃ (i : Nat) (s : Rat) (As1 As2 : Option Addr) (cs1 cs2 : Nat), i ≤ K ∧ s80 = .int .i64 (i : Int) ∧ Bx (s = powR t i) ∧ ObjA wr ga [.bool (decide (s.num < 0)), .slice As1 (digs b64 s.num.natAbs).length cs1, .slice As2 (digs b64 (denOf s.den)).length cs2] 27 ∧ IsRat wr (.agg #[.bool (decide (s.num < 0)), .slice As1 (digs b64 s.num.natAbs).length cs1, .slice As2 (digs b64 (denOf s.den)).length cs2]) s ∧ ObjA wr gb [.bool (decide (t.num < 0)), .slice At1 (digs b64 t.num.natAbs).length ct1, .slice At2 (digs b64 (denOf t.den)).length ct2] 27 ∧ IsRat wr (.agg #[.bool (decide (t.num < 0)), .slice At1 (digs b64 t.num.natAbs).length ct1, .slice At2 (digs b64 (denOf t.den)).length ct2]) t ∧ ObjA wr g5 [.bool (decide (x.num < 0)), .slice Ax1 (digs b64 x.num.natAbs).length cx1, .slice Ax2 (digs b64 (denOf x.den)).length cx2] 27 ∧ IsRat wr (.agg #[.bool (decide (x.num < 0)), .slice Ax1 (digs b64 x.num.natAbs).length cx1, .slice Ax2 (digs b64 (denOf x.den)).length cx2]) x ∧ ObjA wr g8 [.bool (decide (l.num < 0)), .slice Al1 (digs b64 l.num.natAbs).length cl1, .slice Al2 (digs b64 (denOf l.den)).length cl2] 27 ∧ IsRat wr (.agg #[.bool (decide (l.num < 0)), .slice Al1 (digs b64 l.num.natAbs).length cl1, .slice Al2 (digs b64 (denOf l.den)).length cl2]) l ∧ ObjA wr g9 [.bool (decide (h.num < 0)), .slice Ah1 (digs b64 h.num.natAbs).length ch1, .slice Ah2 (digs b64 (denOf h.den)).length ch2] 27 ∧ IsRat wr (.agg #[.bool (decide (h.num < 0)), .slice Ah1 (digs b64 h.num.natAbs).length ch1, .slice Ah2 (digs b64 (denOf h.den)).length ch2]) h ∧ Below w0.heap.size w0 wr)
          (fun s80 _ => K - (intOf s80).toNat)
        case atStart => exact ⟨0, s, _, _, _, _, Nat.zero_le _, rfl, HS0, os, hs, ot, ht, ox, hx, ol, hl, oh, hh, B⟩
        case round =>
          clear os hs ot ht ox hx ol hl oh hh B HS0
          obtain ⟨i, s, As1, As2, cs1, cs2, hi, rfl, HS0, os, hs, ot, ht, ox, hx, ol, hl, oh, hh, B⟩ := hrel
          by_cases hlt : i < K
          · skip
            have HJ : Bx (BdR (2 * i + 1) s) := bx (by rw [HS0.out]; exact bd_pow HT.out i)
            have k1 := os.cell (i := 0) rfl
            have k2 := os.cell (i := 1) rfl
            have k3 := os.cell (i := 2) rfl
            have k4 := ot.cell (i := 0) rfl
            have k5 := ot.cell (i := 1) rfl
            have k6 := ot.cell (i := 2) rfl
            go_wp2_with fail
            clear k1 k2 k3 k4 k5 k6
            refine Calls.mono (mul_num _ _ _ s t hs ht HJ.out HT.out (by omega)) ?_
            rintro e w1 ⟨vr, rfl, hr, b1⟩
            replace os := os.gone b1
            replace hs := hs.below b1
            replace ot := ot.gone b1
            replace ht := ht.below b1
            replace ox := ox.gone b1
            replace hx := hx.below b1
            replace ol := ol.gone b1
            replace hl := hl.below b1
            replace oh := oh.gone b1
            replace hh := hh.below b1
            replace B := B.trans (b1.mono B.size)
            clear b1
            have HS2 : Bx (s * t = powR t (i + 1)) := bx (by rw [HS0.out]; rfl)
            obtain ⟨r, hhr⟩ : ∃ r, s * t = r := ⟨_, rfl⟩
            rw [hhr] at HS2 hr
            clear hhr hs
            obtain ⟨vr1, vr2, rfl, hra, hrb⟩ := id hr
            obtain ⟨Ar1, cr1, rfl, _⟩ := id hra
            obtain ⟨Ar2, cr2, rfl, _⟩ := id hrb
            clear hra hrb
            have k7 := os.cell (i := 0) rfl
            have k8 := os.fz 0
            have k9 := os.cell (i := 1) rfl
            have k10 := os.fz 1
            have k11 := os.cell (i := 2) rfl
            have k12 := os.fz 2
            go_wp2
            obtain ⟨wf, HW, ho, fA, hN, hBB, _⟩ := os.put notInt3 [.bool (decide (r.num < 0)), .slice Ar1 (digs b64 r.num.natAbs).length cr1, .slice Ar2 (digs b64 (denOf r.den)).length cr2] rfl notInt3
            simp only [setAll, Nat.reduceAdd] at HW
            rw [HW]
            go_roundw
            case rel => exact ⟨i + 1, r, _, _, _, _, by omega, by go_num, HS2, ho, hr.into hN, fA _ _ _ (by omega) ot, ht.into hN, fA _ _ _ (by omega) ox, hx.into hN, fA _ _ _ (by omega) ol, hl.into hN, fA _ _ _ (by omega) oh, hh.into hN, hBB _ lw0 B⟩
            case measure => (simp [intOf]; try omega)
          · obtain rfl : i = K := by omega
            have HSV : s = 1 / pw i := by rw [HS0.out, ← HTT.out]; exact pow_half i
            rw [← HSV] at E5 E6
            have HJ : Bx (BdR 600 s) := bx (by rw [HS0.out]; exact (bd_pow HT.out i).mono (by omega))
            clear HSV HS0
            have HA1 := bx (bd_subR HX.out HXL.out)
            have HA2 := bx (bd_subR HXH.out HX.out)
            go_wp2_with fail
            have hS : ∀ w', HeldQ w0 [(g5, [.bool (decide (x.num < 0)), .slice Ax1 (digs b64 x.num.natAbs).length cx1, .slice Ax2 (digs b64 (denOf x.den)).length cx2], 27), (g8, [.bool (decide (l.num < 0)), .slice Al1 (digs b64 l.num.natAbs).length cl1, .slice Al2 (digs b64 (denOf l.den)).length cl2], 27), (g9, [.bool (decide (h.num < 0)), .slice Ah1 (digs b64 h.num.natAbs).length ch1, .slice Ah2 (digs b64 (denOf h.den)).length ch2], 27), (ga, [.bool (decide (s.num < 0)), .slice As1 (digs b64 s.num.natAbs).length cs1, .slice As2 (digs b64 (denOf s.den)).length cs2], 27)] w' → HeldQ w0 [(g5, [.bool (decide (x.num < 0)), .slice Ax1 (digs b64 x.num.natAbs).length cx1, .slice Ax2 (digs b64 (denOf x.den)).length cx2], 27), (g8, [.bool (decide (l.num < 0)), .slice Al1 (digs b64 l.num.natAbs).length cl1, .slice Al2 (digs b64 (denOf l.den)).length cl2], 27), (g9, [.bool (decide (h.num < 0)), .slice Ah1 (digs b64 h.num.natAbs).length ch1, .slice Ah2 (digs b64 (denOf h.den)).length ch2], 27), (ga, [.bool (decide (s.num < 0)), .slice As1 (digs b64 s.num.natAbs).length cs1, .slice As2 (digs b64 (denOf s.den)).length cs2], 27)] w' ∧ w'.cell? ⟨g5, 0, none⟩ = some (.bool (decide (x.num < 0))) ∧ w'.cell? ⟨g5, 1, none⟩ = some (.slice Ax1 (digs b64 x.num.natAbs).length cx1) ∧ w'.cell? ⟨g5, 2, none⟩ = some (.slice Ax2 (digs b64 (denOf x.den)).length cx2) ∧ w'.cell? ⟨g8, 0, none⟩ = some (.bool (decide (l.num < 0))) ∧ w'.cell? ⟨g8, 1, none⟩ = some (.slice Al1 (digs b64 l.num.natAbs).length cl1) ∧ w'.cell? ⟨g8, 2, none⟩ = some (.slice Al2 (digs b64 (denOf l.den)).length cl2) ∧ w'.cell? ⟨g9, 0, none⟩ = some (.bool (decide (h.num < 0))) ∧ w'.cell? ⟨g9, 1, none⟩ = some (.slice Ah1 (digs b64 h.num.natAbs).length ch1) ∧ w'.cell? ⟨g9, 2, none⟩ = some (.slice Ah2 (digs b64 (denOf h.den)).length ch2) ∧ w'.cell? ⟨ga, 0, none⟩ = some (.bool (decide (s.num < 0))) ∧ w'.cell? ⟨ga, 1, none⟩ = some (.slice As1 (digs b64 s.num.natAbs).length cs1) ∧ w'.cell? ⟨ga, 2, none⟩ = some (.slice As2 (digs b64 (denOf s.den)).length cs2) := fun w' hh => by
              have r0 := hh.at_ (p := (g5, [.bool (decide (x.num < 0)), .slice Ax1 (digs b64 x.num.natAbs).length cx1, .slice Ax2 (digs b64 (denOf x.den)).length cx2], 27)) (by simp)
              have r1 := hh.at_ (p := (g8, [.bool (decide (l.num < 0)), .slice Al1 (digs b64 l.num.natAbs).length cl1, .slice Al2 (digs b64 (denOf l.den)).length cl2], 27)) (by simp)
              have r2 := hh.at_ (p := (g9, [.bool (decide (h.num < 0)), .slice Ah1 (digs b64 h.num.natAbs).length ch1, .slice Ah2 (digs b64 (denOf h.den)).length ch2], 27)) (by simp)
              have r3 := hh.at_ (p := (ga, [.bool (decide (s.num < 0)), .slice As1 (digs b64 s.num.natAbs).length cs1, .slice As2 (digs b64 (denOf s.den)).length cs2], 27)) (by simp)
              exact ⟨hh, r0.cell (i := 0) rfl, r0.cell (i := 1) rfl, r0.cell (i := 2) rfl, r1.cell (i := 0) rfl, r1.cell (i := 1) rfl, r1.cell (i := 2) rfl, r2.cell (i := 0) rfl, r2.cell (i := 1) rfl, r2.cell (i := 2) rfl, r3.cell (i := 0) rfl, r3.cell (i := 1) rfl, r3.cell (i := 2) rfl⟩
            have hz : HeldQ w0 [(g5, [.bool (decide (x.num < 0)), .slice Ax1 (digs b64 x.num.natAbs).length cx1, .slice Ax2 (digs b64 (denOf x.den)).length cx2], 27), (g8, [.bool (decide (l.num < 0)), .slice Al1 (digs b64 l.num.natAbs).length cl1, .slice Al2 (digs b64 (denOf l.den)).length cl2], 27), (g9, [.bool (decide (h.num < 0)), .slice Ah1 (digs b64 h.num.natAbs).length ch1, .slice Ah2 (digs b64 (denOf h.den)).length ch2], 27), (ga, [.bool (decide (s.num < 0)), .slice As1 (digs b64 s.num.natAbs).length cs1, .slice As2 (digs b64 (denOf s.den)).length cs2], 27)] wr := ⟨B, by intro p hp; simp at hp; rcases hp with rfl | rfl | rfl | rfl; exact ox; exact ol; exact oh; exact os⟩
            have hz := hz.drew
            have hx := hx.drew
            have hl := hl.drew
            have hh := hh.drew
            have hs := hs.drew
            have tk0 : True := trivial
            go_region_held3 (fun w' => HeldQ w0 [(g5, [.bool (decide (x.num < 0)), .slice Ax1 (digs b64 x.num.natAbs).length cx1, .slice Ax2 (digs b64 (denOf x.den)).length cx2], 27), (g8, [.bool (decide (l.num < 0)), .slice Al1 (digs b64 l.num.natAbs).length cl1, .slice Al2 (digs b64 (denOf l.den)).length cl2], 27), (g9, [.bool (decide (h.num < 0)), .slice Ah1 (digs b64 h.num.natAbs).length ch1, .slice Ah2 (digs b64 (denOf h.den)).length ch2], 27), (ga, [.bool (decide (s.num < 0)), .slice As1 (digs b64 s.num.natAbs).length cs1, .slice As2 (digs b64 (denOf s.den)).length cs2], 27)] w' ∧ w'.cell? ⟨g5, 0, none⟩ = some (.bool (decide (x.num < 0))) ∧ w'.cell? ⟨g5, 1, none⟩ = some (.slice Ax1 (digs b64 x.num.natAbs).length cx1) ∧ w'.cell? ⟨g5, 2, none⟩ = some (.slice Ax2 (digs b64 (denOf x.den)).length cx2) ∧ w'.cell? ⟨g8, 0, none⟩ = some (.bool (decide (l.num < 0))) ∧ w'.cell? ⟨g8, 1, none⟩ = some (.slice Al1 (digs b64 l.num.natAbs).length cl1) ∧ w'.cell? ⟨g8, 2, none⟩ = some (.slice Al2 (digs b64 (denOf l.den)).length cl2) ∧ w'.cell? ⟨g9, 0, none⟩ = some (.bool (decide (h.num < 0))) ∧ w'.cell? ⟨g9, 1, none⟩ = some (.slice Ah1 (digs b64 h.num.natAbs).length ch1) ∧ w'.cell? ⟨g9, 2, none⟩ = some (.slice Ah2 (digs b64 (denOf h.den)).length ch2) ∧ w'.cell? ⟨ga, 0, none⟩ = some (.bool (decide (s.num < 0))) ∧ w'.cell? ⟨ga, 1, none⟩ = some (.slice As1 (digs b64 s.num.natAbs).length cs1) ∧ w'.cell? ⟨ga, 2, none⟩ = some (.slice As2 (digs b64 (denOf s.den)).length cs2))
              (exact hS _ hz)
              (first
                | (go_at_call 19; have _t := tk0; (with_reducible refine Calls.mono (sub_num _ _ _ x l hx hl HX.out HXL.out (by omega)) ?_); rintro e wk ⟨va, rfl, ra, hb⟩; have hx := hx.below hb; have hh := hh.below hb; have hs := hs.below hb; have hz := HeldQ.call (And.intro hz trivial) hb; clear tk0; have tk1 : True := trivial)
                | (go_at_call 14; have _t := tk1; (with_reducible refine Calls.mono (HCM.out (x - l) s c5 E5.out (HA1.out.mono (by omega)) (HJ.out.mono (by omega)) _ _ _ ra hs) ?_); rintro e wk ⟨rfl, hb⟩; have hx := hx.below hb; have hh := hh.below hb; have hs := hs.below hb; have hz := HeldQ.call (And.intro hz trivial) hb; clear tk1; have tk2 : True := trivial)
                | (go_at_call 19; have _t := tk2; (with_reducible refine Calls.mono (sub_num _ _ _ h x hh hx HXH.out HX.out (by omega)) ?_); rintro e wk ⟨vb, rfl, rb, hb⟩; have hs := hs.below hb; have hz := HeldQ.call (And.intro hz trivial) hb; clear tk2; have tk3 : True := trivial)
                | (go_at_call 14; have _t := tk3; (with_reducible refine Calls.mono (HCM.out (h - x) s c6 E6.out (HA2.out.mono (by omega)) (HJ.out.mono (by omega)) _ _ _ rb hs) ?_); rintro e wk ⟨rfl, hb⟩; have hz := HeldQ.call (And.intro hz trivial) hb; clear tk3; have tk4 : True := trivial)
                | (go_at_call 20; have _t := tk4; (with_reducible refine Calls.mono (awake_num _) ?_); rintro e wk ⟨rfl, hb⟩; have hz := HeldQ.call (And.intro hz trivial) hb; clear tk4; have tk5 : True := trivial))
            all_goals (
              go_wp2
              go_ret
              exact ⟨rfl, hz.b⟩)

theorem rounds_law (w0 : World) (n1 d1 k : Int) (h1 : -9223372036854775808 ≤ n1 ∧ n1 ≤ 9223372036854775807) (h2 : d1 ≤ 9223372036854775807) (h3 : -9223372036854775808 ≤ k ∧ k ≤ 9223372036854775807) :
    Calls Tryz.prog 3 #[.agg #[.int .i64 n1, .int .i64 d1], .int .i64 k] w0 (RetIs w0 (.bool true)) := by
  have hx := bd_ofR h1.1 h1.2 h2
  exact rounds_walk w0 n1 d1 k _ _ _ _ (bx rfl) (bx rfl) (bx rfl) (bx (fun w => of_num w n1 d1 h1.1 h1.2 h2)) (bx (fun w => nof_num w n1 d1 h1.1 h1.2 h2)) (bx hx) (bx (hx.floor.mono (by omega))) (bx ((bd_down hx k).mono (by omega))) (bx ((bd_down hx.neg k).neg.mono (by omega))) h3
end Wx
