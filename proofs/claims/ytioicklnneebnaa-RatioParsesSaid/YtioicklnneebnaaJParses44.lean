import Derived.Test.YtioicklnneebnaaProg
import Derived.Handy
import Derived.Laws.IdiomStrings
import Derived.Deep.RegionHeld3
import Derived.Test.YtioicklnneebnaaPlain1
import Derived.Test.YtioicklnneebnaaMem
import Derived.Test.YtioicklnneebnaaJParses3
import Derived.Test.YtioicklnneebnaaCRat1
import Derived.Test.YtioicklnneebnaaCRat2
import Derived.Test.YtioicklnneebnaaCHeld
import Derived.Test.YtioicklnneebnaaJParses22
import Derived.Test.YtioicklnneebnaaJParses33
import Derived.Test.YtioicklnneebnaaJParses40
import Derived.Test.YtioicklnneebnaaCNText
import Derived.Test.YtioicklnneebnaaJParses23
import Derived.Test.YtioicklnneebnaaCText
import Derived.Test.YtioicklnneebnaaCRText
import Derived.Test.YtioicklnneebnaaJParses34
import Derived.Test.YtioicklnneebnaaCNProd
import Derived.Test.YtioicklnneebnaaCFrom
namespace Wx
open Go Go.RowKit Go.Proofs

set_option maxRecDepth 100000 in
set_option maxHeartbeats 1000000 in
/-- The program's fraction is the reference's one. -/
theorem is_yes (w : World) (vx vy : Value) (x : Rat) (hx : IsRat w vx x) (hy : IsRef w vy x) {j : Nat} (hj : BdR j x) (hj1 : j ≤ 100000000) : Calls Try.prog 9 #[vx, vy] w (RetIs w (.bool true)) := by
  obtain ⟨vx1, vx2, rfl, hxa, hxb⟩ := id hx
  obtain ⟨Ax1, cx1, rfl, _⟩ := id hxa
  obtain ⟨Ax2, cx2, rfl, _⟩ := id hxb
  obtain ⟨vy1, vy2, rfl, hya, hyb⟩ := id hy
  obtain ⟨Ay1, cy1, rfl, _⟩ := id hya
  obtain ⟨Ay2, cy2, rfl, _⟩ := id hyb
  have HB := bx hj
  have hx0 := hx
  have hy0 := hy

  clear hj hx hy
  go_enter Try.func9, Try.ntmps9
  go_wp2_with fail
  obtain ⟨w1, e1, o1, b1, s1⟩ := layA w [.bool (decide (x.num < 0)), .slice Ax1 (digs b64 x.num.natAbs).length cx1, .slice Ax2 (digs b64 (denOf x.den)).length cx2] 26
  obtain ⟨w2, e2, o2, b2, s2⟩ := layA w1 [.bool (decide (x.num < 0)), .slice Ay1 (digs b32 x.num.natAbs).length cy1, .slice Ay2 (digs b32 x.den).length cy2] 32
  rw [e1, e2]
  rw [s1] at o2
  have p1 := (o1.gone b2)
  have p2 := o2
  have B0 := (b1.trans (b2.mono b1.size))
  have hS : ∀ w', HeldQ w [(w.heap.size, [.bool (decide (x.num < 0)), .slice Ax1 (digs b64 x.num.natAbs).length cx1, .slice Ax2 (digs b64 (denOf x.den)).length cx2], 26), (w.heap.size + 1, [.bool (decide (x.num < 0)), .slice Ay1 (digs b32 x.num.natAbs).length cy1, .slice Ay2 (digs b32 x.den).length cy2], 32)] w' → HeldQ w [(w.heap.size, [.bool (decide (x.num < 0)), .slice Ax1 (digs b64 x.num.natAbs).length cx1, .slice Ax2 (digs b64 (denOf x.den)).length cx2], 26), (w.heap.size + 1, [.bool (decide (x.num < 0)), .slice Ay1 (digs b32 x.num.natAbs).length cy1, .slice Ay2 (digs b32 x.den).length cy2], 32)] w' ∧ w'.cell? ⟨w.heap.size, 0, none⟩ = some (.bool (decide (x.num < 0))) ∧ w'.cell? ⟨w.heap.size, 1, none⟩ = some (.slice Ax1 (digs b64 x.num.natAbs).length cx1) ∧ w'.cell? ⟨w.heap.size, 2, none⟩ = some (.slice Ax2 (digs b64 (denOf x.den)).length cx2) ∧ w'.cell? ⟨w.heap.size + 1, 0, none⟩ = some (.bool (decide (x.num < 0))) ∧ w'.cell? ⟨w.heap.size + 1, 1, none⟩ = some (.slice Ay1 (digs b32 x.num.natAbs).length cy1) ∧ w'.cell? ⟨w.heap.size + 1, 2, none⟩ = some (.slice Ay2 (digs b32 x.den).length cy2) := fun w' hh => by
    have r1 := hh.at_ (p := (w.heap.size, [.bool (decide (x.num < 0)), .slice Ax1 (digs b64 x.num.natAbs).length cx1, .slice Ax2 (digs b64 (denOf x.den)).length cx2], 26)) (by simp)
    have r2 := hh.at_ (p := (w.heap.size + 1, [.bool (decide (x.num < 0)), .slice Ay1 (digs b32 x.num.natAbs).length cy1, .slice Ay2 (digs b32 x.den).length cy2], 32)) (by simp)
    exact ⟨hh, r1.cell (i := 0) rfl, r1.cell (i := 1) rfl, r1.cell (i := 2) rfl, r2.cell (i := 0) rfl, r2.cell (i := 1) rfl, r2.cell (i := 2) rfl⟩
  have hz : HeldQ w [(w.heap.size, [.bool (decide (x.num < 0)), .slice Ax1 (digs b64 x.num.natAbs).length cx1, .slice Ax2 (digs b64 (denOf x.den)).length cx2], 26), (w.heap.size + 1, [.bool (decide (x.num < 0)), .slice Ay1 (digs b32 x.num.natAbs).length cy1, .slice Ay2 (digs b32 x.den).length cy2], 32)] w2 := ⟨B0, by intro q hq; simp at hq; rcases hq with rfl | rfl; exact p1; exact p2⟩
  clear e1 e2 o1 b1 s1 p1 o2 b2 s2 p2
  clear B0
  have hz := hz.drew
  go_region_held3 (fun w' => HeldQ w [(w.heap.size, [.bool (decide (x.num < 0)), .slice Ax1 (digs b64 x.num.natAbs).length cx1, .slice Ax2 (digs b64 (denOf x.den)).length cx2], 26), (w.heap.size + 1, [.bool (decide (x.num < 0)), .slice Ay1 (digs b32 x.num.natAbs).length cy1, .slice Ay2 (digs b32 x.den).length cy2], 32)] w' ∧ w'.cell? ⟨w.heap.size, 0, none⟩ = some (.bool (decide (x.num < 0))) ∧ w'.cell? ⟨w.heap.size, 1, none⟩ = some (.slice Ax1 (digs b64 x.num.natAbs).length cx1) ∧ w'.cell? ⟨w.heap.size, 2, none⟩ = some (.slice Ax2 (digs b64 (denOf x.den)).length cx2) ∧ w'.cell? ⟨w.heap.size + 1, 0, none⟩ = some (.bool (decide (x.num < 0))) ∧ w'.cell? ⟨w.heap.size + 1, 1, none⟩ = some (.slice Ay1 (digs b32 x.num.natAbs).length cy1) ∧ w'.cell? ⟨w.heap.size + 1, 2, none⟩ = some (.slice Ay2 (digs b32 x.den).length cy2))
    (exact hS _ hz)
    (first
      | (go_at_call 10; (with_reducible refine Calls.mono (rtext_num _ _ x (hx0.below hz.b) HB.out hj1) ?_); rintro e wz ⟨rfl, hb⟩; have hz := HeldQ.call (And.intro hz trivial) hb)
      | (go_at_call 42; (with_reducible refine Calls.mono (ntext_num _ _ x (hy0.below hz.b) HB.out hj1) ?_); rintro e wz ⟨rfl, hb⟩; have hz := HeldQ.call (And.intro hz trivial) hb))
  all_goals (
    go_wp2
    go_ret
    exact ⟨rfl, hz.b⟩)
end Wx

namespace Wx
open Go Go.RowKit Go.Proofs

set_option maxRecDepth 100000 in
set_option maxHeartbeats 1000000 in
theorem read_num (w : World) (l : List Nat) (hdg : ∀ x ∈ l, 48 ≤ x ∧ x ≤ 57) (hl : l.length ≤ 1000000) : Calls Try.prog 40 #[.string (strOf l)] w (RetNum .u32 b32 w (valD l)) := by
  have hw : Wf 256 l := fun x hx => by have := hdg x hx; omega
  have hsz := strOf_size l
  have HDG := bx hdg
  clear hdg
  go_enter Try.func40, Try.ntmps40
  go_wp2_with fail
  go_loopw [3, 4] (fun s3 s4 wr => ∃ i : Nat, i ≤ l.length ∧ s4 = .int .i64 (i : Int) ∧ Num .u32 b32 wr s3 (valD (l.take i)) ∧ Below w.heap.size w wr) (fun _ s4 _ => l.length - (intOf s4).toNat)
  case atStart => exact ⟨0, Nat.zero_le _, rfl, Num.of two_le_b32 (l := []) ⟨Nat.le_refl _, Nat.zero_le _, fun h => absurd rfl h⟩ rfl (Wf.nil _) Top.nil, Below.alloc (Below.refl _ _) (Nat.le_refl _) _⟩
  case round =>
    obtain ⟨i, hi, rfl, hv, hb⟩ := hrel
    by_cases hlt : i < l.length
    · obtain ⟨hsd, hsv⟩ := strOf_data hw hlt
      have hd := HDG.out _ (List.getElem_mem hlt)
      have hg : l.getD i 0 = l[i] := by rw [List.getD_eq_getElem?_getD, List.getElem?_eq_getElem hlt]; rfl
      obtain ⟨x, hx⟩ : ∃ x, l[i] = x := ⟨_, rfl⟩
      rw [hx] at hd hg
      rw [hg] at hsv
      have HV := bx (show valD (l.take (i + 1)) = 10 * valD (l.take i) + (x - 48) from valD_snoc (by rw [← hx]; exact List.getElem?_eq_getElem hlt))
      have HB := bx (show Bd (4 * i) (valD (l.take i)) from by
        have := Bd.ten (valD_lt (l := l.take i) (fun x hx => HDG.out x (List.mem_of_mem_take hx)))
        rwa [List.length_take, Nat.min_eq_left hi] at this)
      have hx48 : (48 : Int) ≤ (x : Int) := by omega
      have hx57 : (x : Int) ≤ 57 := by omega
      have hws : IntKind.u8.wrap ((x : Int) - 48) = ((x - 48 : Nat) : Int) := by
        unfold IntKind.wrap; simp [IntKind.bits, IntKind.signed]; omega
      have hwc : IntKind.u64.wrap ((x - 48 : Nat) : Int) = ((x - 48 : Nat) : Int) := wrap_u64 (by omega) (by omega)
      have hi0 : (0 : Int) ≤ (i : Int) := by omega
      have hi1 : (i : Int) < (l.length : Int) := by omega
      have hi2 : i < (strOf l).size := by omega
      have hiv : ((strOf l)[i]'hi2).toNat = x := hsv
      clear hx hg hd
      go_wp2_with fail
      have hv1 : Num .u32 b32 (wr.alloc (.cells #[.int .u32 10] 79)).drew _ _ := hv.below (Below.alloc (Below.refl _ _) (Nat.le_refl _) _).drew
      have ht1 : Num .u32 b32 (wr.alloc (.cells #[.int .u32 10] 79)).drew (.slice (some ⟨wr.heap.size, 0, none⟩) 1 1) 10 :=
        Num.of two_le_b32 (l := [10]) ((Row.new wr .u32 79 [10]).rd_all (Nat.le_refl _) (by simp [maxLen])) rfl (Wf.cons (by unfold b32; omega) (Wf.nil _)) (by unfold Top; simp)
      have hz0 : Below w.heap.size w wr.drew := hb.drew
      have hz : Below w.heap.size w (wr.alloc (.cells #[.int .u32 10] 79)).drew := (hb.alloc hb.size _).drew
      go_region_held3 (fun w' => Below w.heap.size w w')
        (first | exact hz | exact hz0)
        (first
          | (go_at_call 45; (with_reducible refine Calls.mono (product_num _ _ _ _ 10 hv1 ht1 HB.out (k := 4) (by unfold Bd; omega) (by omega) (by omega)) ?_); rintro e wz ⟨vu, rfl, hu, hb2⟩; have hz := hz.trans (hb2.mono hz.size))
          | (go_at_call 39; (with_reducible refine Calls.mono (nat_num _ (x - 48) (by unfold b64; omega)) ?_); rintro e wz ⟨vx, rfl, hx, hb2⟩; have hu := hu.below hb2; have hz := hz.trans (hb2.mono hz.size))
          | (go_at_call 63; (with_reducible refine Calls.mono (sum_num _ _ _ _ _ hu hx (HB.out.mul (k := 4) (n := 10) (by unfold Bd; omega)) (k := 4) (by unfold Bd; omega) (by omega) (by omega)) ?_); rintro e wz ⟨vs, rfl, hs, hb2⟩; have hz := hz.trans (hb2.mono hz.size)))
      all_goals
        (try go_wp2)
        go_roundw
        case rel => exact ⟨i + 1, by omega, by go_num, by rw [HV.out, Nat.mul_comm 10]; exact hs, hz⟩
        case measure => simp [intOf]; omega
    · obtain rfl : i = l.length := by omega
      rw [List.take_length] at hv
      go_wp2
      go_ret
      exact ⟨_, rfl, hv, hb⟩
end Wx
