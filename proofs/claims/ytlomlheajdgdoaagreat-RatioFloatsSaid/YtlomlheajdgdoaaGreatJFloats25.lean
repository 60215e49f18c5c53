import Derived.Test.YtlomlheajdgdoaaGreatProg
import Derived.Handy
import Derived.Laws.IdiomStrings
import Derived.Lib.IndexLaws
import Derived.Lib.Strings
import Derived.WalkSpells
import Derived.WalkSmall
import Derived.Test.YtlomlheajdgdoaaGreatCFloatsShelf
import Derived.Test.YtlomlheajdgdoaaGreatJFloats0
import Derived.Test.YtlomlheajdgdoaaGreatCFloatsMem
import Derived.Test.YtlomlheajdgdoaaGreatJFloats24
import Derived.Lib.Slices
import Derived.Lib.Walk
import Derived.Lib.Builder
import Derived.Lib.AppendStr
import Derived.Lib.UnsafeStr
import Derived.Lib.MakeNoZero
import Derived.WalkKit
import Derived.Laws.Externs
import Derived.Laws.IdiomCopy
namespace Wx
set_option maxRecDepth 100000
open Go Go.RowKit Go.Proofs

def befS (l : List Nat) : List Nat := l.takeWhile (fun x => decide (x ≠ 47))
def aftS (l : List Nat) : List Nat := l.drop ((befS l).length + 1)
def slashI (l : List Nat) : Int := if 47 ∈ l then ((befS l).length : Int) else -1
theorem slashI_none {l : List Nat} (h : ¬ 47 ∈ l) : slashI l = -1 := if_neg h
theorem befS_none {l : List Nat} (h : ¬ 47 ∈ l) : befS l = l := by
  unfold befS
  induction l with
  | nil => rfl
  | cons x l ih =>
    have h1 : x ≠ 47 := by rintro rfl; exact h (by simp)
    rw [List.takeWhile_cons, ih (fun hm => h (List.mem_cons_of_mem _ hm))]
    simp [h1]
theorem aftS_none {l : List Nat} (h : ¬ 47 ∈ l) : aftS l = [] := by
  unfold aftS
  rw [befS_none h]
  exact List.drop_eq_nil_of_le (by omega)
theorem befS_lt {l : List Nat} (h : 47 ∈ l) : (befS l).length < l.length := by
  unfold befS
  induction l with
  | nil => simp at h
  | cons x l ih =>
    rw [List.takeWhile_cons]
    by_cases hx : x = 47
    · subst hx; simp
    · have : 47 ∈ l := by simpa [Ne.symm hx] using h
      have := ih this
      simp [hx]; simpa using this
theorem befS_take (l : List Nat) : l.take (befS l).length = befS l := by
  have : befS l <+: l := List.takeWhile_prefix _
  exact (List.prefix_iff_eq_take.1 this).symm
theorem u8ofNat_eq {a b : Nat} (ha : a < 256) (hb : b < 256) : (UInt8.ofNat a = UInt8.ofNat b) ↔ a = b := by
  constructor
  · intro h
    have := congrArg UInt8.toNat h
    rwa [UInt8.toNat_ofNat_of_lt' ha, UInt8.toNat_ofNat_of_lt' hb] at this
  · rintro rfl; rfl
theorem slash_idx {l : List Nat} (hw : Wf 256 l) : Lib.indexByte (l.map UInt8.ofNat) 47 = slashI l := by
  induction l with
  | nil => rfl
  | cons x l ih =>
    have hx := hw x (by simp)
    have ih := ih (fun y hy => hw y (List.mem_cons_of_mem _ hy))
    rw [List.map_cons]
    unfold Lib.indexByte
    by_cases h : x = 47
    · subst h
      rw [if_pos (by decide)]
      simp [slashI, befS]
    · have h1 : (UInt8.ofNat x == (47 : UInt8)) = false := by
        rw [beq_eq_false_iff_ne]
        intro e
        exact h ((u8ofNat_eq hx (by omega : 47 < 256)).1 e)
      rw [h1, ih]
      by_cases hm : 47 ∈ l
      · have e1 : slashI l = ((befS l).length : Int) := if_pos hm
        have e2 : slashI (x :: l) = ((befS (x :: l)).length : Int) := if_pos (List.mem_cons_of_mem _ hm)
        have e3 : befS (x :: l) = x :: befS l := by unfold befS; rw [List.takeWhile_cons]; simp [h]
        rw [e1, e2, e3, List.length_cons]
        have : ((((befS l).length : Int)) == -1) = false := beq_eq_false_iff_ne.2 (by omega)
        rw [this]
        simp
      · have e1 := slashI_none hm
        have e2 : slashI (x :: l) = -1 := slashI_none (by simp [hm, Ne.symm h])
        rw [e1, e2]; rfl
theorem slashI_some {l : List Nat} (h : 47 ∈ l) : slashI l = ((befS l).length : Int) := if_pos h

theorem index_slash (w : World) (l : List Nat) (hw : Wf 256 l) : Calls Tryz.prog 145 #[.string (strOf l), .string ⟨#[47]⟩] w fun e w' => e = .returned (.int .i64 (slashI l)) ∧ w = w' := by
  have hc := fun w => Tryz.stringslite_IndexByte (strOf l) 47 w
  have hs : Lib.indexByte (strOf l).data.toList (47 : Int).toNat.toUInt8 = slashI l := slash_idx hw
  rw [hs] at hc
  have HC := bx hc
  clear hc hs
  by_cases h0 : l = [47]
  · have hb : ([47] == (strOf l).toList) = true := by rw [strOf_toList, h0]; rfl
    have HE := bx (show slashI l = 0 by rw [h0]; rfl)
    clear h0
    go_enter Tryz.func145, Tryz.ntmps145
    go_wp2
    go_ret
    exact ⟨ret_int HE.out.symm, rfl⟩
  · have hb : ([47] == (strOf l).toList) = false := beq_eq_false_iff_ne.2 (fun h => h0 (strOf_inj hw (by intro x hx; simp at hx; omega) (by rw [← h, strOf_toList]; rfl)))
    clear h0
    go_enter Tryz.func145, Tryz.ntmps145
    go_wp2_with (go_at_call 155; refine (HC.out _).mono ?_; rintro e w' ⟨rfl, rfl⟩)
    go_ret
    exact ⟨rfl, rfl⟩

theorem strOf_nil : strOf [] = ⟨#[]⟩ := rfl

theorem lcut_slash (w : World) (l : List Nat) (hw : Wf 256 l) (hl : l.length ≤ 1000000000) : Calls Tryz.prog 126 #[.string (strOf l), .string ⟨#[47]⟩] w (RetIs w (.tuple #[.string (strOf (befS l)), .string (strOf (aftS l)), .bool (decide (47 ∈ l))])) := by
  by_cases h : 47 ∈ l
  · have hi := index_slash w l hw
    rw [slashI_some h] at hi
    have h1 := befS_lt h
    have h2 := strOf_size l
    have e1 : (strOf l).extract 0 (befS l).length = strOf (befS l) := by
      rw [strOf_extract, List.drop_zero, befS_take]
    have e2 : (strOf l).extract ((befS l).length + 1) (strOf l).size = strOf (aftS l) := by
      rw [strOf_extract, h2, List.take_length]; rfl
    have HD := bx (decide_eq_true h)
    have HI := bx hi
    clear hi h
    have E1 := bx e1
    have E2 := bx e2
    clear e1 e2
    have hq1 : ((befS l).length : Int) + 1 ≤ ((strOf l).size : Int) := by omega
    have hq2 : ((befS l).length : Int) ≤ ((strOf l).size : Int) := by omega
    have hq3 : IntKind.i64.wrap (((befS l).length : Int) + 1) = ((befS l).length : Int) + 1 := IntWalk.i64_in _ (by omega)
    have hq4 : (((befS l).length : Int) + 1).toNat = (befS l).length + 1 := by omega
    clear h2
    go_enter Tryz.func126, Tryz.ntmps126
    go_wp2_with (go_at_call 145; refine (HI.out).mono ?_; rintro e w' ⟨rfl, rfl⟩)
    go_quiet (fail)
    go_wp2
    go_ret3
    rw [E1.out, E2.out, HD.out]
    exact ⟨rfl, below_drewN (Below.refl _ _) _⟩
  · have hi := index_slash w l hw
    rw [slashI_none h] at hi
    rw [befS_none h, aftS_none h, strOf_nil]
    have HD := bx (decide_eq_false h)
    have HI := bx hi
    clear hi h
    go_enter Tryz.func126, Tryz.ntmps126
    go_wp2_with (go_at_call 145; refine (HI.out).mono ?_; rintro e w' ⟨rfl, rfl⟩)
    go_ret3
    rw [HD.out]
    exact ⟨rfl, Below.refl _ _⟩

theorem cut_slash (w : World) (l : List Nat) (hw : Wf 256 l) (hl : l.length ≤ 1000000000) : Calls Tryz.prog 91 #[.string (strOf l), .string ⟨#[47]⟩] w (RetIs w (.tuple #[.string (strOf (befS l)), .string (strOf (aftS l)), .bool (decide (47 ∈ l))])) := by
  have hc := lcut_slash w l hw hl
  go_enter Tryz.func91, Tryz.ntmps91
  go_wp2_with (go_at_call 126; refine hc.mono ?_; rintro e w1 ⟨rfl, hb⟩)
  go_ret3
  exact ⟨rfl, hb⟩

def negS (l : List Nat) : Bool := decide (l.head? = some 45)
def restS (l : List Nat) : List Nat := if l.head? = some 45 then l.tail else l
theorem minus_prefix {l : List Nat} (hw : Wf 256 l) : Lib.hasPrefix (l.map UInt8.ofNat) [45] = negS l := by
  cases l with
  | nil => rfl
  | cons x l =>
    have hx := hw x (by simp)
    unfold Lib.hasPrefix negS
    rw [List.map_cons, List.head?_cons]
    by_cases h : x = 45
    · subst h; rfl
    · have : ((45 : UInt8) == UInt8.ofNat x) = false := by
        rw [beq_eq_false_iff_ne]
        intro e
        exact h ((u8ofNat_eq hx (by omega : 45 < 256)).1 e.symm)
      simp [List.isPrefixOf, this, h]
theorem minus_trim {l : List Nat} (hw : Wf 256 l) : (⟨(Lib.trimPrefix (l.map UInt8.ofNat) [45]).toArray⟩ : ByteArray) = strOf (restS l) := by
  unfold Lib.trimPrefix
  rw [minus_prefix hw]
  unfold restS negS
  by_cases h : l.head? = some 45
  · rw [if_pos h, decide_eq_true h, if_pos rfl]
    cases l with
    | nil => simp at h
    | cons x l => rfl
  · rw [if_neg h, decide_eq_false h]
    simp [strOf]
theorem cutPrefix_minus (w : World) (l : List Nat) (hw : Wf 256 l) : Calls Tryz.prog 90 #[.string (strOf l), .string ⟨#[45]⟩] w fun e w' => e = .returned (.tuple #[.string (strOf (restS l)), .bool (negS l)]) ∧ w = w' := by
  refine (Tryz.strings_CutPrefix (strOf l) ⟨#[45]⟩ w).mono ?_
  rintro e w' ⟨rfl, rfl⟩
  refine ⟨?_, rfl⟩
  have h1 : (strOf l).data.toList = l.map UInt8.ofNat := by simp [strOf]
  rw [h1]
  have h2 : (⟨#[45]⟩ : ByteArray).data.toList = [45] := rfl
  rw [h2, minus_trim hw, minus_prefix hw]
end Wx

namespace Wx
set_option maxRecDepth 100000
open Go Go.RowKit Go.Proofs

theorem szBuilder : (Tryz.prog.info? 157).map (·.size) = some 2 := by kernel_rfl
theorem liesBuilder : liesAt Tryz.prog Tryz.prog.depth 157 (2 / Tryz.prog.cellsOf 157) 0 157 1 = true := by kernel_rfl
theorem infoByte : (Tryz.prog.info? 5).map (fun i => (i.zero, i.size, i.bytes)) = some (some (.int .u8 0), 1, 1) := by kernel_rfl

set_option maxHeartbeats 1000000 in
theorem copyCheck_used (b : Nat) (w : World) (h0 : w.cell? ⟨b, 0, none⟩ = some (.pointer (some ⟨b, 0, none⟩))) :
    Calls Tryz.prog 151 #[.pointer (some ⟨b, 0, none⟩)] w fun e w' => e = .returned (.tuple #[]) ∧ w' = w := by
  obtain ⟨j, hj, _⟩ := Option.map_eq_some_iff.1 szBuilder
  go_enter Tryz.func151, Tryz.ntmps151
  go_wp2
  rw [Lib.run_neq_ptr_same w _ Tryz.underlying155 hj]
  go_wp2
  go_end0
  exact ⟨rfl, rfl⟩

set_option maxHeartbeats 1000000 in
theorem copyCheck_fresh (b : Nat) (w : World) (h0 : w.cell? ⟨b, 0, none⟩ = some (.pointer none)) (hsh : w.shape? b = some (157, 2)) (hfz : w.frozen? ⟨b, 0, none⟩ = false) :
    Calls Tryz.prog 151 #[.pointer (some ⟨b, 0, none⟩)] w fun e w' => e = .returned (.tuple #[]) ∧ w' = w.setCell ⟨b, 0, none⟩ (.pointer (some ⟨b, 0, none⟩)) := by
  obtain ⟨j, hj, hjs⟩ := Option.map_eq_some_iff.1 szBuilder
  go_enter Tryz.func151, Tryz.ntmps151
  go_wp2
  rw [Lib.run_to_unsafe w ⟨b, 0, none⟩ Tryz.underlying155 Tryz.underlying183 hj (by rw [hjs]; decide) hsh (Nat.zero_lt_succ 1)]
  simp only [Result.andThen]
  rw [Oper.upon_value]
  go_wp2
  rw [run_callFunc_extern Tryz.func161 (by kernel_rfl) (by kernel_rfl) (by kernel_rfl) (e := Extern.AbiNoEscape.same) (by kernel_rfl)]
  rw [Lib.run_noEscape]
  simp only [Result.andThen]
  rw [Oper.upon_value]
  go_wp2
  rw [Lib.run_from_unsafe w ⟨b, 0, none⟩ Tryz.underlying183 Tryz.underlying155 hj hsh liesBuilder]
  simp only [Result.andThen]
  rw [Oper.upon_value]
  go_wp2
  go_end0
  exact ⟨rfl, rfl⟩

theorem copyCheck_any (B b : Nat) (bs : List Value) (w : World) (h : Lib.IsBuilder 157 5 B b bs w) :
    Calls Tryz.prog 151 #[.pointer (some ⟨b, 0, none⟩)] w fun e w' => e = .returned (.tuple #[]) ∧ (Lib.BuilderAt 157 5 B b (.pointer (some ⟨b, 0, none⟩)) bs w' ∧ Below B w w') := by
  rcases h with h | h
  · refine (copyCheck_fresh b w h.cell0 h.shape h.frozen0).mono ?_
    rintro e w' ⟨rfl, rfl⟩
    exact ⟨rfl, h.used _, (Below.refl B w).setCell (p := ⟨b, 0, none⟩) h.1 _⟩
  · refine (copyCheck_used b w h.cell0).mono ?_
    rintro e w' ⟨rfl, rfl⟩
    exact ⟨rfl, h, Below.refl B _⟩

set_option maxHeartbeats 2000000 in
theorem writeString_num (B b : Nat) (bs : List Value) (s : ByteArray) (w : World) (h : Lib.IsBuilder 157 5 B b bs w) (hlen : bs.length + s.size ≤ 140737488355328) (hBw : B ≤ w.heap.size) :
    Calls Tryz.prog 130 #[.pointer (some ⟨b, 0, none⟩), .string s] w fun e w' => e = .returned (.tuple #[.int .i64 s.size, .nilIface]) ∧ (Lib.BuilderAt 157 5 B b (.pointer (some ⟨b, 0, none⟩)) (bs ++ Lib.strCells s) w' ∧ Below B w w') := by
  obtain ⟨i0, hi, hz0, hz1, hz2⟩ := info_parts infoByte
  go_enter Tryz.func130, Tryz.ntmps130
  go_wp2_with (go_at_call 151; refine (copyCheck_any B b bs _ h).mono ?_)
  rintro e w1 ⟨rfl, h1, hb1⟩
  obtain ⟨hB, v, hbk, hown, hne⟩ := h1
  have c0 : w1.cell? ⟨b, 0, none⟩ = some (.pointer (some ⟨b, 0, none⟩)) := by rw [Lib.cell_of_heap hbk]; rfl
  have c1 : w1.cell? ⟨b, 1, none⟩ = some v := by rw [Lib.cell_of_heap hbk]; rfl
  go_wp2_with (at_builtin; refine Lib.wpList_append_own_string _ rfl _ _ 149 9 rfl B 5 i0 Tryz.underlying149 Tryz.underlying9 hi hz0 hz1 hz2 _ _ _ rfl hown s rfl ?c3 ?c4 ?c5 ?_)
  case c3 => unfold maxLen; omega
  case c4 => omega
  case c5 => have := hb1.size; omega
  intro v' w2 hown' hgrow _
  have hlt : b < w1.heap.size := by
    rcases Nat.lt_or_ge b w1.heap.size with h' | h'
    · exact h'
    · simp [Array.getElem?_eq_none h'] at hbk
  have hb2 : w2.heap[b]? = some (.cells #[.pointer (some ⟨b, 0, none⟩), v] 157 (0, 0)) := by
    rw [hgrow.block b hlt (fun e => hne e.symm)]
    exact hbk
  have d0 : w2.cell? ⟨b, 0, none⟩ = some (.pointer (some ⟨b, 0, none⟩)) := by rw [Lib.cell_of_heap hb2]; rfl
  have d1 : w2.cell? ⟨b, 1, none⟩ = some v := by rw [Lib.cell_of_heap hb2]; rfl
  have f1 : w2.frozen? ⟨b, 1, none⟩ = false := Lib.frozen_of_heap hb2 1
  obtain ⟨ao, n', cap, rfl⟩ : ∃ ao n' cap, v' = .slice ao n' cap := by
    rcases hown'.2 with ⟨hv, _⟩ | ⟨g, cap, cur, hv, _⟩
    · exact ⟨_, _, _, hv⟩
    · exact ⟨_, _, _, hv⟩
  go_wp2
  go_ret2
  refine ⟨rfl, ?_, ?_⟩
  · exact Lib.BuilderAt.put (T := 157) (e := 5) hB hb2 (bs' := bs ++ Lib.strCells s) (by simpa [Lib.strCells_length] using hown') (by decide)
  · exact (hb1.grown hgrow (by have := hb1.size; omega) (fun k hk => (hown.lt k hk).1)).setCell (p := ⟨b, 1, none⟩) hB _
end Wx
