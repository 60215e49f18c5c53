import Derived.Test.YtlomlheajdgdoaaGreatProg
import Derived.Handy
import Derived.Deep.RegionHeld3
import Derived.Test.YtlomlheajdgdoaaGreatJPairs0
import Derived.Test.YtlomlheajdgdoaaGreatJPairs1
import Derived.Test.YtlomlheajdgdoaaGreatJPairs9
import Derived.Test.YtlomlheajdgdoaaGreatJPairs3
import Derived.Test.YtlomlheajdgdoaaGreatJPairs7
import Derived.Test.YtlomlheajdgdoaaGreatCPairsRat1
import Derived.Test.YtlomlheajdgdoaaGreatCPairsRat3
namespace Wx
open Go Go.RowKit Go.Proofs

def sgnI (x : Rat) : Int := if x.num < 0 then -1 else if x = 0 then 0 else 1
end Wx

namespace Wx
open Go Go.RowKit Go.Proofs

theorem size_num (w : World) (z : Int) (h1 : -9223372036854775808 ≤ z) (h2 : z ≤ 9223372036854775807) : Calls Tryz.prog 56 #[.int .i64 z] w (RetNum .u64 b64 w z.natAbs) := by
  have HLT : Bx (z.natAbs < b64) := bx (by unfold b64; omega)
  by_cases hz : z < 0
  · have e1 : IntKind.u64.wrap (-IntKind.u64.wrap z) = ((z.natAbs : Nat) : Int) := by
      simp [IntKind.wrap, IntKind.bits, IntKind.signed]; omega
    have E1 := bx e1
    clear e1
    go_enter Tryz.func56, Tryz.ntmps56
    go_wp2_with fail
    rw [E1.out]
    refine (word_num w _ HLT.out).mono ?_
    rintro e w3 ⟨vr, rfl, hr3, hb3⟩
    go_wp2
    go_ret
    exact ⟨_, rfl, hr3, hb3⟩
  · have e1 : z = ((z.natAbs : Nat) : Int) := by omega
    have E1 := bx e1
    clear e1
    go_enter Tryz.func56, Tryz.ntmps56
    go_wp2_with fail
    have hc := word_num w _ HLT.out
    rw [← E1.out] at hc
    refine hc.mono ?_
    rintro e w3 ⟨vr, rfl, hr3, hb3⟩
    go_wp2
    go_ret
    exact ⟨_, rfl, hr3, hb3⟩

theorem int_num (w : World) (z : Int) (h1 : -9223372036854775808 ≤ z) (h2 : z ≤ 9223372036854775807) : Calls Tryz.prog 9 #[.int .i64 z] w (RetRat w (z : Rat)) := by
  have H := bx (And.intro h1 h2)
  clear h1 h2
  go_enter Tryz.func9, Tryz.ntmps9
  go_wp2_with fail
  obtain ⟨w1, e1, o1, b1, s1⟩ := lay3 w (.bool false) (.slice none 0 0) (.slice none 0 0) 29
  rw [e1]
  refine (size_num w1 z H.out.1 H.out.2).mono ?_
  rintro e w2 ⟨v, rfl, hv, hb⟩
  obtain ⟨A1, c1, rfl, _⟩ := id hv
  have hz : HeldR w w.heap.size 29 [] w2 := ⟨b1.trans (hb.mono b1.size), Nat.le_refl _, by simp, _, _, _, o1.gone hb, notInt_bool _, notInt_slice _ _ _, notInt_slice _ _ _⟩
  obtain ⟨k0, k1, k2, k3, k4, k5⟩ := hz.cells
  clear e1
  go_wp2
  obtain ⟨wf, HW, f0, f1, f2, hfin⟩ := hz.fin (q := (z : Rat)) (A2 := none) (l2 := 0) (c2 := 0) rfl (by rw [Rat.num_intCast]; exact hv) (by rw [Rat.den_intCast]; exact Num.zero _ _ _)
  rw [Rat.num_intCast] at HW f0 hfin
  rw [HW]
  (try simp only [Exit.inBlock, Exit.then])
  refine bodyPost_ret (by simp [results, Tryz.results9, go_sem, f0, f1, f2]; try rfl) rfl ?_
  exact hfin

def RetRE (w : World) (q : Rat) (err : Int) (e : Ending) (w' : World) : Prop := ∃ v, e = .returned (.tuple #[v, .int .i64 err]) ∧ IsRat w' v q ∧ Below w.heap.size w w'
theorem RetRE.of {w : World} {q : Rat} {v : Value} {w' : World} (h : RetRat w q (.returned v) w') (err : Int) : RetRE w q err (.returned (.tuple #[v, .int .i64 err])) w' := by
  obtain ⟨v', e, h1, h2⟩ := h
  injection e with e
  subst e
  exact ⟨_, rfl, h1, h2⟩
def newR (n d : Int) : Rat := redR (!(decide (n < 0) == decide (d < 0))) n.natAbs d.natAbs

theorem new_num (w : World) (n d : Int) (h1 : -9223372036854775808 ≤ n) (h2 : n ≤ 9223372036854775807) (h3 : -9223372036854775808 ≤ d) (h4 : d ≤ 9223372036854775807) (hd : d ≠ 0) :
    Calls Tryz.prog 11 #[.int .i64 n, .int .i64 d] w (RetRE w (newR n d) 0) := by
  have H := bx (And.intro (And.intro h1 h2) (And.intro h3 h4))
  have HD := bx hd
  have hde : (d == 0) = false := beq_eq_false_iff_ne.2 hd
  have B1 : Bx (Bd 64 n.natAbs) := bx (by unfold Bd; omega)
  have B2 : Bx (Bd 64 d.natAbs) := bx (by unfold Bd; omega)
  clear h1 h2 h3 h4 hd
  go_enter Tryz.func11, Tryz.ntmps11
  go_wp2_with fail
  obtain ⟨w1, e1, o1, b1, s1⟩ := lay3 w (.bool false) (.slice none 0 0) (.slice none 0 0) 29
  rw [e1]
  refine (size_num w1 n H.out.1.1 H.out.1.2).mono ?_
  rintro e w2 ⟨vn, rfl, hn, hb⟩
  go_wp2_with fail
  refine (size_num w2 d H.out.2.1 H.out.2.2).mono ?_
  rintro e w3 ⟨vd, rfl, hd, hb3⟩
  have hn3 := hn.below hb3
  go_wp2_with fail
  refine (reduced_num w3 _ _ _ _ _ hn3 hd (by have := HD.out; omega) B1.out B2.out (by omega)).mono ?_
  rintro e w4 ⟨vr, rfl, hrr, hb4⟩
  change IsRat w4 vr (newR n d) at hrr
  obtain ⟨vrn, vrd, rfl, hrn, hrd⟩ := hrr
  obtain ⟨Ar1, cr1, rfl, _⟩ := id hrn
  obtain ⟨Ar2, cr2, rfl, _⟩ := id hrd
  have o4 := ((o1.gone hb).gone hb3).gone hb4
  have hz : HeldR w w.heap.size 29 [] w4 := ⟨((b1.trans (hb.mono b1.size)).trans (hb3.mono (Nat.le_trans b1.size hb.size))).trans (hb4.mono (Nat.le_trans (Nat.le_trans b1.size hb.size) hb3.size)), Nat.le_refl _, by simp, _, _, _, o4, notInt_bool _, notInt_slice _ _ _, notInt_slice _ _ _⟩
  obtain ⟨k0, k1, k2, k3, k4, k5⟩ := hz.cells
  clear e1
  go_wp2
  obtain ⟨wf, HW, f0, f1, f2, hfin⟩ := hz.fin rfl hrn hrd
  rw [HW]
  (try simp only [Exit.inBlock, Exit.then])
  refine bodyPost_ret (by simp [results, Tryz.results11, go_sem, f0, f1, f2]; try rfl) rfl ?_
  exact RetRE.of hfin 0
end Wx

namespace Wx
open Go Go.RowKit Go.Proofs
set_option linter.unusedVariables false

end Wx

namespace Wx
open Go Go.RowKit Go.Proofs

def cmpT (x y : Rat) : Int := if x < y then -1 else if x = y then 0 else 1
theorem num_lt_zero (q : Rat) : q.num < 0 ↔ q < 0 := by
  rw [Rat.lt_iff]
  simp
theorem sgnI_eq (q : Rat) : sgnI q = cmpT q 0 := by
  unfold sgnI cmpT
  by_cases h : q < 0
  · rw [if_pos ((num_lt_zero q).2 h), if_pos h]
  · rw [if_neg (fun h' => h ((num_lt_zero q).1 h')), if_neg h]
theorem cmpT_lt {x y : Rat} (h : x < y) : cmpT x y = -1 := if_pos h
theorem cmpT_eq {x y : Rat} (h : x = y) : cmpT x y = 0 := by unfold cmpT; rw [if_neg (by grind), if_pos h]
theorem cmpT_gt {x y : Rat} (h : y < x) : cmpT x y = 1 := by unfold cmpT; rw [if_neg (by grind), if_neg (by grind)]
theorem tri (x y : Rat) : x < y ∨ x = y ∨ y < x := by grind
theorem cmpI_val (m n : Nat) : (m < n ∧ cmpI m n = -1) ∨ (m = n ∧ cmpI m n = 0) ∨ (n < m ∧ cmpI m n = 1) := by
  unfold cmpI
  rcases Nat.lt_trichotomy m n with h | h | h
  · left; exact ⟨h, if_pos h⟩
  · right; left; exact ⟨h, by rw [if_neg (by omega), if_neg (by omega)]⟩
  · right; right; exact ⟨h, by rw [if_neg (by omega), if_pos h]⟩
theorem cmpT_sub (x y : Rat) : cmpT (x - y) 0 = cmpT x y := by
  rcases tri x y with h | h | h
  · rw [cmpT_lt h, cmpT_lt (by grind)]
  · rw [cmpT_eq h, cmpT_eq (by grind)]
  · rw [cmpT_gt h, cmpT_gt (by grind)]
theorem cmpT_mul (x y z : Rat) : cmpT (x * z) (y * z) = cmpT z 0 * cmpT x y := by
  rcases tri z 0 with hz | hz | hz
  · have hn : 0 < -z := by grind
    rcases tri x y with h | h | h
    · have h1 := Rat.mul_lt_mul_of_pos_right h hn
      rw [cmpT_lt hz, cmpT_lt h, cmpT_gt (by grind)]; rfl
    · rw [cmpT_lt hz, cmpT_eq h, cmpT_eq (by rw [h])]; rfl
    · have h1 := Rat.mul_lt_mul_of_pos_right h hn
      rw [cmpT_lt hz, cmpT_gt h, cmpT_lt (by grind)]; rfl
  · rw [cmpT_eq hz, Int.zero_mul, hz, cmpT_eq (by grind)]
  · rcases tri x y with h | h | h
    · rw [cmpT_gt hz, cmpT_lt h, cmpT_lt (Rat.mul_lt_mul_of_pos_right h hz)]; rfl
    · rw [cmpT_gt hz, cmpT_eq h, cmpT_eq (by rw [h])]; rfl
    · rw [cmpT_gt hz, cmpT_gt h, cmpT_gt (Rat.mul_lt_mul_of_pos_right h hz)]; rfl
theorem sq_nonneg (x : Rat) : 0 ≤ x * x := by
  rcases tri x 0 with h | h | h
  · have h1 : 0 < -x := by grind
    have := Rat.mul_pos h1 h1
    grind
  · rw [h]; grind
  · have := Rat.mul_pos h h
    grind
end Wx

namespace Wx
open Go Go.RowKit Go.Proofs

def ObjA (w : World) (g : Nat) (cs : List Value) (e : TypeId) : Prop := w.heap[g]? = some (.cells cs.toArray e (0, 0))
theorem ObjA.cell {w : World} {g : Nat} {cs : List Value} {e : TypeId} (h : ObjA w g cs e) {i : Nat} {v : Value} (hi : cs[i]? = some v) : w.cell? ⟨g, i, none⟩ = some v := by
  unfold ObjA at h; simp [World.cell?, h, hi]
theorem ObjA.fz {w : World} {g : Nat} {cs : List Value} {e : TypeId} (h : ObjA w g cs e) (i : Nat) : w.frozen? ⟨g, i, none⟩ = false := by unfold ObjA at h; simp [World.frozen?, h]
theorem ObjA.lt {w : World} {g : Nat} {cs : List Value} {e : TypeId} (h : ObjA w g cs e) : g < w.heap.size := by
  unfold ObjA at h
  rcases Nat.lt_or_ge g w.heap.size with h' | h'
  · exact h'
  · rw [Array.getElem?_eq_none h'] at h; cases h
theorem ObjA.gone {w w' : World} {g : Nat} {cs : List Value} {e : TypeId} (h : ObjA w g cs e) (hb : Below w.heap.size w w') : ObjA w' g cs e := (hb.block g h.lt).trans h
theorem ObjA.far {w : World} {g r : Nat} {cs : List Value} {e : TypeId} (h : ObjA w g cs e) (hr : g ≠ r) (i : Nat) (u : Value) : ObjA (w.setCell ⟨r, i, none⟩ u) g cs e := (Below.heap_setCell w ⟨r, i, none⟩ u g hr).trans h
theorem ObjA.set {w : World} {g : Nat} {cs : List Value} {e : TypeId} (h : ObjA w g cs e) (i : Nat) (u : Value) : ObjA (w.setCell ⟨g, i, none⟩ u) g (cs.set i u) e := by
  unfold ObjA at *; simp [World.setCell, Array.getElem?_modify, h]
theorem ObjA.noInt {w : World} {g : Nat} {cs : List Value} {e : TypeId} (h : ObjA w g cs e) (hv : ∀ v ∈ cs, NotInt v) : NoInt w g := by
  intro i k z hc
  unfold ObjA at h
  simp only [World.cell?, h] at hc
  have : cs[i]? = some (.int k z) := by simpa using hc
  exact hv _ (List.mem_of_getElem? this) k z rfl
theorem layA (w : World) (cs : List Value) (e : TypeId) : ∃ w', w.alloc (.cells cs.toArray e) = w' ∧ ObjA w' w.heap.size cs e ∧ Below w.heap.size w w' ∧ w'.heap.size = w.heap.size + 1 :=
  ⟨_, rfl, heap_alloc_new _ _, Below.alloc (Below.refl _ _) (Nat.le_refl _) _, by simp⟩
theorem Num.noIntK {w : World} {k : IntKind} {b : Nat} {v : Value} {n : Nat} (h : Num k b w v n) {g : Nat} (hg : NoInt w g) (i : Nat) (u : Value) : Num k b (w.setCell ⟨g, i, none⟩ u) v n := by
  obtain ⟨A, c, rfl, hr⟩ := h
  exact ⟨A, c, rfl, hr.noInt hg i u⟩

def HeldN (w : World) (r n : Nat) (e : TypeId) (ps : List (Nat × List Value × TypeId)) (w' : World) : Prop :=
  Below w.heap.size w w' ∧ w.heap.size ≤ r ∧ (∀ p ∈ ps, p.1 ≠ r ∧ ObjA w' p.1 p.2.1 p.2.2) ∧ ∃ cs, cs.length = n ∧ ObjA w' r cs e ∧ ∀ v ∈ cs, NotInt v
theorem HeldN.call {w : World} {r n : Nat} {e : TypeId} {ps : List (Nat × List Value × TypeId)} {w' w'' : World} {p : Prop} (h : HeldN w r n e ps w' ∧ p) (hb : Below w'.heap.size w' w'') : HeldN w r n e ps w'' := by
  obtain ⟨⟨h1, h2, h3, cs, h4, h5, h6⟩, _⟩ := h
  exact ⟨h1.trans (hb.mono h1.size), h2, fun p hp => ⟨(h3 p hp).1, (h3 p hp).2.gone hb⟩, cs, h4, h5.gone hb, h6⟩
theorem HeldN.drew {w : World} {r n : Nat} {e : TypeId} {ps : List (Nat × List Value × TypeId)} {w' : World} (h : HeldN w r n e ps w') : HeldN w r n e ps w'.drew := by
  obtain ⟨h1, h2, h3, h4⟩ := h
  exact ⟨h1.drew, h2, h3, h4⟩
theorem HeldN.set {w : World} {r n : Nat} {e : TypeId} {ps : List (Nat × List Value × TypeId)} {w' : World} (h : HeldN w r n e ps w') (i : Nat) {u : Value} (hu : NotInt u) : HeldN w r n e ps (w'.setCell ⟨r, i, none⟩ u) := by
  obtain ⟨h1, h2, h3, cs, h4, h5, h6⟩ := h
  refine ⟨h1.setCell h2 _, h2, fun p hp => ⟨(h3 p hp).1, (h3 p hp).2.far (h3 p hp).1 _ _⟩, cs.set i u, by rw [List.length_set, h4], h5.set i u, fun v hv => ?_⟩
  rcases List.mem_or_eq_of_mem_set hv with h | h
  · exact h6 v h
  · rw [h]; exact hu
theorem HeldN.cellR {w : World} {r n : Nat} {e : TypeId} {ps : List (Nat × List Value × TypeId)} {w' : World} (h : HeldN w r n e ps w') {i : Nat} (hi : i < n) : w'.cell? ⟨r, i, none⟩ = some (cv w' ⟨r, i, none⟩) := by
  obtain ⟨_, _, _, cs, h4, h5, _⟩ := h
  exact cv_eq (h5.cell (List.getElem?_eq_getElem (by omega)))
theorem HeldN.fzR {w : World} {r n : Nat} {e : TypeId} {ps : List (Nat × List Value × TypeId)} {w' : World} (h : HeldN w r n e ps w') (i : Nat) : w'.frozen? ⟨r, i, none⟩ = false := by
  obtain ⟨_, _, _, cs, h4, h5, _⟩ := h
  exact h5.fz i
theorem HeldN.par {w : World} {r n : Nat} {e : TypeId} {ps : List (Nat × List Value × TypeId)} {w' : World} (h : HeldN w r n e ps w') {p : Nat × List Value × TypeId} (hp : p ∈ ps) : ObjA w' p.1 p.2.1 p.2.2 := (h.2.2.1 p hp).2
def setAll (w : World) (r k : Nat) : List Value → World
  | [] => w
  | v :: vs => setAll (w.setCell ⟨r, k, none⟩ v) r (k + 1) vs
theorem HeldN.setAll {w : World} {r n : Nat} {e : TypeId} {ps : List (Nat × List Value × TypeId)} (vs : List Value) : ∀ (k : Nat) {w' : World}, HeldN w r n e ps w' → (∀ v ∈ vs, NotInt v) → HeldN w r n e ps (setAll w' r k vs) := by
  induction vs with
  | nil => intro k w' h _; exact h
  | cons v vs ih => intro k w' h hv; exact ih (k + 1) (h.set k (hv v (by simp))) (fun u hu => hv u (List.mem_cons_of_mem _ hu))
theorem setAll_obj {r : Nat} {e : TypeId} (vs : List Value) : ∀ (k : Nat) {w : World} {cs : List Value}, ObjA w r cs e → cs.length = k + vs.length → ObjA (setAll w r k vs) r (cs.take k ++ vs) e := by
  induction vs with
  | nil => intro k w cs h hl; rw [List.append_nil, List.take_of_length_le (by simp at hl; omega)]; exact h
  | cons v vs ih =>
    intro k w cs h hl
    have := ih (k + 1) (h.set k v) (by rw [List.length_set]; simp at hl; omega)
    have e1 : (cs.set k v).take (k + 1) ++ vs = cs.take k ++ v :: vs := by
      have hk : k < (cs.set k v).length := by rw [List.length_set]; simp at hl; omega
      rw [List.take_add_one, List.getElem?_eq_getElem hk, List.getElem_set_self, List.take_set_of_le (Nat.le_refl k)]
      simp
    rw [e1] at this
    exact this
theorem setAll_num {r : Nat} {e : TypeId} (vs : List Value) : ∀ (k : Nat) {w : World} {cs : List Value}, ObjA w r cs e → (∀ v ∈ cs, NotInt v) → (∀ v ∈ vs, NotInt v) → ∀ (kd : IntKind) (b : Nat) (v : Value) (m : Nat), Num kd b w v m → Num kd b (setAll w r k vs) v m := by
  induction vs with
  | nil => intro k w cs _ _ _ kd b v m h; exact h
  | cons u vs ih =>
    intro k w cs h hc hv kd b v m hn
    refine ih (k + 1) (h.set k u) (fun x hx => ?_) (fun x hx => hv x (List.mem_cons_of_mem _ hx)) kd b v m (hn.noIntK (h.noInt hc) k u)
    rcases List.mem_or_eq_of_mem_set hx with h' | h'
    · exact hc x h'
    · rw [h']; exact hv u (by simp)
theorem HeldN.fin {w : World} {r n : Nat} {e : TypeId} {ps : List (Nat × List Value × TypeId)} {w' : World} (h : HeldN w r n e ps w') (vs : List Value) (hl : vs.length = n) (hv : ∀ v ∈ vs, NotInt v) :
    ∃ wf, Wx.setAll w' r 0 vs = wf ∧ ObjA wf r vs e ∧ Below w.heap.size w wf ∧ (∀ (kd : IntKind) (b : Nat) (v : Value) (m : Nat), Num kd b w' v m → Num kd b wf v m) := by
  have hs := HeldN.setAll vs 0 h hv
  obtain ⟨h1, h2, h3, cs, h4, h5, h6⟩ := h
  refine ⟨_, rfl, ?_, hs.1, setAll_num vs 0 h5 h6 hv⟩
  have := setAll_obj vs 0 h5 (by omega)
  simpa using this
theorem notInt3 {b : Bool} {A1 A2 : Option Addr} {l1 l2 c1 c2 : Nat} : ∀ v ∈ [Value.bool b, .slice A1 l1 c1, .slice A2 l2 c2], NotInt v := by
  intro v hv; simp at hv; rcases hv with rfl | rfl | rfl
  · exact notInt_bool _
  · exact notInt_slice _ _ _
  · exact notInt_slice _ _ _
theorem HeldN.sets3 {w : World} {r n : Nat} {e : TypeId} {ps : List (Nat × List Value × TypeId)} {w' : World} (h : HeldN w r n e ps w') {b : Bool} {A1 A2 : Option Addr} {l1 l2 c1 c2 : Nat} :
    HeldN w r n e ps (((w'.setCell ⟨r, 0, none⟩ (.bool b)).setCell ⟨r, 1, none⟩ (.slice A1 l1 c1)).setCell ⟨r, 2, none⟩ (.slice A2 l2 c2)) :=
  ((h.set 0 (notInt_bool _)).set 1 (notInt_slice _ _ _)).set 2 (notInt_slice _ _ _)
theorem IsRat.into {w w' : World} {v : Value} {q : Rat} (h : IsRat w v q) (hn : ∀ (kd : IntKind) (b : Nat) (v : Value) (m : Nat), Num kd b w v m → Num kd b w' v m) : IsRat w' v q := by
  obtain ⟨vn, vd, rfl, h1, h2⟩ := h
  exact ⟨vn, vd, rfl, hn _ _ _ _ h1, hn _ _ _ _ h2⟩
end Wx

namespace Wx
set_option maxRecDepth 100000
open Go Go.RowKit Go.Proofs

def ofR (n d : Int) : Rat := if d ≤ 0 then (n : Rat) else newR n d
theorem bd_newR {n d : Int} (h1 : -9223372036854775808 ≤ n) (h2 : n ≤ 9223372036854775807) (h3 : -9223372036854775808 ≤ d) (h4 : d ≤ 9223372036854775807) (hd : d ≠ 0) : BdR 64 (newR n d) :=
  redR_bd (by omega) (by unfold Bd; omega) (by unfold Bd; omega)
theorem bd_ofR {n d : Int} (h1 : -9223372036854775808 ≤ n) (h2 : n ≤ 9223372036854775807) (h4 : d ≤ 9223372036854775807) : BdR 64 (ofR n d) := by
  unfold ofR
  split
  · exact ⟨by unfold Bd; rw [Rat.num_intCast]; omega, by unfold Bd; rw [Rat.den_intCast]; omega⟩
  · exact bd_newR h1 h2 (by omega) h4 (by omega)

theorem of_num (w : World) (n d : Int) (h1 : -9223372036854775808 ≤ n) (h2 : n ≤ 9223372036854775807) (h4 : d ≤ 9223372036854775807) :
    Calls Tryz.prog 7 #[.agg #[.int .i64 n, .int .i64 d]] w (RetRat w (ofR n d)) := by
  have HH := bx (And.intro h1 (And.intro h2 h4))
  by_cases hd : d ≤ 0
  · have hq : ofR n d = (n : Rat) := if_pos hd
    rw [hq]
    generalize hg : (n : Rat) = q
    have HG := bx hg
    clear h1 h2 h4 hq hg
    go_enter Tryz.func7, Tryz.ntmps7
    go_wp2_with fail
    obtain ⟨w1, e1, o1, b1, s1⟩ := layA w [.int .i64 n, .int .i64 d] 23
    obtain ⟨w2, e2, o2, b2, s2⟩ := layA w1 [.bool false, .slice none 0 0, .slice none 0 0] 29
    rw [e1, e2]
    rw [s1] at o2
    have hz : HeldN w (w.heap.size + 1) 3 29 [] w2 := ⟨b1.trans (b2.mono b1.size), by omega, by simp, _, rfl, o2, notInt3⟩
    clear e1 e2 s2
    have hc := int_num w2 n HH.out.1 HH.out.2.1
    rw [HG.out] at hc
    refine Calls.mono hc ?_
    clear hc
    rintro e w3 ⟨vr, rfl, hr, hb⟩
    obtain ⟨vrn, vrd, rfl, hrn, hrd⟩ := id hr
    obtain ⟨Ar1, cr1, rfl, _⟩ := id hrn
    obtain ⟨Ar2, cr2, rfl, _⟩ := id hrd
    have hz := HeldN.call (And.intro hz trivial) hb
    have k0 := hz.cellR (i := 0) (by omega)
    have k1 := hz.cellR (i := 1) (by omega)
    have k2 := hz.cellR (i := 2) (by omega)
    have k3 := hz.fzR 0
    have k4 := hz.fzR 1
    have k5 := hz.fzR 2
    go_wp2
    obtain ⟨wf, HW, ho, hB, hN⟩ := hz.fin [_, _, _] rfl (notInt3 (b := decide (q.num < 0)) (A1 := Ar1) (l1 := (digs b64 q.num.natAbs).length) (c1 := cr1) (A2 := Ar2) (l2 := (digs b64 (denOf q.den)).length) (c2 := cr2))
    simp only [setAll, Nat.reduceAdd] at HW
    rw [HW]
    (try simp only [Exit.inBlock, Exit.then])
    have f0 := ho.cell (i := 0) rfl
    have f1 := ho.cell (i := 1) rfl
    have f2 := ho.cell (i := 2) rfl
    refine bodyPost_ret (by simp [results, Tryz.results7, go_sem, f0, f1, f2]; try rfl) rfl ?_
    exact ⟨_, rfl, hr.into hN, hB⟩
  · have hq : ofR n d = newR n d := if_neg hd
    rw [hq]
    generalize hg : newR n d = q
    have HG := bx hg
    have hde : d ≠ 0 := by omega
    have HD := bx (And.intro hde (show -9223372036854775808 ≤ d by omega))
    clear h1 h2 h4 hq hg hde
    go_enter Tryz.func7, Tryz.ntmps7
    go_wp2_with fail
    obtain ⟨w1, e1, o1, b1, s1⟩ := layA w [.int .i64 n, .int .i64 d] 23
    obtain ⟨w2, e2, o2, b2, s2⟩ := layA w1 [.bool false, .slice none 0 0, .slice none 0 0] 29
    rw [e1, e2]
    rw [s1] at o2
    have hz : HeldN w (w.heap.size + 1) 3 29 [] w2 := ⟨b1.trans (b2.mono b1.size), by omega, by simp, _, rfl, o2, notInt3⟩
    clear e1 e2 s2
    have hc := new_num w2 n d HH.out.1 HH.out.2.1 HD.out.2 HH.out.2.2 HD.out.1
    rw [HG.out] at hc
    refine Calls.mono hc ?_
    clear hc
    rintro e w3 ⟨vr, rfl, hr, hb⟩
    obtain ⟨vrn, vrd, rfl, hrn, hrd⟩ := id hr
    obtain ⟨Ar1, cr1, rfl, _⟩ := id hrn
    obtain ⟨Ar2, cr2, rfl, _⟩ := id hrd
    have hz := HeldN.call (And.intro hz trivial) hb
    obtain ⟨w4, e4, o4, b4, s4⟩ := layA w3 [.bool (decide (q.num < 0)), .slice Ar1 (digs b64 q.num.natAbs).length cr1, .slice Ar2 (digs b64 (denOf q.den)).length cr2] 29
    have hr4 := hr.below b4
    have hz := HeldN.call (And.intro hz trivial) b4
    have k0 := hz.cellR (i := 0) (by omega)
    have k1 := hz.cellR (i := 1) (by omega)
    have k2 := hz.cellR (i := 2) (by omega)
    have k3 := hz.fzR 0
    have k4 := hz.fzR 1
    have k5 := hz.fzR 2
    have k6 := o4.cell (i := 0) rfl
    have k7 := o4.cell (i := 1) rfl
    have k8 := o4.cell (i := 2) rfl
    go_wp2
    obtain ⟨wf, HW, ho, hB, hN⟩ := hz.fin [_, _, _] rfl (notInt3 (b := decide (q.num < 0)) (A1 := Ar1) (l1 := (digs b64 q.num.natAbs).length) (c1 := cr1) (A2 := Ar2) (l2 := (digs b64 (denOf q.den)).length) (c2 := cr2))
    simp only [setAll, Nat.reduceAdd] at HW
    rw [HW]
    (try simp only [Exit.inBlock, Exit.then])
    have f0 := ho.cell (i := 0) rfl
    have f1 := ho.cell (i := 1) rfl
    have f2 := ho.cell (i := 2) rfl
    refine bodyPost_ret (by simp [results, Tryz.results7, go_sem, f0, f1, f2]; try rfl) rfl ?_
    exact ⟨_, rfl, hr4.into hN, hB⟩
end Wx

namespace Wx
set_option maxRecDepth 100000
open Go Go.RowKit Go.Proofs

set_option maxHeartbeats 8000000 in
theorem less_num (w : World) (vx vy : Value) (x y : Rat) (hx : IsRat w vx x) (hy : IsRat w vy y) {j k : Nat} (hj : BdR j x) (hk : BdR k y) (hjk : j + k + j + k + 1 ≤ 100000000) : Calls Tryz.prog 94 #[vx, vy] w (RetRat w (x - y)) := by
  obtain ⟨vx1, vx2, rfl, hxa, hxb⟩ := id hx
  obtain ⟨Ax1, cx1, rfl, _⟩ := id hxa
  obtain ⟨Ax2, cx2, rfl, _⟩ := id hxb
  obtain ⟨vy1, vy2, rfl, hya, hyb⟩ := id hy
  obtain ⟨Ay1, cy1, rfl, _⟩ := id hya
  obtain ⟨Ay2, cy2, rfl, _⟩ := id hyb
  have HB := bx (And.intro hj hk)
  have HS := bx (Rat.sub_eq_add_neg x y)
  clear hj hk
  go_enter Tryz.func94, Tryz.ntmps94
  go_wp2_with fail
  obtain ⟨w1, e1, o1, b1, s1⟩ := lay3 w (.bool (decide (x.num < 0))) (.slice Ax1 (digs b64 x.num.natAbs).length cx1) (.slice Ax2 (digs b64 (denOf x.den)).length cx2) 29
  obtain ⟨w2, e2, o2, b2, s2⟩ := lay3 w1 (.bool (decide (y.num < 0))) (.slice Ay1 (digs b64 y.num.natAbs).length cy1) (.slice Ay2 (digs b64 (denOf y.den)).length cy2) 29
  obtain ⟨w3, e3, o3, b3, s3⟩ := lay3 w2 (.bool false) (.slice none 0 0) (.slice none 0 0) 29
  rw [e1, e2, e3]
  rw [s1] at o2
  rw [s2, s1] at o3
  have p1 := ((o1.gone b2).gone b3)
  have p2 := (o2.gone b3)
  have p3 := o3
  have B0 := ((b1.trans (b2.mono b1.size)).trans (b3.mono (b1.trans (b2.mono b1.size)).size))
  have hS : ∀ w', HeldR w (w.heap.size + 2) 29 [(w.heap.size, .bool (decide (x.num < 0)), .slice Ax1 (digs b64 x.num.natAbs).length cx1, .slice Ax2 (digs b64 (denOf x.den)).length cx2), (w.heap.size + 1, .bool (decide (y.num < 0)), .slice Ay1 (digs b64 y.num.natAbs).length cy1, .slice Ay2 (digs b64 (denOf y.den)).length cy2)] w' → HeldR w (w.heap.size + 2) 29 [(w.heap.size, .bool (decide (x.num < 0)), .slice Ax1 (digs b64 x.num.natAbs).length cx1, .slice Ax2 (digs b64 (denOf x.den)).length cx2), (w.heap.size + 1, .bool (decide (y.num < 0)), .slice Ay1 (digs b64 y.num.natAbs).length cy1, .slice Ay2 (digs b64 (denOf y.den)).length cy2)] w' ∧ w'.cell? ⟨w.heap.size, 0, none⟩ = some (.bool (decide (x.num < 0))) ∧ w'.cell? ⟨w.heap.size, 1, none⟩ = some (.slice Ax1 (digs b64 x.num.natAbs).length cx1) ∧ w'.cell? ⟨w.heap.size, 2, none⟩ = some (.slice Ax2 (digs b64 (denOf x.den)).length cx2) ∧ w'.cell? ⟨w.heap.size + 1, 0, none⟩ = some (.bool (decide (y.num < 0))) ∧ w'.cell? ⟨w.heap.size + 1, 1, none⟩ = some (.slice Ay1 (digs b64 y.num.natAbs).length cy1) ∧ w'.cell? ⟨w.heap.size + 1, 2, none⟩ = some (.slice Ay2 (digs b64 (denOf y.den)).length cy2) ∧ w'.cell? ⟨w.heap.size + 2, 0, none⟩ = some (cv w' ⟨w.heap.size + 2, 0, none⟩) ∧ w'.cell? ⟨w.heap.size + 2, 1, none⟩ = some (cv w' ⟨w.heap.size + 2, 1, none⟩) ∧ w'.cell? ⟨w.heap.size + 2, 2, none⟩ = some (cv w' ⟨w.heap.size + 2, 2, none⟩) ∧ w'.frozen? ⟨w.heap.size + 2, 0, none⟩ = false ∧ w'.frozen? ⟨w.heap.size + 2, 1, none⟩ = false ∧ w'.frozen? ⟨w.heap.size + 2, 2, none⟩ = false := fun w' hh => by
    obtain ⟨f0, f1, f2, f3, f4, f5⟩ := hh.cells
    have q1 := (hh.2.2.1 (w.heap.size, .bool (decide (x.num < 0)), .slice Ax1 (digs b64 x.num.natAbs).length cx1, .slice Ax2 (digs b64 (denOf x.den)).length cx2) (by simp)).2
    have q2 := (hh.2.2.1 (w.heap.size + 1, .bool (decide (y.num < 0)), .slice Ay1 (digs b64 y.num.natAbs).length cy1, .slice Ay2 (digs b64 (denOf y.den)).length cy2) (by simp)).2
    exact ⟨hh, q1.c0, q1.c1, q1.c2, q2.c0, q2.c1, q2.c2, f0, f1, f2, f3, f4, f5⟩
  have H0 : HeldR w (w.heap.size + 2) 29 [(w.heap.size, .bool (decide (x.num < 0)), .slice Ax1 (digs b64 x.num.natAbs).length cx1, .slice Ax2 (digs b64 (denOf x.den)).length cx2), (w.heap.size + 1, .bool (decide (y.num < 0)), .slice Ay1 (digs b64 y.num.natAbs).length cy1, .slice Ay2 (digs b64 (denOf y.den)).length cy2)] w3 := ⟨B0, by omega, by intro p hp; simp at hp; rcases hp with rfl | rfl; exact ⟨by simp, p1⟩; exact ⟨by simp, p2⟩, _, _, _, p3, notInt_bool _, notInt_slice _ _ _, notInt_slice _ _ _⟩
  clear e1 e2 e3
  have hz := H0.drew
  go_region_held3 (fun w' => HeldR w (w.heap.size + 2) 29 [(w.heap.size, .bool (decide (x.num < 0)), .slice Ax1 (digs b64 x.num.natAbs).length cx1, .slice Ax2 (digs b64 (denOf x.den)).length cx2), (w.heap.size + 1, .bool (decide (y.num < 0)), .slice Ay1 (digs b64 y.num.natAbs).length cy1, .slice Ay2 (digs b64 (denOf y.den)).length cy2)] w' ∧ w'.cell? ⟨w.heap.size, 0, none⟩ = some (.bool (decide (x.num < 0))) ∧ w'.cell? ⟨w.heap.size, 1, none⟩ = some (.slice Ax1 (digs b64 x.num.natAbs).length cx1) ∧ w'.cell? ⟨w.heap.size, 2, none⟩ = some (.slice Ax2 (digs b64 (denOf x.den)).length cx2) ∧ w'.cell? ⟨w.heap.size + 1, 0, none⟩ = some (.bool (decide (y.num < 0))) ∧ w'.cell? ⟨w.heap.size + 1, 1, none⟩ = some (.slice Ay1 (digs b64 y.num.natAbs).length cy1) ∧ w'.cell? ⟨w.heap.size + 1, 2, none⟩ = some (.slice Ay2 (digs b64 (denOf y.den)).length cy2) ∧ w'.cell? ⟨w.heap.size + 2, 0, none⟩ = some (cv w' ⟨w.heap.size + 2, 0, none⟩) ∧ w'.cell? ⟨w.heap.size + 2, 1, none⟩ = some (cv w' ⟨w.heap.size + 2, 1, none⟩) ∧ w'.cell? ⟨w.heap.size + 2, 2, none⟩ = some (cv w' ⟨w.heap.size + 2, 2, none⟩) ∧ w'.frozen? ⟨w.heap.size + 2, 0, none⟩ = false ∧ w'.frozen? ⟨w.heap.size + 2, 1, none⟩ = false ∧ w'.frozen? ⟨w.heap.size + 2, 2, none⟩ = false)
    (first | exact hS _ hz | exact hS _ (HeldR.sets (by assumption) _ _ _ _ _ _ _))
    (first
      | (go_at_call 86; have hc := neg_num _ _ y (hy.below hz.1); (with_reducible refine Calls.mono hc ?_); clear hc; rintro e wz ⟨vm, rfl, hm, hb⟩; have hz := HeldR.call (by assumption) hb)
      | (go_at_call 82; have hc := add_num _ _ _ x (-y) (hx.below hz.1) hm HB.out.1 HB.out.2.neg hjk; (with_reducible refine Calls.mono hc ?_); clear hc; rintro e wz ⟨vr, rfl, hrr, hb⟩; replace hrr := isRat_of hrr HS.out; obtain ⟨vrn, vrd, rfl, hrn, hrd⟩ := hrr; obtain ⟨Ar1, cr1, rfl, _⟩ := id hrn; obtain ⟨Ar2, cr2, rfl, _⟩ := id hrd; have hz := HeldR.call (by assumption) hb))
  all_goals (
    go_wp2
    obtain ⟨wf, HW, f0, f1, f2, hfin⟩ := hz.fin rfl hrn hrd
    (try rw [HW])
    (try simp only [Exit.inBlock, Exit.then])
    refine bodyPost_ret (by simp [results, Tryz.results94, go_sem, f0, f1, f2]; try rfl) rfl ?_
    first | exact hfin | exact hfin.drew)

theorem sub_num (w : World) (vx vy : Value) (x y : Rat) (hx : IsRat w vx x) (hy : IsRat w vy y) {j k : Nat} (hj : BdR j x) (hk : BdR k y) (hjk : j + k + j + k + 1 ≤ 100000000) : Calls Tryz.prog 53 #[vx, vy] w (RetRat w (x - y)) := by
  obtain ⟨vx1, vx2, rfl, hxa, hxb⟩ := id hx
  obtain ⟨Ax1, cx1, rfl, _⟩ := id hxa
  obtain ⟨Ax2, cx2, rfl, _⟩ := id hxb
  obtain ⟨vy1, vy2, rfl, hya, hyb⟩ := id hy
  obtain ⟨Ay1, cy1, rfl, _⟩ := id hya
  obtain ⟨Ay2, cy2, rfl, _⟩ := id hyb
  go_enter Tryz.func53, Tryz.ntmps53
  go_wp2_with fail
  obtain ⟨w1, e1, o1, b1, s1⟩ := lay3 w (.bool (decide (x.num < 0))) (.slice Ax1 (digs b64 x.num.natAbs).length cx1) (.slice Ax2 (digs b64 (denOf x.den)).length cx2) 29
  obtain ⟨w2, e2, o2, b2, s2⟩ := lay3 w1 (.bool (decide (y.num < 0))) (.slice Ay1 (digs b64 y.num.natAbs).length cy1) (.slice Ay2 (digs b64 (denOf y.den)).length cy2) 29
  obtain ⟨w3, e3, o3, b3, s3⟩ := lay3 w2 (.bool false) (.slice none 0 0) (.slice none 0 0) 29
  rw [e1, e2, e3]
  rw [s1] at o2
  rw [s2, s1] at o3
  have p1 := ((o1.gone b2).gone b3)
  have p2 := (o2.gone b3)
  have p3 := o3
  have B0 := ((b1.trans (b2.mono b1.size)).trans (b3.mono (b1.trans (b2.mono b1.size)).size))
  have hS : ∀ w', HeldR w (w.heap.size + 2) 29 [(w.heap.size, .bool (decide (x.num < 0)), .slice Ax1 (digs b64 x.num.natAbs).length cx1, .slice Ax2 (digs b64 (denOf x.den)).length cx2), (w.heap.size + 1, .bool (decide (y.num < 0)), .slice Ay1 (digs b64 y.num.natAbs).length cy1, .slice Ay2 (digs b64 (denOf y.den)).length cy2)] w' → HeldR w (w.heap.size + 2) 29 [(w.heap.size, .bool (decide (x.num < 0)), .slice Ax1 (digs b64 x.num.natAbs).length cx1, .slice Ax2 (digs b64 (denOf x.den)).length cx2), (w.heap.size + 1, .bool (decide (y.num < 0)), .slice Ay1 (digs b64 y.num.natAbs).length cy1, .slice Ay2 (digs b64 (denOf y.den)).length cy2)] w' ∧ w'.cell? ⟨w.heap.size, 0, none⟩ = some (.bool (decide (x.num < 0))) ∧ w'.cell? ⟨w.heap.size, 1, none⟩ = some (.slice Ax1 (digs b64 x.num.natAbs).length cx1) ∧ w'.cell? ⟨w.heap.size, 2, none⟩ = some (.slice Ax2 (digs b64 (denOf x.den)).length cx2) ∧ w'.cell? ⟨w.heap.size + 1, 0, none⟩ = some (.bool (decide (y.num < 0))) ∧ w'.cell? ⟨w.heap.size + 1, 1, none⟩ = some (.slice Ay1 (digs b64 y.num.natAbs).length cy1) ∧ w'.cell? ⟨w.heap.size + 1, 2, none⟩ = some (.slice Ay2 (digs b64 (denOf y.den)).length cy2) ∧ w'.cell? ⟨w.heap.size + 2, 0, none⟩ = some (cv w' ⟨w.heap.size + 2, 0, none⟩) ∧ w'.cell? ⟨w.heap.size + 2, 1, none⟩ = some (cv w' ⟨w.heap.size + 2, 1, none⟩) ∧ w'.cell? ⟨w.heap.size + 2, 2, none⟩ = some (cv w' ⟨w.heap.size + 2, 2, none⟩) ∧ w'.frozen? ⟨w.heap.size + 2, 0, none⟩ = false ∧ w'.frozen? ⟨w.heap.size + 2, 1, none⟩ = false ∧ w'.frozen? ⟨w.heap.size + 2, 2, none⟩ = false := fun w' hh => by
    obtain ⟨f0, f1, f2, f3, f4, f5⟩ := hh.cells
    have q1 := (hh.2.2.1 (w.heap.size, .bool (decide (x.num < 0)), .slice Ax1 (digs b64 x.num.natAbs).length cx1, .slice Ax2 (digs b64 (denOf x.den)).length cx2) (by simp)).2
    have q2 := (hh.2.2.1 (w.heap.size + 1, .bool (decide (y.num < 0)), .slice Ay1 (digs b64 y.num.natAbs).length cy1, .slice Ay2 (digs b64 (denOf y.den)).length cy2) (by simp)).2
    exact ⟨hh, q1.c0, q1.c1, q1.c2, q2.c0, q2.c1, q2.c2, f0, f1, f2, f3, f4, f5⟩
  have H0 : HeldR w (w.heap.size + 2) 29 [(w.heap.size, .bool (decide (x.num < 0)), .slice Ax1 (digs b64 x.num.natAbs).length cx1, .slice Ax2 (digs b64 (denOf x.den)).length cx2), (w.heap.size + 1, .bool (decide (y.num < 0)), .slice Ay1 (digs b64 y.num.natAbs).length cy1, .slice Ay2 (digs b64 (denOf y.den)).length cy2)] w3 := ⟨B0, by omega, by intro p hp; simp at hp; rcases hp with rfl | rfl; exact ⟨by simp, p1⟩; exact ⟨by simp, p2⟩, _, _, _, p3, notInt_bool _, notInt_slice _ _ _, notInt_slice _ _ _⟩
  clear e1 e2 e3
  have hz := H0
  obtain ⟨_, k0, k1, k2, k3, k4, k5, _⟩ := hS _ hz
  refine (less_num _ _ _ x y (hx.below hz.1) (hy.below hz.1) hj hk hjk).mono ?_
  rintro e wz ⟨vr, rfl, hrr, hb⟩
  obtain ⟨vrn, vrd, rfl, hrn, hrd⟩ := hrr
  obtain ⟨Ar1, cr1, rfl, _⟩ := id hrn
  obtain ⟨Ar2, cr2, rfl, _⟩ := id hrd
  have hz := HeldR.call (And.intro hz trivial) hb
  clear k0 k1 k2 k3 k4 k5
  obtain ⟨_, k0, k1, k2, k3, k4, k5, k6, k7, k8, k9, k10, k11⟩ := hS _ hz
  go_wp2
  obtain ⟨wf, HW, f0, f1, f2, hfin⟩ := hz.fin rfl hrn hrd
  (try rw [HW])
  (try simp only [Exit.inBlock, Exit.then])
  refine bodyPost_ret (by simp [results, Tryz.results53, go_sem, f0, f1, f2]; try rfl) rfl ?_
  exact hfin
end Wx
