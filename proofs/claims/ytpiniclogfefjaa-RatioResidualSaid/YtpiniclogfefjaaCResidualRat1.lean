import Derived.Test.YtpiniclogfefjaaProg
import Derived.Handy
import Derived.Test.YtpiniclogfefjaaJResidual0
import Derived.Test.YtpiniclogfefjaaCResidualMem
import Derived.Test.YtpiniclogfefjaaJResidual6
import Derived.Test.YtpiniclogfefjaaJResidual12
namespace Wx
open Go Go.RowKit Go.Proofs

def NoInt (w : World) (g : Nat) : Prop := ∀ i k z, w.cell? ⟨g, i, none⟩ ≠ some (.int k z)
def Obj3 (w : World) (g : Nat) (x y z : Value) (e : TypeId) : Prop := w.heap[g]? = some (.cells #[x, y, z] e (0, 0))
theorem Obj3.c0 {w : World} {g : Nat} {x y z : Value} {e : TypeId} (h : Obj3 w g x y z e) : w.cell? ⟨g, 0, none⟩ = some x := by unfold Obj3 at h; simp [World.cell?, h]
theorem Obj3.c1 {w : World} {g : Nat} {x y z : Value} {e : TypeId} (h : Obj3 w g x y z e) : w.cell? ⟨g, 1, none⟩ = some y := by unfold Obj3 at h; simp [World.cell?, h]
theorem Obj3.c2 {w : World} {g : Nat} {x y z : Value} {e : TypeId} (h : Obj3 w g x y z e) : w.cell? ⟨g, 2, none⟩ = some z := by unfold Obj3 at h; simp [World.cell?, h]
theorem Obj3.fz {w : World} {g : Nat} {x y z : Value} {e : TypeId} (h : Obj3 w g x y z e) (i : Nat) : w.frozen? ⟨g, i, none⟩ = false := by unfold Obj3 at h; simp [World.frozen?, h]
theorem Obj3.below {B : Nat} {w w' : World} {g : Nat} {x y z : Value} {e : TypeId} (h : Obj3 w g x y z e) (hb : Below B w w') (hg : g < B) : Obj3 w' g x y z e := (hb.block g hg).trans h
theorem Obj3.new (w : World) (x y z : Value) (e : TypeId) : Obj3 (w.alloc (.cells #[x, y, z] e)) w.heap.size x y z e := by unfold Obj3; exact heap_alloc_new _ _
theorem Row_lt_alloc (w : World) (o : Obj) : w.heap.size < (w.alloc o).heap.size := by simp
theorem Obj3.noInt {w : World} {g : Nat} {x y z : Value} {e : TypeId} (h : Obj3 w g x y z e) (hx : ∀ k n, x ≠ .int k n) (hy : ∀ k n, y ≠ .int k n) (hz : ∀ k n, z ≠ .int k n) : NoInt w g := by
  intro i k n hc
  unfold Obj3 at h
  simp only [World.cell?, h] at hc
  match i, hc with
  | 0, hc => exact hx k n (by simpa using hc)
  | 1, hc => exact hy k n (by simpa using hc)
  | 2, hc => exact hz k n (by simpa using hc)
  | n + 3, hc => simp at hc
theorem Obj3.set0 {w : World} {g : Nat} {x y z : Value} {e : TypeId} (h : Obj3 w g x y z e) (u : Value) : Obj3 (w.setCell ⟨g, 0, none⟩ u) g u y z e := by
  unfold Obj3 at *; simp [World.setCell, Array.getElem?_modify, h]
theorem Obj3.set1 {w : World} {g : Nat} {x y z : Value} {e : TypeId} (h : Obj3 w g x y z e) (u : Value) : Obj3 (w.setCell ⟨g, 1, none⟩ u) g x u z e := by
  unfold Obj3 at *; simp [World.setCell, Array.getElem?_modify, h]
theorem Obj3.set2 {w : World} {g : Nat} {x y z : Value} {e : TypeId} (h : Obj3 w g x y z e) (u : Value) : Obj3 (w.setCell ⟨g, 2, none⟩ u) g x y u e := by
  unfold Obj3 at *; simp [World.setCell, Array.getElem?_modify, h]
theorem Rd.noInt {w : World} {k : IntKind} {A : Option Addr} {c : Nat} {l : List Nat} (h : Rd w k A c l) {g : Nat} (hg : NoInt w g) (i : Nat) (u : Value) : Rd (w.setCell ⟨g, i, none⟩ u) k A c l := by
  obtain ⟨h1, h2, h3⟩ := h
  refine ⟨h1, h2, fun hne => ?_⟩
  obtain ⟨b, o, e, hc⟩ := h3 hne
  refine ⟨b, o, e, fun i' hi => ?_⟩
  have hne' : b ≠ g := by rintro rfl; exact hg _ _ _ (hc i' hi)
  rw [World.cell?_of_block (Below.heap_setCell w ⟨g, i, none⟩ u b hne')]
  exact hc i' hi
theorem Num.noInt {w : World} {k : IntKind} {v : Value} {n : Nat} (h : Num k b64 w v n) {g : Nat} (hg : NoInt w g) (i : Nat) (u : Value) : Num k b64 (w.setCell ⟨g, i, none⟩ u) v n := by
  obtain ⟨A, c, rfl, hr⟩ := h
  exact ⟨A, c, rfl, hr.noInt hg i u⟩

def denOf (d : Nat) : Nat := if d = 1 then 0 else d
def IsRat (w : World) (v : Value) (q : Rat) : Prop := ∃ vn vd, v = .agg #[.bool (decide (q.num < 0)), vn, vd] ∧ Num .u64 b64 w vn q.num.natAbs ∧ Num .u64 b64 w vd (denOf q.den)
def RetRat (w : World) (q : Rat) (e : Ending) (w' : World) : Prop := ∃ v, e = .returned v ∧ IsRat w' v q ∧ Below w.heap.size w w'
theorem IsRat.below {w w' : World} {v : Value} {q : Rat} (h : IsRat w v q) (hb : Below w.heap.size w w') : IsRat w' v q := by
  obtain ⟨vn, vd, rfl, h1, h2⟩ := h
  exact ⟨vn, vd, rfl, h1.below hb, h2.below hb⟩
def BdR (j : Nat) (q : Rat) : Prop := Bd j q.num.natAbs ∧ Bd j q.den
theorem BdR.mono {j k : Nat} {q : Rat} (h : BdR j q) (hk : j ≤ k) : BdR k q := ⟨h.1.mono hk, h.2.mono hk⟩
def sg (neg : Bool) (n : Nat) : Int := if neg then -(n : Int) else n
theorem sg_natAbs (neg : Bool) (n : Nat) : (sg neg n).natAbs = n := by cases neg <;> simp [sg]
theorem sg_mk (z : Int) : sg (decide (z < 0)) z.natAbs = z := by
  unfold sg
  by_cases h : z < 0
  · rw [decide_eq_true h]; simp; omega
  · rw [decide_eq_false h]; simp; omega
def redR (neg : Bool) (n d : Nat) : Rat := mkRat (sg neg n) d
theorem redR_num {neg : Bool} {n d : Nat} (hd : 0 < d) : (redR neg n d).num = sg neg (n / n.gcd d) := by
  unfold redR
  rw [Rat.num_mkRat, if_neg (by omega), sg_natAbs, Nat.gcd_comm]
  cases neg
  · simp [sg]
  · show -(n : Int) / ((n.gcd d : Nat) : Int) = -((n / n.gcd d : Nat) : Int)
    rw [Int.neg_ediv_of_dvd (Int.natCast_dvd_natCast.2 (Nat.gcd_dvd_left n d)), Int.natCast_ediv]
theorem redR_den {neg : Bool} {n d : Nat} (hd : 0 < d) : (redR neg n d).den = d / n.gcd d := by
  unfold redR
  rw [Rat.den_mkRat, if_neg (by omega), sg_natAbs, Nat.gcd_comm]
theorem redR_natAbs {neg : Bool} {n d : Nat} (hd : 0 < d) : (redR neg n d).num.natAbs = n / n.gcd d := by rw [redR_num hd, sg_natAbs]
theorem redR_bd {neg : Bool} {n d j : Nat} (hd : 0 < d) (h1 : Bd j n) (h2 : Bd j d) : BdR j (redR neg n d) :=
  ⟨by rw [redR_natAbs hd]; exact h1.le (Nat.div_le_self _ _), by rw [redR_den hd]; exact h2.le (Nat.div_le_self _ _)⟩
theorem redR_neg {neg : Bool} {n d : Nat} (hd : 0 < d) (hn : 0 < n) : decide ((redR neg n d).num < 0) = neg := by
  rw [redR_num hd]
  have : 0 < n / n.gcd d := Nat.div_pos (Nat.le_of_dvd hn (Nat.gcd_dvd_left n d)) (Nat.gcd_pos_of_pos_left _ hn)
  cases neg <;> simp [sg] <;> omega
theorem redR_zero {neg : Bool} {d : Nat} : redR neg 0 d = 0 := by
  unfold redR sg
  cases neg <;> simp
theorem rat_end {w w3 : World} {g : Nat} {x y z : Value} {e : TypeId} {q : Rat} {neg : Bool} {A1 A2 : Option Addr} {l1 l2 c1 c2 : Nat} (hg : w.heap.size ≤ g) (hb : Below w.heap.size w w3) (ho : Obj3 w3 g x y z e)
    (hx : ∀ k n, x ≠ .int k n) (hy : ∀ k n, y ≠ .int k n) (hz : ∀ k n, z ≠ .int k n) (hn : decide (q.num < 0) = neg) (h1 : Num .u64 b64 w3 (.slice A1 l1 c1) q.num.natAbs) (h2 : Num .u64 b64 w3 (.slice A2 l2 c2) (denOf q.den)) :
    ∃ wf, ((w3.setCell ⟨g, 0, none⟩ (.bool neg)).setCell ⟨g, 1, none⟩ (.slice A1 l1 c1)).setCell ⟨g, 2, none⟩ (.slice A2 l2 c2) = wf ∧ wf.cell? ⟨g, 0, none⟩ = some (.bool neg) ∧ wf.cell? ⟨g, 1, none⟩ = some (.slice A1 l1 c1) ∧ wf.cell? ⟨g, 2, none⟩ = some (.slice A2 l2 c2) ∧
      RetRat w q (.returned (.agg #[.bool neg, .slice A1 l1 c1, .slice A2 l2 c2])) wf := by
  have n0 := ho.noInt hx hy hz
  have o1 := ho.set0 (.bool neg)
  have n1 := o1.noInt (by simp) hy hz
  have o2 := o1.set1 (.slice A1 l1 c1)
  have n2 := o2.noInt (by simp) (by simp) hz
  have o3 := o2.set2 (.slice A2 l2 c2)
  refine ⟨_, rfl, o3.c0, o3.c1, o3.c2, _, rfl, ⟨_, _, by rw [hn], ((h1.noInt n0 _ _).noInt n1 _ _).noInt n2 _ _, ((h2.noInt n0 _ _).noInt n1 _ _).noInt n2 _ _⟩, ((hb.setCell hg _).setCell hg _).setCell hg _⟩
theorem isRat_zero (w : World) : IsRat w (.agg #[.bool false, .slice none 0 0, .slice none 0 0]) 0 := ⟨_, _, rfl, Num.zero _ _ _, Num.zero _ _ _⟩
theorem denOf_one : denOf 1 = 0 := rfl
theorem denOf_ne {d : Nat} (h : d ≠ 1) : denOf d = d := if_neg h

theorem under_num (w : World) (v : Value) (d : Nat) (h : Num .u64 b64 w v (denOf d)) (hd : 0 < d) : Calls Try.prog 40 #[v] w (RetNum .u64 b64 w d) := by
  by_cases h1 : d = 1
  · subst h1
    obtain ⟨A, c, rfl, hr⟩ := id h
    rw [denOf_one, digs_zero]
    go_enter Try.func40, Try.ntmps40
    go_wp2_with fail
    refine (word_num w 1 (by unfold b64; omega)).mono ?_
    rintro e w3 ⟨vr, rfl, hr3, hb3⟩
    go_wp2
    go_ret
    exact ⟨_, rfl, hr3, hb3⟩
  · rw [denOf_ne h1] at h
    obtain ⟨A, c, rfl, hr⟩ := id h
    have hl : (((digs b64 d).length : Int) == 0) = false := beq_eq_false_iff_ne.2 (by have := (digs_length_pos (n := d) two_le_b64).2 hd; omega)
    go_enter Try.func40, Try.ntmps40
    go_wp2
    go_ret
    exact ⟨_, rfl, h, Below.refl _ _⟩

set_option maxHeartbeats 1000000 in
theorem reduced_num (w : World) (neg : Bool) (v1 v2 : Value) (n d : Nat) (h1 : Num .u64 b64 w v1 n) (h2 : Num .u64 b64 w v2 d) (hd : 0 < d) {j : Nat} (hj : Bd j n) (hk : Bd j d) (hj1 : j ≤ 100000000) :
    Calls Try.prog 38 #[.bool neg, v1, v2] w (RetRat w (redR neg n d)) := by
  rcases Nat.eq_zero_or_pos n with rfl | hn
  · obtain ⟨A, c, rfl, hr⟩ := id h1
    rw [digs_zero, redR_zero]
    go_enter Try.func38, Try.ntmps38
    go_wp2
    go_returns
    exact ⟨_, rfl, isRat_zero _, Below.alloc (Below.refl _ _) (Nat.le_refl _) _⟩
  · obtain ⟨B, c, rfl, hr⟩ := id h1
    have hl : (((digs b64 n).length : Int) == 0) = false := beq_eq_false_iff_ne.2 (by have := (digs_length_pos (n := n) two_le_b64).2 hn; omega)
    obtain ⟨g, hg⟩ : ∃ g, g = n.gcd d := ⟨_, rfl⟩
    obtain ⟨q, hq⟩ : ∃ q, q = redR neg n d := ⟨_, rfl⟩
    have hg0 : 0 < g := by rw [hg]; exact Nat.gcd_pos_of_pos_left _ hn
    have q1 := redR_natAbs (neg := neg) (n := n) hd
    have q2 := redR_den (neg := neg) (n := n) hd
    have q3 := redR_neg (neg := neg) hd hn
    rw [← hq, ← hg] at q1 q2
    rw [← hq] at q3
    rw [← hq]
    have HQ := bx (And.intro q1 (And.intro q2 q3))
    have HJ := bx (And.intro hj hk)
    have HG := bx hg
    clear q1 q2 q3 hq hj hk hg hn
    by_cases h1g : g = 1
    · subst h1g
      rw [Nat.div_one, Nat.div_one] at HQ
      by_cases hd1 : d = 1
      · have HD1 := bx hd1
        clear hd1
        go_enter Try.func38, Try.ntmps38
        go_wp2_with fail
        have hb0 := Below.alloc (Below.refl w.heap.size w) (Nat.le_refl _) (.cells #[.bool false, .slice none 0 0, .slice none 0 0] 32)
        have ho := Obj3.new w (.bool false) (.slice none 0 0) (.slice none 0 0) 32
        have hlt := Row_lt_alloc w (.cells #[.bool false, .slice none 0 0, .slice none 0 0] 32)
        generalize w.alloc (.cells #[.bool false, .slice none 0 0, .slice none 0 0] 32) = w0 at *
        refine (gcd_num _ _ _ n d (h1.below hb0) (h2.below hb0) HJ.out.1 HJ.out.2 hj1).mono ?_
        rintro e w1 ⟨vg, rfl, hvg, hb1⟩
        rw [← HG.out] at hvg
        have ho1 := ho.below hb1 hlt
        have hlt1 := Nat.lt_of_lt_of_le hlt hb1.size
        have hb01 := hb0.trans (hb1.mono hb0.size)
        have h11 := h1.below hb01
        have h21 := h2.below hb01
        go_wp2_with fail
        refine (isOne_yes w1 vg hvg).mono ?_
        rintro e w' ⟨rfl, rfl⟩
        go_wp2_with fail
        rw [HD1.out] at h21
        refine (isOne_yes w1 _ h21).mono ?_
        rintro e w' ⟨rfl, rfl⟩
        have HOF := ho1
        have HBF := hb01
        obtain ⟨wf, HW, f0, f1, f2, hfin⟩ := rat_end (q := q) (neg := neg) (Nat.le_refl _) HBF HOF (by simp) (by simp) (by simp) HQ.out.2.2 (by rw [HQ.out.1]; exact h11) (A2 := none) (l2 := 0) (c2 := 0) (by rw [HQ.out.2.1, HD1.out, denOf_one]; exact Num.zero _ _ _)
        have HW1 := bx HW
        have HF := bx (And.intro f0 (And.intro f1 f2))
        clear HW f0 f1 f2
        have k0 := HOF.c0
        have k1 := HOF.c1
        have k2 := HOF.c2
        have k3 := HOF.fz 0
        have k4 := HOF.fz 1
        have k5 := HOF.fz 2
        go_wp2
        rw [HW1.out]
        obtain ⟨f0, f1, f2⟩ := HF.out
        (try simp only [Exit.inBlock, Exit.then])
        refine bodyPost_ret (by simp [results, Try.results38, go_sem, f0, f1, f2]; try rfl) rfl ?_
        exact hfin
      · have HD1 := bx hd1
        clear hd1
        go_enter Try.func38, Try.ntmps38
        go_wp2_with fail
        have hb0 := Below.alloc (Below.refl w.heap.size w) (Nat.le_refl _) (.cells #[.bool false, .slice none 0 0, .slice none 0 0] 32)
        have ho := Obj3.new w (.bool false) (.slice none 0 0) (.slice none 0 0) 32
        have hlt := Row_lt_alloc w (.cells #[.bool false, .slice none 0 0, .slice none 0 0] 32)
        generalize w.alloc (.cells #[.bool false, .slice none 0 0, .slice none 0 0] 32) = w0 at *
        refine (gcd_num _ _ _ n d (h1.below hb0) (h2.below hb0) HJ.out.1 HJ.out.2 hj1).mono ?_
        rintro e w1 ⟨vg, rfl, hvg, hb1⟩
        rw [← HG.out] at hvg
        have ho1 := ho.below hb1 hlt
        have hlt1 := Nat.lt_of_lt_of_le hlt hb1.size
        have hb01 := hb0.trans (hb1.mono hb0.size)
        have h11 := h1.below hb01
        have h21 := h2.below hb01
        go_wp2_with fail
        refine (isOne_yes w1 vg hvg).mono ?_
        rintro e w' ⟨rfl, rfl⟩
        go_wp2_with fail
        refine (isOne_no w1 _ _ h21 HD1.out).mono ?_
        rintro e w' ⟨rfl, rfl⟩
        have HOF := ho1
        have HBF := hb01
        obtain ⟨A2, c2, rfl, _⟩ := id h21
        obtain ⟨wf, HW, f0, f1, f2, hfin⟩ := rat_end (q := q) (neg := neg) (Nat.le_refl _) HBF HOF (by simp) (by simp) (by simp) HQ.out.2.2 (by rw [HQ.out.1]; exact h11) (by rw [HQ.out.2.1, denOf_ne HD1.out]; exact h21)
        have HW1 := bx HW
        have HF := bx (And.intro f0 (And.intro f1 f2))
        clear HW f0 f1 f2
        have k0 := HOF.c0
        have k1 := HOF.c1
        have k2 := HOF.c2
        have k3 := HOF.fz 0
        have k4 := HOF.fz 1
        have k5 := HOF.fz 2
        go_wp2
        rw [HW1.out]
        obtain ⟨f0, f1, f2⟩ := HF.out
        (try simp only [Exit.inBlock, Exit.then])
        refine bodyPost_ret (by simp [results, Try.results38, go_sem, f0, f1, f2]; try rfl) rfl ?_
        exact hfin
    · by_cases hd1 : d / g = 1
      · have HG1 := bx h1g
        have HD1 := bx hd1
        clear h1g hd1
        go_enter Try.func38, Try.ntmps38
        go_wp2_with fail
        have hb0 := Below.alloc (Below.refl w.heap.size w) (Nat.le_refl _) (.cells #[.bool false, .slice none 0 0, .slice none 0 0] 32)
        have ho := Obj3.new w (.bool false) (.slice none 0 0) (.slice none 0 0) 32
        have hlt := Row_lt_alloc w (.cells #[.bool false, .slice none 0 0, .slice none 0 0] 32)
        generalize w.alloc (.cells #[.bool false, .slice none 0 0, .slice none 0 0] 32) = w0 at *
        refine (gcd_num _ _ _ n d (h1.below hb0) (h2.below hb0) HJ.out.1 HJ.out.2 hj1).mono ?_
        rintro e w1 ⟨vg, rfl, hvg, hb1⟩
        rw [← HG.out] at hvg
        have ho1 := ho.below hb1 hlt
        have hlt1 := Nat.lt_of_lt_of_le hlt hb1.size
        have hb01 := hb0.trans (hb1.mono hb0.size)
        have h11 := h1.below hb01
        have h21 := h2.below hb01
        go_wp2_with fail
        refine (isOne_no w1 vg g hvg HG1.out).mono ?_
        rintro e w' ⟨rfl, rfl⟩
        go_wp2_with fail
        refine (divide_num w1 _ _ n g h11 hvg hg0 HJ.out.1 hj1).mono ?_
        rintro e w2 ⟨vn, vr, rfl, hvn, _, hb2⟩
        have hb02 := hb01.trans (hb2.mono hb01.size)
        have h22 := h2.below hb02
        have hvg2 := hvg.below hb2
        have ho2 := ho1.below hb2 hlt1
        have hlt2 := Nat.lt_of_lt_of_le hlt1 hb2.size
        go_wp2_with fail
        refine (divide_num w2 _ _ d g h22 hvg2 hg0 HJ.out.2 hj1).mono ?_
        rintro e w3 ⟨vd, vr', rfl, hvd, _, hb3⟩
        have HBF := hb02.trans (hb3.mono hb02.size)
        have HOF := ho2.below hb3 hlt2
        have hvn3 := hvn.below hb3
        go_wp2_with fail
        rw [HD1.out] at hvd
        refine (isOne_yes w3 vd hvd).mono ?_
        rintro e w' ⟨rfl, rfl⟩
        obtain ⟨A1, c1, rfl, _⟩ := id hvn3
        obtain ⟨wf, HW, f0, f1, f2, hfin⟩ := rat_end (q := q) (neg := neg) (Nat.le_refl _) HBF HOF (by simp) (by simp) (by simp) HQ.out.2.2 (by rw [HQ.out.1]; exact hvn3) (A2 := none) (l2 := 0) (c2 := 0) (by rw [HQ.out.2.1, HD1.out, denOf_one]; exact Num.zero _ _ _)
        have HW1 := bx HW
        have HF := bx (And.intro f0 (And.intro f1 f2))
        clear HW f0 f1 f2
        have k0 := HOF.c0
        have k1 := HOF.c1
        have k2 := HOF.c2
        have k3 := HOF.fz 0
        have k4 := HOF.fz 1
        have k5 := HOF.fz 2
        go_wp2
        rw [HW1.out]
        obtain ⟨f0, f1, f2⟩ := HF.out
        (try simp only [Exit.inBlock, Exit.then])
        refine bodyPost_ret (by simp [results, Try.results38, go_sem, f0, f1, f2]; try rfl) rfl ?_
        exact hfin
      · have HG1 := bx h1g
        have HD1 := bx hd1
        clear h1g hd1
        go_enter Try.func38, Try.ntmps38
        go_wp2_with fail
        have hb0 := Below.alloc (Below.refl w.heap.size w) (Nat.le_refl _) (.cells #[.bool false, .slice none 0 0, .slice none 0 0] 32)
        have ho := Obj3.new w (.bool false) (.slice none 0 0) (.slice none 0 0) 32
        have hlt := Row_lt_alloc w (.cells #[.bool false, .slice none 0 0, .slice none 0 0] 32)
        generalize w.alloc (.cells #[.bool false, .slice none 0 0, .slice none 0 0] 32) = w0 at *
        refine (gcd_num _ _ _ n d (h1.below hb0) (h2.below hb0) HJ.out.1 HJ.out.2 hj1).mono ?_
        rintro e w1 ⟨vg, rfl, hvg, hb1⟩
        rw [← HG.out] at hvg
        have ho1 := ho.below hb1 hlt
        have hlt1 := Nat.lt_of_lt_of_le hlt hb1.size
        have hb01 := hb0.trans (hb1.mono hb0.size)
        have h11 := h1.below hb01
        have h21 := h2.below hb01
        go_wp2_with fail
        refine (isOne_no w1 vg g hvg HG1.out).mono ?_
        rintro e w' ⟨rfl, rfl⟩
        go_wp2_with fail
        refine (divide_num w1 _ _ n g h11 hvg hg0 HJ.out.1 hj1).mono ?_
        rintro e w2 ⟨vn, vr, rfl, hvn, _, hb2⟩
        have hb02 := hb01.trans (hb2.mono hb01.size)
        have h22 := h2.below hb02
        have hvg2 := hvg.below hb2
        have ho2 := ho1.below hb2 hlt1
        have hlt2 := Nat.lt_of_lt_of_le hlt1 hb2.size
        go_wp2_with fail
        refine (divide_num w2 _ _ d g h22 hvg2 hg0 HJ.out.2 hj1).mono ?_
        rintro e w3 ⟨vd, vr', rfl, hvd, _, hb3⟩
        have HBF := hb02.trans (hb3.mono hb02.size)
        have HOF := ho2.below hb3 hlt2
        have hvn3 := hvn.below hb3
        go_wp2_with fail
        refine (isOne_no w3 vd _ hvd HD1.out).mono ?_
        rintro e w' ⟨rfl, rfl⟩
        obtain ⟨A1, c1, rfl, _⟩ := id hvn3
        obtain ⟨A2, c2, rfl, _⟩ := id hvd
        obtain ⟨wf, HW, f0, f1, f2, hfin⟩ := rat_end (q := q) (neg := neg) (Nat.le_refl _) HBF HOF (by simp) (by simp) (by simp) HQ.out.2.2 (by rw [HQ.out.1]; exact hvn3) (by rw [HQ.out.2.1, denOf_ne HD1.out]; exact hvd)
        have HW1 := bx HW
        have HF := bx (And.intro f0 (And.intro f1 f2))
        clear HW f0 f1 f2
        have k0 := HOF.c0
        have k1 := HOF.c1
        have k2 := HOF.c2
        have k3 := HOF.fz 0
        have k4 := HOF.fz 1
        have k5 := HOF.fz 2
        go_wp2
        rw [HW1.out]
        obtain ⟨f0, f1, f2⟩ := HF.out
        (try simp only [Exit.inBlock, Exit.then])
        refine bodyPost_ret (by simp [results, Try.results38, go_sem, f0, f1, f2]; try rfl) rfl ?_
        exact hfin
end Wx
