import Derived.Test.YtocboimkilkklaaGreatJRF10
import Derived.Deep.RegionHeld3
namespace Wx
set_option maxHeartbeats 1000000
open Go Go.RowKit Go.Proofs
def zC (w:World) (g:Nat):Prop:=∀i k z,w.cell? ⟨g,i,none⟩≠some (.int k z)
def dG (w:World) (g:Nat) (x y z:Value) (e:TypeId):Prop:=w.heap[g]?=some (.cells #[x,y,z] e (0,0))
variable {w:World} {g:Nat} {x y z:Value} {e:TypeId}
theorem dG.c0 (h:dG w g x y z e):w.cell? ⟨g,0,none⟩=some x:=by unfold dG at h; simp[World.cell?,h]
theorem dG.c1 (h:dG w g x y z e):w.cell? ⟨g,1,none⟩=some y:=by unfold dG at h; simp[World.cell?,h]
theorem dG.c2 (h:dG w g x y z e):w.cell? ⟨g,2,none⟩=some z:=by unfold dG at h; simp[World.cell?,h]
theorem dG.fz (h:dG w g x y z e) (i:Nat):w.frozen? ⟨g,i,none⟩=false:=by unfold dG at h; simp[World.frozen?,h]
variable {w':World}
theorem dG.below {B:Nat} (h:dG w g x y z e) (hb:Below B w w') (hg:g<B):dG w' g x y z e:=(hb.block g hg).trans h
theorem dG.new (w:World) (x y z:Value) (e:TypeId):dG (w.alloc (.cells #[x,y,z] e)) w.heap.size x y z e:=by unfold dG; exact heap_alloc_new _ _
theorem iU (w:World) (o:Obj):w.heap.size<(w.alloc o).heap.size:=by simp
theorem dG.jw (h:dG w g x y z e) (hx:∀k n,x≠.int k n) (hy:∀k n,y≠.int k n) (hz:∀k n,z≠.int k n):zC w g:=by
 intro i k n hc
 unfold dG at h
 simp only[World.cell?,h]at hc
 match i,hc with
 |0,hc=>exact hx k n (by simpa using hc)
 |1,hc=>exact hy k n (by simpa using hc)
 |2,hc=>exact hz k n (by simpa using hc)
 |n+3,hc=>simp at hc
theorem dG.Mf (h:dG w g x y z e) (u:Value):dG (w.setCell ⟨g,0,none⟩ u) g u y z e:=by
 unfold dG at *; simp[World.setCell,Array.getElem?_modify,h]
theorem dG.Mg (h:dG w g x y z e) (u:Value):dG (w.setCell ⟨g,1,none⟩ u) g x u z e:=by
 unfold dG at *; simp[World.setCell,Array.getElem?_modify,h]
theorem dG.Mh (h:dG w g x y z e) (u:Value):dG (w.setCell ⟨g,2,none⟩ u) g x y u e:=by
 unfold dG at *; simp[World.setCell,Array.getElem?_modify,h]
variable {k:IntKind}
theorem Rd.jw {A:Option Addr} {c:Nat} {l:List Nat} (h:Rd w k A c l) {g:Nat} (hg:zC w g) (i:Nat) (u:Value):Rd (w.setCell ⟨g,i,none⟩ u) k A c l:=by
 obtain⟨h1,h2,h3⟩:=h
 refine⟨h1,h2,λhne=>?_⟩
 obtain⟨b,o,e,hc⟩:=h3 hne
 refine⟨b,o,e,λi' hi=>?_⟩
 have Lp:b≠g:=by rintro rfl; exact hg _ _ _ (hc i' hi)
 rw[World.cell?_of_block (Below.heap_setCell w ⟨g,i,none⟩ u b Lp)]
 exact hc i' hi
variable {v:Value} {n:Nat}
theorem bq.jw (h:bq k b64 w v n) {g:Nat} (hg:zC w g) (i:Nat) (u:Value):bq k b64 (w.setCell ⟨g,i,none⟩ u) v n:=by
 obtain⟨A,c,rfl,hr⟩:=h
 exact⟨A,c,rfl,hr.jw hg i u⟩
def ah (d:Nat):Nat:=if d=1 then 0 else d
def cq (w:World) (v:Value) (q:Rat):Prop:=∃vn vd,v=.agg #[.bool (decide (q.num<0)),vn,vd]/\bq .u64 b64 w vn q.num.natAbs/\bq .u64 b64 w vd (ah q.den)
def fD (w:World) (q:Rat) (e:Ending) (w':World):Prop:=∃v,e=.returned v/\cq w' v q/\Below w.heap.size w w'
variable {q:Rat}
theorem cq.below (h:cq w v q) (hb:Below w.heap.size w w'):cq w' v q:=by
 obtain⟨vn,vd,rfl,h1,h2⟩:=h
 exact⟨vn,vd,rfl,h1.below hb,h2.below hb⟩
def bg (j:Nat) (q:Rat):Prop:=Bd j q.num.natAbs/\Bd j q.den
variable {j:Nat}
theorem bg.mono {k:Nat} (h:bg j q) (hk:j<=k):bg k q:=⟨h.1.mono hk,h.2.mono hk⟩
def sg (neg:Bool) (n:Nat):Int:=if neg then -(n:Int)else n
theorem rH (neg:Bool) (n:Nat):(sg neg n).natAbs=n:=by cases neg<;>simp[sg]
theorem Bz (z:Int):sg (decide (z<0)) z.natAbs=z:=by
 unfold sg
 by_cases h:z<0
 ·rw[decide_eq_true h]; simp; omega
 ·rw[decide_eq_false h]; simp; omega
def cL (neg:Bool) (n d:Nat):Rat:=mkRat (sg neg n) d
variable {neg:Bool} {d:Nat}
theorem Bp (hd:0<d):(cL neg n d).num=sg neg (n/n.gcd d):=by
 unfold cL
 rw[Rat.num_mkRat,if_neg (by omega),rH,Nat.gcd_comm]
 cases neg
 ·simp[sg]
 ·show -(n:Int)/((n.gcd d:Nat):Int) = -((n/n.gcd d:Nat):Int)
  rw[Int.neg_ediv_of_dvd (Int.natCast_dvd_natCast.2 (Nat.gcd_dvd_left n d)),Int.natCast_ediv]
theorem qA (hd:0<d):(cL neg n d).den=d/n.gcd d:=by
 unfold cL
 rw[Rat.den_mkRat,if_neg (by omega),rH,Nat.gcd_comm]
theorem jZ (hd:0<d):(cL neg n d).num.natAbs=n/n.gcd d:=by rw[Bp hd,rH]
theorem jY (hd:0<d) (h1:Bd j n) (h2:Bd j d):bg j (cL neg n d):=
 ⟨by rw[jZ hd]; exact h1.le (Nat.div_le_self _ _),by rw[qA hd]; exact h2.le (Nat.div_le_self _ _)⟩
theorem uY (hd:0<d) (hn:0<n):decide ((cL neg n d).num<0)=neg:=by
 rw[Bp hd]
 have:0<n/n.gcd d:=Nat.div_pos (Nat.le_of_dvd hn (Nat.gcd_dvd_left n d)) (Nat.gcd_pos_of_pos_left _ hn)
 cases neg<;>simp[sg]<;>omega
theorem xO:cL neg 0 d=0:=by
 unfold cL sg
 cases neg<;>simp
theorem qz {w3:World} {A1 A2:Option Addr} {l1 l2 c1 c2:Nat} (hg:w.heap.size<=g) (hb:Below w.heap.size w w3) (ho:dG w3 g x y z e)
  (hx:∀k n,x≠.int k n) (hy:∀k n,y≠.int k n) (hz:∀k n,z≠.int k n) (hn:decide (q.num<0)=neg) (h1:bq .u64 b64 w3 (.slice A1 l1 c1) q.num.natAbs) (h2:bq .u64 b64 w3 (.slice A2 l2 c2) (ah q.den)):
  ∃wf,((w3.setCell ⟨g,0,none⟩ (.bool neg)).setCell ⟨g,1,none⟩ (.slice A1 l1 c1)).setCell ⟨g,2,none⟩ (.slice A2 l2 c2)=wf/\wf.cell? ⟨g,0,none⟩=some (.bool neg)/\wf.cell? ⟨g,1,none⟩=some (.slice A1 l1 c1)/\wf.cell? ⟨g,2,none⟩=some (.slice A2 l2 c2) /\
   fD w q (.returned (.agg #[.bool neg,.slice A1 l1 c1,.slice A2 l2 c2])) wf:=by
 have n0:=ho.jw hx hy hz
 have o1:=ho.Mf (.bool neg)
 have n1:=o1.jw (by simp) hy hz
 have o2:=o1.Mg (.slice A1 l1 c1)
 have n2:=o2.jw (by simp) (by simp) hz
 have o3:=o2.Mh (.slice A2 l2 c2)
 refine⟨_,rfl,o3.c0,o3.c1,o3.c2,_,rfl,⟨_,_,by rw[hn],((h1.jw n0 _ _).jw n1 _ _).jw n2 _ _,((h2.jw n0 _ _).jw n1 _ _).jw n2 _ _⟩,((hb.setCell hg _).setCell hg _).setCell hg _⟩
theorem cF (w:World):cq w (.agg #[.bool false,.slice none 0 0,.slice none 0 0]) 0:=⟨_,_,rfl,bq.zero _ _ _,bq.zero _ _ _⟩
theorem kL:ah 1=0:=rfl
theorem mI (h:d≠1):ah d=d:=if_neg h
theorem fC (w:World) (v:Value) (d:Nat) (h:bq .u64 b64 w v (ah d)) (hd:0<d):Calls Tryz.prog 70 #[v] w (eW .u64 b64 w d):=by
 by_cases h1:d=1
 ·subst h1
  obtain⟨A,c,rfl,hr⟩:=id h
  rw[kL,bE]
  go_enter Tryz.func70,Tryz.ntmps70
  go_wp2_with fail
  refine(gR w 1 (by unfold b64; omega)).mono ?_
  rintro e w3 ⟨vr,rfl,hr3,hb3⟩
  go_wp2
  go_ret
  exact⟨_,rfl,hr3,hb3⟩
 ·rw[mI h1]at h
  obtain⟨A,c,rfl,hr⟩:=id h
  have hl:(((ae b64 d).length:Int)==0)=false:=beq_eq_false_iff_ne.2 (by have:=(az (n:=d) ai).2 hd; omega)
  go_enter Tryz.func70,Tryz.ntmps70
  go_wp2
  go_ret
  exact⟨_,rfl,h,Below.refl _ _⟩
theorem fO (w:World) (neg:Bool) (v1 v2:Value) (n d:Nat) (h1:bq .u64 b64 w v1 n) (h2:bq .u64 b64 w v2 d) (hd:0<d) {j:Nat} (hj:Bd j n) (hk:Bd j d) (de:j<=100000000):
  Calls Tryz.prog 67 #[.bool neg,v1,v2] w (fD w (cL neg n d)):=by
 rcases Nat.eq_zero_or_pos n with rfl|hn
 ·obtain⟨A,c,rfl,hr⟩:=id h1
  rw[bE,xO]
  go_enter Tryz.func67,Tryz.ntmps67
  go_wp2
  go_returns
  exact⟨_,rfl,cF _,Below.alloc (Below.refl _ _) (Nat.le_refl _) _⟩
 ·obtain⟨B,c,rfl,hr⟩:=id h1
  have hl:(((ae b64 n).length:Int)==0)=false:=beq_eq_false_iff_ne.2 (by have:=(az (n:=n) ai).2 hn; omega)
  obtain⟨g,hg⟩:∃g,g=n.gcd d:=⟨_,rfl⟩
  obtain⟨q,hq⟩:∃q,q=cL neg n d:=⟨_,rfl⟩
  have hg0:0<g:=by rw[hg]; exact Nat.gcd_pos_of_pos_left _ hn
  have q1:=jZ (neg:=neg) (n:=n) hd
  have q2:=qA (neg:=neg) (n:=n) hd
  have q3:=uY (neg:=neg) hd hn
  rw[<-hq,<-hg]at q1 q2
  rw[<-hq]at q3
  rw[<-hq]
  have HQ:=bx (And.intro q1 (And.intro q2 q3))
  have HJ:=bx (And.intro hj hk)
  have HG:=bx hg
  clear q1 q2 q3 hq hj hk hg hn
  by_cases GL:g=1
  ·subst GL
   rw[Nat.div_one,Nat.div_one]at HQ
   by_cases vV:d=1
   ·have wH:=bx vV
    clear vV
    go_enter Tryz.func67,Tryz.ntmps67
    go_wp2_with fail
    have hb0:=Below.alloc (Below.refl w.heap.size w) (Nat.le_refl _) (.cells #[.bool false,.slice none 0 0,.slice none 0 0] 32)
    have ho:=dG.new w (.bool false) (.slice none 0 0) (.slice none 0 0) 32
    have hlt:=iU w (.cells #[.bool false,.slice none 0 0,.slice none 0 0] 32)
    generalize w.alloc (.cells #[.bool false,.slice none 0 0,.slice none 0 0] 32)=w0 at *
    refine(sR _ _ _ n d (h1.below hb0) (h2.below hb0) HJ.out.1 HJ.out.2 de).mono ?_
    rintro e w1 ⟨vg,rfl,Cy,hb1⟩
    rw[<-HG.out]at Cy
    have OW:=ho.below hb1 hlt
    have uf:=Nat.lt_of_lt_of_le hlt hb1.size
    have mR:=hb0.trans (hb1.mono hb0.size)
    have h11:=h1.below mR
    have Ir:=h2.below mR
    go_wp2_with fail
    refine(jg w1 vg Cy).mono ?_
    rintro e w' ⟨rfl,rfl⟩
    go_wp2_with fail
    rw[wH.out]at Ir
    refine(jg w1 _ Ir).mono ?_
    rintro e w' ⟨rfl,rfl⟩
    have oL:=OW
    have NK:=mR
    obtain⟨wf,HW,f0,f1,f2,cW⟩:=qz (q:=q) (neg:=neg) (Nat.le_refl _) NK oL (by simp) (by simp) (by simp) HQ.out.2.2 (by rw[HQ.out.1]; exact h11) (A2:=none) (l2:=0) (c2:=0) (by rw[HQ.out.2.1,wH.out,kL]; exact bq.zero _ _ _)
    have NQ:=bx HW
    have HF:=bx (And.intro f0 (And.intro f1 f2))
    clear HW f0 f1 f2
    have k0:=oL.c0
    have k1:=oL.c1
    have k2:=oL.c2
    have k3:=oL.fz 0
    have k4:=oL.fz 1
    have k5:=oL.fz 2
    go_wp2
    rw[NQ.out]
    obtain⟨f0,f1,f2⟩:=HF.out
    (try simp only[Exit.inBlock,Exit.then])
    refine bodyPost_ret (by simp[results,Tryz.results67,go_sem,f0,f1,f2]; try rfl) rfl ?_
    exact cW
   ·have wH:=bx vV
    clear vV
    go_enter Tryz.func67,Tryz.ntmps67
    go_wp2_with fail
    have hb0:=Below.alloc (Below.refl w.heap.size w) (Nat.le_refl _) (.cells #[.bool false,.slice none 0 0,.slice none 0 0] 32)
    have ho:=dG.new w (.bool false) (.slice none 0 0) (.slice none 0 0) 32
    have hlt:=iU w (.cells #[.bool false,.slice none 0 0,.slice none 0 0] 32)
    generalize w.alloc (.cells #[.bool false,.slice none 0 0,.slice none 0 0] 32)=w0 at *
    refine(sR _ _ _ n d (h1.below hb0) (h2.below hb0) HJ.out.1 HJ.out.2 de).mono ?_
    rintro e w1 ⟨vg,rfl,Cy,hb1⟩
    rw[<-HG.out]at Cy
    have OW:=ho.below hb1 hlt
    have uf:=Nat.lt_of_lt_of_le hlt hb1.size
    have mR:=hb0.trans (hb1.mono hb0.size)
    have h11:=h1.below mR
    have Ir:=h2.below mR
    go_wp2_with fail
    refine(jg w1 vg Cy).mono ?_
    rintro e w' ⟨rfl,rfl⟩
    go_wp2_with fail
    refine(jr w1 _ _ Ir wH.out).mono ?_
    rintro e w' ⟨rfl,rfl⟩
    have oL:=OW
    have NK:=mR
    obtain⟨A2,c2,rfl,_⟩:=id Ir
    obtain⟨wf,HW,f0,f1,f2,cW⟩:=qz (q:=q) (neg:=neg) (Nat.le_refl _) NK oL (by simp) (by simp) (by simp) HQ.out.2.2 (by rw[HQ.out.1]; exact h11) (by rw[HQ.out.2.1,mI wH.out]; exact Ir)
    have NQ:=bx HW
    have HF:=bx (And.intro f0 (And.intro f1 f2))
    clear HW f0 f1 f2
    have k0:=oL.c0
    have k1:=oL.c1
    have k2:=oL.c2
    have k3:=oL.fz 0
    have k4:=oL.fz 1
    have k5:=oL.fz 2
    go_wp2
    rw[NQ.out]
    obtain⟨f0,f1,f2⟩:=HF.out
    (try simp only[Exit.inBlock,Exit.then])
    refine bodyPost_ret (by simp[results,Tryz.results67,go_sem,f0,f1,f2]; try rfl) rfl ?_
    exact cW
  ·by_cases vV:d/g=1
   ·have Tl:=bx GL
    have wH:=bx vV
    clear GL vV
    go_enter Tryz.func67,Tryz.ntmps67
    go_wp2_with fail
    have hb0:=Below.alloc (Below.refl w.heap.size w) (Nat.le_refl _) (.cells #[.bool false,.slice none 0 0,.slice none 0 0] 32)
    have ho:=dG.new w (.bool false) (.slice none 0 0) (.slice none 0 0) 32
    have hlt:=iU w (.cells #[.bool false,.slice none 0 0,.slice none 0 0] 32)
    generalize w.alloc (.cells #[.bool false,.slice none 0 0,.slice none 0 0] 32)=w0 at *
    refine(sR _ _ _ n d (h1.below hb0) (h2.below hb0) HJ.out.1 HJ.out.2 de).mono ?_
    rintro e w1 ⟨vg,rfl,Cy,hb1⟩
    rw[<-HG.out]at Cy
    have OW:=ho.below hb1 hlt
    have uf:=Nat.lt_of_lt_of_le hlt hb1.size
    have mR:=hb0.trans (hb1.mono hb0.size)
    have h11:=h1.below mR
    have Ir:=h2.below mR
    go_wp2_with fail
    refine(jr w1 vg g Cy Tl.out).mono ?_
    rintro e w' ⟨rfl,rfl⟩
    go_wp2_with fail
    refine(eX w1 _ _ n g h11 Cy hg0 HJ.out.1 de).mono ?_
    rintro e w2 ⟨vn,vr,rfl,Vt,_,hb2⟩
    have Cs:=mR.trans (hb2.mono mR.size)
    have T6:=h2.below Cs
    have O4:=Cy.below hb2
    have Vb:=OW.below hb2 uf
    have rj:=Nat.lt_of_lt_of_le uf hb2.size
    go_wp2_with fail
    refine(eX w2 _ _ d g T6 O4 hg0 HJ.out.2 de).mono ?_
    rintro e w3 ⟨vd,ZT,rfl,Qa,_,hb3⟩
    have NK:=Cs.trans (hb3.mono Cs.size)
    have oL:=Vb.below hb3 rj
    have IK:=Vt.below hb3
    go_wp2_with fail
    rw[wH.out]at Qa
    refine(jg w3 vd Qa).mono ?_
    rintro e w' ⟨rfl,rfl⟩
    obtain⟨A1,c1,rfl,_⟩:=id IK
    obtain⟨wf,HW,f0,f1,f2,cW⟩:=qz (q:=q) (neg:=neg) (Nat.le_refl _) NK oL (by simp) (by simp) (by simp) HQ.out.2.2 (by rw[HQ.out.1]; exact IK) (A2:=none) (l2:=0) (c2:=0) (by rw[HQ.out.2.1,wH.out,kL]; exact bq.zero _ _ _)
    have NQ:=bx HW
    have HF:=bx (And.intro f0 (And.intro f1 f2))
    clear HW f0 f1 f2
    have k0:=oL.c0
    have k1:=oL.c1
    have k2:=oL.c2
    have k3:=oL.fz 0
    have k4:=oL.fz 1
    have k5:=oL.fz 2
    go_wp2
    rw[NQ.out]
    obtain⟨f0,f1,f2⟩:=HF.out
    (try simp only[Exit.inBlock,Exit.then])
    refine bodyPost_ret (by simp[results,Tryz.results67,go_sem,f0,f1,f2]; try rfl) rfl ?_
    exact cW
   ·have Tl:=bx GL
    have wH:=bx vV
    clear GL vV
    go_enter Tryz.func67,Tryz.ntmps67
    go_wp2_with fail
    have hb0:=Below.alloc (Below.refl w.heap.size w) (Nat.le_refl _) (.cells #[.bool false,.slice none 0 0,.slice none 0 0] 32)
    have ho:=dG.new w (.bool false) (.slice none 0 0) (.slice none 0 0) 32
    have hlt:=iU w (.cells #[.bool false,.slice none 0 0,.slice none 0 0] 32)
    generalize w.alloc (.cells #[.bool false,.slice none 0 0,.slice none 0 0] 32)=w0 at *
    refine(sR _ _ _ n d (h1.below hb0) (h2.below hb0) HJ.out.1 HJ.out.2 de).mono ?_
    rintro e w1 ⟨vg,rfl,Cy,hb1⟩
    rw[<-HG.out]at Cy
    have OW:=ho.below hb1 hlt
    have uf:=Nat.lt_of_lt_of_le hlt hb1.size
    have mR:=hb0.trans (hb1.mono hb0.size)
    have h11:=h1.below mR
    have Ir:=h2.below mR
    go_wp2_with fail
    refine(jr w1 vg g Cy Tl.out).mono ?_
    rintro e w' ⟨rfl,rfl⟩
    go_wp2_with fail
    refine(eX w1 _ _ n g h11 Cy hg0 HJ.out.1 de).mono ?_
    rintro e w2 ⟨vn,vr,rfl,Vt,_,hb2⟩
    have Cs:=mR.trans (hb2.mono mR.size)
    have T6:=h2.below Cs
    have O4:=Cy.below hb2
    have Vb:=OW.below hb2 uf
    have rj:=Nat.lt_of_lt_of_le uf hb2.size
    go_wp2_with fail
    refine(eX w2 _ _ d g T6 O4 hg0 HJ.out.2 de).mono ?_
    rintro e w3 ⟨vd,ZT,rfl,Qa,_,hb3⟩
    have NK:=Cs.trans (hb3.mono Cs.size)
    have oL:=Vb.below hb3 rj
    have IK:=Vt.below hb3
    go_wp2_with fail
    refine(jr w3 vd _ Qa wH.out).mono ?_
    rintro e w' ⟨rfl,rfl⟩
    obtain⟨A1,c1,rfl,_⟩:=id IK
    obtain⟨A2,c2,rfl,_⟩:=id Qa
    obtain⟨wf,HW,f0,f1,f2,cW⟩:=qz (q:=q) (neg:=neg) (Nat.le_refl _) NK oL (by simp) (by simp) (by simp) HQ.out.2.2 (by rw[HQ.out.1]; exact IK) (by rw[HQ.out.2.1,mI wH.out]; exact Qa)
    have NQ:=bx HW
    have HF:=bx (And.intro f0 (And.intro f1 f2))
    clear HW f0 f1 f2
    have k0:=oL.c0
    have k1:=oL.c1
    have k2:=oL.c2
    have k3:=oL.fz 0
    have k4:=oL.fz 1
    have k5:=oL.fz 2
    go_wp2
    rw[NQ.out]
    obtain⟨f0,f1,f2⟩:=HF.out
    (try simp only[Exit.inBlock,Exit.then])
    refine bodyPost_ret (by simp[results,Tryz.results67,go_sem,f0,f1,f2]; try rfl) rfl ?_
    exact cW
end Wx

namespace Wx
set_option maxHeartbeats 1000000
open Go Go.RowKit Go.Proofs
variable {w w':World} {g:Nat} {x y z:Value} {e:TypeId}
theorem dG.gone (h:dG w g x y z e) (hb:Below w.heap.size w w'):dG w' g x y z e:=by
 refine h.below hb ?_
 unfold dG at h
 rcases Nat.lt_or_ge g w.heap.size with h1|h1
 ·exact h1
 ·rw[Array.getElem?_eq_none h1]at h; cases h
theorem fh (w:World) (x y z:Value) (e:TypeId):∃w',w.alloc (.cells #[x,y,z] e)=w'/\dG w' w.heap.size x y z e/\Below w.heap.size w w'/\w'.heap.size=w.heap.size+1:=
 ⟨_,rfl,dG.new _ _ _ _ _,Below.alloc (Below.refl _ _) (Nat.le_refl _) _,by simp⟩
theorem gP (q:Rat):q.num.natAbs=0↔q=0:=by
 rw[Int.natAbs_eq_zero]
 exact Rat.num_eq_zero
theorem zero_num (w:World) (v:Value) (q:Rat) (h:cq w v q):Calls Tryz.prog 15 #[v] w (dY w (.bool (decide (q=0)))):=by
 obtain⟨vn,vd,rfl,h1,h2⟩:=h
 obtain⟨A1,c1,rfl,_⟩:=id h1
 obtain⟨A2,c2,rfl,_⟩:=id h2
 have hz:(((ae b64 q.num.natAbs).length:Int)==0)=decide (q=0):=by
  by_cases hq:q=0
  ·rw[hq,decide_eq_true rfl]; rfl
  ·rw[decide_eq_false hq,beq_eq_false_iff_ne]
   have:=(az (n:=q.num.natAbs) ai).2 (by have:=mt (gP q).1 hq; omega)
   omega
 generalize (ae b64 q.num.natAbs).length=L1 at *
 go_enter Tryz.func15,Tryz.ntmps15
 go_wp2
 go_ret
 exact⟨rfl,Below.alloc (Below.refl _ _) (Nat.le_refl _) _⟩
theorem A7 (q:Rat):decide ((-q).num<0)=(!decide (q.num<0)&&!decide (q=0)):=by
 rw[Rat.neg_num]
 have:=Rat.num_eq_zero (q:=q)
 by_cases h:q=0
 ·simp[h]
 ·have h1:=mt this.1 h
  rw[decide_eq_false h]
  by_cases h2:q.num<0
  ·simp[h2]; omega
  ·simp[h2]; omega
variable {q:Rat}
theorem fD.drew {e:Ending} (h:fD w q e w'):fD w q e w'.drew:=by
 obtain⟨v,h1,⟨vn,vd,h2,h3,h4⟩,h5⟩:=h
 exact⟨v,h1,⟨vn,vd,h2,h3,h4⟩,h5.drew⟩
@[irreducible] def cv (w : World) (a : Addr) : Value := (w.cell? a).getD (.bool false)
theorem DL {a:Addr} {v:Value} (h:w.cell? a=some v):w.cell? a=some (cv w a):=by unfold cv; rw[h]; rfl
def eT (v:Value):Prop:=∀k n,v≠.int k n
theorem cj (b:Bool):eT (.bool b):=by intro k n h; cases h
theorem aG (A:Option Addr) (l c:Nat):eT (.slice A l c):=by intro k n h; cases h
def aD (w:World) (r:Nat) (e:TypeId) (ps:List (Nat×Value×Value×Value)) (w':World):Prop:=
 Below w.heap.size w w'/\w.heap.size<=r/\(∀p∈ps,p.1≠r/\dG w' p.1 p.2.1 p.2.2.1 p.2.2.2 e)/\∃a b c,dG w' r a b c e/\eT a/\eT b/\eT c
variable {r:Nat} {ps:List (Nat×Value×Value×Value)} {p:Prop}
theorem aD.call {w'':World} (h:aD w r e ps w'/\p) (hb:Below w'.heap.size w' w''):aD w r e ps w'':=by
 obtain⟨⟨h1,h2,h3,a,b,c,h4,h5⟩,_⟩:=h
 exact⟨h1.trans (hb.mono h1.size),h2,λp hp=>⟨(h3 p hp).1,(h3 p hp).2.gone hb⟩,a,b,c,h4.gone hb,h5⟩
theorem aD.drew (h:aD w r e ps w'):aD w r e ps w'.drew:=by
 obtain⟨h1,h2,h3,h4⟩:=h
 exact⟨h1.drew,h2,h3,h4⟩
theorem dG.K9 (h:dG w g x y z e) (hr:g≠r) (i:Nat) (u:Value):dG (w.setCell ⟨r,i,none⟩ u) g x y z e:=(Below.heap_setCell w ⟨r,i,none⟩ u g hr).trans h
theorem aD.Mf (h:aD w r e ps w') {u:Value} (hu:eT u):aD w r e ps (w'.setCell ⟨r,0,none⟩ u):=by
 obtain⟨h1,h2,h3,a,b,c,h4,h5,h6,h7⟩:=h
 exact⟨h1.setCell h2 _,h2,λp hp=>⟨(h3 p hp).1,(h3 p hp).2.K9 (h3 p hp).1 _ _⟩,u,b,c,h4.Mf u,hu,h6,h7⟩
theorem aD.Mg (h:aD w r e ps w') {u:Value} (hu:eT u):aD w r e ps (w'.setCell ⟨r,1,none⟩ u):=by
 obtain⟨h1,h2,h3,a,b,c,h4,h5,h6,h7⟩:=h
 exact⟨h1.setCell h2 _,h2,λp hp=>⟨(h3 p hp).1,(h3 p hp).2.K9 (h3 p hp).1 _ _⟩,a,u,c,h4.Mg u,h5,hu,h7⟩
theorem aD.Mh (h:aD w r e ps w') {u:Value} (hu:eT u):aD w r e ps (w'.setCell ⟨r,2,none⟩ u):=by
 obtain⟨h1,h2,h3,a,b,c,h4,h5,h6,h7⟩:=h
 exact⟨h1.setCell h2 _,h2,λp hp=>⟨(h3 p hp).1,(h3 p hp).2.K9 (h3 p hp).1 _ _⟩,a,b,u,h4.Mh u,h5,h6,hu⟩
theorem aD.sets (h:aD w r e ps w'/\p) (b:Bool) (A1 A2:Option Addr) (l1 l2 c1 c2:Nat):
  aD w r e ps (((w'.setCell ⟨r,0,none⟩ (.bool b)).setCell ⟨r,1,none⟩ (.slice A1 l1 c1)).setCell ⟨r,2,none⟩ (.slice A2 l2 c2)):=
 ((h.1.Mf (cj _)).Mg (aG _ _ _)).Mh (aG _ _ _)
theorem aD.cells (h:aD w r e ps w'):
  w'.cell? ⟨r,0,none⟩=some (cv w' ⟨r,0,none⟩)/\w'.cell? ⟨r,1,none⟩=some (cv w' ⟨r,1,none⟩)/\w'.cell? ⟨r,2,none⟩=some (cv w' ⟨r,2,none⟩)/\w'.frozen? ⟨r,0,none⟩=false/\w'.frozen? ⟨r,1,none⟩=false/\w'.frozen? ⟨r,2,none⟩=false:=by
 obtain⟨_,_,_,a,b,c,h4,_⟩:=h
 exact⟨DL h4.c0,DL h4.c1,DL h4.c2,h4.fz 0,h4.fz 1,h4.fz 2⟩
theorem aD.fin {neg:Bool} {A1 A2:Option Addr} {l1 l2 c1 c2:Nat} (h:aD w r e ps w') (hn:decide (q.num<0)=neg) (h1:bq .u64 b64 w' (.slice A1 l1 c1) q.num.natAbs) (h2:bq .u64 b64 w' (.slice A2 l2 c2) (ah q.den)):
  ∃wf,((w'.setCell ⟨r,0,none⟩ (.bool neg)).setCell ⟨r,1,none⟩ (.slice A1 l1 c1)).setCell ⟨r,2,none⟩ (.slice A2 l2 c2)=wf/\wf.cell? ⟨r,0,none⟩=some (.bool neg)/\wf.cell? ⟨r,1,none⟩=some (.slice A1 l1 c1)/\wf.cell? ⟨r,2,none⟩=some (.slice A2 l2 c2) /\
   fD w q (.returned (.agg #[.bool neg,.slice A1 l1 c1,.slice A2 l2 c2])) wf:=by
 obtain⟨g1,g2,_,a,b,c,h4,h5,h6,h7⟩:=h
 exact qz g2 g1 h4 h5 h6 h7 hn h1 h2
theorem neg_num (w:World) (v:Value) (q:Rat) (hx:cq w v q):Calls Tryz.prog 125 #[v] w (fD w (-q)):=by
 obtain⟨oz,oA,rfl,cw,cT⟩:=id hx
 obtain⟨aV,aX,rfl,_⟩:=id cw
 obtain⟨aW,aY,rfl,_⟩:=id cT
 have hf:=A7 q
 have hn:(-q).num.natAbs=q.num.natAbs:=by rw[Rat.neg_num,Int.natAbs_neg]
 have hd:(-q).den=q.den:=rfl
 generalize decide (q.num<0)=neg at *
 cases neg
 ·simp only[Bool.not_false,Bool.true_and]at hf
  go_enter Tryz.func125,Tryz.ntmps125
  go_wp2_with fail
  obtain⟨w1,e1,o1,b1,s1⟩:=fh w (.bool false) (.slice aV (ae b64 q.num.natAbs).length aX) (.slice aW (ae b64 (ah q.den)).length aY) 32
  obtain⟨w2,e2,o2,b2,s2⟩:=fh w1 (.bool false) (.slice none 0 0) (.slice none 0 0) 32
  rw[e1,e2]
  rw[s1]at o2
  have p1:=(o1.gone b2)
  have p2:=o2
  have B0:=(b1.trans (b2.mono b1.size))
  have hS:∀w',aD w (w.heap.size+1) 32 [(w.heap.size,.bool false,.slice aV (ae b64 q.num.natAbs).length aX,.slice aW (ae b64 (ah q.den)).length aY)] w'->aD w (w.heap.size+1) 32 [(w.heap.size,.bool false,.slice aV (ae b64 q.num.natAbs).length aX,.slice aW (ae b64 (ah q.den)).length aY)] w'/\w'.cell? ⟨w.heap.size,0,none⟩=some (.bool false)/\w'.cell? ⟨w.heap.size,1,none⟩=some (.slice aV (ae b64 q.num.natAbs).length aX)/\w'.cell? ⟨w.heap.size,2,none⟩=some (.slice aW (ae b64 (ah q.den)).length aY)/\w'.cell? ⟨w.heap.size+1,0,none⟩=some (cv w' ⟨w.heap.size+1,0,none⟩)/\w'.cell? ⟨w.heap.size+1,1,none⟩=some (cv w' ⟨w.heap.size+1,1,none⟩)/\w'.cell? ⟨w.heap.size+1,2,none⟩=some (cv w' ⟨w.heap.size+1,2,none⟩)/\w'.frozen? ⟨w.heap.size+1,0,none⟩=false/\w'.frozen? ⟨w.heap.size+1,1,none⟩=false/\w'.frozen? ⟨w.heap.size+1,2,none⟩=false:=λw' hh=>by
   obtain⟨f0,f1,f2,f3,f4,f5⟩:=hh.cells
   have q1:=(hh.2.2.1 (w.heap.size,.bool false,.slice aV (ae b64 q.num.natAbs).length aX,.slice aW (ae b64 (ah q.den)).length aY) (by simp)).2
   exact⟨hh,q1.c0,q1.c1,q1.c2,f0,f1,f2,f3,f4,f5⟩
  have H0:aD w (w.heap.size+1) 32 [(w.heap.size,.bool false,.slice aV (ae b64 q.num.natAbs).length aX,.slice aW (ae b64 (ah q.den)).length aY)] w2:=⟨B0,by omega,by intro p hp; simp at hp; subst hp; exact⟨by simp,p1⟩,_,_,_,p2,cj _,aG _ _ _,aG _ _ _⟩
  clear e1 e2
  have hz:=H0.drew
  go_region_held3 (λw'=>aD w (w.heap.size+1) 32 [(w.heap.size,.bool false,.slice aV (ae b64 q.num.natAbs).length aX,.slice aW (ae b64 (ah q.den)).length aY)] w'/\w'.cell? ⟨w.heap.size,0,none⟩=some (.bool false)/\w'.cell? ⟨w.heap.size,1,none⟩=some (.slice aV (ae b64 q.num.natAbs).length aX)/\w'.cell? ⟨w.heap.size,2,none⟩=some (.slice aW (ae b64 (ah q.den)).length aY)/\w'.cell? ⟨w.heap.size+1,0,none⟩=some (cv w' ⟨w.heap.size+1,0,none⟩)/\w'.cell? ⟨w.heap.size+1,1,none⟩=some (cv w' ⟨w.heap.size+1,1,none⟩)/\w'.cell? ⟨w.heap.size+1,2,none⟩=some (cv w' ⟨w.heap.size+1,2,none⟩)/\w'.frozen? ⟨w.heap.size+1,0,none⟩=false/\w'.frozen? ⟨w.heap.size+1,1,none⟩=false/\w'.frozen? ⟨w.heap.size+1,2,none⟩=false)
   (first|exact hS _ hz|exact hS _ (aD.sets (by assumption) _ _ _ _ _ _ _))
   (first
    |((go_at_call 15; refine(zero_num _ _ q (hx.below (And.left (And.left (by assumption))))).mono ?_; rintro e wz ⟨rfl,hb⟩); have hz:=aD.call (by assumption) hb))
  all_goals (
   go_wp2
   obtain⟨wf,HW,f0,f1,f2,cW⟩:=hz.fin (q :=-q) hf (by rw[hn]; exact cw.below hz.1) (by rw[hd]; exact cT.below hz.1)
   (try rw[HW])
   (try simp only[Exit.inBlock,Exit.then])
   refine bodyPost_ret (by simp[results,Tryz.results125,go_sem,f0,f1,f2]; try rfl) rfl ?_
   first|exact cW|exact cW.drew)
 ·simp only[Bool.not_true,Bool.false_and]at hf
  go_enter Tryz.func125,Tryz.ntmps125
  go_wp2_with fail
  obtain⟨w1,e1,o1,b1,s1⟩:=fh w (.bool true) (.slice aV (ae b64 q.num.natAbs).length aX) (.slice aW (ae b64 (ah q.den)).length aY) 32
  obtain⟨w2,e2,o2,b2,s2⟩:=fh w1 (.bool false) (.slice none 0 0) (.slice none 0 0) 32
  rw[e1,e2]
  rw[s1]at o2
  have p1:=(o1.gone b2)
  have p2:=o2
  have B0:=(b1.trans (b2.mono b1.size))
  have hS:∀w',aD w (w.heap.size+1) 32 [(w.heap.size,.bool true,.slice aV (ae b64 q.num.natAbs).length aX,.slice aW (ae b64 (ah q.den)).length aY)] w'->aD w (w.heap.size+1) 32 [(w.heap.size,.bool true,.slice aV (ae b64 q.num.natAbs).length aX,.slice aW (ae b64 (ah q.den)).length aY)] w'/\w'.cell? ⟨w.heap.size,0,none⟩=some (.bool true)/\w'.cell? ⟨w.heap.size,1,none⟩=some (.slice aV (ae b64 q.num.natAbs).length aX)/\w'.cell? ⟨w.heap.size,2,none⟩=some (.slice aW (ae b64 (ah q.den)).length aY)/\w'.cell? ⟨w.heap.size+1,0,none⟩=some (cv w' ⟨w.heap.size+1,0,none⟩)/\w'.cell? ⟨w.heap.size+1,1,none⟩=some (cv w' ⟨w.heap.size+1,1,none⟩)/\w'.cell? ⟨w.heap.size+1,2,none⟩=some (cv w' ⟨w.heap.size+1,2,none⟩)/\w'.frozen? ⟨w.heap.size+1,0,none⟩=false/\w'.frozen? ⟨w.heap.size+1,1,none⟩=false/\w'.frozen? ⟨w.heap.size+1,2,none⟩=false:=λw' hh=>by
   obtain⟨f0,f1,f2,f3,f4,f5⟩:=hh.cells
   have q1:=(hh.2.2.1 (w.heap.size,.bool true,.slice aV (ae b64 q.num.natAbs).length aX,.slice aW (ae b64 (ah q.den)).length aY) (by simp)).2
   exact⟨hh,q1.c0,q1.c1,q1.c2,f0,f1,f2,f3,f4,f5⟩
  have H0:aD w (w.heap.size+1) 32 [(w.heap.size,.bool true,.slice aV (ae b64 q.num.natAbs).length aX,.slice aW (ae b64 (ah q.den)).length aY)] w2:=⟨B0,by omega,by intro p hp; simp at hp; subst hp; exact⟨by simp,p1⟩,_,_,_,p2,cj _,aG _ _ _,aG _ _ _⟩
  clear e1 e2
  have hz:=H0
  obtain⟨_,k0,k1,k2,k3,k4,k5,k6,k7,k8⟩:=hS _ H0
  go_region
  all_goals (
   go_wp2
   obtain⟨wf,HW,f0,f1,f2,cW⟩:=hz.fin (q :=-q) hf (by rw[hn]; exact cw.below hz.1) (by rw[hd]; exact cT.below hz.1)
   (try rw[HW])
   (try simp only[Exit.inBlock,Exit.then])
   refine bodyPost_ret (by simp[results,Tryz.results125,go_sem,f0,f1,f2]; try rfl) rfl ?_
   first|exact cW|exact cW.drew)
end Wx
