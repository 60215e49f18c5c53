import Derived.Test.YtikkgpljpglnbaaGreatJRM11
namespace Wx
set_option maxHeartbeats 1000000
open Go Go.RowKit Go.Proofs
def Cy (w:World) (g:Nat):Prop:=∀i k z,w.cell? ⟨g,i,none⟩≠some (.int k z)
def bW (w:World) (g:Nat) (x y z:Value) (e:TypeId):Prop:=w.heap[g]?=some (.cells #[x,y,z] e (0,0))
variable {w:World} {g:Nat} {x y z:Value} {e:TypeId}
theorem bW.c0 (h:bW w g x y z e):w.cell? ⟨g,0,none⟩=some x:=by unfold bW at h; simp[World.cell?,h]
theorem bW.c1 (h:bW w g x y z e):w.cell? ⟨g,1,none⟩=some y:=by unfold bW at h; simp[World.cell?,h]
theorem bW.c2 (h:bW w g x y z e):w.cell? ⟨g,2,none⟩=some z:=by unfold bW at h; simp[World.cell?,h]
theorem bW.fz (h:bW w g x y z e) (i:Nat):w.frozen? ⟨g,i,none⟩=false:=by unfold bW at h; simp[World.frozen?,h]
variable {w':World}
theorem bW.below {B:Nat} (h:bW w g x y z e) (hb:Below B w w') (hg:g<B):bW w' g x y z e:=(hb.block g hg).trans h
theorem bW.new (w:World) (x y z:Value) (e:TypeId):bW (w.alloc (.cells #[x,y,z] e)) w.heap.size x y z e:=by unfold bW; exact heap_alloc_new _ _
theorem fK (w:World) (o:Obj):w.heap.size<(w.alloc o).heap.size:=by simp
theorem bW.jr (h:bW w g x y z e) (hx:∀k n,x≠.int k n) (hy:∀k n,y≠.int k n) (hz:∀k n,z≠.int k n):Cy w g:=by
 intro i k n hc
 unfold bW at h
 simp only[World.cell?,h]at hc
 match i,hc with
 |0,hc=>exact hx k n (by simpa using hc)
 |1,hc=>exact hy k n (by simpa using hc)
 |2,hc=>exact hz k n (by simpa using hc)
 |n+3,hc=>simp at hc
theorem bW.Gy (h:bW w g x y z e) (u:Value):bW (w.setCell ⟨g,0,none⟩ u) g u y z e:=by
 unfold bW at *; simp[World.setCell,Array.getElem?_modify,h]
theorem bW.Gz (h:bW w g x y z e) (u:Value):bW (w.setCell ⟨g,1,none⟩ u) g x u z e:=by
 unfold bW at *; simp[World.setCell,Array.getElem?_modify,h]
theorem bW.GA (h:bW w g x y z e) (u:Value):bW (w.setCell ⟨g,2,none⟩ u) g x y u e:=by
 unfold bW at *; simp[World.setCell,Array.getElem?_modify,h]
variable {k:IntKind}
theorem Rd.jr {A:Option Addr} {c:Nat} {l:List Nat} (h:Rd w k A c l) {g:Nat} (hg:Cy w g) (i:Nat) (u:Value):Rd (w.setCell ⟨g,i,none⟩ u) k A c l:=by
 obtain⟨h1,h2,h3⟩:=h
 refine⟨h1,h2,λhne=>?_⟩
 obtain⟨b,o,e,hc⟩:=h3 hne
 refine⟨b,o,e,λi' hi=>?_⟩
 have FN:b≠g:=by rintro rfl; exact hg _ _ _ (hc i' hi)
 rw[World.cell?_of_block (Below.heap_setCell w ⟨g,i,none⟩ u b FN)]
 exact hc i' hi
variable {v:Value} {n:Nat}
theorem cz.jr (h:cz k b64 w v n) {g:Nat} (hg:Cy w g) (i:Nat) (u:Value):cz k b64 (w.setCell ⟨g,i,none⟩ u) v n:=by
 obtain⟨A,c,rfl,hr⟩:=h
 exact⟨A,c,rfl,hr.jr hg i u⟩
def aK (d:Nat):Nat:=if d=1 then 0 else d
def cM (w:World) (v:Value) (q:Rat):Prop:=∃vn vd,v=.agg #[.bool (decide (q.num<0)),vn,vd]/\cz .u64 b64 w vn q.num.natAbs/\cz .u64 b64 w vd (aK q.den)
def jy (w:World) (q:Rat) (e:Ending) (w':World):Prop:=∃v,e=.returned v/\cM w' v q/\Below w.heap.size w w'
variable {q:Rat}
theorem cM.below (h:cM w v q) (hb:Below w.heap.size w w'):cM w' v q:=by
 obtain⟨vn,vd,rfl,h1,h2⟩:=h
 exact⟨vn,vd,rfl,h1.below hb,h2.below hb⟩
def fo (j:Nat) (q:Rat):Prop:=Bd j q.num.natAbs/\Bd j q.den
variable {j:Nat}
theorem fo.mono {k:Nat} (h:fo j q) (hk:j<=k):fo k q:=⟨h.1.mono hk,h.2.mono hk⟩
def sg (neg:Bool) (n:Nat):Int:=if neg then -(n:Int)else n
theorem nN (neg:Bool) (n:Nat):(sg neg n).natAbs=n:=by cases neg<;>simp[sg]
theorem AO (z:Int):sg (decide (z<0)) z.natAbs=z:=by
 unfold sg
 by_cases h:z<0
 ·rw[decide_eq_true h]; simp; omega
 ·rw[decide_eq_false h]; simp; omega
def dW (neg:Bool) (n d:Nat):Rat:=mkRat (sg neg n) d
variable {neg:Bool} {d:Nat}
theorem wW (hd:0<d):(dW neg n d).num=sg neg (n/n.gcd d):=by
 unfold dW
 rw[Rat.num_mkRat,if_neg (by omega),nN,Nat.gcd_comm]
 cases neg
 ·simp[sg]
 ·show -(n:Int)/((n.gcd d:Nat):Int) = -((n/n.gcd d:Nat):Int)
  rw[Int.neg_ediv_of_dvd (Int.natCast_dvd_natCast.2 (Nat.gcd_dvd_left n d)),Int.natCast_ediv]
theorem wV (hd:0<d):(dW neg n d).den=d/n.gcd d:=by
 unfold dW
 rw[Rat.den_mkRat,if_neg (by omega),nN,Nat.gcd_comm]
theorem oA (hd:0<d):(dW neg n d).num.natAbs=n/n.gcd d:=by rw[wW hd,nN]
theorem mN (hd:0<d) (h1:Bd j n) (h2:Bd j d):fo j (dW neg n d):=
 ⟨by rw[oA hd]; exact h1.le (Nat.div_le_self _ _),by rw[wV hd]; exact h2.le (Nat.div_le_self _ _)⟩
theorem Ed (hd:0<d) (hn:0<n):decide ((dW neg n d).num<0)=neg:=by
 rw[wW hd]
 have:0<n/n.gcd d:=Nat.div_pos (Nat.le_of_dvd hn (Nat.gcd_dvd_left n d)) (Nat.gcd_pos_of_pos_left _ hn)
 cases neg<;>simp[sg]<;>omega
theorem B4:dW neg 0 d=0:=by
 unfold dW sg
 cases neg<;>simp
theorem mM {w3:World} {A1 A2:Option Addr} {l1 l2 c1 c2:Nat} (hg:w.heap.size<=g) (hb:Below w.heap.size w w3) (ho:bW w3 g x y z e)
  (hx:∀k n,x≠.int k n) (hy:∀k n,y≠.int k n) (hz:∀k n,z≠.int k n) (hn:decide (q.num<0)=neg) (h1:cz .u64 b64 w3 (.slice A1 l1 c1) q.num.natAbs) (h2:cz .u64 b64 w3 (.slice A2 l2 c2) (aK q.den)):
  ∃wf,((w3.setCell ⟨g,0,none⟩ (.bool neg)).setCell ⟨g,1,none⟩ (.slice A1 l1 c1)).setCell ⟨g,2,none⟩ (.slice A2 l2 c2)=wf/\wf.cell? ⟨g,0,none⟩=some (.bool neg)/\wf.cell? ⟨g,1,none⟩=some (.slice A1 l1 c1)/\wf.cell? ⟨g,2,none⟩=some (.slice A2 l2 c2) /\
   jy w q (.returned (.agg #[.bool neg,.slice A1 l1 c1,.slice A2 l2 c2])) wf:=by
 have n0:=ho.jr hx hy hz
 have o1:=ho.Gy (.bool neg)
 have n1:=o1.jr (by simp) hy hz
 have o2:=o1.Gz (.slice A1 l1 c1)
 have n2:=o2.jr (by simp) (by simp) hz
 have o3:=o2.GA (.slice A2 l2 c2)
 refine⟨_,rfl,o3.c0,o3.c1,o3.c2,_,rfl,⟨_,_,by rw[hn],((h1.jr n0 _ _).jr n1 _ _).jr n2 _ _,((h2.jr n0 _ _).jr n1 _ _).jr n2 _ _⟩,((hb.setCell hg _).setCell hg _).setCell hg _⟩
theorem lC (w:World):cM w (.agg #[.bool false,.slice none 0 0,.slice none 0 0]) 0:=⟨_,_,rfl,cz.zero _ _ _,cz.zero _ _ _⟩
theorem iA:aK 1=0:=rfl
theorem jE (h:d≠1):aK d=d:=if_neg h
theorem iJ (w:World) (v:Value) (d:Nat) (h:cz .u64 b64 w v (aK d)) (hd:0<d):Calls Tryz.prog 51 #[v] w (gQ .u64 b64 w d):=by
 by_cases h1:d=1
 ·subst h1
  obtain⟨A,c,rfl,hr⟩:=id h
  rw[iA,bf]
  go_enter Tryz.func51,Tryz.ntmps51
  go_wp2_with fail
  refine(kr w 1 (by unfold b64; omega)).mono ?_
  rintro e w3 ⟨vr,rfl,hr3,hb3⟩
  go_wp2
  go_ret
  exact⟨_,rfl,hr3,hb3⟩
 ·rw[jE h1]at h
  obtain⟨A,c,rfl,hr⟩:=id h
  have hl:(((ak b64 d).length:Int)==0)=false:=beq_eq_false_iff_ne.2 (by have:=(aU (n:=d) ai).2 hd; omega)
  go_enter Tryz.func51,Tryz.ntmps51
  go_wp2
  go_ret
  exact⟨_,rfl,h,Below.refl _ _⟩
theorem jW (w:World) (neg:Bool) (v1 v2:Value) (n d:Nat) (h1:cz .u64 b64 w v1 n) (h2:cz .u64 b64 w v2 d) (hd:0<d) {j:Nat} (hj:Bd j n) (hk:Bd j d) (fD:j<=100000000):
  Calls Tryz.prog 53 #[.bool neg,v1,v2] w (jy w (dW neg n d)):=by
 rcases Nat.eq_zero_or_pos n with rfl|hn
 ·obtain⟨A,c,rfl,hr⟩:=id h1
  rw[bf,B4]
  go_enter Tryz.func53,Tryz.ntmps53
  go_wp2
  go_returns
  exact⟨_,rfl,lC _,Below.alloc (Below.refl _ _) (Nat.le_refl _) _⟩
 ·obtain⟨B,c,rfl,hr⟩:=id h1
  have hl:(((ak b64 n).length:Int)==0)=false:=beq_eq_false_iff_ne.2 (by have:=(aU (n:=n) ai).2 hn; omega)
  obtain⟨g,hg⟩:∃g,g=n.gcd d:=⟨_,rfl⟩
  obtain⟨q,hq⟩:∃q,q=dW neg n d:=⟨_,rfl⟩
  have hg0:0<g:=by rw[hg]; exact Nat.gcd_pos_of_pos_left _ hn
  have q1:=oA (neg:=neg) (n:=n) hd
  have q2:=wV (neg:=neg) (n:=n) hd
  have q3:=Ed (neg:=neg) hd hn
  rw[<-hq,<-hg]at q1 q2
  rw[<-hq]at q3
  rw[<-hq]
  have HQ:=bx (And.intro q1 (And.intro q2 q3))
  have HJ:=bx (And.intro hj hk)
  have HG:=bx hg
  clear q1 q2 q3 hq hj hk hg hn
  by_cases LH:g=1
  ·subst LH
   rw[Nat.div_one,Nat.div_one]at HQ
   by_cases sZ:d=1
   ·have tK:=bx sZ
    clear sZ
    go_enter Tryz.func53,Tryz.ntmps53
    go_wp2_with fail
    have hb0:=Below.alloc (Below.refl w.heap.size w) (Nat.le_refl _) (.cells #[.bool false,.slice none 0 0,.slice none 0 0] 47)
    have ho:=bW.new w (.bool false) (.slice none 0 0) (.slice none 0 0) 47
    have hlt:=fK w (.cells #[.bool false,.slice none 0 0,.slice none 0 0] 47)
    generalize w.alloc (.cells #[.bool false,.slice none 0 0,.slice none 0 0] 47)=w0 at *
    refine(pq _ _ _ n d (h1.below hb0) (h2.below hb0) HJ.out.1 HJ.out.2 fD).mono ?_
    rintro e w1 ⟨vg,rfl,yx,hb1⟩
    rw[<-HG.out]at yx
    have JI:=ho.below hb1 hlt
    have qF:=Nat.lt_of_lt_of_le hlt hb1.size
    have jK:=hb0.trans (hb1.mono hb0.size)
    have h11:=h1.below jK
    have C8:=h2.below jK
    go_wp2_with fail
    refine(fT w1 vg yx).mono ?_
    rintro e w' ⟨rfl,rfl⟩
    go_wp2_with fail
    rw[tK.out]at C8
    refine(fT w1 _ C8).mono ?_
    rintro e w' ⟨rfl,rfl⟩
    have lg:=JI
    have I1:=jK
    obtain⟨wf,HW,f0,f1,f2,dD⟩:=mM (q:=q) (neg:=neg) (Nat.le_refl _) I1 lg (by simp) (by simp) (by simp) HQ.out.2.2 (by rw[HQ.out.1]; exact h11) (A2:=none) (l2:=0) (c2:=0) (by rw[HQ.out.2.1,tK.out,iA]; exact cz.zero _ _ _)
    have I5:=bx HW
    have HF:=bx (And.intro f0 (And.intro f1 f2))
    clear HW f0 f1 f2
    have k0:=lg.c0
    have k1:=lg.c1
    have k2:=lg.c2
    have k3:=lg.fz 0
    have k4:=lg.fz 1
    have k5:=lg.fz 2
    go_wp2
    rw[I5.out]
    obtain⟨f0,f1,f2⟩:=HF.out
    (try simp only[Exit.inBlock,Exit.then])
    refine bodyPost_ret (by simp[results,Tryz.results53,go_sem,f0,f1,f2]; try rfl) rfl ?_
    exact dD
   ·have tK:=bx sZ
    clear sZ
    go_enter Tryz.func53,Tryz.ntmps53
    go_wp2_with fail
    have hb0:=Below.alloc (Below.refl w.heap.size w) (Nat.le_refl _) (.cells #[.bool false,.slice none 0 0,.slice none 0 0] 47)
    have ho:=bW.new w (.bool false) (.slice none 0 0) (.slice none 0 0) 47
    have hlt:=fK w (.cells #[.bool false,.slice none 0 0,.slice none 0 0] 47)
    generalize w.alloc (.cells #[.bool false,.slice none 0 0,.slice none 0 0] 47)=w0 at *
    refine(pq _ _ _ n d (h1.below hb0) (h2.below hb0) HJ.out.1 HJ.out.2 fD).mono ?_
    rintro e w1 ⟨vg,rfl,yx,hb1⟩
    rw[<-HG.out]at yx
    have JI:=ho.below hb1 hlt
    have qF:=Nat.lt_of_lt_of_le hlt hb1.size
    have jK:=hb0.trans (hb1.mono hb0.size)
    have h11:=h1.below jK
    have C8:=h2.below jK
    go_wp2_with fail
    refine(fT w1 vg yx).mono ?_
    rintro e w' ⟨rfl,rfl⟩
    go_wp2_with fail
    refine(gh w1 _ _ C8 tK.out).mono ?_
    rintro e w' ⟨rfl,rfl⟩
    have lg:=JI
    have I1:=jK
    obtain⟨A2,c2,rfl,_⟩:=id C8
    obtain⟨wf,HW,f0,f1,f2,dD⟩:=mM (q:=q) (neg:=neg) (Nat.le_refl _) I1 lg (by simp) (by simp) (by simp) HQ.out.2.2 (by rw[HQ.out.1]; exact h11) (by rw[HQ.out.2.1,jE tK.out]; exact C8)
    have I5:=bx HW
    have HF:=bx (And.intro f0 (And.intro f1 f2))
    clear HW f0 f1 f2
    have k0:=lg.c0
    have k1:=lg.c1
    have k2:=lg.c2
    have k3:=lg.fz 0
    have k4:=lg.fz 1
    have k5:=lg.fz 2
    go_wp2
    rw[I5.out]
    obtain⟨f0,f1,f2⟩:=HF.out
    (try simp only[Exit.inBlock,Exit.then])
    refine bodyPost_ret (by simp[results,Tryz.results53,go_sem,f0,f1,f2]; try rfl) rfl ?_
    exact dD
  ·by_cases sZ:d/g=1
   ·have NY:=bx LH
    have tK:=bx sZ
    clear LH sZ
    go_enter Tryz.func53,Tryz.ntmps53
    go_wp2_with fail
    have hb0:=Below.alloc (Below.refl w.heap.size w) (Nat.le_refl _) (.cells #[.bool false,.slice none 0 0,.slice none 0 0] 47)
    have ho:=bW.new w (.bool false) (.slice none 0 0) (.slice none 0 0) 47
    have hlt:=fK w (.cells #[.bool false,.slice none 0 0,.slice none 0 0] 47)
    generalize w.alloc (.cells #[.bool false,.slice none 0 0,.slice none 0 0] 47)=w0 at *
    refine(pq _ _ _ n d (h1.below hb0) (h2.below hb0) HJ.out.1 HJ.out.2 fD).mono ?_
    rintro e w1 ⟨vg,rfl,yx,hb1⟩
    rw[<-HG.out]at yx
    have JI:=ho.below hb1 hlt
    have qF:=Nat.lt_of_lt_of_le hlt hb1.size
    have jK:=hb0.trans (hb1.mono hb0.size)
    have h11:=h1.below jK
    have C8:=h2.below jK
    go_wp2_with fail
    refine(gh w1 vg g yx NY.out).mono ?_
    rintro e w' ⟨rfl,rfl⟩
    go_wp2_with fail
    refine(eJ w1 _ _ n g h11 yx hg0 HJ.out.1 fD).mono ?_
    rintro e w2 ⟨vn,vr,rfl,PX,_,hb2⟩
    have yh:=jK.trans (hb2.mono jK.size)
    have OL:=h2.below yh
    have JP:=yx.below hb2
    have PF:=JI.below hb2 qF
    have qG:=Nat.lt_of_lt_of_le qF hb2.size
    go_wp2_with fail
    refine(eJ w2 _ _ d g OL JP hg0 HJ.out.2 fD).mono ?_
    rintro e w3 ⟨vd,T2,rfl,KX,_,hb3⟩
    have I1:=yh.trans (hb3.mono yh.size)
    have lg:=PF.below hb3 qG
    have Dh:=PX.below hb3
    go_wp2_with fail
    rw[tK.out]at KX
    refine(fT w3 vd KX).mono ?_
    rintro e w' ⟨rfl,rfl⟩
    obtain⟨A1,c1,rfl,_⟩:=id Dh
    obtain⟨wf,HW,f0,f1,f2,dD⟩:=mM (q:=q) (neg:=neg) (Nat.le_refl _) I1 lg (by simp) (by simp) (by simp) HQ.out.2.2 (by rw[HQ.out.1]; exact Dh) (A2:=none) (l2:=0) (c2:=0) (by rw[HQ.out.2.1,tK.out,iA]; exact cz.zero _ _ _)
    have I5:=bx HW
    have HF:=bx (And.intro f0 (And.intro f1 f2))
    clear HW f0 f1 f2
    have k0:=lg.c0
    have k1:=lg.c1
    have k2:=lg.c2
    have k3:=lg.fz 0
    have k4:=lg.fz 1
    have k5:=lg.fz 2
    go_wp2
    rw[I5.out]
    obtain⟨f0,f1,f2⟩:=HF.out
    (try simp only[Exit.inBlock,Exit.then])
    refine bodyPost_ret (by simp[results,Tryz.results53,go_sem,f0,f1,f2]; try rfl) rfl ?_
    exact dD
   ·have NY:=bx LH
    have tK:=bx sZ
    clear LH sZ
    go_enter Tryz.func53,Tryz.ntmps53
    go_wp2_with fail
    have hb0:=Below.alloc (Below.refl w.heap.size w) (Nat.le_refl _) (.cells #[.bool false,.slice none 0 0,.slice none 0 0] 47)
    have ho:=bW.new w (.bool false) (.slice none 0 0) (.slice none 0 0) 47
    have hlt:=fK w (.cells #[.bool false,.slice none 0 0,.slice none 0 0] 47)
    generalize w.alloc (.cells #[.bool false,.slice none 0 0,.slice none 0 0] 47)=w0 at *
    refine(pq _ _ _ n d (h1.below hb0) (h2.below hb0) HJ.out.1 HJ.out.2 fD).mono ?_
    rintro e w1 ⟨vg,rfl,yx,hb1⟩
    rw[<-HG.out]at yx
    have JI:=ho.below hb1 hlt
    have qF:=Nat.lt_of_lt_of_le hlt hb1.size
    have jK:=hb0.trans (hb1.mono hb0.size)
    have h11:=h1.below jK
    have C8:=h2.below jK
    go_wp2_with fail
    refine(gh w1 vg g yx NY.out).mono ?_
    rintro e w' ⟨rfl,rfl⟩
    go_wp2_with fail
    refine(eJ w1 _ _ n g h11 yx hg0 HJ.out.1 fD).mono ?_
    rintro e w2 ⟨vn,vr,rfl,PX,_,hb2⟩
    have yh:=jK.trans (hb2.mono jK.size)
    have OL:=h2.below yh
    have JP:=yx.below hb2
    have PF:=JI.below hb2 qF
    have qG:=Nat.lt_of_lt_of_le qF hb2.size
    go_wp2_with fail
    refine(eJ w2 _ _ d g OL JP hg0 HJ.out.2 fD).mono ?_
    rintro e w3 ⟨vd,T2,rfl,KX,_,hb3⟩
    have I1:=yh.trans (hb3.mono yh.size)
    have lg:=PF.below hb3 qG
    have Dh:=PX.below hb3
    go_wp2_with fail
    refine(gh w3 vd _ KX tK.out).mono ?_
    rintro e w' ⟨rfl,rfl⟩
    obtain⟨A1,c1,rfl,_⟩:=id Dh
    obtain⟨A2,c2,rfl,_⟩:=id KX
    obtain⟨wf,HW,f0,f1,f2,dD⟩:=mM (q:=q) (neg:=neg) (Nat.le_refl _) I1 lg (by simp) (by simp) (by simp) HQ.out.2.2 (by rw[HQ.out.1]; exact Dh) (by rw[HQ.out.2.1,jE tK.out]; exact KX)
    have I5:=bx HW
    have HF:=bx (And.intro f0 (And.intro f1 f2))
    clear HW f0 f1 f2
    have k0:=lg.c0
    have k1:=lg.c1
    have k2:=lg.c2
    have k3:=lg.fz 0
    have k4:=lg.fz 1
    have k5:=lg.fz 2
    go_wp2
    rw[I5.out]
    obtain⟨f0,f1,f2⟩:=HF.out
    (try simp only[Exit.inBlock,Exit.then])
    refine bodyPost_ret (by simp[results,Tryz.results53,go_sem,f0,f1,f2]; try rfl) rfl ?_
    exact dD
end Wx
