import Derived.Test.YtadigiledciihaaGreatJRD11
namespace Wx
set_option maxHeartbeats 1000000
open Go Go.RowKit Go.Proofs
def vT (w:World) (g:Nat):Prop:=∀i k z,w.cell? ⟨g,i,none⟩≠some (.int k z)
def cj (w:World) (g:Nat) (x y z:Value) (e:TypeId):Prop:=w.heap[g]?=some (.cells #[x,y,z] e (0,0))
variable {w:World} {g:Nat} {x y z:Value} {e:TypeId}
theorem cj.c0 (h:cj w g x y z e):w.cell? ⟨g,0,none⟩=some x:=by unfold cj at h; simp[World.cell?,h]
theorem cj.c1 (h:cj w g x y z e):w.cell? ⟨g,1,none⟩=some y:=by unfold cj at h; simp[World.cell?,h]
theorem cj.c2 (h:cj w g x y z e):w.cell? ⟨g,2,none⟩=some z:=by unfold cj at h; simp[World.cell?,h]
theorem cj.fz (h:cj w g x y z e) (i:Nat):w.frozen? ⟨g,i,none⟩=false:=by unfold cj at h; simp[World.frozen?,h]
variable {w':World}
theorem cj.below {B:Nat} (h:cj w g x y z e) (hb:Below B w w') (hg:g<B):cj w' g x y z e:=(hb.block g hg).trans h
theorem cj.new (w:World) (x y z:Value) (e:TypeId):cj (w.alloc (.cells #[x,y,z] e)) w.heap.size x y z e:=by unfold cj; exact heap_alloc_new _ _
theorem fJ (w:World) (o:Obj):w.heap.size<(w.alloc o).heap.size:=by simp
theorem cj.gv (h:cj w g x y z e) (hx:∀k n,x≠.int k n) (hy:∀k n,y≠.int k n) (hz:∀k n,z≠.int k n):vT w g:=by
 intro i k n hc
 unfold cj at h
 simp only[World.cell?,h]at hc
 match i,hc with
 |0,hc=>exact hx k n (by simpa using hc)
 |1,hc=>exact hy k n (by simpa using hc)
 |2,hc=>exact hz k n (by simpa using hc)
 |n+3,hc=>simp at hc
theorem cj.Hr (h:cj w g x y z e) (u:Value):cj (w.setCell ⟨g,0,none⟩ u) g u y z e:=by
 unfold cj at *; simp[World.setCell,Array.getElem?_modify,h]
theorem cj.Hs (h:cj w g x y z e) (u:Value):cj (w.setCell ⟨g,1,none⟩ u) g x u z e:=by
 unfold cj at *; simp[World.setCell,Array.getElem?_modify,h]
theorem cj.Ht (h:cj w g x y z e) (u:Value):cj (w.setCell ⟨g,2,none⟩ u) g x y u e:=by
 unfold cj at *; simp[World.setCell,Array.getElem?_modify,h]
variable {k:IntKind}
theorem Rd.gv {A:Option Addr} {c:Nat} {l:List Nat} (h:Rd w k A c l) {g:Nat} (hg:vT w g) (i:Nat) (u:Value):Rd (w.setCell ⟨g,i,none⟩ u) k A c l:=by
 obtain⟨h1,h2,h3⟩:=h
 refine⟨h1,h2,λhne=>?_⟩
 obtain⟨b,o,e,hc⟩:=h3 hne
 refine⟨b,o,e,λi' hi=>?_⟩
 have GA:b≠g:=by rintro rfl; exact hg _ _ _ (hc i' hi)
 rw[World.cell?_of_block (Below.heap_setCell w ⟨g,i,none⟩ u b GA)]
 exact hc i' hi
variable {v:Value} {n:Nat}
theorem aV.gv (h:aV k b64 w v n) {g:Nat} (hg:vT w g) (i:Nat) (u:Value):aV k b64 (w.setCell ⟨g,i,none⟩ u) v n:=by
 obtain⟨A,c,rfl,hr⟩:=h
 exact⟨A,c,rfl,hr.gv hg i u⟩
def aL (d:Nat):Nat:=if d=1 then 0 else d
def cV (w:World) (v:Value) (q:Rat):Prop:=∃vn vd,v=.agg #[.bool (decide (q.num<0)),vn,vd]/\aV .u64 b64 w vn q.num.natAbs/\aV .u64 b64 w vd (aL q.den)
def jR (w:World) (q:Rat) (e:Ending) (w':World):Prop:=∃v,e=.returned v/\cV w' v q/\Below w.heap.size w w'
variable {q:Rat}
theorem cV.below (h:cV w v q) (hb:Below w.heap.size w w'):cV w' v q:=by
 obtain⟨vn,vd,rfl,h1,h2⟩:=h
 exact⟨vn,vd,rfl,h1.below hb,h2.below hb⟩
def dB (j:Nat) (q:Rat):Prop:=Bd j q.num.natAbs/\Bd j q.den
variable {j:Nat}
theorem dB.mono {k:Nat} (h:dB j q) (hk:j<=k):dB k q:=⟨h.1.mono hk,h.2.mono hk⟩
def sg (neg:Bool) (n:Nat):Int:=if neg then -(n:Int)else n
theorem ot (neg:Bool) (n:Nat):(sg neg n).natAbs=n:=by cases neg<;>simp[sg]
theorem ya (z:Int):sg (decide (z<0)) z.natAbs=z:=by
 unfold sg
 by_cases h:z<0
 ·rw[decide_eq_true h]; simp; omega
 ·rw[decide_eq_false h]; simp; omega
def cz (neg:Bool) (n d:Nat):Rat:=mkRat (sg neg n) d
variable {neg:Bool} {d:Nat}
theorem xQ (hd:0<d):(cz neg n d).num=sg neg (n/n.gcd d):=by
 unfold cz
 rw[Rat.num_mkRat,if_neg (by omega),ot,Nat.gcd_comm]
 cases neg
 ·simp[sg]
 ·show -(n:Int)/((n.gcd d:Nat):Int) = -((n/n.gcd d:Nat):Int)
  rw[Int.neg_ediv_of_dvd (Int.natCast_dvd_natCast.2 (Nat.gcd_dvd_left n d)),Int.natCast_ediv]
theorem nC (hd:0<d):(cz neg n d).den=d/n.gcd d:=by
 unfold cz
 rw[Rat.den_mkRat,if_neg (by omega),ot,Nat.gcd_comm]
theorem gT (hd:0<d):(cz neg n d).num.natAbs=n/n.gcd d:=by rw[xQ hd,ot]
theorem nB (hd:0<d) (h1:Bd j n) (h2:Bd j d):dB j (cz neg n d):=
 ⟨by rw[gT hd]; exact h1.le (Nat.div_le_self _ _),by rw[nC hd]; exact h2.le (Nat.div_le_self _ _)⟩
theorem rO (hd:0<d) (hn:0<n):decide ((cz neg n d).num<0)=neg:=by
 rw[xQ hd]
 have:0<n/n.gcd d:=Nat.div_pos (Nat.le_of_dvd hn (Nat.gcd_dvd_left n d)) (Nat.gcd_pos_of_pos_left _ hn)
 cases neg<;>simp[sg]<;>omega
theorem tT:cz neg 0 d=0:=by
 unfold cz sg
 cases neg<;>simp
theorem nA {w3:World} {A1 A2:Option Addr} {l1 l2 c1 c2:Nat} (hg:w.heap.size<=g) (hb:Below w.heap.size w w3) (ho:cj w3 g x y z e)
  (hx:∀k n,x≠.int k n) (hy:∀k n,y≠.int k n) (hz:∀k n,z≠.int k n) (hn:decide (q.num<0)=neg) (h1:aV .u64 b64 w3 (.slice A1 l1 c1) q.num.natAbs) (h2:aV .u64 b64 w3 (.slice A2 l2 c2) (aL q.den)):
  ∃wf,((w3.setCell ⟨g,0,none⟩ (.bool neg)).setCell ⟨g,1,none⟩ (.slice A1 l1 c1)).setCell ⟨g,2,none⟩ (.slice A2 l2 c2)=wf/\wf.cell? ⟨g,0,none⟩=some (.bool neg)/\wf.cell? ⟨g,1,none⟩=some (.slice A1 l1 c1)/\wf.cell? ⟨g,2,none⟩=some (.slice A2 l2 c2) /\
   jR w q (.returned (.agg #[.bool neg,.slice A1 l1 c1,.slice A2 l2 c2])) wf:=by
 have n0:=ho.gv hx hy hz
 have o1:=ho.Hr (.bool neg)
 have n1:=o1.gv (by simp) hy hz
 have o2:=o1.Hs (.slice A1 l1 c1)
 have n2:=o2.gv (by simp) (by simp) hz
 have o3:=o2.Ht (.slice A2 l2 c2)
 refine⟨_,rfl,o3.c0,o3.c1,o3.c2,_,rfl,⟨_,_,by rw[hn],((h1.gv n0 _ _).gv n1 _ _).gv n2 _ _,((h2.gv n0 _ _).gv n1 _ _).gv n2 _ _⟩,((hb.setCell hg _).setCell hg _).setCell hg _⟩
theorem mm (w:World):cV w (.agg #[.bool false,.slice none 0 0,.slice none 0 0]) 0:=⟨_,_,rfl,aV.zero _ _ _,aV.zero _ _ _⟩
theorem iJ:aL 1=0:=rfl
theorem jZ (h:d≠1):aL d=d:=if_neg h
theorem ja (w:World) (v:Value) (d:Nat) (h:aV .u64 b64 w v (aL d)) (hd:0<d):Calls Tryz.prog 83 #[v] w (dG .u64 b64 w d):=by
 by_cases h1:d=1
 ·subst h1
  obtain⟨A,c,rfl,hr⟩:=id h
  rw[iJ,aX]
  go_enter Tryz.func83,Tryz.ntmps83
  go_wp2_with fail
  refine(kX w 1 (by unfold b64; omega)).mono ?_
  rintro e w3 ⟨vr,rfl,hr3,hb3⟩
  go_wp2
  go_ret
  exact⟨_,rfl,hr3,hb3⟩
 ·rw[jZ h1]at h
  obtain⟨A,c,rfl,hr⟩:=id h
  have hl:(((ae b64 d).length:Int)==0)=false:=beq_eq_false_iff_ne.2 (by have:=(ax (n:=d) af).2 hd; omega)
  go_enter Tryz.func83,Tryz.ntmps83
  go_wp2
  go_ret
  exact⟨_,rfl,h,Below.refl _ _⟩
theorem kQ (w:World) (neg:Bool) (v1 v2:Value) (n d:Nat) (h1:aV .u64 b64 w v1 n) (h2:aV .u64 b64 w v2 d) (hd:0<d) {j:Nat} (hj:Bd j n) (hk:Bd j d) (cQ:j<=100000000):
  Calls Tryz.prog 85 #[.bool neg,v1,v2] w (jR w (cz neg n d)):=by
 rcases Nat.eq_zero_or_pos n with rfl|hn
 ·obtain⟨A,c,rfl,hr⟩:=id h1
  rw[aX,tT]
  go_enter Tryz.func85,Tryz.ntmps85
  go_wp2
  go_returns
  exact⟨_,rfl,mm _,Below.alloc (Below.refl _ _) (Nat.le_refl _) _⟩
 ·obtain⟨B,c,rfl,hr⟩:=id h1
  have hl:(((ae b64 n).length:Int)==0)=false:=beq_eq_false_iff_ne.2 (by have:=(ax (n:=n) af).2 hn; omega)
  obtain⟨g,hg⟩:∃g,g=n.gcd d:=⟨_,rfl⟩
  obtain⟨q,hq⟩:∃q,q=cz neg n d:=⟨_,rfl⟩
  have hg0:0<g:=by rw[hg]; exact Nat.gcd_pos_of_pos_left _ hn
  have q1:=gT (neg:=neg) (n:=n) hd
  have q2:=nC (neg:=neg) (n:=n) hd
  have q3:=rO (neg:=neg) hd hn
  rw[<-hq,<-hg]at q1 q2
  rw[<-hq]at q3
  rw[<-hq]
  have HQ:=bx (And.intro q1 (And.intro q2 q3))
  have HJ:=bx (And.intro hj hk)
  have HG:=bx hg
  clear q1 q2 q3 hq hj hk hg hn
  by_cases Dn:g=1
  ·subst Dn
   rw[Nat.div_one,Nat.div_one]at HQ
   by_cases sx:d=1
   ·have sU:=bx sx
    clear sx
    go_enter Tryz.func85,Tryz.ntmps85
    go_wp2_with fail
    have hb0:=Below.alloc (Below.refl w.heap.size w) (Nat.le_refl _) (.cells #[.bool false,.slice none 0 0,.slice none 0 0] 54)
    have ho:=cj.new w (.bool false) (.slice none 0 0) (.slice none 0 0) 54
    have hlt:=fJ w (.cells #[.bool false,.slice none 0 0,.slice none 0 0] 54)
    generalize w.alloc (.cells #[.bool false,.slice none 0 0,.slice none 0 0] 54)=w0 at *
    refine(pT _ _ _ n d (h1.below hb0) (h2.below hb0) HJ.out.1 HJ.out.2 cQ).mono ?_
    rintro e w1 ⟨vg,rfl,zj,hb1⟩
    rw[<-HG.out]at zj
    have Kr:=ho.below hb1 hlt
    have qN:=Nat.lt_of_lt_of_le hlt hb1.size
    have kB:=hb0.trans (hb1.mono hb0.size)
    have h11:=h1.below kB
    have D3:=h2.below kB
    go_wp2_with fail
    refine(fR w1 vg zj).mono ?_
    rintro e w' ⟨rfl,rfl⟩
    go_wp2_with fail
    rw[sU.out]at D3
    refine(fR w1 _ D3).mono ?_
    rintro e w' ⟨rfl,rfl⟩
    have lY:=Kr
    have Jq:=kB
    obtain⟨wf,HW,f0,f1,f2,dJ⟩:=nA (q:=q) (neg:=neg) (Nat.le_refl _) Jq lY (by simp) (by simp) (by simp) HQ.out.2.2 (by rw[HQ.out.1]; exact h11) (A2:=none) (l2:=0) (c2:=0) (by rw[HQ.out.2.1,sU.out,iJ]; exact aV.zero _ _ _)
    have Jv:=bx HW
    have HF:=bx (And.intro f0 (And.intro f1 f2))
    clear HW f0 f1 f2
    have k0:=lY.c0
    have k1:=lY.c1
    have k2:=lY.c2
    have k3:=lY.fz 0
    have k4:=lY.fz 1
    have k5:=lY.fz 2
    go_wp2
    rw[Jv.out]
    obtain⟨f0,f1,f2⟩:=HF.out
    (try simp only[Exit.inBlock,Exit.then])
    refine bodyPost_ret (by simp[results,Tryz.results85,go_sem,f0,f1,f2]; try rfl) rfl ?_
    exact dJ
   ·have sU:=bx sx
    clear sx
    go_enter Tryz.func85,Tryz.ntmps85
    go_wp2_with fail
    have hb0:=Below.alloc (Below.refl w.heap.size w) (Nat.le_refl _) (.cells #[.bool false,.slice none 0 0,.slice none 0 0] 54)
    have ho:=cj.new w (.bool false) (.slice none 0 0) (.slice none 0 0) 54
    have hlt:=fJ w (.cells #[.bool false,.slice none 0 0,.slice none 0 0] 54)
    generalize w.alloc (.cells #[.bool false,.slice none 0 0,.slice none 0 0] 54)=w0 at *
    refine(pT _ _ _ n d (h1.below hb0) (h2.below hb0) HJ.out.1 HJ.out.2 cQ).mono ?_
    rintro e w1 ⟨vg,rfl,zj,hb1⟩
    rw[<-HG.out]at zj
    have Kr:=ho.below hb1 hlt
    have qN:=Nat.lt_of_lt_of_le hlt hb1.size
    have kB:=hb0.trans (hb1.mono hb0.size)
    have h11:=h1.below kB
    have D3:=h2.below kB
    go_wp2_with fail
    refine(fR w1 vg zj).mono ?_
    rintro e w' ⟨rfl,rfl⟩
    go_wp2_with fail
    refine(gj w1 _ _ D3 sU.out).mono ?_
    rintro e w' ⟨rfl,rfl⟩
    have lY:=Kr
    have Jq:=kB
    obtain⟨A2,c2,rfl,_⟩:=id D3
    obtain⟨wf,HW,f0,f1,f2,dJ⟩:=nA (q:=q) (neg:=neg) (Nat.le_refl _) Jq lY (by simp) (by simp) (by simp) HQ.out.2.2 (by rw[HQ.out.1]; exact h11) (by rw[HQ.out.2.1,jZ sU.out]; exact D3)
    have Jv:=bx HW
    have HF:=bx (And.intro f0 (And.intro f1 f2))
    clear HW f0 f1 f2
    have k0:=lY.c0
    have k1:=lY.c1
    have k2:=lY.c2
    have k3:=lY.fz 0
    have k4:=lY.fz 1
    have k5:=lY.fz 2
    go_wp2
    rw[Jv.out]
    obtain⟨f0,f1,f2⟩:=HF.out
    (try simp only[Exit.inBlock,Exit.then])
    refine bodyPost_ret (by simp[results,Tryz.results85,go_sem,f0,f1,f2]; try rfl) rfl ?_
    exact dJ
  ·by_cases sx:d/g=1
   ·have Om:=bx Dn
    have sU:=bx sx
    clear Dn sx
    go_enter Tryz.func85,Tryz.ntmps85
    go_wp2_with fail
    have hb0:=Below.alloc (Below.refl w.heap.size w) (Nat.le_refl _) (.cells #[.bool false,.slice none 0 0,.slice none 0 0] 54)
    have ho:=cj.new w (.bool false) (.slice none 0 0) (.slice none 0 0) 54
    have hlt:=fJ w (.cells #[.bool false,.slice none 0 0,.slice none 0 0] 54)
    generalize w.alloc (.cells #[.bool false,.slice none 0 0,.slice none 0 0] 54)=w0 at *
    refine(pT _ _ _ n d (h1.below hb0) (h2.below hb0) HJ.out.1 HJ.out.2 cQ).mono ?_
    rintro e w1 ⟨vg,rfl,zj,hb1⟩
    rw[<-HG.out]at zj
    have Kr:=ho.below hb1 hlt
    have qN:=Nat.lt_of_lt_of_le hlt hb1.size
    have kB:=hb0.trans (hb1.mono hb0.size)
    have h11:=h1.below kB
    have D3:=h2.below kB
    go_wp2_with fail
    refine(gj w1 vg g zj Om.out).mono ?_
    rintro e w' ⟨rfl,rfl⟩
    go_wp2_with fail
    refine(eM w1 _ _ n g h11 zj hg0 HJ.out.1 cQ).mono ?_
    rintro e w2 ⟨vn,vr,rfl,Qu,_,hb2⟩
    have yZ:=kB.trans (hb2.mono kB.size)
    have O6:=h2.below yZ
    have Kz:=zj.below hb2
    have Qc:=Kr.below hb2 qN
    have nY:=Nat.lt_of_lt_of_le qN hb2.size
    go_wp2_with fail
    refine(eM w2 _ _ d g O6 Kz hg0 HJ.out.2 cQ).mono ?_
    rintro e w3 ⟨vd,UK,rfl,Lr,_,hb3⟩
    have Jq:=yZ.trans (hb3.mono yZ.size)
    have lY:=Qc.below hb3 nY
    have Ei:=Qu.below hb3
    go_wp2_with fail
    rw[sU.out]at Lr
    refine(fR w3 vd Lr).mono ?_
    rintro e w' ⟨rfl,rfl⟩
    obtain⟨A1,c1,rfl,_⟩:=id Ei
    obtain⟨wf,HW,f0,f1,f2,dJ⟩:=nA (q:=q) (neg:=neg) (Nat.le_refl _) Jq lY (by simp) (by simp) (by simp) HQ.out.2.2 (by rw[HQ.out.1]; exact Ei) (A2:=none) (l2:=0) (c2:=0) (by rw[HQ.out.2.1,sU.out,iJ]; exact aV.zero _ _ _)
    have Jv:=bx HW
    have HF:=bx (And.intro f0 (And.intro f1 f2))
    clear HW f0 f1 f2
    have k0:=lY.c0
    have k1:=lY.c1
    have k2:=lY.c2
    have k3:=lY.fz 0
    have k4:=lY.fz 1
    have k5:=lY.fz 2
    go_wp2
    rw[Jv.out]
    obtain⟨f0,f1,f2⟩:=HF.out
    (try simp only[Exit.inBlock,Exit.then])
    refine bodyPost_ret (by simp[results,Tryz.results85,go_sem,f0,f1,f2]; try rfl) rfl ?_
    exact dJ
   ·have Om:=bx Dn
    have sU:=bx sx
    clear Dn sx
    go_enter Tryz.func85,Tryz.ntmps85
    go_wp2_with fail
    have hb0:=Below.alloc (Below.refl w.heap.size w) (Nat.le_refl _) (.cells #[.bool false,.slice none 0 0,.slice none 0 0] 54)
    have ho:=cj.new w (.bool false) (.slice none 0 0) (.slice none 0 0) 54
    have hlt:=fJ w (.cells #[.bool false,.slice none 0 0,.slice none 0 0] 54)
    generalize w.alloc (.cells #[.bool false,.slice none 0 0,.slice none 0 0] 54)=w0 at *
    refine(pT _ _ _ n d (h1.below hb0) (h2.below hb0) HJ.out.1 HJ.out.2 cQ).mono ?_
    rintro e w1 ⟨vg,rfl,zj,hb1⟩
    rw[<-HG.out]at zj
    have Kr:=ho.below hb1 hlt
    have qN:=Nat.lt_of_lt_of_le hlt hb1.size
    have kB:=hb0.trans (hb1.mono hb0.size)
    have h11:=h1.below kB
    have D3:=h2.below kB
    go_wp2_with fail
    refine(gj w1 vg g zj Om.out).mono ?_
    rintro e w' ⟨rfl,rfl⟩
    go_wp2_with fail
    refine(eM w1 _ _ n g h11 zj hg0 HJ.out.1 cQ).mono ?_
    rintro e w2 ⟨vn,vr,rfl,Qu,_,hb2⟩
    have yZ:=kB.trans (hb2.mono kB.size)
    have O6:=h2.below yZ
    have Kz:=zj.below hb2
    have Qc:=Kr.below hb2 qN
    have nY:=Nat.lt_of_lt_of_le qN hb2.size
    go_wp2_with fail
    refine(eM w2 _ _ d g O6 Kz hg0 HJ.out.2 cQ).mono ?_
    rintro e w3 ⟨vd,UK,rfl,Lr,_,hb3⟩
    have Jq:=yZ.trans (hb3.mono yZ.size)
    have lY:=Qc.below hb3 nY
    have Ei:=Qu.below hb3
    go_wp2_with fail
    refine(gj w3 vd _ Lr sU.out).mono ?_
    rintro e w' ⟨rfl,rfl⟩
    obtain⟨A1,c1,rfl,_⟩:=id Ei
    obtain⟨A2,c2,rfl,_⟩:=id Lr
    obtain⟨wf,HW,f0,f1,f2,dJ⟩:=nA (q:=q) (neg:=neg) (Nat.le_refl _) Jq lY (by simp) (by simp) (by simp) HQ.out.2.2 (by rw[HQ.out.1]; exact Ei) (by rw[HQ.out.2.1,jZ sU.out]; exact Lr)
    have Jv:=bx HW
    have HF:=bx (And.intro f0 (And.intro f1 f2))
    clear HW f0 f1 f2
    have k0:=lY.c0
    have k1:=lY.c1
    have k2:=lY.c2
    have k3:=lY.fz 0
    have k4:=lY.fz 1
    have k5:=lY.fz 2
    go_wp2
    rw[Jv.out]
    obtain⟨f0,f1,f2⟩:=HF.out
    (try simp only[Exit.inBlock,Exit.then])
    refine bodyPost_ret (by simp[results,Tryz.results85,go_sem,f0,f1,f2]; try rfl) rfl ?_
    exact dJ
end Wx
