import Derived.Test.YtpiniclogfefjaaGreatJSolves15
import Derived.Test.YtpiniclogfefjaaGreatJSolves13
namespace Wx
set_option maxRecDepth 100000
open Go Go.RowKit Go.Proofs

def RetQuot (w:World) (q r:Nat) (e:Ending) (w':World):Prop:=∃v u,e=.returned (.tuple #[v,u])∧Num .u32 Qd w' v q∧Num .u32 Qd w' u r∧Below w.heap.size w w'
theorem digs32_one {n:Nat} (h:(digs Qd n).length=1):digs Qd n=[n]∧0<n∧n<Qd:=by
 have h0:0<n:=(Xh Qz).1 (by omega)
 have h1:=Qdd Qz n
 rw[h,Nat.pow_one]at h1
 exact⟨Qge Qz h0 h1,h0,h1⟩

set_option maxHeartbeats 1000000 in
theorem quot_one (w:World) (v1 v2:Value) (m n:Nat) (h1:Num .u32 Qd w v1 m) (h2:Num .u32 Qd w v2 n) (hl:(digs Qd n).length=1) {j:Nat} (hj:Bd j m) (hj1:j≤100000000):
  Calls Tryz.prog 118 #[v1,v2] w (RetQuot w (m/n) (m%n)):=by
 obtain⟨hd,hn0,hn1⟩:=digs32_one hl
 obtain⟨B,d,rfl,hb⟩:=h2
 rw[hd]at hb ⊢
 obtain⟨g,o,x,rfl,hc,HX⟩:=hb.get (i:=0) (by simp)
 obtain rfl:n=x:=by have:=HX.out; simpa using this
 rw[Nat.add_zero]at hc
 have HJ:=bx hj
 have HN:=bx (And.intro hn0 hn1)
 have hnu:=K6 hn1
 have hl1:[n].length=1:=rfl
 rw[hl1]
 clear hd hl HX hb hj hn1 hl1
 go_enter Tryz.func118,Tryz.ntmps118
 go_wp2_with fail
 refine Calls.mono (Qh2 w v1 m n h1 HJ.out (by omega) HN.out.1 HN.out.2) ?_
 rintro e w2 ⟨vq,rfl,hq,hb2⟩
 have hr64:m%n<Qa:=by have h1:=Nat.mod_lt m HN.out.1; have h2:=HN.out.2; unfold Qd at h2; unfold Qa; omega
 have hr32:((m%n:Nat):Int)≤4294967295:=by have h1:=Nat.mod_lt m HN.out.1; have h2:=HN.out.2; unfold Qd at h2; omega
 have HR:=bx hr64
 clear hr64
 generalize m%n=r at *
 go_wp2_with fail
 refine Calls.mono (Vi w2 r HR.out) ?_
 rintro e w3 ⟨vr,rfl,hr,hb3⟩
 go_wp2
 go_ret2
 exact⟨_,_,rfl,hq.below hb3,hr,hb2.trans (hb3.mono hb2.size)⟩

set_option maxHeartbeats 1000000 in
theorem quot_less (w:World) (v1 v2:Value) (m n:Nat) (h1:Num .u32 Qd w v1 m) (h2:Num .u32 Qd w v2 n) (hl:(digs Qd n).length≠1) {j:Nat} (hj:Bd j m) (hk:Bd j n) (hj1:j≤100000000) (hlt:Xu m<Xu n):
  Calls Tryz.prog 118 #[v1,v2] w (RetQuot w (m/n) (m%n)):=by
 have hmn:=nbits_lt_of hlt
 rw[Nat.div_eq_of_lt hmn,Nat.mod_eq_of_lt hmn]
 have hc1:=Qf9 w v1 m h1 hj (by omega)
 have hc2:=Qf9 w v2 n h2 hk (by omega)
 have hbm:=Qex hj
 have hbn:=Qex hk
 have HM:=bx h1
 obtain⟨B,d,rfl,hb⟩:=h2
 have hlen:=hb.len
 have hl1:(((digs Qd n).length:Int)==1)=false:=beq_eq_false_iff_ne.2 (by omega)
 generalize (digs Qd n).length=L at *
 have hlt':(Xu m:Int)<(Xu n:Int):=by omega
 have hbm1:(Xu m:Int)≤100000000:=by omega
 have hbn1:(Xu n:Int)≤100000000:=by omega
 have HC1:=bx hc1
 have HC2:=bx hc2
 clear hc1 hc2 hj hk hb hmn hbm hbn hlt h1
 generalize Xu m=bm at *
 generalize Xu n=bn at *
 go_enter Tryz.func118,Tryz.ntmps118
 go_wp2_with fail
 refine Calls.mono HC1.out ?_
 rintro e w' ⟨rfl,rfl⟩
 go_wp2_with fail
 refine Calls.mono HC2.out ?_
 rintro e w' ⟨rfl,rfl⟩
 go_wp2
 go_ret2
 exact⟨_,_,rfl,Num.of Qz (l:=[]) ⟨Nat.le_refl _,Nat.zero_le _,fun h=>absurd rfl h⟩ rfl (Wf.nil _) Top.nil,HM.out.below (Below.alloc (Below.refl _ _) (Nat.le_refl _) _),Below.alloc (Below.refl _ _) (Nat.le_refl _) _⟩

def NumN (g:Nat) (w:World) (v:Value) (n:Nat):Prop:=Num .u32 Qd w v n∧∀a l c,v=.slice (some a) l c→a.block≠g
theorem NumN.below {g:Nat} {w w':World} {v:Value} {n:Nat} (h:NumN g w v n) (hb:Below w.heap.size w w'):NumN g w' v n:=⟨h.1.below hb,h.2⟩
theorem NumN.set {g:Nat} {w:World} {v:Value} {n:Nat} (h:NumN g w v n) (i:Nat) (u:Value):NumN g (w.setCell ⟨g,i,none⟩ u) v n:=by
 obtain⟨⟨A,c,rfl,h1,h2,h3⟩,h4⟩:=h
 refine⟨⟨A,c,rfl,h1,h2,fun hne=>?_⟩,h4⟩
 obtain⟨b,o,rfl,hc⟩:=h3 hne
 refine⟨b,o,rfl,fun k hk=>?_⟩
 rw[World.cell?_of_block (Below.heap_setCell w ⟨g,i,none⟩ u b (h4 _ _ _ rfl))]
 exact hc k hk
theorem NumN.new {g h L c:Nat} {w:World} {n:Nat} (hn:Num .u32 Qd w (.slice (some ⟨h,0,none⟩) L c) n) (hg:g<h):NumN g w (.slice (some ⟨h,0,none⟩) L c) n:=by
 refine⟨hn,fun a l c e=>?_⟩
 injection e with e
 injection e with e
 subst e
 show h≠g
 omega
theorem NumN.old {w w':World} {v:Value} {n:Nat} (h:Num .u32 Qd w v n) (hn:0<n) (hb:Below w.heap.size w w'):NumN w.heap.size w' v n:=by
 refine⟨h.below hb,fun a l c e=>?_⟩
 obtain⟨A,c',rfl,hr⟩:=h
 obtain⟨b,o,e',hc⟩:=hr.at_ ((Xh Qz).2 hn)
 have:=World.block_lt_of_cell? w _ hc
 rw[e']at e
 injection e with e
 injection e with e
 subst e
 have:b<w.heap.size:=this
 show b≠w.heap.size
 omega
theorem bit_eq {v i:Nat} (h:v+2^(i%32)<4294967296):((v:Int)+(2:Int)^(i%32))%4294967296=((v+2^(i%32):Nat):Int):=by
 have e:((2:Int)^(i%32))=((2^(i%32):Nat):Int):=by simp
 rw[e]
 generalize 2^(i%32)=P at *
 omega
theorem cmpI_lt' {m n:Nat} (h:m<n):∃z,X0 m n=z∧z<0:=⟨_,rfl,by unfold X0; rw[if_pos h]; omega⟩
def QInv (m n N i x y Q:Nat) (qs:List Nat):Prop:=
 m=Q*n+x∧x<n*2^i∧2^i ∣ Q∧(0<i→y=n*2^(i-1))∧Qh Qd qs=Q∧qs.length=N/32+1∧x≤m∧y≤n*2^N
theorem QInv.yes {m n N i x y Q:Nat} {qs:List Nat} {v:Nat} (h:QInv m n N (i+1) x y Q qs) (hw:Wf Qd qs) (hv:qs[i/32]?=some v) (hle:y≤x):
  v+2^(i%32)<4294967296∧QInv m n N i (x-y) (y/2) (Q+2^i) (qs.set (i/32) (v+2^(i%32))):=by
 obtain⟨h1,h2,h3,h4,h5,h6,h7,h8⟩:=h
 have hy:=h4 (by omega)
 rw[Nat.add_sub_cancel]at hy
 have e:Qd=4294967296:=rfl
 rw[e]at h5 hw
 have hvb:v<4294967296:=hw _ (List.mem_of_getElem? hv)
 have hd:=word_dvd (i:=i) hw (by rw[h5]; exact h3) hv
 obtain⟨k1,_⟩:=ldiv_step h1 h2 h3
 obtain⟨a1,a2,a3⟩:=k1 (by rw[← hy]; exact hle)
 refine⟨bit_room hvb (Nat.mod_lt _ (by omega)) hd,by rw[hy]; exact a1,by rw[hy]; exact a2,a3,fun hi=>?_,by rw[e,set_bit hv,h5],by rw[List.length_set]; exact h6,by omega,by omega⟩
 obtain⟨k,rfl⟩:∃k,i=k+1:=⟨i-1,by omega⟩
 rw[hy,half_pow,Nat.add_sub_cancel]
theorem QInv.no {m n N i x y Q:Nat} {qs:List Nat} (h:QInv m n N (i+1) x y Q qs) (hlt:x<y):QInv m n N i x (y/2) Q qs:=by
 obtain⟨h1,h2,h3,h4,h5,h6,h7,h8⟩:=h
 have hy:=h4 (by omega)
 rw[Nat.add_sub_cancel]at hy
 refine⟨h1,by omega,Nat.dvd_trans (Nat.pow_dvd_pow 2 (by omega)) h3,fun hi=>?_,h5,h6,h7,by omega⟩
 obtain⟨k,rfl⟩:∃k,i=k+1:=⟨i-1,by omega⟩
 rw[hy,half_pow,Nat.add_sub_cancel]
theorem QInv.start {m n N:Nat} (hn:0<n) (hN:Xu m-Xu n=N):QInv m n N (N+1) m (n*2^N) 0 (List.replicate (N/32+1) 0):=by
 refine⟨by omega,?_,Nat.dvd_zero _,fun _=>rfl,U5 _ _,by simp,Nat.le_refl _,Nat.le_refl _⟩
 rw[← hN]; exact nbits_start hn
theorem QInv.fin {m n N x y Q:Nat} {qs:List Nat} (h:QInv m n N 0 x y Q qs):Q=m/n∧x=m%n:=by
 obtain⟨h1,h2,_⟩:=h
 rw[Nat.pow_zero,Nat.mul_one]at h2
 obtain⟨e1,e2⟩:=Qd0 h1 h2
 exact⟨e1.symm,e2.symm⟩

set_option maxHeartbeats 4000000 in
theorem quot_long (w:World) (v1 v2:Value) (m n N:Nat) (h1:Num .u32 Qd w v1 m) (h2:Num .u32 Qd w v2 n) (hl:(digs Qd n).length≠1) (h0:0<n) {j:Nat} (hj:Bd j m) (hk:Bd j n) (hj1:j≤10000000) (hN:Xu m=Xu n+N):
  Calls Tryz.prog 118 #[v1,v2] w (RetQuot w (m/n) (m%n)):=by
 have hc1:=Qf9 w v1 m h1 hj (by omega)
 have hc2:=Qf9 w v2 n h2 hk (by omega)
 have hbm:=Qex hj
 have hbn:=Qex hk
 have hbn0:=Qbz h0
 have hm0:0<m:=by
  rcases Nat.eq_zero_or_pos m with rfl|h
  ·rw[Qcn]at hN; omega
  ·exact h
 have HQ:=bx (QInv.start (m:=m) (N:=N) h0 (by omega))
 have HM:=bx h1
 have HN:=bx h2
 have HJ:=bx (And.intro hj hk)
 have HY:Bx (Bd (2*j+1) (n*2^N)):=bx (by
  have:=hk.mul (Bd.pow2 (K:=N) (k:=j+1) (by omega))
  exact this.mono (by omega))
 have H0:=bx (And.intro hm0 h0)
 obtain⟨B,d,rfl,hb⟩:=h2
 have hlen:=hb.len
 have hl1:(((digs Qd n).length:Int)==1)=false:=beq_eq_false_iff_ne.2 (by omega)
 generalize (digs Qd n).length=L at *
 have hNi:(Xu m:Int)-(Xu n:Int)=(N:Int):=by omega
 have hN1:(N:Int)≤10000000:=by omega
 have hbm1:(Xu m:Int)≤100000000:=by omega
 have hbn1:(Xu n:Int)≤100000000:=by omega
 have HC1:=bx hc1
 have HC2:=bx hc2
 have HNI:=bx hNi
 clear hc1 hc2 hj hk hb hbm hbn hN hNi h1 hm0 h0 hbn0 hl
 generalize Xu m=bm at *
 generalize Xu n=bn at *
 go_enter Tryz.func118,Tryz.ntmps118
 go_upto_region 4 with(fail)
 go_cut [8] (fun v8 w'=>w'=w∧v8=.int .i64 (N:Int))
 case first=>
  go_wp2_with fail
  refine Calls.mono HC1.out ?_
  rintro e w' ⟨rfl,rfl⟩
  go_wp2_with fail
  refine Calls.mono HC2.out ?_
  rintro e w' ⟨rfl,rfl⟩
  go_wp2
  go_meet
  case rel=>exact⟨rfl,by rw[HNI.out]⟩
 case rest=>
  obtain⟨rfl,rfl⟩:=hcut
  clear HC1 HC2 HNI hbm1 hbn1
  have hm32:N/32+1≤10000001:=by omega
  go_wp2_with (at_make; refine Jm _ rfl _ _ _ rfl .u32 147 Tryz.underlying40 Qcj ((N/32+1:Nat):Int) ((N/32+1:Nat):Int) rfl rfl (by omega) (by omega) (by omega) ?_; intro w1 hrow hbel hsz)
  rw[Int.toNat_natCast]at hrow
  refine Calls.mono (shifted_numG w1 _ n N (HN.out.below hbel) H0.out.2 HJ.out.2 (by omega) (by omega)) ?_
  rintro e w2 ⟨gd,Ld,cd,hgd,rfl,hd,hb2⟩
  have hrow:=hrow.keep hb2
  have hdN:=NumN.new (g:=wc.heap.size) hd (by omega)
  have hxN:=NumN.old HM.out H0.out.1 (hbel.trans (hb2.mono hbel.size))
  have hbl0:=hbel.trans (hb2.mono hbel.size)
  clear hd hb2 hgd hbel hsz HM HN
  go_wp2_with fail
  go_loopw [0,10,11] (fun s0 s10 s11 wr=>∃(i x y Q:Nat) (qs:List Nat),i≤N+1∧s11=.int .i64 ((i:Int)-1)∧NumN wc.heap.size wr s0 x∧NumN wc.heap.size wr s10 y∧Bx (QInv m n N i x y Q qs)∧Wf Qd qs∧Row wr .u32 147 wc.heap.size qs∧Below wc.heap.size wc wr)
   (fun _ _ s11 _=>(intOf s11+1).toNat)
  case atStart=>exact⟨N+1,m,n*2^N,0,_,Nat.le_refl _,by go_num,hxN,hdN,HQ,Wf.replicate (by unfold Qd; omega) _,hrow,hbl0⟩
  case round=>
   clear hrow hxN hdN hbl0
   obtain⟨i,x,y,Q,qs,hi,rfl,hx,hy,HI,hwq,hr,hbl⟩:=hrel
   rcases Nat.eq_zero_or_pos i with rfl|hpos
   ·rw[show(((0:Nat):Int)-1) = -1 by omega]
    have HF:=bx (QInv.fin HI.out)
    have hrd:=hr.rd_all (c:=N/32+1) (by have:=HI.out.2.2.2.2.2.1; omega) (by unfold maxLen; omega)
    have HL:=bx HI.out.2.2.2.2.2.1
    have HV:=bx HI.out.2.2.2.2.1
    go_wp2_with fail
    refine(Qgm _ _ _ qs Q hrd hwq _ HL.out HV.out).mono ?_
    rintro e w' ⟨rfl,v,rfl,hv⟩
    go_wp2
    go_ret2
    rw[← HF.out.1,← HF.out.2]
    exact⟨_,_,rfl,hv,hx.1,hbl⟩
   ·obtain⟨k,rfl⟩:∃k,i=k+1:=⟨i-1,by omega⟩
    rw[show(((k+1:Nat):Int)-1)=(k:Int) by omega]
    have hk0:(0:Int)≤(k:Int):=by omega
    have hk1:(k:Int)≤10000000:=by omega
    have HXB:=bx (show Bd j x from HJ.out.1.le HI.out.2.2.2.2.2.2.1)
    have HYB:=bx (show Bd (2*j+1) y from HY.out.le HI.out.2.2.2.2.2.2.2)
    have hql:k/32<qs.length:=by have:=HI.out.2.2.2.2.2.1; omega
    rcases Nat.lt_or_ge x y with hxy|hxy
    ·obtain⟨zc,hzc,hz0⟩:=cmpI_lt' hxy
     have HZ:=bx hzc
     have HI2:=bx (HI.out.no hxy)
     clear hzc hxy HI hql
     go_wp2_with fail
     have hc:=Vv wr _ _ x y hx.1 hy.1
     rw[HZ.out]at hc
     refine Calls.mono hc ?_
     clear hc
     rintro e w3 ⟨rfl,hb3⟩
     have hx:=hx.below hb3
     have hy:=hy.below hb3
     have hr:=hr.keep hb3
     have hbl:=hbl.trans (hb3.mono hbl.size)
     clear hb3
     go_wp2_with fail
     refine Calls.mono (Qih w3 _ y hy.1 HYB.out (by omega)) ?_
     rintro e w4 ⟨g4,L4,c4,hg4,rfl,h4,hb4⟩
     have hlt4:wc.heap.size<g4:=by have:=hr.lt; omega
     go_wp2
     go_roundw
     case rel=>exact⟨k,x,y/2,Q,qs,by omega,by go_num,hx.below hb4,NumN.new h4 hlt4,HI2,hwq,hr.keep hb4,hbl.trans (hb4.mono hbl.size)⟩
     case measure=>simp[intOf]
    ·obtain⟨zc,hzc,hz0⟩:=cmpI_ge hxy
     have HZ:=bx hzc
     have HGE:=bx hxy
     clear hzc hxy
     go_wp2_with fail
     have hc:=Vv wr _ _ x y hx.1 hy.1
     rw[HZ.out]at hc
     refine Calls.mono hc ?_
     clear hc
     rintro e w3 ⟨rfl,hb3⟩
     have hx:=hx.below hb3
     have hy:=hy.below hb3
     have hr:=hr.keep hb3
     have hbl:=hbl.trans (hb3.mono hbl.size)
     clear hb3
     go_wp2_with fail
     refine Calls.mono (Qfi w3 _ _ x y hx.1 hy.1 HGE.out HXB.out (by omega)) ?_
     rintro e w4 ⟨g4,L4,c4,hg4,rfl,h4,hb4⟩
     have hlt4:wc.heap.size<g4:=by have:=hr.lt; omega
     have hx:=NumN.new h4 hlt4
     have hy:=hy.below hb4
     have hr:=hr.keep hb4
     have hbl:=hbl.trans (hb4.mono hbl.size)
     clear hb4 h4 hg4 hlt4
     obtain⟨vq,hcq,HVQ⟩:=hr.get (i:=k/32) hql
     have hcf:=hr.frozen (k/32)
     obtain⟨hroom,hi2⟩:=HI.out.yes hwq HVQ.out HGE.out
     have HI2:=bx hi2
     have HB:=bx (bit_eq hroom)
     have HR:=bx hroom
     clear hi2 hroom
     go_wp2_with fail
     rw[HB.out]
     have hx:=hx.set (k/32) (.int .u32 ((vq+2^(k%32):Nat):Int))
     have hy:=hy.set (k/32) (.int .u32 ((vq+2^(k%32):Nat):Int))
     have hr:=hr.set (k/32) (vq+2^(k%32))
     have hbl:=hbl.setCell (p:=⟨wc.heap.size,k/32,none⟩) (Nat.le_refl _) (.int .u32 ((vq+2^(k%32):Nat):Int))
     have hwq:=hwq.set (i:=k/32) (x:=vq+2^(k%32)) (by have:=HR.out; unfold Qd; omega)
     clear hcq hcf
     generalize w4.setCell ⟨wc.heap.size,k/32,none⟩ (.int .u32 ((vq+2^(k%32):Nat):Int))=w5 at *
     refine Calls.mono (Qih w5 _ y hy.1 HYB.out (by omega)) ?_
     rintro e w6 ⟨g6,L6,c6,hg6,rfl,h6,hb6⟩
     have hlt6:wc.heap.size<g6:=by have:=hr.lt; omega
     go_wp2
     go_roundw
     case rel=>exact⟨k,x-y,y/2,_,_,by omega,by go_num,hx.below hb6,NumN.new h6 hlt6,HI2,hwq,hr.keep hb6,hbl.trans (hb6.mono hbl.size)⟩
     case measure=>simp[intOf]
theorem Qe3 (w:World) (v1 v2:Value) (m n:Nat) (h1:Num .u32 Qd w v1 m) (h2:Num .u32 Qd w v2 n) (h0:0<n) {j:Nat} (hj:Bd j m) (hk:Bd j n) (hj1:j≤10000000):
  Calls Tryz.prog 118 #[v1,v2] w (RetQuot w (m/n) (m%n)):=by
 by_cases hl:(digs Qd n).length=1
 ·exact quot_one w v1 v2 m n h1 h2 hl hj (by omega)
 ·rcases Nat.lt_or_ge (Xu m) (Xu n)with h|h
  ·exact quot_less w v1 v2 m n h1 h2 hl hj hk (by omega) h
  ·exact quot_long w v1 v2 m n (Xu m-Xu n) h1 h2 hl h0 hj hk hj1 (by omega)
end Wx

namespace Wx
open Go Go.RowKit Go.Proofs

theorem Num.inj32 {w:World} {v:Value} {m n:Nat} {k:IntKind} (h:Num k Qd w v m) (g:Num k Qd w v n):m=n:=by
 obtain⟨A,c,rfl,hr⟩:=h
 obtain⟨A',c',e,gr⟩:=g
 injection e with e1 e2 e3
 subst e1
 exact digs_inj Qz (hr.inj gr e2)
open Classical in
noncomputable def numOf32 (w:World) (v:Value):Nat:=if h:∃n,Num .u32 Qd w v n then choose h else 0
theorem Num.of_eq32 {w:World} {v:Value} {n:Nat} (h:Num .u32 Qd w v n):numOf32 w v=n:=by
 have hx:∃n,Num .u32 Qd w v n:=⟨n,h⟩
 unfold numOf32
 rw[dif_pos hx]
 exact(Classical.choose_spec hx).inj32 h

set_option maxHeartbeats 1000000 in
theorem Qid (w:World) (v1 v2:Value) (m n:Nat) (h1:Num .u32 Qd w v1 m) (h2:Num .u32 Qd w v2 n) {j:Nat} (hj:Bd j m) (hk:Bd j n) (hj1:j≤10000000):
  Calls Tryz.prog 117 #[v1,v2] w (J6 .u32 Qd w (Nat.gcd m n)):=by
 have HX:=bx (And.intro hj hk)
 clear hj hk
 obtain⟨G,hG⟩:∃G,G=Nat.gcd m n:=⟨_,rfl⟩
 rw[← hG]
 have HG:=bx hG
 clear hG
 go_enter Tryz.func117,Tryz.ntmps117
 go_wp2_with fail
 go_loopw [0,1] (fun s0 s1 wr=>∃x y:Nat,Num .u32 Qd wr s0 x∧Num .u32 Qd wr s1 y∧Bx (G=Nat.gcd x y)∧Bx (Bd j x∧Bd j y)∧Below w.heap.size w wr) (fun _ s1 wr=>numOf32 wr s1)
 case atStart=>exact⟨_,_,h1,h2,HG,HX,Below.refl _ _⟩
 case round=>
  clear h1 h2 HG HX
  obtain⟨x,y,hx,hy,HG,HX,hb⟩:=hrel
  rcases Nat.eq_zero_or_pos y with rfl|hy0
  ·obtain⟨A,c,rfl,hr⟩:=id hy
   rw[Yo]at hr ⊢
   go_wp2
   go_ret
   exact⟨_,rfl,by rw[HG.out,Nat.gcd_zero_right]; exact hx,hb⟩
  ·obtain⟨B,d,rfl,hs⟩:=id hy
   have hl1:(0:Int)<((digs Qd y).length:Int):=by have:=(Xh (n:=y) Qz).2 hy0; omega
   have HY0:=bx hy0
   have hlen:=hs.len
   generalize (digs Qd y).length=L at *
   clear hy0 hs
   go_wp2_with fail
   refine(Qe3 wr _ _ x y hx hy HY0.out HX.out.1 HX.out.2 hj1).mono ?_
   rintro e w2 ⟨vq,vr,rfl,hq,hr,hb2⟩
   go_wp2
   go_roundw
   case rel=>
    exact⟨y,x%y,hy.below hb2,hr,bx (by rw[HG.out,Nat.gcd_comm x y,Nat.gcd_rec y x,Nat.gcd_comm]),bx ⟨HX.out.2,HX.out.1.le (Nat.mod_le _ _)⟩,hb.trans (hb2.mono hb.size)⟩
   case measure=>
    rw[Num.of_eq32 hy,Num.of_eq32 hr]
    exact Nat.mod_lt _ HY0.out
end Wx

namespace Wx
open Go Go.RowKit Go.Proofs

theorem ObjA.put {w:World} {g:Nat} {cs:List Value} {e:TypeId} (h:ObjA w g cs e) (hc:∀v∈cs,Km v) (vs:List Value) (hl:vs.length=cs.length) (hv:∀v∈vs,Km v):
  ∃w',setAll w g 0 vs=w'∧ObjA w' g vs e∧(∀g' cs' e',g'≠g→ObjA w g' cs' e'→ObjA w' g' cs' e')∧(∀(kd:IntKind) (b:Nat) (v:Value) (m:Nat),Num kd b w v m→Num kd b w' v m)∧(∀w0:World,w0.heap.size≤g→Below w0.heap.size w0 w→Below w0.heap.size w0 w')∧w'.heap.size=w.heap.size:=by
 refine⟨_,rfl,?_,?_,setAll_num vs 0 h hc hv,?_,?_⟩
 ·have:=setAll_obj vs 0 h (by omega)
  simpa using this
 ·intro g' cs' e' hne ho
  have key:∀(vs:List Value) (k:Nat) (w:World),ObjA w g' cs' e'→ObjA (setAll w g k vs) g' cs' e':=by
   intro vs
   induction vs with
   |nil=>intro k w h; exact h
   |cons v vs ih=>intro k w h; exact ih (k+1) _ (h.far hne _ _)
  exact key vs 0 w ho
 ·intro w0 hg hb
  have key:∀(vs:List Value) (k:Nat) (w:World),Below w0.heap.size w0 w→Below w0.heap.size w0 (setAll w g k vs):=by
   intro vs
   induction vs with
   |nil=>intro k w h; exact h
   |cons v vs ih=>intro k w h; exact ih (k+1) _ (h.setCell hg _)
  exact key vs 0 w hb
 ·have key:∀(vs:List Value) (k:Nat) (w:World),(setAll w g k vs).heap.size=w.heap.size:=by
   intro vs
   induction vs with
   |nil=>intro k w; rfl
   |cons v vs ih=>intro k w; rw[setAll,ih]; simp[World.setCell]
  exact key vs 0 w
def HeldQ (w0:World) (ps:List (Nat×List Value×TypeId)) (w':World):Prop:=Below w0.heap.size w0 w'∧∀p∈ps,ObjA w' p.1 p.2.1 p.2.2
theorem HeldQ.call {w0:World} {ps:List (Nat×List Value×TypeId)} {w' w'':World} {p:Prop} (h:HeldQ w0 ps w'∧p) (hb:Below w'.heap.size w' w''):HeldQ w0 ps w'':=
 ⟨h.1.1.trans (hb.mono h.1.1.size),fun p hp=>(h.1.2 p hp).gone hb⟩
theorem HeldQ.drew {w0:World} {ps:List (Nat×List Value×TypeId)} {w':World} (h:HeldQ w0 ps w'):HeldQ w0 ps w'.drew:=⟨h.1.drew,h.2⟩
theorem HeldQ.at_ {w0:World} {ps:List (Nat×List Value×TypeId)} {w':World} (h:HeldQ w0 ps w') {p:Nat×List Value×TypeId} (hp:p∈ps):ObjA w' p.1 p.2.1 p.2.2:=h.2 p hp
end Wx

namespace Wx
open Go Go.RowKit Go.Proofs

theorem HeldQ.b {w0:World} {ps:List (Nat×List Value×TypeId)} {w:World} (h:HeldQ w0 ps w):Below w0.heap.size w0 w:=h.1
theorem Qak:∀v∈[Value.bool false,.slice none 0 0,.slice none 0 0],Km v:=Jf
end Wx

namespace Wx
set_option maxRecDepth 100000
open Go Go.RowKit Go.Proofs

def IsRef (w:World) (v:Value) (q:Rat):Prop:=∃vn vd,v=.agg #[.bool (decide (q.num<0)),vn,vd]∧Num .u32 Qd w vn q.num.natAbs∧Num .u32 Qd w vd q.den
def Qa3 (w:World) (q:Rat) (e:Ending) (w':World):Prop:=∃v,e=.returned v∧IsRef w' v q∧Below w.heap.size w w'
theorem IsRef.below {w w':World} {v:Value} {q:Rat} (h:IsRef w v q) (hb:Below w.heap.size w w'):IsRef w' v q:=by
 obtain⟨vn,vd,rfl,h1,h2⟩:=h
 exact⟨vn,vd,rfl,h1.below hb,h2.below hb⟩
theorem IsRef.into {w w':World} {v:Value} {q:Rat} (h:IsRef w v q) (hn:∀(kd:IntKind) (b:Nat) (v:Value) (m:Nat),Num kd b w v m→Num kd b w' v m):IsRef w' v q:=by
 obtain⟨vn,vd,rfl,h1,h2⟩:=h
 exact⟨vn,vd,rfl,hn _ _ _ _ h1,hn _ _ _ _ h2⟩
theorem IsRef.drew {w:World} {v:Value} {q:Rat} (h:IsRef w v q):IsRef w.drew v q:=by
 obtain⟨vn,vd,rfl,h1,h2⟩:=h
 exact⟨vn,vd,rfl,h1,h2⟩
theorem isRef_of {w:World} {v:Value} {p q:Rat} (h:IsRef w v p) (e:q=p):IsRef w v q:=e▸h

theorem Kt (w:World) (v:Value) (x:Rat) (hx:IsRef w v x):Calls Tryz.prog 89 #[v] w (J6 .u32 Qd w x.den):=by
 obtain⟨vx1,vx2,rfl,hxa,hxb⟩:=id hx
 obtain⟨Ax1,cx1,rfl,_⟩:=id hxa
 obtain⟨Ax2,cx2,rfl,_⟩:=id hxb
 have hl:(((digs Qd x.den).length:Int)==0)=false:=beq_eq_false_iff_ne.2 (by have:=(Xh (n:=x.den) Qz).2 x.den_pos; omega)
 have hxb0:=hxb
 generalize (digs Qd x.den).length=L2 at *
 go_enter Tryz.func89,Tryz.ntmps89
 go_wp2_with fail
 go_ret
 exact⟨_,rfl,hxb0.below (Below.alloc (Below.refl _ _) (Nat.le_refl _) _),Below.alloc (Below.refl _ _) (Nat.le_refl _) _⟩
theorem num_empty (w:World) (A:Option Addr) (c:Nat) (hc:c≤maxLen):Num .u32 Qd w (.slice A 0 c) 0:=by
 have:=Num.of (k:=.u32) (b:=Qd) (w:=w) (A:=A) (n:=0) (c:=c) Qz (l:=[]) ⟨Nat.zero_le _,hc,fun h=>absurd rfl h⟩ rfl (Wf.nil _) Top.nil
 simpa [Qh] using this

set_option maxHeartbeats 1000000 in
theorem made_zero (w:World) (neg:Bool) (v1 v2:Value) (h1:Num .u32 Qd w v1 0):Calls Tryz.prog 90 #[.bool neg,v1,v2] w (Qa3 w 0):=by
 obtain⟨A,c,rfl,hr⟩:=id h1
 rw[Yo]
 clear hr
 go_enter Tryz.func90,Tryz.ntmps90
 go_wp2_with fail
 obtain⟨w1,e1,oR,b1,s1⟩:=Jh w [.bool false,.slice none 0 0,.slice none 0 0] 42
 rw[e1]
 clear e1
 replace h1:=h1.below b1
 have B:=b1
 clear b1
 obtain⟨w2,e2,oE,b2,s2⟩:=Jh w1 [] 147
 rw[e2]
 rw[s1]at oE
 clear e2
 replace h1:=h1.below b2
 replace oR:=oR.gone b2
 replace B:=B.trans (b2.mono B.size)
 clear b2
 clear oE h1
 refine Calls.mono (Vi _ 1 (by unfold Qa; omega)) ?_
 rintro e w3 ⟨v3,rfl,h3,b3⟩
 replace oR:=oR.gone b3
 replace B:=B.trans (b3.mono B.size)
 clear b3
 obtain⟨A3,c3,rfl,_⟩:=id h3
 have k1:=oR.cell (i:=0) rfl
 have k2:=oR.fz 0
 have k3:=oR.cell (i:=1) rfl
 have k4:=oR.fz 1
 have k5:=oR.cell (i:=2) rfl
 have k6:=oR.fz 2
 go_wp2
 obtain⟨wf,HW,ho,_,hN,hBf,_⟩:=oR.put Qak [.bool false,.slice (some ⟨w.heap.size+1,0,none⟩) 0 0,.slice A3 (digs Qd 1).length c3] rfl Jf
 simp only[setAll,Nat.reduceAdd]at HW
 (try rw[HW])
 (try simp only[Exit.inBlock,Exit.then])
 have f0:=ho.cell (i:=0) rfl
 have f1:=ho.cell (i:=1) rfl
 have f2:=ho.cell (i:=2) rfl
 refine bodyPost_ret (by simp[results,Tryz.results90,go_sem,f0,f1,f2]; try rfl) rfl ?_
 have HB:=hBf _ (by omega) B
 exact⟨_,rfl,⟨_,_,rfl,hN _ _ _ _ (num_empty _ _ _ (Nat.zero_le _)),hN _ _ _ _ h3⟩,HB⟩
set_option maxHeartbeats 1000000 in
theorem made_one (w:World) (neg:Bool) (v1 v2:Value) (n d:Nat) (h1:Num .u32 Qd w v1 n) (h2:Num .u32 Qd w v2 d) (hn:0<n) (hd:0<d) {j:Nat} (hj:Bd j n) (hk:Bd j d) (hj1:j≤10000000) (h1g:n.gcd d=1):Calls Tryz.prog 90 #[.bool neg,v1,v2] w (Qa3 w (Yf neg n d)):=by
 obtain⟨A1,c1,rfl,hr1⟩:=id h1
 obtain⟨A2,c2,rfl,hr2⟩:=id h2
 have hl:(((digs Qd n).length:Int)==0)=false:=beq_eq_false_iff_ne.2 (by have:=(Xh (n:=n) Qz).2 hn; omega)
 have hlen:=hr1.len
 obtain⟨g,hg⟩:∃g,g=n.gcd d:=⟨_,rfl⟩
 obtain⟨q,hq⟩:∃q,q=Yf neg n d:=⟨_,rfl⟩
 have hg0:0<g:=by rw[hg]; exact Nat.gcd_pos_of_pos_left _ hn
 have q1:=Qdg (neg:=neg) (n:=n) hd
 have q2:=Qgs (neg:=neg) (n:=n) hd
 have q3:=redR_neg (neg:=neg) hd hn
 rw[← hq,← hg]at q1 q2
 rw[← hq]at q3
 rw[← hq]
 have HQ:=bx (And.intro q1 (And.intro q2 q3))
 have HJ:=bx (And.intro hj hk)
 have HG:=bx hg
 have HG0:=bx hg0
 have HC:∀w v,Calls Tryz.prog 117 #[.slice A1 (digs Qd n).length c1,.slice A2 (digs Qd d).length c2] w v→True:=fun _ _ _=>trivial
 clear HC q1 q2 q3 hq hg hn hr1 hr2 hg0
 have hc:X0 g 1=0:=by rw[HG.out,h1g]; rfl
 have HC:=bx hc
 have H1:=bx h1g
 clear hc h1g hj hk
 go_enter Tryz.func90,Tryz.ntmps90
 go_wp2_with fail
 obtain⟨w1,e1,oR,b1,s1⟩:=Jh w [.bool false,.slice none 0 0,.slice none 0 0] 42
 rw[e1]
 clear e1
 replace h1:=h1.below b1
 replace h2:=h2.below b1
 have B:=b1
 clear b1
 refine Calls.mono (Qid _ _ _ n d h1 h2 HJ.out.1 HJ.out.2 hj1) ?_
 rintro e w2 ⟨vg,rfl,hg,b2⟩
 replace h1:=h1.below b2
 replace h2:=h2.below b2
 replace oR:=oR.gone b2
 replace B:=B.trans (b2.mono B.size)
 clear b2
 rw[← HG.out]at hg
 go_wp2_with fail
 refine Calls.mono (Vi _ 1 (by unfold Qa; omega)) ?_
 rintro e w3 ⟨vo,rfl,ho,b3⟩
 replace h1:=h1.below b3
 replace h2:=h2.below b3
 replace oR:=oR.gone b3
 replace hg:=hg.below b3
 replace B:=B.trans (b3.mono B.size)
 clear b3
 go_wp2_with fail
 have hc:=Vv _ _ _ g 1 hg ho
 rw[HC.out]at hc
 refine Calls.mono (hc) ?_
 rintro e w4 ⟨rfl,b4⟩
 replace h1:=h1.below b4
 replace h2:=h2.below b4
 replace oR:=oR.gone b4
 replace hg:=hg.below b4
 replace ho:=ho.below b4
 replace B:=B.trans (b4.mono B.size)
 clear b4
 clear hc ho
 rw[HG.out,H1.out,Nat.div_one,Nat.div_one]at HQ
 have k1:=oR.cell (i:=0) rfl
 have k2:=oR.fz 0
 have k3:=oR.cell (i:=1) rfl
 have k4:=oR.fz 1
 have k5:=oR.cell (i:=2) rfl
 have k6:=oR.fz 2
 go_wp2
 obtain⟨wf,HW,ho,_,hN,hBf,_⟩:=oR.put Qak [.bool neg,.slice A1 (digs Qd n).length c1,.slice A2 (digs Qd d).length c2] rfl Jf
 simp only[setAll,Nat.reduceAdd]at HW
 (try rw[HW])
 (try simp only[Exit.inBlock,Exit.then])
 have f0:=ho.cell (i:=0) rfl
 have f1:=ho.cell (i:=1) rfl
 have f2:=ho.cell (i:=2) rfl
 refine bodyPost_ret (by simp[results,Tryz.results90,go_sem,f0,f1,f2]; try rfl) rfl ?_
 have HB:=hBf _ (by omega) B
 exact⟨_,rfl,⟨_,_,by rw[HQ.out.2.2],by rw[HQ.out.1]; exact hN _ _ _ _ h1,by rw[HQ.out.2.1]; exact hN _ _ _ _ h2⟩,HB⟩
set_option maxHeartbeats 1000000 in
theorem made_more (w:World) (neg:Bool) (v1 v2:Value) (n d:Nat) (h1:Num .u32 Qd w v1 n) (h2:Num .u32 Qd w v2 d) (hn:0<n) (hd:0<d) {j:Nat} (hj:Bd j n) (hk:Bd j d) (hj1:j≤10000000) (h1g:n.gcd d≠1):Calls Tryz.prog 90 #[.bool neg,v1,v2] w (Qa3 w (Yf neg n d)):=by
 obtain⟨A1,c1,rfl,hr1⟩:=id h1
 obtain⟨A2,c2,rfl,hr2⟩:=id h2
 have hl:(((digs Qd n).length:Int)==0)=false:=beq_eq_false_iff_ne.2 (by have:=(Xh (n:=n) Qz).2 hn; omega)
 have hlen:=hr1.len
 obtain⟨g,hg⟩:∃g,g=n.gcd d:=⟨_,rfl⟩
 obtain⟨q,hq⟩:∃q,q=Yf neg n d:=⟨_,rfl⟩
 have hg0:0<g:=by rw[hg]; exact Nat.gcd_pos_of_pos_left _ hn
 have q1:=Qdg (neg:=neg) (n:=n) hd
 have q2:=Qgs (neg:=neg) (n:=n) hd
 have q3:=redR_neg (neg:=neg) hd hn
 rw[← hq,← hg]at q1 q2
 rw[← hq]at q3
 rw[← hq]
 have HQ:=bx (And.intro q1 (And.intro q2 q3))
 have HJ:=bx (And.intro hj hk)
 have HG:=bx hg
 have HG0:=bx hg0
 have HC:∀w v,Calls Tryz.prog 117 #[.slice A1 (digs Qd n).length c1,.slice A2 (digs Qd d).length c2] w v→True:=fun _ _ _=>trivial
 clear HC q1 q2 q3 hq hg hn hr1 hr2 hg0
 have hc:X0 g 1=1:=by unfold X0; have:=HG0.out; have:=HG.out; rw[if_neg (by omega),if_pos (by omega)]
 have HC:=bx hc
 have H1:=bx h1g
 clear hc h1g hj hk
 go_enter Tryz.func90,Tryz.ntmps90
 go_wp2_with fail
 obtain⟨w1,e1,oR,b1,s1⟩:=Jh w [.bool false,.slice none 0 0,.slice none 0 0] 42
 rw[e1]
 clear e1
 replace h1:=h1.below b1
 replace h2:=h2.below b1
 have B:=b1
 clear b1
 refine Calls.mono (Qid _ _ _ n d h1 h2 HJ.out.1 HJ.out.2 hj1) ?_
 rintro e w2 ⟨vg,rfl,hg,b2⟩
 replace h1:=h1.below b2
 replace h2:=h2.below b2
 replace oR:=oR.gone b2
 replace B:=B.trans (b2.mono B.size)
 clear b2
 rw[← HG.out]at hg
 go_wp2_with fail
 refine Calls.mono (Vi _ 1 (by unfold Qa; omega)) ?_
 rintro e w3 ⟨vo,rfl,ho,b3⟩
 replace h1:=h1.below b3
 replace h2:=h2.below b3
 replace oR:=oR.gone b3
 replace hg:=hg.below b3
 replace B:=B.trans (b3.mono B.size)
 clear b3
 go_wp2_with fail
 have hc:=Vv _ _ _ g 1 hg ho
 rw[HC.out]at hc
 refine Calls.mono (hc) ?_
 rintro e w4 ⟨rfl,b4⟩
 replace h1:=h1.below b4
 replace h2:=h2.below b4
 replace oR:=oR.gone b4
 replace hg:=hg.below b4
 replace ho:=ho.below b4
 replace B:=B.trans (b4.mono B.size)
 clear b4
 clear hc ho
 go_wp2_with fail
 refine Calls.mono (Qe3 _ _ _ n g h1 hg HG0.out HJ.out.1 (HG.out▸HJ.out.2.le (Nat.gcd_le_right _ hd)) hj1) ?_
 rintro e w5 ⟨vq,vr,rfl,hq,_,b5⟩
 replace h1:=h1.below b5
 replace h2:=h2.below b5
 replace oR:=oR.gone b5
 replace hg:=hg.below b5
 replace B:=B.trans (b5.mono B.size)
 clear b5
 go_wp2_with fail
 refine Calls.mono (Qe3 _ _ _ d g h2 hg HG0.out HJ.out.2 (HG.out▸HJ.out.2.le (Nat.gcd_le_right _ hd)) hj1) ?_
 rintro e w6 ⟨vp,vs,rfl,hp,_,b6⟩
 replace h1:=h1.below b6
 replace h2:=h2.below b6
 replace oR:=oR.gone b6
 replace hg:=hg.below b6
 replace hq:=hq.below b6
 replace B:=B.trans (b6.mono B.size)
 clear b6
 obtain⟨A3,c3,rfl,_⟩:=id hq
 obtain⟨A4,c4,rfl,_⟩:=id hp
 have k1:=oR.cell (i:=0) rfl
 have k2:=oR.fz 0
 have k3:=oR.cell (i:=1) rfl
 have k4:=oR.fz 1
 have k5:=oR.cell (i:=2) rfl
 have k6:=oR.fz 2
 go_wp2
 obtain⟨wf,HW,ho,_,hN,hBf,_⟩:=oR.put Qak [.bool neg,.slice A3 (digs Qd (n/g)).length c3,.slice A4 (digs Qd (d/g)).length c4] rfl Jf
 simp only[setAll,Nat.reduceAdd]at HW
 (try rw[HW])
 (try simp only[Exit.inBlock,Exit.then])
 have f0:=ho.cell (i:=0) rfl
 have f1:=ho.cell (i:=1) rfl
 have f2:=ho.cell (i:=2) rfl
 refine bodyPost_ret (by simp[results,Tryz.results90,go_sem,f0,f1,f2]; try rfl) rfl ?_
 have HB:=hBf _ (by omega) B
 exact⟨_,rfl,⟨_,_,by rw[HQ.out.2.2],by rw[HQ.out.1]; exact hN _ _ _ _ hq,by rw[HQ.out.2.1]; exact hN _ _ _ _ hp⟩,HB⟩
theorem Qeu (w:World) (neg:Bool) (v1 v2:Value) (n d:Nat) (h1:Num .u32 Qd w v1 n) (h2:Num .u32 Qd w v2 d) (hd:0<d) {j:Nat} (hj:Bd j n) (hk:Bd j d) (hj1:j≤10000000):Calls Tryz.prog 90 #[.bool neg,v1,v2] w (Qa3 w (Yf neg n d)):=by
 rcases Nat.eq_zero_or_pos n with rfl|hn
 ·rw[redR_zero]; exact made_zero w neg v1 v2 h1
 ·by_cases h:n.gcd d=1
  ·exact made_one w neg v1 v2 n d h1 h2 hn hd hj hk hj1 h
  ·exact made_more w neg v1 v2 n d h1 h2 hn hd hj hk hj1 h
end Wx
