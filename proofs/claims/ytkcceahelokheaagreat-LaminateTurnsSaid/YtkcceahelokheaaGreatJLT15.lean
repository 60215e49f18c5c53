import Derived.Test.YtkcceahelokheaaGreatJLT14
import Derived.Test.YtkcceahelokheaaGreatJLT11
import Derived.Deep.AppendSrc
import Derived.Deep.Upon
namespace Wx
set_option maxRecDepth 100000
set_option maxHeartbeats 1000000
open Go Go.RowKit Go.Proofs
def xV (w:World) (q r:Nat) (e:Ending) (w':World):Prop:=∃v u,e=.returned (.tuple #[v,u])/\bQ .u32 aP w' v q/\bQ .u32 aP w' u r/\Below w.heap.size w w'
variable {n:Nat}
theorem Hh (h:(af aP n).length=1):af aP n=[n]/\0<n/\n<aP:=by
 have h0:0<n:=(aQ aI).1 (by omega)
 have h1:=nB aI n
 rw[h,Nat.pow_one]at h1
 exact⟨tc aI h0 h1,h0,h1⟩
theorem P9 (w:World) (v1 v2:Value) (m n:Nat) (h1:bQ .u32 aP w v1 m) (h2:bQ .u32 aP w v2 n) (hl:(af aP n).length=1) {j:Nat} (hj:Bd j m) (fA:j<=100000000):
  Calls Tryz.prog 181 #[v1,v2] w (xV w (m/n) (m%n)):=by
 obtain⟨hd,Fh,Ei⟩:=Hh hl
 obtain⟨B,d,rfl,hb⟩:=h2
 rw[hd]at hb ⊢
 obtain⟨g,o,x,rfl,hc,HX⟩:=hb.get (i:=0) (by simp)
 obtain rfl:n=x:=by have:=HX.out; simpa using this
 rw[Nat.add_zero]at hc
 have HJ:=bx hj
 have HN:=bx (And.intro Fh Ei)
 have uy:=iR Ei
 have AB:[n].length=1:=rfl
 rw[AB]
 clear hd hl HX hb hj Ei AB
 go_enter Tryz.func181,Tryz.ntmps181
 go_wp2_with fail
 refine Calls.mono (EB w v1 m n h1 HJ.out (by omega) HN.out.1 HN.out.2) ?_
 rintro e w2 ⟨vq,rfl,hq,hb2⟩
 have Y8:m%n<b64:=by have h1:=Nat.mod_lt m HN.out.1; have h2:=HN.out.2; unfold aP at h2; unfold b64; omega
 have hr32:((m%n:Nat):Int)<=4294967295:=by have h1:=Nat.mod_lt m HN.out.1; have h2:=HN.out.2; unfold aP at h2; omega
 have HR:=bx Y8
 clear Y8
 generalize m%n=r at *
 go_wp2_with fail
 refine Calls.mono (nC w2 r HR.out) ?_
 rintro e w3 ⟨vr,rfl,hr,hb3⟩
 go_wp2
 go_ret2
 exact⟨_,_,rfl,hq.below hb3,hr,hb2.trans (hb3.mono hb2.size)⟩
theorem MH (w:World) (v1 v2:Value) (m n:Nat) (h1:bQ .u32 aP w v1 m) (h2:bQ .u32 aP w v2 n) (hl:(af aP n).length≠1) {j:Nat} (hj:Bd j m) (hk:Bd j n) (fA:j<=100000000) (hlt:bB m<bB n):
  Calls Tryz.prog 181 #[v1,v2] w (xV w (m/n) (m%n)):=by
 have hmn:=Fz hlt
 rw[Nat.div_eq_of_lt hmn,Nat.mod_eq_of_lt hmn]
 have uw:=ue w v1 m h1 hj (by omega)
 have hc2:=ue w v2 n h2 hk (by omega)
 have hbm:=qV hj
 have hbn:=qV hk
 have HM:=bx h1
 obtain⟨B,d,rfl,hb⟩:=h2
 have hlen:=hb.len
 have AB:(((af aP n).length:Int)==1)=false:=beq_eq_false_iff_ne.2 (by omega)
 generalize (af aP n).length=L at *
 have RN:(bB m:Int)<(bB n:Int):=by omega
 have YG:(bB m:Int)<=100000000:=by omega
 have YH:(bB n:Int)<=100000000:=by omega
 have Z1:=bx uw
 have Z2:=bx hc2
 clear uw hc2 hj hk hb hmn hbm hbn hlt h1
 generalize bB m=bm at *
 generalize bB n=bn at *
 go_enter Tryz.func181,Tryz.ntmps181
 go_wp2_with fail
 refine Calls.mono Z1.out ?_
 rintro e w' ⟨rfl,rfl⟩
 go_wp2_with fail
 refine Calls.mono Z2.out ?_
 rintro e w' ⟨rfl,rfl⟩
 go_wp2
 go_ret2
 exact⟨_,_,rfl,bQ.of aI (l:=[]) ⟨Nat.le_refl _,Nat.zero_le _,λh=>absurd rfl h⟩ rfl (Wf.nil _) tR.nil,HM.out.below (Below.alloc (Below.refl _ _) (Nat.le_refl _) _),Below.alloc (Below.refl _ _) (Nat.le_refl _) _⟩
def qv (g:Nat) (w:World) (v:Value) (n:Nat):Prop:=bQ .u32 aP w v n/\∀a l c,v=.slice (some a) l c->a.block≠g
variable {g:Nat} {w w':World} {v:Value}
theorem qv.below (h:qv g w v n) (hb:Below w.heap.size w w'):qv g w' v n:=⟨h.1.below hb,h.2⟩
theorem qv.set (h:qv g w v n) (i:Nat) (u:Value):qv g (w.setCell ⟨g,i,none⟩ u) v n:=by
 obtain⟨⟨A,c,rfl,h1,h2,h3⟩,h4⟩:=h
 refine⟨⟨A,c,rfl,h1,h2,λhne=>?_⟩,h4⟩
 obtain⟨b,o,rfl,hc⟩:=h3 hne
 refine⟨b,o,rfl,λk hk=>?_⟩
 rw[World.cell?_of_block (Below.heap_setCell w ⟨g,i,none⟩ u b (h4 _ _ _ rfl))]
 exact hc k hk
theorem qv.new {h L c:Nat} (hn:bQ .u32 aP w (.slice (some ⟨h,0,none⟩) L c) n) (hg:g<h):qv g w (.slice (some ⟨h,0,none⟩) L c) n:=by
 refine⟨hn,λa l c e=>?_⟩
 injection e with e
 injection e with e
 subst e
 show h≠g
 omega
theorem qv.old (h:bQ .u32 aP w v n) (hn:0<n) (hb:Below w.heap.size w w'):qv w.heap.size w' v n:=by
 refine⟨h.below hb,λa l c e=>?_⟩
 obtain⟨A,c',rfl,hr⟩:=h
 obtain⟨b,o,e',hc⟩:=hr.at_ ((aQ aI).2 hn)
 have:=World.block_lt_of_cell? w _ hc
 rw[e']at e
 injection e with e
 injection e with e
 subst e
 have:b<w.heap.size:=this
 show b≠w.heap.size
 omega
variable {i:Nat}
theorem UJ {v:Nat} (h:v+2^(i%32)<4294967296):((v:Int)+(2:Int)^(i%32))%4294967296=((v+2^(i%32):Nat):Int):=by
 have e:((2:Int)^(i%32))=((2^(i%32):Nat):Int):=by simp
 rw[e]
 generalize 2^(i%32)=P at *
 omega
variable {m:Nat}
theorem Oh (h:m<n):∃z,bZ m n=z/\z<0:=⟨_,rfl,by unfold bZ; rw[if_pos h]; omega⟩
def vK (m n N i x y Q:Nat) (qs:List Nat):Prop:=
 m=Q*n+x/\x<n*2^i/\2^i ∣ Q/\(0<i->y=n*2^(i-1))/\val aP qs=Q/\qs.length=N/32+1/\x<=m/\y<=n*2^N
variable {N x y Q:Nat} {qs:List Nat}
theorem vK.yes {v:Nat} (h:vK m n N (i+1) x y Q qs) (hw:Wf aP qs) (hv:qs[i/32]?=some v) (hle:y<=x):
  v+2^(i%32)<4294967296/\vK m n N i (x-y) (y/2) (Q+2^i) (qs.set (i/32) (v+2^(i%32))):=by
 obtain⟨h1,h2,h3,h4,h5,h6,h7,h8⟩:=h
 have hy:=h4 (by omega)
 rw[Nat.add_sub_cancel]at hy
 have e:aP=4294967296:=rfl
 rw[e]at h5 hw
 have VI:v<4294967296:=hw _ (List.mem_of_getElem? hv)
 have hd:=QJ (i:=i) hw (by rw[h5]; exact h3) hv
 obtain⟨k1,_⟩:=Mh h1 h2 h3
 obtain⟨a1,a2,a3⟩:=k1 (by rw[<-hy]; exact hle)
 refine⟨N3 VI (Nat.mod_lt _ (by omega)) hd,by rw[hy]; exact a1,by rw[hy]; exact a2,a3,λhi=>?_,by rw[e,SY hv,h5],by rw[List.length_set]; exact h6,by omega,by omega⟩
 obtain⟨k,rfl⟩:∃k,i=k+1:=⟨i-1,by omega⟩
 rw[hy,Fc,Nat.add_sub_cancel]
theorem vK.no (h:vK m n N (i+1) x y Q qs) (hlt:x<y):vK m n N i x (y/2) Q qs:=by
 obtain⟨h1,h2,h3,h4,h5,h6,h7,h8⟩:=h
 have hy:=h4 (by omega)
 rw[Nat.add_sub_cancel]at hy
 refine⟨h1,by omega,Nat.dvd_trans (Nat.pow_dvd_pow 2 (by omega)) h3,λhi=>?_,h5,h6,h7,by omega⟩
 obtain⟨k,rfl⟩:∃k,i=k+1:=⟨i-1,by omega⟩
 rw[hy,Fc,Nat.add_sub_cancel]
theorem vK.start (hn:0<n) (hN:bB m-bB n=N):vK m n N (N+1) m (n*2^N) 0 (List.replicate (N/32+1) 0):=by
 refine⟨by omega,?_,Nat.dvd_zero _,λ_=>rfl,iK _ _,by simp,Nat.le_refl _,Nat.le_refl _⟩
 rw[<-hN]; exact FA hn
theorem vK.fin (h:vK m n N 0 x y Q qs):Q=m/n/\x=m%n:=by
 obtain⟨h1,h2,_⟩:=h
 rw[Nat.pow_zero,Nat.mul_one]at h2
 obtain⟨e1,e2⟩:=pD h1 h2
 exact⟨e1.symm,e2.symm⟩
set_option maxHeartbeats 4000000 in
theorem MI (w:World) (v1 v2:Value) (m n N:Nat) (h1:bQ .u32 aP w v1 m) (h2:bQ .u32 aP w v2 n) (hl:(af aP n).length≠1) (h0:0<n) {j:Nat} (hj:Bd j m) (hk:Bd j n) (fA:j<=10000000) (hN:bB m=bB n+N):
  Calls Tryz.prog 181 #[v1,v2] w (xV w (m/n) (m%n)):=by
 have uw:=ue w v1 m h1 hj (by omega)
 have hc2:=ue w v2 n h2 hk (by omega)
 have hbm:=qV hj
 have hbn:=qV hk
 have ab3:=mc h0
 have hm0:0<m:=by
  rcases Nat.eq_zero_or_pos m with rfl|h
  ·rw[mF]at hN; omega
  ·exact h
 have HQ:=bx (vK.start (m:=m) (N:=N) h0 (by omega))
 have HM:=bx h1
 have HN:=bx h2
 have HJ:=bx (And.intro hj hk)
 have HY:Bx (Bd (2*j+1) (n*2^N)):=bx (by
  have:=hk.mul (Bd.pow2 (K:=N) (k:=j+1) (by omega))
  exact this.mono (by omega))
 have H0:=bx (And.intro hm0 h0)
 obtain⟨B,d,rfl,hb⟩:=h2
 have hlen:=hb.len
 have AB:(((af aP n).length:Int)==1)=false:=beq_eq_false_iff_ne.2 (by omega)
 generalize (af aP n).length=L at *
 have hNi:(bB m:Int)-(bB n:Int)=(N:Int):=by omega
 have hN1:(N:Int)<=10000000:=by omega
 have YG:(bB m:Int)<=100000000:=by omega
 have YH:(bB n:Int)<=100000000:=by omega
 have Z1:=bx uw
 have Z2:=bx hc2
 have HNI:=bx hNi
 clear uw hc2 hj hk hb hbm hbn hN hNi h1 hm0 h0 ab3 hl
 generalize bB m=bm at *
 generalize bB n=bn at *
 go_enter Tryz.func181,Tryz.ntmps181
 go_upto_region 4 with(fail)
 go_cut [8] (λv8 w'=>w'=w/\v8=.int .i64 (N:Int))
 case first=>
  go_wp2_with fail
  refine Calls.mono Z1.out ?_
  rintro e w' ⟨rfl,rfl⟩
  go_wp2_with fail
  refine Calls.mono Z2.out ?_
  rintro e w' ⟨rfl,rfl⟩
  go_wp2
  go_meet
  case rel=>exact⟨rfl,by rw[HNI.out]⟩
 case rest=>
  obtain⟨rfl,rfl⟩:=hcut
  clear Z1 Z2 HNI YG YH
  have hm32:N/32+1<=10000001:=by omega
  go_wp2_with (at_make; refine en _ rfl _ _ _ rfl .u32 270 Tryz.underlying44 tr ((N/32+1:Nat):Int) ((N/32+1:Nat):Int) rfl rfl (by omega) (by omega) (by omega) ?_; intro w1 hrow dZ hsz)
  rw[Int.toNat_natCast]at hrow
  refine Calls.mono (DX w1 _ n N (HN.out.below dZ) H0.out.2 HJ.out.2 (by omega) (by omega)) ?_
  rintro e w2 ⟨gd,Ld,cd,hgd,rfl,hd,hb2⟩
  have hrow:=hrow.keep hb2
  have Vh:=qv.new (g:=wc.heap.size) hd (by omega)
  have hxN:=qv.old HM.out H0.out.1 (dZ.trans (hb2.mono dZ.size))
  have OS:=dZ.trans (hb2.mono dZ.size)
  clear hd hb2 hgd dZ hsz HM HN
  go_wp2_with fail
  go_loopw [0,10,11] (λs0 s10 s11 wr=>∃(i x y Q:Nat) (qs:List Nat),i<=N+1/\s11=.int .i64 ((i:Int)-1)/\qv wc.heap.size wr s0 x/\qv wc.heap.size wr s10 y/\Bx (vK m n N i x y Q qs)/\Wf aP qs/\Row wr .u32 270 wc.heap.size qs/\Below wc.heap.size wc wr)
   (λ_ _ s11 _=>(intOf s11+1).toNat)
  case atStart=>exact⟨N+1,m,n*2^N,0,_,Nat.le_refl _,by go_num,hxN,Vh,HQ,Wf.replicate (by unfold aP; omega) _,hrow,OS⟩
  case round=>
   clear hrow hxN Vh OS
   obtain⟨i,x,y,Q,qs,hi,rfl,hx,hy,HI,RS,hr,hbl⟩:=hrel
   rcases Nat.eq_zero_or_pos i with rfl|hpos
   ·rw[show(((0:Nat):Int)-1) = -1 by omega]
    have HF:=bx (vK.fin HI.out)
    have hrd:=hr.gL (c:=N/32+1) (by have:=HI.out.2.2.2.2.2.1; omega) (by unfold maxLen; omega)
    have HL:=bx HI.out.2.2.2.2.2.1
    have HV:=bx HI.out.2.2.2.2.1
    go_wp2_with fail
    refine(zJ _ _ _ qs Q hrd RS _ HL.out HV.out).mono ?_
    rintro e w' ⟨rfl,v,rfl,hv⟩
    go_wp2
    go_ret2
    rw[<-HF.out.1,<-HF.out.2]
    exact⟨_,_,rfl,hv,hx.1,hbl⟩
   ·obtain⟨k,rfl⟩:∃k,i=k+1:=⟨i-1,by omega⟩
    rw[show(((k+1:Nat):Int)-1)=(k:Int) by omega]
    have yj:(0:Int)<=(k:Int):=by omega
    have ot:(k:Int)<=10000000:=by omega
    have HXB:=bx (show Bd j x from HJ.out.1.le HI.out.2.2.2.2.2.2.1)
    have HYB:=bx (show Bd (2*j+1) y from HY.out.le HI.out.2.2.2.2.2.2.2)
    have GB:k/32<qs.length:=by have:=HI.out.2.2.2.2.2.1; omega
    rcases Nat.lt_or_ge x y with hxy|hxy
    ·obtain⟨zc,zB,hz0⟩:=Oh hxy
     have HZ:=bx zB
     have HI2:=bx (HI.out.no hxy)
     clear zB hxy HI GB
     go_wp2_with fail
     have hc:=rT wr _ _ x y hx.1 hy.1
     rw[HZ.out]at hc
     refine Calls.mono hc ?_
     clear hc
     rintro e w3 ⟨rfl,hb3⟩
     have hx:=hx.below hb3
     have hy:=hy.below hb3
     have hr:=hr.keep hb3
     have hbl:=hbl.trans (hb3.mono hbl.size)
     clear hb3
     go_wp2_with fail
     refine Calls.mono (xk w3 _ y hy.1 HYB.out (by omega)) ?_
     rintro e w4 ⟨g4,L4,c4,hg4,rfl,h4,hb4⟩
     have RO:wc.heap.size<g4:=by have:=hr.lt; omega
     go_wp2
     go_roundw
     case rel=>exact⟨k,x,y/2,Q,qs,by omega,by go_num,hx.below hb4,qv.new h4 RO,HI2,RS,hr.keep hb4,hbl.trans (hb4.mono hbl.size)⟩
     case measure=>simp[intOf]
    ·obtain⟨zc,zB,hz0⟩:=CZ hxy
     have HZ:=bx zB
     have HGE:=bx hxy
     clear zB hxy
     go_wp2_with fail
     have hc:=rT wr _ _ x y hx.1 hy.1
     rw[HZ.out]at hc
     refine Calls.mono hc ?_
     clear hc
     rintro e w3 ⟨rfl,hb3⟩
     have hx:=hx.below hb3
     have hy:=hy.below hb3
     have hr:=hr.keep hb3
     have hbl:=hbl.trans (hb3.mono hbl.size)
     clear hb3
     go_wp2_with fail
     refine Calls.mono (xJ w3 _ _ x y hx.1 hy.1 HGE.out HXB.out (by omega)) ?_
     rintro e w4 ⟨g4,L4,c4,hg4,rfl,h4,hb4⟩
     have RO:wc.heap.size<g4:=by have:=hr.lt; omega
     have hx:=qv.new h4 RO
     have hy:=hy.below hb4
     have hr:=hr.keep hb4
     have hbl:=hbl.trans (hb4.mono hbl.size)
     clear hb4 h4 hg4 RO
     obtain⟨vq,hcq,HVQ⟩:=hr.get (i:=k/32) GB
     have AR:=hr.frozen (k/32)
     obtain⟨hroom,YU⟩:=HI.out.yes RS HVQ.out HGE.out
     have HI2:=bx YU
     have HB:=bx (UJ hroom)
     have HR:=bx hroom
     clear YU hroom
     go_wp2_with fail
     rw[HB.out]
     have hx:=hx.set (k/32) (.int .u32 ((vq+2^(k%32):Nat):Int))
     have hy:=hy.set (k/32) (.int .u32 ((vq+2^(k%32):Nat):Int))
     have hr:=hr.set (k/32) (vq+2^(k%32))
     have hbl:=hbl.setCell (p:=⟨wc.heap.size,k/32,none⟩) (Nat.le_refl _) (.int .u32 ((vq+2^(k%32):Nat):Int))
     have RS:=RS.set (i:=k/32) (x:=vq+2^(k%32)) (by have:=HR.out; unfold aP; omega)
     clear hcq AR
     generalize w4.setCell ⟨wc.heap.size,k/32,none⟩ (.int .u32 ((vq+2^(k%32):Nat):Int))=w5 at *
     refine Calls.mono (xk w5 _ y hy.1 HYB.out (by omega)) ?_
     rintro e w6 ⟨g6,L6,c6,hg6,rfl,h6,Vc⟩
     have acL:wc.heap.size<g6:=by have:=hr.lt; omega
     go_wp2
     go_roundw
     case rel=>exact⟨k,x-y,y/2,_,_,by omega,by go_num,hx.below Vc,qv.new h6 acL,HI2,RS,hr.keep Vc,hbl.trans (Vc.mono hbl.size)⟩
     case measure=>simp[intOf]
theorem pT (w:World) (v1 v2:Value) (m n:Nat) (h1:bQ .u32 aP w v1 m) (h2:bQ .u32 aP w v2 n) (h0:0<n) {j:Nat} (hj:Bd j m) (hk:Bd j n) (fA:j<=10000000):
  Calls Tryz.prog 181 #[v1,v2] w (xV w (m/n) (m%n)):=by
 by_cases hl:(af aP n).length=1
 ·exact P9 w v1 v2 m n h1 h2 hl hj (by omega)
 ·rcases Nat.lt_or_ge (bB m) (bB n)with h|h
  ·exact MH w v1 v2 m n h1 h2 hl hj hk (by omega) h
  ·exact MI w v1 v2 m n (bB m-bB n) h1 h2 hl h0 hj hk fA (by omega)
end Wx

namespace Wx
set_option maxHeartbeats 1000000
open Go Go.RowKit Go.Proofs
variable {w:World} {v:Value} {n:Nat}
theorem bQ.Zn {m:Nat} {k:IntKind} (h:bQ k aP w v m) (g:bQ k aP w v n):m=n:=by
 obtain⟨A,c,rfl,hr⟩:=h
 obtain⟨A',c',e,gr⟩:=g
 injection e with e1 e2 e3
 subst e1
 exact ES aI (hr.inj gr e2)
open Classical in
noncomputable def DA (w:World) (v:Value):Nat:=if h:∃n,bQ .u32 aP w v n then choose h else 0
theorem bQ.Kz (h:bQ .u32 aP w v n):DA w v=n:=by
 have hx:∃n,bQ .u32 aP w v n:=⟨n,h⟩
 unfold DA
 rw[dif_pos hx]
 exact(Classical.choose_spec hx).Zn h
theorem xe (w:World) (v1 v2:Value) (m n:Nat) (h1:bQ .u32 aP w v1 m) (h2:bQ .u32 aP w v2 n) {j:Nat} (hj:Bd j m) (hk:Bd j n) (fA:j<=10000000):
  Calls Tryz.prog 179 #[v1,v2] w (jR .u32 aP w (Nat.gcd m n)):=by
 have HX:=bx (And.intro hj hk)
 clear hj hk
 obtain⟨G,hG⟩:∃G,G=Nat.gcd m n:=⟨_,rfl⟩
 rw[<-hG]
 have HG:=bx hG
 clear hG
 go_enter Tryz.func179,Tryz.ntmps179
 go_wp2_with fail
 go_loopw [0,1] (λs0 s1 wr=>∃x y:Nat,bQ .u32 aP wr s0 x/\bQ .u32 aP wr s1 y/\Bx (G=Nat.gcd x y)/\Bx (Bd j x/\Bd j y)/\Below w.heap.size w wr) (λ_ s1 wr=>DA wr s1)
 case atStart=>exact⟨_,_,h1,h2,HG,HX,Below.refl _ _⟩
 case round=>
  clear h1 h2 HG HX
  obtain⟨x,y,hx,hy,HG,HX,hb⟩:=hrel
  rcases Nat.eq_zero_or_pos y with rfl|hy0
  ·obtain⟨A,c,rfl,hr⟩:=id hy
   rw[bN]at hr ⊢
   go_wp2
   go_ret
   exact⟨_,rfl,by rw[HG.out,Nat.gcd_zero_right]; exact hx,hb⟩
  ·obtain⟨B,d,rfl,hs⟩:=id hy
   have AB:(0:Int)<((af aP y).length:Int):=by have:=(aQ (n:=y) aI).2 hy0; omega
   have Lk:=bx hy0
   have hlen:=hs.len
   generalize (af aP y).length=L at *
   clear hy0 hs
   go_wp2_with fail
   refine(pT wr _ _ x y hx hy Lk.out HX.out.1 HX.out.2 fA).mono ?_
   rintro e w2 ⟨vq,vr,rfl,hq,hr,hb2⟩
   go_wp2
   go_roundw
   case rel=>
    exact⟨y,x%y,hy.below hb2,hr,bx (by rw[HG.out,Nat.gcd_comm x y,Nat.gcd_rec y x,Nat.gcd_comm]),bx ⟨HX.out.2,HX.out.1.le (Nat.mod_le _ _)⟩,hb.trans (hb2.mono hb.size)⟩
   case measure=>
    rw[bQ.Kz hy,bQ.Kz hr]
    exact Nat.mod_lt _ Lk.out
end Wx

namespace Wx
open Go Go.RowKit Go.Proofs
def gA (w:World) (g:Nat) (cs:List Value) (e:TypeId):Prop:=w.heap[g]?=some (.cells cs.toArray e (0,0))
variable {w:World} {g:Nat} {cs:List Value} {e:TypeId}
theorem gA.cell (h:gA w g cs e) {i:Nat} {v:Value} (hi:cs[i]?=some v):w.cell? ⟨g,i,none⟩=some v:=by
 unfold gA at h; simp[World.cell?,h,hi]
theorem gA.fz (h:gA w g cs e) (i:Nat):w.frozen? ⟨g,i,none⟩=false:=by unfold gA at h; simp[World.frozen?,h]
theorem gA.lt (h:gA w g cs e):g<w.heap.size:=by
 unfold gA at h
 rcases Nat.lt_or_ge g w.heap.size with h'|h'
 ·exact h'
 ·rw[Array.getElem?_eq_none h']at h; cases h
variable {w':World}
theorem gA.gone (h:gA w g cs e) (hb:Below w.heap.size w w'):gA w' g cs e:=(hb.block g h.lt).trans h
variable {r:Nat}
theorem gA.Ry (h:gA w g cs e) (hr:g≠r) (i:Nat) (u:Value):gA (w.setCell ⟨r,i,none⟩ u) g cs e:=(Below.heap_setCell w ⟨r,i,none⟩ u g hr).trans h
theorem gA.set (h:gA w g cs e) (i:Nat) (u:Value):gA (w.setCell ⟨g,i,none⟩ u) g (cs.set i u) e:=by
 unfold gA at *; simp[World.setCell,Array.getElem?_modify,h]
theorem gA.mG (h:gA w g cs e) (hv:∀v∈cs,fL v):Eo w g:=by
 intro i k z hc
 unfold gA at h
 simp only[World.cell?,h]at hc
 have:cs[i]?=some (.int k z):=by simpa using hc
 exact hv _ (List.mem_of_getElem? this) k z rfl
theorem sr (w:World) (cs:List Value) (e:TypeId):∃w',w.alloc (.cells cs.toArray e)=w'/\gA w' w.heap.size cs e/\Below w.heap.size w w'/\w'.heap.size=w.heap.size+1:=
 ⟨_,rfl,heap_alloc_new _ _,Below.alloc (Below.refl _ _) (Nat.le_refl _) _,by simp⟩
variable {v:Value} {n:Nat}
theorem bQ.VW {k:IntKind} {b:Nat} (h:bQ k b w v n) {g:Nat} (hg:Eo w g) (i:Nat) (u:Value):bQ k b (w.setCell ⟨g,i,none⟩ u) v n:=by
 obtain⟨A,c,rfl,hr⟩:=h
 exact⟨A,c,rfl,hr.mG hg i u⟩
def iv (w:World) (r n:Nat) (e:TypeId) (ps:List (Nat×List Value×TypeId)) (w':World):Prop:=
 Below w.heap.size w w'/\w.heap.size<=r/\(∀p∈ps,p.1≠r/\gA w' p.1 p.2.1 p.2.2)/\∃cs,cs.length=n/\gA w' r cs e/\∀v∈cs,fL v
variable {ps:List (Nat×List Value×TypeId)}
theorem iv.call {w'':World} {p:Prop} (h:iv w r n e ps w'/\p) (hb:Below w'.heap.size w' w''):iv w r n e ps w'':=by
 obtain⟨⟨h1,h2,h3,cs,h4,h5,h6⟩,_⟩:=h
 exact⟨h1.trans (hb.mono h1.size),h2,λp hp=>⟨(h3 p hp).1,(h3 p hp).2.gone hb⟩,cs,h4,h5.gone hb,h6⟩
theorem iv.set (h:iv w r n e ps w') (i:Nat) {u:Value} (hu:fL u):iv w r n e ps (w'.setCell ⟨r,i,none⟩ u):=by
 obtain⟨h1,h2,h3,cs,h4,h5,h6⟩:=h
 refine⟨h1.setCell h2 _,h2,λp hp=>⟨(h3 p hp).1,(h3 p hp).2.Ry (h3 p hp).1 _ _⟩,cs.set i u,by rw[List.length_set,h4],h5.set i u,λv hv=>?_⟩
 rcases List.mem_or_eq_of_mem_set hv with h|h
 ·exact h6 v h
 ·rw[h]; exact hu
theorem iv.BD (h:iv w r n e ps w') {i:Nat} (hi:i<n):w'.cell? ⟨r,i,none⟩=some (cv w' ⟨r,i,none⟩):=by
 obtain⟨_,_,_,cs,h4,h5,_⟩:=h
 exact JZ (h5.cell (List.getElem?_eq_getElem (by omega)))
theorem iv.WZ (h:iv w r n e ps w') (i:Nat):w'.frozen? ⟨r,i,none⟩=false:=by
 obtain⟨_,_,_,cs,h4,h5,_⟩:=h
 exact h5.fz i
def eO (w:World) (r k:Nat):List Value->World
 |[]=>w
 |v::vs=>eO (w.setCell ⟨r,k,none⟩ v) r (k+1) vs
theorem iv.eO {w:World} {r n:Nat} {e:TypeId} {ps:List (Nat×List Value×TypeId)} (vs:List Value):∀(k:Nat) {w':World},iv w r n e ps w'->(∀v∈vs,fL v)->iv w r n e ps (eO w' r k vs):=by
 induction vs with
 |nil=>intro k w' h _; exact h
 |cons v vs ih=>intro k w' h hv; exact ih (k+1) (h.set k (hv v (by simp))) (λu hu=>hv u (List.mem_cons_of_mem _ hu))
theorem Af (vs:List Value):∀(k:Nat) {w:World} {cs:List Value},gA w r cs e->cs.length=k+vs.length->gA (eO w r k vs) r (cs.take k++vs) e:=by
 induction vs with
 |nil=>intro k w cs h hl; rw[List.append_nil,List.take_of_length_le (by simp at hl; omega)]; exact h
 |cons v vs ih=>
  intro k w cs h hl
  have:=ih (k+1) (h.set k v) (by rw[List.length_set]; simp at hl; omega)
  have e1:(cs.set k v).take (k+1)++vs=cs.take k++v::vs:=by
   have hk:k<(cs.set k v).length:=by rw[List.length_set]; simp at hl; omega
   rw[List.take_add_one,List.getElem?_eq_getElem hk,List.getElem_set_self,List.take_set_of_le (Nat.le_refl k)]
   simp
  rw[e1]at this
  exact this
theorem Ae (vs:List Value):∀(k:Nat) {w:World} {cs:List Value},gA w r cs e->(∀v∈cs,fL v)->(∀v∈vs,fL v)->∀(kd:IntKind) (b:Nat) (v:Value) (m:Nat),bQ kd b w v m->bQ kd b (eO w r k vs) v m:=by
 induction vs with
 |nil=>intro k w cs _ _ _ kd b v m h; exact h
 |cons u vs ih=>
  intro k w cs h hc hv kd b v m hn
  refine ih (k+1) (h.set k u) (λx hx=>?_) (λx hx=>hv x (List.mem_cons_of_mem _ hx)) kd b v m (hn.VW (h.mG hc) k u)
  rcases List.mem_or_eq_of_mem_set hx with h'|h'
  ·exact hc x h'
  ·rw[h']; exact hv u (by simp)
theorem iv.fin (h:iv w r n e ps w') (vs:List Value) (hl:vs.length=n) (hv:∀v∈vs,fL v):
  ∃wf,Wx.eO w' r 0 vs=wf/\gA wf r vs e/\Below w.heap.size w wf/\(∀(kd:IntKind) (b:Nat) (v:Value) (m:Nat),bQ kd b w' v m->bQ kd b wf v m):=by
 have hs:=iv.eO vs 0 h hv
 obtain⟨h1,h2,h3,cs,h4,h5,h6⟩:=h
 refine⟨_,rfl,?_,hs.1,Ae vs 0 h5 h6 hv⟩
 have:=Af vs 0 h5 (by omega)
 simpa using this
theorem iN {b:Bool} {A1 A2:Option Addr} {l1 l2 c1 c2:Nat}:∀v∈[Value.bool b,.slice A1 l1 c1,.slice A2 l2 c2],fL v:=by
 intro v hv; simp at hv; rcases hv with rfl|rfl|rfl
 ·exact cT _
 ·exact aU _ _ _
 ·exact aU _ _ _
theorem bL.into {q:Rat} (h:bL w v q) (hn:∀(kd:IntKind) (b:Nat) (v:Value) (m:Nat),bQ kd b w v m->bQ kd b w' v m):bL w' v q:=by
 obtain⟨vn,vd,rfl,h1,h2⟩:=h
 exact⟨vn,vd,rfl,hn _ _ _ _ h1,hn _ _ _ _ h2⟩
end Wx

namespace Wx
open Go Go.RowKit Go.Proofs
theorem gA.put {w:World} {g:Nat} {cs:List Value} {e:TypeId} (h:gA w g cs e) (hc:∀v∈cs,fL v) (vs:List Value) (hl:vs.length=cs.length) (hv:∀v∈vs,fL v):
  ∃w',eO w g 0 vs=w'/\gA w' g vs e/\(∀g' cs' e',g'≠g->gA w g' cs' e'->gA w' g' cs' e')/\(∀(kd:IntKind) (b:Nat) (v:Value) (m:Nat),bQ kd b w v m->bQ kd b w' v m)/\(∀w0:World,w0.heap.size<=g->Below w0.heap.size w0 w->Below w0.heap.size w0 w')/\w'.heap.size=w.heap.size:=by
 refine⟨_,rfl,?_,?_,Ae vs 0 h hc hv,?_,?_⟩
 ·have:=Af vs 0 h (by omega)
  simpa using this
 ·intro g' cs' e' hne ho
  have key:∀(vs:List Value) (k:Nat) (w:World),gA w g' cs' e'->gA (eO w g k vs) g' cs' e':=by
   intro vs
   induction vs with
   |nil=>intro k w h; exact h
   |cons v vs ih=>intro k w h; exact ih (k+1) _ (h.Ry hne _ _)
  exact key vs 0 w ho
 ·intro w0 hg hb
  have key:∀(vs:List Value) (k:Nat) (w:World),Below w0.heap.size w0 w->Below w0.heap.size w0 (eO w g k vs):=by
   intro vs
   induction vs with
   |nil=>intro k w h; exact h
   |cons v vs ih=>intro k w h; exact ih (k+1) _ (h.setCell hg _)
  exact key vs 0 w hb
 ·have key:∀(vs:List Value) (k:Nat) (w:World),(eO w g k vs).heap.size=w.heap.size:=by
   intro vs
   induction vs with
   |nil=>intro k w; rfl
   |cons v vs ih=>intro k w; rw[eO,ih]; simp[World.setCell]
  exact key vs 0 w
end Wx

namespace Wx
open Go Go.RowKit Go.Proofs
theorem kz:∀v∈[Value.bool false,.slice none 0 0,.slice none 0 0],fL v:=iN
end Wx

namespace Wx
set_option maxRecDepth 100000
set_option maxHeartbeats 1000000
open Go Go.RowKit Go.Proofs
def sw (w:World) (v:Value) (q:Rat):Prop:=∃vn vd,v=.agg #[.bool (decide (q.num<0)),vn,vd]/\bQ .u32 aP w vn q.num.natAbs/\bQ .u32 aP w vd q.den
def vL (w:World) (q:Rat) (e:Ending) (w':World):Prop:=∃v,e=.returned v/\sw w' v q/\Below w.heap.size w w'
variable {w w':World} {v:Value} {q:Rat}
theorem sw.below (h:sw w v q) (hb:Below w.heap.size w w'):sw w' v q:=by
 obtain⟨vn,vd,rfl,h1,h2⟩:=h
 exact⟨vn,vd,rfl,h1.below hb,h2.below hb⟩
theorem sw.into (h:sw w v q) (hn:∀(kd:IntKind) (b:Nat) (v:Value) (m:Nat),bQ kd b w v m->bQ kd b w' v m):sw w' v q:=by
 obtain⟨vn,vd,rfl,h1,h2⟩:=h
 exact⟨vn,vd,rfl,hn _ _ _ _ h1,hn _ _ _ _ h2⟩
theorem Mu (w:World) (A:Option Addr) (c:Nat) (hc:c<=maxLen):bQ .u32 aP w (.slice A 0 c) 0:=by
 have:=bQ.of (k:=.u32) (b:=aP) (w:=w) (A:=A) (n:=0) (c:=c) aI (l:=[]) ⟨Nat.zero_le _,hc,λh=>absurd rfl h⟩ rfl (Wf.nil _) tR.nil
 simpa [val] using this
theorem Mm (w:World) (neg:Bool) (v1 v2:Value) (h1:bQ .u32 aP w v1 0):Calls Tryz.prog 156 #[.bool neg,v1,v2] w (vL w 0):=by
 obtain⟨A,c,rfl,hr⟩:=id h1
 rw[bN]
 clear hr
 go_enter Tryz.func156,Tryz.ntmps156
 go_wp2_with fail
 obtain⟨w1,e1,oR,b1,s1⟩:=sr w [.bool false,.slice none 0 0,.slice none 0 0] 46
 rw[e1]
 clear e1
 replace h1:=h1.below b1
 have B:=b1
 clear b1
 obtain⟨w2,e2,oE,b2,s2⟩:=sr w1 [] 270
 rw[e2]
 rw[s1]at oE
 clear e2
 replace h1:=h1.below b2
 replace oR:=oR.gone b2
 replace B:=B.trans (b2.mono B.size)
 clear b2
 clear oE h1
 refine Calls.mono (nC _ 1 (by unfold b64; omega)) ?_
 rintro e w3 ⟨v3,rfl,h3,b3⟩
 replace oR:=oR.gone b3
 replace B:=B.trans (b3.mono B.size)
 clear b3
 obtain⟨A3,c3,rfl,_⟩:=id h3
 have k1:=oR.cell (i:=0) rfl
 have k2:=oR.fz 0
 have k3:=oR.cell (i:=1) rfl
 have k4:=oR.fz 1
 have k5:=oR.cell (i:=2) rfl
 have k6:=oR.fz 2
 go_wp2
 obtain⟨wf,HW,ho,_,hN,LM,_⟩:=oR.put kz [.bool false,.slice (some ⟨w.heap.size+1,0,none⟩) 0 0,.slice A3 (af aP 1).length c3] rfl iN
 simp only[eO,Nat.reduceAdd]at HW
 (try rw[HW])
 (try simp only[Exit.inBlock,Exit.then])
 have f0:=ho.cell (i:=0) rfl
 have f1:=ho.cell (i:=1) rfl
 have f2:=ho.cell (i:=2) rfl
 refine bodyPost_ret (by simp[results,Tryz.results156,go_sem,f0,f1,f2]; try rfl) rfl ?_
 have HB:=LM _ (by omega) B
 exact⟨_,rfl,⟨_,_,rfl,hN _ _ _ _ (Mu _ _ _ (Nat.zero_le _)),hN _ _ _ _ h3⟩,HB⟩
theorem Pp (w:World) (neg:Bool) (v1 v2:Value) (n d:Nat) (h1:bQ .u32 aP w v1 n) (h2:bQ .u32 aP w v2 d) (hn:0<n) (hd:0<d) {j:Nat} (hj:Bd j n) (hk:Bd j d) (fA:j<=10000000) (Nu:n.gcd d=1):Calls Tryz.prog 156 #[.bool neg,v1,v2] w (vL w (gh neg n d)):=by
 obtain⟨A1,c1,rfl,hr1⟩:=id h1
 obtain⟨A2,c2,rfl,hr2⟩:=id h2
 have hl:(((af aP n).length:Int)==0)=false:=beq_eq_false_iff_ne.2 (by have:=(aQ (n:=n) aI).2 hn; omega)
 have hlen:=hr1.len
 obtain⟨g,hg⟩:∃g,g=n.gcd d:=⟨_,rfl⟩
 obtain⟨q,hq⟩:∃q,q=gh neg n d:=⟨_,rfl⟩
 have hg0:0<g:=by rw[hg]; exact Nat.gcd_pos_of_pos_left _ hn
 have q1:=nL (neg:=neg) (n:=n) hd
 have q2:=uX (neg:=neg) (n:=n) hd
 have q3:=z7 (neg:=neg) hd hn
 rw[<-hq,<-hg]at q1 q2
 rw[<-hq]at q3
 rw[<-hq]
 have HQ:=bx (And.intro q1 (And.intro q2 q3))
 have HJ:=bx (And.intro hj hk)
 have HG:=bx hg
 have Us:=bx hg0
 have HC:∀w v,Calls Tryz.prog 179 #[.slice A1 (af aP n).length c1,.slice A2 (af aP d).length c2] w v->True:=λ_ _ _=>trivial
 clear HC q1 q2 q3 hq hg hn hr1 hr2 hg0
 have hc:bZ g 1=0:=by rw[HG.out,Nu]; rfl
 have HC:=bx hc
 have H1:=bx Nu
 clear hc Nu hj hk
 go_enter Tryz.func156,Tryz.ntmps156
 go_wp2_with fail
 obtain⟨w1,e1,oR,b1,s1⟩:=sr w [.bool false,.slice none 0 0,.slice none 0 0] 46
 rw[e1]
 clear e1
 replace h1:=h1.below b1
 replace h2:=h2.below b1
 have B:=b1
 clear b1
 refine Calls.mono (xe _ _ _ n d h1 h2 HJ.out.1 HJ.out.2 fA) ?_
 rintro e w2 ⟨vg,rfl,hg,b2⟩
 replace h1:=h1.below b2
 replace h2:=h2.below b2
 replace oR:=oR.gone b2
 replace B:=B.trans (b2.mono B.size)
 clear b2
 rw[<-HG.out]at hg
 go_wp2_with fail
 refine Calls.mono (nC _ 1 (by unfold b64; omega)) ?_
 rintro e w3 ⟨vo,rfl,ho,b3⟩
 replace h1:=h1.below b3
 replace h2:=h2.below b3
 replace oR:=oR.gone b3
 replace hg:=hg.below b3
 replace B:=B.trans (b3.mono B.size)
 clear b3
 go_wp2_with fail
 have hc:=rT _ _ _ g 1 hg ho
 rw[HC.out]at hc
 refine Calls.mono (hc) ?_
 rintro e w4 ⟨rfl,b4⟩
 replace h1:=h1.below b4
 replace h2:=h2.below b4
 replace oR:=oR.gone b4
 replace hg:=hg.below b4
 replace ho:=ho.below b4
 replace B:=B.trans (b4.mono B.size)
 clear b4
 clear hc ho
 rw[HG.out,H1.out,Nat.div_one,Nat.div_one]at HQ
 have k1:=oR.cell (i:=0) rfl
 have k2:=oR.fz 0
 have k3:=oR.cell (i:=1) rfl
 have k4:=oR.fz 1
 have k5:=oR.cell (i:=2) rfl
 have k6:=oR.fz 2
 go_wp2
 obtain⟨wf,HW,ho,_,hN,LM,_⟩:=oR.put kz [.bool neg,.slice A1 (af aP n).length c1,.slice A2 (af aP d).length c2] rfl iN
 simp only[eO,Nat.reduceAdd]at HW
 (try rw[HW])
 (try simp only[Exit.inBlock,Exit.then])
 have f0:=ho.cell (i:=0) rfl
 have f1:=ho.cell (i:=1) rfl
 have f2:=ho.cell (i:=2) rfl
 refine bodyPost_ret (by simp[results,Tryz.results156,go_sem,f0,f1,f2]; try rfl) rfl ?_
 have HB:=LM _ (by omega) B
 exact⟨_,rfl,⟨_,_,by rw[HQ.out.2.2],by rw[HQ.out.1]; exact hN _ _ _ _ h1,by rw[HQ.out.2.1]; exact hN _ _ _ _ h2⟩,HB⟩
theorem Ml (w:World) (neg:Bool) (v1 v2:Value) (n d:Nat) (h1:bQ .u32 aP w v1 n) (h2:bQ .u32 aP w v2 d) (hn:0<n) (hd:0<d) {j:Nat} (hj:Bd j n) (hk:Bd j d) (fA:j<=10000000) (Nu:n.gcd d≠1):Calls Tryz.prog 156 #[.bool neg,v1,v2] w (vL w (gh neg n d)):=by
 obtain⟨A1,c1,rfl,hr1⟩:=id h1
 obtain⟨A2,c2,rfl,hr2⟩:=id h2
 have hl:(((af aP n).length:Int)==0)=false:=beq_eq_false_iff_ne.2 (by have:=(aQ (n:=n) aI).2 hn; omega)
 have hlen:=hr1.len
 obtain⟨g,hg⟩:∃g,g=n.gcd d:=⟨_,rfl⟩
 obtain⟨q,hq⟩:∃q,q=gh neg n d:=⟨_,rfl⟩
 have hg0:0<g:=by rw[hg]; exact Nat.gcd_pos_of_pos_left _ hn
 have q1:=nL (neg:=neg) (n:=n) hd
 have q2:=uX (neg:=neg) (n:=n) hd
 have q3:=z7 (neg:=neg) hd hn
 rw[<-hq,<-hg]at q1 q2
 rw[<-hq]at q3
 rw[<-hq]
 have HQ:=bx (And.intro q1 (And.intro q2 q3))
 have HJ:=bx (And.intro hj hk)
 have HG:=bx hg
 have Us:=bx hg0
 have HC:∀w v,Calls Tryz.prog 179 #[.slice A1 (af aP n).length c1,.slice A2 (af aP d).length c2] w v->True:=λ_ _ _=>trivial
 clear HC q1 q2 q3 hq hg hn hr1 hr2 hg0
 have hc:bZ g 1=1:=by unfold bZ; have:=Us.out; have:=HG.out; rw[if_neg (by omega),if_pos (by omega)]
 have HC:=bx hc
 have H1:=bx Nu
 clear hc Nu hj hk
 go_enter Tryz.func156,Tryz.ntmps156
 go_wp2_with fail
 obtain⟨w1,e1,oR,b1,s1⟩:=sr w [.bool false,.slice none 0 0,.slice none 0 0] 46
 rw[e1]
 clear e1
 replace h1:=h1.below b1
 replace h2:=h2.below b1
 have B:=b1
 clear b1
 refine Calls.mono (xe _ _ _ n d h1 h2 HJ.out.1 HJ.out.2 fA) ?_
 rintro e w2 ⟨vg,rfl,hg,b2⟩
 replace h1:=h1.below b2
 replace h2:=h2.below b2
 replace oR:=oR.gone b2
 replace B:=B.trans (b2.mono B.size)
 clear b2
 rw[<-HG.out]at hg
 go_wp2_with fail
 refine Calls.mono (nC _ 1 (by unfold b64; omega)) ?_
 rintro e w3 ⟨vo,rfl,ho,b3⟩
 replace h1:=h1.below b3
 replace h2:=h2.below b3
 replace oR:=oR.gone b3
 replace hg:=hg.below b3
 replace B:=B.trans (b3.mono B.size)
 clear b3
 go_wp2_with fail
 have hc:=rT _ _ _ g 1 hg ho
 rw[HC.out]at hc
 refine Calls.mono (hc) ?_
 rintro e w4 ⟨rfl,b4⟩
 replace h1:=h1.below b4
 replace h2:=h2.below b4
 replace oR:=oR.gone b4
 replace hg:=hg.below b4
 replace ho:=ho.below b4
 replace B:=B.trans (b4.mono B.size)
 clear b4
 clear hc ho
 go_wp2_with fail
 refine Calls.mono (pT _ _ _ n g h1 hg Us.out HJ.out.1 (HG.out▸HJ.out.2.le (Nat.gcd_le_right _ hd)) fA) ?_
 rintro e w5 ⟨vq,vr,rfl,hq,_,b5⟩
 replace h1:=h1.below b5
 replace h2:=h2.below b5
 replace oR:=oR.gone b5
 replace hg:=hg.below b5
 replace B:=B.trans (b5.mono B.size)
 clear b5
 go_wp2_with fail
 refine Calls.mono (pT _ _ _ d g h2 hg Us.out HJ.out.2 (HG.out▸HJ.out.2.le (Nat.gcd_le_right _ hd)) fA) ?_
 rintro e w6 ⟨vp,vs,rfl,hp,_,b6⟩
 replace h1:=h1.below b6
 replace h2:=h2.below b6
 replace oR:=oR.gone b6
 replace hg:=hg.below b6
 replace hq:=hq.below b6
 replace B:=B.trans (b6.mono B.size)
 clear b6
 obtain⟨A3,c3,rfl,_⟩:=id hq
 obtain⟨A4,c4,rfl,_⟩:=id hp
 have k1:=oR.cell (i:=0) rfl
 have k2:=oR.fz 0
 have k3:=oR.cell (i:=1) rfl
 have k4:=oR.fz 1
 have k5:=oR.cell (i:=2) rfl
 have k6:=oR.fz 2
 go_wp2
 obtain⟨wf,HW,ho,_,hN,LM,_⟩:=oR.put kz [.bool neg,.slice A3 (af aP (n/g)).length c3,.slice A4 (af aP (d/g)).length c4] rfl iN
 simp only[eO,Nat.reduceAdd]at HW
 (try rw[HW])
 (try simp only[Exit.inBlock,Exit.then])
 have f0:=ho.cell (i:=0) rfl
 have f1:=ho.cell (i:=1) rfl
 have f2:=ho.cell (i:=2) rfl
 refine bodyPost_ret (by simp[results,Tryz.results156,go_sem,f0,f1,f2]; try rfl) rfl ?_
 have HB:=LM _ (by omega) B
 exact⟨_,rfl,⟨_,_,by rw[HQ.out.2.2],by rw[HQ.out.1]; exact hN _ _ _ _ hq,by rw[HQ.out.2.1]; exact hN _ _ _ _ hp⟩,HB⟩
theorem Fv (w:World) (neg:Bool) (v1 v2:Value) (n d:Nat) (h1:bQ .u32 aP w v1 n) (h2:bQ .u32 aP w v2 d) (hd:0<d) {j:Nat} (hj:Bd j n) (hk:Bd j d) (fA:j<=10000000):Calls Tryz.prog 156 #[.bool neg,v1,v2] w (vL w (gh neg n d)):=by
 rcases Nat.eq_zero_or_pos n with rfl|hn
 ·rw[Cj]; exact Mm w neg v1 v2 h1
 ·by_cases h:n.gcd d=1
  ·exact Pp w neg v1 v2 n d h1 h2 hn hd hj hk fA h
  ·exact Ml w neg v1 v2 n d h1 h2 hn hd hj hk fA h
end Wx

namespace Wx
open Go Go.RowKit Go.Proofs
def MD (q:Rat):Pred:=λw v=>sw w v q
theorem qX (q:Rat):aK (MD q):=by
 rintro M w v hM ⟨vn,vd,rfl,h1,h2⟩ w' he
 exact⟨vn,vd,rfl,uN hM (.inr rfl) h1 w' he,uN hM (.inr rfl) h2 w' he⟩
theorem E7 (q:Rat):Fits 3 true (MD q):=by
 rintro w v ⟨vn,vd,rfl,h1,h2⟩
 obtain⟨A,c,rfl,_⟩:=h1
 obtain⟨B,d,rfl,_⟩:=h2
 refine⟨[_,_,_],rfl,rfl,rfl,?_⟩
 intro u hu
 simp at hu
 rcases hu with rfl|rfl|rfl
 ·exact⟨uL _,rfl⟩
 ·exact⟨ee _ _ _,rfl⟩
 ·exact⟨ee _ _ _,rfl⟩
end Wx

namespace Wx
open Go Go.RowKit
section
variable {P:Program} {ops:Array Oper} {ms:List Nat} {c:fT} {V:List Vr} {A:List Al} {G:List bz} {i:Nat} {L:Nat->Bool} {β:Nat->Nat->Prop} {a:Act} {w:World} {o:Oper}{d:Nat} {x y z:Operand} {ty:TypeId} {pos:String} {aft:Array Edge}
theorem bu.tH (h:bu c V A G L β a w) (hd:qc ms i L) (hwf:nR c.N ops V A G i o) {y:Vr} (hy:y∈V) (qp:y.born=some i) (hst:eU o.op=false) (LV:iY o.op=false) (dX:(A.all λp=>p.var != y.id||p.tag.any λj=>(ms.getD j 0).testBit i)=true)
  {v':Value} {w':World} {B':Nat->Prop} (e0:w'.os=w.os/\w'.tape=w.tape/\w'.output=w.output/\w.heap.size<=w'.heap.size)
  (e1:∀k,k<c.w0.heap.size->¬c.kr k->w'.heap[k]?=w.heap[k]?)
  (e2:∀z,z∈V->live L z=true->z.dead≠some i->∀k,β z.id k->w'.heap[k]?=w.heap[k]?/\¬B' k)
  (e3:Ext (own c V L β) w w') (e4:∀z,z∈V->live L z=true->z.dead≠some i->Ext (minus (own c V L β) (β z.id)) w w')
  (e5:∀k j,k<w.heap.size->B' k->y.lo<=j->own c V L β k j)
  (hOk:∀β',β' y.id=B'->(∀k j,k<w.heap.size->own c V (upd L i) β' k j->own c V L β k j)->(∀k j,own c V (upd L i) β' k j->(B' k/\y.lo<=j)\/c.M0 k j\/∃z,z∈V/\live L z=true/\z.dead≠some i/\β z.id k)->qw (own c V (upd L i) β') c (upd L i) β' (a.put o.dst v') w' y)
  (hG:∀β',β' y.id=B'->(∀k j,k<w.heap.size->own c V (upd L i) β' k j->own c V L β k j)->(∀k j,own c V (upd L i) β' k j->(B' k/\y.lo<=j)\/c.M0 k j\/∃z,z∈V/\live L z=true/\z.dead≠some i/\β z.id k)->∀e,e∈G->e.tag=some i->aO (own c V (upd L i) β') (λw=>e.p w v') w'):
  Inv c V A G (upd L i) (a.put o.dst v') w':=by
 have lR:=hwf.v2 y hy qp
 have nV:∀z,z∈V->z.id≠y.id->z.born≠some i:=λz hz hne hb=>hne (by rw[hwf.vo z y hz hy hb qp])
 -- who afd on
 have lv:∀z,z∈V->z.id≠y.id->live (upd L i) z=true->live L z=true/\z.dead≠some i:=by
  intro z hz hne hl
  unfold live at hl ⊢
  rw[dG (nV z hz hne),Bool.and_eq_true]at hl
  obtain⟨h1,h2⟩:=pL hl.2
  exact⟨by rw[hl.1,h1]; rfl,h2⟩
 have nS:∀z,z∈V->z.id≠y.id->z.dead≠some i->o.dst≠some z.slot:=λz hz hne sD hd'=>(hwf.v1 z hz hd').elim (nV z hz hne) sD
 have KZ:∀z,z∈V->∀q,q∈z.st->q.1≠i:=λz hz q hq Y7=>by have:=hwf.vs z hz q hq Y7; rw[hst]at this; cases this
 let β':Nat->Nat->Prop:=λs=>if s=y.id then B' else β s
 have hβ:∀z,z∈V->z.id≠y.id->β' z.id=β z.id:=λz _ hne=>if_neg hne
 have Xh:β' y.id=B':=if_pos rfl
 have lX:∀k j,k<w.heap.size->own c V (upd L i) β' k j->own c V L β k j:=by
  rintro k j hk (h1|⟨z,hz,h1,h2,h3⟩)
  ·exact .inl h1
  ·by_cases Fk:z.id=y.id
   ·have:=hwf.vu z y hz hy Fk
    subst this
    rw[Xh]at h2
    exact e5 k j hk h2 h3
   ·rw[hβ z hz Fk]at h2
    exact .inr ⟨z,hz,(lv z hz Fk h1).1,h2,h3⟩
 have ZI:∀k j,own c V (upd L i) β' k j->(B' k/\y.lo<=j)\/c.M0 k j\/∃z,z∈V/\live L z=true/\z.dead≠some i/\β z.id k:=by
  rintro k j (h1|⟨z,hz,h1,h2,h3⟩)
  ·exact .inr (.inl h1)
  ·by_cases Fk:z.id=y.id
   ·have:=hwf.vu z y hz hy Fk
    subst this
    rw[Xh]at h2
    exact .inl ⟨h2,h3⟩
   ·rw[hβ z hz Fk]at h2
    obtain⟨k1,k2⟩:=lv z hz Fk h1
    exact .inr (.inr ⟨z,hz,k1,k2,h2⟩)
 have lift:∀F:World->Prop,aO (own c V L β) F w->aO (own c V (upd L i) β') F w':=λF hF w'' he=>by
  refine hF w'' ⟨Nat.le_trans e0.2.2.2 he.size,λk hk hno=>?_,λk j v hno hv=>?_⟩
  ·rw[he.block k (Nat.lt_of_lt_of_le hk e0.2.2.2) λj h'=>hno j (lX k j hk h')]
   exact e3.block k hk hno
  ·have hk:=World.block_lt_of_cell? w _ hv
   exact he.cell k j v (λh'=>hno (lX k j hk h')) (e3.cell k j v hno hv)
 have Pn:∀z,z∈V->live L z=true->z.dead≠some i->∀F:World->Prop,aO (minus (own c V L β) (β z.id)) F w->aO (minus (own c V (upd L i) β') (β z.id)) F w':=λz hz hl sD F hF w'' he=>by
  have e:=e4 z hz hl sD
  refine hF w'' ⟨Nat.le_trans e0.2.2.2 he.size,λk hk hno=>?_,λk j v hno hv=>?_⟩
  ·rw[he.block k (Nat.lt_of_lt_of_le hk e0.2.2.2) λj h'=>hno j ⟨lX k j hk h'.1,h'.2⟩]
   exact e.block k hk hno
  ·have hk:=World.block_lt_of_cell? w _ hv
   exact he.cell k j v (λh'=>hno ⟨lX k j hk h'.1,h'.2⟩) (e.cell k j v hno hv)
 refine⟨β',by rw[iH]; exact h.size,by rw[put_defers]; exact h.defers,⟨e0.1.trans h.below.os,e0.2.1.trans h.below.tape,e0.2.2.1.trans h.below.output,Nat.le_trans h.below.size e0.2.2.2,λk hk hn=>(e1 k hk hn).trans (h.below.block k hk hn)⟩,h.oa e1,?_,?_,?_,?_⟩
 ·intro z hz hl
  by_cases Fk:z.id=y.id
  ·have:=hwf.vu z y hz hy Fk
   subst this
   exact hOk β' Xh lX ZI
  ·obtain⟨hl,sD⟩:=lv z hz Fk hl
   exact(h.var z hz hl).keep (cz (nS z hz Fk sD)) (hβ z hz Fk) (λg hg=>(e2 z hz hl sD g hg).1) e0.2.2.2 lift (Pn z hz hl sD) (oC (KZ z hz))
 ·intro z z' g hz L3 h1 h2 hne
  by_cases Fk:z.id=y.id
  ·have L5:z'.id≠y.id:=λe=>hne (Fk.trans e.symm)
   obtain⟨h2,RJ⟩:=lv z' L3 L5 h2
   rw[Fk,Xh,hβ z' L3 L5]
   exactλk1 k2=>(e2 z' L3 h2 RJ g k2).2 k1
  ·obtain⟨h1,AA⟩:=lv z hz Fk h1
   rw[hβ z hz Fk]
   by_cases L5:z'.id=y.id
   ·rw[L5,Xh]
    exactλk1 k2=>(e2 z hz h1 AA g k1).2 k2
   ·rw[hβ z' L3 L5]
    exact h.apart z z' g hz L3 h1 (lv z' L3 L5 h2).1 hne
 ·intro p hp hl hcd
  have NB:p.tag≠some i:=λe=>by have:=hwf.aa p hp e; rw[LV]at this; cases this
  rw[dG NB]at hl
  obtain⟨g,hg,NA⟩:=h.al p hp hl hcd
  rw[cz λe=>NB (hwf.a1 p hp e),NA]
  have hne:p.var≠y.id:=by
   intro e
   rw[List.all_eq_true]at dX
   have h1:=dX p hp
   rw[e]at h1
   simp only[bne_self_eq_false,Bool.false_or]at h1
   cases ht:p.tag with
   |none=>rw[ht]at h1; simp at h1
   |some j=>
    rw[ht]at h1 hl
    have:=hd.behind j (by simpa using h1)
    simp only[on,this]at hl
    cases hl
  exact⟨g,by simpa [β',hne] using hg,rfl⟩
 ·intro e he hl hf
  obtain⟨hf,OU⟩:=pL hf
  by_cases ht:e.tag=some i
  ·have hd':=hwf.g2 e he ht
   rw[hd',fO (by rw[h.size]; exact hwf.sz _ hd')]
   exact hG β' Xh lX ZI e he ht
  ·rw[dG ht]at hl
   rw[cz λhd'=>(hwf.g1 e he hd').elim ht OU]
   exact lift _ (h.jM e he hl hf)
end
end Wx
