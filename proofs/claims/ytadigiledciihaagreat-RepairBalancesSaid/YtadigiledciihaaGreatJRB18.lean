import Derived.Test.YtadigiledciihaaGreatJRB17
import Derived.Test.YtadigiledciihaaGreatJRB12
namespace Wx
set_option maxRecDepth 100000
set_option maxHeartbeats 1000000
open Go Go.RowKit Go.Proofs
def qP (w:World) (q r:Nat) (e:Ending) (w':World):Prop:=∃v u,e=.returned (.tuple #[v,u])/\aZ .u32 ah w' v q/\aZ .u32 ah w' u r/\Below w.heap.size w w'
variable {n:Nat}
theorem Aj (h:(ae ah n).length=1):ae ah n=[n]/\0<n/\n<ah:=by
 have h0:0<n:=(aq aj).1 (by omega)
 have h1:=iO aj n
 rw[h,Nat.pow_one]at h1
 exact⟨nc aj h0 h1,h0,h1⟩
theorem GJ (w:World) (v1 v2:Value) (m n:Nat) (h1:aZ .u32 ah w v1 m) (h2:aZ .u32 ah w v2 n) (hl:(ae ah n).length=1) {j:Nat} (hj:Bd j m) (ct:j<=100000000):
  Calls Tryz.prog 105 #[v1,v2] w (qP w (m/n) (m%n)):=by
 obtain⟨hd,uU,Dp⟩:=Aj hl
 obtain⟨B,d,rfl,hb⟩:=h2
 rw[hd]at hb ⊢
 obtain⟨g,o,x,rfl,hc,HX⟩:=hb.get (i:=0) (by simp)
 obtain rfl:n=x:=by have:=HX.out; simpa using this
 rw[Nat.add_zero]at hc
 have HJ:=bx hj
 have HN:=bx (And.intro uU Dp)
 have yH:=dI Dp
 have mw:[n].length=1:=rfl
 rw[mw]
 clear hd hl HX hb hj Dp mw
 go_enter Tryz.func105,Tryz.ntmps105
 go_wp2_with fail
 refine Calls.mono (pZ w v1 m n h1 HJ.out (by omega) HN.out.1 HN.out.2) ?_
 rintro e w2 ⟨vq,rfl,hq,hb2⟩
 have OX:m%n<b64:=by have h1:=Nat.mod_lt m HN.out.1; have h2:=HN.out.2; unfold ah at h2; unfold b64; omega
 have Wi:((m%n:Nat):Int)<=4294967295:=by have h1:=Nat.mod_lt m HN.out.1; have h2:=HN.out.2; unfold ah at h2; omega
 have HR:=bx OX
 clear OX
 generalize m%n=r at *
 go_wp2_with fail
 refine Calls.mono (eP w2 r HR.out) ?_
 rintro e w3 ⟨vr,rfl,hr,hb3⟩
 go_wp2
 go_ret2
 exact⟨_,_,rfl,hq.below hb3,hr,hb2.trans (hb3.mono hb2.size)⟩
theorem D8 (w:World) (v1 v2:Value) (m n:Nat) (h1:aZ .u32 ah w v1 m) (h2:aZ .u32 ah w v2 n) (hl:(ae ah n).length≠1) {j:Nat} (hj:Bd j m) (hk:Bd j n) (ct:j<=100000000) (hlt:aR m<aR n):
  Calls Tryz.prog 105 #[v1,v2] w (qP w (m/n) (m%n)):=by
 have hmn:=yZ hlt
 rw[Nat.div_eq_of_lt hmn,Nat.mod_eq_of_lt hmn]
 have qn:=nO w v1 m h1 hj (by omega)
 have hc2:=nO w v2 n h2 hk (by omega)
 have RD:=lK hj
 have RE:=lK hk
 have HM:=bx h1
 obtain⟨B,d,rfl,hb⟩:=h2
 have hlen:=hb.len
 have mw:(((ae ah n).length:Int)==1)=false:=beq_eq_false_iff_ne.2 (by omega)
 generalize (ae ah n).length=L at *
 have OK:(aR m:Int)<(aR n:Int):=by omega
 have On:(aR m:Int)<=100000000:=by omega
 have Oo:(aR n:Int)<=100000000:=by omega
 have PO:=bx qn
 have PR:=bx hc2
 clear qn hc2 hj hk hb hmn RD RE hlt h1
 generalize aR m=bm at *
 generalize aR n=bn at *
 go_enter Tryz.func105,Tryz.ntmps105
 go_wp2_with fail
 refine Calls.mono PO.out ?_
 rintro e w' ⟨rfl,rfl⟩
 go_wp2_with fail
 refine Calls.mono PR.out ?_
 rintro e w' ⟨rfl,rfl⟩
 go_wp2
 go_ret2
 exact⟨_,_,rfl,aZ.of aj (l:=[]) ⟨Nat.le_refl _,Nat.zero_le _,λh=>absurd rfl h⟩ rfl (Wf.nil _) nI.nil,HM.out.below (Below.alloc (Below.refl _ _) (Nat.le_refl _) _),Below.alloc (Below.refl _ _) (Nat.le_refl _) _⟩
def kP (g:Nat) (w:World) (v:Value) (n:Nat):Prop:=aZ .u32 ah w v n/\∀a l c,v=.slice (some a) l c->a.block≠g
variable {g:Nat} {w w':World} {v:Value}
theorem kP.below (h:kP g w v n) (hb:Below w.heap.size w w'):kP g w' v n:=⟨h.1.below hb,h.2⟩
theorem kP.set (h:kP g w v n) (i:Nat) (u:Value):kP g (w.setCell ⟨g,i,none⟩ u) v n:=by
 obtain⟨⟨A,c,rfl,h1,h2,h3⟩,h4⟩:=h
 refine⟨⟨A,c,rfl,h1,h2,λhne=>?_⟩,h4⟩
 obtain⟨b,o,rfl,hc⟩:=h3 hne
 refine⟨b,o,rfl,λk hk=>?_⟩
 rw[World.cell?_of_block (Below.heap_setCell w ⟨g,i,none⟩ u b (h4 _ _ _ rfl))]
 exact hc k hk
theorem kP.new {h L c:Nat} (hn:aZ .u32 ah w (.slice (some ⟨h,0,none⟩) L c) n) (hg:g<h):kP g w (.slice (some ⟨h,0,none⟩) L c) n:=by
 refine⟨hn,λa l c e=>?_⟩
 injection e with e
 injection e with e
 subst e
 show h≠g
 omega
theorem kP.old (h:aZ .u32 ah w v n) (hn:0<n) (hb:Below w.heap.size w w'):kP w.heap.size w' v n:=by
 refine⟨h.below hb,λa l c e=>?_⟩
 obtain⟨A,c',rfl,hr⟩:=h
 obtain⟨b,o,e',hc⟩:=hr.at_ ((aq aj).2 hn)
 have:=World.block_lt_of_cell? w _ hc
 rw[e']at e
 injection e with e
 injection e with e
 subst e
 have:b<w.heap.size:=this
 show b≠w.heap.size
 omega
variable {i:Nat}
theorem Lm {v:Nat} (h:v+2^(i%32)<4294967296):((v:Int)+(2:Int)^(i%32))%4294967296=((v+2^(i%32):Nat):Int):=by
 have e:((2:Int)^(i%32))=((2^(i%32):Nat):Int):=by simp
 rw[e]
 generalize 2^(i%32)=P at *
 omega
variable {m:Nat}
theorem E7 (h:m<n):∃z,bf m n=z/\z<0:=⟨_,rfl,by unfold bf; rw[if_pos h]; omega⟩
def oW (m n N i x y Q:Nat) (qs:List Nat):Prop:=
 m=Q*n+x/\x<n*2^i/\2^i ∣ Q/\(0<i->y=n*2^(i-1))/\val ah qs=Q/\qs.length=N/32+1/\x<=m/\y<=n*2^N
variable {N x y Q:Nat} {qs:List Nat}
theorem oW.yes {v:Nat} (h:oW m n N (i+1) x y Q qs) (hw:Wf ah qs) (hv:qs[i/32]?=some v) (hle:y<=x):
  v+2^(i%32)<4294967296/\oW m n N i (x-y) (y/2) (Q+2^i) (qs.set (i/32) (v+2^(i%32))):=by
 obtain⟨h1,h2,h3,h4,h5,h6,h7,h8⟩:=h
 have hy:=h4 (by omega)
 rw[Nat.add_sub_cancel]at hy
 have e:ah=4294967296:=rfl
 rw[e]at h5 hw
 have Mm:v<4294967296:=hw _ (List.mem_of_getElem? hv)
 have hd:=Hq (i:=i) hw (by rw[h5]; exact h3) hv
 obtain⟨k1,_⟩:=DB h1 h2 h3
 obtain⟨a1,a2,a3⟩:=k1 (by rw[<-hy]; exact hle)
 refine⟨EU Mm (Nat.mod_lt _ (by omega)) hd,by rw[hy]; exact a1,by rw[hy]; exact a2,a3,λhi=>?_,by rw[e,JG hv,h5],by rw[List.length_set]; exact h6,by omega,by omega⟩
 obtain⟨k,rfl⟩:∃k,i=k+1:=⟨i-1,by omega⟩
 rw[hy,yD,Nat.add_sub_cancel]
theorem oW.no (h:oW m n N (i+1) x y Q qs) (hlt:x<y):oW m n N i x (y/2) Q qs:=by
 obtain⟨h1,h2,h3,h4,h5,h6,h7,h8⟩:=h
 have hy:=h4 (by omega)
 rw[Nat.add_sub_cancel]at hy
 refine⟨h1,by omega,Nat.dvd_trans (Nat.pow_dvd_pow 2 (by omega)) h3,λhi=>?_,h5,h6,h7,by omega⟩
 obtain⟨k,rfl⟩:∃k,i=k+1:=⟨i-1,by omega⟩
 rw[hy,yD,Nat.add_sub_cancel]
theorem oW.start (hn:0<n) (hN:aR m-aR n=N):oW m n N (N+1) m (n*2^N) 0 (List.replicate (N/32+1) 0):=by
 refine⟨by omega,?_,Nat.dvd_zero _,λ_=>rfl,eM _ _,by simp,Nat.le_refl _,Nat.le_refl _⟩
 rw[<-hN]; exact za hn
theorem oW.fin (h:oW m n N 0 x y Q qs):Q=m/n/\x=m%n:=by
 obtain⟨h1,h2,_⟩:=h
 rw[Nat.pow_zero,Nat.mul_one]at h2
 obtain⟨e1,e2⟩:=jX h1 h2
 exact⟨e1.symm,e2.symm⟩
set_option maxHeartbeats 4000000 in
theorem D9 (w:World) (v1 v2:Value) (m n N:Nat) (h1:aZ .u32 ah w v1 m) (h2:aZ .u32 ah w v2 n) (hl:(ae ah n).length≠1) (h0:0<n) {j:Nat} (hj:Bd j m) (hk:Bd j n) (ct:j<=10000000) (hN:aR m=aR n+N):
  Calls Tryz.prog 105 #[v1,v2] w (qP w (m/n) (m%n)):=by
 have qn:=nO w v1 m h1 hj (by omega)
 have hc2:=nO w v2 n h2 hk (by omega)
 have RD:=lK hj
 have RE:=lK hk
 have RF:=gY h0
 have hm0:0<m:=by
  rcases Nat.eq_zero_or_pos m with rfl|h
  ·rw[iy]at hN; omega
  ·exact h
 have HQ:=bx (oW.start (m:=m) (N:=N) h0 (by omega))
 have HM:=bx h1
 have HN:=bx h2
 have HJ:=bx (And.intro hj hk)
 have HY:Bx (Bd (2*j+1) (n*2^N)):=bx (by
  have:=hk.mul (Bd.pow2 (K:=N) (k:=j+1) (by omega))
  exact this.mono (by omega))
 have H0:=bx (And.intro hm0 h0)
 obtain⟨B,d,rfl,hb⟩:=h2
 have hlen:=hb.len
 have mw:(((ae ah n).length:Int)==1)=false:=beq_eq_false_iff_ne.2 (by omega)
 generalize (ae ah n).length=L at *
 have TH:(aR m:Int)-(aR n:Int)=(N:Int):=by omega
 have hN1:(N:Int)<=10000000:=by omega
 have On:(aR m:Int)<=100000000:=by omega
 have Oo:(aR n:Int)<=100000000:=by omega
 have PO:=bx qn
 have PR:=bx hc2
 have Tn:=bx TH
 clear qn hc2 hj hk hb RD RE hN TH h1 hm0 h0 RF hl
 generalize aR m=bm at *
 generalize aR n=bn at *
 go_enter Tryz.func105,Tryz.ntmps105
 go_upto_region 4 with(fail)
 go_cut [8] (λv8 w'=>w'=w/\v8=.int .i64 (N:Int))
 case first=>
  go_wp2_with fail
  refine Calls.mono PO.out ?_
  rintro e w' ⟨rfl,rfl⟩
  go_wp2_with fail
  refine Calls.mono PR.out ?_
  rintro e w' ⟨rfl,rfl⟩
  go_wp2
  go_meet
  case rel=>exact⟨rfl,by rw[Tn.out]⟩
 case rest=>
  obtain⟨rfl,rfl⟩:=hcut
  clear PO PR Tn On Oo
  have V0:N/32+1<=10000001:=by omega
  go_wp2_with (at_make; refine bY _ rfl _ _ _ rfl .u32 146 Tryz.underlying59 ko ((N/32+1:Nat):Int) ((N/32+1:Nat):Int) rfl rfl (by omega) (by omega) (by omega) ?_; intro w1 hrow bV hsz)
  rw[Int.toNat_natCast]at hrow
  refine Calls.mono (xp w1 _ n N (HN.out.below bV) H0.out.2 HJ.out.2 (by omega) (by omega)) ?_
  rintro e w2 ⟨gd,Ld,cd,hgd,rfl,hd,hb2⟩
  have hrow:=hrow.keep hb2
  have Fw:=kP.new (g:=wc.heap.size) hd (by omega)
  have Ug:=kP.old HM.out H0.out.1 (bV.trans (hb2.mono bV.size))
  have Fu:=bV.trans (hb2.mono bV.size)
  clear hd hb2 hgd bV hsz HM HN
  go_wp2_with fail
  go_loopw [0,10,11] (λs0 WK SS wr=>∃(i x y Q:Nat) (qs:List Nat),i<=N+1/\SS=.int .i64 ((i:Int)-1)/\kP wc.heap.size wr s0 x/\kP wc.heap.size wr WK y/\Bx (oW m n N i x y Q qs)/\Wf ah qs/\Row wr .u32 146 wc.heap.size qs/\Below wc.heap.size wc wr)
   (λ_ _ SS _=>(RowKit.intOf SS+1).toNat)
  case atStart=>exact⟨N+1,m,n*2^N,0,_,Nat.le_refl _,by go_num,Ug,Fw,HQ,Wf.replicate (by unfold ah; omega) _,hrow,Fu⟩
  case round=>
   clear hrow Ug Fw Fu
   obtain⟨i,x,y,Q,qs,hi,rfl,hx,hy,HI,IV,hr,hbl⟩:=hrel
   rcases Nat.eq_zero_or_pos i with rfl|hpos
   ·rw[show(((0:Nat):Int)-1) = -1 by omega]
    have HF:=bx (oW.fin HI.out)
    have hrd:=hr.dV (c:=N/32+1) (by have:=HI.out.2.2.2.2.2.1; omega) (by unfold maxLen; omega)
    have HL:=bx HI.out.2.2.2.2.2.1
    have HV:=bx HI.out.2.2.2.2.1
    go_wp2_with fail
    refine(om _ _ _ qs Q hrd IV _ HL.out HV.out).mono ?_
    rintro e w' ⟨rfl,v,rfl,hv⟩
    go_wp2
    go_ret2
    rw[<-HF.out.1,<-HF.out.2]
    exact⟨_,_,rfl,hv,hx.1,hbl⟩
   ·obtain⟨k,rfl⟩:∃k,i=k+1:=⟨i-1,by omega⟩
    rw[show(((k+1:Nat):Int)-1)=(k:Int) by omega]
    have uT:(0:Int)<=(k:Int):=by omega
    have kN:(k:Int)<=10000000:=by omega
    have UR:=bx (show Bd j x from HJ.out.1.le HI.out.2.2.2.2.2.2.1)
    have Tu:=bx (show Bd (2*j+1) y from HY.out.le HI.out.2.2.2.2.2.2.2)
    have Mi:k/32<qs.length:=by have:=HI.out.2.2.2.2.2.1; omega
    rcases Nat.lt_or_ge x y with hxy|hxy
    ·obtain⟨zc,wP,hz0⟩:=E7 hxy
     have HZ:=bx wP
     have Qt:=bx (HI.out.no hxy)
     clear wP hxy HI Mi
     go_wp2_with fail
     have hc:=er wr _ _ x y hx.1 hy.1
     rw[HZ.out]at hc
     refine Calls.mono hc ?_
     clear hc
     rintro e w3 ⟨rfl,hb3⟩
     have hx:=hx.below hb3
     have hy:=hy.below hb3
     have hr:=hr.keep hb3
     have hbl:=hbl.trans (hb3.mono hbl.size)
     clear hb3
     go_wp2_with fail
     refine Calls.mono (qm w3 _ y hy.1 Tu.out (by omega)) ?_
     rintro e w4 ⟨g4,L4,c4,hg4,rfl,h4,hb4⟩
     have IL:wc.heap.size<g4:=by have:=hr.lt; omega
     go_wp2
     go_roundw
     case rel=>exact⟨k,x,y/2,Q,qs,by omega,by go_num,hx.below hb4,kP.new h4 IL,Qt,IV,hr.keep hb4,hbl.trans (hb4.mono hbl.size)⟩
     case measure=>simp[RowKit.intOf]
    ·obtain⟨zc,wP,hz0⟩:=wA hxy
     have HZ:=bx wP
     have Ti:=bx hxy
     clear wP hxy
     go_wp2_with fail
     have hc:=er wr _ _ x y hx.1 hy.1
     rw[HZ.out]at hc
     refine Calls.mono hc ?_
     clear hc
     rintro e w3 ⟨rfl,hb3⟩
     have hx:=hx.below hb3
     have hy:=hy.below hb3
     have hr:=hr.keep hb3
     have hbl:=hbl.trans (hb3.mono hbl.size)
     clear hb3
     go_wp2_with fail
     refine Calls.mono (kJ w3 _ _ x y hx.1 hy.1 Ti.out UR.out (by omega)) ?_
     rintro e w4 ⟨g4,L4,c4,hg4,rfl,h4,hb4⟩
     have IL:wc.heap.size<g4:=by have:=hr.lt; omega
     have hx:=kP.new h4 IL
     have hy:=hy.below hb4
     have hr:=hr.keep hb4
     have hbl:=hbl.trans (hb4.mono hbl.size)
     clear hb4 h4 hg4 IL
     obtain⟨vq,RN,UN⟩:=hr.get (i:=k/32) Mi
     have tS:=hr.frozen (k/32)
     obtain⟨hroom,hi2⟩:=HI.out.yes IV UN.out Ti.out
     have Qt:=bx hi2
     have HB:=bx (Lm hroom)
     have HR:=bx hroom
     clear hi2 hroom
     go_wp2_with fail
     rw[HB.out]
     have hx:=hx.set (k/32) (.int .u32 ((vq+2^(k%32):Nat):Int))
     have hy:=hy.set (k/32) (.int .u32 ((vq+2^(k%32):Nat):Int))
     have hr:=hr.set (k/32) (vq+2^(k%32))
     have hbl:=hbl.setCell (p:=⟨wc.heap.size,k/32,none⟩) (Nat.le_refl _) (.int .u32 ((vq+2^(k%32):Nat):Int))
     have IV:=IV.set (i:=k/32) (x:=vq+2^(k%32)) (by have:=HR.out; unfold ah; omega)
     clear RN tS
     generalize w4.setCell ⟨wc.heap.size,k/32,none⟩ (.int .u32 ((vq+2^(k%32):Nat):Int))=w5 at *
     refine Calls.mono (qm w5 _ y hy.1 Tu.out (by omega)) ?_
     rintro e w6 ⟨g6,L6,c6,TW,rfl,h6,LS⟩
     have Sh:wc.heap.size<g6:=by have:=hr.lt; omega
     go_wp2
     go_roundw
     case rel=>exact⟨k,x-y,y/2,_,_,by omega,by go_num,hx.below LS,kP.new h6 Sh,Qt,IV,hr.keep LS,hbl.trans (LS.mono hbl.size)⟩
     case measure=>simp[RowKit.intOf]
theorem kA (w:World) (v1 v2:Value) (m n:Nat) (h1:aZ .u32 ah w v1 m) (h2:aZ .u32 ah w v2 n) (h0:0<n) {j:Nat} (hj:Bd j m) (hk:Bd j n) (ct:j<=10000000):
  Calls Tryz.prog 105 #[v1,v2] w (qP w (m/n) (m%n)):=by
 by_cases hl:(ae ah n).length=1
 ·exact GJ w v1 v2 m n h1 h2 hl hj (by omega)
 ·rcases Nat.lt_or_ge (aR m) (aR n)with h|h
  ·exact D8 w v1 v2 m n h1 h2 hl hj hk (by omega) h
  ·exact D9 w v1 v2 m n (aR m-aR n) h1 h2 hl h0 hj hk ct (by omega)
end Wx

namespace Wx
set_option maxHeartbeats 1000000
open Go Go.RowKit Go.Proofs
variable {w:World} {v:Value} {n:Nat}
theorem aZ.Pb {m:Nat} {k:IntKind} (h:aZ k ah w v m) (g:aZ k ah w v n):m=n:=by
 obtain⟨A,c,rfl,hr⟩:=h
 obtain⟨A',c',e,gr⟩:=g
 injection e with e1 e2 e3
 subst e1
 exact yh aj (hr.inj gr e2)
open Classical in
noncomputable def rj (w:World) (v:Value):Nat:=if h:∃n,aZ .u32 ah w v n then choose h else 0
theorem aZ.mA (h:aZ .u32 ah w v n):rj w v=n:=by
 have hx:∃n,aZ .u32 ah w v n:=⟨n,h⟩
 unfold rj
 rw[dif_pos hx]
 exact(Classical.choose_spec hx).Pb h
theorem qg (w:World) (v1 v2:Value) (m n:Nat) (h1:aZ .u32 ah w v1 m) (h2:aZ .u32 ah w v2 n) {j:Nat} (hj:Bd j m) (hk:Bd j n) (ct:j<=10000000):
  Calls Tryz.prog 104 #[v1,v2] w (dS .u32 ah w (Nat.gcd m n)):=by
 have HX:=bx (And.intro hj hk)
 clear hj hk
 obtain⟨G,hG⟩:∃G,G=Nat.gcd m n:=⟨_,rfl⟩
 rw[<-hG]
 have HG:=bx hG
 clear hG
 go_enter Tryz.func104,Tryz.ntmps104
 go_wp2_with fail
 go_loopw [0,1] (λs0 s1 wr=>∃x y:Nat,aZ .u32 ah wr s0 x/\aZ .u32 ah wr s1 y/\Bx (G=Nat.gcd x y)/\Bx (Bd j x/\Bd j y)/\Below w.heap.size w wr) (λ_ s1 wr=>rj wr s1)
 case atStart=>exact⟨_,_,h1,h2,HG,HX,Below.refl _ _⟩
 case round=>
  clear h1 h2 HG HX
  obtain⟨x,y,hx,hy,HG,HX,hb⟩:=hrel
  rcases Nat.eq_zero_or_pos y with rfl|hy0
  ·obtain⟨A,c,rfl,hr⟩:=id hy
   rw[aW]at hr ⊢
   go_wp2
   go_ret
   exact⟨_,rfl,by rw[HG.out,Nat.gcd_zero_right]; exact hx,hb⟩
  ·obtain⟨B,d,rfl,hs⟩:=id hy
   have mw:(0:Int)<((ae ah y).length:Int):=by have:=(aq (n:=y) aj).2 hy0; omega
   have CZ:=bx hy0
   have hlen:=hs.len
   generalize (ae ah y).length=L at *
   clear hy0 hs
   go_wp2_with fail
   refine(kA wr _ _ x y hx hy CZ.out HX.out.1 HX.out.2 ct).mono ?_
   rintro e w2 ⟨vq,vr,rfl,hq,hr,hb2⟩
   go_wp2
   go_roundw
   case rel=>
    exact⟨y,x%y,hy.below hb2,hr,bx (by rw[HG.out,Nat.gcd_comm x y,Nat.gcd_rec y x,Nat.gcd_comm]),bx ⟨HX.out.2,HX.out.1.le (Nat.mod_le _ _)⟩,hb.trans (hb2.mono hb.size)⟩
   case measure=>
    rw[aZ.mA hy,aZ.mA hr]
    exact Nat.mod_lt _ CZ.out
end Wx

namespace Wx
open Go Go.RowKit Go.Proofs
def dG (w:World) (g:Nat) (cs:List Value) (e:TypeId):Prop:=w.heap[g]?=some (.cells cs.toArray e (0,0))
variable {w:World} {g:Nat} {cs:List Value} {e:TypeId}
theorem dG.cell (h:dG w g cs e) {i:Nat} {v:Value} (hi:cs[i]?=some v):w.cell? ⟨g,i,none⟩=some v:=by
 unfold dG at h; simp[World.cell?,h,hi]
theorem dG.fz (h:dG w g cs e) (i:Nat):w.frozen? ⟨g,i,none⟩=false:=by unfold dG at h; simp[World.frozen?,h]
theorem dG.lt (h:dG w g cs e):g<w.heap.size:=by
 unfold dG at h
 rcases Nat.lt_or_ge g w.heap.size with h'|h'
 ·exact h'
 ·rw[Array.getElem?_eq_none h']at h; cases h
variable {w':World}
theorem dG.gone (h:dG w g cs e) (hb:Below w.heap.size w w'):dG w' g cs e:=(hb.block g h.lt).trans h
variable {r:Nat}
theorem dG.Iy (h:dG w g cs e) (hr:g≠r) (i:Nat) (u:Value):dG (w.setCell ⟨r,i,none⟩ u) g cs e:=(Below.heap_setCell w ⟨r,i,none⟩ u g hr).trans h
theorem dG.set (h:dG w g cs e) (i:Nat) (u:Value):dG (w.setCell ⟨g,i,none⟩ u) g (cs.set i u) e:=by
 unfold dG at *; simp[World.setCell,Array.getElem?_modify,h]
theorem dG.iz (h:dG w g cs e) (hv:∀v∈cs,dF v):xK w g:=by
 intro i k z hc
 unfold dG at h
 simp only[World.cell?,h]at hc
 have:cs[i]?=some (.int k z):=by simpa using hc
 exact hv _ (List.mem_of_getElem? this) k z rfl
theorem en (w:World) (cs:List Value) (e:TypeId):∃w',w.alloc (.cells cs.toArray e)=w'/\dG w' w.heap.size cs e/\Below w.heap.size w w'/\w'.heap.size=w.heap.size+1:=
 ⟨_,rfl,heap_alloc_new _ _,Below.alloc (Below.refl _ _) (Nat.le_refl _) _,by simp⟩
variable {v:Value} {n:Nat}
theorem aZ.MD {k:IntKind} {b:Nat} (h:aZ k b w v n) {g:Nat} (hg:xK w g) (i:Nat) (u:Value):aZ k b (w.setCell ⟨g,i,none⟩ u) v n:=by
 obtain⟨A,c,rfl,hr⟩:=h
 exact⟨A,c,rfl,hr.iz hg i u⟩
def bp (w:World) (r n:Nat) (e:TypeId) (ps:List (Nat×List Value×TypeId)) (w':World):Prop:=
 Below w.heap.size w w'/\w.heap.size<=r/\(∀p∈ps,p.1≠r/\dG w' p.1 p.2.1 p.2.2)/\∃cs,cs.length=n/\dG w' r cs e/\∀v∈cs,dF v
variable {ps:List (Nat×List Value×TypeId)}
theorem bp.call {w'':World} {p:Prop} (h:bp w r n e ps w'/\p) (hb:Below w'.heap.size w' w''):bp w r n e ps w'':=by
 obtain⟨⟨h1,h2,h3,cs,h4,h5,h6⟩,_⟩:=h
 exact⟨h1.trans (hb.mono h1.size),h2,λp hp=>⟨(h3 p hp).1,(h3 p hp).2.gone hb⟩,cs,h4,h5.gone hb,h6⟩
theorem bp.drew (h:bp w r n e ps w'):bp w r n e ps w'.drew:=by
 obtain⟨h1,h2,h3,h4⟩:=h
 exact⟨h1.drew,h2,h3,h4⟩
theorem bp.set (h:bp w r n e ps w') (i:Nat) {u:Value} (hu:dF u):bp w r n e ps (w'.setCell ⟨r,i,none⟩ u):=by
 obtain⟨h1,h2,h3,cs,h4,h5,h6⟩:=h
 refine⟨h1.setCell h2 _,h2,λp hp=>⟨(h3 p hp).1,(h3 p hp).2.Iy (h3 p hp).1 _ _⟩,cs.set i u,by rw[List.length_set,h4],h5.set i u,λv hv=>?_⟩
 rcases List.mem_or_eq_of_mem_set hv with h|h
 ·exact h6 v h
 ·rw[h]; exact hu
theorem bp.kI (h:bp w r n e ps w') {i:Nat} (hi:i<n):w'.cell? ⟨r,i,none⟩=some (cv w' ⟨r,i,none⟩):=by
 obtain⟨_,_,_,cs,h4,h5,_⟩:=h
 exact B9 (h5.cell (List.getElem?_eq_getElem (by omega)))
theorem bp.Ew (h:bp w r n e ps w') (i:Nat):w'.frozen? ⟨r,i,none⟩=false:=by
 obtain⟨_,_,_,cs,h4,h5,_⟩:=h
 exact h5.fz i
theorem bp.par (h:bp w r n e ps w') {p:Nat×List Value×TypeId} (hp:p∈ps):dG w' p.1 p.2.1 p.2.2:=(h.2.2.1 p hp).2
def cF (w:World) (r k:Nat):List Value->World
 |[]=>w
 |v::vs=>cF (w.setCell ⟨r,k,none⟩ v) r (k+1) vs
theorem bp.cF {w:World} {r n:Nat} {e:TypeId} {ps:List (Nat×List Value×TypeId)} (vs:List Value):∀(k:Nat) {w':World},bp w r n e ps w'->(∀v∈vs,dF v)->bp w r n e ps (cF w' r k vs):=by
 induction vs with
 |nil=>intro k w' h _; exact h
 |cons v vs ih=>intro k w' h hv; exact ih (k+1) (h.set k (hv v (by simp))) (λu hu=>hv u (List.mem_cons_of_mem _ hu))
theorem tG (vs:List Value):∀(k:Nat) {w:World} {cs:List Value},dG w r cs e->cs.length=k+vs.length->dG (cF w r k vs) r (cs.take k++vs) e:=by
 induction vs with
 |nil=>intro k w cs h hl; rw[List.append_nil,List.take_of_length_le (by simp at hl; omega)]; exact h
 |cons v vs ih=>
  intro k w cs h hl
  have:=ih (k+1) (h.set k v) (by rw[List.length_set]; simp at hl; omega)
  have e1:(cs.set k v).take (k+1)++vs=cs.take k++v::vs:=by
   have hk:k<(cs.set k v).length:=by rw[List.length_set]; simp at hl; omega
   rw[List.take_add_one,List.getElem?_eq_getElem hk,List.getElem_set_self,List.take_set_of_le (Nat.le_refl k)]
   simp
  rw[e1]at this
  exact this
theorem tF (vs:List Value):∀(k:Nat) {w:World} {cs:List Value},dG w r cs e->(∀v∈cs,dF v)->(∀v∈vs,dF v)->∀(kd:IntKind) (b:Nat) (v:Value) (m:Nat),aZ kd b w v m->aZ kd b (cF w r k vs) v m:=by
 induction vs with
 |nil=>intro k w cs _ _ _ kd b v m h; exact h
 |cons u vs ih=>
  intro k w cs h hc hv kd b v m hn
  refine ih (k+1) (h.set k u) (λx hx=>?_) (λx hx=>hv x (List.mem_cons_of_mem _ hx)) kd b v m (hn.MD (h.iz hc) k u)
  rcases List.mem_or_eq_of_mem_set hx with h'|h'
  ·exact hc x h'
  ·rw[h']; exact hv u (by simp)
theorem bp.fin (h:bp w r n e ps w') (vs:List Value) (hl:vs.length=n) (hv:∀v∈vs,dF v):
  ∃wf,Wx.cF w' r 0 vs=wf/\dG wf r vs e/\Below w.heap.size w wf/\(∀(kd:IntKind) (b:Nat) (v:Value) (m:Nat),aZ kd b w' v m->aZ kd b wf v m):=by
 have hs:=bp.cF vs 0 h hv
 obtain⟨h1,h2,h3,cs,h4,h5,h6⟩:=h
 refine⟨_,rfl,?_,hs.1,tF vs 0 h5 h6 hv⟩
 have:=tG vs 0 h5 (by omega)
 simpa using this
theorem cZ {b:Bool} {A1 A2:Option Addr} {l1 l2 c1 c2:Nat}:∀v∈[Value.bool b,.slice A1 l1 c1,.slice A2 l2 c2],dF v:=by
 intro v hv; simp at hv; rcases hv with rfl|rfl|rfl
 ·exact da _
 ·exact aU _ _ _
 ·exact aU _ _ _
theorem bp.KU (h:bp w r n e ps w') {b:Bool} {A1 A2:Option Addr} {l1 l2 c1 c2:Nat}:
  bp w r n e ps (((w'.setCell ⟨r,0,none⟩ (.bool b)).setCell ⟨r,1,none⟩ (.slice A1 l1 c1)).setCell ⟨r,2,none⟩ (.slice A2 l2 c2)):=
 ((h.set 0 (da _)).set 1 (aU _ _ _)).set 2 (aU _ _ _)
theorem bJ.into {q:Rat} (h:bJ w v q) (hn:∀(kd:IntKind) (b:Nat) (v:Value) (m:Nat),aZ kd b w v m->aZ kd b w' v m):bJ w' v q:=by
 obtain⟨vn,vd,rfl,h1,h2⟩:=h
 exact⟨vn,vd,rfl,hn _ _ _ _ h1,hn _ _ _ _ h2⟩
end Wx

namespace Wx
open Go Go.RowKit Go.Proofs
theorem dG.put {w:World} {g:Nat} {cs:List Value} {e:TypeId} (h:dG w g cs e) (hc:∀v∈cs,dF v) (vs:List Value) (hl:vs.length=cs.length) (hv:∀v∈vs,dF v):
  ∃w',cF w g 0 vs=w'/\dG w' g vs e/\(∀g' cs' e',g'≠g->dG w g' cs' e'->dG w' g' cs' e')/\(∀(kd:IntKind) (b:Nat) (v:Value) (m:Nat),aZ kd b w v m->aZ kd b w' v m)/\(∀w0:World,w0.heap.size<=g->Below w0.heap.size w0 w->Below w0.heap.size w0 w')/\w'.heap.size=w.heap.size:=by
 refine⟨_,rfl,?_,?_,tF vs 0 h hc hv,?_,?_⟩
 ·have:=tG vs 0 h (by omega)
  simpa using this
 ·intro g' cs' e' hne ho
  have key:∀(vs:List Value) (k:Nat) (w:World),dG w g' cs' e'->dG (cF w g k vs) g' cs' e':=by
   intro vs
   induction vs with
   |nil=>intro k w h; exact h
   |cons v vs ih=>intro k w h; exact ih (k+1) _ (h.Iy hne _ _)
  exact key vs 0 w ho
 ·intro w0 hg hb
  have key:∀(vs:List Value) (k:Nat) (w:World),Below w0.heap.size w0 w->Below w0.heap.size w0 (cF w g k vs):=by
   intro vs
   induction vs with
   |nil=>intro k w h; exact h
   |cons v vs ih=>intro k w h; exact ih (k+1) _ (h.setCell hg _)
  exact key vs 0 w hb
 ·have key:∀(vs:List Value) (k:Nat) (w:World),(cF w g k vs).heap.size=w.heap.size:=by
   intro vs
   induction vs with
   |nil=>intro k w; rfl
   |cons v vs ih=>intro k w; rw[cF,ih]; simp[World.setCell]
  exact key vs 0 w
def gF (w0:World) (ps:List (Nat×List Value×TypeId)) (w':World):Prop:=Below w0.heap.size w0 w'/\∀p∈ps,dG w' p.1 p.2.1 p.2.2
variable {w0:World} {ps:List (Nat×List Value×TypeId)} {w':World}
theorem gF.call {w'':World} {p:Prop} (h:gF w0 ps w'/\p) (hb:Below w'.heap.size w' w''):gF w0 ps w'':=
 ⟨h.1.1.trans (hb.mono h.1.1.size),λp hp=>(h.1.2 p hp).gone hb⟩
theorem gF.drew (h:gF w0 ps w'):gF w0 ps w'.drew:=⟨h.1.drew,h.2⟩
theorem gF.at_ (h:gF w0 ps w') {p:Nat×List Value×TypeId} (hp:p∈ps):dG w' p.1 p.2.1 p.2.2:=h.2 p hp
end Wx

namespace Wx
open Go Go.RowKit Go.Proofs
theorem gF.b {w0:World} {ps:List (Nat×List Value×TypeId)} {w:World} (h:gF w0 ps w):Below w0.heap.size w0 w:=h.1
theorem fh:∀v∈[Value.bool false,.slice none 0 0,.slice none 0 0],dF v:=cZ
end Wx
