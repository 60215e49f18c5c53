import Derived.Test.YtocboimkilkklaaGreatJRF15
namespace Wx
set_option maxRecDepth 100000
set_option maxHeartbeats 1000000
open Go Go.RowKit Go.Proofs
def sG (w:World) (q r:Nat) (e:Ending) (w':World):Prop:=∃v u,e=.returned (.tuple #[v,u])/\bq .u32 af w' v q/\bq .u32 af w' u r/\Below w.heap.size w w'
variable {n:Nat}
theorem Ch (h:(ae af n).length=1):ae af n=[n]/\0<n/\n<af:=by
 have h0:0<n:=(az ak).1 (by omega)
 have h1:=jM ak n
 rw[h,Nat.pow_one]at h1
 exact⟨oT ak h0 h1,h0,h1⟩
theorem JS (w:World) (v1 v2:Value) (m n:Nat) (h1:bq .u32 af w v1 m) (h2:bq .u32 af w v2 n) (hl:(ae af n).length=1) {j:Nat} (hj:Bd j m) (de:j<=100000000):
  Calls Tryz.prog 84 #[v1,v2] w (sG w (m/n) (m%n)):=by
 obtain⟨hd,zy,Fs⟩:=Ch hl
 obtain⟨B,d,rfl,hb⟩:=h2
 rw[hd]at hb ⊢
 obtain⟨g,o,x,rfl,hc,HX⟩:=hb.get (i:=0) (by simp)
 obtain rfl:n=x:=by have:=HX.out; simpa using this
 rw[Nat.add_zero]at hc
 have HJ:=bx hj
 have HN:=bx (And.intro zy Fs)
 have IF:=fc Fs
 have qO:[n].length=1:=rfl
 rw[qO]
 clear hd hl HX hb hj Fs qO
 go_enter Tryz.func84,Tryz.ntmps84
 go_wp2_with fail
 refine Calls.mono (rJ w v1 m n h1 HJ.out (by omega) HN.out.1 HN.out.2) ?_
 rintro e w2 ⟨vq,rfl,hq,hb2⟩
 have RU:m%n<b64:=by have h1:=Nat.mod_lt m HN.out.1; have h2:=HN.out.2; unfold af at h2; unfold b64; omega
 have Zi:((m%n:Nat):Int)<=4294967295:=by have h1:=Nat.mod_lt m HN.out.1; have h2:=HN.out.2; unfold af at h2; omega
 have HR:=bx RU
 clear RU
 generalize m%n=r at *
 go_wp2_with fail
 refine Calls.mono (dA w2 r HR.out) ?_
 rintro e w3 ⟨vr,rfl,hr,hb3⟩
 go_wp2
 go_ret2
 exact⟨_,_,rfl,hq.below hb3,hr,hb2.trans (hb3.mono hb2.size)⟩
theorem Gl (w:World) (v1 v2:Value) (m n:Nat) (h1:bq .u32 af w v1 m) (h2:bq .u32 af w v2 n) (hl:(ae af n).length≠1) {j:Nat} (hj:Bd j m) (hk:Bd j n) (de:j<=100000000) (hlt:bA m<bA n):
  Calls Tryz.prog 84 #[v1,v2] w (sG w (m/n) (m%n)):=by
 have hmn:=AY hlt
 rw[Nat.div_eq_of_lt hmn,Nat.mod_eq_of_lt hmn]
 have rf:=pL w v1 m h1 hj (by omega)
 have hc2:=pL w v2 n h2 hk (by omega)
 have Ut:=mX hj
 have Uu:=mX hk
 have HM:=bx h1
 obtain⟨B,d,rfl,hb⟩:=h2
 have hlen:=hb.len
 have qO:(((ae af n).length:Int)==1)=false:=beq_eq_false_iff_ne.2 (by omega)
 generalize (ae af n).length=L at *
 have RK:(bA m:Int)<(bA n:Int):=by omega
 have Rk:(bA m:Int)<=100000000:=by omega
 have Rl:(bA n:Int)<=100000000:=by omega
 have SK:=bx rf
 have SL:=bx hc2
 clear rf hc2 hj hk hb hmn Ut Uu hlt h1
 generalize bA m=bm at *
 generalize bA n=bn at *
 go_enter Tryz.func84,Tryz.ntmps84
 go_wp2_with fail
 refine Calls.mono SK.out ?_
 rintro e w' ⟨rfl,rfl⟩
 go_wp2_with fail
 refine Calls.mono SL.out ?_
 rintro e w' ⟨rfl,rfl⟩
 go_wp2
 go_ret2
 exact⟨_,_,rfl,bq.of ak (l:=[]) ⟨Nat.le_refl _,Nat.zero_le _,λh=>absurd rfl h⟩ rfl (Wf.nil _) pE.nil,HM.out.below (Below.alloc (Below.refl _ _) (Nat.le_refl _) _),Below.alloc (Below.refl _ _) (Nat.le_refl _) _⟩
def mA (g:Nat) (w:World) (v:Value) (n:Nat):Prop:=bq .u32 af w v n/\∀a l c,v=.slice (some a) l c->a.block≠g
variable {g:Nat} {w w':World} {v:Value}
theorem mA.below (h:mA g w v n) (hb:Below w.heap.size w w'):mA g w' v n:=⟨h.1.below hb,h.2⟩
theorem mA.set (h:mA g w v n) (i:Nat) (u:Value):mA g (w.setCell ⟨g,i,none⟩ u) v n:=by
 obtain⟨⟨A,c,rfl,h1,h2,h3⟩,h4⟩:=h
 refine⟨⟨A,c,rfl,h1,h2,λhne=>?_⟩,h4⟩
 obtain⟨b,o,rfl,hc⟩:=h3 hne
 refine⟨b,o,rfl,λk hk=>?_⟩
 rw[World.cell?_of_block (Below.heap_setCell w ⟨g,i,none⟩ u b (h4 _ _ _ rfl))]
 exact hc k hk
theorem mA.new {h L c:Nat} (hn:bq .u32 af w (.slice (some ⟨h,0,none⟩) L c) n) (hg:g<h):mA g w (.slice (some ⟨h,0,none⟩) L c) n:=by
 refine⟨hn,λa l c e=>?_⟩
 injection e with e
 injection e with e
 subst e
 show h≠g
 omega
theorem mA.old (h:bq .u32 af w v n) (hn:0<n) (hb:Below w.heap.size w w'):mA w.heap.size w' v n:=by
 refine⟨h.below hb,λa l c e=>?_⟩
 obtain⟨A,c',rfl,hr⟩:=h
 obtain⟨b,o,e',hc⟩:=hr.at_ ((az ak).2 hn)
 have:=World.block_lt_of_cell? w _ hc
 rw[e']at e
 injection e with e
 injection e with e
 subst e
 have:b<w.heap.size:=this
 show b≠w.heap.size
 omega
variable {i:Nat}
theorem NZ {v:Nat} (h:v+2^(i%32)<4294967296):((v:Int)+(2:Int)^(i%32))%4294967296=((v+2^(i%32):Nat):Int):=by
 have e:((2:Int)^(i%32))=((2^(i%32):Nat):Int):=by simp
 rw[e]
 generalize 2^(i%32)=P at *
 omega
variable {m:Nat}
theorem Hz (h:m<n):∃z,bK m n=z/\z<0:=⟨_,rfl,by unfold bK; rw[if_pos h]; omega⟩
def qT (m n N i x y Q:Nat) (qs:List Nat):Prop:=
 m=Q*n+x/\x<n*2^i/\2^i ∣ Q/\(0<i->y=n*2^(i-1))/\val af qs=Q/\qs.length=N/32+1/\x<=m/\y<=n*2^N
variable {N x y Q:Nat} {qs:List Nat}
theorem qT.yes {v:Nat} (h:qT m n N (i+1) x y Q qs) (hw:Wf af qs) (hv:qs[i/32]?=some v) (hle:y<=x):
  v+2^(i%32)<4294967296/\qT m n N i (x-y) (y/2) (Q+2^i) (qs.set (i/32) (v+2^(i%32))):=by
 obtain⟨h1,h2,h3,h4,h5,h6,h7,h8⟩:=h
 have hy:=h4 (by omega)
 rw[Nat.add_sub_cancel]at hy
 have e:af=4294967296:=rfl
 rw[e]at h5 hw
 have O3:v<4294967296:=hw _ (List.mem_of_getElem? hv)
 have hd:=Ko (i:=i) hw (by rw[h5]; exact h3) hv
 obtain⟨k1,_⟩:=FK h1 h2 h3
 obtain⟨a1,a2,a3⟩:=k1 (by rw[<-hy]; exact hle)
 refine⟨Hi O3 (Nat.mod_lt _ (by omega)) hd,by rw[hy]; exact a1,by rw[hy]; exact a2,a3,λhi=>?_,by rw[e,Mi hv,h5],by rw[List.length_set]; exact h6,by omega,by omega⟩
 obtain⟨k,rfl⟩:∃k,i=k+1:=⟨i-1,by omega⟩
 rw[hy,AB,Nat.add_sub_cancel]
theorem qT.no (h:qT m n N (i+1) x y Q qs) (hlt:x<y):qT m n N i x (y/2) Q qs:=by
 obtain⟨h1,h2,h3,h4,h5,h6,h7,h8⟩:=h
 have hy:=h4 (by omega)
 rw[Nat.add_sub_cancel]at hy
 refine⟨h1,by omega,Nat.dvd_trans (Nat.pow_dvd_pow 2 (by omega)) h3,λhi=>?_,h5,h6,h7,by omega⟩
 obtain⟨k,rfl⟩:∃k,i=k+1:=⟨i-1,by omega⟩
 rw[hy,AB,Nat.add_sub_cancel]
theorem qT.start (hn:0<n) (hN:bA m-bA n=N):qT m n N (N+1) m (n*2^N) 0 (List.replicate (N/32+1) 0):=by
 refine⟨by omega,?_,Nat.dvd_zero _,λ_=>rfl,gn _ _,by simp,Nat.le_refl _,Nat.le_refl _⟩
 rw[<-hN]; exact AZ hn
theorem qT.fin (h:qT m n N 0 x y Q qs):Q=m/n/\x=m%n:=by
 obtain⟨h1,h2,_⟩:=h
 rw[Nat.pow_zero,Nat.mul_one]at h2
 obtain⟨e1,e2⟩:=lG h1 h2
 exact⟨e1.symm,e2.symm⟩
set_option maxHeartbeats 4000000 in
theorem Gm (w:World) (v1 v2:Value) (m n N:Nat) (h1:bq .u32 af w v1 m) (h2:bq .u32 af w v2 n) (hl:(ae af n).length≠1) (h0:0<n) {j:Nat} (hj:Bd j m) (hk:Bd j n) (de:j<=10000000) (hN:bA m=bA n+N):
  Calls Tryz.prog 84 #[v1,v2] w (sG w (m/n) (m%n)):=by
 have rf:=pL w v1 m h1 hj (by omega)
 have hc2:=pL w v2 n h2 hk (by omega)
 have Ut:=mX hj
 have Uu:=mX hk
 have Uv:=jh h0
 have hm0:0<m:=by
  rcases Nat.eq_zero_or_pos m with rfl|h
  ·rw[jv]at hN; omega
  ·exact h
 have HQ:=bx (qT.start (m:=m) (N:=N) h0 (by omega))
 have HM:=bx h1
 have HN:=bx h2
 have HJ:=bx (And.intro hj hk)
 have HY:Bx (Bd (2*j+1) (n*2^N)):=bx (by
  have:=hk.mul (Bd.pow2 (K:=N) (k:=j+1) (by omega))
  exact this.mono (by omega))
 have H0:=bx (And.intro hm0 h0)
 obtain⟨B,d,rfl,hb⟩:=h2
 have hlen:=hb.len
 have qO:(((ae af n).length:Int)==1)=false:=beq_eq_false_iff_ne.2 (by omega)
 generalize (ae af n).length=L at *
 have WM:(bA m:Int)-(bA n:Int)=(N:Int):=by omega
 have hN1:(N:Int)<=10000000:=by omega
 have Rk:(bA m:Int)<=100000000:=by omega
 have Rl:(bA n:Int)<=100000000:=by omega
 have SK:=bx rf
 have SL:=bx hc2
 have Wm:=bx WM
 clear rf hc2 hj hk hb Ut Uu hN WM h1 hm0 h0 Uv hl
 generalize bA m=bm at *
 generalize bA n=bn at *
 go_enter Tryz.func84,Tryz.ntmps84
 go_upto_region 4 with(fail)
 go_cut [8] (λv8 w'=>w'=w/\v8=.int .i64 (N:Int))
 case first=>
  go_wp2_with fail
  refine Calls.mono SK.out ?_
  rintro e w' ⟨rfl,rfl⟩
  go_wp2_with fail
  refine Calls.mono SL.out ?_
  rintro e w' ⟨rfl,rfl⟩
  go_wp2
  go_meet
  case rel=>exact⟨rfl,by rw[Wm.out]⟩
 case rest=>
  obtain⟨rfl,rfl⟩:=hcut
  clear SK SL Wm Rk Rl
  have Y4:N/32+1<=10000001:=by omega
  go_wp2_with (at_make; refine da _ rfl _ _ _ rfl .u32 128 Tryz.underlying36 lK ((N/32+1:Nat):Int) ((N/32+1:Nat):Int) rfl rfl (by omega) (by omega) (by omega) ?_; intro w1 hrow cV hsz)
  rw[Int.toNat_natCast]at hrow
  refine Calls.mono (qF w1 _ n N (HN.out.below cV) H0.out.2 HJ.out.2 (by omega) (by omega)) ?_
  rintro e w2 ⟨gd,Ld,cd,hgd,rfl,hd,hb2⟩
  have hrow:=hrow.keep hb2
  have Iy:=mA.new (g:=wc.heap.size) hd (by omega)
  have Xn:=mA.old HM.out H0.out.1 (cV.trans (hb2.mono cV.size))
  have Iv:=cV.trans (hb2.mono cV.size)
  clear hd hb2 hgd cV hsz HM HN
  go_wp2_with fail
  go_loopw [0,10,11] (λs0 ZI VS wr=>∃(i x y Q:Nat) (qs:List Nat),i<=N+1/\VS=.int .i64 ((i:Int)-1)/\mA wc.heap.size wr s0 x/\mA wc.heap.size wr ZI y/\Bx (qT m n N i x y Q qs)/\Wf af qs/\Row wr .u32 128 wc.heap.size qs/\Below wc.heap.size wc wr)
   (λ_ _ VS _=>(RowKit.intOf VS+1).toNat)
  case atStart=>exact⟨N+1,m,n*2^N,0,_,Nat.le_refl _,by go_num,Xn,Iy,HQ,Wf.replicate (by unfold af; omega) _,hrow,Iv⟩
  case round=>
   clear hrow Xn Iy Iv
   obtain⟨i,x,y,Q,qs,hi,rfl,hx,hy,HI,Lq,hr,hbl⟩:=hrel
   rcases Nat.eq_zero_or_pos i with rfl|hpos
   ·rw[show(((0:Nat):Int)-1) = -1 by omega]
    have HF:=bx (qT.fin HI.out)
    have hrd:=hr.fF (c:=N/32+1) (by have:=HI.out.2.2.2.2.2.1; omega) (by unfold maxLen; omega)
    have HL:=bx HI.out.2.2.2.2.2.1
    have HV:=bx HI.out.2.2.2.2.1
    go_wp2_with fail
    refine(qn _ _ _ qs Q hrd Lq _ HL.out HV.out).mono ?_
    rintro e w' ⟨rfl,v,rfl,hv⟩
    go_wp2
    go_ret2
    rw[<-HF.out.1,<-HF.out.2]
    exact⟨_,_,rfl,hv,hx.1,hbl⟩
   ·obtain⟨k,rfl⟩:∃k,i=k+1:=⟨i-1,by omega⟩
    rw[show(((k+1:Nat):Int)-1)=(k:Int) by omega]
    have BO:(0:Int)<=(k:Int):=by omega
    have jE:(k:Int)<=10000000:=by omega
    have X1:=bx (show Bd j x from HJ.out.1.le HI.out.2.2.2.2.2.2.1)
    have Wt:=bx (show Bd (2*j+1) y from HY.out.le HI.out.2.2.2.2.2.2.2)
    have Vi:k/32<qs.length:=by have:=HI.out.2.2.2.2.2.1; omega
    rcases Nat.lt_or_ge x y with hxy|hxy
    ·obtain⟨zc,yR,hz0⟩:=Hz hxy
     have HZ:=bx yR
     have Tn:=bx (HI.out.no hxy)
     clear yR hxy HI Vi
     go_wp2_with fail
     have hc:=fU wr _ _ x y hx.1 hy.1
     rw[HZ.out]at hc
     refine Calls.mono hc ?_
     clear hc
     rintro e w3 ⟨rfl,hb3⟩
     have hx:=hx.below hb3
     have hy:=hy.below hb3
     have hr:=hr.keep hb3
     have hbl:=hbl.trans (hb3.mono hbl.size)
     clear hb3
     go_wp2_with fail
     refine Calls.mono (rT w3 _ y hy.1 Wt.out (by omega)) ?_
     rintro e w4 ⟨g4,L4,c4,hg4,rfl,h4,hb4⟩
     have Lo:wc.heap.size<g4:=by have:=hr.lt; omega
     go_wp2
     go_roundw
     case rel=>exact⟨k,x,y/2,Q,qs,by omega,by go_num,hx.below hb4,mA.new h4 Lo,Tn,Lq,hr.keep hb4,hbl.trans (hb4.mono hbl.size)⟩
     case measure=>simp[RowKit.intOf]
    ·obtain⟨zc,yR,hz0⟩:=ym hxy
     have HZ:=bx yR
     have Wh:=bx hxy
     clear yR hxy
     go_wp2_with fail
     have hc:=fU wr _ _ x y hx.1 hy.1
     rw[HZ.out]at hc
     refine Calls.mono hc ?_
     clear hc
     rintro e w3 ⟨rfl,hb3⟩
     have hx:=hx.below hb3
     have hy:=hy.below hb3
     have hr:=hr.keep hb3
     have hbl:=hbl.trans (hb3.mono hbl.size)
     clear hb3
     go_wp2_with fail
     refine Calls.mono (mg w3 _ _ x y hx.1 hy.1 Wh.out X1.out (by omega)) ?_
     rintro e w4 ⟨g4,L4,c4,hg4,rfl,h4,hb4⟩
     have Lo:wc.heap.size<g4:=by have:=hr.lt; omega
     have hx:=mA.new h4 Lo
     have hy:=hy.below hb4
     have hr:=hr.keep hb4
     have hbl:=hbl.trans (hb4.mono hbl.size)
     clear hb4 h4 hg4 Lo
     obtain⟨vq,UE,XY⟩:=hr.get (i:=k/32) Vi
     have vU:=hr.frozen (k/32)
     obtain⟨hroom,hi2⟩:=HI.out.yes Lq XY.out Wh.out
     have Tn:=bx hi2
     have HB:=bx (NZ hroom)
     have HR:=bx hroom
     clear hi2 hroom
     go_wp2_with fail
     rw[HB.out]
     have hx:=hx.set (k/32) (.int .u32 ((vq+2^(k%32):Nat):Int))
     have hy:=hy.set (k/32) (.int .u32 ((vq+2^(k%32):Nat):Int))
     have hr:=hr.set (k/32) (vq+2^(k%32))
     have hbl:=hbl.setCell (p:=⟨wc.heap.size,k/32,none⟩) (Nat.le_refl _) (.int .u32 ((vq+2^(k%32):Nat):Int))
     have Lq:=Lq.set (i:=k/32) (x:=vq+2^(k%32)) (by have:=HR.out; unfold af; omega)
     clear UE vU
     generalize w4.setCell ⟨wc.heap.size,k/32,none⟩ (.int .u32 ((vq+2^(k%32):Nat):Int))=w5 at *
     refine Calls.mono (rT w5 _ y hy.1 Wt.out (by omega)) ?_
     rintro e w6 ⟨g6,L6,c6,W5,rfl,h6,OD⟩
     have U7:wc.heap.size<g6:=by have:=hr.lt; omega
     go_wp2
     go_roundw
     case rel=>exact⟨k,x-y,y/2,_,_,by omega,by go_num,hx.below OD,mA.new h6 U7,Tn,Lq,hr.keep OD,hbl.trans (OD.mono hbl.size)⟩
     case measure=>simp[RowKit.intOf]
theorem fZ (w:World) (v1 v2:Value) (m n:Nat) (h1:bq .u32 af w v1 m) (h2:bq .u32 af w v2 n) (h0:0<n) {j:Nat} (hj:Bd j m) (hk:Bd j n) (de:j<=10000000):
  Calls Tryz.prog 84 #[v1,v2] w (sG w (m/n) (m%n)):=by
 by_cases hl:(ae af n).length=1
 ·exact JS w v1 v2 m n h1 h2 hl hj (by omega)
 ·rcases Nat.lt_or_ge (bA m) (bA n)with h|h
  ·exact Gl w v1 v2 m n h1 h2 hl hj hk (by omega) h
  ·exact Gm w v1 v2 m n (bA m-bA n) h1 h2 hl h0 hj hk de (by omega)
end Wx

namespace Wx
set_option maxHeartbeats 1000000
open Go Go.RowKit Go.Proofs
variable {w:World} {v:Value} {n:Nat}
theorem bq.R9 {m:Nat} {k:IntKind} (h:bq k af w v m) (g:bq k af w v n):m=n:=by
 obtain⟨A,c,rfl,hr⟩:=h
 obtain⟨A',c',e,gr⟩:=g
 injection e with e1 e2 e3
 subst e1
 exact Af ak (hr.inj gr e2)
open Classical in
noncomputable def sY (w:World) (v:Value):Nat:=if h:∃n,bq .u32 af w v n then choose h else 0
theorem bq.nW (h:bq .u32 af w v n):sY w v=n:=by
 have hx:∃n,bq .u32 af w v n:=⟨n,h⟩
 unfold sY
 rw[dif_pos hx]
 exact(Classical.choose_spec hx).R9 h
theorem rP (w:World) (v1 v2:Value) (m n:Nat) (h1:bq .u32 af w v1 m) (h2:bq .u32 af w v2 n) {j:Nat} (hj:Bd j m) (hk:Bd j n) (de:j<=10000000):
  Calls Tryz.prog 83 #[v1,v2] w (eW .u32 af w (Nat.gcd m n)):=by
 have HX:=bx (And.intro hj hk)
 clear hj hk
 obtain⟨G,hG⟩:∃G,G=Nat.gcd m n:=⟨_,rfl⟩
 rw[<-hG]
 have HG:=bx hG
 clear hG
 go_enter Tryz.func83,Tryz.ntmps83
 go_wp2_with fail
 go_loopw [0,1] (λs0 s1 wr=>∃x y:Nat,bq .u32 af wr s0 x/\bq .u32 af wr s1 y/\Bx (G=Nat.gcd x y)/\Bx (Bd j x/\Bd j y)/\Below w.heap.size w wr) (λ_ s1 wr=>sY wr s1)
 case atStart=>exact⟨_,_,h1,h2,HG,HX,Below.refl _ _⟩
 case round=>
  clear h1 h2 HG HX
  obtain⟨x,y,hx,hy,HG,HX,hb⟩:=hrel
  rcases Nat.eq_zero_or_pos y with rfl|hy0
  ·obtain⟨A,c,rfl,hr⟩:=id hy
   rw[bE]at hr ⊢
   go_wp2
   go_ret
   exact⟨_,rfl,by rw[HG.out,Nat.gcd_zero_right]; exact hx,hb⟩
  ·obtain⟨B,d,rfl,hs⟩:=id hy
   have qO:(0:Int)<((ae af y).length:Int):=by have:=(az (n:=y) ak).2 hy0; omega
   have EV:=bx hy0
   have hlen:=hs.len
   generalize (ae af y).length=L at *
   clear hy0 hs
   go_wp2_with fail
   refine(fZ wr _ _ x y hx hy EV.out HX.out.1 HX.out.2 de).mono ?_
   rintro e w2 ⟨vq,vr,rfl,hq,hr,hb2⟩
   go_wp2
   go_roundw
   case rel=>
    exact⟨y,x%y,hy.below hb2,hr,bx (by rw[HG.out,Nat.gcd_comm x y,Nat.gcd_rec y x,Nat.gcd_comm]),bx ⟨HX.out.2,HX.out.1.le (Nat.mod_le _ _)⟩,hb.trans (hb2.mono hb.size)⟩
   case measure=>
    rw[bq.nW hy,bq.nW hr]
    exact Nat.mod_lt _ EV.out
end Wx

namespace Wx
open Go Go.RowKit Go.Proofs
def eU (w:World) (g:Nat) (cs:List Value) (e:TypeId):Prop:=w.heap[g]?=some (.cells cs.toArray e (0,0))
variable {w:World} {g:Nat} {cs:List Value} {e:TypeId}
theorem eU.cell (h:eU w g cs e) {i:Nat} {v:Value} (hi:cs[i]?=some v):w.cell? ⟨g,i,none⟩=some v:=by
 unfold eU at h; simp[World.cell?,h,hi]
theorem eU.fz (h:eU w g cs e) (i:Nat):w.frozen? ⟨g,i,none⟩=false:=by unfold eU at h; simp[World.frozen?,h]
theorem eU.lt (h:eU w g cs e):g<w.heap.size:=by
 unfold eU at h
 rcases Nat.lt_or_ge g w.heap.size with h'|h'
 ·exact h'
 ·rw[Array.getElem?_eq_none h']at h; cases h
variable {w':World}
theorem eU.gone (h:eU w g cs e) (hb:Below w.heap.size w w'):eU w' g cs e:=(hb.block g h.lt).trans h
variable {r:Nat}
theorem eU.K9 (h:eU w g cs e) (hr:g≠r) (i:Nat) (u:Value):eU (w.setCell ⟨r,i,none⟩ u) g cs e:=(Below.heap_setCell w ⟨r,i,none⟩ u g hr).trans h
theorem eU.set (h:eU w g cs e) (i:Nat) (u:Value):eU (w.setCell ⟨g,i,none⟩ u) g (cs.set i u) e:=by
 unfold eU at *; simp[World.setCell,Array.getElem?_modify,h]
theorem eU.jw (h:eU w g cs e) (hv:∀v∈cs,eT v):zC w g:=by
 intro i k z hc
 unfold eU at h
 simp only[World.cell?,h]at hc
 have:cs[i]?=some (.int k z):=by simpa using hc
 exact hv _ (List.mem_of_getElem? this) k z rfl
theorem dy (w:World) (cs:List Value) (e:TypeId):∃w',w.alloc (.cells cs.toArray e)=w'/\eU w' w.heap.size cs e/\Below w.heap.size w w'/\w'.heap.size=w.heap.size+1:=
 ⟨_,rfl,heap_alloc_new _ _,Below.alloc (Below.refl _ _) (Nat.le_refl _) _,by simp⟩
variable {v:Value} {n:Nat}
theorem bq.Pj {k:IntKind} {b:Nat} (h:bq k b w v n) {g:Nat} (hg:zC w g) (i:Nat) (u:Value):bq k b (w.setCell ⟨g,i,none⟩ u) v n:=by
 obtain⟨A,c,rfl,hr⟩:=h
 exact⟨A,c,rfl,hr.jw hg i u⟩
def aC (w:World) (r n:Nat) (e:TypeId) (ps:List (Nat×List Value×TypeId)) (w':World):Prop:=
 Below w.heap.size w w'/\w.heap.size<=r/\(∀p∈ps,p.1≠r/\eU w' p.1 p.2.1 p.2.2)/\∃cs,cs.length=n/\eU w' r cs e/\∀v∈cs,eT v
variable {ps:List (Nat×List Value×TypeId)}
theorem aC.call {w'':World} {p:Prop} (h:aC w r n e ps w'/\p) (hb:Below w'.heap.size w' w''):aC w r n e ps w'':=by
 obtain⟨⟨h1,h2,h3,cs,h4,h5,h6⟩,_⟩:=h
 exact⟨h1.trans (hb.mono h1.size),h2,λp hp=>⟨(h3 p hp).1,(h3 p hp).2.gone hb⟩,cs,h4,h5.gone hb,h6⟩
theorem aC.drew (h:aC w r n e ps w'):aC w r n e ps w'.drew:=by
 obtain⟨h1,h2,h3,h4⟩:=h
 exact⟨h1.drew,h2,h3,h4⟩
theorem aC.set (h:aC w r n e ps w') (i:Nat) {u:Value} (hu:eT u):aC w r n e ps (w'.setCell ⟨r,i,none⟩ u):=by
 obtain⟨h1,h2,h3,cs,h4,h5,h6⟩:=h
 refine⟨h1.setCell h2 _,h2,λp hp=>⟨(h3 p hp).1,(h3 p hp).2.K9 (h3 p hp).1 _ _⟩,cs.set i u,by rw[List.length_set,h4],h5.set i u,λv hv=>?_⟩
 rcases List.mem_or_eq_of_mem_set hv with h|h
 ·exact h6 v h
 ·rw[h]; exact hu
theorem aC.dH (h:aC w r n e ps w') {i:Nat} (hi:i<n):w'.cell? ⟨r,i,none⟩=some (cv w' ⟨r,i,none⟩):=by
 obtain⟨_,_,_,cs,h4,h5,_⟩:=h
 exact DL (h5.cell (List.getElem?_eq_getElem (by omega)))
theorem aC.ou (h:aC w r n e ps w') (i:Nat):w'.frozen? ⟨r,i,none⟩=false:=by
 obtain⟨_,_,_,cs,h4,h5,_⟩:=h
 exact h5.fz i
theorem aC.par (h:aC w r n e ps w') {p:Nat×List Value×TypeId} (hp:p∈ps):eU w' p.1 p.2.1 p.2.2:=(h.2.2.1 p hp).2
def ct (w:World) (r k:Nat):List Value->World
 |[]=>w
 |v::vs=>ct (w.setCell ⟨r,k,none⟩ v) r (k+1) vs
theorem aC.ct {w:World} {r n:Nat} {e:TypeId} {ps:List (Nat×List Value×TypeId)} (vs:List Value):∀(k:Nat) {w':World},aC w r n e ps w'->(∀v∈vs,eT v)->aC w r n e ps (ct w' r k vs):=by
 induction vs with
 |nil=>intro k w' h _; exact h
 |cons v vs ih=>intro k w' h hv; exact ih (k+1) (h.set k (hv v (by simp))) (λu hu=>hv u (List.mem_cons_of_mem _ hu))
theorem vD (vs:List Value):∀(k:Nat) {w:World} {cs:List Value},eU w r cs e->cs.length=k+vs.length->eU (ct w r k vs) r (cs.take k++vs) e:=by
 induction vs with
 |nil=>intro k w cs h hl; rw[List.append_nil,List.take_of_length_le (by simp at hl; omega)]; exact h
 |cons v vs ih=>
  intro k w cs h hl
  have:=ih (k+1) (h.set k v) (by rw[List.length_set]; simp at hl; omega)
  have e1:(cs.set k v).take (k+1)++vs=cs.take k++v::vs:=by
   have hk:k<(cs.set k v).length:=by rw[List.length_set]; simp at hl; omega
   rw[List.take_add_one,List.getElem?_eq_getElem hk,List.getElem_set_self,List.take_set_of_le (Nat.le_refl k)]
   simp
  rw[e1]at this
  exact this
theorem vB (vs:List Value):∀(k:Nat) {w:World} {cs:List Value},eU w r cs e->(∀v∈cs,eT v)->(∀v∈vs,eT v)->∀(kd:IntKind) (b:Nat) (v:Value) (m:Nat),bq kd b w v m->bq kd b (ct w r k vs) v m:=by
 induction vs with
 |nil=>intro k w cs _ _ _ kd b v m h; exact h
 |cons u vs ih=>
  intro k w cs h hc hv kd b v m hn
  refine ih (k+1) (h.set k u) (λx hx=>?_) (λx hx=>hv x (List.mem_cons_of_mem _ hx)) kd b v m (hn.Pj (h.jw hc) k u)
  rcases List.mem_or_eq_of_mem_set hx with h'|h'
  ·exact hc x h'
  ·rw[h']; exact hv u (by simp)
theorem aC.fin (h:aC w r n e ps w') (vs:List Value) (hl:vs.length=n) (hv:∀v∈vs,eT v):
  ∃wf,Wx.ct w' r 0 vs=wf/\eU wf r vs e/\Below w.heap.size w wf/\(∀(kd:IntKind) (b:Nat) (v:Value) (m:Nat),bq kd b w' v m->bq kd b wf v m):=by
 have hs:=aC.ct vs 0 h hv
 obtain⟨h1,h2,h3,cs,h4,h5,h6⟩:=h
 refine⟨_,rfl,?_,hs.1,vB vs 0 h5 h6 hv⟩
 have:=vD vs 0 h5 (by omega)
 simpa using this
theorem bP {b:Bool} {A1 A2:Option Addr} {l1 l2 c1 c2:Nat}:∀v∈[Value.bool b,.slice A1 l1 c1,.slice A2 l2 c2],eT v:=by
 intro v hv; simp at hv; rcases hv with rfl|rfl|rfl
 ·exact cj _
 ·exact aG _ _ _
 ·exact aG _ _ _
theorem aC.nt (h:aC w r n e ps w') {b:Bool} {A1 A2:Option Addr} {l1 l2 c1 c2:Nat}:
  aC w r n e ps (((w'.setCell ⟨r,0,none⟩ (.bool b)).setCell ⟨r,1,none⟩ (.slice A1 l1 c1)).setCell ⟨r,2,none⟩ (.slice A2 l2 c2)):=
 ((h.set 0 (cj _)).set 1 (aG _ _ _)).set 2 (aG _ _ _)
theorem cq.into {q:Rat} (h:cq w v q) (hn:∀(kd:IntKind) (b:Nat) (v:Value) (m:Nat),bq kd b w v m->bq kd b w' v m):cq w' v q:=by
 obtain⟨vn,vd,rfl,h1,h2⟩:=h
 exact⟨vn,vd,rfl,hn _ _ _ _ h1,hn _ _ _ _ h2⟩
end Wx

namespace Wx
open Go Go.RowKit Go.Proofs
theorem eU.put {w:World} {g:Nat} {cs:List Value} {e:TypeId} (h:eU w g cs e) (hc:∀v∈cs,eT v) (vs:List Value) (hl:vs.length=cs.length) (hv:∀v∈vs,eT v):
  ∃w',ct w g 0 vs=w'/\eU w' g vs e/\(∀g' cs' e',g'≠g->eU w g' cs' e'->eU w' g' cs' e')/\(∀(kd:IntKind) (b:Nat) (v:Value) (m:Nat),bq kd b w v m->bq kd b w' v m)/\(∀w0:World,w0.heap.size<=g->Below w0.heap.size w0 w->Below w0.heap.size w0 w')/\w'.heap.size=w.heap.size:=by
 refine⟨_,rfl,?_,?_,vB vs 0 h hc hv,?_,?_⟩
 ·have:=vD vs 0 h (by omega)
  simpa using this
 ·intro g' cs' e' hne ho
  have key:∀(vs:List Value) (k:Nat) (w:World),eU w g' cs' e'->eU (ct w g k vs) g' cs' e':=by
   intro vs
   induction vs with
   |nil=>intro k w h; exact h
   |cons v vs ih=>intro k w h; exact ih (k+1) _ (h.K9 hne _ _)
  exact key vs 0 w ho
 ·intro w0 hg hb
  have key:∀(vs:List Value) (k:Nat) (w:World),Below w0.heap.size w0 w->Below w0.heap.size w0 (ct w g k vs):=by
   intro vs
   induction vs with
   |nil=>intro k w h; exact h
   |cons v vs ih=>intro k w h; exact ih (k+1) _ (h.setCell hg _)
  exact key vs 0 w hb
 ·have key:∀(vs:List Value) (k:Nat) (w:World),(ct w g k vs).heap.size=w.heap.size:=by
   intro vs
   induction vs with
   |nil=>intro k w; rfl
   |cons v vs ih=>intro k w; rw[ct,ih]; simp[World.setCell]
  exact key vs 0 w
def iQ (w0:World) (ps:List (Nat×List Value×TypeId)) (w':World):Prop:=Below w0.heap.size w0 w'/\∀p∈ps,eU w' p.1 p.2.1 p.2.2
variable {w0:World} {ps:List (Nat×List Value×TypeId)} {w':World}
theorem iQ.call {w'':World} {p:Prop} (h:iQ w0 ps w'/\p) (hb:Below w'.heap.size w' w''):iQ w0 ps w'':=
 ⟨h.1.1.trans (hb.mono h.1.1.size),λp hp=>(h.1.2 p hp).gone hb⟩
theorem iQ.drew (h:iQ w0 ps w'):iQ w0 ps w'.drew:=⟨h.1.drew,h.2⟩
theorem iQ.at_ (h:iQ w0 ps w') {p:Nat×List Value×TypeId} (hp:p∈ps):eU w' p.1 p.2.1 p.2.2:=h.2 p hp
end Wx

namespace Wx
open Go Go.RowKit Go.Proofs
variable {w:World} {ps:List (Nat×List Value×TypeId)}
theorem aC.b {r n:Nat} {e:TypeId} {w':World} (h:aC w r n e ps w'):Below w.heap.size w w':=h.1
theorem iQ.b {w0:World} (h:iQ w0 ps w):Below w0.heap.size w0 w:=h.1
theorem fA:∀v∈[Value.bool false,.slice none 0 0,.slice none 0 0],eT v:=bP
end Wx
