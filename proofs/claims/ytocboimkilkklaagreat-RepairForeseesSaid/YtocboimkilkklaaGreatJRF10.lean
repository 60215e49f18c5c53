import Derived.Test.YtocboimkilkklaaGreatJRF8
import Derived.Test.YtocboimkilkklaaGreatJRF9
namespace Wx
set_option maxRecDepth 100000
set_option maxHeartbeats 1000000
open Go Go.RowKit Go.Proofs
def yb (w:World) (q r:Nat) (e:Ending) (w':World):Prop:=∃v1 v2,e=.returned (.tuple #[v1,v2])/\bq .u64 b64 w' v1 q/\bq .u64 b64 w' v2 r/\Below w.heap.size w w'
theorem Ai (w:World) (v1 v2:Value) (m n:Nat) (h1:bq .u64 b64 w v1 m) (h2:bq .u64 b64 w v2 n) (hlt:m<n):
  Calls Tryz.prog 112 #[v1,v2] w (yb w (m/n) (m%n)):=by
 rw[Nat.div_eq_of_lt hlt,Nat.mod_eq_of_lt hlt]
 go_enter Tryz.func112,Tryz.ntmps112
 go_wp2_with fail
 refine(nM _ _ _ _ _ h1 h2).mono ?_
 rintro e w1 ⟨rfl,hb1⟩
 rw[show bK m n = -1 by unfold bK; rw[if_pos hlt]]
 have Fs:=h1.below hb1
 go_wp2
 go_ret2
 exact⟨_,_,rfl,bq.zero _ _ _,Fs,hb1⟩
variable {m n:Nat}
theorem ym (h:n<=m):∃z,bK m n=z/\¬(z<0):=⟨_,rfl,by unfold bK; rw[if_neg (by omega)]; split<;>omega⟩
theorem Ak (w:World) (v1 v2:Value) (m n:Nat) (h1:bq .u64 b64 w v1 m) (h2:bq .u64 b64 w v2 n) (hle:n<=m) (h0:0<n) (hn:n<b64) {j:Nat} (hj:Bd j m) (de:j<=1000000000):
  Calls Tryz.prog 112 #[v1,v2] w (yb w (m/n) (m%n)):=by
 obtain⟨z,hz,hz0⟩:=ym hle
 have HZ:=bx hz
 have hr:m%n<b64:=Nat.lt_trans (Nat.mod_lt m h0) hn
 have HR:=bx hr
 have HN:=bx hn
 clear hz hr hn
 have hc:=nM w v1 v2 m n h1 h2
 rw[HZ.out]at hc
 obtain⟨b,o,c,rfl,hcell⟩:=h2.one h0 HN.out
 go_enter Tryz.func112,Tryz.ntmps112
 go_wp2_with fail
 refine hc.mono ?_
 rintro e w1 ⟨rfl,hb1⟩
 have Fs:=h1.below hb1
 have hcell1:w1.cell? ⟨b,o,none⟩=some (.int .u64 (n:Int)):=by rw[hb1.cell (World.block_lt_of_cell? w _ hcell)]; exact hcell
 clear hc hcell
 go_wp2_with fail
 refine(Ca w1 v1 m n Fs hj de h0 HN.out).mono ?_
 rintro e w2 ⟨vq,rfl,hq,hb2⟩
 go_wp2_with fail
 refine(gR w2 (m%n) HR.out).mono ?_
 rintro e w3 ⟨vr,rfl,hr3,hb3⟩
 go_wp2
 go_ret2
 exact⟨_,_,rfl,hq.below hb3,hr3,(hb1.trans (hb2.mono hb1.size)).trans (hb3.mono (Nat.le_trans hb1.size hb2.size))⟩
theorem I9 {T V Q:Nat} (hT:0<T) (h:V+Q*b64^0*(n*T)=m*T) (hlt:V<n*T):Q=m/n/\V/T=m%n/\V<=m*T:=by
 rw[Nat.pow_zero,Nat.mul_one]at h
 obtain⟨h1,h2⟩:=lG (m:=m*T) (d:=n*T) (q:=Q) (r:=V) (by omega) hlt
 rw[Nat.mul_div_mul_right _ _ hT]at h1
 rw[Nat.mul_mod_mul_right]at h2
 exact⟨h1.symm,by rw[<-h2,Nat.mul_div_cancel _ hT],by omega⟩
theorem Row.grown {w w':World} {k:IntKind} {e:TypeId} {g g':Nat} {l:List Nat} (h:Row w k e g l) (hg:w.grownBy w' (some g')) (hne:g'≠g):Row w' k e g l:=by
 obtain⟨rest,h1⟩:=h
 exact⟨rest,by rw[<-h1]; exact hg.block g (Row.lt ⟨rest,h1⟩) (by simp; omega)⟩
theorem iL (h:b64<=n):2<=(ae b64 n).length:=by
 rcases Nat.lt_or_ge (ae b64 n).length 2 with hl|hl
 ·have:=jM ai n
  have:b64^(ae b64 n).length<=b64^1:=Nat.pow_le_pow_right (by unfold b64; omega) (by omega)
  rw[Nat.pow_one]at this
  omega
 ·exact hl
theorem qX (h:n<=m):(ae b64 n).length<=(ae b64 m).length:=by
 rcases Nat.lt_or_ge (ae b64 m).length (ae b64 n).length with hl|hl
 ·have:=cZ ai hl; omega
 ·exact hl
theorem Aj (w:World) (v1 v2:Value) (m n:Nat) (h1:bq .u64 b64 w v1 m) (h2:bq .u64 b64 w v2 n) (hle:n<=m) (hn:b64<=n) {j:Nat} (hj:Bd j m) (de:j<=100000000):
  Calls Tryz.prog 112 #[v1,v2] w (yb w (m/n) (m%n)):=by
 obtain⟨z,hz,hz0⟩:=ym hle
 have hc:=nM w v1 v2 m n h1 h2
 rw[hz]at hc
 clear hz
 have IE:=iL hn
 have Ng:=kM ai n
 have hwn:=bW ai n
 obtain⟨B,d,rfl,hb⟩:=id h2
 obtain⟨bb,ob,tb,rfl,hcb,Tx⟩:=hb.get (i:=(ae b64 n).length-1) (by omega)
 have htb:0<tb:=by
  rcases Nat.eq_zero_or_pos tb with rfl|h
  ·exfalso; apply Ng
   rw[List.getLast?_eq_getElem?]; exact Tx.out
  ·exact h
 have RX:tb<b64:=hwn _ (List.mem_of_getElem? Tx.out)
 obtain⟨s,hs,hs1⟩:∃s,s=64-Lib.bitLen tb/\s<=64:=⟨_,rfl,by omega⟩
 have hbl:=hb.len
 have HS:=bx hs
 have Wq:=bx (And.intro htb RX)
 have hNe:(((ae b64 n).length:Int)==1)=false:=beq_eq_false_iff_ne.2 (by omega)
 have Yw:(0:Int)<=((ae b64 n).length:Int)-1:=by omega
 have S3:Bd (j+65) (m*2^s):=(hj.mul (show Bd 65 (2^s)from Nat.pow_lt_pow_right (by omega) (by omega)))
 have W8:Bd j n:=hj.le hle
 have hmn:n*2^s<=m*2^s:=Nat.mul_le_mul_right _ hle
 have Xb:b64<=n*2^s:=Nat.le_trans hn (Nat.le_mul_of_pos_right n (Nat.two_pow_pos s))
 have HH:=bx (And.intro hmn Xb)
 have HJ:=bx (And.intro hj (And.intro W8 S3))
 clear hs htb RX hj W8 S3 hmn Xb Ng hn hwn
 generalize hN:(ae b64 n).length=N at *
 clear hN
 go_enter Tryz.func112,Tryz.ntmps112
 go_wp2_with fail
 refine hc.mono ?_
 rintro e w1 ⟨rfl,hb1⟩
 have h11:=h1.below hb1
 have Ir:=h2.below hb1
 have UA:w1.cell? ⟨bb,ob+(N-1),none⟩=some (.int .u64 (tb:Int)):=by rw[hb1.cell (World.block_lt_of_cell? w _ hcb)]; exact hcb
 clear hc hcb h1 h2 hb
 go_wp2_with fail
 refine(Sf tb Wq.out.1 Wq.out.2 w1).mono ?_
 rintro e w' ⟨rfl,rfl⟩
 rw[<-HS.out]
 go_wp2_with fail
 refine(iy w1 _ n s Ir HJ.out.2.1 (by omega) (by omega)).mono ?_
 rintro e w2 ⟨v,rfl,hv2,hb2⟩
 have h12:=h11.below hb2
 have yH:=hb1.trans (hb2.mono hb1.size)
 clear h11 Ir UA hb1 hb2
 go_wp2_with fail
 have iI:=(Below.refl w2.heap.size w2).alloc (Nat.le_refl _) (.cells #[] 119)
 refine(iy _ _ m s (h12.below iI) HJ.out.1 (by omega) (by omega)).mono ?_
 rintro e w3 ⟨x,rfl,hx3,hb3⟩
 have Na:(w2.alloc (.cells #[] 119)).ownsRow w2.heap.size 119 1 (.slice (some ⟨w2.heap.size,0,none⟩) 0 0) 0 (gl .u64 []):=World.ownsRow_made w2 #[] 0 (Nat.le_refl _) (Nat.zero_le _) rfl
 have D2:=Na.kept (di hb3 none) (.inr (by simp[Value.ownBlock]))
 have sw:Below w2.heap.size w2 w3:=iI.trans (hb3.mono iI.size)
 have hv3:=hv2.below sw
 have Ym:=h12.below sw
 clear Na iI hb3 h12
 obtain⟨X,cx,rfl,VD⟩:=hx3
 have S7:(ae b64 (m*2^s)).length<=100000000:=by
  have:=qi HJ.out.2.2; omega
 have VC:=qX HH.out.1
 have Vs:=iL HH.out.2
 obtain⟨V,cv,rfl,KG⟩:=hv2
 clear hv3
 have Xl:=(Ds.of KG).qZ (di sw none) (by intro g hg; cases hg)
 clear KG
 have Rg:=bx (bF ai (n*2^s))
 have Uk:=bW ai (n*2^s)
 have WW:=bx (kM ai (n*2^s))
 have WY:=bx (bF ai (m*2^s))
 have Ul:=bW ai (m*2^s)
 generalize ae b64 (n*2^s)=vl at *
 generalize ae b64 (m*2^s)=al at *
 obtain⟨bxx,ox,x0,rfl,xo,_⟩:=VD.get (i:=0) (by omega)
 clear xo
 go_upto_region 9 with(first
  |(at_builtin; refine pD _ rfl (.tmp 45) (.tmp 48) _ rfl .u64 119 w2.heap.size Tryz.underlying30 kA (.slice (some ⟨w2.heap.size,0,none⟩) 0 0) [] rfl D2 _ _ _ al _ rfl rfl VD (by simp; omega) sw.size ?_; intro U4 A4 c4 w4 PY pX hg4)
  |(at_builtin; refine pD _ rfl (.tmp 49) (.tmp 50) _ rfl .u64 119 w2.heap.size Tryz.underlying30 kA (.slice A4 U4.length c4) U4 rfl (pX.alloc _) _ _ _ [0] 1 rfl rfl ((Row.new w4 .u64 119 [0]).fF (c:=1) (by simp) (by simp[maxLen])) (by rw[PY.out]; simp; omega) (by simp; have h5:=sw.size; have h6:=hg4.size; omega) ?_; intro U A5 c5 w5 Qm Nb UQ))
 have YC:U.length=al.length+1:=by rw[Qm.out,PY.out]; simp
 have RY:=Xl.qZ hg4 (by intro g hg; simp[Value.ownBlock]at hg; omega)
 have II:∀k,(Value.slice A4 U4.length c4).ownBlock=some k->w2.heap.size<=k:=λk hk=>(pX.lt k hk).1
 have RZ:=(RY.qZ (World.grownBy_alloc w4 _ none) (by intro g hg; cases hg)).qZ UQ II
 have Lh:Below w.heap.size w w4:=(yH.trans (sw.mono yH.size)).grown hg4 (Nat.le_trans yH.size sw.size) (by intro g hg; simp[Value.ownBlock]at hg; have:=yH.size; omega)
 have SV:Below w.heap.size w w5:=(Lh.alloc Lh.size (.cells #[.int .u64 0] 119)).grown UQ (by have:=Lh.size; simp; omega) (by intro g hg; have:=II g hg; have:=yH.size; omega)
 obtain⟨g,rfl,hgB,SY,BN,Ug⟩:=Bu Nb (by omega)
 clear Xl RY II Lh hg4 UQ D2 pX Nb Ym VD
 have Re:Bx (val b64 U+val b64 (List.drop (U.length-vl.length) (List.replicate (U.length-vl.length) 0))*b64^(U.length-vl.length)*(n*2^s)=m*2^s):=by
  refine bx ?_
  rw[List.drop_of_length_le (by simp),EK,Nat.zero_mul,Nat.zero_mul,Nat.add_zero,Qm.out,PY.out,List.nil_append,ic,WY.out]
  simp[val]
 have Q7:Bx (val b64 (U.drop (U.length-vl.length))<n*2^s):=by
  refine bx ?_
  have e1:U.drop (U.length-vl.length)=(al.drop (U.length-vl.length))++[0]:=by
   rw[Qm.out,PY.out,List.nil_append,List.drop_append_of_le_length (by simp; omega)]
  rw[e1,ic]
  have h1:=gC (Ul.drop (U.length-vl.length))
  have h2:=nj ai (n:=n*2^s) (by have:=HH.out.2; unfold b64 at this; omega)
  have h3:(ae b64 (n*2^s)).length=vl.length:=by rw[<-Rg.out,mJ ai Uk WW.out]
  rw[h3]at h2
  rw[List.length_drop,show al.length-(U.length-vl.length)=vl.length-1 by omega]at h1
  simp[val]
  omega
 have YF:Wf b64 U:=by rw[Qm.out,PY.out]; exact(Wf.append (Wf.nil _) Ul).append (Wf.cons (by unfold b64; omega) (Wf.nil _))
 have YD:vl.length+1<=U.length:=by omega
 have YE:U.length<=100000001:=by omega
 clear PY Qm YC Ul WY S7 VC
 go_wp2_with (at_make; go_loud (refine da _ rfl _ _ _ rfl .u64 119 Tryz.underlying30 kA _ _ rfl rfl (by omega) (by omega) (by omega) ?_); intro w6 hrow cV hsz)
 rw[show((U.length:Int)-(vl.length:Int)).toNat=U.length-vl.length by omega]at hrow
 rw[show decide (z<0)=false from decide_eq_false (by omega)]
 have Rb:=SY.keep cV
 have R1:=RZ.qZ (di cV none) (by intro g hg; cases hg)
 have WI:=SV.trans (cV.mono SV.size)
 have W6:g≠w5.heap.size:=by have:=SY.lt; omega
 generalize WN:U.length-vl.length=Qn at *
 have Ts:=bx WN
 have hq1:(Qn:Int)<=100000001:=by omega
 have hcc:c5<=9223372036854775807:=by unfold maxLen at Ug; omega
 have Wi:=bx W6
 have Tu:=bx (And.intro SV.size (show w2.heap.size<=w5.heap.size by have:=SY.lt; omega))
 have Tv:=bx (show w.heap.size<=g by have:=yH.size; omega)
 clear SY RZ SV cV hsz WN hz0 W6 Tx hNe Yw hbl IE yH sw
 go_loopw [13] (λVT wr=>∃(i:Nat) (M qs:List Nat),i<=Qn/\VT=.int .i64 ((i:Int)-1)/\Bx (M.length=U.length)/\Wf b64 M/\Bx (qs.length=Qn)/\Wf b64 qs/\Row wr .u64 119 g M/\Row wr .u64 119 w5.heap.size qs/\Ds wr w2.heap.size .u64 V cv vl/\Below w.heap.size w wr /\
   Bx (val b64 M+val b64 (qs.drop i)*b64^i*(n*2^s)=m*2^s)/\Bx (val b64 (M.drop i)<n*2^s)) (λVT _=>(RowKit.intOf VT+1).toNat)
 case atStart=>exact⟨Qn,U,List.replicate Qn 0,Nat.le_refl _,rfl,bx rfl,YF,bx (by simp),Wf.replicate (by unfold b64; omega) _,Rb,hrow,R1,WI,Re,Q7⟩
 case round=>
  clear Rb hrow R1 WI Re Q7
  obtain⟨i,M,qs,hi,rfl,G3,IM,Qk,Lq,Nd,Vl,KG,Q6,dh,EU⟩:=hrel
  rcases Nat.eq_zero_or_pos i with rfl|hpos
  ·rw[show(((0:Nat):Int)-1) = -1 by omega]
   go_wp2_with fail
   obtain⟨e1,e2,e3⟩:=I9 (Nat.two_pow_pos s) dh.out EU.out
   have E1:=bx e1
   have E2:=bx e2
   have E3:=bx (HJ.out.2.2.le e3)
   clear e1 e2 e3 hcc hq1
   refine(iV wr (some ⟨w5.heap.size,0,none⟩) Qn qs (m/n) (Vl.fF (by rw[Qk.out]; exact Nat.le_refl _) (by have:=Ts.out; unfold maxLen; omega)) Lq Qn Qk.out E1.out).mono ?_
   rintro e w' ⟨rfl,vq,rfl,Y8⟩
   go_wp2_with fail
   refine(iV wr (some ⟨g,0,none⟩) c5 M _ (Nd.fF (by rw[G3.out]; exact BN) Ug) IM U.length G3.out rfl).mono ?_
   rintro e w' ⟨rfl,vM,rfl,Y7⟩
   go_wp2_with fail
   refine(Gp wr vM (val b64 M) s Y7 E3.out (by omega) (by omega)).mono ?_
   rintro e wf ⟨vr,rfl,Xc,S0⟩
   go_wp2
   go_ret2
   rw[E2.out]at Xc
   exact⟨_,_,rfl,Y8.below S0,Xc,Q6.trans (S0.mono Q6.size)⟩
  ·obtain⟨k,rfl⟩:∃k,i=k+1:=⟨i-1,by omega⟩
   rw[show(((k+1:Nat):Int)-1)=(k:Int) by omega]
   have BO:(0:Int)<=(k:Int):=by omega
   have jE:(k:Int)<(Qn:Int):=by omega
   have hk2:(k:Int)+(vl.length:Int)+1<=(c5:Int):=by have:=Ts.out; omega
   go_wp2_with fail
   have RG:k+(vl.length+1)<=M.length:=by have:=Ts.out; have:=G3.out; omega
   have OQ:=rW RG IM (V:=n*2^s) EU.out
   rw[<-Rg.out]at OQ
   have Rn:vl.length+1<=c5-k:=by omega
   rw[show k+vl.length+1-k=vl.length+1 by omega]
   have Ro:c5-k<=maxLen:=Nat.le_trans (Nat.sub_le _ _) Ug
   have R2:vl.length<=1000000000:=by omega
   refine(Fa wr w2.heap.size g k (c5-k) M vl V cv Nd IM RG Rn Ro KG hgB Uk R2 Vs WW.out OQ).mono ?_
   clear OQ Rn
   rintro e wd ⟨rfl,hgd,M',OB,Vv,Vj,Cw,hdr,sA⟩
   have O0:=Vl.grown hgd Wi.out
   have Vu:=KG.grown hgd hgB
   have T9:=Q6.grown hgd Q6.size (by intro g' yL; injection yL with yL; have:=Tv.out; omega)
   obtain⟨l1,l2⟩:=FO OB RG (show n*2^s<b64^vl.length by rw[<-Rg.out]; exact gC Uk) (by rw[Qk.out]; omega) Cw hdr (by rw[<-Rg.out]; exact sA) EU.out dh.out
   rw[Rg.out]
   have IG:val b64 (win M k (vl.length+1))/(n*2^s)<b64:=by
    rw[Nat.div_lt_iff_lt_mul (by have:=EU.out; omega),Nat.mul_comm]
    exact rW RG IM EU.out
   have Tp:=bx (OB.trans G3.out)
   generalize S6:val b64 (win M k (vl.length+1))/(n*2^s)=qd at *
   have XL:=bx l1
   have XM:=bx l2
   have XT:=bx IG
   clear Ro R2 l1 l2 IG S6 Cw hdr sA OB RG Nd Vl KG Q6 IM G3 hgd dh EU
   obtain⟨vo,DY,GI⟩:=O0.get (i:=k) (by have:=Qk.out; omega)
   have vU:=O0.frozen k
   go_wp2
   go_roundw
   case rel=>
    exact⟨k,M',qs.set k qd,by omega,by go_num,Tp,Vv,bx (by rw[List.length_set]; exact Qk.out),Lq.set XT.out,Vj.K9 (by simpa using Wi.out) _,O0.set _ _,Vu.qZ (xn _ _ _ _) (by intro g' yL; injection yL with yL; have:=Tu.out.2; omega),T9.setCell Tu.out.1 _,XL,XM⟩
   case measure=>simp[RowKit.intOf]
theorem eX (w:World) (v1 v2:Value) (m n:Nat) (h1:bq .u64 b64 w v1 m) (h2:bq .u64 b64 w v2 n) (h0:0<n) {j:Nat} (hj:Bd j m) (de:j<=100000000):
  Calls Tryz.prog 112 #[v1,v2] w (yb w (m/n) (m%n)):=by
 rcases Nat.lt_or_ge m n with hlt|hge
 ·exact Ai w v1 v2 m n h1 h2 hlt
 ·rcases Nat.lt_or_ge n b64 with hn|hn
  ·exact Ak w v1 v2 m n h1 h2 hge h0 hn hj (by omega)
  ·exact Aj w v1 v2 m n h1 h2 hge hn hj de
end Wx

namespace Wx
set_option maxHeartbeats 1000000
open Go Go.RowKit Go.Proofs
variable {w:World} {k:IntKind}
theorem Rd.inj {A:Option Addr} {c c':Nat} {l r:List Nat} (h:Rd w k A c l) (g:Rd w k A c' r) (hl:l.length=r.length):l=r:=by
 apply List.ext_getElem hl
 intro i h1 h2
 obtain⟨b,o,e,hc⟩:=h.at_ (i:=i) h1
 obtain⟨b',o',e',hc'⟩:=g.at_ (i:=i) h2
 rw[e]at e'
 injection e' with e'
 injection e' with e1 e2
 subst e1 e2
 rw[hc]at hc'
 injection hc' with hc'
 injection hc' with _ hc'
 rw[List.getD_eq_getElem?_getD,List.getD_eq_getElem?_getD,List.getElem?_eq_getElem h1,List.getElem?_eq_getElem h2]at hc'
 simp only[Option.getD_some]at hc'
 omega
variable {v:Value} {n:Nat}
theorem bq.inj {m:Nat} (h:bq k b64 w v m) (g:bq k b64 w v n):m=n:=by
 obtain⟨A,c,rfl,hr⟩:=h
 obtain⟨A',c',e,gr⟩:=g
 injection e with e1 e2 e3
 subst e1
 exact Af ai (hr.inj gr e2)
open Classical in
noncomputable def numOf (w:World) (v:Value):Nat:=if h:∃n,bq .u64 b64 w v n then choose h else 0
theorem bq.of_eq (h:bq .u64 b64 w v n):numOf w v=n:=by
 have hx:∃n,bq .u64 b64 w v n:=⟨n,h⟩
 unfold numOf
 rw[dif_pos hx]
 exact(Classical.choose_spec hx).inj h
theorem oW (h:n<b64):(ae b64 n).length<=1:=gM ai (by simpa using h)
theorem vN (h:¬n<b64):2<=(ae b64 n).length:=iL (by omega)
theorem sR (w:World) (v1 v2:Value) (m n:Nat) (h1:bq .u64 b64 w v1 m) (h2:bq .u64 b64 w v2 n) {j:Nat} (hj:Bd j m) (hk:Bd j n) (de:j<=100000000):
  Calls Tryz.prog 110 #[v1,v2] w (eW .u64 b64 w (Nat.gcd m n)):=by
 have HX:=bx (And.intro hj hk)
 clear hj hk
 obtain⟨G,hG⟩:∃G,G=Nat.gcd m n:=⟨_,rfl⟩
 rw[<-hG]
 have HG:=bx hG
 clear hG
 go_enter Tryz.func110,Tryz.ntmps110
 go_wp2_with fail
 go_loopw [0,1] (λs0 s1 wr=>∃x y:Nat,bq .u64 b64 wr s0 x/\bq .u64 b64 wr s1 y/\Bx (G=Nat.gcd x y)/\Bx (Bd j x/\Bd j y)/\Below w.heap.size w wr) (λ_ s1 wr=>numOf wr s1)
 case atStart=>exact⟨_,_,h1,h2,HG,HX,Below.refl _ _⟩
 case round=>
  clear h1 h2 HG HX
  obtain⟨x,y,hx,hy,HG,HX,hb⟩:=hrel
  rcases Nat.eq_zero_or_pos y with rfl|hy0
  ·obtain⟨A,c,rfl,hr⟩:=id hy
   rw[bE]at hr ⊢
   go_wp2
   go_ret
   exact⟨_,rfl,by rw[HG.out,Nat.gcd_zero_right]; exact hx,hb⟩
  ·obtain⟨A,c,rfl,hr⟩:=id hx
   obtain⟨B,d,rfl,hs⟩:=id hy
   have qO:(1:Int)<=((ae b64 y).length:Int):=by have:=(az (n:=y) ai).2 hy0; omega
   by_cases hx1:x<b64
   ·by_cases qP:y<b64
    ·have a1:((ae b64 x).length:Int)<=1:=by have:=oW hx1; omega
     have a2:((ae b64 y).length:Int)<=1:=by have:=oW qP; omega
     have X0:=bx hx1
     have Ws:=bx qP
     have EV:=bx hy0
     clear hx1 qP hy0
     go_wp2_with fail
     refine(Gv wr _ _ x y hx hy X0.out Ws.out EV.out).mono ?_
     rintro e w2 ⟨rfl,hb2⟩
     go_wp2_with fail
     refine(gR w2 _ (Nat.lt_of_le_of_lt (Nat.gcd_le_right x EV.out) Ws.out)).mono ?_
     rintro e w3 ⟨vr,rfl,hr3,hb3⟩
     go_wp2
     go_ret
     exact⟨_,rfl,by rw[HG.out]; exact hr3,(hb.trans (hb2.mono hb.size)).trans (hb3.mono (Nat.le_trans hb.size hb2.size))⟩
    ·have a1:((ae b64 x).length:Int)<=1:=by have:=oW hx1; omega
     have a2:(2:Int)<=((ae b64 y).length:Int):=by have:=vN qP; omega
     have EV:=bx hy0
     clear hx1 qP hy0
     go_wp2_with fail
     refine(eX wr _ _ x y hx hy EV.out HX.out.1 de).mono ?_
     rintro e w2 ⟨vq,vr,rfl,hq,hr2,hb2⟩
     have O7:=hy.below hb2
     go_wp2
     go_roundw
     case rel=>exact⟨y,x%y,O7,hr2,bx (by rw[HG.out,Nat.gcd_comm x y,Nat.gcd_rec y x,Nat.gcd_comm]),bx ⟨HX.out.2,HX.out.2.le (Nat.le_of_lt (Nat.mod_lt _ EV.out))⟩,hb.trans (hb2.mono hb.size)⟩
     case measure=>rw[hr2.of_eq,hy.of_eq]; exact Nat.mod_lt _ EV.out
   ·have a1:(2:Int)<=((ae b64 x).length:Int):=by have:=vN hx1; omega
    have EV:=bx hy0
    clear hx1 hy0
    go_wp2_with fail
    refine(eX wr _ _ x y hx hy EV.out HX.out.1 de).mono ?_
    rintro e w2 ⟨vq,vr,rfl,hq,hr2,hb2⟩
    have O7:=hy.below hb2
    go_wp2
    go_roundw
    case rel=>exact⟨y,x%y,O7,hr2,bx (by rw[HG.out,Nat.gcd_comm x y,Nat.gcd_rec y x,Nat.gcd_comm]),bx ⟨HX.out.2,HX.out.2.le (Nat.le_of_lt (Nat.mod_lt _ EV.out))⟩,hb.trans (hb2.mono hb.size)⟩
    case measure=>rw[hr2.of_eq,hy.of_eq]; exact Nat.mod_lt _ EV.out
end Wx
