import Derived.Test.YtikkgpljpglnbaaGreatJRM9
import Derived.Test.YtikkgpljpglnbaaGreatJRM10
namespace Wx
set_option maxRecDepth 100000
set_option maxHeartbeats 1000000
open Go Go.RowKit Go.Proofs
def vT (w:World) (q r:Nat) (e:Ending) (w':World):Prop:=∃v1 v2,e=.returned (.tuple #[v1,v2])/\cI .u64 b64 w' v1 q/\cI .u64 b64 w' v2 r/\Below w.heap.size w w'
theorem ye (w:World) (v1 v2:Value) (m n:Nat) (h1:cI .u64 b64 w v1 m) (h2:cI .u64 b64 w v2 n) (hlt:m<n):
  Calls Tryz.prog 77 #[v1,v2] w (vT w (m/n) (m%n)):=by
 rw[Nat.div_eq_of_lt hlt,Nat.mod_eq_of_lt hlt]
 go_enter Tryz.func77,Tryz.ntmps77
 go_wp2_with fail
 refine(lU _ _ _ _ _ h1 h2).mono ?_
 rintro e w1 ⟨rfl,hb1⟩
 rw[show cD m n = -1 by unfold cD; rw[if_pos hlt]]
 have Dy:=h1.below hb1
 go_wp2
 go_ret2
 exact⟨_,_,rfl,cI.zero _ _ _,Dy,hb1⟩
variable {m n:Nat}
theorem B9 (h:n<=m):∃z,cD m n=z/\¬(z<0):=⟨_,rfl,by unfold cD; rw[if_neg (by omega)]; split<;>omega⟩
theorem yg (w:World) (v1 v2:Value) (m n:Nat) (h1:cI .u64 b64 w v1 m) (h2:cI .u64 b64 w v2 n) (hle:n<=m) (h0:0<n) (hn:n<b64) {j:Nat} (hj:Bd j m) (gg:j<=1000000000):
  Calls Tryz.prog 77 #[v1,v2] w (vT w (m/n) (m%n)):=by
 obtain⟨z,hz,hz0⟩:=B9 hle
 have HZ:=bx hz
 have hr:m%n<b64:=Nat.lt_trans (Nat.mod_lt m h0) hn
 have HR:=bx hr
 have HN:=bx hn
 clear hz hr hn
 have hc:=lU w v1 v2 m n h1 h2
 rw[HZ.out]at hc
 obtain⟨b,o,c,rfl,hcell⟩:=h2.one h0 HN.out
 go_enter Tryz.func77,Tryz.ntmps77
 go_wp2_with fail
 refine hc.mono ?_
 rintro e w1 ⟨rfl,hb1⟩
 have Dy:=h1.below hb1
 have hcell1:w1.cell? ⟨b,o,none⟩=some (.int .u64 (n:Int)):=by rw[hb1.cell (World.block_lt_of_cell? w _ hcell)]; exact hcell
 clear hc hcell
 go_wp2_with fail
 refine(Ai w1 v1 m n Dy hj gg h0 HN.out).mono ?_
 rintro e w2 ⟨vq,rfl,hq,hb2⟩
 go_wp2_with fail
 refine(lQ w2 (m%n) HR.out).mono ?_
 rintro e w3 ⟨vr,rfl,hr3,hb3⟩
 go_wp2
 go_ret2
 exact⟨_,_,rfl,hq.below hb3,hr3,(hb1.trans (hb2.mono hb1.size)).trans (hb3.mono (Nat.le_trans hb1.size hb2.size))⟩
theorem F5 {T V Q:Nat} (hT:0<T) (h:V+Q*b64^0*(n*T)=m*T) (hlt:V<n*T):Q=m/n/\V/T=m%n/\V<=m*T:=by
 rw[Nat.pow_zero,Nat.mul_one]at h
 obtain⟨h1,h2⟩:=sq (m:=m*T) (d:=n*T) (q:=Q) (r:=V) (by omega) hlt
 rw[Nat.mul_div_mul_right _ _ hT]at h1
 rw[Nat.mul_mod_mul_right]at h2
 exact⟨h1.symm,by rw[<-h2,Nat.mul_div_cancel _ hT],by omega⟩
theorem Row.grown {w w':World} {k:IntKind} {e:TypeId} {g g':Nat} {l:List Nat} (h:Row w k e g l) (hg:w.grownBy w' (some g')) (hne:g'≠g):Row w' k e g l:=by
 obtain⟨rest,h1⟩:=h
 exact⟨rest,by rw[<-h1]; exact hg.block g (Row.lt ⟨rest,h1⟩) (by simp; omega)⟩
theorem gG (h:b64<=n):2<=(af b64 n).length:=by
 rcases Nat.lt_or_ge (af b64 n).length 2 with hl|hl
 ·have:=lp ak n
  have:b64^(af b64 n).length<=b64^1:=Nat.pow_le_pow_right (by unfold b64; omega) (by omega)
  rw[Nat.pow_one]at this
  omega
 ·exact hl
theorem pK (h:n<=m):(af b64 n).length<=(af b64 m).length:=by
 rcases Nat.lt_or_ge (af b64 m).length (af b64 n).length with hl|hl
 ·have:=dW ak hl; omega
 ·exact hl
theorem yf (w:World) (v1 v2:Value) (m n:Nat) (h1:cI .u64 b64 w v1 m) (h2:cI .u64 b64 w v2 n) (hle:n<=m) (hn:b64<=n) {j:Nat} (hj:Bd j m) (gg:j<=100000000):
  Calls Tryz.prog 77 #[v1,v2] w (vT w (m/n) (m%n)):=by
 obtain⟨z,hz,hz0⟩:=B9 hle
 have hc:=lU w v1 v2 m n h1 h2
 rw[hz]at hc
 clear hz
 have zV:=gG hn
 have KH:=nN ak n
 have hwn:=cS ak n
 obtain⟨B,d,rfl,hb⟩:=id h2
 obtain⟨bb,ob,tb,rfl,hcb,Q4⟩:=hb.get (i:=(af b64 n).length-1) (by omega)
 have htb:0<tb:=by
  rcases Nat.eq_zero_or_pos tb with rfl|h
  ·exfalso; apply KH
   rw[List.getLast?_eq_getElem?]; exact Q4.out
  ·exact h
 have PB:tb<b64:=hwn _ (List.mem_of_getElem? Q4.out)
 obtain⟨s,hs,hs1⟩:∃s,s=64-Lib.bitLen tb/\s<=64:=⟨_,rfl,by omega⟩
 have hbl:=hb.len
 have HS:=bx hs
 have TQ:=bx (And.intro htb PB)
 have hNe:(((af b64 n).length:Int)==1)=false:=beq_eq_false_iff_ne.2 (by omega)
 have VO:(0:Int)<=((af b64 n).length:Int)-1:=by omega
 have QA:Bd (j+65) (m*2^s):=(hj.mul (show Bd 65 (2^s)from Nat.pow_lt_pow_right (by omega) (by omega)))
 have Ur:Bd j n:=hj.le hle
 have hmn:n*2^s<=m*2^s:=Nat.mul_le_mul_right _ hle
 have Ut:b64<=n*2^s:=Nat.le_trans hn (Nat.le_mul_of_pos_right n (Nat.two_pow_pos s))
 have HH:=bx (And.intro hmn Ut)
 have HJ:=bx (And.intro hj (And.intro Ur QA))
 clear hs htb PB hj Ur QA hmn Ut KH hn hwn
 generalize hN:(af b64 n).length=N at *
 clear hN
 go_enter Tryz.func77,Tryz.ntmps77
 go_wp2_with fail
 refine hc.mono ?_
 rintro e w1 ⟨rfl,hb1⟩
 have h11:=h1.below hb1
 have Fw:=h2.below hb1
 have R3:w1.cell? ⟨bb,ob+(N-1),none⟩=some (.int .u64 (tb:Int)):=by rw[hb1.cell (World.block_lt_of_cell? w _ hcb)]; exact hcb
 clear hc hcb h1 h2 hb
 go_wp2_with fail
 refine(PN tb TQ.out.1 TQ.out.2 w1).mono ?_
 rintro e w' ⟨rfl,rfl⟩
 rw[<-HS.out]
 go_wp2_with fail
 refine(yR w1 _ n s Fw HJ.out.2.1 (by omega) (by omega)).mono ?_
 rintro e w2 ⟨v,rfl,hv2,hb2⟩
 have h12:=h11.below hb2
 have wB:=hb1.trans (hb2.mono hb1.size)
 clear h11 Fw R3 hb1 hb2
 go_wp2_with fail
 have fC:=(Below.refl w2.heap.size w2).alloc (Nat.le_refl _) (.cells #[] 86)
 refine(yR _ _ m s (h12.below fC) HJ.out.1 (by omega) (by omega)).mono ?_
 rintro e w3 ⟨x,rfl,hx3,hb3⟩
 have KB:(w2.alloc (.cells #[] 86)).ownsRow w2.heap.size 86 1 (.slice (some ⟨w2.heap.size,0,none⟩) 0 0) 0 (fo .u64 []):=World.ownsRow_made w2 #[] 0 (Nat.le_refl _) (Nat.zero_le _) rfl
 have Cp:=KB.kept (bT hb3 none) (.inr (by simp[Value.ownBlock]))
 have qL:Below w2.heap.size w2 w3:=fC.trans (hb3.mono fC.size)
 have hv3:=hv2.below qL
 have VH:=h12.below qL
 clear KB fC hb3 h12
 obtain⟨X,cx,rfl,SV⟩:=hx3
 have QH:(af b64 (m*2^s)).length<=100000000:=by
  have:=ot HJ.out.2.2; omega
 have SU:=pK HH.out.1
 have SM:=gG HH.out.2
 obtain⟨V,cv,rfl,HO⟩:=hv2
 clear hv3
 have UB:=(BW.of HO).pM (bT qL none) (by intro g hg; cases hg)
 clear HO
 have OW:=bx (bM ak (n*2^s))
 have RO:=cS ak (n*2^s)
 have Ul:=bx (nN ak (n*2^s))
 have Un:=bx (bM ak (m*2^s))
 have RP:=cS ak (m*2^s)
 generalize af b64 (n*2^s)=vl at *
 generalize af b64 (m*2^s)=al at *
 obtain⟨bxx,ox,x0,rfl,Hx,_⟩:=SV.get (i:=0) (by omega)
 clear Hx
 go_upto_region 9 with(first
  |(at_builtin; refine tW _ rfl (.tmp 45) (.tmp 48) _ rfl .u64 86 w2.heap.size Tryz.underlying45 jf (.slice (some ⟨w2.heap.size,0,none⟩) 0 0) [] rfl Cp _ _ _ al _ rfl rfl SV (by simp; omega) qL.size ?_; intro U4 A4 c4 w4 Ns sJ hg4)
  |(at_builtin; refine tW _ rfl (.tmp 49) (.tmp 50) _ rfl .u64 86 w2.heap.size Tryz.underlying45 jf (.slice A4 U4.length c4) U4 rfl (sJ.alloc _) _ _ _ [0] 1 rfl rfl ((Row.new w4 .u64 86 [0]).iE (c:=1) (by simp) (by simp[maxLen])) (by rw[Ns.out]; simp; omega) (by simp; have h5:=qL.size; have h6:=hg4.size; omega) ?_; intro U A5 c5 w5 NV KC Sh))
 have VU:U.length=al.length+1:=by rw[NV.out,Ns.out]; simp
 have PE:=UB.pM hg4 (by intro g hg; simp[Value.ownBlock]at hg; omega)
 have FE:∀k,(Value.slice A4 U4.length c4).ownBlock=some k->w2.heap.size<=k:=λk hk=>(sJ.lt k hk).1
 have PF:=(PE.pM (World.grownBy_alloc w4 _ none) (by intro g hg; cases hg)).pM Sh FE
 have Qr:Below w.heap.size w w4:=(wB.trans (qL.mono wB.size)).grown hg4 (Nat.le_trans wB.size qL.size) (by intro g hg; simp[Value.ownBlock]at hg; have:=wB.size; omega)
 have Qs:Below w.heap.size w w5:=(Qr.alloc Qr.size (.cells #[.int .u64 0] 86)).grown Sh (by have:=Qr.size; simp; omega) (by intro g hg; have:=FE g hg; have:=wB.size; omega)
 obtain⟨g,rfl,hgB,Qu,yA,RM⟩:=zG KC (by omega)
 clear UB PE FE Qr hg4 Sh Cp sJ KC VH SV
 have OT:Bx (val b64 U+val b64 (List.drop (U.length-vl.length) (List.replicate (U.length-vl.length) 0))*b64^(U.length-vl.length)*(n*2^s)=m*2^s):=by
  refine bx ?_
  rw[List.drop_of_length_le (by simp),JW,Nat.zero_mul,Nat.zero_mul,Nat.add_zero,NV.out,Ns.out,List.nil_append,iH,Un.out]
  simp[val]
 have OL:Bx (val b64 (U.drop (U.length-vl.length))<n*2^s):=by
  refine bx ?_
  have e1:U.drop (U.length-vl.length)=(al.drop (U.length-vl.length))++[0]:=by
   rw[NV.out,Ns.out,List.nil_append,List.drop_append_of_le_length (by simp; omega)]
  rw[e1,iH]
  have h1:=ji (RP.drop (U.length-vl.length))
  have h2:=lD ak (n:=n*2^s) (by have:=HH.out.2; unfold b64 at this; omega)
  have h3:(af b64 (n*2^s)).length=vl.length:=by rw[<-OW.out,nO ak RO Ul.out]
  rw[h3]at h2
  rw[List.length_drop,show al.length-(U.length-vl.length)=vl.length-1 by omega]at h1
  simp[val]
  omega
 have VY:Wf b64 U:=by rw[NV.out,Ns.out]; exact(Wf.append (Wf.nil _) RP).append (Wf.cons (by unfold b64; omega) (Wf.nil _))
 have VV:vl.length+1<=U.length:=by omega
 have VW:U.length<=100000001:=by omega
 clear Ns NV VU RP Un QH SU
 go_wp2_with (at_make; go_loud (refine eP _ rfl _ _ _ rfl .u64 86 Tryz.underlying45 jf _ _ rfl rfl (by omega) (by omega) (by omega) ?_); intro w6 hrow gH hsz)
 rw[show((U.length:Int)-(vl.length:Int)).toNat=U.length-vl.length by omega]at hrow
 rw[show decide (z<0)=false from decide_eq_false (by omega)]
 have OQ:=Qu.keep gH
 have PG:=PF.pM (bT gH none) (by intro g hg; cases hg)
 have Ub:=Qs.trans (gH.mono Qs.size)
 have Uq:g≠w5.heap.size:=by have:=Qu.lt; omega
 generalize Uf:U.length-vl.length=Qn at *
 have QY:=bx Uf
 have hq1:(Qn:Int)<=100000001:=by omega
 have hcc:c5<=9223372036854775807:=by unfold maxLen at RM; omega
 have TH:=bx Uq
 have Q0:=bx (And.intro Qs.size (show w2.heap.size<=w5.heap.size by have:=Qu.lt; omega))
 have Q1:=bx (show w.heap.size<=g by have:=wB.size; omega)
 clear Qu PF Qs gH hsz Uf hz0 Uq Q4 hNe VO hbl zV wB qL
 go_loopw [13] (λTi wr=>∃(i:Nat) (M qs:List Nat),i<=Qn/\Ti=.int .i64 ((i:Int)-1)/\Bx (M.length=U.length)/\Wf b64 M/\Bx (qs.length=Qn)/\Wf b64 qs/\Row wr .u64 86 g M/\Row wr .u64 86 w5.heap.size qs/\BW wr w2.heap.size .u64 V cv vl/\Below w.heap.size w wr /\
   Bx (val b64 M+val b64 (qs.drop i)*b64^i*(n*2^s)=m*2^s)/\Bx (val b64 (M.drop i)<n*2^s)) (λTi _=>(RowKit.intOf Ti+1).toNat)
 case atStart=>exact⟨Qn,U,List.replicate Qn 0,Nat.le_refl _,rfl,bx rfl,VY,bx (by simp),Wf.replicate (by unfold b64; omega) _,OQ,hrow,PG,Ub,OT,OL⟩
 case round=>
  clear OQ hrow PG Ub OT OL
  obtain⟨i,M,qs,hi,rfl,EF,FK,NT,UE,KF,SG,HO,OI,eY,Db⟩:=hrel
  rcases Nat.eq_zero_or_pos i with rfl|hpos
  ·rw[show(((0:Nat):Int)-1) = -1 by omega]
   go_wp2_with fail
   obtain⟨e1,e2,e3⟩:=F5 (Nat.two_pow_pos s) eY.out Db.out
   have E1:=bx e1
   have E2:=bx e2
   have E3:=bx (HJ.out.2.2.le e3)
   clear e1 e2 e3 hcc hq1
   refine(gP wr (some ⟨w5.heap.size,0,none⟩) Qn qs (m/n) (SG.iE (by rw[NT.out]; exact Nat.le_refl _) (by have:=QY.out; unfold maxLen; omega)) UE Qn NT.out E1.out).mono ?_
   rintro e w' ⟨rfl,vq,rfl,WC⟩
   go_wp2_with fail
   refine(gP wr (some ⟨g,0,none⟩) c5 M _ (KF.iE (by rw[EF.out]; exact yA) RM) FK U.length EF.out rfl).mono ?_
   rintro e w' ⟨rfl,vM,rfl,WB⟩
   go_wp2_with fail
   refine(Eb wr vM (val b64 M) s WB E3.out (by omega) (by omega)).mono ?_
   rintro e wf ⟨vr,rfl,Uu,Qv⟩
   go_wp2
   go_ret2
   rw[E2.out]at Uu
   exact⟨_,_,rfl,WC.below Qv,Uu,OI.trans (Qv.mono OI.size)⟩
  ·obtain⟨k,rfl⟩:∃k,i=k+1:=⟨i-1,by omega⟩
   rw[show(((k+1:Nat):Int)-1)=(k:Int) by omega]
   have lZ:(0:Int)<=(k:Int):=by omega
   have nD:(k:Int)<(Qn:Int):=by omega
   have hk2:(k:Int)+(vl.length:Int)+1<=(c5:Int):=by have:=QY.out; omega
   go_wp2_with fail
   have Pm:k+(vl.length+1)<=M.length:=by have:=QY.out; have:=EF.out; omega
   have Mj:=qz Pm FK (V:=n*2^s) Db.out
   rw[<-OW.out]at Mj
   have O4:vl.length+1<=c5-k:=by omega
   rw[show k+vl.length+1-k=vl.length+1 by omega]
   have O5:c5-k<=maxLen:=Nat.le_trans (Nat.sub_le _ _) RM
   have PI:vl.length<=1000000000:=by omega
   refine(Di wr w2.heap.size g k (c5-k) M vl V cv KF FK Pm O4 O5 HO hgB RO PI SM Ul.out Mj).mono ?_
   clear Mj O4
   rintro e wd ⟨rfl,hgd,M',LY,SQ,SF,AO,hdr,qN⟩
   have Ms:=SG.grown hgd TH.out
   have SP:=HO.grown hgd hgB
   have RI:=OI.grown hgd OI.size (by intro g' sF; injection sF with sF; have:=Q1.out; omega)
   obtain⟨l1,l2⟩:=DM LY Pm (show n*2^s<b64^vl.length by rw[<-OW.out]; exact ji RO) (by rw[NT.out]; omega) AO hdr (by rw[<-OW.out]; exact qN) Db.out eY.out
   rw[OW.out]
   have FD:val b64 (win M k (vl.length+1))/(n*2^s)<b64:=by
    rw[Nat.div_lt_iff_lt_mul (by have:=Db.out; omega),Nat.mul_comm]
    exact qz Pm FK Db.out
   have QV:=bx (LY.trans EF.out)
   generalize QD:val b64 (win M k (vl.length+1))/(n*2^s)=qd at *
   have U8:=bx l1
   have U9:=bx l2
   have Vg:=bx FD
   clear O5 PI l1 l2 FD QD AO hdr qN LY Pm KF SG HO OI FK EF hgd eY Db
   obtain⟨vo,Hv,Ka⟩:=Ms.get (i:=k) (by have:=NT.out; omega)
   have Cm:=Ms.frozen k
   go_wp2
   go_roundw
   case rel=>
    exact⟨k,M',qs.set k qd,by omega,by go_num,QV,SQ,bx (by rw[List.length_set]; exact NT.out),UE.set Vg.out,SF.Nx (by simpa using TH.out) _,Ms.set _ _,SP.pM (uU _ _ _ _) (by intro g' sF; injection sF with sF; have:=Q0.out.2; omega),RI.setCell Q0.out.1 _,U8,U9⟩
   case measure=>simp[RowKit.intOf]
theorem fM (w:World) (v1 v2:Value) (m n:Nat) (h1:cI .u64 b64 w v1 m) (h2:cI .u64 b64 w v2 n) (h0:0<n) {j:Nat} (hj:Bd j m) (gg:j<=100000000):
  Calls Tryz.prog 77 #[v1,v2] w (vT w (m/n) (m%n)):=by
 rcases Nat.lt_or_ge m n with hlt|hge
 ·exact ye w v1 v2 m n h1 h2 hlt
 ·rcases Nat.lt_or_ge n b64 with hn|hn
  ·exact yg w v1 v2 m n h1 h2 hge h0 hn hj (by omega)
  ·exact yf w v1 v2 m n h1 h2 hge hn hj gg
end Wx

namespace Wx
set_option maxHeartbeats 1000000
open Go Go.RowKit Go.Proofs
variable {w:World} {k:IntKind}
theorem Rd.inj {A:Option Addr} {c c':Nat} {l r:List Nat} (h:Rd w k A c l) (g:Rd w k A c' r) (hl:l.length=r.length):l=r:=by
 apply List.ext_getElem hl
 intro i h1 h2
 obtain⟨b,o,e,hc⟩:=h.at_ (i:=i) h1
 obtain⟨b',o',e',hc'⟩:=g.at_ (i:=i) h2
 rw[e]at e'
 injection e' with e'
 injection e' with e1 e2
 subst e1 e2
 rw[hc]at hc'
 injection hc' with hc'
 injection hc' with _ hc'
 rw[List.getD_eq_getElem?_getD,List.getD_eq_getElem?_getD,List.getElem?_eq_getElem h1,List.getElem?_eq_getElem h2]at hc'
 simp only[Option.getD_some]at hc'
 omega
variable {v:Value} {n:Nat}
theorem cI.inj {m:Nat} (h:cI k b64 w v m) (g:cI k b64 w v n):m=n:=by
 obtain⟨A,c,rfl,hr⟩:=h
 obtain⟨A',c',e,gr⟩:=g
 injection e with e1 e2 e3
 subst e1
 exact Ff ak (hr.inj gr e2)
open Classical in
noncomputable def numOf (w:World) (v:Value):Nat:=if h:∃n,cI .u64 b64 w v n then choose h else 0
theorem cI.of_eq (h:cI .u64 b64 w v n):numOf w v=n:=by
 have hx:∃n,cI .u64 b64 w v n:=⟨n,h⟩
 unfold numOf
 rw[dif_pos hx]
 exact(Classical.choose_spec hx).inj h
theorem mY (h:n<b64):(af b64 n).length<=1:=fg ak (by simpa using h)
theorem tQ (h:¬n<b64):2<=(af b64 n).length:=gG (by omega)
theorem ru (w:World) (v1 v2:Value) (m n:Nat) (h1:cI .u64 b64 w v1 m) (h2:cI .u64 b64 w v2 n) {j:Nat} (hj:Bd j m) (hk:Bd j n) (gg:j<=100000000):
  Calls Tryz.prog 76 #[v1,v2] w (jc .u64 b64 w (Nat.gcd m n)):=by
 have HX:=bx (And.intro hj hk)
 clear hj hk
 obtain⟨G,hG⟩:∃G,G=Nat.gcd m n:=⟨_,rfl⟩
 rw[<-hG]
 have HG:=bx hG
 clear hG
 go_enter Tryz.func76,Tryz.ntmps76
 go_wp2_with fail
 go_loopw [0,1] (λs0 s1 wr=>∃x y:Nat,cI .u64 b64 wr s0 x/\cI .u64 b64 wr s1 y/\Bx (G=Nat.gcd x y)/\Bx (Bd j x/\Bd j y)/\Below w.heap.size w wr) (λ_ s1 wr=>numOf wr s1)
 case atStart=>exact⟨_,_,h1,h2,HG,HX,Below.refl _ _⟩
 case round=>
  clear h1 h2 HG HX
  obtain⟨x,y,hx,hy,HG,HX,hb⟩:=hrel
  rcases Nat.eq_zero_or_pos y with rfl|hy0
  ·obtain⟨A,c,rfl,hr⟩:=id hy
   rw[bk]at hr ⊢
   go_wp2
   go_ret
   exact⟨_,rfl,by rw[HG.out,Nat.gcd_zero_right]; exact hx,hb⟩
  ·obtain⟨A,c,rfl,hr⟩:=id hx
   obtain⟨B,d,rfl,hs⟩:=id hy
   have Cn:(1:Int)<=((af b64 y).length:Int):=by have:=(aX (n:=y) ak).2 hy0; omega
   by_cases hx1:x<b64
   ·by_cases wH:y<b64
    ·have a1:((af b64 x).length:Int)<=1:=by have:=mY hx1; omega
     have a2:((af b64 y).length:Int)<=1:=by have:=mY wH; omega
     have Vm:=bx hx1
     have TS:=bx wH
     have Hs:=bx hy0
     clear hx1 wH hy0
     go_wp2_with fail
     refine(Ej wr _ _ x y hx hy Vm.out TS.out Hs.out).mono ?_
     rintro e w2 ⟨rfl,hb2⟩
     go_wp2_with fail
     refine(lQ w2 _ (Nat.lt_of_le_of_lt (Nat.gcd_le_right x Hs.out) TS.out)).mono ?_
     rintro e w3 ⟨vr,rfl,hr3,hb3⟩
     go_wp2
     go_ret
     exact⟨_,rfl,by rw[HG.out]; exact hr3,(hb.trans (hb2.mono hb.size)).trans (hb3.mono (Nat.le_trans hb.size hb2.size))⟩
    ·have a1:((af b64 x).length:Int)<=1:=by have:=mY hx1; omega
     have a2:(2:Int)<=((af b64 y).length:Int):=by have:=tQ wH; omega
     have Hs:=bx hy0
     clear hx1 wH hy0
     go_wp2_with fail
     refine(fM wr _ _ x y hx hy Hs.out HX.out.1 gg).mono ?_
     rintro e w2 ⟨vq,vr,rfl,hq,hr2,hb2⟩
     have PJ:=hy.below hb2
     go_wp2
     go_roundw
     case rel=>exact⟨y,x%y,PJ,hr2,bx (by rw[HG.out,Nat.gcd_comm x y,Nat.gcd_rec y x,Nat.gcd_comm]),bx ⟨HX.out.2,HX.out.2.le (Nat.le_of_lt (Nat.mod_lt _ Hs.out))⟩,hb.trans (hb2.mono hb.size)⟩
     case measure=>rw[hr2.of_eq,hy.of_eq]; exact Nat.mod_lt _ Hs.out
   ·have a1:(2:Int)<=((af b64 x).length:Int):=by have:=tQ hx1; omega
    have Hs:=bx hy0
    clear hx1 hy0
    go_wp2_with fail
    refine(fM wr _ _ x y hx hy Hs.out HX.out.1 gg).mono ?_
    rintro e w2 ⟨vq,vr,rfl,hq,hr2,hb2⟩
    have PJ:=hy.below hb2
    go_wp2
    go_roundw
    case rel=>exact⟨y,x%y,PJ,hr2,bx (by rw[HG.out,Nat.gcd_comm x y,Nat.gcd_rec y x,Nat.gcd_comm]),bx ⟨HX.out.2,HX.out.2.le (Nat.le_of_lt (Nat.mod_lt _ Hs.out))⟩,hb.trans (hb2.mono hb.size)⟩
    case measure=>rw[hr2.of_eq,hy.of_eq]; exact Nat.mod_lt _ Hs.out
end Wx

namespace Wx
set_option maxHeartbeats 1000000
open Go Go.RowKit Go.Proofs
def EG (w:World) (g:Nat):Prop:=∀i k z,w.cell? ⟨g,i,none⟩≠some (.int k z)
def ck (w:World) (g:Nat) (x y z:Value) (e:TypeId):Prop:=w.heap[g]?=some (.cells #[x,y,z] e (0,0))
variable {w:World} {g:Nat} {x y z:Value} {e:TypeId}
theorem ck.c0 (h:ck w g x y z e):w.cell? ⟨g,0,none⟩=some x:=by unfold ck at h; simp[World.cell?,h]
theorem ck.c1 (h:ck w g x y z e):w.cell? ⟨g,1,none⟩=some y:=by unfold ck at h; simp[World.cell?,h]
theorem ck.c2 (h:ck w g x y z e):w.cell? ⟨g,2,none⟩=some z:=by unfold ck at h; simp[World.cell?,h]
theorem ck.fz (h:ck w g x y z e) (i:Nat):w.frozen? ⟨g,i,none⟩=false:=by unfold ck at h; simp[World.frozen?,h]
variable {w':World}
theorem ck.below {B:Nat} (h:ck w g x y z e) (hb:Below B w w') (hg:g<B):ck w' g x y z e:=(hb.block g hg).trans h
theorem ck.new (w:World) (x y z:Value) (e:TypeId):ck (w.alloc (.cells #[x,y,z] e)) w.heap.size x y z e:=by unfold ck; exact heap_alloc_new _ _
theorem gL (w:World) (o:Obj):w.heap.size<(w.alloc o).heap.size:=by simp
theorem ck.kz (h:ck w g x y z e) (hx:∀k n,x≠.int k n) (hy:∀k n,y≠.int k n) (hz:∀k n,z≠.int k n):EG w g:=by
 intro i k n hc
 unfold ck at h
 simp only[World.cell?,h]at hc
 match i,hc with
 |0,hc=>exact hx k n (by simpa using hc)
 |1,hc=>exact hy k n (by simpa using hc)
 |2,hc=>exact hz k n (by simpa using hc)
 |n+3,hc=>simp at hc
theorem ck.JJ (h:ck w g x y z e) (u:Value):ck (w.setCell ⟨g,0,none⟩ u) g u y z e:=by
 unfold ck at *; simp[World.setCell,Array.getElem?_modify,h]
theorem ck.JK (h:ck w g x y z e) (u:Value):ck (w.setCell ⟨g,1,none⟩ u) g x u z e:=by
 unfold ck at *; simp[World.setCell,Array.getElem?_modify,h]
theorem ck.JL (h:ck w g x y z e) (u:Value):ck (w.setCell ⟨g,2,none⟩ u) g x y u e:=by
 unfold ck at *; simp[World.setCell,Array.getElem?_modify,h]
variable {k:IntKind}
theorem Rd.kz {A:Option Addr} {c:Nat} {l:List Nat} (h:Rd w k A c l) {g:Nat} (hg:EG w g) (i:Nat) (u:Value):Rd (w.setCell ⟨g,i,none⟩ u) k A c l:=by
 obtain⟨h1,h2,h3⟩:=h
 refine⟨h1,h2,λhne=>?_⟩
 obtain⟨b,o,e,hc⟩:=h3 hne
 refine⟨b,o,e,λi' hi=>?_⟩
 have IY:b≠g:=by rintro rfl; exact hg _ _ _ (hc i' hi)
 rw[World.cell?_of_block (Below.heap_setCell w ⟨g,i,none⟩ u b IY)]
 exact hc i' hi
variable {v:Value} {n:Nat}
theorem cI.kz (h:cI k b64 w v n) {g:Nat} (hg:EG w g) (i:Nat) (u:Value):cI k b64 (w.setCell ⟨g,i,none⟩ u) v n:=by
 obtain⟨A,c,rfl,hr⟩:=h
 exact⟨A,c,rfl,hr.kz hg i u⟩
def az (d:Nat):Nat:=if d=1 then 0 else d
def bW (w:World) (v:Value) (q:Rat):Prop:=∃vn vd,v=.agg #[.bool (decide (q.num<0)),vn,vd]/\cI .u64 b64 w vn q.num.natAbs/\cI .u64 b64 w vd (az q.den)
def kK (w:World) (q:Rat) (e:Ending) (w':World):Prop:=∃v,e=.returned v/\bW w' v q/\Below w.heap.size w w'
variable {q:Rat}
theorem bW.below (h:bW w v q) (hb:Below w.heap.size w w'):bW w' v q:=by
 obtain⟨vn,vd,rfl,h1,h2⟩:=h
 exact⟨vn,vd,rfl,h1.below hb,h2.below hb⟩
def fB (j:Nat) (q:Rat):Prop:=Bd j q.num.natAbs/\Bd j q.den
variable {j:Nat}
theorem fB.mono {k:Nat} (h:fB j q) (hk:j<=k):fB k q:=⟨h.1.mono hk,h.2.mono hk⟩
def sg (neg:Bool) (n:Nat):Int:=if neg then -(n:Int)else n
theorem qc (neg:Bool) (n:Nat):(sg neg n).natAbs=n:=by cases neg<;>simp[sg]
theorem CV (z:Int):sg (decide (z<0)) z.natAbs=z:=by
 unfold sg
 by_cases h:z<0
 ·rw[decide_eq_true h]; simp; omega
 ·rw[decide_eq_false h]; simp; omega
def eR (neg:Bool) (n d:Nat):Rat:=mkRat (sg neg n) d
variable {neg:Bool} {d:Nat}
theorem zu (hd:0<d):(eR neg n d).num=sg neg (n/n.gcd d):=by
 unfold eR
 rw[Rat.num_mkRat,if_neg (by omega),qc,Nat.gcd_comm]
 cases neg
 ·simp[sg]
 ·show -(n:Int)/((n.gcd d:Nat):Int) = -((n/n.gcd d:Nat):Int)
  rw[Int.neg_ediv_of_dvd (Int.natCast_dvd_natCast.2 (Nat.gcd_dvd_left n d)),Int.natCast_ediv]
theorem zq (hd:0<d):(eR neg n d).den=d/n.gcd d:=by
 unfold eR
 rw[Rat.den_mkRat,if_neg (by omega),qc,Nat.gcd_comm]
theorem qE (hd:0<d):(eR neg n d).num.natAbs=n/n.gcd d:=by rw[zu hd,qc]
theorem oK (hd:0<d) (h1:Bd j n) (h2:Bd j d):fB j (eR neg n d):=
 ⟨by rw[qE hd]; exact h1.le (Nat.div_le_self _ _),by rw[zq hd]; exact h2.le (Nat.div_le_self _ _)⟩
theorem GM (hd:0<d) (hn:0<n):decide ((eR neg n d).num<0)=neg:=by
 rw[zu hd]
 have:0<n/n.gcd d:=Nat.div_pos (Nat.le_of_dvd hn (Nat.gcd_dvd_left n d)) (Nat.gcd_pos_of_pos_left _ hn)
 cases neg<;>simp[sg]<;>omega
theorem Ea:eR neg 0 d=0:=by
 unfold eR sg
 cases neg<;>simp
theorem oJ {w3:World} {A1 A2:Option Addr} {l1 l2 c1 c2:Nat} (hg:w.heap.size<=g) (hb:Below w.heap.size w w3) (ho:ck w3 g x y z e)
  (hx:∀k n,x≠.int k n) (hy:∀k n,y≠.int k n) (hz:∀k n,z≠.int k n) (hn:decide (q.num<0)=neg) (h1:cI .u64 b64 w3 (.slice A1 l1 c1) q.num.natAbs) (h2:cI .u64 b64 w3 (.slice A2 l2 c2) (az q.den)):
  ∃wf,((w3.setCell ⟨g,0,none⟩ (.bool neg)).setCell ⟨g,1,none⟩ (.slice A1 l1 c1)).setCell ⟨g,2,none⟩ (.slice A2 l2 c2)=wf/\wf.cell? ⟨g,0,none⟩=some (.bool neg)/\wf.cell? ⟨g,1,none⟩=some (.slice A1 l1 c1)/\wf.cell? ⟨g,2,none⟩=some (.slice A2 l2 c2) /\
   kK w q (.returned (.agg #[.bool neg,.slice A1 l1 c1,.slice A2 l2 c2])) wf:=by
 have n0:=ho.kz hx hy hz
 have o1:=ho.JJ (.bool neg)
 have n1:=o1.kz (by simp) hy hz
 have o2:=o1.JK (.slice A1 l1 c1)
 have n2:=o2.kz (by simp) (by simp) hz
 have o3:=o2.JL (.slice A2 l2 c2)
 refine⟨_,rfl,o3.c0,o3.c1,o3.c2,_,rfl,⟨_,_,by rw[hn],((h1.kz n0 _ _).kz n1 _ _).kz n2 _ _,((h2.kz n0 _ _).kz n1 _ _).kz n2 _ _⟩,((hb.setCell hg _).setCell hg _).setCell hg _⟩
theorem mW (w:World):bW w (.agg #[.bool false,.slice none 0 0,.slice none 0 0]) 0:=⟨_,_,rfl,cI.zero _ _ _,cI.zero _ _ _⟩
theorem jr:az 1=0:=rfl
theorem kQ (h:d≠1):az d=d:=if_neg h
theorem fU (w:World) (v:Value) (d:Nat) (h:cI .u64 b64 w v (az d)) (hd:0<d):Calls Tryz.prog 51 #[v] w (jc .u64 b64 w d):=by
 by_cases h1:d=1
 ·subst h1
  obtain⟨A,c,rfl,hr⟩:=id h
  rw[jr,bk]
  go_enter Tryz.func51,Tryz.ntmps51
  go_wp2_with fail
  refine(lQ w 1 (by unfold b64; omega)).mono ?_
  rintro e w3 ⟨vr,rfl,hr3,hb3⟩
  go_wp2
  go_ret
  exact⟨_,rfl,hr3,hb3⟩
 ·rw[kQ h1]at h
  obtain⟨A,c,rfl,hr⟩:=id h
  have hl:(((af b64 d).length:Int)==0)=false:=beq_eq_false_iff_ne.2 (by have:=(aX (n:=d) ak).2 hd; omega)
  go_enter Tryz.func51,Tryz.ntmps51
  go_wp2
  go_ret
  exact⟨_,rfl,h,Below.refl _ _⟩
theorem lF (w:World) (neg:Bool) (v1 v2:Value) (n d:Nat) (h1:cI .u64 b64 w v1 n) (h2:cI .u64 b64 w v2 d) (hd:0<d) {j:Nat} (hj:Bd j n) (hk:Bd j d) (gg:j<=100000000):
  Calls Tryz.prog 53 #[.bool neg,v1,v2] w (kK w (eR neg n d)):=by
 rcases Nat.eq_zero_or_pos n with rfl|hn
 ·obtain⟨A,c,rfl,hr⟩:=id h1
  rw[bk,Ea]
  go_enter Tryz.func53,Tryz.ntmps53
  go_wp2
  go_returns
  exact⟨_,rfl,mW _,Below.alloc (Below.refl _ _) (Nat.le_refl _) _⟩
 ·obtain⟨B,c,rfl,hr⟩:=id h1
  have hl:(((af b64 n).length:Int)==0)=false:=beq_eq_false_iff_ne.2 (by have:=(aX (n:=n) ak).2 hn; omega)
  obtain⟨g,hg⟩:∃g,g=n.gcd d:=⟨_,rfl⟩
  obtain⟨q,hq⟩:∃q,q=eR neg n d:=⟨_,rfl⟩
  have hg0:0<g:=by rw[hg]; exact Nat.gcd_pos_of_pos_left _ hn
  have q1:=qE (neg:=neg) (n:=n) hd
  have q2:=zq (neg:=neg) (n:=n) hd
  have q3:=GM (neg:=neg) hd hn
  rw[<-hq,<-hg]at q1 q2
  rw[<-hq]at q3
  rw[<-hq]
  have HQ:=bx (And.intro q1 (And.intro q2 q3))
  have HJ:=bx (And.intro hj hk)
  have HG:=bx hg
  clear q1 q2 q3 hq hj hk hg hn
  by_cases OH:g=1
  ·subst OH
   rw[Nat.div_one,Nat.div_one]at HQ
   by_cases uV:d=1
   ·have vP:=bx uV
    clear uV
    go_enter Tryz.func53,Tryz.ntmps53
    go_wp2_with fail
    have hb0:=Below.alloc (Below.refl w.heap.size w) (Nat.le_refl _) (.cells #[.bool false,.slice none 0 0,.slice none 0 0] 47)
    have ho:=ck.new w (.bool false) (.slice none 0 0) (.slice none 0 0) 47
    have hlt:=gL w (.cells #[.bool false,.slice none 0 0,.slice none 0 0] 47)
    generalize w.alloc (.cells #[.bool false,.slice none 0 0,.slice none 0 0] 47)=w0 at *
    refine(ru _ _ _ n d (h1.below hb0) (h2.below hb0) HJ.out.1 HJ.out.2 gg).mono ?_
    rintro e w1 ⟨vg,rfl,AQ,hb1⟩
    rw[<-HG.out]at AQ
    have Mo:=ho.below hb1 hlt
    have sG:=Nat.lt_of_lt_of_le hlt hb1.size
    have kY:=hb0.trans (hb1.mono hb0.size)
    have h11:=h1.below kY
    have Fw:=h2.below kY
    go_wp2_with fail
    refine(ia w1 vg AQ).mono ?_
    rintro e w' ⟨rfl,rfl⟩
    go_wp2_with fail
    rw[vP.out]at Fw
    refine(ia w1 _ Fw).mono ?_
    rintro e w' ⟨rfl,rfl⟩
    have mK:=Mo
    have Ll:=kY
    obtain⟨wf,HW,f0,f1,f2,ee⟩:=oJ (q:=q) (neg:=neg) (Nat.le_refl _) Ll mK (by simp) (by simp) (by simp) HQ.out.2.2 (by rw[HQ.out.1]; exact h11) (A2:=none) (l2:=0) (c2:=0) (by rw[HQ.out.2.1,vP.out,jr]; exact cI.zero _ _ _)
    have Lp:=bx HW
    have HF:=bx (And.intro f0 (And.intro f1 f2))
    clear HW f0 f1 f2
    have k0:=mK.c0
    have k1:=mK.c1
    have k2:=mK.c2
    have k3:=mK.fz 0
    have k4:=mK.fz 1
    have k5:=mK.fz 2
    go_wp2
    rw[Lp.out]
    obtain⟨f0,f1,f2⟩:=HF.out
    (try simp only[Exit.inBlock,Exit.then])
    refine bodyPost_ret (by simp[results,Tryz.results53,go_sem,f0,f1,f2]; try rfl) rfl ?_
    exact ee
   ·have vP:=bx uV
    clear uV
    go_enter Tryz.func53,Tryz.ntmps53
    go_wp2_with fail
    have hb0:=Below.alloc (Below.refl w.heap.size w) (Nat.le_refl _) (.cells #[.bool false,.slice none 0 0,.slice none 0 0] 47)
    have ho:=ck.new w (.bool false) (.slice none 0 0) (.slice none 0 0) 47
    have hlt:=gL w (.cells #[.bool false,.slice none 0 0,.slice none 0 0] 47)
    generalize w.alloc (.cells #[.bool false,.slice none 0 0,.slice none 0 0] 47)=w0 at *
    refine(ru _ _ _ n d (h1.below hb0) (h2.below hb0) HJ.out.1 HJ.out.2 gg).mono ?_
    rintro e w1 ⟨vg,rfl,AQ,hb1⟩
    rw[<-HG.out]at AQ
    have Mo:=ho.below hb1 hlt
    have sG:=Nat.lt_of_lt_of_le hlt hb1.size
    have kY:=hb0.trans (hb1.mono hb0.size)
    have h11:=h1.below kY
    have Fw:=h2.below kY
    go_wp2_with fail
    refine(ia w1 vg AQ).mono ?_
    rintro e w' ⟨rfl,rfl⟩
    go_wp2_with fail
    refine(iy w1 _ _ Fw vP.out).mono ?_
    rintro e w' ⟨rfl,rfl⟩
    have mK:=Mo
    have Ll:=kY
    obtain⟨A2,c2,rfl,_⟩:=id Fw
    obtain⟨wf,HW,f0,f1,f2,ee⟩:=oJ (q:=q) (neg:=neg) (Nat.le_refl _) Ll mK (by simp) (by simp) (by simp) HQ.out.2.2 (by rw[HQ.out.1]; exact h11) (by rw[HQ.out.2.1,kQ vP.out]; exact Fw)
    have Lp:=bx HW
    have HF:=bx (And.intro f0 (And.intro f1 f2))
    clear HW f0 f1 f2
    have k0:=mK.c0
    have k1:=mK.c1
    have k2:=mK.c2
    have k3:=mK.fz 0
    have k4:=mK.fz 1
    have k5:=mK.fz 2
    go_wp2
    rw[Lp.out]
    obtain⟨f0,f1,f2⟩:=HF.out
    (try simp only[Exit.inBlock,Exit.then])
    refine bodyPost_ret (by simp[results,Tryz.results53,go_sem,f0,f1,f2]; try rfl) rfl ?_
    exact ee
  ·by_cases uV:d/g=1
   ·have QS:=bx OH
    have vP:=bx uV
    clear OH uV
    go_enter Tryz.func53,Tryz.ntmps53
    go_wp2_with fail
    have hb0:=Below.alloc (Below.refl w.heap.size w) (Nat.le_refl _) (.cells #[.bool false,.slice none 0 0,.slice none 0 0] 47)
    have ho:=ck.new w (.bool false) (.slice none 0 0) (.slice none 0 0) 47
    have hlt:=gL w (.cells #[.bool false,.slice none 0 0,.slice none 0 0] 47)
    generalize w.alloc (.cells #[.bool false,.slice none 0 0,.slice none 0 0] 47)=w0 at *
    refine(ru _ _ _ n d (h1.below hb0) (h2.below hb0) HJ.out.1 HJ.out.2 gg).mono ?_
    rintro e w1 ⟨vg,rfl,AQ,hb1⟩
    rw[<-HG.out]at AQ
    have Mo:=ho.below hb1 hlt
    have sG:=Nat.lt_of_lt_of_le hlt hb1.size
    have kY:=hb0.trans (hb1.mono hb0.size)
    have h11:=h1.below kY
    have Fw:=h2.below kY
    go_wp2_with fail
    refine(iy w1 vg g AQ QS.out).mono ?_
    rintro e w' ⟨rfl,rfl⟩
    go_wp2_with fail
    refine(fM w1 _ _ n g h11 AQ hg0 HJ.out.1 gg).mono ?_
    rintro e w2 ⟨vn,vr,rfl,SN,_,hb2⟩
    have AG:=kY.trans (hb2.mono kY.size)
    have RF:=h2.below AG
    have Mv:=AQ.below hb2
    have Sy:=Mo.below hb2 sG
    have sH:=Nat.lt_of_lt_of_le sG hb2.size
    go_wp2_with fail
    refine(fM w2 _ _ d g RF Mv hg0 HJ.out.2 gg).mono ?_
    rintro e w3 ⟨vd,Xi,rfl,NG,_,hb3⟩
    have Ll:=AG.trans (hb3.mono AG.size)
    have mK:=Sy.below hb3 sH
    have FH:=SN.below hb3
    go_wp2_with fail
    rw[vP.out]at NG
    refine(ia w3 vd NG).mono ?_
    rintro e w' ⟨rfl,rfl⟩
    obtain⟨A1,c1,rfl,_⟩:=id FH
    obtain⟨wf,HW,f0,f1,f2,ee⟩:=oJ (q:=q) (neg:=neg) (Nat.le_refl _) Ll mK (by simp) (by simp) (by simp) HQ.out.2.2 (by rw[HQ.out.1]; exact FH) (A2:=none) (l2:=0) (c2:=0) (by rw[HQ.out.2.1,vP.out,jr]; exact cI.zero _ _ _)
    have Lp:=bx HW
    have HF:=bx (And.intro f0 (And.intro f1 f2))
    clear HW f0 f1 f2
    have k0:=mK.c0
    have k1:=mK.c1
    have k2:=mK.c2
    have k3:=mK.fz 0
    have k4:=mK.fz 1
    have k5:=mK.fz 2
    go_wp2
    rw[Lp.out]
    obtain⟨f0,f1,f2⟩:=HF.out
    (try simp only[Exit.inBlock,Exit.then])
    refine bodyPost_ret (by simp[results,Tryz.results53,go_sem,f0,f1,f2]; try rfl) rfl ?_
    exact ee
   ·have QS:=bx OH
    have vP:=bx uV
    clear OH uV
    go_enter Tryz.func53,Tryz.ntmps53
    go_wp2_with fail
    have hb0:=Below.alloc (Below.refl w.heap.size w) (Nat.le_refl _) (.cells #[.bool false,.slice none 0 0,.slice none 0 0] 47)
    have ho:=ck.new w (.bool false) (.slice none 0 0) (.slice none 0 0) 47
    have hlt:=gL w (.cells #[.bool false,.slice none 0 0,.slice none 0 0] 47)
    generalize w.alloc (.cells #[.bool false,.slice none 0 0,.slice none 0 0] 47)=w0 at *
    refine(ru _ _ _ n d (h1.below hb0) (h2.below hb0) HJ.out.1 HJ.out.2 gg).mono ?_
    rintro e w1 ⟨vg,rfl,AQ,hb1⟩
    rw[<-HG.out]at AQ
    have Mo:=ho.below hb1 hlt
    have sG:=Nat.lt_of_lt_of_le hlt hb1.size
    have kY:=hb0.trans (hb1.mono hb0.size)
    have h11:=h1.below kY
    have Fw:=h2.below kY
    go_wp2_with fail
    refine(iy w1 vg g AQ QS.out).mono ?_
    rintro e w' ⟨rfl,rfl⟩
    go_wp2_with fail
    refine(fM w1 _ _ n g h11 AQ hg0 HJ.out.1 gg).mono ?_
    rintro e w2 ⟨vn,vr,rfl,SN,_,hb2⟩
    have AG:=kY.trans (hb2.mono kY.size)
    have RF:=h2.below AG
    have Mv:=AQ.below hb2
    have Sy:=Mo.below hb2 sG
    have sH:=Nat.lt_of_lt_of_le sG hb2.size
    go_wp2_with fail
    refine(fM w2 _ _ d g RF Mv hg0 HJ.out.2 gg).mono ?_
    rintro e w3 ⟨vd,Xi,rfl,NG,_,hb3⟩
    have Ll:=AG.trans (hb3.mono AG.size)
    have mK:=Sy.below hb3 sH
    have FH:=SN.below hb3
    go_wp2_with fail
    refine(iy w3 vd _ NG vP.out).mono ?_
    rintro e w' ⟨rfl,rfl⟩
    obtain⟨A1,c1,rfl,_⟩:=id FH
    obtain⟨A2,c2,rfl,_⟩:=id NG
    obtain⟨wf,HW,f0,f1,f2,ee⟩:=oJ (q:=q) (neg:=neg) (Nat.le_refl _) Ll mK (by simp) (by simp) (by simp) HQ.out.2.2 (by rw[HQ.out.1]; exact FH) (by rw[HQ.out.2.1,kQ vP.out]; exact NG)
    have Lp:=bx HW
    have HF:=bx (And.intro f0 (And.intro f1 f2))
    clear HW f0 f1 f2
    have k0:=mK.c0
    have k1:=mK.c1
    have k2:=mK.c2
    have k3:=mK.fz 0
    have k4:=mK.fz 1
    have k5:=mK.fz 2
    go_wp2
    rw[Lp.out]
    obtain⟨f0,f1,f2⟩:=HF.out
    (try simp only[Exit.inBlock,Exit.then])
    refine bodyPost_ret (by simp[results,Tryz.results53,go_sem,f0,f1,f2]; try rfl) rfl ?_
    exact ee
end Wx
