import Derived.Test.YtocboimkilkklaaGreatJRC8
import Derived.Test.YtocboimkilkklaaGreatJRC9
namespace Wx
set_option maxRecDepth 100000
set_option maxHeartbeats 1000000
open Go Go.RowKit Go.Proofs
def xL (w:World) (q r:Nat) (e:Ending) (w':World):Prop:=∃v1 v2,e=.returned (.tuple #[v1,v2])/\bt .u64 b64 w' v1 q/\bt .u64 b64 w' v2 r/\Below w.heap.size w w'
theorem zT (w:World) (v1 v2:Value) (m n:Nat) (h1:bt .u64 b64 w v1 m) (h2:bt .u64 b64 w v2 n) (hlt:m<n):
  Calls Tryz.prog 112 #[v1,v2] w (xL w (m/n) (m%n)):=by
 rw[Nat.div_eq_of_lt hlt,Nat.mod_eq_of_lt hlt]
 go_enter Tryz.func112,Tryz.ntmps112
 go_wp2_with fail
 refine(nE _ _ _ _ _ h1 h2).mono ?_
 rintro e w1 ⟨rfl,hb1⟩
 rw[show bp m n = -1 by unfold bp; rw[if_pos hlt]]
 have Fb:=h1.below hb1
 go_wp2
 go_ret2
 exact⟨_,_,rfl,bt.zero _ _ _,Fb,hb1⟩
variable {m n:Nat}
theorem xV (h:n<=m):∃z,bp m n=z/\¬(z<0):=⟨_,rfl,by unfold bp; rw[if_neg (by omega)]; split<;>omega⟩
theorem zV (w:World) (v1 v2:Value) (m n:Nat) (h1:bt .u64 b64 w v1 m) (h2:bt .u64 b64 w v2 n) (hle:n<=m) (h0:0<n) (hn:n<b64) {j:Nat} (hj:Bd j m) (cM:j<=1000000000):
  Calls Tryz.prog 112 #[v1,v2] w (xL w (m/n) (m%n)):=by
 obtain⟨z,hz,hz0⟩:=xV hle
 have HZ:=bx hz
 have hr:m%n<b64:=Nat.lt_trans (Nat.mod_lt m h0) hn
 have HR:=bx hr
 have HN:=bx hn
 clear hz hr hn
 have hc:=nE w v1 v2 m n h1 h2
 rw[HZ.out]at hc
 obtain⟨b,o,c,rfl,hcell⟩:=h2.one h0 HN.out
 go_enter Tryz.func112,Tryz.ntmps112
 go_wp2_with fail
 refine hc.mono ?_
 rintro e w1 ⟨rfl,hb1⟩
 have Fb:=h1.below hb1
 have hcell1:w1.cell? ⟨b,o,none⟩=some (.int .u64 (n:Int)):=by rw[hb1.cell (World.block_lt_of_cell? w _ hcell)]; exact hcell
 clear hc hcell
 go_wp2_with fail
 refine(BJ w1 v1 m n Fb hj cM h0 HN.out).mono ?_
 rintro e w2 ⟨vq,rfl,hq,hb2⟩
 go_wp2_with fail
 refine(nu w2 (m%n) HR.out).mono ?_
 rintro e w3 ⟨vr,rfl,hr3,hb3⟩
 go_wp2
 go_ret2
 exact⟨_,_,rfl,hq.below hb3,hr3,(hb1.trans (hb2.mono hb1.size)).trans (hb3.mono (Nat.le_trans hb1.size hb2.size))⟩
theorem ID {T V Q:Nat} (hT:0<T) (h:V+Q*b64^0*(n*T)=m*T) (hlt:V<n*T):Q=m/n/\V/T=m%n/\V<=m*T:=by
 rw[Nat.pow_zero,Nat.mul_one]at h
 obtain⟨h1,h2⟩:=lq (m:=m*T) (d:=n*T) (q:=Q) (r:=V) (by omega) hlt
 rw[Nat.mul_div_mul_right _ _ hT]at h1
 rw[Nat.mul_mod_mul_right]at h2
 exact⟨h1.symm,by rw[<-h2,Nat.mul_div_cancel _ hT],by omega⟩
theorem Row.grown {w w':World} {k:IntKind} {e:TypeId} {g g':Nat} {l:List Nat} (h:Row w k e g l) (hg:w.grownBy w' (some g')) (hne:g'≠g):Row w' k e g l:=by
 obtain⟨rest,h1⟩:=h
 exact⟨rest,by rw[<-h1]; exact hg.block g (Row.lt ⟨rest,h1⟩) (by simp; omega)⟩
theorem iC (h:b64<=n):2<=(ae b64 n).length:=by
 rcases Nat.lt_or_ge (ae b64 n).length 2 with hl|hl
 ·have:=jG ai n
  have:b64^(ae b64 n).length<=b64^1:=Nat.pow_le_pow_right (by unfold b64; omega) (by omega)
  rw[Nat.pow_one]at this
  omega
 ·exact hl
theorem qE (h:n<=m):(ae b64 n).length<=(ae b64 m).length:=by
 rcases Nat.lt_or_ge (ae b64 m).length (ae b64 n).length with hl|hl
 ·have:=cG ai hl; omega
 ·exact hl
theorem zU (w:World) (v1 v2:Value) (m n:Nat) (h1:bt .u64 b64 w v1 m) (h2:bt .u64 b64 w v2 n) (hle:n<=m) (hn:b64<=n) {j:Nat} (hj:Bd j m) (cM:j<=100000000):
  Calls Tryz.prog 112 #[v1,v2] w (xL w (m/n) (m%n)):=by
 obtain⟨z,hz,hz0⟩:=xV hle
 have hc:=nE w v1 v2 m n h1 h2
 rw[hz]at hc
 clear hz
 have Ia:=iC hn
 have MO:=kF ai n
 have hwn:=bF ai n
 obtain⟨B,d,rfl,hb⟩:=id h2
 obtain⟨bb,ob,tb,rfl,hcb,Tg⟩:=hb.get (i:=(ae b64 n).length-1) (by omega)
 have htb:0<tb:=by
  rcases Nat.eq_zero_or_pos tb with rfl|h
  ·exfalso; apply MO
   rw[List.getLast?_eq_getElem?]; exact Tg.out
  ·exact h
 have Rk:tb<b64:=hwn _ (List.mem_of_getElem? Tg.out)
 obtain⟨s,hs,hs1⟩:∃s,s=64-Lib.bitLen tb/\s<=64:=⟨_,rfl,by omega⟩
 have hbl:=hb.len
 have HS:=bx hs
 have Wa:=bx (And.intro htb Rk)
 have hNe:(((ae b64 n).length:Int)==1)=false:=beq_eq_false_iff_ne.2 (by omega)
 have Yd:(0:Int)<=((ae b64 n).length:Int)-1:=by omega
 have SF:Bd (j+65) (m*2^s):=(hj.mul (show Bd 65 (2^s)from Nat.pow_lt_pow_right (by omega) (by omega)))
 have WN:Bd j n:=hj.le hle
 have hmn:n*2^s<=m*2^s:=Nat.mul_le_mul_right _ hle
 have WR:b64<=n*2^s:=Nat.le_trans hn (Nat.le_mul_of_pos_right n (Nat.two_pow_pos s))
 have HH:=bx (And.intro hmn WR)
 have HJ:=bx (And.intro hj (And.intro WN SF))
 clear hs htb Rk hj WN SF hmn WR MO hn hwn
 generalize hN:(ae b64 n).length=N at *
 clear hN
 go_enter Tryz.func112,Tryz.ntmps112
 go_wp2_with fail
 refine hc.mono ?_
 rintro e w1 ⟨rfl,hb1⟩
 have h11:=h1.below hb1
 have Hv:=h2.below hb1
 have Un:w1.cell? ⟨bb,ob+(N-1),none⟩=some (.int .u64 (tb:Int)):=by rw[hb1.cell (World.block_lt_of_cell? w _ hcb)]; exact hcb
 clear hc hcb h1 h2 hb
 go_wp2_with fail
 refine(RB tb Wa.out.1 Wa.out.2 w1).mono ?_
 rintro e w' ⟨rfl,rfl⟩
 rw[<-HS.out]
 go_wp2_with fail
 refine(AB w1 _ n s Hv HJ.out.2.1 (by omega) (by omega)).mono ?_
 rintro e w2 ⟨v,rfl,hv2,hb2⟩
 have h12:=h11.below hb2
 have yo:=hb1.trans (hb2.mono hb1.size)
 clear h11 Hv Un hb1 hb2
 go_wp2_with fail
 have fo:=(Below.refl w2.heap.size w2).alloc (Nat.le_refl _) (.cells #[] 119)
 refine(AB _ _ m s (h12.below fo) HJ.out.1 (by omega) (by omega)).mono ?_
 rintro e w3 ⟨x,rfl,hx3,hb3⟩
 have MK:(w2.alloc (.cells #[] 119)).ownsRow w2.heap.size 119 1 (.slice (some ⟨w2.heap.size,0,none⟩) 0 0) 0 (fI .u64 []):=World.ownsRow_made w2 #[] 0 (Nat.le_refl _) (Nat.zero_le _) rfl
 have DM:=MK.kept (cL hb3 none) (.inr (by simp[Value.ownBlock]))
 have rV:Below w2.heap.size w2 w3:=fo.trans (hb3.mono fo.size)
 have hv3:=hv2.below rV
 have X4:=h12.below rV
 clear MK fo hb3 h12
 obtain⟨X,cx,rfl,Vj⟩:=hx3
 have SL:(ae b64 (m*2^s)).length<=100000000:=by
  have:=pL HJ.out.2.2; omega
 have Vi:=qE HH.out.1
 have Vb:=iC HH.out.2
 obtain⟨V,cv,rfl,J5⟩:=hv2
 clear hv3
 have W5:=(Db.of J5).qF (cL rV none) (by intro g hg; cases hg)
 clear J5
 have QD:=bx (bj ai (n*2^s))
 have T7:=bF ai (n*2^s)
 have WE:=bx (kF ai (n*2^s))
 have WH:=bx (bj ai (m*2^s))
 have T8:=bF ai (m*2^s)
 generalize ae b64 (n*2^s)=vl at *
 generalize ae b64 (m*2^s)=al at *
 obtain⟨bxx,ox,x0,rfl,wS,_⟩:=Vj.get (i:=0) (by omega)
 clear wS
 go_upto_region 9 with(first
  |(at_builtin; refine oQ _ rfl (.tmp 45) (.tmp 48) _ rfl .u64 119 w2.heap.size Tryz.underlying30 kj (.slice (some ⟨w2.heap.size,0,none⟩) 0 0) [] rfl DM _ _ _ al _ rfl rfl Vj (by simp; omega) rV.size ?_; intro U4 A4 c4 w4 Pv pE hg4)
  |(at_builtin; refine oQ _ rfl (.tmp 49) (.tmp 50) _ rfl .u64 119 w2.heap.size Tryz.underlying30 kj (.slice A4 U4.length c4) U4 rfl (pE.alloc _) _ _ _ [0] 1 rfl rfl ((Row.new w4 .u64 119 [0]).eU (c:=1) (by simp) (by simp[maxLen])) (by rw[Pv.out]; simp; omega) (by simp; have h5:=rV.size; have h6:=hg4.size; omega) ?_; intro U A5 c5 w5 PL ML UD))
 have Yj:U.length=al.length+1:=by rw[PL.out,Pv.out]; simp
 have Rm:=W5.qF hg4 (by intro g hg; simp[Value.ownBlock]at hg; omega)
 have Ie:∀k,(Value.slice A4 U4.length c4).ownBlock=some k->w2.heap.size<=k:=λk hk=>(pE.lt k hk).1
 have Rn:=(Rm.qF (World.grownBy_alloc w4 _ none) (by intro g hg; cases hg)).qF UD Ie
 have KJ:Below w.heap.size w w4:=(yo.trans (rV.mono yo.size)).grown hg4 (Nat.le_trans yo.size rV.size) (by intro g hg; simp[Value.ownBlock]at hg; have:=yo.size; omega)
 have Sw:Below w.heap.size w w5:=(KJ.alloc KJ.size (.cells #[.int .u64 0] 119)).grown UD (by have:=KJ.size; simp; omega) (by intro g hg; have:=Ie g hg; have:=yo.size; omega)
 obtain⟨g,rfl,hgB,SA,yu,T3⟩:=Bb ML (by omega)
 clear W5 Rm Ie KJ hg4 UD DM pE ML X4 Vj
 have QB:Bx (val b64 U+val b64 (List.drop (U.length-vl.length) (List.replicate (U.length-vl.length) 0))*b64^(U.length-vl.length)*(n*2^s)=m*2^s):=by
  refine bx ?_
  rw[List.drop_of_length_le (by simp),Ex,Nat.zero_mul,Nat.zero_mul,Nat.add_zero,PL.out,Pv.out,List.nil_append,gN,WH.out]
  simp[val]
 have Qw:Bx (val b64 (U.drop (U.length-vl.length))<n*2^s):=by
  refine bx ?_
  have e1:U.drop (U.length-vl.length)=(al.drop (U.length-vl.length))++[0]:=by
   rw[PL.out,Pv.out,List.nil_append,List.drop_append_of_le_length (by simp; omega)]
  rw[e1,gN]
  have h1:=fO (T8.drop (U.length-vl.length))
  have h2:=nc ai (n:=n*2^s) (by have:=HH.out.2; unfold b64 at this; omega)
  have h3:(ae b64 (n*2^s)).length=vl.length:=by rw[<-QD.out,mF ai T7 WE.out]
  rw[h3]at h2
  rw[List.length_drop,show al.length-(U.length-vl.length)=vl.length-1 by omega]at h1
  simp[val]
  omega
 have Ym:Wf b64 U:=by rw[PL.out,Pv.out]; exact(Wf.append (Wf.nil _) T8).append (Wf.cons (by unfold b64; omega) (Wf.nil _))
 have Yk:vl.length+1<=U.length:=by omega
 have Yl:U.length<=100000001:=by omega
 clear Pv PL Yj T8 WH SL Vi
 go_wp2_with (at_make; go_loud (refine cH _ rfl _ _ _ rfl .u64 119 Tryz.underlying30 kj _ _ rfl rfl (by omega) (by omega) (by omega) ?_); intro w6 hrow cE hsz)
 rw[show((U.length:Int)-(vl.length:Int)).toNat=U.length-vl.length by omega]at hrow
 rw[show decide (z<0)=false from decide_eq_false (by omega)]
 have QA:=SA.keep cE
 have Ro:=Rn.qF (cL cE none) (by intro g hg; cases hg)
 have Wq:=Sw.trans (cE.mono Sw.size)
 have WL:g≠w5.heap.size:=by have:=SA.lt; omega
 generalize Wv:U.length-vl.length=Qn at *
 have Tb:=bx Wv
 have hq1:(Qn:Int)<=100000001:=by omega
 have hcc:c5<=9223372036854775807:=by unfold maxLen at T3; omega
 have V0:=bx WL
 have Td:=bx (And.intro Sw.size (show w2.heap.size<=w5.heap.size by have:=SA.lt; omega))
 have Te:=bx (show w.heap.size<=g by have:=yo.size; omega)
 clear SA Rn Sw cE hsz Wv hz0 WL Tg hNe Yd hbl Ia yo rV
 go_loopw [13] (λVC wr=>∃(i:Nat) (M qs:List Nat),i<=Qn/\VC=.int .i64 ((i:Int)-1)/\Bx (M.length=U.length)/\Wf b64 M/\Bx (qs.length=Qn)/\Wf b64 qs/\Row wr .u64 119 g M/\Row wr .u64 119 w5.heap.size qs/\Db wr w2.heap.size .u64 V cv vl/\Below w.heap.size w wr /\
   Bx (val b64 M+val b64 (qs.drop i)*b64^i*(n*2^s)=m*2^s)/\Bx (val b64 (M.drop i)<n*2^s)) (λVC _=>(intOf VC+1).toNat)
 case atStart=>exact⟨Qn,U,List.replicate Qn 0,Nat.le_refl _,rfl,bx rfl,Ym,bx (by simp),Wf.replicate (by unfold b64; omega) _,QA,hrow,Ro,Wq,QB,Qw⟩
 case round=>
  clear QA hrow Ro Wq QB Qw
  obtain⟨i,M,qs,hi,rfl,GH,Ij,PJ,KX,MM,U7,J5,Qt,cK,EF⟩:=hrel
  rcases Nat.eq_zero_or_pos i with rfl|hpos
  ·rw[show(((0:Nat):Int)-1) = -1 by omega]
   go_wp2_with fail
   obtain⟨e1,e2,e3⟩:=ID (Nat.two_pow_pos s) cK.out EF.out
   have E1:=bx e1
   have E2:=bx e2
   have E3:=bx (HJ.out.2.2.le e3)
   clear e1 e2 e3 hcc hq1
   refine(iO wr (some ⟨w5.heap.size,0,none⟩) Qn qs (m/n) (U7.eU (by rw[PJ.out]; exact Nat.le_refl _) (by have:=Tb.out; unfold maxLen; omega)) KX Qn PJ.out E1.out).mono ?_
   rintro e w' ⟨rfl,vq,rfl,YQ⟩
   go_wp2_with fail
   refine(iO wr (some ⟨g,0,none⟩) c5 M _ (MM.eU (by rw[GH.out]; exact yu) T3) Ij U.length GH.out rfl).mono ?_
   rintro e w' ⟨rfl,vM,rfl,YP⟩
   go_wp2_with fail
   refine(F9 wr vM (val b64 M) s YP E3.out (by omega) (by omega)).mono ?_
   rintro e wf ⟨vr,rfl,WS,SC⟩
   go_wp2
   go_ret2
   rw[E2.out]at WS
   exact⟨_,_,rfl,YQ.below SC,WS,Qt.trans (SC.mono Qt.size)⟩
  ·obtain⟨k,rfl⟩:∃k,i=k+1:=⟨i-1,by omega⟩
   rw[show(((k+1:Nat):Int)-1)=(k:Int) by omega]
   have tQ:(0:Int)<=(k:Int):=by omega
   have kX:(k:Int)<(Qn:Int):=by omega
   have hk2:(k:Int)+(vl.length:Int)+1<=(c5:Int):=by have:=Tb.out; omega
   go_wp2_with fail
   have Q3:k+(vl.length+1)<=M.length:=by have:=Tb.out; have:=GH.out; omega
   have Om:=rB Q3 Ij (V:=n*2^s) EF.out
   rw[<-QD.out]at Om
   have QK:vl.length+1<=c5-k:=by omega
   rw[show k+vl.length+1-k=vl.length+1 by omega]
   have QL:c5-k<=maxLen:=Nat.le_trans (Nat.sub_le _ _) T3
   have Rp:vl.length<=1000000000:=by omega
   refine(ET wr w2.heap.size g k (c5-k) M vl V cv MM Ij Q3 QK QL J5 hgB T7 Rp Vb WE.out Om).mono ?_
   clear Om QK
   rintro e wd ⟨rfl,hgd,M',N9,Ve,U6,Ce,hdr,rW⟩
   have Ow:=U7.grown hgd V0.out
   have Vd:=J5.grown hgd hgB
   have TU:=Qt.grown hgd Qt.size (by intro g' yw; injection yw with yw; have:=Te.out; omega)
   obtain⟨l1,l2⟩:=Fy N9 Q3 (show n*2^s<b64^vl.length by rw[<-QD.out]; exact fO T7) (by rw[PJ.out]; omega) Ce hdr (by rw[<-QD.out]; exact rW) EF.out cK.out
   rw[QD.out]
   have Ic:val b64 (win M k (vl.length+1))/(n*2^s)<b64:=by
    rw[Nat.div_lt_iff_lt_mul (by have:=EF.out; omega),Nat.mul_comm]
    exact rB Q3 Ij EF.out
   have S8:=bx (N9.trans GH.out)
   generalize SJ:val b64 (win M k (vl.length+1))/(n*2^s)=qd at *
   have Xt:=bx l1
   have Xu:=bx l2
   have XB:=bx Ic
   clear QL Rp l1 l2 Ic SJ Ce hdr rW N9 Q3 MM U7 J5 Qt Ij GH hgd cK EF
   obtain⟨vo,DJ,Gp⟩:=Ow.get (i:=k) (by have:=PJ.out; omega)
   have vh:=Ow.frozen k
   go_wp2
   go_roundw
   case rel=>
    exact⟨k,M',qs.set k qd,by omega,by go_num,S8,Ve,bx (by rw[List.length_set]; exact PJ.out),KX.set XB.out,U6.KE (by simpa using V0.out) _,Ow.set _ _,Vd.qF (wR _ _ _ _) (by intro g' yw; injection yw with yw; have:=Td.out.2; omega),TU.setCell Td.out.1 _,Xt,Xu⟩
   case measure=>simp[intOf]
theorem gF (w:World) (v1 v2:Value) (m n:Nat) (h1:bt .u64 b64 w v1 m) (h2:bt .u64 b64 w v2 n) (h0:0<n) {j:Nat} (hj:Bd j m) (cM:j<=100000000):
  Calls Tryz.prog 112 #[v1,v2] w (xL w (m/n) (m%n)):=by
 rcases Nat.lt_or_ge m n with hlt|hge
 ·exact zT w v1 v2 m n h1 h2 hlt
 ·rcases Nat.lt_or_ge n b64 with hn|hn
  ·exact zV w v1 v2 m n h1 h2 hge h0 hn hj (by omega)
  ·exact zU w v1 v2 m n h1 h2 hge hn hj cM
end Wx

namespace Wx
set_option maxHeartbeats 1000000
open Go Go.RowKit Go.Proofs
variable {w:World} {k:IntKind}
theorem Rd.inj {A:Option Addr} {c c':Nat} {l r:List Nat} (h:Rd w k A c l) (g:Rd w k A c' r) (hl:l.length=r.length):l=r:=by
 apply List.ext_getElem hl
 intro i h1 h2
 obtain⟨b,o,e,hc⟩:=h.at_ (i:=i) h1
 obtain⟨b',o',e',hc'⟩:=g.at_ (i:=i) h2
 rw[e]at e'
 injection e' with e'
 injection e' with e1 e2
 subst e1 e2
 rw[hc]at hc'
 injection hc' with hc'
 injection hc' with _ hc'
 rw[List.getD_eq_getElem?_getD,List.getD_eq_getElem?_getD,List.getElem?_eq_getElem h1,List.getElem?_eq_getElem h2]at hc'
 simp only[Option.getD_some]at hc'
 omega
variable {v:Value} {n:Nat}
theorem bt.inj {m:Nat} (h:bt k b64 w v m) (g:bt k b64 w v n):m=n:=by
 obtain⟨A,c,rfl,hr⟩:=h
 obtain⟨A',c',e,gr⟩:=g
 injection e with e1 e2 e3
 subst e1
 exact zQ ai (hr.inj gr e2)
open Classical in
noncomputable def numOf (w:World) (v:Value):Nat:=if h:∃n,bt .u64 b64 w v n then choose h else 0
theorem bt.of_eq (h:bt .u64 b64 w v n):numOf w v=n:=by
 have hx:∃n,bt .u64 b64 w v n:=⟨n,h⟩
 unfold numOf
 rw[dif_pos hx]
 exact(Classical.choose_spec hx).inj h
theorem oH (h:n<b64):(ae b64 n).length<=1:=gv ai (by simpa using h)
theorem uY (h:¬n<b64):2<=(ae b64 n).length:=iC (by omega)
theorem sE (w:World) (v1 v2:Value) (m n:Nat) (h1:bt .u64 b64 w v1 m) (h2:bt .u64 b64 w v2 n) {j:Nat} (hj:Bd j m) (hk:Bd j n) (cM:j<=100000000):
  Calls Tryz.prog 110 #[v1,v2] w (eR .u64 b64 w (Nat.gcd m n)):=by
 have HX:=bx (And.intro hj hk)
 clear hj hk
 obtain⟨G,hG⟩:∃G,G=Nat.gcd m n:=⟨_,rfl⟩
 rw[<-hG]
 have HG:=bx hG
 clear hG
 go_enter Tryz.func110,Tryz.ntmps110
 go_wp2_with fail
 go_loopw [0,1] (λs0 s1 wr=>∃x y:Nat,bt .u64 b64 wr s0 x/\bt .u64 b64 wr s1 y/\Bx (G=Nat.gcd x y)/\Bx (Bd j x/\Bd j y)/\Below w.heap.size w wr) (λ_ s1 wr=>numOf wr s1)
 case atStart=>exact⟨_,_,h1,h2,HG,HX,Below.refl _ _⟩
 case round=>
  clear h1 h2 HG HX
  obtain⟨x,y,hx,hy,HG,HX,hb⟩:=hrel
  rcases Nat.eq_zero_or_pos y with rfl|hy0
  ·obtain⟨A,c,rfl,hr⟩:=id hy
   rw[bk]at hr ⊢
   go_wp2
   go_ret
   exact⟨_,rfl,by rw[HG.out,Nat.gcd_zero_right]; exact hx,hb⟩
  ·obtain⟨A,c,rfl,hr⟩:=id hx
   obtain⟨B,d,rfl,hs⟩:=id hy
   have qy:(1:Int)<=((ae b64 y).length:Int):=by have:=(av (n:=y) ai).2 hy0; omega
   by_cases hx1:x<b64
   ·by_cases qz:y<b64
    ·have a1:((ae b64 x).length:Int)<=1:=by have:=oH hx1; omega
     have a2:((ae b64 y).length:Int)<=1:=by have:=oH qz; omega
     have XI:=bx hx1
     have Wc:=bx qz
     have EG:=bx hy0
     clear hx1 qz hy0
     go_wp2_with fail
     refine(Gf wr _ _ x y hx hy XI.out Wc.out EG.out).mono ?_
     rintro e w2 ⟨rfl,hb2⟩
     go_wp2_with fail
     refine(nu w2 _ (Nat.lt_of_le_of_lt (Nat.gcd_le_right x EG.out) Wc.out)).mono ?_
     rintro e w3 ⟨vr,rfl,hr3,hb3⟩
     go_wp2
     go_ret
     exact⟨_,rfl,by rw[HG.out]; exact hr3,(hb.trans (hb2.mono hb.size)).trans (hb3.mono (Nat.le_trans hb.size hb2.size))⟩
    ·have a1:((ae b64 x).length:Int)<=1:=by have:=oH hx1; omega
     have a2:(2:Int)<=((ae b64 y).length:Int):=by have:=uY qz; omega
     have EG:=bx hy0
     clear hx1 qz hy0
     go_wp2_with fail
     refine(gF wr _ _ x y hx hy EG.out HX.out.1 cM).mono ?_
     rintro e w2 ⟨vq,vr,rfl,hq,hr2,hb2⟩
     have OD:=hy.below hb2
     go_wp2
     go_roundw
     case rel=>exact⟨y,x%y,OD,hr2,bx (by rw[HG.out,Nat.gcd_comm x y,Nat.gcd_rec y x,Nat.gcd_comm]),bx ⟨HX.out.2,HX.out.2.le (Nat.le_of_lt (Nat.mod_lt _ EG.out))⟩,hb.trans (hb2.mono hb.size)⟩
     case measure=>rw[hr2.of_eq,hy.of_eq]; exact Nat.mod_lt _ EG.out
   ·have a1:(2:Int)<=((ae b64 x).length:Int):=by have:=uY hx1; omega
    have EG:=bx hy0
    clear hx1 hy0
    go_wp2_with fail
    refine(gF wr _ _ x y hx hy EG.out HX.out.1 cM).mono ?_
    rintro e w2 ⟨vq,vr,rfl,hq,hr2,hb2⟩
    have OD:=hy.below hb2
    go_wp2
    go_roundw
    case rel=>exact⟨y,x%y,OD,hr2,bx (by rw[HG.out,Nat.gcd_comm x y,Nat.gcd_rec y x,Nat.gcd_comm]),bx ⟨HX.out.2,HX.out.2.le (Nat.le_of_lt (Nat.mod_lt _ EG.out))⟩,hb.trans (hb2.mono hb.size)⟩
    case measure=>rw[hr2.of_eq,hy.of_eq]; exact Nat.mod_lt _ EG.out
end Wx

namespace Wx
set_option maxHeartbeats 1000000
open Go Go.RowKit Go.Proofs
def zm (w:World) (g:Nat):Prop:=∀i k z,w.cell? ⟨g,i,none⟩≠some (.int k z)
def cW (w:World) (g:Nat) (x y z:Value) (e:TypeId):Prop:=w.heap[g]?=some (.cells #[x,y,z] e (0,0))
variable {w:World} {g:Nat} {x y z:Value} {e:TypeId}
theorem cW.c0 (h:cW w g x y z e):w.cell? ⟨g,0,none⟩=some x:=by unfold cW at h; simp[World.cell?,h]
theorem cW.c1 (h:cW w g x y z e):w.cell? ⟨g,1,none⟩=some y:=by unfold cW at h; simp[World.cell?,h]
theorem cW.c2 (h:cW w g x y z e):w.cell? ⟨g,2,none⟩=some z:=by unfold cW at h; simp[World.cell?,h]
theorem cW.fz (h:cW w g x y z e) (i:Nat):w.frozen? ⟨g,i,none⟩=false:=by unfold cW at h; simp[World.frozen?,h]
variable {w':World}
theorem cW.below {B:Nat} (h:cW w g x y z e) (hb:Below B w w') (hg:g<B):cW w' g x y z e:=(hb.block g hg).trans h
theorem cW.new (w:World) (x y z:Value) (e:TypeId):cW (w.alloc (.cells #[x,y,z] e)) w.heap.size x y z e:=by unfold cW; exact heap_alloc_new _ _
theorem iN (w:World) (o:Obj):w.heap.size<(w.alloc o).heap.size:=by simp
theorem cW.jq (h:cW w g x y z e) (hx:∀k n,x≠.int k n) (hy:∀k n,y≠.int k n) (hz:∀k n,z≠.int k n):zm w g:=by
 intro i k n hc
 unfold cW at h
 simp only[World.cell?,h]at hc
 match i,hc with
 |0,hc=>exact hx k n (by simpa using hc)
 |1,hc=>exact hy k n (by simpa using hc)
 |2,hc=>exact hz k n (by simpa using hc)
 |n+3,hc=>simp at hc
theorem cW.LN (h:cW w g x y z e) (u:Value):cW (w.setCell ⟨g,0,none⟩ u) g u y z e:=by
 unfold cW at *; simp[World.setCell,Array.getElem?_modify,h]
theorem cW.LO (h:cW w g x y z e) (u:Value):cW (w.setCell ⟨g,1,none⟩ u) g x u z e:=by
 unfold cW at *; simp[World.setCell,Array.getElem?_modify,h]
theorem cW.LP (h:cW w g x y z e) (u:Value):cW (w.setCell ⟨g,2,none⟩ u) g x y u e:=by
 unfold cW at *; simp[World.setCell,Array.getElem?_modify,h]
variable {k:IntKind}
theorem Rd.jq {A:Option Addr} {c:Nat} {l:List Nat} (h:Rd w k A c l) {g:Nat} (hg:zm w g) (i:Nat) (u:Value):Rd (w.setCell ⟨g,i,none⟩ u) k A c l:=by
 obtain⟨h1,h2,h3⟩:=h
 refine⟨h1,h2,λhne=>?_⟩
 obtain⟨b,o,e,hc⟩:=h3 hne
 refine⟨b,o,e,λi' hi=>?_⟩
 have KU:b≠g:=by rintro rfl; exact hg _ _ _ (hc i' hi)
 rw[World.cell?_of_block (Below.heap_setCell w ⟨g,i,none⟩ u b KU)]
 exact hc i' hi
variable {v:Value} {n:Nat}
theorem bt.jq (h:bt k b64 w v n) {g:Nat} (hg:zm w g) (i:Nat) (u:Value):bt k b64 (w.setCell ⟨g,i,none⟩ u) v n:=by
 obtain⟨A,c,rfl,hr⟩:=h
 exact⟨A,c,rfl,hr.jq hg i u⟩
def ak (d:Nat):Nat:=if d=1 then 0 else d
def cm (w:World) (v:Value) (q:Rat):Prop:=∃vn vd,v=.agg #[.bool (decide (q.num<0)),vn,vd]/\bt .u64 b64 w vn q.num.natAbs/\bt .u64 b64 w vd (ak q.den)
def kZ (w:World) (q:Rat) (e:Ending) (w':World):Prop:=∃v,e=.returned v/\cm w' v q/\Below w.heap.size w w'
variable {q:Rat}
theorem cm.below (h:cm w v q) (hb:Below w.heap.size w w'):cm w' v q:=by
 obtain⟨vn,vd,rfl,h1,h2⟩:=h
 exact⟨vn,vd,rfl,h1.below hb,h2.below hb⟩
def bB (j:Nat) (q:Rat):Prop:=Bd j q.num.natAbs/\Bd j q.den
variable {j:Nat}
theorem bB.mono {k:Nat} (h:bB j q) (hk:j<=k):bB k q:=⟨h.1.mono hk,h.2.mono hk⟩
def sg (neg:Bool) (n:Nat):Int:=if neg then -(n:Int)else n
theorem qR (neg:Bool) (n:Nat):(sg neg n).natAbs=n:=by cases neg<;>simp[sg]
theorem Bf (z:Int):sg (decide (z<0)) z.natAbs=z:=by
 unfold sg
 by_cases h:z<0
 ·rw[decide_eq_true h]; simp; omega
 ·rw[decide_eq_false h]; simp; omega
def dm (neg:Bool) (n d:Nat):Rat:=mkRat (sg neg n) d
variable {neg:Bool} {d:Nat}
theorem A6 (hd:0<d):(dm neg n d).num=sg neg (n/n.gcd d):=by
 unfold dm
 rw[Rat.num_mkRat,if_neg (by omega),qR,Nat.gcd_comm]
 cases neg
 ·simp[sg]
 ·show -(n:Int)/((n.gcd d:Nat):Int) = -((n/n.gcd d:Nat):Int)
  rw[Int.neg_ediv_of_dvd (Int.natCast_dvd_natCast.2 (Nat.gcd_dvd_left n d)),Int.natCast_ediv]
theorem qg (hd:0<d):(dm neg n d).den=d/n.gcd d:=by
 unfold dm
 rw[Rat.den_mkRat,if_neg (by omega),qR,Nat.gcd_comm]
theorem jP (hd:0<d):(dm neg n d).num.natAbs=n/n.gcd d:=by rw[A6 hd,qR]
theorem nQ (hd:0<d) (h1:Bd j n) (h2:Bd j d):bB j (dm neg n d):=
 ⟨by rw[jP hd]; exact h1.le (Nat.div_le_self _ _),by rw[qg hd]; exact h2.le (Nat.div_le_self _ _)⟩
theorem uH (hd:0<d) (hn:0<n):decide ((dm neg n d).num<0)=neg:=by
 rw[A6 hd]
 have:0<n/n.gcd d:=Nat.div_pos (Nat.le_of_dvd hn (Nat.gcd_dvd_left n d)) (Nat.gcd_pos_of_pos_left _ hn)
 cases neg<;>simp[sg]<;>omega
theorem xu:dm neg 0 d=0:=by
 unfold dm sg
 cases neg<;>simp
theorem qf {w3:World} {A1 A2:Option Addr} {l1 l2 c1 c2:Nat} (hg:w.heap.size<=g) (hb:Below w.heap.size w w3) (ho:cW w3 g x y z e)
  (hx:∀k n,x≠.int k n) (hy:∀k n,y≠.int k n) (hz:∀k n,z≠.int k n) (hn:decide (q.num<0)=neg) (h1:bt .u64 b64 w3 (.slice A1 l1 c1) q.num.natAbs) (h2:bt .u64 b64 w3 (.slice A2 l2 c2) (ak q.den)):
  ∃wf,((w3.setCell ⟨g,0,none⟩ (.bool neg)).setCell ⟨g,1,none⟩ (.slice A1 l1 c1)).setCell ⟨g,2,none⟩ (.slice A2 l2 c2)=wf/\wf.cell? ⟨g,0,none⟩=some (.bool neg)/\wf.cell? ⟨g,1,none⟩=some (.slice A1 l1 c1)/\wf.cell? ⟨g,2,none⟩=some (.slice A2 l2 c2) /\
   kZ w q (.returned (.agg #[.bool neg,.slice A1 l1 c1,.slice A2 l2 c2])) wf:=by
 have n0:=ho.jq hx hy hz
 have o1:=ho.LN (.bool neg)
 have n1:=o1.jq (by simp) hy hz
 have o2:=o1.LO (.slice A1 l1 c1)
 have n2:=o2.jq (by simp) (by simp) hz
 have o3:=o2.LP (.slice A2 l2 c2)
 refine⟨_,rfl,o3.c0,o3.c1,o3.c2,_,rfl,⟨_,_,by rw[hn],((h1.jq n0 _ _).jq n1 _ _).jq n2 _ _,((h2.jq n0 _ _).jq n1 _ _).jq n2 _ _⟩,((hb.setCell hg _).setCell hg _).setCell hg _⟩
theorem cU (w:World):cm w (.agg #[.bool false,.slice none 0 0,.slice none 0 0]) 0:=⟨_,_,rfl,bt.zero _ _ _,bt.zero _ _ _⟩
theorem kE:ak 1=0:=rfl
theorem mE (h:d≠1):ak d=d:=if_neg h
theorem gM (w:World) (v:Value) (d:Nat) (h:bt .u64 b64 w v (ak d)) (hd:0<d):Calls Tryz.prog 70 #[v] w (eR .u64 b64 w d):=by
 by_cases h1:d=1
 ·subst h1
  obtain⟨A,c,rfl,hr⟩:=id h
  rw[kE,bk]
  go_enter Tryz.func70,Tryz.ntmps70
  go_wp2_with fail
  refine(nu w 1 (by unfold b64; omega)).mono ?_
  rintro e w3 ⟨vr,rfl,hr3,hb3⟩
  go_wp2
  go_ret
  exact⟨_,rfl,hr3,hb3⟩
 ·rw[mE h1]at h
  obtain⟨A,c,rfl,hr⟩:=id h
  have hl:(((ae b64 d).length:Int)==0)=false:=beq_eq_false_iff_ne.2 (by have:=(av (n:=d) ai).2 hd; omega)
  go_enter Tryz.func70,Tryz.ntmps70
  go_wp2
  go_ret
  exact⟨_,rfl,h,Below.refl _ _⟩
theorem jQ (w:World) (neg:Bool) (v1 v2:Value) (n d:Nat) (h1:bt .u64 b64 w v1 n) (h2:bt .u64 b64 w v2 d) (hd:0<d) {j:Nat} (hj:Bd j n) (hk:Bd j d) (cM:j<=100000000):
  Calls Tryz.prog 67 #[.bool neg,v1,v2] w (kZ w (dm neg n d)):=by
 rcases Nat.eq_zero_or_pos n with rfl|hn
 ·obtain⟨A,c,rfl,hr⟩:=id h1
  rw[bk,xu]
  go_enter Tryz.func67,Tryz.ntmps67
  go_wp2
  go_returns
  exact⟨_,rfl,cU _,Below.alloc (Below.refl _ _) (Nat.le_refl _) _⟩
 ·obtain⟨B,c,rfl,hr⟩:=id h1
  have hl:(((ae b64 n).length:Int)==0)=false:=beq_eq_false_iff_ne.2 (by have:=(av (n:=n) ai).2 hn; omega)
  obtain⟨g,hg⟩:∃g,g=n.gcd d:=⟨_,rfl⟩
  obtain⟨q,hq⟩:∃q,q=dm neg n d:=⟨_,rfl⟩
  have hg0:0<g:=by rw[hg]; exact Nat.gcd_pos_of_pos_left _ hn
  have q1:=jP (neg:=neg) (n:=n) hd
  have q2:=qg (neg:=neg) (n:=n) hd
  have q3:=uH (neg:=neg) hd hn
  rw[<-hq,<-hg]at q1 q2
  rw[<-hq]at q3
  rw[<-hq]
  have HQ:=bx (And.intro q1 (And.intro q2 q3))
  have HJ:=bx (And.intro hj hk)
  have HG:=bx hg
  clear q1 q2 q3 hq hj hk hg hn
  by_cases Gu:g=1
  ·subst Gu
   rw[Nat.div_one,Nat.div_one]at HQ
   by_cases vm:d=1
   ·have wg:=bx vm
    clear vm
    go_enter Tryz.func67,Tryz.ntmps67
    go_wp2_with fail
    have hb0:=Below.alloc (Below.refl w.heap.size w) (Nat.le_refl _) (.cells #[.bool false,.slice none 0 0,.slice none 0 0] 32)
    have ho:=cW.new w (.bool false) (.slice none 0 0) (.slice none 0 0) 32
    have hlt:=iN w (.cells #[.bool false,.slice none 0 0,.slice none 0 0] 32)
    generalize w.alloc (.cells #[.bool false,.slice none 0 0,.slice none 0 0] 32)=w0 at *
    refine(sE _ _ _ n d (h1.below hb0) (h2.below hb0) HJ.out.1 HJ.out.2 cM).mono ?_
    rintro e w1 ⟨vg,rfl,Cg,hb1⟩
    rw[<-HG.out]at Cg
    have Oq:=ho.below hb1 hlt
    have tR:=Nat.lt_of_lt_of_le hlt hb1.size
    have mM:=hb0.trans (hb1.mono hb0.size)
    have h11:=h1.below mM
    have Hv:=h2.below mM
    go_wp2_with fail
    refine(iZ w1 vg Cg).mono ?_
    rintro e w' ⟨rfl,rfl⟩
    go_wp2_with fail
    rw[wg.out]at Hv
    refine(iZ w1 _ Hv).mono ?_
    rintro e w' ⟨rfl,rfl⟩
    have oh:=Oq
    have Nl:=mM
    obtain⟨wf,HW,f0,f1,f2,eL⟩:=qf (q:=q) (neg:=neg) (Nat.le_refl _) Nl oh (by simp) (by simp) (by simp) HQ.out.2.2 (by rw[HQ.out.1]; exact h11) (A2:=none) (l2:=0) (c2:=0) (by rw[HQ.out.2.1,wg.out,kE]; exact bt.zero _ _ _)
    have Ns:=bx HW
    have HF:=bx (And.intro f0 (And.intro f1 f2))
    clear HW f0 f1 f2
    have k0:=oh.c0
    have k1:=oh.c1
    have k2:=oh.c2
    have k3:=oh.fz 0
    have k4:=oh.fz 1
    have k5:=oh.fz 2
    go_wp2
    rw[Ns.out]
    obtain⟨f0,f1,f2⟩:=HF.out
    (try simp only[Exit.inBlock,Exit.then])
    refine bodyPost_ret (by simp[results,Tryz.results67,go_sem,f0,f1,f2]; try rfl) rfl ?_
    exact eL
   ·have wg:=bx vm
    clear vm
    go_enter Tryz.func67,Tryz.ntmps67
    go_wp2_with fail
    have hb0:=Below.alloc (Below.refl w.heap.size w) (Nat.le_refl _) (.cells #[.bool false,.slice none 0 0,.slice none 0 0] 32)
    have ho:=cW.new w (.bool false) (.slice none 0 0) (.slice none 0 0) 32
    have hlt:=iN w (.cells #[.bool false,.slice none 0 0,.slice none 0 0] 32)
    generalize w.alloc (.cells #[.bool false,.slice none 0 0,.slice none 0 0] 32)=w0 at *
    refine(sE _ _ _ n d (h1.below hb0) (h2.below hb0) HJ.out.1 HJ.out.2 cM).mono ?_
    rintro e w1 ⟨vg,rfl,Cg,hb1⟩
    rw[<-HG.out]at Cg
    have Oq:=ho.below hb1 hlt
    have tR:=Nat.lt_of_lt_of_le hlt hb1.size
    have mM:=hb0.trans (hb1.mono hb0.size)
    have h11:=h1.below mM
    have Hv:=h2.below mM
    go_wp2_with fail
    refine(iZ w1 vg Cg).mono ?_
    rintro e w' ⟨rfl,rfl⟩
    go_wp2_with fail
    refine(jg w1 _ _ Hv wg.out).mono ?_
    rintro e w' ⟨rfl,rfl⟩
    have oh:=Oq
    have Nl:=mM
    obtain⟨A2,c2,rfl,_⟩:=id Hv
    obtain⟨wf,HW,f0,f1,f2,eL⟩:=qf (q:=q) (neg:=neg) (Nat.le_refl _) Nl oh (by simp) (by simp) (by simp) HQ.out.2.2 (by rw[HQ.out.1]; exact h11) (by rw[HQ.out.2.1,mE wg.out]; exact Hv)
    have Ns:=bx HW
    have HF:=bx (And.intro f0 (And.intro f1 f2))
    clear HW f0 f1 f2
    have k0:=oh.c0
    have k1:=oh.c1
    have k2:=oh.c2
    have k3:=oh.fz 0
    have k4:=oh.fz 1
    have k5:=oh.fz 2
    go_wp2
    rw[Ns.out]
    obtain⟨f0,f1,f2⟩:=HF.out
    (try simp only[Exit.inBlock,Exit.then])
    refine bodyPost_ret (by simp[results,Tryz.results67,go_sem,f0,f1,f2]; try rfl) rfl ?_
    exact eL
  ·by_cases vm:d/g=1
   ·have S4:=bx Gu
    have wg:=bx vm
    clear Gu vm
    go_enter Tryz.func67,Tryz.ntmps67
    go_wp2_with fail
    have hb0:=Below.alloc (Below.refl w.heap.size w) (Nat.le_refl _) (.cells #[.bool false,.slice none 0 0,.slice none 0 0] 32)
    have ho:=cW.new w (.bool false) (.slice none 0 0) (.slice none 0 0) 32
    have hlt:=iN w (.cells #[.bool false,.slice none 0 0,.slice none 0 0] 32)
    generalize w.alloc (.cells #[.bool false,.slice none 0 0,.slice none 0 0] 32)=w0 at *
    refine(sE _ _ _ n d (h1.below hb0) (h2.below hb0) HJ.out.1 HJ.out.2 cM).mono ?_
    rintro e w1 ⟨vg,rfl,Cg,hb1⟩
    rw[<-HG.out]at Cg
    have Oq:=ho.below hb1 hlt
    have tR:=Nat.lt_of_lt_of_le hlt hb1.size
    have mM:=hb0.trans (hb1.mono hb0.size)
    have h11:=h1.below mM
    have Hv:=h2.below mM
    go_wp2_with fail
    refine(jg w1 vg g Cg S4.out).mono ?_
    rintro e w' ⟨rfl,rfl⟩
    go_wp2_with fail
    refine(gF w1 _ _ n g h11 Cg hg0 HJ.out.1 cM).mono ?_
    rintro e w2 ⟨vn,vr,rfl,Vc,_,hb2⟩
    have B9:=mM.trans (hb2.mono mM.size)
    have TR:=h2.below B9
    have OA:=Cg.below hb2
    have UY:=Oq.below hb2 tR
    have qG:=Nat.lt_of_lt_of_le tR hb2.size
    go_wp2_with fail
    refine(gF w2 _ _ d g TR OA hg0 HJ.out.2 cM).mono ?_
    rintro e w3 ⟨vd,ZD,rfl,PB,_,hb3⟩
    have Nl:=B9.trans (hb3.mono B9.size)
    have oh:=UY.below hb3 qG
    have Ih:=Vc.below hb3
    go_wp2_with fail
    rw[wg.out]at PB
    refine(iZ w3 vd PB).mono ?_
    rintro e w' ⟨rfl,rfl⟩
    obtain⟨A1,c1,rfl,_⟩:=id Ih
    obtain⟨wf,HW,f0,f1,f2,eL⟩:=qf (q:=q) (neg:=neg) (Nat.le_refl _) Nl oh (by simp) (by simp) (by simp) HQ.out.2.2 (by rw[HQ.out.1]; exact Ih) (A2:=none) (l2:=0) (c2:=0) (by rw[HQ.out.2.1,wg.out,kE]; exact bt.zero _ _ _)
    have Ns:=bx HW
    have HF:=bx (And.intro f0 (And.intro f1 f2))
    clear HW f0 f1 f2
    have k0:=oh.c0
    have k1:=oh.c1
    have k2:=oh.c2
    have k3:=oh.fz 0
    have k4:=oh.fz 1
    have k5:=oh.fz 2
    go_wp2
    rw[Ns.out]
    obtain⟨f0,f1,f2⟩:=HF.out
    (try simp only[Exit.inBlock,Exit.then])
    refine bodyPost_ret (by simp[results,Tryz.results67,go_sem,f0,f1,f2]; try rfl) rfl ?_
    exact eL
   ·have S4:=bx Gu
    have wg:=bx vm
    clear Gu vm
    go_enter Tryz.func67,Tryz.ntmps67
    go_wp2_with fail
    have hb0:=Below.alloc (Below.refl w.heap.size w) (Nat.le_refl _) (.cells #[.bool false,.slice none 0 0,.slice none 0 0] 32)
    have ho:=cW.new w (.bool false) (.slice none 0 0) (.slice none 0 0) 32
    have hlt:=iN w (.cells #[.bool false,.slice none 0 0,.slice none 0 0] 32)
    generalize w.alloc (.cells #[.bool false,.slice none 0 0,.slice none 0 0] 32)=w0 at *
    refine(sE _ _ _ n d (h1.below hb0) (h2.below hb0) HJ.out.1 HJ.out.2 cM).mono ?_
    rintro e w1 ⟨vg,rfl,Cg,hb1⟩
    rw[<-HG.out]at Cg
    have Oq:=ho.below hb1 hlt
    have tR:=Nat.lt_of_lt_of_le hlt hb1.size
    have mM:=hb0.trans (hb1.mono hb0.size)
    have h11:=h1.below mM
    have Hv:=h2.below mM
    go_wp2_with fail
    refine(jg w1 vg g Cg S4.out).mono ?_
    rintro e w' ⟨rfl,rfl⟩
    go_wp2_with fail
    refine(gF w1 _ _ n g h11 Cg hg0 HJ.out.1 cM).mono ?_
    rintro e w2 ⟨vn,vr,rfl,Vc,_,hb2⟩
    have B9:=mM.trans (hb2.mono mM.size)
    have TR:=h2.below B9
    have OA:=Cg.below hb2
    have UY:=Oq.below hb2 tR
    have qG:=Nat.lt_of_lt_of_le tR hb2.size
    go_wp2_with fail
    refine(gF w2 _ _ d g TR OA hg0 HJ.out.2 cM).mono ?_
    rintro e w3 ⟨vd,ZD,rfl,PB,_,hb3⟩
    have Nl:=B9.trans (hb3.mono B9.size)
    have oh:=UY.below hb3 qG
    have Ih:=Vc.below hb3
    go_wp2_with fail
    refine(jg w3 vd _ PB wg.out).mono ?_
    rintro e w' ⟨rfl,rfl⟩
    obtain⟨A1,c1,rfl,_⟩:=id Ih
    obtain⟨A2,c2,rfl,_⟩:=id PB
    obtain⟨wf,HW,f0,f1,f2,eL⟩:=qf (q:=q) (neg:=neg) (Nat.le_refl _) Nl oh (by simp) (by simp) (by simp) HQ.out.2.2 (by rw[HQ.out.1]; exact Ih) (by rw[HQ.out.2.1,mE wg.out]; exact PB)
    have Ns:=bx HW
    have HF:=bx (And.intro f0 (And.intro f1 f2))
    clear HW f0 f1 f2
    have k0:=oh.c0
    have k1:=oh.c1
    have k2:=oh.c2
    have k3:=oh.fz 0
    have k4:=oh.fz 1
    have k5:=oh.fz 2
    go_wp2
    rw[Ns.out]
    obtain⟨f0,f1,f2⟩:=HF.out
    (try simp only[Exit.inBlock,Exit.then])
    refine bodyPost_ret (by simp[results,Tryz.results67,go_sem,f0,f1,f2]; try rfl) rfl ?_
    exact eL
end Wx
