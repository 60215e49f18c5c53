import Derived.Test.YtadigiledciihaaGreatJRA8
import Derived.Test.YtadigiledciihaaGreatJRA9
namespace Wx
set_option maxRecDepth 100000
set_option maxHeartbeats 1000000
open Go Go.RowKit Go.Proofs
def wg (w:World) (q r:Nat) (e:Ending) (w':World):Prop:=∃v1 v2,e=.returned (.tuple #[v1,v2])/\bj .u64 b64 w' v1 q/\bj .u64 b64 w' v2 r/\Below w.heap.size w w'
theorem yG (w:World) (v1 v2:Value) (m n:Nat) (h1:bj .u64 b64 w v1 m) (h2:bj .u64 b64 w v2 n) (hlt:m<n):
  Calls Tryz.prog 116 #[v1,v2] w (wg w (m/n) (m%n)):=by
 rw[Nat.div_eq_of_lt hlt,Nat.mod_eq_of_lt hlt]
 go_enter Tryz.func116,Tryz.ntmps116
 go_wp2_with fail
 refine(mM _ _ _ _ _ h1 h2).mono ?_
 rintro e w1 ⟨rfl,hb1⟩
 rw[show bq m n = -1 by unfold bq; rw[if_pos hlt]]
 have D3:=h1.below hb1
 go_wp2
 go_ret2
 exact⟨_,_,rfl,bj.zero _ _ _,D3,hb1⟩
variable {m n:Nat}
theorem wD (h:n<=m):∃z,bq m n=z/\¬(z<0):=⟨_,rfl,by unfold bq; rw[if_neg (by omega)]; split<;>omega⟩
theorem yI (w:World) (v1 v2:Value) (m n:Nat) (h1:bj .u64 b64 w v1 m) (h2:bj .u64 b64 w v2 n) (hle:n<=m) (h0:0<n) (hn:n<b64) {j:Nat} (hj:Bd j m) (dz:j<=1000000000):
  Calls Tryz.prog 116 #[v1,v2] w (wg w (m/n) (m%n)):=by
 obtain⟨z,hz,hz0⟩:=wD hle
 have HZ:=bx hz
 have hr:m%n<b64:=Nat.lt_trans (Nat.mod_lt m h0) hn
 have HR:=bx hr
 have HN:=bx hn
 clear hz hr hn
 have hc:=mM w v1 v2 m n h1 h2
 rw[HZ.out]at hc
 obtain⟨b,o,c,rfl,hcell⟩:=h2.one h0 HN.out
 go_enter Tryz.func116,Tryz.ntmps116
 go_wp2_with fail
 refine hc.mono ?_
 rintro e w1 ⟨rfl,hb1⟩
 have D3:=h1.below hb1
 have hcell1:w1.cell? ⟨b,o,none⟩=some (.int .u64 (n:Int)):=by rw[hb1.cell (World.block_lt_of_cell? w _ hcell)]; exact hcell
 clear hc hcell
 go_wp2_with fail
 refine(AJ w1 v1 m n D3 hj dz h0 HN.out).mono ?_
 rintro e w2 ⟨vq,rfl,hq,hb2⟩
 go_wp2_with fail
 refine(mI w2 (m%n) HR.out).mono ?_
 rintro e w3 ⟨vr,rfl,hr3,hb3⟩
 go_wp2
 go_ret2
 exact⟨_,_,rfl,hq.below hb3,hr3,(hb1.trans (hb2.mono hb1.size)).trans (hb3.mono (Nat.le_trans hb1.size hb2.size))⟩
theorem GM {T V Q:Nat} (hT:0<T) (h:V+Q*b64^0*(n*T)=m*T) (hlt:V<n*T):Q=m/n/\V/T=m%n/\V<=m*T:=by
 rw[Nat.pow_zero,Nat.mul_one]at h
 obtain⟨h1,h2⟩:=kH (m:=m*T) (d:=n*T) (q:=Q) (r:=V) (by omega) hlt
 rw[Nat.mul_div_mul_right _ _ hT]at h1
 rw[Nat.mul_mod_mul_right]at h2
 exact⟨h1.symm,by rw[<-h2,Nat.mul_div_cancel _ hT],by omega⟩
theorem Row.grown {w w':World} {k:IntKind} {e:TypeId} {g g':Nat} {l:List Nat} (h:Row w k e g l) (hg:w.grownBy w' (some g')) (hne:g'≠g):Row w' k e g l:=by
 obtain⟨rest,h1⟩:=h
 exact⟨rest,by rw[<-h1]; exact hg.block g (Row.lt ⟨rest,h1⟩) (by simp; omega)⟩
theorem gY (h:b64<=n):2<=(ae b64 n).length:=by
 rcases Nat.lt_or_ge (ae b64 n).length 2 with hl|hl
 ·have:=jg ai n
  have:b64^(ae b64 n).length<=b64^1:=Nat.pow_le_pow_right (by unfold b64; omega) (by omega)
  rw[Nat.pow_one]at this
  omega
 ·exact hl
theorem pY (h:n<=m):(ae b64 n).length<=(ae b64 m).length:=by
 rcases Nat.lt_or_ge (ae b64 m).length (ae b64 n).length with hl|hl
 ·have:=cj ai hl; omega
 ·exact hl
theorem yH (w:World) (v1 v2:Value) (m n:Nat) (h1:bj .u64 b64 w v1 m) (h2:bj .u64 b64 w v2 n) (hle:n<=m) (hn:b64<=n) {j:Nat} (hj:Bd j m) (dz:j<=100000000):
  Calls Tryz.prog 116 #[v1,v2] w (wg w (m/n) (m%n)):=by
 obtain⟨z,hz,hz0⟩:=wD hle
 have hc:=mM w v1 v2 m n h1 h2
 rw[hz]at hc
 clear hz
 have Gm:=gY hn
 have K9:=jQ ai n
 have hwn:=bw ai n
 obtain⟨B,d,rfl,hb⟩:=id h2
 obtain⟨bb,ob,tb,rfl,hcb,Ri⟩:=hb.get (i:=(ae b64 n).length-1) (by omega)
 have htb:0<tb:=by
  rcases Nat.eq_zero_or_pos tb with rfl|h
  ·exfalso; apply K9
   rw[List.getLast?_eq_getElem?]; exact Ri.out
  ·exact h
 have PI:tb<b64:=hwn _ (List.mem_of_getElem? Ri.out)
 obtain⟨s,hs,hs1⟩:∃s,s=64-Lib.bitLen tb/\s<=64:=⟨_,rfl,by omega⟩
 have hbl:=hb.len
 have HS:=bx hs
 have TW:=bx (And.intro htb PI)
 have hNe:(((ae b64 n).length:Int)==1)=false:=beq_eq_false_iff_ne.2 (by omega)
 have VP:(0:Int)<=((ae b64 n).length:Int)-1:=by omega
 have QH:Bd (j+65) (m*2^s):=(hj.mul (show Bd 65 (2^s)from Nat.pow_lt_pow_right (by omega) (by omega)))
 have Ur:Bd j n:=hj.le hle
 have hmn:n*2^s<=m*2^s:=Nat.mul_le_mul_right _ hle
 have Us:b64<=n*2^s:=Nat.le_trans hn (Nat.le_mul_of_pos_right n (Nat.two_pow_pos s))
 have HH:=bx (And.intro hmn Us)
 have HJ:=bx (And.intro hj (And.intro Ur QH))
 clear hs htb PI hj Ur QH hmn Us K9 hn hwn
 generalize hN:(ae b64 n).length=N at *
 clear hN
 go_enter Tryz.func116,Tryz.ntmps116
 go_wp2_with fail
 refine hc.mono ?_
 rintro e w1 ⟨rfl,hb1⟩
 have h11:=h1.below hb1
 have Gd:=h2.below hb1
 have Sd:w1.cell? ⟨bb,ob+(N-1),none⟩=some (.int .u64 (tb:Int)):=by rw[hb1.cell (World.block_lt_of_cell? w _ hcb)]; exact hcb
 clear hc hcb h1 h2 hb
 go_wp2_with fail
 refine(PZ tb TW.out.1 TW.out.2 w1).mono ?_
 rintro e w' ⟨rfl,rfl⟩
 rw[<-HS.out]
 go_wp2_with fail
 refine(zn w1 _ n s Gd HJ.out.2.1 (by omega) (by omega)).mono ?_
 rintro e w2 ⟨v,rfl,hv2,hb2⟩
 have h12:=h11.below hb2
 have wL:=hb1.trans (hb2.mono hb1.size)
 clear h11 Gd Sd hb1 hb2
 go_wp2_with fail
 have gU:=(Below.refl w2.heap.size w2).alloc (Nat.le_refl _) (.cells #[] 108)
 refine(zn _ _ m s (h12.below gU) HJ.out.1 (by omega) (by omega)).mono ?_
 rintro e w3 ⟨x,rfl,hx3,hb3⟩
 have KY:(w2.alloc (.cells #[] 108)).ownsRow w2.heap.size 108 1 (.slice (some ⟨w2.heap.size,0,none⟩) 0 0) 0 (fc .u64 []):=World.ownsRow_made w2 #[] 0 (Nat.le_refl _) (Nat.zero_le _) rfl
 have CI:=KY.kept (cw hb3 none) (.inr (by simp[Value.ownBlock]))
 have qN:Below w2.heap.size w2 w3:=gU.trans (hb3.mono gU.size)
 have hv3:=hv2.below qN
 have VI:=h12.below qN
 clear KY gU hb3 h12
 obtain⟨X,cx,rfl,Td⟩:=hx3
 have QK:(ae b64 (m*2^s)).length<=100000000:=by
  have:=oJ HJ.out.2.2; omega
 have Tc:=pY HH.out.1
 have S5:=gY HH.out.2
 obtain⟨V,cv,rfl,IV⟩:=hv2
 clear hv3
 have UC:=(Ck.of IV).qa (cw qN none) (by intro g hg; cases hg)
 clear IV
 have O3:=bx (aY ai (n*2^s))
 have RV:=bw ai (n*2^s)
 have Uj:=bx (jQ ai (n*2^s))
 have Ul:=bx (aY ai (m*2^s))
 have RX:=bw ai (m*2^s)
 generalize ae b64 (n*2^s)=vl at *
 generalize ae b64 (m*2^s)=al at *
 obtain⟨bxx,ox,x0,rfl,vf,_⟩:=Td.get (i:=0) (by omega)
 clear vf
 go_upto_region 9 with(first
  |(at_builtin; refine nZ _ rfl (.tmp 45) (.tmp 48) _ rfl .u64 108 w2.heap.size Tryz.underlying52 jC (.slice (some ⟨w2.heap.size,0,none⟩) 0 0) [] rfl CI _ _ _ al _ rfl rfl Td (by simp; omega) qN.size ?_; intro U4 A4 c4 w4 NI oB hg4)
  |(at_builtin; refine nZ _ rfl (.tmp 49) (.tmp 50) _ rfl .u64 108 w2.heap.size Tryz.underlying52 jC (.slice A4 U4.length c4) U4 rfl (oB.alloc _) _ _ _ [0] 1 rfl rfl ((Row.new w4 .u64 108 [0]).ew (c:=1) (by simp) (by simp[maxLen])) (by rw[NI.out]; simp; omega) (by simp; have h5:=qN.size; have h6:=hg4.size; omega) ?_; intro U A5 c5 w5 N6 KZ Ss))
 have VV:U.length=al.length+1:=by rw[N6.out,NI.out]; simp
 have PJ:=UC.qa hg4 (by intro g hg; simp[Value.ownBlock]at hg; omega)
 have Gq:∀k,(Value.slice A4 U4.length c4).ownBlock=some k->w2.heap.size<=k:=λk hk=>(oB.lt k hk).1
 have PK:=(PJ.qa (World.grownBy_alloc w4 _ none) (by intro g hg; cases hg)).qa Ss Gq
 have Jp:Below w.heap.size w w4:=(wL.trans (qN.mono wL.size)).grown hg4 (Nat.le_trans wL.size qN.size) (by intro g hg; simp[Value.ownBlock]at hg; have:=wL.size; omega)
 have QA:Below w.heap.size w w5:=(Jp.alloc Jp.size (.cells #[.int .u64 0] 108)).grown Ss (by have:=Jp.size; simp; omega) (by intro g hg; have:=Gq g hg; have:=wL.size; omega)
 obtain⟨g,rfl,hgB,QC,Av,RT⟩:=zY KZ (by omega)
 clear UC PJ Gq Jp hg4 Ss CI oB KZ VI Td
 have O0:Bx (val b64 U+val b64 (List.drop (U.length-vl.length) (List.replicate (U.length-vl.length) 0))*b64^(U.length-vl.length)*(n*2^s)=m*2^s):=by
  refine bx ?_
  rw[List.drop_of_length_le (by simp),Dw,Nat.zero_mul,Nat.zero_mul,Nat.add_zero,N6.out,NI.out,List.nil_append,gB,Ul.out]
  simp[val]
 have OT:Bx (val b64 (U.drop (U.length-vl.length))<n*2^s):=by
  refine bx ?_
  have e1:U.drop (U.length-vl.length)=(al.drop (U.length-vl.length))++[0]:=by
   rw[N6.out,NI.out,List.nil_append,List.drop_append_of_le_length (by simp; omega)]
  rw[e1,gB]
  have h1:=fu (RX.drop (U.length-vl.length))
  have h2:=mB ai (n:=n*2^s) (by have:=HH.out.2; unfold b64 at this; omega)
  have h3:(ae b64 (n*2^s)).length=vl.length:=by rw[<-O3.out,lS ai RV Uj.out]
  rw[h3]at h2
  rw[List.length_drop,show al.length-(U.length-vl.length)=vl.length-1 by omega]at h1
  simp[val]
  omega
 have VZ:Wf b64 U:=by rw[N6.out,NI.out]; exact(Wf.append (Wf.nil _) RX).append (Wf.cons (by unfold b64; omega) (Wf.nil _))
 have VW:vl.length+1<=U.length:=by omega
 have VY:U.length<=100000001:=by omega
 clear NI N6 VV RX Ul QK Tc
 go_wp2_with (at_make; go_loud (refine ck _ rfl _ _ _ rfl .u64 108 Tryz.underlying52 jC _ _ rfl rfl (by omega) (by omega) (by omega) ?_); intro w6 hrow bZ hsz)
 rw[show((U.length:Int)-(vl.length:Int)).toNat=U.length-vl.length by omega]at hrow
 rw[show decide (z<0)=false from decide_eq_false (by omega)]
 have OX:=QC.keep bZ
 have PL:=PK.qa (cw bZ none) (by intro g hg; cases hg)
 have T8:=QA.trans (bZ.mono QA.size)
 have Up:g≠w5.heap.size:=by have:=QC.lt; omega
 generalize Ud:U.length-vl.length=Qn at *
 have Rc:=bx Ud
 have hq1:(Qn:Int)<=100000001:=by omega
 have hcc:c5<=9223372036854775807:=by unfold maxLen at RT; omega
 have TN:=bx Up
 have Rf:=bx (And.intro QA.size (show w2.heap.size<=w5.heap.size by have:=QC.lt; omega))
 have Rg:=bx (show w.heap.size<=g by have:=wL.size; omega)
 clear QC PK QA bZ hsz Ud hz0 Up Ri hNe VP hbl Gm wL qN
 go_loopw [13] (λTp wr=>∃(i:Nat) (M qs:List Nat),i<=Qn/\Tp=.int .i64 ((i:Int)-1)/\Bx (M.length=U.length)/\Wf b64 M/\Bx (qs.length=Qn)/\Wf b64 qs/\Row wr .u64 108 g M/\Row wr .u64 108 w5.heap.size qs/\Ck wr w2.heap.size .u64 V cv vl/\Below w.heap.size w wr /\
   Bx (val b64 M+val b64 (qs.drop i)*b64^i*(n*2^s)=m*2^s)/\Bx (val b64 (M.drop i)<n*2^s)) (λTp _=>(intOf Tp+1).toNat)
 case atStart=>exact⟨Qn,U,List.replicate Qn 0,Nat.le_refl _,rfl,bx rfl,VZ,bx (by simp),Wf.replicate (by unfold b64; omega) _,OX,hrow,PL,T8,O0,OT⟩
 case round=>
  clear OX hrow PL T8 O0 OT
  obtain⟨i,M,qs,hi,rfl,Fy,Gu,N4,JF,K7,SZ,IV,OQ,cq,DC⟩:=hrel
  rcases Nat.eq_zero_or_pos i with rfl|hpos
  ·rw[show(((0:Nat):Int)-1) = -1 by omega]
   go_wp2_with fail
   obtain⟨e1,e2,e3⟩:=GM (Nat.two_pow_pos s) cq.out DC.out
   have E1:=bx e1
   have E2:=bx e2
   have E3:=bx (HJ.out.2.2.le e3)
   clear e1 e2 e3 hcc hq1
   refine(iu wr (some ⟨w5.heap.size,0,none⟩) Qn qs (m/n) (SZ.ew (by rw[N4.out]; exact Nat.le_refl _) (by have:=Rc.out; unfold maxLen; omega)) JF Qn N4.out E1.out).mono ?_
   rintro e w' ⟨rfl,vq,rfl,Ww⟩
   go_wp2_with fail
   refine(iu wr (some ⟨g,0,none⟩) c5 M _ (K7.ew (by rw[Fy.out]; exact Av) RT) Gu U.length Fy.out rfl).mono ?_
   rintro e w' ⟨rfl,vM,rfl,Wv⟩
   go_wp2_with fail
   refine(EN wr vM (val b64 M) s Wv E3.out (by omega) (by omega)).mono ?_
   rintro e wf ⟨vr,rfl,Ut,QD⟩
   go_wp2
   go_ret2
   rw[E2.out]at Ut
   exact⟨_,_,rfl,Ww.below QD,Ut,OQ.trans (QD.mono OQ.size)⟩
  ·obtain⟨k,rfl⟩:∃k,i=k+1:=⟨i-1,by omega⟩
   rw[show(((k+1:Nat):Int)-1)=(k:Int) by omega]
   have wR:(0:Int)<=(k:Int):=by omega
   have lE:(k:Int)<(Qn:Int):=by omega
   have hk2:(k:Int)+(vl.length:Int)+1<=(c5:Int):=by have:=Rc.out; omega
   go_wp2_with fail
   have Pp:k+(vl.length+1)<=M.length:=by have:=Rc.out; have:=Fy.out; omega
   have MJ:=qF Pp Gu (V:=n*2^s) DC.out
   rw[<-O3.out]at MJ
   have O9:vl.length+1<=c5-k:=by omega
   rw[show k+vl.length+1-k=vl.length+1 by omega]
   have Pa:c5-k<=maxLen:=Nat.le_trans (Nat.sub_le _ _) RT
   have PM:vl.length<=1000000000:=by omega
   refine(DL wr w2.heap.size g k (c5-k) M vl V cv K7 Gu Pp O9 Pa IV hgB RV PM S5 Uj.out MJ).mono ?_
   clear MJ O9
   rintro e wd ⟨rfl,hgd,M',Mr,S8,SY,Bi,hdr,qP⟩
   have MR:=SZ.grown hgd TN.out
   have S7:=IV.grown hgd hgB
   have RP:=OQ.grown hgd OQ.size (by intro g' wQ; injection wQ with wQ; have:=Rg.out; omega)
   obtain⟨l1,l2⟩:=Ek Mr Pp (show n*2^s<b64^vl.length by rw[<-O3.out]; exact fu RV) (by rw[N4.out]; omega) Bi hdr (by rw[<-O3.out]; exact qP) DC.out cq.out
   rw[O3.out]
   have Gp:val b64 (win M k (vl.length+1))/(n*2^s)<b64:=by
    rw[Nat.div_lt_iff_lt_mul (by have:=DC.out; omega),Nat.mul_comm]
    exact qF Pp Gu DC.out
   have Q9:=bx (Mr.trans Fy.out)
   generalize QJ:val b64 (win M k (vl.length+1))/(n*2^s)=qd at *
   have U3:=bx l1
   have U5:=bx l2
   have Vc:=bx Gp
   clear Pa PM l1 l2 Gp QJ Bi hdr qP Mr Pp K7 SZ IV OQ Gu Fy hgd cq DC
   obtain⟨vo,CF,Fi⟩:=MR.get (i:=k) (by have:=N4.out; omega)
   have uf:=MR.frozen k
   go_wp2
   go_roundw
   case rel=>
    exact⟨k,M',qs.set k qd,by omega,by go_num,Q9,S8,bx (by rw[List.length_set]; exact N4.out),JF.set Vc.out,SY.Jj (by simpa using TN.out) _,MR.set _ _,S7.qa (ve _ _ _ _) (by intro g' wQ; injection wQ with wQ; have:=Rf.out.2; omega),RP.setCell Rf.out.1 _,U3,U5⟩
   case measure=>simp[intOf]
theorem gl (w:World) (v1 v2:Value) (m n:Nat) (h1:bj .u64 b64 w v1 m) (h2:bj .u64 b64 w v2 n) (h0:0<n) {j:Nat} (hj:Bd j m) (dz:j<=100000000):
  Calls Tryz.prog 116 #[v1,v2] w (wg w (m/n) (m%n)):=by
 rcases Nat.lt_or_ge m n with hlt|hge
 ·exact yG w v1 v2 m n h1 h2 hlt
 ·rcases Nat.lt_or_ge n b64 with hn|hn
  ·exact yI w v1 v2 m n h1 h2 hge h0 hn hj (by omega)
  ·exact yH w v1 v2 m n h1 h2 hge hn hj dz
end Wx

namespace Wx
set_option maxHeartbeats 1000000
open Go Go.RowKit Go.Proofs
variable {w:World} {k:IntKind}
theorem Rd.inj {A:Option Addr} {c c':Nat} {l r:List Nat} (h:Rd w k A c l) (g:Rd w k A c' r) (hl:l.length=r.length):l=r:=by
 apply List.ext_getElem hl
 intro i h1 h2
 obtain⟨b,o,e,hc⟩:=h.at_ (i:=i) h1
 obtain⟨b',o',e',hc'⟩:=g.at_ (i:=i) h2
 rw[e]at e'
 injection e' with e'
 injection e' with e1 e2
 subst e1 e2
 rw[hc]at hc'
 injection hc' with hc'
 injection hc' with _ hc'
 rw[List.getD_eq_getElem?_getD,List.getD_eq_getElem?_getD,List.getElem?_eq_getElem h1,List.getElem?_eq_getElem h2]at hc'
 simp only[Option.getD_some]at hc'
 omega
variable {v:Value} {n:Nat}
theorem bj.inj {m:Nat} (h:bj k b64 w v m) (g:bj k b64 w v n):m=n:=by
 obtain⟨A,c,rfl,hr⟩:=h
 obtain⟨A',c',e,gr⟩:=g
 injection e with e1 e2 e3
 subst e1
 exact yD ai (hr.inj gr e2)
open Classical in
noncomputable def numOf (w:World) (v:Value):Nat:=if h:∃n,bj .u64 b64 w v n then choose h else 0
theorem bj.of_eq (h:bj .u64 b64 w v n):numOf w v=n:=by
 have hx:∃n,bj .u64 b64 w v n:=⟨n,h⟩
 unfold numOf
 rw[dif_pos hx]
 exact(Classical.choose_spec hx).inj h
theorem nN (h:n<b64):(ae b64 n).length<=1:=fN ai (by simpa using h)
theorem tX (h:¬n<b64):2<=(ae b64 n).length:=gY (by omega)
theorem ry (w:World) (v1 v2:Value) (m n:Nat) (h1:bj .u64 b64 w v1 m) (h2:bj .u64 b64 w v2 n) {j:Nat} (hj:Bd j m) (hk:Bd j n) (dz:j<=100000000):
  Calls Tryz.prog 115 #[v1,v2] w (er .u64 b64 w (Nat.gcd m n)):=by
 have HX:=bx (And.intro hj hk)
 clear hj hk
 obtain⟨G,hG⟩:∃G,G=Nat.gcd m n:=⟨_,rfl⟩
 rw[<-hG]
 have HG:=bx hG
 clear hG
 go_enter Tryz.func115,Tryz.ntmps115
 go_wp2_with fail
 go_loopw [0,1] (λs0 s1 wr=>∃x y:Nat,bj .u64 b64 wr s0 x/\bj .u64 b64 wr s1 y/\Bx (G=Nat.gcd x y)/\Bx (Bd j x/\Bd j y)/\Below w.heap.size w wr) (λ_ s1 wr=>numOf wr s1)
 case atStart=>exact⟨_,_,h1,h2,HG,HX,Below.refl _ _⟩
 case round=>
  clear h1 h2 HG HX
  obtain⟨x,y,hx,hy,HG,HX,hb⟩:=hrel
  rcases Nat.eq_zero_or_pos y with rfl|hy0
  ·obtain⟨A,c,rfl,hr⟩:=id hy
   rw[bk]at hr ⊢
   go_wp2
   go_ret
   exact⟨_,rfl,by rw[HG.out,Nat.gcd_zero_right]; exact hx,hb⟩
  ·obtain⟨A,c,rfl,hr⟩:=id hx
   obtain⟨B,d,rfl,hs⟩:=id hy
   have wS:(1:Int)<=((ae b64 y).length:Int):=by have:=(aI (n:=y) ai).2 hy0; omega
   by_cases hx1:x<b64
   ·by_cases oF:y<b64
    ·have a1:((ae b64 x).length:Int)<=1:=by have:=nN hx1; omega
     have a2:((ae b64 y).length:Int)<=1:=by have:=nN oF; omega
     have Vi:=bx hx1
     have TY:=bx oF
     have DD:=bx hy0
     clear hx1 oF hy0
     go_wp2_with fail
     refine(EW wr _ _ x y hx hy Vi.out TY.out DD.out).mono ?_
     rintro e w2 ⟨rfl,hb2⟩
     go_wp2_with fail
     refine(mI w2 _ (Nat.lt_of_le_of_lt (Nat.gcd_le_right x DD.out) TY.out)).mono ?_
     rintro e w3 ⟨vr,rfl,hr3,hb3⟩
     go_wp2
     go_ret
     exact⟨_,rfl,by rw[HG.out]; exact hr3,(hb.trans (hb2.mono hb.size)).trans (hb3.mono (Nat.le_trans hb.size hb2.size))⟩
    ·have a1:((ae b64 x).length:Int)<=1:=by have:=nN hx1; omega
     have a2:(2:Int)<=((ae b64 y).length:Int):=by have:=tX oF; omega
     have DD:=bx hy0
     clear hx1 oF hy0
     go_wp2_with fail
     refine(gl wr _ _ x y hx hy DD.out HX.out.1 dz).mono ?_
     rintro e w2 ⟨vq,vr,rfl,hq,hr2,hb2⟩
     have PS:=hy.below hb2
     go_wp2
     go_roundw
     case rel=>exact⟨y,x%y,PS,hr2,bx (by rw[HG.out,Nat.gcd_comm x y,Nat.gcd_rec y x,Nat.gcd_comm]),bx ⟨HX.out.2,HX.out.2.le (Nat.le_of_lt (Nat.mod_lt _ DD.out))⟩,hb.trans (hb2.mono hb.size)⟩
     case measure=>rw[hr2.of_eq,hy.of_eq]; exact Nat.mod_lt _ DD.out
   ·have a1:(2:Int)<=((ae b64 x).length:Int):=by have:=tX hx1; omega
    have DD:=bx hy0
    clear hx1 hy0
    go_wp2_with fail
    refine(gl wr _ _ x y hx hy DD.out HX.out.1 dz).mono ?_
    rintro e w2 ⟨vq,vr,rfl,hq,hr2,hb2⟩
    have PS:=hy.below hb2
    go_wp2
    go_roundw
    case rel=>exact⟨y,x%y,PS,hr2,bx (by rw[HG.out,Nat.gcd_comm x y,Nat.gcd_rec y x,Nat.gcd_comm]),bx ⟨HX.out.2,HX.out.2.le (Nat.le_of_lt (Nat.mod_lt _ DD.out))⟩,hb.trans (hb2.mono hb.size)⟩
    case measure=>rw[hr2.of_eq,hy.of_eq]; exact Nat.mod_lt _ DD.out
end Wx

namespace Wx
set_option maxHeartbeats 1000000
open Go Go.RowKit Go.Proofs
def xX (w:World) (g:Nat):Prop:=∀i k z,w.cell? ⟨g,i,none⟩≠some (.int k z)
def cH (w:World) (g:Nat) (x y z:Value) (e:TypeId):Prop:=w.heap[g]?=some (.cells #[x,y,z] e (0,0))
variable {w:World} {g:Nat} {x y z:Value} {e:TypeId}
theorem cH.c0 (h:cH w g x y z e):w.cell? ⟨g,0,none⟩=some x:=by unfold cH at h; simp[World.cell?,h]
theorem cH.c1 (h:cH w g x y z e):w.cell? ⟨g,1,none⟩=some y:=by unfold cH at h; simp[World.cell?,h]
theorem cH.c2 (h:cH w g x y z e):w.cell? ⟨g,2,none⟩=some z:=by unfold cH at h; simp[World.cell?,h]
theorem cH.fz (h:cH w g x y z e) (i:Nat):w.frozen? ⟨g,i,none⟩=false:=by unfold cH at h; simp[World.frozen?,h]
variable {w':World}
theorem cH.below {B:Nat} (h:cH w g x y z e) (hb:Below B w w') (hg:g<B):cH w' g x y z e:=(hb.block g hg).trans h
theorem cH.new (w:World) (x y z:Value) (e:TypeId):cH (w.alloc (.cells #[x,y,z] e)) w.heap.size x y z e:=by unfold cH; exact heap_alloc_new _ _
theorem iq (w:World) (o:Obj):w.heap.size<(w.alloc o).heap.size:=by simp
theorem cH.iR (h:cH w g x y z e) (hx:∀k n,x≠.int k n) (hy:∀k n,y≠.int k n) (hz:∀k n,z≠.int k n):xX w g:=by
 intro i k n hc
 unfold cH at h
 simp only[World.cell?,h]at hc
 match i,hc with
 |0,hc=>exact hx k n (by simpa using hc)
 |1,hc=>exact hy k n (by simpa using hc)
 |2,hc=>exact hz k n (by simpa using hc)
 |n+3,hc=>simp at hc
theorem cH.Kb (h:cH w g x y z e) (u:Value):cH (w.setCell ⟨g,0,none⟩ u) g u y z e:=by
 unfold cH at *; simp[World.setCell,Array.getElem?_modify,h]
theorem cH.Kc (h:cH w g x y z e) (u:Value):cH (w.setCell ⟨g,1,none⟩ u) g x u z e:=by
 unfold cH at *; simp[World.setCell,Array.getElem?_modify,h]
theorem cH.Ke (h:cH w g x y z e) (u:Value):cH (w.setCell ⟨g,2,none⟩ u) g x y u e:=by
 unfold cH at *; simp[World.setCell,Array.getElem?_modify,h]
variable {k:IntKind}
theorem Rd.iR {A:Option Addr} {c:Nat} {l:List Nat} (h:Rd w k A c l) {g:Nat} (hg:xX w g) (i:Nat) (u:Value):Rd (w.setCell ⟨g,i,none⟩ u) k A c l:=by
 obtain⟨h1,h2,h3⟩:=h
 refine⟨h1,h2,λhne=>?_⟩
 obtain⟨b,o,e,hc⟩:=h3 hne
 refine⟨b,o,e,λi' hi=>?_⟩
 have JB:b≠g:=by rintro rfl; exact hg _ _ _ (hc i' hi)
 rw[World.cell?_of_block (Below.heap_setCell w ⟨g,i,none⟩ u b JB)]
 exact hc i' hi
variable {v:Value} {n:Nat}
theorem bj.iR (h:bj k b64 w v n) {g:Nat} (hg:xX w g) (i:Nat) (u:Value):bj k b64 (w.setCell ⟨g,i,none⟩ u) v n:=by
 obtain⟨A,c,rfl,hr⟩:=h
 exact⟨A,c,rfl,hr.iR hg i u⟩
def az (d:Nat):Nat:=if d=1 then 0 else d
def cB (w:World) (v:Value) (q:Rat):Prop:=∃vn vd,v=.agg #[.bool (decide (q.num<0)),vn,vd]/\bj .u64 b64 w vn q.num.natAbs/\bj .u64 b64 w vd (az q.den)
def lH (w:World) (q:Rat) (e:Ending) (w':World):Prop:=∃v,e=.returned v/\cB w' v q/\Below w.heap.size w w'
variable {q:Rat}
theorem cB.below (h:cB w v q) (hb:Below w.heap.size w w'):cB w' v q:=by
 obtain⟨vn,vd,rfl,h1,h2⟩:=h
 exact⟨vn,vd,rfl,h1.below hb,h2.below hb⟩
def dx (j:Nat) (q:Rat):Prop:=Bd j q.num.natAbs/\Bd j q.den
variable {j:Nat}
theorem dx.mono {k:Nat} (h:dx j q) (hk:j<=k):dx k q:=⟨h.1.mono hk,h.2.mono hk⟩
def sg (neg:Bool) (n:Nat):Int:=if neg then -(n:Int)else n
theorem qp (neg:Bool) (n:Nat):(sg neg n).natAbs=n:=by cases neg<;>simp[sg]
theorem Ad (z:Int):sg (decide (z<0)) z.natAbs=z:=by
 unfold sg
 by_cases h:z<0
 ·rw[decide_eq_true h]; simp; omega
 ·rw[decide_eq_false h]; simp; omega
def cU (neg:Bool) (n d:Nat):Rat:=mkRat (sg neg n) d
variable {neg:Bool} {d:Nat}
theorem zR (hd:0<d):(cU neg n d).num=sg neg (n/n.gcd d):=by
 unfold cU
 rw[Rat.num_mkRat,if_neg (by omega),qp,Nat.gcd_comm]
 cases neg
 ·simp[sg]
 ·show -(n:Int)/((n.gcd d:Nat):Int) = -((n/n.gcd d:Nat):Int)
  rw[Int.neg_ediv_of_dvd (Int.natCast_dvd_natCast.2 (Nat.gcd_dvd_left n d)),Int.natCast_ediv]
theorem po (hd:0<d):(cU neg n d).den=d/n.gcd d:=by
 unfold cU
 rw[Rat.den_mkRat,if_neg (by omega),qp,Nat.gcd_comm]
theorem jr (hd:0<d):(cU neg n d).num.natAbs=n/n.gcd d:=by rw[zR hd,qp]
theorem pn (hd:0<d) (h1:Bd j n) (h2:Bd j d):dx j (cU neg n d):=
 ⟨by rw[jr hd]; exact h1.le (Nat.div_le_self _ _),by rw[po hd]; exact h2.le (Nat.div_le_self _ _)⟩
theorem tJ (hd:0<d) (hn:0<n):decide ((cU neg n d).num<0)=neg:=by
 rw[zR hd]
 have:0<n/n.gcd d:=Nat.div_pos (Nat.le_of_dvd hn (Nat.gcd_dvd_left n d)) (Nat.gcd_pos_of_pos_left _ hn)
 cases neg<;>simp[sg]<;>omega
theorem vQ:cU neg 0 d=0:=by
 unfold cU sg
 cases neg<;>simp
theorem pc {w3:World} {A1 A2:Option Addr} {l1 l2 c1 c2:Nat} (hg:w.heap.size<=g) (hb:Below w.heap.size w w3) (ho:cH w3 g x y z e)
  (hx:∀k n,x≠.int k n) (hy:∀k n,y≠.int k n) (hz:∀k n,z≠.int k n) (hn:decide (q.num<0)=neg) (h1:bj .u64 b64 w3 (.slice A1 l1 c1) q.num.natAbs) (h2:bj .u64 b64 w3 (.slice A2 l2 c2) (az q.den)):
  ∃wf,((w3.setCell ⟨g,0,none⟩ (.bool neg)).setCell ⟨g,1,none⟩ (.slice A1 l1 c1)).setCell ⟨g,2,none⟩ (.slice A2 l2 c2)=wf/\wf.cell? ⟨g,0,none⟩=some (.bool neg)/\wf.cell? ⟨g,1,none⟩=some (.slice A1 l1 c1)/\wf.cell? ⟨g,2,none⟩=some (.slice A2 l2 c2) /\
   lH w q (.returned (.agg #[.bool neg,.slice A1 l1 c1,.slice A2 l2 c2])) wf:=by
 have n0:=ho.iR hx hy hz
 have o1:=ho.Kb (.bool neg)
 have n1:=o1.iR (by simp) hy hz
 have o2:=o1.Kc (.slice A1 l1 c1)
 have n2:=o2.iR (by simp) (by simp) hz
 have o3:=o2.Ke (.slice A2 l2 c2)
 refine⟨_,rfl,o3.c0,o3.c1,o3.c2,_,rfl,⟨_,_,by rw[hn],((h1.iR n0 _ _).iR n1 _ _).iR n2 _ _,((h2.iR n0 _ _).iR n1 _ _).iR n2 _ _⟩,((hb.setCell hg _).setCell hg _).setCell hg _⟩
theorem nL (w:World):cB w (.agg #[.bool false,.slice none 0 0,.slice none 0 0]) 0:=⟨_,_,rfl,bj.zero _ _ _,bj.zero _ _ _⟩
theorem jP:az 1=0:=rfl
theorem lR (h:d≠1):az d=d:=if_neg h
theorem gA (w:World) (v:Value) (d:Nat) (h:bj .u64 b64 w v (az d)) (hd:0<d):Calls Tryz.prog 83 #[v] w (er .u64 b64 w d):=by
 by_cases h1:d=1
 ·subst h1
  obtain⟨A,c,rfl,hr⟩:=id h
  rw[jP,bk]
  go_enter Tryz.func83,Tryz.ntmps83
  go_wp2_with fail
  refine(mI w 1 (by unfold b64; omega)).mono ?_
  rintro e w3 ⟨vr,rfl,hr3,hb3⟩
  go_wp2
  go_ret
  exact⟨_,rfl,hr3,hb3⟩
 ·rw[lR h1]at h
  obtain⟨A,c,rfl,hr⟩:=id h
  have hl:(((ae b64 d).length:Int)==0)=false:=beq_eq_false_iff_ne.2 (by have:=(aI (n:=d) ai).2 hd; omega)
  go_enter Tryz.func83,Tryz.ntmps83
  go_wp2
  go_ret
  exact⟨_,rfl,h,Below.refl _ _⟩
theorem mC (w:World) (neg:Bool) (v1 v2:Value) (n d:Nat) (h1:bj .u64 b64 w v1 n) (h2:bj .u64 b64 w v2 d) (hd:0<d) {j:Nat} (hj:Bd j n) (hk:Bd j d) (dz:j<=100000000):
  Calls Tryz.prog 85 #[.bool neg,v1,v2] w (lH w (cU neg n d)):=by
 rcases Nat.eq_zero_or_pos n with rfl|hn
 ·obtain⟨A,c,rfl,hr⟩:=id h1
  rw[bk,vQ]
  go_enter Tryz.func85,Tryz.ntmps85
  go_wp2
  go_returns
  exact⟨_,rfl,nL _,Below.alloc (Below.refl _ _) (Nat.le_refl _) _⟩
 ·obtain⟨B,c,rfl,hr⟩:=id h1
  have hl:(((ae b64 n).length:Int)==0)=false:=beq_eq_false_iff_ne.2 (by have:=(aI (n:=n) ai).2 hn; omega)
  obtain⟨g,hg⟩:∃g,g=n.gcd d:=⟨_,rfl⟩
  obtain⟨q,hq⟩:∃q,q=cU neg n d:=⟨_,rfl⟩
  have hg0:0<g:=by rw[hg]; exact Nat.gcd_pos_of_pos_left _ hn
  have q1:=jr (neg:=neg) (n:=n) hd
  have q2:=po (neg:=neg) (n:=n) hd
  have q3:=tJ (neg:=neg) hd hn
  rw[<-hq,<-hg]at q1 q2
  rw[<-hq]at q3
  rw[<-hq]
  have HQ:=bx (And.intro q1 (And.intro q2 q3))
  have HJ:=bx (And.intro hj hk)
  have HG:=bx hg
  clear q1 q2 q3 hq hj hk hg hn
  by_cases Fp:g=1
  ·subst Fp
   rw[Nat.div_one,Nat.div_one]at HQ
   by_cases ug:d=1
   ·have uI:=bx ug
    clear ug
    go_enter Tryz.func85,Tryz.ntmps85
    go_wp2_with fail
    have hb0:=Below.alloc (Below.refl w.heap.size w) (Nat.le_refl _) (.cells #[.bool false,.slice none 0 0,.slice none 0 0] 54)
    have ho:=cH.new w (.bool false) (.slice none 0 0) (.slice none 0 0) 54
    have hlt:=iq w (.cells #[.bool false,.slice none 0 0,.slice none 0 0] 54)
    generalize w.alloc (.cells #[.bool false,.slice none 0 0,.slice none 0 0] 54)=w0 at *
    refine(ry _ _ _ n d (h1.below hb0) (h2.below hb0) HJ.out.1 HJ.out.2 dz).mono ?_
    rintro e w1 ⟨vg,rfl,Bl,hb1⟩
    rw[<-HG.out]at Bl
    have MN:=ho.below hb1 hlt
    have sK:=Nat.lt_of_lt_of_le hlt hb1.size
    have mc:=hb0.trans (hb1.mono hb0.size)
    have h11:=h1.below mc
    have Gd:=h2.below mc
    go_wp2_with fail
    refine(iB w1 vg Bl).mono ?_
    rintro e w' ⟨rfl,rfl⟩
    go_wp2_with fail
    rw[uI.out]at Gd
    refine(iB w1 _ Gd).mono ?_
    rintro e w' ⟨rfl,rfl⟩
    have nC:=MN
    have LC:=mc
    obtain⟨wf,HW,f0,f1,f2,eB⟩:=pc (q:=q) (neg:=neg) (Nat.le_refl _) LC nC (by simp) (by simp) (by simp) HQ.out.2.2 (by rw[HQ.out.1]; exact h11) (A2:=none) (l2:=0) (c2:=0) (by rw[HQ.out.2.1,uI.out,jP]; exact bj.zero _ _ _)
    have LI:=bx HW
    have HF:=bx (And.intro f0 (And.intro f1 f2))
    clear HW f0 f1 f2
    have k0:=nC.c0
    have k1:=nC.c1
    have k2:=nC.c2
    have k3:=nC.fz 0
    have k4:=nC.fz 1
    have k5:=nC.fz 2
    go_wp2
    rw[LI.out]
    obtain⟨f0,f1,f2⟩:=HF.out
    (try simp only[Exit.inBlock,Exit.then])
    refine bodyPost_ret (by simp[results,Tryz.results85,go_sem,f0,f1,f2]; try rfl) rfl ?_
    exact eB
   ·have uI:=bx ug
    clear ug
    go_enter Tryz.func85,Tryz.ntmps85
    go_wp2_with fail
    have hb0:=Below.alloc (Below.refl w.heap.size w) (Nat.le_refl _) (.cells #[.bool false,.slice none 0 0,.slice none 0 0] 54)
    have ho:=cH.new w (.bool false) (.slice none 0 0) (.slice none 0 0) 54
    have hlt:=iq w (.cells #[.bool false,.slice none 0 0,.slice none 0 0] 54)
    generalize w.alloc (.cells #[.bool false,.slice none 0 0,.slice none 0 0] 54)=w0 at *
    refine(ry _ _ _ n d (h1.below hb0) (h2.below hb0) HJ.out.1 HJ.out.2 dz).mono ?_
    rintro e w1 ⟨vg,rfl,Bl,hb1⟩
    rw[<-HG.out]at Bl
    have MN:=ho.below hb1 hlt
    have sK:=Nat.lt_of_lt_of_le hlt hb1.size
    have mc:=hb0.trans (hb1.mono hb0.size)
    have h11:=h1.below mc
    have Gd:=h2.below mc
    go_wp2_with fail
    refine(iB w1 vg Bl).mono ?_
    rintro e w' ⟨rfl,rfl⟩
    go_wp2_with fail
    refine(iO w1 _ _ Gd uI.out).mono ?_
    rintro e w' ⟨rfl,rfl⟩
    have nC:=MN
    have LC:=mc
    obtain⟨A2,c2,rfl,_⟩:=id Gd
    obtain⟨wf,HW,f0,f1,f2,eB⟩:=pc (q:=q) (neg:=neg) (Nat.le_refl _) LC nC (by simp) (by simp) (by simp) HQ.out.2.2 (by rw[HQ.out.1]; exact h11) (by rw[HQ.out.2.1,lR uI.out]; exact Gd)
    have LI:=bx HW
    have HF:=bx (And.intro f0 (And.intro f1 f2))
    clear HW f0 f1 f2
    have k0:=nC.c0
    have k1:=nC.c1
    have k2:=nC.c2
    have k3:=nC.fz 0
    have k4:=nC.fz 1
    have k5:=nC.fz 2
    go_wp2
    rw[LI.out]
    obtain⟨f0,f1,f2⟩:=HF.out
    (try simp only[Exit.inBlock,Exit.then])
    refine bodyPost_ret (by simp[results,Tryz.results85,go_sem,f0,f1,f2]; try rfl) rfl ?_
    exact eB
  ·by_cases ug:d/g=1
   ·have Q5:=bx Fp
    have uI:=bx ug
    clear Fp ug
    go_enter Tryz.func85,Tryz.ntmps85
    go_wp2_with fail
    have hb0:=Below.alloc (Below.refl w.heap.size w) (Nat.le_refl _) (.cells #[.bool false,.slice none 0 0,.slice none 0 0] 54)
    have ho:=cH.new w (.bool false) (.slice none 0 0) (.slice none 0 0) 54
    have hlt:=iq w (.cells #[.bool false,.slice none 0 0,.slice none 0 0] 54)
    generalize w.alloc (.cells #[.bool false,.slice none 0 0,.slice none 0 0] 54)=w0 at *
    refine(ry _ _ _ n d (h1.below hb0) (h2.below hb0) HJ.out.1 HJ.out.2 dz).mono ?_
    rintro e w1 ⟨vg,rfl,Bl,hb1⟩
    rw[<-HG.out]at Bl
    have MN:=ho.below hb1 hlt
    have sK:=Nat.lt_of_lt_of_le hlt hb1.size
    have mc:=hb0.trans (hb1.mono hb0.size)
    have h11:=h1.below mc
    have Gd:=h2.below mc
    go_wp2_with fail
    refine(iO w1 vg g Bl Q5.out).mono ?_
    rintro e w' ⟨rfl,rfl⟩
    go_wp2_with fail
    refine(gl w1 _ _ n g h11 Bl hg0 HJ.out.1 dz).mono ?_
    rintro e w2 ⟨vn,vr,rfl,S6,_,hb2⟩
    have A9:=mc.trans (hb2.mono mc.size)
    have RM:=h2.below A9
    have MV:=Bl.below hb2
    have SM:=MN.below hb2 sK
    have qc:=Nat.lt_of_lt_of_le sK hb2.size
    go_wp2_with fail
    refine(gl w2 _ _ d g RM MV hg0 HJ.out.2 dz).mono ?_
    rintro e w3 ⟨vd,Xk,rfl,NT,_,hb3⟩
    have LC:=A9.trans (hb3.mono A9.size)
    have nC:=SM.below hb3 qc
    have Gs:=S6.below hb3
    go_wp2_with fail
    rw[uI.out]at NT
    refine(iB w3 vd NT).mono ?_
    rintro e w' ⟨rfl,rfl⟩
    obtain⟨A1,c1,rfl,_⟩:=id Gs
    obtain⟨wf,HW,f0,f1,f2,eB⟩:=pc (q:=q) (neg:=neg) (Nat.le_refl _) LC nC (by simp) (by simp) (by simp) HQ.out.2.2 (by rw[HQ.out.1]; exact Gs) (A2:=none) (l2:=0) (c2:=0) (by rw[HQ.out.2.1,uI.out,jP]; exact bj.zero _ _ _)
    have LI:=bx HW
    have HF:=bx (And.intro f0 (And.intro f1 f2))
    clear HW f0 f1 f2
    have k0:=nC.c0
    have k1:=nC.c1
    have k2:=nC.c2
    have k3:=nC.fz 0
    have k4:=nC.fz 1
    have k5:=nC.fz 2
    go_wp2
    rw[LI.out]
    obtain⟨f0,f1,f2⟩:=HF.out
    (try simp only[Exit.inBlock,Exit.then])
    refine bodyPost_ret (by simp[results,Tryz.results85,go_sem,f0,f1,f2]; try rfl) rfl ?_
    exact eB
   ·have Q5:=bx Fp
    have uI:=bx ug
    clear Fp ug
    go_enter Tryz.func85,Tryz.ntmps85
    go_wp2_with fail
    have hb0:=Below.alloc (Below.refl w.heap.size w) (Nat.le_refl _) (.cells #[.bool false,.slice none 0 0,.slice none 0 0] 54)
    have ho:=cH.new w (.bool false) (.slice none 0 0) (.slice none 0 0) 54
    have hlt:=iq w (.cells #[.bool false,.slice none 0 0,.slice none 0 0] 54)
    generalize w.alloc (.cells #[.bool false,.slice none 0 0,.slice none 0 0] 54)=w0 at *
    refine(ry _ _ _ n d (h1.below hb0) (h2.below hb0) HJ.out.1 HJ.out.2 dz).mono ?_
    rintro e w1 ⟨vg,rfl,Bl,hb1⟩
    rw[<-HG.out]at Bl
    have MN:=ho.below hb1 hlt
    have sK:=Nat.lt_of_lt_of_le hlt hb1.size
    have mc:=hb0.trans (hb1.mono hb0.size)
    have h11:=h1.below mc
    have Gd:=h2.below mc
    go_wp2_with fail
    refine(iO w1 vg g Bl Q5.out).mono ?_
    rintro e w' ⟨rfl,rfl⟩
    go_wp2_with fail
    refine(gl w1 _ _ n g h11 Bl hg0 HJ.out.1 dz).mono ?_
    rintro e w2 ⟨vn,vr,rfl,S6,_,hb2⟩
    have A9:=mc.trans (hb2.mono mc.size)
    have RM:=h2.below A9
    have MV:=Bl.below hb2
    have SM:=MN.below hb2 sK
    have qc:=Nat.lt_of_lt_of_le sK hb2.size
    go_wp2_with fail
    refine(gl w2 _ _ d g RM MV hg0 HJ.out.2 dz).mono ?_
    rintro e w3 ⟨vd,Xk,rfl,NT,_,hb3⟩
    have LC:=A9.trans (hb3.mono A9.size)
    have nC:=SM.below hb3 qc
    have Gs:=S6.below hb3
    go_wp2_with fail
    refine(iO w3 vd _ NT uI.out).mono ?_
    rintro e w' ⟨rfl,rfl⟩
    obtain⟨A1,c1,rfl,_⟩:=id Gs
    obtain⟨A2,c2,rfl,_⟩:=id NT
    obtain⟨wf,HW,f0,f1,f2,eB⟩:=pc (q:=q) (neg:=neg) (Nat.le_refl _) LC nC (by simp) (by simp) (by simp) HQ.out.2.2 (by rw[HQ.out.1]; exact Gs) (by rw[HQ.out.2.1,lR uI.out]; exact NT)
    have LI:=bx HW
    have HF:=bx (And.intro f0 (And.intro f1 f2))
    clear HW f0 f1 f2
    have k0:=nC.c0
    have k1:=nC.c1
    have k2:=nC.c2
    have k3:=nC.fz 0
    have k4:=nC.fz 1
    have k5:=nC.fz 2
    go_wp2
    rw[LI.out]
    obtain⟨f0,f1,f2⟩:=HF.out
    (try simp only[Exit.inBlock,Exit.then])
    refine bodyPost_ret (by simp[results,Tryz.results85,go_sem,f0,f1,f2]; try rfl) rfl ?_
    exact eB
end Wx
