import Derived.Test.YtadigiledciihaaGreatJRB9
import Derived.Test.YtadigiledciihaaGreatJRB10
namespace Wx
set_option maxRecDepth 100000
set_option maxHeartbeats 1000000
open Go Go.RowKit Go.Proofs
def vW (w:World) (q r:Nat) (e:Ending) (w':World):Prop:=∃v1 v2,e=.returned (.tuple #[v1,v2])/\aZ .u64 b64 w' v1 q/\aZ .u64 b64 w' v2 r/\Below w.heap.size w w'
theorem ym (w:World) (v1 v2:Value) (m n:Nat) (h1:aZ .u64 b64 w v1 m) (h2:aZ .u64 b64 w v2 n) (hlt:m<n):
  Calls Tryz.prog 116 #[v1,v2] w (vW w (m/n) (m%n)):=by
 rw[Nat.div_eq_of_lt hlt,Nat.mod_eq_of_lt hlt]
 go_enter Tryz.func116,Tryz.ntmps116
 go_wp2_with fail
 refine(fW _ _ _ _ _ h1 h2).mono ?_
 rintro e w1 ⟨rfl,hb1⟩
 rw[show bf m n = -1 by unfold bf; rw[if_pos hlt]]
 have Dp:=h1.below hb1
 go_wp2
 go_ret2
 exact⟨_,_,rfl,aZ.zero _ _ _,Dp,hb1⟩
variable {m n:Nat}
theorem wA (h:n<=m):∃z,bf m n=z/\¬(z<0):=⟨_,rfl,by unfold bf; rw[if_neg (by omega)]; split<;>omega⟩
theorem yo (w:World) (v1 v2:Value) (m n:Nat) (h1:aZ .u64 b64 w v1 m) (h2:aZ .u64 b64 w v2 n) (hle:n<=m) (h0:0<n) (hn:n<b64) {j:Nat} (hj:Bd j m) (ct:j<=1000000000):
  Calls Tryz.prog 116 #[v1,v2] w (vW w (m/n) (m%n)):=by
 obtain⟨z,hz,hz0⟩:=wA hle
 have HZ:=bx hz
 have hr:m%n<b64:=Nat.lt_trans (Nat.mod_lt m h0) hn
 have HR:=bx hr
 have HN:=bx hn
 clear hz hr hn
 have hc:=fW w v1 v2 m n h1 h2
 rw[HZ.out]at hc
 obtain⟨b,o,c,rfl,hcell⟩:=h2.one h0 HN.out
 go_enter Tryz.func116,Tryz.ntmps116
 go_wp2_with fail
 refine hc.mono ?_
 rintro e w1 ⟨rfl,hb1⟩
 have Dp:=h1.below hb1
 have hcell1:w1.cell? ⟨b,o,none⟩=some (.int .u64 (n:Int)):=by rw[hb1.cell (World.block_lt_of_cell? w _ hcell)]; exact hcell
 clear hc hcell
 go_wp2_with fail
 refine(Ae w1 v1 m n Dp hj ct h0 HN.out).mono ?_
 rintro e w2 ⟨vq,rfl,hq,hb2⟩
 go_wp2_with fail
 refine(lY w2 (m%n) HR.out).mono ?_
 rintro e w3 ⟨vr,rfl,hr3,hb3⟩
 go_wp2
 go_ret2
 exact⟨_,_,rfl,hq.below hb3,hr3,(hb1.trans (hb2.mono hb1.size)).trans (hb3.mono (Nat.le_trans hb1.size hb2.size))⟩
theorem F5 {T V Q:Nat} (hT:0<T) (h:V+Q*b64^0*(n*T)=m*T) (hlt:V<n*T):Q=m/n/\V/T=m%n/\V<=m*T:=by
 rw[Nat.pow_zero,Nat.mul_one]at h
 obtain⟨h1,h2⟩:=jX (m:=m*T) (d:=n*T) (q:=Q) (r:=V) (by omega) hlt
 rw[Nat.mul_div_mul_right _ _ hT]at h1
 rw[Nat.mul_mod_mul_right]at h2
 exact⟨h1.symm,by rw[<-h2,Nat.mul_div_cancel _ hT],by omega⟩
theorem Row.grown {w w':World} {k:IntKind} {e:TypeId} {g g':Nat} {l:List Nat} (h:Row w k e g l) (hg:w.grownBy w' (some g')) (hne:g'≠g):Row w' k e g l:=by
 obtain⟨rest,h1⟩:=h
 exact⟨rest,by rw[<-h1]; exact hg.block g (Row.lt ⟨rest,h1⟩) (by simp; omega)⟩
theorem gA (h:b64<=n):2<=(ae b64 n).length:=by
 rcases Nat.lt_or_ge (ae b64 n).length 2 with hl|hl
 ·have:=iO af n
  have:b64^(ae b64 n).length<=b64^1:=Nat.pow_le_pow_right (by unfold b64; omega) (by omega)
  rw[Nat.pow_one]at this
  omega
 ·exact hl
theorem pq (h:n<=m):(ae b64 n).length<=(ae b64 m).length:=by
 rcases Nat.lt_or_ge (ae b64 m).length (ae b64 n).length with hl|hl
 ·have:=bX af hl; omega
 ·exact hl
theorem yn (w:World) (v1 v2:Value) (m n:Nat) (h1:aZ .u64 b64 w v1 m) (h2:aZ .u64 b64 w v2 n) (hle:n<=m) (hn:b64<=n) {j:Nat} (hj:Bd j m) (ct:j<=100000000):
  Calls Tryz.prog 116 #[v1,v2] w (vW w (m/n) (m%n)):=by
 obtain⟨z,hz,hz0⟩:=wA hle
 have hc:=fW w v1 v2 m n h1 h2
 rw[hz]at hc
 clear hz
 have FC:=gA hn
 have Ky:=js af n
 have hwn:=bq af n
 obtain⟨B,d,rfl,hb⟩:=id h2
 obtain⟨bb,ob,tb,rfl,hcb,QD⟩:=hb.get (i:=(ae b64 n).length-1) (by omega)
 have htb:0<tb:=by
  rcases Nat.eq_zero_or_pos tb with rfl|h
  ·exfalso; apply Ky
   rw[List.getLast?_eq_getElem?]; exact QD.out
  ·exact h
 have OZ:tb<b64:=hwn _ (List.mem_of_getElem? QD.out)
 obtain⟨s,hs,hs1⟩:∃s,s=64-Lib.bitLen tb/\s<=64:=⟨_,rfl,by omega⟩
 have hbl:=hb.len
 have HS:=bx hs
 have Tr:=bx (And.intro htb OZ)
 have hNe:(((ae b64 n).length:Int)==1)=false:=beq_eq_false_iff_ne.2 (by omega)
 have Vm:(0:Int)<=((ae b64 n).length:Int)-1:=by omega
 have Qa:Bd (j+65) (m*2^s):=(hj.mul (show Bd 65 (2^s)from Nat.pow_lt_pow_right (by omega) (by omega)))
 have TZ:Bd j n:=hj.le hle
 have hmn:n*2^s<=m*2^s:=Nat.mul_le_mul_right _ hle
 have T4:b64<=n*2^s:=Nat.le_trans hn (Nat.le_mul_of_pos_right n (Nat.two_pow_pos s))
 have HH:=bx (And.intro hmn T4)
 have HJ:=bx (And.intro hj (And.intro TZ Qa))
 clear hs htb OZ hj TZ Qa hmn T4 Ky hn hwn
 generalize hN:(ae b64 n).length=N at *
 clear hN
 go_enter Tryz.func116,Tryz.ntmps116
 go_wp2_with fail
 refine hc.mono ?_
 rintro e w1 ⟨rfl,hb1⟩
 have h11:=h1.below hb1
 have Fq:=h2.below hb1
 have RJ:w1.cell? ⟨bb,ob+(N-1),none⟩=some (.int .u64 (tb:Int)):=by rw[hb1.cell (World.block_lt_of_cell? w _ hcb)]; exact hcb
 clear hc hcb h1 h2 hb
 go_wp2_with fail
 refine(Pf tb Tr.out.1 Tr.out.2 w1).mono ?_
 rintro e w' ⟨rfl,rfl⟩
 rw[<-HS.out]
 go_wp2_with fail
 refine(yT w1 _ n s Fq HJ.out.2.1 (by omega) (by omega)).mono ?_
 rintro e w2 ⟨v,rfl,hv2,hb2⟩
 have h12:=h11.below hb2
 have wG:=hb1.trans (hb2.mono hb1.size)
 clear h11 Fq RJ hb1 hb2
 go_wp2_with fail
 have eu:=(Below.refl w2.heap.size w2).alloc (Nat.le_refl _) (.cells #[] 108)
 refine(yT _ _ m s (h12.below eu) HJ.out.1 (by omega) (by omega)).mono ?_
 rintro e w3 ⟨x,rfl,hx3,hb3⟩
 have Ks:(w2.alloc (.cells #[] 108)).ownsRow w2.heap.size 108 1 (.slice (some ⟨w2.heap.size,0,none⟩) 0 0) 0 (eK .u64 []):=World.ownsRow_made w2 #[] 0 (Nat.le_refl _) (Nat.zero_le _) rfl
 have Cm:=Ks.kept (ck hb3 none) (.inr (by simp[Value.ownBlock]))
 have qI:Below w2.heap.size w2 w3:=eu.trans (hb3.mono eu.size)
 have hv3:=hv2.below qI
 have Vc:=h12.below qI
 clear Ks eu hb3 h12
 obtain⟨X,cx,rfl,SH⟩:=hx3
 have Qg:(ae b64 (m*2^s)).length<=100000000:=by
  have:=od HJ.out.2.2; omega
 have SG:=pq HH.out.1
 have Sz:=gA HH.out.2
 obtain⟨V,cv,rfl,H8⟩:=hv2
 clear hv3
 have Ue:=(BM.of H8).pA (ck qI none) (by intro g hg; cases hg)
 clear H8
 have Oj:=bx (aV af (n*2^s))
 have Rs:=bq af (n*2^s)
 have TR:=bx (js af (n*2^s))
 have TT:=bx (aV af (m*2^s))
 have Rt:=bq af (m*2^s)
 generalize ae b64 (n*2^s)=vl at *
 generalize ae b64 (m*2^s)=al at *
 obtain⟨bxx,ox,x0,rfl,uS,_⟩:=SH.get (i:=0) (by omega)
 clear uS
 go_upto_region 9 with(first
  |(at_builtin; refine nH _ rfl (.tmp 45) (.tmp 48) _ rfl .u64 108 w2.heap.size Tryz.underlying52 jf (.slice (some ⟨w2.heap.size,0,none⟩) 0 0) [] rfl Cm _ _ _ al _ rfl rfl SH (by simp; omega) qI.size ?_; intro U4 A4 c4 w4 Ni nW hg4)
  |(at_builtin; refine nH _ rfl (.tmp 49) (.tmp 50) _ rfl .u64 108 w2.heap.size Tryz.underlying52 jf (.slice A4 U4.length c4) U4 rfl (nW.alloc _) _ _ _ [0] 1 rfl rfl ((Row.new w4 .u64 108 [0]).dV (c:=1) (by simp) (by simp[maxLen])) (by rw[Ni.out]; simp; omega) (by simp; have h5:=qI.size; have h6:=hg4.size; omega) ?_; intro U A5 c5 w5 ND Kt RZ))
 have Vt:U.length=al.length+1:=by rw[ND.out,Ni.out]; simp
 have O1:=Ue.pA hg4 (by intro g hg; simp[Value.ownBlock]at hg; omega)
 have FF:∀k,(Value.slice A4 U4.length c4).ownBlock=some k->w2.heap.size<=k:=λk hk=>(nW.lt k hk).1
 have O2:=(O1.pA (World.grownBy_alloc w4 _ none) (by intro g hg; cases hg)).pA RZ FF
 have IB:Below w.heap.size w w4:=(wG.trans (qI.mono wG.size)).grown hg4 (Nat.le_trans wG.size qI.size) (by intro g hg; simp[Value.ownBlock]at hg; have:=wG.size; omega)
 have P3:Below w.heap.size w w5:=(IB.alloc IB.size (.cells #[.int .u64 0] 108)).grown RZ (by have:=IB.size; simp; omega) (by intro g hg; have:=FF g hg; have:=wG.size; omega)
 obtain⟨g,rfl,hgB,P5,wI,Rn⟩:=zD Kt (by omega)
 clear Ue O1 FF IB hg4 RZ Cm nW Kt Vc SH
 have Oh:Bx (val b64 U+val b64 (List.drop (U.length-vl.length) (List.replicate (U.length-vl.length) 0))*b64^(U.length-vl.length)*(n*2^s)=m*2^s):=by
  refine bx ?_
  rw[List.drop_of_length_le (by simp),CQ,Nat.zero_mul,Nat.zero_mul,Nat.add_zero,ND.out,Ni.out,List.nil_append,fR,TT.out]
  simp[val]
 have Oc:Bx (val b64 (U.drop (U.length-vl.length))<n*2^s):=by
  refine bx ?_
  have e1:U.drop (U.length-vl.length)=(al.drop (U.length-vl.length))++[0]:=by
   rw[ND.out,Ni.out,List.nil_append,List.drop_append_of_le_length (by simp; omega)]
  rw[e1,fR]
  have h1:=eW (Rt.drop (U.length-vl.length))
  have h2:=lQ af (n:=n*2^s) (by have:=HH.out.2; unfold b64 at this; omega)
  have h3:(ae b64 (n*2^s)).length=vl.length:=by rw[<-Oj.out,kZ af Rs TR.out]
  rw[h3]at h2
  rw[List.length_drop,show al.length-(U.length-vl.length)=vl.length-1 by omega]at h1
  simp[val]
  omega
 have Vw:Wf b64 U:=by rw[ND.out,Ni.out]; exact(Wf.append (Wf.nil _) Rt).append (Wf.cons (by unfold b64; omega) (Wf.nil _))
 have Vu:vl.length+1<=U.length:=by omega
 have Vv:U.length<=100000001:=by omega
 clear Ni ND Vt Rt TT Qg SG
 go_wp2_with (at_make; go_loud (refine bY _ rfl _ _ _ rfl .u64 108 Tryz.underlying52 jf _ _ rfl rfl (by omega) (by omega) (by omega) ?_); intro w6 hrow bV hsz)
 rw[show((U.length:Int)-(vl.length:Int)).toNat=U.length-vl.length by omega]at hrow
 rw[show decide (z<0)=false from decide_eq_false (by omega)]
 have Og:=P5.keep bV
 have O3:=O2.pA (ck bV none) (by intro g hg; cases hg)
 have TD:=P3.trans (bV.mono P3.size)
 have TX:g≠w5.heap.size:=by have:=P5.lt; omega
 generalize TI:U.length-vl.length=Qn at *
 have Qy:=bx TI
 have hq1:(Qn:Int)<=100000001:=by omega
 have hcc:c5<=9223372036854775807:=by unfold maxLen at Rn; omega
 have Tj:=bx TX
 have QA:=bx (And.intro P3.size (show w2.heap.size<=w5.heap.size by have:=P5.lt; omega))
 have QB:=bx (show w.heap.size<=g by have:=wG.size; omega)
 clear P5 O2 P3 bV hsz TI hz0 TX QD hNe Vm hbl FC wG qI
 go_loopw [13] (λSU wr=>∃(i:Nat) (M qs:List Nat),i<=Qn/\SU=.int .i64 ((i:Int)-1)/\Bx (M.length=U.length)/\Wf b64 M/\Bx (qs.length=Qn)/\Wf b64 qs/\Row wr .u64 108 g M/\Row wr .u64 108 w5.heap.size qs/\BM wr w2.heap.size .u64 V cv vl/\Below w.heap.size w wr /\
   Bx (val b64 M+val b64 (qs.drop i)*b64^i*(n*2^s)=m*2^s)/\Bx (val b64 (M.drop i)<n*2^s)) (λSU _=>(RowKit.intOf SU+1).toNat)
 case atStart=>exact⟨Qn,U,List.replicate Qn 0,Nat.le_refl _,rfl,bx rfl,Vw,bx (by simp),Wf.replicate (by unfold b64; omega) _,Og,hrow,O3,TD,Oh,Oc⟩
 case round=>
  clear Og hrow O3 TD Oh Oc
  obtain⟨i,M,qs,hi,rfl,EE,FK,NC,IV,Kv,Su,H8,N9,cj,CY⟩:=hrel
  rcases Nat.eq_zero_or_pos i with rfl|hpos
  ·rw[show(((0:Nat):Int)-1) = -1 by omega]
   go_wp2_with fail
   obtain⟨e1,e2,e3⟩:=F5 (Nat.two_pow_pos s) cj.out CY.out
   have E1:=bx e1
   have E2:=bx e2
   have E3:=bx (HJ.out.2.2.le e3)
   clear e1 e2 e3 hcc hq1
   refine(gK wr (some ⟨w5.heap.size,0,none⟩) Qn qs (m/n) (Su.dV (by rw[NC.out]; exact Nat.le_refl _) (by have:=Qy.out; unfold maxLen; omega)) IV Qn NC.out E1.out).mono ?_
   rintro e w' ⟨rfl,vq,rfl,V7⟩
   go_wp2_with fail
   refine(gK wr (some ⟨g,0,none⟩) c5 M _ (Kv.dV (by rw[EE.out]; exact wI) Rn) FK U.length EE.out rfl).mono ?_
   rintro e w' ⟨rfl,vM,rfl,V6⟩
   go_wp2_with fail
   refine(Eb wr vM (val b64 M) s V6 E3.out (by omega) (by omega)).mono ?_
   rintro e wf ⟨vr,rfl,T5,P7⟩
   go_wp2
   go_ret2
   rw[E2.out]at T5
   exact⟨_,_,rfl,V7.below P7,T5,N9.trans (P7.mono N9.size)⟩
  ·obtain⟨k,rfl⟩:∃k,i=k+1:=⟨i-1,by omega⟩
   rw[show(((k+1:Nat):Int)-1)=(k:Int) by omega]
   have uT:(0:Int)<=(k:Int):=by omega
   have kN:(k:Int)<(Qn:Int):=by omega
   have hk2:(k:Int)+(vl.length:Int)+1<=(c5:Int):=by have:=Qy.out; omega
   go_wp2_with fail
   have OI:k+(vl.length+1)<=M.length:=by have:=Qy.out; have:=EE.out; omega
   have Mc:=qq OI FK (V:=n*2^s) CY.out
   rw[<-Oj.out]at Mc
   have Ot:vl.length+1<=c5-k:=by omega
   rw[show k+vl.length+1-k=vl.length+1 by omega]
   have Ou:c5-k<=maxLen:=Nat.le_trans (Nat.sub_le _ _) Rn
   have O4:vl.length<=1000000000:=by omega
   refine(Da wr w2.heap.size g k (c5-k) M vl V cv Kv FK OI Ot Ou H8 hgB Rs O4 Sz TR.out Mc).mono ?_
   clear Mc Ot
   rintro e wd ⟨rfl,hgd,M',LQ,SC,Ss,AE,hdr,qJ⟩
   have Mj:=Su.grown hgd Tj.out
   have SB:=H8.grown hgd hgB
   have Rg:=N9.grown hgd N9.size (by intro g' wJ; injection wJ with wJ; have:=QB.out; omega)
   obtain⟨l1,l2⟩:=DF LQ OI (show n*2^s<b64^vl.length by rw[<-Oj.out]; exact eW Rs) (by rw[NC.out]; omega) AE hdr (by rw[<-Oj.out]; exact qJ) CY.out cj.out
   rw[Oj.out]
   have FE:val b64 (win M k (vl.length+1))/(n*2^s)<b64:=by
    rw[Nat.div_lt_iff_lt_mul (by have:=CY.out; omega),Nat.mul_comm]
    exact qq OI FK CY.out
   have Qv:=bx (LQ.trans EE.out)
   generalize Qe:val b64 (win M k (vl.length+1))/(n*2^s)=qd at *
   have UA:=bx l1
   have UB:=bx l2
   have UI:=bx FE
   clear Ou O4 l1 l2 FE Qe AE hdr qJ LQ OI Kv Su H8 N9 FK EE hgd cj CY
   obtain⟨vo,Cj,Es⟩:=Mj.get (i:=k) (by have:=NC.out; omega)
   have tS:=Mj.frozen k
   go_wp2
   go_roundw
   case rel=>
    exact⟨k,M',qs.set k qd,by omega,by go_num,Qv,SC,bx (by rw[List.length_set]; exact NC.out),IV.set UI.out,Ss.Iy (by simpa using Tj.out) _,Mj.set _ _,SB.pA (uR _ _ _ _) (by intro g' wJ; injection wJ with wJ; have:=QA.out.2; omega),Rg.setCell QA.out.1 _,UA,UB⟩
   case measure=>simp[RowKit.intOf]
theorem fK (w:World) (v1 v2:Value) (m n:Nat) (h1:aZ .u64 b64 w v1 m) (h2:aZ .u64 b64 w v2 n) (h0:0<n) {j:Nat} (hj:Bd j m) (ct:j<=100000000):
  Calls Tryz.prog 116 #[v1,v2] w (vW w (m/n) (m%n)):=by
 rcases Nat.lt_or_ge m n with hlt|hge
 ·exact ym w v1 v2 m n h1 h2 hlt
 ·rcases Nat.lt_or_ge n b64 with hn|hn
  ·exact yo w v1 v2 m n h1 h2 hge h0 hn hj (by omega)
  ·exact yn w v1 v2 m n h1 h2 hge hn hj ct
end Wx

namespace Wx
set_option maxHeartbeats 1000000
open Go Go.RowKit Go.Proofs
variable {w:World} {k:IntKind}
theorem Rd.inj {A:Option Addr} {c c':Nat} {l r:List Nat} (h:Rd w k A c l) (g:Rd w k A c' r) (hl:l.length=r.length):l=r:=by
 apply List.ext_getElem hl
 intro i h1 h2
 obtain⟨b,o,e,hc⟩:=h.at_ (i:=i) h1
 obtain⟨b',o',e',hc'⟩:=g.at_ (i:=i) h2
 rw[e]at e'
 injection e' with e'
 injection e' with e1 e2
 subst e1 e2
 rw[hc]at hc'
 injection hc' with hc'
 injection hc' with _ hc'
 rw[List.getD_eq_getElem?_getD,List.getD_eq_getElem?_getD,List.getElem?_eq_getElem h1,List.getElem?_eq_getElem h2]at hc'
 simp only[Option.getD_some]at hc'
 omega
variable {v:Value} {n:Nat}
theorem aZ.inj {m:Nat} (h:aZ k b64 w v m) (g:aZ k b64 w v n):m=n:=by
 obtain⟨A,c,rfl,hr⟩:=h
 obtain⟨A',c',e,gr⟩:=g
 injection e with e1 e2 e3
 subst e1
 exact yh af (hr.inj gr e2)
open Classical in
noncomputable def numOf (w:World) (v:Value):Nat:=if h:∃n,aZ .u64 b64 w v n then choose h else 0
theorem aZ.of_eq (h:aZ .u64 b64 w v n):numOf w v=n:=by
 have hx:∃n,aZ .u64 b64 w v n:=⟨n,h⟩
 unfold numOf
 rw[dif_pos hx]
 exact(Classical.choose_spec hx).inj h
theorem nw (h:n<b64):(ae b64 n).length<=1:=fB af (by simpa using h)
theorem tR (h:¬n<b64):2<=(ae b64 n).length:=gA (by omega)
theorem rf (w:World) (v1 v2:Value) (m n:Nat) (h1:aZ .u64 b64 w v1 m) (h2:aZ .u64 b64 w v2 n) {j:Nat} (hj:Bd j m) (hk:Bd j n) (ct:j<=100000000):
  Calls Tryz.prog 115 #[v1,v2] w (dS .u64 b64 w (Nat.gcd m n)):=by
 have HX:=bx (And.intro hj hk)
 clear hj hk
 obtain⟨G,hG⟩:∃G,G=Nat.gcd m n:=⟨_,rfl⟩
 rw[<-hG]
 have HG:=bx hG
 clear hG
 go_enter Tryz.func115,Tryz.ntmps115
 go_wp2_with fail
 go_loopw [0,1] (λs0 s1 wr=>∃x y:Nat,aZ .u64 b64 wr s0 x/\aZ .u64 b64 wr s1 y/\Bx (G=Nat.gcd x y)/\Bx (Bd j x/\Bd j y)/\Below w.heap.size w wr) (λ_ s1 wr=>numOf wr s1)
 case atStart=>exact⟨_,_,h1,h2,HG,HX,Below.refl _ _⟩
 case round=>
  clear h1 h2 HG HX
  obtain⟨x,y,hx,hy,HG,HX,hb⟩:=hrel
  rcases Nat.eq_zero_or_pos y with rfl|hy0
  ·obtain⟨A,c,rfl,hr⟩:=id hy
   rw[aW]at hr ⊢
   go_wp2
   go_ret
   exact⟨_,rfl,by rw[HG.out,Nat.gcd_zero_right]; exact hx,hb⟩
  ·obtain⟨A,c,rfl,hr⟩:=id hx
   obtain⟨B,d,rfl,hs⟩:=id hy
   have mw:(1:Int)<=((ae b64 y).length:Int):=by have:=(aq (n:=y) af).2 hy0; omega
   by_cases hx1:x<b64
   ·by_cases oQ:y<b64
    ·have a1:((ae b64 x).length:Int)<=1:=by have:=nw hx1; omega
     have a2:((ae b64 y).length:Int)<=1:=by have:=nw oQ; omega
     have UQ:=bx hx1
     have Tt:=bx oQ
     have CZ:=bx hy0
     clear hx1 oQ hy0
     go_wp2_with fail
     refine(Eh wr _ _ x y hx hy UQ.out Tt.out CZ.out).mono ?_
     rintro e w2 ⟨rfl,hb2⟩
     go_wp2_with fail
     refine(lY w2 _ (Nat.lt_of_le_of_lt (Nat.gcd_le_right x CZ.out) Tt.out)).mono ?_
     rintro e w3 ⟨vr,rfl,hr3,hb3⟩
     go_wp2
     go_ret
     exact⟨_,rfl,by rw[HG.out]; exact hr3,(hb.trans (hb2.mono hb.size)).trans (hb3.mono (Nat.le_trans hb.size hb2.size))⟩
    ·have a1:((ae b64 x).length:Int)<=1:=by have:=nw hx1; omega
     have a2:(2:Int)<=((ae b64 y).length:Int):=by have:=tR oQ; omega
     have CZ:=bx hy0
     clear hx1 oQ hy0
     go_wp2_with fail
     refine(fK wr _ _ x y hx hy CZ.out HX.out.1 ct).mono ?_
     rintro e w2 ⟨vq,vr,rfl,hq,hr2,hb2⟩
     have Mq:=hy.below hb2
     go_wp2
     go_roundw
     case rel=>exact⟨y,x%y,Mq,hr2,bx (by rw[HG.out,Nat.gcd_comm x y,Nat.gcd_rec y x,Nat.gcd_comm]),bx ⟨HX.out.2,HX.out.2.le (Nat.le_of_lt (Nat.mod_lt _ CZ.out))⟩,hb.trans (hb2.mono hb.size)⟩
     case measure=>rw[hr2.of_eq,hy.of_eq]; exact Nat.mod_lt _ CZ.out
   ·have a1:(2:Int)<=((ae b64 x).length:Int):=by have:=tR hx1; omega
    have CZ:=bx hy0
    clear hx1 hy0
    go_wp2_with fail
    refine(fK wr _ _ x y hx hy CZ.out HX.out.1 ct).mono ?_
    rintro e w2 ⟨vq,vr,rfl,hq,hr2,hb2⟩
    have Mq:=hy.below hb2
    go_wp2
    go_roundw
    case rel=>exact⟨y,x%y,Mq,hr2,bx (by rw[HG.out,Nat.gcd_comm x y,Nat.gcd_rec y x,Nat.gcd_comm]),bx ⟨HX.out.2,HX.out.2.le (Nat.le_of_lt (Nat.mod_lt _ CZ.out))⟩,hb.trans (hb2.mono hb.size)⟩
    case measure=>rw[hr2.of_eq,hy.of_eq]; exact Nat.mod_lt _ CZ.out
end Wx

namespace Wx
set_option maxHeartbeats 1000000
open Go Go.RowKit Go.Proofs
def xK (w:World) (g:Nat):Prop:=∀i k z,w.cell? ⟨g,i,none⟩≠some (.int k z)
def cE (w:World) (g:Nat) (x y z:Value) (e:TypeId):Prop:=w.heap[g]?=some (.cells #[x,y,z] e (0,0))
variable {w:World} {g:Nat} {x y z:Value} {e:TypeId}
theorem cE.c0 (h:cE w g x y z e):w.cell? ⟨g,0,none⟩=some x:=by unfold cE at h; simp[World.cell?,h]
theorem cE.c1 (h:cE w g x y z e):w.cell? ⟨g,1,none⟩=some y:=by unfold cE at h; simp[World.cell?,h]
theorem cE.c2 (h:cE w g x y z e):w.cell? ⟨g,2,none⟩=some z:=by unfold cE at h; simp[World.cell?,h]
theorem cE.fz (h:cE w g x y z e) (i:Nat):w.frozen? ⟨g,i,none⟩=false:=by unfold cE at h; simp[World.frozen?,h]
variable {w':World}
theorem cE.below {B:Nat} (h:cE w g x y z e) (hb:Below B w w') (hg:g<B):cE w' g x y z e:=(hb.block g hg).trans h
theorem cE.new (w:World) (x y z:Value) (e:TypeId):cE (w.alloc (.cells #[x,y,z] e)) w.heap.size x y z e:=by unfold cE; exact heap_alloc_new _ _
theorem gJ (w:World) (o:Obj):w.heap.size<(w.alloc o).heap.size:=by simp
theorem cE.iz (h:cE w g x y z e) (hx:∀k n,x≠.int k n) (hy:∀k n,y≠.int k n) (hz:∀k n,z≠.int k n):xK w g:=by
 intro i k n hc
 unfold cE at h
 simp only[World.cell?,h]at hc
 match i,hc with
 |0,hc=>exact hx k n (by simpa using hc)
 |1,hc=>exact hy k n (by simpa using hc)
 |2,hc=>exact hz k n (by simpa using hc)
 |n+3,hc=>simp at hc
theorem cE.JC (h:cE w g x y z e) (u:Value):cE (w.setCell ⟨g,0,none⟩ u) g u y z e:=by
 unfold cE at *; simp[World.setCell,Array.getElem?_modify,h]
theorem cE.JD (h:cE w g x y z e) (u:Value):cE (w.setCell ⟨g,1,none⟩ u) g x u z e:=by
 unfold cE at *; simp[World.setCell,Array.getElem?_modify,h]
theorem cE.JE (h:cE w g x y z e) (u:Value):cE (w.setCell ⟨g,2,none⟩ u) g x y u e:=by
 unfold cE at *; simp[World.setCell,Array.getElem?_modify,h]
variable {k:IntKind}
theorem Rd.iz {A:Option Addr} {c:Nat} {l:List Nat} (h:Rd w k A c l) {g:Nat} (hg:xK w g) (i:Nat) (u:Value):Rd (w.setCell ⟨g,i,none⟩ u) k A c l:=by
 obtain⟨h1,h2,h3⟩:=h
 refine⟨h1,h2,λhne=>?_⟩
 obtain⟨b,o,e,hc⟩:=h3 hne
 refine⟨b,o,e,λi' hi=>?_⟩
 have IP:b≠g:=by rintro rfl; exact hg _ _ _ (hc i' hi)
 rw[World.cell?_of_block (Below.heap_setCell w ⟨g,i,none⟩ u b IP)]
 exact hc i' hi
variable {v:Value} {n:Nat}
theorem aZ.iz (h:aZ k b64 w v n) {g:Nat} (hg:xK w g) (i:Nat) (u:Value):aZ k b64 (w.setCell ⟨g,i,none⟩ u) v n:=by
 obtain⟨A,c,rfl,hr⟩:=h
 exact⟨A,c,rfl,hr.iz hg i u⟩
def ay (d:Nat):Nat:=if d=1 then 0 else d
def bJ (w:World) (v:Value) (q:Rat):Prop:=∃vn vd,v=.agg #[.bool (decide (q.num<0)),vn,vd]/\aZ .u64 b64 w vn q.num.natAbs/\aZ .u64 b64 w vd (ay q.den)
def jR (w:World) (q:Rat) (e:Ending) (w':World):Prop:=∃v,e=.returned v/\bJ w' v q/\Below w.heap.size w w'
variable {q:Rat}
theorem bJ.below (h:bJ w v q) (hb:Below w.heap.size w w'):bJ w' v q:=by
 obtain⟨vn,vd,rfl,h1,h2⟩:=h
 exact⟨vn,vd,rfl,h1.below hb,h2.below hb⟩
def cN (j:Nat) (q:Rat):Prop:=Bd j q.num.natAbs/\Bd j q.den
variable {j:Nat}
theorem cN.mono {k:Nat} (h:cN j q) (hk:j<=k):cN k q:=⟨h.1.mono hk,h.2.mono hk⟩
def sg (neg:Bool) (n:Nat):Int:=if neg then -(n:Int)else n
theorem pT (neg:Bool) (n:Nat):(sg neg n).natAbs=n:=by cases neg<;>simp[sg]
theorem tJ (z:Int):sg (decide (z<0)) z.natAbs=z:=by
 unfold sg
 by_cases h:z<0
 ·rw[decide_eq_true h]; simp; omega
 ·rw[decide_eq_false h]; simp; omega
def cI (neg:Bool) (n d:Nat):Rat:=mkRat (sg neg n) d
variable {neg:Bool} {d:Nat}
theorem zw (hd:0<d):(cI neg n d).num=sg neg (n/n.gcd d):=by
 unfold cI
 rw[Rat.num_mkRat,if_neg (by omega),pT,Nat.gcd_comm]
 cases neg
 ·simp[sg]
 ·show -(n:Int)/((n.gcd d:Nat):Int) = -((n/n.gcd d:Nat):Int)
  rw[Int.neg_ediv_of_dvd (Int.natCast_dvd_natCast.2 (Nat.gcd_dvd_left n d)),Int.natCast_ediv]
theorem oC (hd:0<d):(cI neg n d).den=d/n.gcd d:=by
 unfold cI
 rw[Rat.den_mkRat,if_neg (by omega),pT,Nat.gcd_comm]
theorem iU (hd:0<d):(cI neg n d).num.natAbs=n/n.gcd d:=by rw[zw hd,pT]
theorem mE (hd:0<d) (h1:Bd j n) (h2:Bd j d):cN j (cI neg n d):=
 ⟨by rw[iU hd]; exact h1.le (Nat.div_le_self _ _),by rw[oC hd]; exact h2.le (Nat.div_le_self _ _)⟩
theorem tv (hd:0<d) (hn:0<n):decide ((cI neg n d).num<0)=neg:=by
 rw[zw hd]
 have:0<n/n.gcd d:=Nat.div_pos (Nat.le_of_dvd hn (Nat.gcd_dvd_left n d)) (Nat.gcd_pos_of_pos_left _ hn)
 cases neg<;>simp[sg]<;>omega
theorem vF:cI neg 0 d=0:=by
 unfold cI sg
 cases neg<;>simp
theorem oB {w3:World} {A1 A2:Option Addr} {l1 l2 c1 c2:Nat} (hg:w.heap.size<=g) (hb:Below w.heap.size w w3) (ho:cE w3 g x y z e)
  (hx:∀k n,x≠.int k n) (hy:∀k n,y≠.int k n) (hz:∀k n,z≠.int k n) (hn:decide (q.num<0)=neg) (h1:aZ .u64 b64 w3 (.slice A1 l1 c1) q.num.natAbs) (h2:aZ .u64 b64 w3 (.slice A2 l2 c2) (ay q.den)):
  ∃wf,((w3.setCell ⟨g,0,none⟩ (.bool neg)).setCell ⟨g,1,none⟩ (.slice A1 l1 c1)).setCell ⟨g,2,none⟩ (.slice A2 l2 c2)=wf/\wf.cell? ⟨g,0,none⟩=some (.bool neg)/\wf.cell? ⟨g,1,none⟩=some (.slice A1 l1 c1)/\wf.cell? ⟨g,2,none⟩=some (.slice A2 l2 c2) /\
   jR w q (.returned (.agg #[.bool neg,.slice A1 l1 c1,.slice A2 l2 c2])) wf:=by
 have n0:=ho.iz hx hy hz
 have o1:=ho.JC (.bool neg)
 have n1:=o1.iz (by simp) hy hz
 have o2:=o1.JD (.slice A1 l1 c1)
 have n2:=o2.iz (by simp) (by simp) hz
 have o3:=o2.JE (.slice A2 l2 c2)
 refine⟨_,rfl,o3.c0,o3.c1,o3.c2,_,rfl,⟨_,_,by rw[hn],((h1.iz n0 _ _).iz n1 _ _).iz n2 _ _,((h2.iz n0 _ _).iz n1 _ _).iz n2 _ _⟩,((hb.setCell hg _).setCell hg _).setCell hg _⟩
theorem nt (w:World):bJ w (.agg #[.bool false,.slice none 0 0,.slice none 0 0]) 0:=⟨_,_,rfl,aZ.zero _ _ _,aZ.zero _ _ _⟩
theorem jr:ay 1=0:=rfl
theorem kY (h:d≠1):ay d=d:=if_neg h
theorem jK (w:World) (v:Value) (d:Nat) (h:aZ .u64 b64 w v (ay d)) (hd:0<d):Calls Tryz.prog 83 #[v] w (dS .u64 b64 w d):=by
 by_cases h1:d=1
 ·subst h1
  obtain⟨A,c,rfl,hr⟩:=id h
  rw[jr,aW]
  go_enter Tryz.func83,Tryz.ntmps83
  go_wp2_with fail
  refine(lY w 1 (by unfold b64; omega)).mono ?_
  rintro e w3 ⟨vr,rfl,hr3,hb3⟩
  go_wp2
  go_ret
  exact⟨_,rfl,hr3,hb3⟩
 ·rw[kY h1]at h
  obtain⟨A,c,rfl,hr⟩:=id h
  have hl:(((ae b64 d).length:Int)==0)=false:=beq_eq_false_iff_ne.2 (by have:=(aq (n:=d) af).2 hd; omega)
  go_enter Tryz.func83,Tryz.ntmps83
  go_wp2
  go_ret
  exact⟨_,rfl,h,Below.refl _ _⟩
theorem iV (w:World) (neg:Bool) (v1 v2:Value) (n d:Nat) (h1:aZ .u64 b64 w v1 n) (h2:aZ .u64 b64 w v2 d) (hd:0<d) {j:Nat} (hj:Bd j n) (hk:Bd j d) (ct:j<=100000000):
  Calls Tryz.prog 85 #[.bool neg,v1,v2] w (jR w (cI neg n d)):=by
 rcases Nat.eq_zero_or_pos n with rfl|hn
 ·obtain⟨A,c,rfl,hr⟩:=id h1
  rw[aW,vF]
  go_enter Tryz.func85,Tryz.ntmps85
  go_wp2
  go_returns
  exact⟨_,rfl,nt _,Below.alloc (Below.refl _ _) (Nat.le_refl _) _⟩
 ·obtain⟨B,c,rfl,hr⟩:=id h1
  have hl:(((ae b64 n).length:Int)==0)=false:=beq_eq_false_iff_ne.2 (by have:=(aq (n:=n) af).2 hn; omega)
  obtain⟨g,hg⟩:∃g,g=n.gcd d:=⟨_,rfl⟩
  obtain⟨q,hq⟩:∃q,q=cI neg n d:=⟨_,rfl⟩
  have hg0:0<g:=by rw[hg]; exact Nat.gcd_pos_of_pos_left _ hn
  have q1:=iU (neg:=neg) (n:=n) hd
  have q2:=oC (neg:=neg) (n:=n) hd
  have q3:=tv (neg:=neg) hd hn
  rw[<-hq,<-hg]at q1 q2
  rw[<-hq]at q3
  rw[<-hq]
  have HQ:=bx (And.intro q1 (And.intro q2 q3))
  have HJ:=bx (And.intro hj hk)
  have HG:=bx hg
  clear q1 q2 q3 hq hj hk hg hn
  by_cases Ex:g=1
  ·subst Ex
   rw[Nat.div_one,Nat.div_one]at HQ
   by_cases tT:d=1
   ·have ux:=bx tT
    clear tT
    go_enter Tryz.func85,Tryz.ntmps85
    go_wp2_with fail
    have hb0:=Below.alloc (Below.refl w.heap.size w) (Nat.le_refl _) (.cells #[.bool false,.slice none 0 0,.slice none 0 0] 54)
    have ho:=cE.new w (.bool false) (.slice none 0 0) (.slice none 0 0) 54
    have hlt:=gJ w (.cells #[.bool false,.slice none 0 0,.slice none 0 0] 54)
    generalize w.alloc (.cells #[.bool false,.slice none 0 0,.slice none 0 0] 54)=w0 at *
    refine(rf _ _ _ n d (h1.below hb0) (h2.below hb0) HJ.out.1 HJ.out.2 ct).mono ?_
    rintro e w1 ⟨vg,rfl,AG,hb1⟩
    rw[<-HG.out]at AG
    have Mf:=ho.below hb1 hlt
    have sB:=Nat.lt_of_lt_of_le hlt hb1.size
    have lD:=hb0.trans (hb1.mono hb0.size)
    have h11:=h1.below lD
    have Fq:=h2.below lD
    go_wp2_with fail
    refine(gX w1 vg AG).mono ?_
    rintro e w' ⟨rfl,rfl⟩
    go_wp2_with fail
    rw[ux.out]at Fq
    refine(gX w1 _ Fq).mono ?_
    rintro e w' ⟨rfl,rfl⟩
    have mS:=Mf
    have K6:=lD
    obtain⟨wf,HW,f0,f1,f2,dM⟩:=oB (q:=q) (neg:=neg) (Nat.le_refl _) K6 mS (by simp) (by simp) (by simp) HQ.out.2.2 (by rw[HQ.out.1]; exact h11) (A2:=none) (l2:=0) (c2:=0) (by rw[HQ.out.2.1,ux.out,jr]; exact aZ.zero _ _ _)
    have Lb:=bx HW
    have HF:=bx (And.intro f0 (And.intro f1 f2))
    clear HW f0 f1 f2
    have k0:=mS.c0
    have k1:=mS.c1
    have k2:=mS.c2
    have k3:=mS.fz 0
    have k4:=mS.fz 1
    have k5:=mS.fz 2
    go_wp2
    rw[Lb.out]
    obtain⟨f0,f1,f2⟩:=HF.out
    (try simp only[Exit.inBlock,Exit.then])
    refine bodyPost_ret (by simp[results,Tryz.results85,go_sem,f0,f1,f2]; try rfl) rfl ?_
    exact dM
   ·have ux:=bx tT
    clear tT
    go_enter Tryz.func85,Tryz.ntmps85
    go_wp2_with fail
    have hb0:=Below.alloc (Below.refl w.heap.size w) (Nat.le_refl _) (.cells #[.bool false,.slice none 0 0,.slice none 0 0] 54)
    have ho:=cE.new w (.bool false) (.slice none 0 0) (.slice none 0 0) 54
    have hlt:=gJ w (.cells #[.bool false,.slice none 0 0,.slice none 0 0] 54)
    generalize w.alloc (.cells #[.bool false,.slice none 0 0,.slice none 0 0] 54)=w0 at *
    refine(rf _ _ _ n d (h1.below hb0) (h2.below hb0) HJ.out.1 HJ.out.2 ct).mono ?_
    rintro e w1 ⟨vg,rfl,AG,hb1⟩
    rw[<-HG.out]at AG
    have Mf:=ho.below hb1 hlt
    have sB:=Nat.lt_of_lt_of_le hlt hb1.size
    have lD:=hb0.trans (hb1.mono hb0.size)
    have h11:=h1.below lD
    have Fq:=h2.below lD
    go_wp2_with fail
    refine(gX w1 vg AG).mono ?_
    rintro e w' ⟨rfl,rfl⟩
    go_wp2_with fail
    refine(iu w1 _ _ Fq ux.out).mono ?_
    rintro e w' ⟨rfl,rfl⟩
    have mS:=Mf
    have K6:=lD
    obtain⟨A2,c2,rfl,_⟩:=id Fq
    obtain⟨wf,HW,f0,f1,f2,dM⟩:=oB (q:=q) (neg:=neg) (Nat.le_refl _) K6 mS (by simp) (by simp) (by simp) HQ.out.2.2 (by rw[HQ.out.1]; exact h11) (by rw[HQ.out.2.1,kY ux.out]; exact Fq)
    have Lb:=bx HW
    have HF:=bx (And.intro f0 (And.intro f1 f2))
    clear HW f0 f1 f2
    have k0:=mS.c0
    have k1:=mS.c1
    have k2:=mS.c2
    have k3:=mS.fz 0
    have k4:=mS.fz 1
    have k5:=mS.fz 2
    go_wp2
    rw[Lb.out]
    obtain⟨f0,f1,f2⟩:=HF.out
    (try simp only[Exit.inBlock,Exit.then])
    refine bodyPost_ret (by simp[results,Tryz.results85,go_sem,f0,f1,f2]; try rfl) rfl ?_
    exact dM
  ·by_cases tT:d/g=1
   ·have Qr:=bx Ex
    have ux:=bx tT
    clear Ex tT
    go_enter Tryz.func85,Tryz.ntmps85
    go_wp2_with fail
    have hb0:=Below.alloc (Below.refl w.heap.size w) (Nat.le_refl _) (.cells #[.bool false,.slice none 0 0,.slice none 0 0] 54)
    have ho:=cE.new w (.bool false) (.slice none 0 0) (.slice none 0 0) 54
    have hlt:=gJ w (.cells #[.bool false,.slice none 0 0,.slice none 0 0] 54)
    generalize w.alloc (.cells #[.bool false,.slice none 0 0,.slice none 0 0] 54)=w0 at *
    refine(rf _ _ _ n d (h1.below hb0) (h2.below hb0) HJ.out.1 HJ.out.2 ct).mono ?_
    rintro e w1 ⟨vg,rfl,AG,hb1⟩
    rw[<-HG.out]at AG
    have Mf:=ho.below hb1 hlt
    have sB:=Nat.lt_of_lt_of_le hlt hb1.size
    have lD:=hb0.trans (hb1.mono hb0.size)
    have h11:=h1.below lD
    have Fq:=h2.below lD
    go_wp2_with fail
    refine(iu w1 vg g AG Qr.out).mono ?_
    rintro e w' ⟨rfl,rfl⟩
    go_wp2_with fail
    refine(fK w1 _ _ n g h11 AG hg0 HJ.out.1 ct).mono ?_
    rintro e w2 ⟨vn,vr,rfl,SA,_,hb2⟩
    have Az:=lD.trans (hb2.mono lD.size)
    have Rc:=h2.below Az
    have Mn:=AG.below hb2
    have Sj:=Mf.below hb2 sB
    have pC:=Nat.lt_of_lt_of_le sB hb2.size
    go_wp2_with fail
    refine(fK w2 _ _ d g Rc Mn hg0 HJ.out.2 ct).mono ?_
    rintro e w3 ⟨vd,WZ,rfl,Ns,_,hb3⟩
    have K6:=Az.trans (hb3.mono Az.size)
    have mS:=Sj.below hb3 pC
    have FI:=SA.below hb3
    go_wp2_with fail
    rw[ux.out]at Ns
    refine(gX w3 vd Ns).mono ?_
    rintro e w' ⟨rfl,rfl⟩
    obtain⟨A1,c1,rfl,_⟩:=id FI
    obtain⟨wf,HW,f0,f1,f2,dM⟩:=oB (q:=q) (neg:=neg) (Nat.le_refl _) K6 mS (by simp) (by simp) (by simp) HQ.out.2.2 (by rw[HQ.out.1]; exact FI) (A2:=none) (l2:=0) (c2:=0) (by rw[HQ.out.2.1,ux.out,jr]; exact aZ.zero _ _ _)
    have Lb:=bx HW
    have HF:=bx (And.intro f0 (And.intro f1 f2))
    clear HW f0 f1 f2
    have k0:=mS.c0
    have k1:=mS.c1
    have k2:=mS.c2
    have k3:=mS.fz 0
    have k4:=mS.fz 1
    have k5:=mS.fz 2
    go_wp2
    rw[Lb.out]
    obtain⟨f0,f1,f2⟩:=HF.out
    (try simp only[Exit.inBlock,Exit.then])
    refine bodyPost_ret (by simp[results,Tryz.results85,go_sem,f0,f1,f2]; try rfl) rfl ?_
    exact dM
   ·have Qr:=bx Ex
    have ux:=bx tT
    clear Ex tT
    go_enter Tryz.func85,Tryz.ntmps85
    go_wp2_with fail
    have hb0:=Below.alloc (Below.refl w.heap.size w) (Nat.le_refl _) (.cells #[.bool false,.slice none 0 0,.slice none 0 0] 54)
    have ho:=cE.new w (.bool false) (.slice none 0 0) (.slice none 0 0) 54
    have hlt:=gJ w (.cells #[.bool false,.slice none 0 0,.slice none 0 0] 54)
    generalize w.alloc (.cells #[.bool false,.slice none 0 0,.slice none 0 0] 54)=w0 at *
    refine(rf _ _ _ n d (h1.below hb0) (h2.below hb0) HJ.out.1 HJ.out.2 ct).mono ?_
    rintro e w1 ⟨vg,rfl,AG,hb1⟩
    rw[<-HG.out]at AG
    have Mf:=ho.below hb1 hlt
    have sB:=Nat.lt_of_lt_of_le hlt hb1.size
    have lD:=hb0.trans (hb1.mono hb0.size)
    have h11:=h1.below lD
    have Fq:=h2.below lD
    go_wp2_with fail
    refine(iu w1 vg g AG Qr.out).mono ?_
    rintro e w' ⟨rfl,rfl⟩
    go_wp2_with fail
    refine(fK w1 _ _ n g h11 AG hg0 HJ.out.1 ct).mono ?_
    rintro e w2 ⟨vn,vr,rfl,SA,_,hb2⟩
    have Az:=lD.trans (hb2.mono lD.size)
    have Rc:=h2.below Az
    have Mn:=AG.below hb2
    have Sj:=Mf.below hb2 sB
    have pC:=Nat.lt_of_lt_of_le sB hb2.size
    go_wp2_with fail
    refine(fK w2 _ _ d g Rc Mn hg0 HJ.out.2 ct).mono ?_
    rintro e w3 ⟨vd,WZ,rfl,Ns,_,hb3⟩
    have K6:=Az.trans (hb3.mono Az.size)
    have mS:=Sj.below hb3 pC
    have FI:=SA.below hb3
    go_wp2_with fail
    refine(iu w3 vd _ Ns ux.out).mono ?_
    rintro e w' ⟨rfl,rfl⟩
    obtain⟨A1,c1,rfl,_⟩:=id FI
    obtain⟨A2,c2,rfl,_⟩:=id Ns
    obtain⟨wf,HW,f0,f1,f2,dM⟩:=oB (q:=q) (neg:=neg) (Nat.le_refl _) K6 mS (by simp) (by simp) (by simp) HQ.out.2.2 (by rw[HQ.out.1]; exact FI) (by rw[HQ.out.2.1,kY ux.out]; exact Ns)
    have Lb:=bx HW
    have HF:=bx (And.intro f0 (And.intro f1 f2))
    clear HW f0 f1 f2
    have k0:=mS.c0
    have k1:=mS.c1
    have k2:=mS.c2
    have k3:=mS.fz 0
    have k4:=mS.fz 1
    have k5:=mS.fz 2
    go_wp2
    rw[Lb.out]
    obtain⟨f0,f1,f2⟩:=HF.out
    (try simp only[Exit.inBlock,Exit.then])
    refine bodyPost_ret (by simp[results,Tryz.results85,go_sem,f0,f1,f2]; try rfl) rfl ?_
    exact dM
end Wx
