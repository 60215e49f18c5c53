import Derived.Test.YtikkgpljpglnbaaGreatJRM9
import Derived.Test.YtikkgpljpglnbaaGreatJRM10
namespace Wx
set_option maxRecDepth 100000
set_option maxHeartbeats 1000000
open Go Go.RowKit Go.Proofs
def tO (w:World) (q r:Nat) (e:Ending) (w':World):Prop:=∃v1 v2,e=.returned (.tuple #[v1,v2])/\cz .u64 b64 w' v1 q/\cz .u64 b64 w' v2 r/\Below w.heap.size w w'
theorem vL (w:World) (v1 v2:Value) (m n:Nat) (h1:cz .u64 b64 w v1 m) (h2:cz .u64 b64 w v2 n) (hlt:m<n):
  Calls Tryz.prog 77 #[v1,v2] w (tO w (m/n) (m%n)):=by
 rw[Nat.div_eq_of_lt hlt,Nat.mod_eq_of_lt hlt]
 go_enter Tryz.func77,Tryz.ntmps77
 go_wp2_with fail
 refine(lS _ _ _ _ _ h1 h2).mono ?_
 rintro e w1 ⟨rfl,hb1⟩
 rw[show cW m n = -1 by unfold cW; rw[if_pos hlt]]
 have Bu:=h1.below hb1
 go_wp2
 go_ret2
 exact⟨_,_,rfl,cz.zero _ _ _,Bu,hb1⟩
variable {m n:Nat}
theorem zL (h:n<=m):∃z,cW m n=z/\¬(z<0):=⟨_,rfl,by unfold cW; rw[if_neg (by omega)]; split<;>omega⟩
theorem vP (w:World) (v1 v2:Value) (m n:Nat) (h1:cz .u64 b64 w v1 m) (h2:cz .u64 b64 w v2 n) (hle:n<=m) (h0:0<n) (hn:n<b64) {j:Nat} (hj:Bd j m) (fD:j<=1000000000):
  Calls Tryz.prog 77 #[v1,v2] w (tO w (m/n) (m%n)):=by
 obtain⟨z,hz,hz0⟩:=zL hle
 have HZ:=bx hz
 have hr:m%n<b64:=Nat.lt_trans (Nat.mod_lt m h0) hn
 have HR:=bx hr
 have HN:=bx hn
 clear hz hr hn
 have hc:=lS w v1 v2 m n h1 h2
 rw[HZ.out]at hc
 obtain⟨b,o,c,rfl,hcell⟩:=h2.one h0 HN.out
 go_enter Tryz.func77,Tryz.ntmps77
 go_wp2_with fail
 refine hc.mono ?_
 rintro e w1 ⟨rfl,hb1⟩
 have Bu:=h1.below hb1
 have hcell1:w1.cell? ⟨b,o,none⟩=some (.int .u64 (n:Int)):=by rw[hb1.cell (World.block_lt_of_cell? w _ hcell)]; exact hcell
 clear hc hcell
 go_wp2_with fail
 refine(xO w1 v1 m n Bu hj fD h0 HN.out).mono ?_
 rintro e w2 ⟨vq,rfl,hq,hb2⟩
 go_wp2_with fail
 refine(kr w2 (m%n) HR.out).mono ?_
 rintro e w3 ⟨vr,rfl,hr3,hb3⟩
 go_wp2
 go_ret2
 exact⟨_,_,rfl,hq.below hb3,hr3,(hb1.trans (hb2.mono hb1.size)).trans (hb3.mono (Nat.le_trans hb1.size hb2.size))⟩
theorem DB {T V Q:Nat} (hT:0<T) (h:V+Q*b64^0*(n*T)=m*T) (hlt:V<n*T):Q=m/n/\V/T=m%n/\V<=m*T:=by
 rw[Nat.pow_zero,Nat.mul_one]at h
 obtain⟨h1,h2⟩:=qp (m:=m*T) (d:=n*T) (q:=Q) (r:=V) (by omega) hlt
 rw[Nat.mul_div_mul_right _ _ hT]at h1
 rw[Nat.mul_mod_mul_right]at h2
 exact⟨h1.symm,by rw[<-h2,Nat.mul_div_cancel _ hT],by omega⟩
theorem Row.grown {w w':World} {k:IntKind} {e:TypeId} {g g':Nat} {l:List Nat} (h:Row w k e g l) (hg:w.grownBy w' (some g')) (hne:g'≠g):Row w' k e g l:=by
 obtain⟨rest,h1⟩:=h
 exact⟨rest,by rw[<-h1]; exact hg.block g (Row.lt ⟨rest,h1⟩) (by simp; omega)⟩
theorem fA (h:b64<=n):2<=(ak b64 n).length:=by
 rcases Nat.lt_or_ge (ak b64 n).length 2 with hl|hl
 ·have:=jO ai n
  have:b64^(ak b64 n).length<=b64^1:=Nat.pow_le_pow_right (by unfold b64; omega) (by omega)
  rw[Nat.pow_one]at this
  omega
 ·exact hl
theorem nA (h:n<=m):(ak b64 n).length<=(ak b64 m).length:=by
 rcases Nat.lt_or_ge (ak b64 m).length (ak b64 n).length with hl|hl
 ·have:=dA ai hl; omega
 ·exact hl
theorem vN (w:World) (v1 v2:Value) (m n:Nat) (h1:cz .u64 b64 w v1 m) (h2:cz .u64 b64 w v2 n) (hle:n<=m) (hn:b64<=n) {j:Nat} (hj:Bd j m) (fD:j<=100000000):
  Calls Tryz.prog 77 #[v1,v2] w (tO w (m/n) (m%n)):=by
 obtain⟨z,hz,hz0⟩:=zL hle
 have hc:=lS w v1 v2 m n h1 h2
 rw[hz]at hc
 clear hz
 have Ab:=fA hn
 have Ic:=lU ai n
 have hwn:=cI ai n
 obtain⟨B,d,rfl,hb⟩:=id h2
 obtain⟨bb,ob,tb,rfl,hcb,Oa⟩:=hb.get (i:=(ak b64 n).length-1) (by omega)
 have htb:0<tb:=by
  rcases Nat.eq_zero_or_pos tb with rfl|h
  ·exfalso; apply Ic
   rw[List.getLast?_eq_getElem?]; exact Oa.out
  ·exact h
 have MA:tb<b64:=hwn _ (List.mem_of_getElem? Oa.out)
 obtain⟨s,hs,hs1⟩:∃s,s=64-Lib.bitLen tb/\s<=64:=⟨_,rfl,by omega⟩
 have hbl:=hb.len
 have HS:=bx hs
 have QK:=bx (And.intro htb MA)
 have hNe:(((ak b64 n).length:Int)==1)=false:=beq_eq_false_iff_ne.2 (by omega)
 have SH:(0:Int)<=((ak b64 n).length:Int)-1:=by omega
 have NG:Bd (j+65) (m*2^s):=(hj.mul (show Bd 65 (2^s)from Nat.pow_lt_pow_right (by omega) (by omega)))
 have Rv:Bd j n:=hj.le hle
 have hmn:n*2^s<=m*2^s:=Nat.mul_le_mul_right _ hle
 have Rx:b64<=n*2^s:=Nat.le_trans hn (Nat.le_mul_of_pos_right n (Nat.two_pow_pos s))
 have HH:=bx (And.intro hmn Rx)
 have HJ:=bx (And.intro hj (And.intro Rv NG))
 clear hs htb MA hj Rv NG hmn Rx Ic hn hwn
 generalize hN:(ak b64 n).length=N at *
 clear hN
 go_enter Tryz.func77,Tryz.ntmps77
 go_wp2_with fail
 refine hc.mono ?_
 rintro e w1 ⟨rfl,hb1⟩
 have h11:=h1.below hb1
 have C8:=h2.below hb1
 have Pc:w1.cell? ⟨bb,ob+(N-1),none⟩=some (.int .u64 (tb:Int)):=by rw[hb1.cell (World.block_lt_of_cell? w _ hcb)]; exact hcb
 clear hc hcb h1 h2 hb
 go_wp2_with fail
 refine(MP tb QK.out.1 QK.out.2 w1).mono ?_
 rintro e w' ⟨rfl,rfl⟩
 rw[<-HS.out]
 go_wp2_with fail
 refine(wC w1 _ n s C8 HJ.out.2.1 (by omega) (by omega)).mono ?_
 rintro e w2 ⟨v,rfl,hv2,hb2⟩
 have h12:=h11.below hb2
 have ue:=hb1.trans (hb2.mono hb1.size)
 clear h11 C8 Pc hb1 hb2
 go_wp2_with fail
 have eB:=(Below.refl w2.heap.size w2).alloc (Nat.le_refl _) (.cells #[] 86)
 refine(wC _ _ m s (h12.below eB) HJ.out.1 (by omega) (by omega)).mono ?_
 rintro e w3 ⟨x,rfl,hx3,hb3⟩
 have H6:(w2.alloc (.cells #[] 86)).ownsRow w2.heap.size 86 1 (.slice (some ⟨w2.heap.size,0,none⟩) 0 0) 0 (en .u64 []):=World.ownsRow_made w2 #[] 0 (Nat.le_refl _) (Nat.zero_le _) rfl
 have Ad:=H6.kept (bP hb3 none) (.inr (by simp[Value.ownBlock]))
 have oH:Below w2.heap.size w2 w3:=eB.trans (hb3.mono eB.size)
 have hv3:=hv2.below oH
 have Sw:=h12.below oH
 clear H6 eB hb3 h12
 obtain⟨X,cx,rfl,P5⟩:=hx3
 have FW:(ak b64 (m*2^s)).length<=100000000:=by
  have:=mz HJ.out.2.2; omega
 have P4:=nA HH.out.1
 have PW:=fA HH.out.2
 obtain⟨V,cv,rfl,E5⟩:=hv2
 clear hv3
 have RF:=(zA.of E5).nB (bP oH none) (by intro g hg; cases hg)
 clear E5
 have LS:=bx (bI ai (n*2^s))
 have OZ:=cI ai (n*2^s)
 have Ro:=bx (lU ai (n*2^s))
 have Rq:=bx (bI ai (m*2^s))
 have O0:=cI ai (m*2^s)
 generalize ak b64 (n*2^s)=vl at *
 generalize ak b64 (m*2^s)=al at *
 obtain⟨bxx,ox,x0,rfl,Cq,_⟩:=P5.get (i:=0) (by omega)
 clear Cq
 go_upto_region 9 with(first
  |(at_builtin; refine rX _ rfl (.tmp 45) (.tmp 48) _ rfl .u64 86 w2.heap.size Tryz.underlying45 gV (.slice (some ⟨w2.heap.size,0,none⟩) 0 0) [] rfl Ad _ _ _ al _ rfl rfl P5 (by simp; omega) oH.size ?_; intro U4 A4 c4 w4 KD qI hg4)
  |(at_builtin; refine rX _ rfl (.tmp 49) (.tmp 50) _ rfl .u64 86 w2.heap.size Tryz.underlying45 gV (.slice A4 U4.length c4) U4 rfl (qI.alloc _) _ _ _ [0] 1 rfl rfl ((Row.new w4 .u64 86 [0]).gw (c:=1) (by simp) (by simp[maxLen])) (by rw[KD.out]; simp; omega) (by simp; have h5:=oH.size; have h6:=hg4.size; omega) ?_; intro U A5 c5 w5 K9 H7 Pr))
 have SM:U.length=al.length+1:=by rw[K9.out,KD.out]; simp
 have MD:=RF.nB hg4 (by intro g hg; simp[Value.ownBlock]at hg; omega)
 have Df:∀k,(Value.slice A4 U4.length c4).ownBlock=some k->w2.heap.size<=k:=λk hk=>(qI.lt k hk).1
 have ME:=(MD.nB (World.grownBy_alloc w4 _ none) (by intro g hg; cases hg)).nB Pr Df
 have Nv:Below w.heap.size w w4:=(ue.trans (oH.mono ue.size)).grown hg4 (Nat.le_trans ue.size oH.size) (by intro g hg; simp[Value.ownBlock]at hg; have:=ue.size; omega)
 have Nw:Below w.heap.size w w5:=(Nv.alloc Nv.size (.cells #[.int .u64 0] 86)).grown Pr (by have:=Nv.size; simp; omega) (by intro g hg; have:=Df g hg; have:=ue.size; omega)
 obtain⟨g,rfl,hgB,Ny,vX,OV⟩:=xh H7 (by omega)
 clear RF MD Df Nv hg4 Pr Ad qI H7 Sw P5
 have LQ:Bx (val b64 U+val b64 (List.drop (U.length-vl.length) (List.replicate (U.length-vl.length) 0))*b64^(U.length-vl.length)*(n*2^s)=m*2^s):=by
  refine bx ?_
  rw[List.drop_of_length_le (by simp),GO,Nat.zero_mul,Nat.zero_mul,Nat.add_zero,K9.out,KD.out,List.nil_append,gz,Rq.out]
  simp[val]
 have LL:Bx (val b64 (U.drop (U.length-vl.length))<n*2^s):=by
  refine bx ?_
  have e1:U.drop (U.length-vl.length)=(al.drop (U.length-vl.length))++[0]:=by
   rw[K9.out,KD.out,List.nil_append,List.drop_append_of_le_length (by simp; omega)]
  rw[e1,gz]
  have h1:=ia (O0.drop (U.length-vl.length))
  have h2:=jU ai (n:=n*2^s) (by have:=HH.out.2; unfold b64 at this; omega)
  have h3:(ak b64 (n*2^s)).length=vl.length:=by rw[<-LS.out,lW ai OZ Ro.out]
  rw[h3]at h2
  rw[List.length_drop,show al.length-(U.length-vl.length)=vl.length-1 by omega]at h1
  simp[val]
  omega
 have SQ:Wf b64 U:=by rw[K9.out,KD.out]; exact(Wf.append (Wf.nil _) O0).append (Wf.cons (by unfold b64; omega) (Wf.nil _))
 have SN:vl.length+1<=U.length:=by omega
 have SP:U.length<=100000001:=by omega
 clear KD K9 SM O0 Rq FW P4
 go_wp2_with (at_make; go_loud (refine dV _ rfl _ _ _ rfl .u64 86 Tryz.underlying45 gV _ _ rfl rfl (by omega) (by omega) (by omega) ?_); intro w6 hrow fC hsz)
 rw[show((U.length:Int)-(vl.length:Int)).toNat=U.length-vl.length by omega]at hrow
 rw[show decide (z<0)=false from decide_eq_false (by omega)]
 have LP:=Ny.keep fC
 have MF:=ME.nB (bP fC none) (by intro g hg; cases hg)
 have Rb:=Nw.trans (fC.mono Nw.size)
 have Ru:g≠w5.heap.size:=by have:=Ny.lt; omega
 generalize Rg:U.length-vl.length=Qn at *
 have N5:=bx Rg
 have hq1:(Qn:Int)<=100000001:=by omega
 have hcc:c5<=9223372036854775807:=by unfold maxLen at OV; omega
 have QC:=bx Ru
 have N7:=bx (And.intro Nw.size (show w2.heap.size<=w5.heap.size by have:=Ny.lt; omega))
 have N8:=bx (show w.heap.size<=g by have:=ue.size; omega)
 clear Ny ME Nw fC hsz Rg hz0 Ru Oa hNe SH hbl Ab ue oH
 go_loopw [13] (λQf wr=>∃(i:Nat) (M qs:List Nat),i<=Qn/\Qf=.int .i64 ((i:Int)-1)/\Bx (M.length=U.length)/\Wf b64 M/\Bx (qs.length=Qn)/\Wf b64 qs/\Row wr .u64 86 g M/\Row wr .u64 86 w5.heap.size qs/\zA wr w2.heap.size .u64 V cv vl/\Below w.heap.size w wr /\
   Bx (val b64 M+val b64 (qs.drop i)*b64^i*(n*2^s)=m*2^s)/\Bx (val b64 (M.drop i)<n*2^s)) (λQf _=>(RowKit.intOf Qf+1).toNat)
 case atStart=>exact⟨Qn,U,List.replicate Qn 0,Nat.le_refl _,rfl,bx rfl,SQ,bx (by simp),Wf.replicate (by unfold b64; omega) _,LP,hrow,MF,Rb,LQ,LL⟩
 case round=>
  clear LP hrow MF Rb LQ LL
  obtain⟨i,M,qs,hi,rfl,Cx,Dk,K8,RI,Ia,PO,E5,LI,dX,Ba⟩:=hrel
  rcases Nat.eq_zero_or_pos i with rfl|hpos
  ·rw[show(((0:Nat):Int)-1) = -1 by omega]
   go_wp2_with fail
   obtain⟨e1,e2,e3⟩:=DB (Nat.two_pow_pos s) dX.out Ba.out
   have E1:=bx e1
   have E2:=bx e2
   have E3:=bx (HJ.out.2.2.le e3)
   clear e1 e2 e3 hcc hq1
   refine(fL wr (some ⟨w5.heap.size,0,none⟩) Qn qs (m/n) (PO.gw (by rw[K8.out]; exact Nat.le_refl _) (by have:=N5.out; unfold maxLen; omega)) RI Qn K8.out E1.out).mono ?_
   rintro e w' ⟨rfl,vq,rfl,Tp⟩
   go_wp2_with fail
   refine(fL wr (some ⟨g,0,none⟩) c5 M _ (Ia.gw (by rw[Cx.out]; exact vX) OV) Dk U.length Cx.out rfl).mono ?_
   rintro e w' ⟨rfl,vM,rfl,To⟩
   go_wp2_with fail
   refine(B5 wr vM (val b64 M) s To E3.out (by omega) (by omega)).mono ?_
   rintro e wf ⟨vr,rfl,Ry,NA⟩
   go_wp2
   go_ret2
   rw[E2.out]at Ry
   exact⟨_,_,rfl,Tp.below NA,Ry,LI.trans (NA.mono LI.size)⟩
  ·obtain⟨k,rfl⟩:∃k,i=k+1:=⟨i-1,by omega⟩
   rw[show(((k+1:Nat):Int)-1)=(k:Int) by omega]
   have pA:(0:Int)<=(k:Int):=by omega
   have nk:(k:Int)<(Qn:Int):=by omega
   have hk2:(k:Int)+(vl.length:Int)+1<=(c5:Int):=by have:=N5.out; omega
   go_wp2_with fail
   have Mm:k+(vl.length+1)<=M.length:=by have:=N5.out; have:=Cx.out; omega
   have JE:=ot Mm Dk (V:=n*2^s) Ba.out
   rw[<-LS.out]at JE
   have L3:vl.length+1<=c5-k:=by omega
   rw[show k+vl.length+1-k=vl.length+1 by omega]
   have L4:c5-k<=maxLen:=Nat.le_trans (Nat.sub_le _ _) OV
   have MG:vl.length<=1000000000:=by omega
   refine(Bg wr w2.heap.size g k (c5-k) M vl V cv Ia Dk Mm L3 L4 E5 hgB OZ MG PW Ro.out JE).mono ?_
   clear JE L3
   rintro e wd ⟨rfl,hgd,M',Jv,PZ,PN,yw,hdr,oJ⟩
   have JM:=PO.grown hgd QC.out
   have PY:=E5.grown hgd hgB
   have OP:=LI.grown hgd LI.size (by intro g' sw; injection sw with sw; have:=N8.out; omega)
   obtain⟨l1,l2⟩:=BF Jv Mm (show n*2^s<b64^vl.length by rw[<-LS.out]; exact ia OZ) (by rw[K8.out]; omega) yw hdr (by rw[<-LS.out]; exact oJ) Ba.out dX.out
   rw[LS.out]
   have De:val b64 (win M k (vl.length+1))/(n*2^s)<b64:=by
    rw[Nat.div_lt_iff_lt_mul (by have:=Ba.out; omega),Nat.mul_comm]
    exact ot Mm Dk Ba.out
   have N2:=bx (Jv.trans Cx.out)
   generalize NJ:val b64 (win M k (vl.length+1))/(n*2^s)=qd at *
   have R1:=bx l1
   have R2:=bx l2
   have R9:=bx De
   clear L4 MG l1 l2 De NJ yw hdr oJ Jv Mm Ia PO E5 LI Dk Cx hgd dX Ba
   obtain⟨vo,EW,G6⟩:=JM.get (i:=k) (by have:=K8.out; omega)
   have zZ:=JM.frozen k
   go_wp2
   go_roundw
   case rel=>
    exact⟨k,M',qs.set k qd,by omega,by go_num,N2,PZ,bx (by rw[List.length_set]; exact K8.out),RI.set R9.out,PN.KM (by simpa using QC.out) _,JM.set _ _,PY.nB (sY _ _ _ _) (by intro g' sw; injection sw with sw; have:=N7.out.2; omega),OP.setCell N7.out.1 _,R1,R2⟩
   case measure=>simp[RowKit.intOf]
theorem eJ (w:World) (v1 v2:Value) (m n:Nat) (h1:cz .u64 b64 w v1 m) (h2:cz .u64 b64 w v2 n) (h0:0<n) {j:Nat} (hj:Bd j m) (fD:j<=100000000):
  Calls Tryz.prog 77 #[v1,v2] w (tO w (m/n) (m%n)):=by
 rcases Nat.lt_or_ge m n with hlt|hge
 ·exact vL w v1 v2 m n h1 h2 hlt
 ·rcases Nat.lt_or_ge n b64 with hn|hn
  ·exact vP w v1 v2 m n h1 h2 hge h0 hn hj (by omega)
  ·exact vN w v1 v2 m n h1 h2 hge hn hj fD
end Wx

namespace Wx
set_option maxHeartbeats 1000000
open Go Go.RowKit Go.Proofs
variable {w:World} {k:IntKind}
theorem Rd.inj {A:Option Addr} {c c':Nat} {l r:List Nat} (h:Rd w k A c l) (g:Rd w k A c' r) (hl:l.length=r.length):l=r:=by
 apply List.ext_getElem hl
 intro i h1 h2
 obtain⟨b,o,e,hc⟩:=h.at_ (i:=i) h1
 obtain⟨b',o',e',hc'⟩:=g.at_ (i:=i) h2
 rw[e]at e'
 injection e' with e'
 injection e' with e1 e2
 subst e1 e2
 rw[hc]at hc'
 injection hc' with hc'
 injection hc' with _ hc'
 rw[List.getD_eq_getElem?_getD,List.getD_eq_getElem?_getD,List.getElem?_eq_getElem h1,List.getElem?_eq_getElem h2]at hc'
 simp only[Option.getD_some]at hc'
 omega
variable {v:Value} {n:Nat}
theorem cz.inj {m:Nat} (h:cz k b64 w v m) (g:cz k b64 w v n):m=n:=by
 obtain⟨A,c,rfl,hr⟩:=h
 obtain⟨A',c',e,gr⟩:=g
 injection e with e1 e2 e3
 subst e1
 exact CV ai (hr.inj gr e2)
open Classical in
noncomputable def numOf (w:World) (v:Value):Nat:=if h:∃n,cz .u64 b64 w v n then choose h else 0
theorem cz.of_eq (h:cz .u64 b64 w v n):numOf w v=n:=by
 have hx:∃n,cz .u64 b64 w v n:=⟨n,h⟩
 unfold numOf
 rw[dif_pos hx]
 exact(Classical.choose_spec hx).inj h
theorem lD (h:n<b64):(ak b64 n).length<=1:=dY ai (by simpa using h)
theorem rT (h:¬n<b64):2<=(ak b64 n).length:=fA (by omega)
theorem pq (w:World) (v1 v2:Value) (m n:Nat) (h1:cz .u64 b64 w v1 m) (h2:cz .u64 b64 w v2 n) {j:Nat} (hj:Bd j m) (hk:Bd j n) (fD:j<=100000000):
  Calls Tryz.prog 76 #[v1,v2] w (gQ .u64 b64 w (Nat.gcd m n)):=by
 have HX:=bx (And.intro hj hk)
 clear hj hk
 obtain⟨G,hG⟩:∃G,G=Nat.gcd m n:=⟨_,rfl⟩
 rw[<-hG]
 have HG:=bx hG
 clear hG
 go_enter Tryz.func76,Tryz.ntmps76
 go_wp2_with fail
 go_loopw [0,1] (λs0 s1 wr=>∃x y:Nat,cz .u64 b64 wr s0 x/\cz .u64 b64 wr s1 y/\Bx (G=Nat.gcd x y)/\Bx (Bd j x/\Bd j y)/\Below w.heap.size w wr) (λ_ s1 wr=>numOf wr s1)
 case atStart=>exact⟨_,_,h1,h2,HG,HX,Below.refl _ _⟩
 case round=>
  clear h1 h2 HG HX
  obtain⟨x,y,hx,hy,HG,HX,hb⟩:=hrel
  rcases Nat.eq_zero_or_pos y with rfl|hy0
  ·obtain⟨A,c,rfl,hr⟩:=id hy
   rw[bf]at hr ⊢
   go_wp2
   go_ret
   exact⟨_,rfl,by rw[HG.out,Nat.gcd_zero_right]; exact hx,hb⟩
  ·obtain⟨A,c,rfl,hr⟩:=id hx
   obtain⟨B,d,rfl,hs⟩:=id hy
   have Aa:(1:Int)<=((ak b64 y).length:Int):=by have:=(aU (n:=y) ai).2 hy0; omega
   by_cases hx1:x<b64
   ·by_cases uP:y<b64
    ·have a1:((ak b64 x).length:Int)<=1:=by have:=lD hx1; omega
     have a2:((ak b64 y).length:Int)<=1:=by have:=lD uP; omega
     have Se:=bx hx1
     have QM:=bx uP
     have ER:=bx hy0
     clear hx1 uP hy0
     go_wp2_with fail
     refine(Cc wr _ _ x y hx hy Se.out QM.out ER.out).mono ?_
     rintro e w2 ⟨rfl,hb2⟩
     go_wp2_with fail
     refine(kr w2 _ (Nat.lt_of_le_of_lt (Nat.gcd_le_right x ER.out) QM.out)).mono ?_
     rintro e w3 ⟨vr,rfl,hr3,hb3⟩
     go_wp2
     go_ret
     exact⟨_,rfl,by rw[HG.out]; exact hr3,(hb.trans (hb2.mono hb.size)).trans (hb3.mono (Nat.le_trans hb.size hb2.size))⟩
    ·have a1:((ak b64 x).length:Int)<=1:=by have:=lD hx1; omega
     have a2:(2:Int)<=((ak b64 y).length:Int):=by have:=rT uP; omega
     have ER:=bx hy0
     clear hx1 uP hy0
     go_wp2_with fail
     refine(eJ wr _ _ x y hx hy ER.out HX.out.1 fD).mono ?_
     rintro e w2 ⟨vq,vr,rfl,hq,hr2,hb2⟩
     have MH:=hy.below hb2
     go_wp2
     go_roundw
     case rel=>exact⟨y,x%y,MH,hr2,bx (by rw[HG.out,Nat.gcd_comm x y,Nat.gcd_rec y x,Nat.gcd_comm]),bx ⟨HX.out.2,HX.out.2.le (Nat.le_of_lt (Nat.mod_lt _ ER.out))⟩,hb.trans (hb2.mono hb.size)⟩
     case measure=>rw[hr2.of_eq,hy.of_eq]; exact Nat.mod_lt _ ER.out
   ·have a1:(2:Int)<=((ak b64 x).length:Int):=by have:=rT hx1; omega
    have ER:=bx hy0
    clear hx1 hy0
    go_wp2_with fail
    refine(eJ wr _ _ x y hx hy ER.out HX.out.1 fD).mono ?_
    rintro e w2 ⟨vq,vr,rfl,hq,hr2,hb2⟩
    have MH:=hy.below hb2
    go_wp2
    go_roundw
    case rel=>exact⟨y,x%y,MH,hr2,bx (by rw[HG.out,Nat.gcd_comm x y,Nat.gcd_rec y x,Nat.gcd_comm]),bx ⟨HX.out.2,HX.out.2.le (Nat.le_of_lt (Nat.mod_lt _ ER.out))⟩,hb.trans (hb2.mono hb.size)⟩
    case measure=>rw[hr2.of_eq,hy.of_eq]; exact Nat.mod_lt _ ER.out
end Wx
