import Derived.Test.YtadigiledciihaaGreatJRR9
import Derived.Test.YtadigiledciihaaGreatJRR10
namespace Wx
set_option maxRecDepth 100000
set_option maxHeartbeats 1000000
open Go Go.RowKit Go.Proofs
def uh (w:World) (q r:Nat) (e:Ending) (w':World):Prop:=∃v1 v2,e=.returned (.tuple #[v1,v2])/\aY .u64 b64 w' v1 q/\aY .u64 b64 w' v2 r/\Below w.heap.size w w'
theorem wH (w:World) (v1 v2:Value) (m n:Nat) (h1:aY .u64 b64 w v1 m) (h2:aY .u64 b64 w v2 n) (hlt:m<n):
  Calls Tryz.prog 116 #[v1,v2] w (uh w (m/n) (m%n)):=by
 rw[Nat.div_eq_of_lt hlt,Nat.mod_eq_of_lt hlt]
 go_enter Tryz.func116,Tryz.ntmps116
 go_wp2_with fail
 refine(lK _ _ _ _ _ h1 h2).mono ?_
 rintro e w1 ⟨rfl,hb1⟩
 rw[show bf m n = -1 by unfold bf; rw[if_pos hlt]]
 have Bz:=h1.below hb1
 go_wp2
 go_ret2
 exact⟨_,_,rfl,aY.zero _ _ _,Bz,hb1⟩
variable {m n:Nat}
theorem uv (h:n<=m):∃z,bf m n=z/\¬(z<0):=⟨_,rfl,by unfold bf; rw[if_neg (by omega)]; split<;>omega⟩
theorem wJ (w:World) (v1 v2:Value) (m n:Nat) (h1:aY .u64 b64 w v1 m) (h2:aY .u64 b64 w v2 n) (hle:n<=m) (h0:0<n) (hn:n<b64) {j:Nat} (hj:Bd j m) (cQ:j<=1000000000):
  Calls Tryz.prog 116 #[v1,v2] w (uh w (m/n) (m%n)):=by
 obtain⟨z,hz,hz0⟩:=uv hle
 have HZ:=bx hz
 have hr:m%n<b64:=Nat.lt_trans (Nat.mod_lt m h0) hn
 have HR:=bx hr
 have HN:=bx hn
 clear hz hr hn
 have hc:=lK w v1 v2 m n h1 h2
 rw[HZ.out]at hc
 obtain⟨b,o,c,rfl,hcell⟩:=h2.one h0 HN.out
 go_enter Tryz.func116,Tryz.ntmps116
 go_wp2_with fail
 refine hc.mono ?_
 rintro e w1 ⟨rfl,hb1⟩
 have Bz:=h1.below hb1
 have hcell1:w1.cell? ⟨b,o,none⟩=some (.int .u64 (n:Int)):=by rw[hb1.cell (World.block_lt_of_cell? w _ hcell)]; exact hcell
 clear hc hcell
 go_wp2_with fail
 refine(yw w1 v1 m n Bz hj cQ h0 HN.out).mono ?_
 rintro e w2 ⟨vq,rfl,hq,hb2⟩
 go_wp2_with fail
 refine(lG w2 (m%n) HR.out).mono ?_
 rintro e w3 ⟨vr,rfl,hr3,hb3⟩
 go_wp2
 go_ret2
 exact⟨_,_,rfl,hq.below hb3,hr3,(hb1.trans (hb2.mono hb1.size)).trans (hb3.mono (Nat.le_trans hb1.size hb2.size))⟩
theorem DU {T V Q:Nat} (hT:0<T) (h:V+Q*b64^0*(n*T)=m*T) (hlt:V<n*T):Q=m/n/\V/T=m%n/\V<=m*T:=by
 rw[Nat.pow_zero,Nat.mul_one]at h
 obtain⟨h1,h2⟩:=jx (m:=m*T) (d:=n*T) (q:=Q) (r:=V) (by omega) hlt
 rw[Nat.mul_div_mul_right _ _ hT]at h1
 rw[Nat.mul_mod_mul_right]at h2
 exact⟨h1.symm,by rw[<-h2,Nat.mul_div_cancel _ hT],by omega⟩
theorem Row.grown {w w':World} {k:IntKind} {e:TypeId} {g g':Nat} {l:List Nat} (h:Row w k e g l) (hg:w.grownBy w' (some g')) (hne:g'≠g):Row w' k e g l:=by
 obtain⟨rest,h1⟩:=h
 exact⟨rest,by rw[<-h1]; exact hg.block g (Row.lt ⟨rest,h1⟩) (by simp; omega)⟩
theorem gh (h:b64<=n):2<=(ae b64 n).length:=by
 rcases Nat.lt_or_ge (ae b64 n).length 2 with hl|hl
 ·have:=iu ah n
  have:b64^(ae b64 n).length<=b64^1:=Nat.pow_le_pow_right (by unfold b64; omega) (by omega)
  rw[Nat.pow_one]at this
  omega
 ·exact hl
theorem oo (h:n<=m):(ae b64 n).length<=(ae b64 m).length:=by
 rcases Nat.lt_or_ge (ae b64 m).length (ae b64 n).length with hl|hl
 ·have:=bV ah hl; omega
 ·exact hl
theorem wI (w:World) (v1 v2:Value) (m n:Nat) (h1:aY .u64 b64 w v1 m) (h2:aY .u64 b64 w v2 n) (hle:n<=m) (hn:b64<=n) {j:Nat} (hj:Bd j m) (cQ:j<=100000000):
  Calls Tryz.prog 116 #[v1,v2] w (uh w (m/n) (m%n)):=by
 obtain⟨z,hz,hz0⟩:=uv hle
 have hc:=lK w v1 v2 m n h1 h2
 rw[hz]at hc
 clear hz
 have Dt:=gh hn
 have Iw:=jb ah n
 have hwn:=bq ah n
 obtain⟨B,d,rfl,hb⟩:=id h2
 obtain⟨bb,ob,tb,rfl,hcb,Oa⟩:=hb.get (i:=(ae b64 n).length-1) (by omega)
 have htb:0<tb:=by
  rcases Nat.eq_zero_or_pos tb with rfl|h
  ·exfalso; apply Iw
   rw[List.getLast?_eq_getElem?]; exact Oa.out
  ·exact h
 have MD:tb<b64:=hwn _ (List.mem_of_getElem? Oa.out)
 obtain⟨s,hs,hs1⟩:∃s,s=64-Lib.bitLen tb/\s<=64:=⟨_,rfl,by omega⟩
 have hbl:=hb.len
 have HS:=bx hs
 have Q8:=bx (And.intro htb MD)
 have hNe:(((ae b64 n).length:Int)==1)=false:=beq_eq_false_iff_ne.2 (by omega)
 have S6:(0:Int)<=((ae b64 n).length:Int)-1:=by omega
 have NI:Bd (j+65) (m*2^s):=(hj.mul (show Bd 65 (2^s)from Nat.pow_lt_pow_right (by omega) (by omega)))
 have RH:Bd j n:=hj.le hle
 have hmn:n*2^s<=m*2^s:=Nat.mul_le_mul_right _ hle
 have RI:b64<=n*2^s:=Nat.le_trans hn (Nat.le_mul_of_pos_right n (Nat.two_pow_pos s))
 have HH:=bx (And.intro hmn RI)
 have HJ:=bx (And.intro hj (And.intro RH NI))
 clear hs htb MD hj RH NI hmn RI Iw hn hwn
 generalize hN:(ae b64 n).length=N at *
 clear hN
 go_enter Tryz.func116,Tryz.ntmps116
 go_wp2_with fail
 refine hc.mono ?_
 rintro e w1 ⟨rfl,hb1⟩
 have h11:=h1.below hb1
 have Dj:=h2.below hb1
 have Pg:w1.cell? ⟨bb,ob+(N-1),none⟩=some (.int .u64 (tb:Int)):=by rw[hb1.cell (World.block_lt_of_cell? w _ hcb)]; exact hcb
 clear hc hcb h1 h2 hb
 go_wp2_with fail
 refine(MS tb Q8.out.1 Q8.out.2 w1).mono ?_
 rintro e w' ⟨rfl,rfl⟩
 rw[<-HS.out]
 go_wp2_with fail
 refine(xg w1 _ n s Dj HJ.out.2.1 (by omega) (by omega)).mono ?_
 rintro e w2 ⟨v,rfl,hv2,hb2⟩
 have h12:=h11.below hb2
 have uB:=hb1.trans (hb2.mono hb1.size)
 clear h11 Dj Pg hb1 hb2
 go_wp2_with fail
 have fZ:=(Below.refl w2.heap.size w2).alloc (Nat.le_refl _) (.cells #[] 108)
 refine(xg _ _ m s (h12.below fZ) HJ.out.1 (by omega) (by omega)).mono ?_
 rintro e w3 ⟨x,rfl,hx3,hb3⟩
 have Io:(w2.alloc (.cells #[] 108)).ownsRow w2.heap.size 108 1 (.slice (some ⟨w2.heap.size,0,none⟩) 0 0) 0 (er .u64 []):=World.ownsRow_made w2 #[] 0 (Nat.le_refl _) (Nat.zero_le _) rfl
 have Ao:=Io.kept (bZ hb3 none) (.inr (by simp[Value.ownBlock]))
 have pC:Below w2.heap.size w2 w3:=fZ.trans (hb3.mono fZ.size)
 have hv3:=hv2.below pC
 have SY:=h12.below pC
 clear Io fZ hb3 h12
 obtain⟨X,cx,rfl,Qj⟩:=hx3
 have NM:(ae b64 (m*2^s)).length<=100000000:=by
  have:=nA HJ.out.2.2; omega
 have Qi:=oo HH.out.1
 have Qb:=gh HH.out.2
 obtain⟨V,cv,rfl,Fs⟩:=hv2
 clear hv3
 have RS:=(zR.of Fs).ot (bZ pC none) (by intro g hg; cases hg)
 clear Fs
 have LU:=bx (aU ah (n*2^s))
 have O0:=bq ah (n*2^s)
 have Ry:=bx (jb ah (n*2^s))
 have RA:=bx (aU ah (m*2^s))
 have O1:=bq ah (m*2^s)
 generalize ae b64 (n*2^s)=vl at *
 generalize ae b64 (m*2^s)=al at *
 obtain⟨bxx,ox,x0,rfl,tB,_⟩:=Qj.get (i:=0) (by omega)
 clear tB
 go_upto_region 9 with(first
  |(at_builtin; refine mN _ rfl (.tmp 45) (.tmp 48) _ rfl .u64 108 w2.heap.size Tryz.underlying52 iO (.slice (some ⟨w2.heap.size,0,none⟩) 0 0) [] rfl Ao _ _ _ al _ rfl rfl Qj (by simp; omega) pC.size ?_; intro U4 A4 c4 w4 KP ni hg4)
  |(at_builtin; refine mN _ rfl (.tmp 49) (.tmp 50) _ rfl .u64 108 w2.heap.size Tryz.underlying52 iO (.slice A4 U4.length c4) U4 rfl (ni.alloc _) _ _ _ [0] 1 rfl rfl ((Row.new w4 .u64 108 [0]).dO (c:=1) (by simp) (by simp[maxLen])) (by rw[KP.out]; simp; omega) (by simp; have h5:=pC.size; have h6:=hg4.size; omega) ?_; intro U A5 c5 w5 Lf Ip Py))
 have Tb:U.length=al.length+1:=by rw[Lf.out,KP.out]; simp
 have ME:=RS.ot hg4 (by intro g hg; simp[Value.ownBlock]at hg; omega)
 have Dw:∀k,(Value.slice A4 U4.length c4).ownBlock=some k->w2.heap.size<=k:=λk hk=>(ni.lt k hk).1
 have MF:=(ME.ot (World.grownBy_alloc w4 _ none) (by intro g hg; cases hg)).ot Py Dw
 have FV:Below w.heap.size w w4:=(uB.trans (pC.mono uB.size)).grown hg4 (Nat.le_trans uB.size pC.size) (by intro g hg; simp[Value.ownBlock]at hg; have:=uB.size; omega)
 have Nz:Below w.heap.size w w5:=(FV.alloc FV.size (.cells #[.int .u64 0] 108)).grown Py (by have:=FV.size; simp; omega) (by intro g hg; have:=Dw g hg; have:=uB.size; omega)
 obtain⟨g,rfl,hgB,NB,ya,OW⟩:=xP Ip (by omega)
 clear RS ME Dw FV hg4 Py Ao ni Ip SY Qj
 have LR:Bx (val b64 U+val b64 (List.drop (U.length-vl.length) (List.replicate (U.length-vl.length) 0))*b64^(U.length-vl.length)*(n*2^s)=m*2^s):=by
  refine bx ?_
  rw[List.drop_of_length_le (by simp),A6,Nat.zero_mul,Nat.zero_mul,Nat.add_zero,Lf.out,KP.out,List.nil_append,fF,RA.out]
  simp[val]
 have LL:Bx (val b64 (U.drop (U.length-vl.length))<n*2^s):=by
  refine bx ?_
  have e1:U.drop (U.length-vl.length)=(al.drop (U.length-vl.length))++[0]:=by
   rw[Lf.out,KP.out,List.nil_append,List.drop_append_of_le_length (by simp; omega)]
  rw[e1,fF]
  have h1:=eE (O1.drop (U.length-vl.length))
  have h2:=lu ah (n:=n*2^s) (by have:=HH.out.2; unfold b64 at this; omega)
  have h3:(ae b64 (n*2^s)).length=vl.length:=by rw[<-LU.out,kI ah O0 Ry.out]
  rw[h3]at h2
  rw[List.length_drop,show al.length-(U.length-vl.length)=vl.length-1 by omega]at h1
  simp[val]
  omega
 have Te:Wf b64 U:=by rw[Lf.out,KP.out]; exact(Wf.append (Wf.nil _) O1).append (Wf.cons (by unfold b64; omega) (Wf.nil _))
 have Tc:vl.length+1<=U.length:=by omega
 have Td:U.length<=100000001:=by omega
 clear KP Lf Tb O1 RA NM Qi
 go_wp2_with (at_make; go_loud (refine bW _ rfl _ _ _ rfl .u64 108 Tryz.underlying52 iO _ _ rfl rfl (by omega) (by omega) (by omega) ?_); intro w6 hrow bT hsz)
 rw[show((U.length:Int)-(vl.length:Int)).toNat=U.length-vl.length by omega]at hrow
 rw[show decide (z<0)=false from decide_eq_false (by omega)]
 have LP:=NB.keep bT
 have MG:=MF.ot (bZ bT none) (by intro g hg; cases hg)
 have Rk:=Nz.trans (bT.mono Nz.size)
 have RF:g≠w5.heap.size:=by have:=NB.lt; omega
 generalize Rp:U.length-vl.length=Qn at *
 have N5:=bx Rp
 have hq1:(Qn:Int)<=100000001:=by omega
 have hcc:c5<=9223372036854775807:=by unfold maxLen at OW; omega
 have QY:=bx RF
 have N7:=bx (And.intro Nz.size (show w2.heap.size<=w5.heap.size by have:=NB.lt; omega))
 have N8:=bx (show w.heap.size<=g by have:=uB.size; omega)
 clear NB MF Nz bT hsz Rp hz0 RF Oa hNe S6 hbl Dt uB pC
 go_loopw [13] (λQw wr=>∃(i:Nat) (M qs:List Nat),i<=Qn/\Qw=.int .i64 ((i:Int)-1)/\Bx (M.length=U.length)/\Wf b64 M/\Bx (qs.length=Qn)/\Wf b64 qs/\Row wr .u64 108 g M/\Row wr .u64 108 w5.heap.size qs/\zR wr w2.heap.size .u64 V cv vl/\Below w.heap.size w wr /\
   Bx (val b64 M+val b64 (qs.drop i)*b64^i*(n*2^s)=m*2^s)/\Bx (val b64 (M.drop i)<n*2^s)) (λQw _=>(intOf Qw+1).toNat)
 case atStart=>exact⟨Qn,U,List.replicate Qn 0,Nat.le_refl _,rfl,bx rfl,Te,bx (by simp),Wf.replicate (by unfold b64; omega) _,LP,hrow,MG,Rk,LR,LL⟩
 case round=>
  clear LP hrow MG Rk LR LL
  obtain⟨i,M,qs,hi,rfl,CN,DA,Lc,Ga,Iu,P5,Fs,LK,bY,Bc⟩:=hrel
  rcases Nat.eq_zero_or_pos i with rfl|hpos
  ·rw[show(((0:Nat):Int)-1) = -1 by omega]
   go_wp2_with fail
   obtain⟨e1,e2,e3⟩:=DU (Nat.two_pow_pos s) bY.out Bc.out
   have E1:=bx e1
   have E2:=bx e2
   have E3:=bx (HJ.out.2.2.le e3)
   clear e1 e2 e3 hcc hq1
   refine(gA wr (some ⟨w5.heap.size,0,none⟩) Qn qs (m/n) (P5.dO (by rw[Lc.out]; exact Nat.le_refl _) (by have:=N5.out; unfold maxLen; omega)) Ga Qn Lc.out E1.out).mono ?_
   rintro e w' ⟨rfl,vq,rfl,TH⟩
   go_wp2_with fail
   refine(gA wr (some ⟨g,0,none⟩) c5 M _ (Iu.dO (by rw[CN.out]; exact ya) OW) DA U.length CN.out rfl).mono ?_
   rintro e w' ⟨rfl,vM,rfl,TG⟩
   go_wp2_with fail
   refine(Cm wr vM (val b64 M) s TG E3.out (by omega) (by omega)).mono ?_
   rintro e wf ⟨vr,rfl,RJ,ND⟩
   go_wp2
   go_ret2
   rw[E2.out]at RJ
   exact⟨_,_,rfl,TH.below ND,RJ,LK.trans (ND.mono LK.size)⟩
  ·obtain⟨k,rfl⟩:∃k,i=k+1:=⟨i-1,by omega⟩
   rw[show(((k+1:Nat):Int)-1)=(k:Int) by omega]
   have yb:(0:Int)<=(k:Int):=by omega
   have kT:(k:Int)<(Qn:Int):=by omega
   have hk2:(k:Int)+(vl.length:Int)+1<=(c5:Int):=by have:=N5.out; omega
   go_wp2_with fail
   have Mk:k+(vl.length+1)<=M.length:=by have:=N5.out; have:=CN.out; omega
   have JW:=o8 Mk DA (V:=n*2^s) Bc.out
   rw[<-LU.out]at JW
   have L3:vl.length+1<=c5-k:=by omega
   rw[show k+vl.length+1-k=vl.length+1 by omega]
   have L5:c5-k<=maxLen:=Nat.le_trans (Nat.sub_le _ _) OW
   have MH:vl.length<=1000000000:=by omega
   refine(Bj wr w2.heap.size g k (c5-k) M vl V cv Iu DA Mk L3 L5 Fs hgB O0 MH Qb Ry.out JW).mono ?_
   clear JW L3
   rintro e wd ⟨rfl,hgd,M',JJ,Qe,P4,yR,hdr,pE⟩
   have J4:=P5.grown hgd QY.out
   have Qd:=Fs.grown hgd hgB
   have OQ:=LK.grown hgd LK.size (by intro g' uF; injection uF with uF; have:=N8.out; omega)
   obtain⟨l1,l2⟩:=BU JJ Mk (show n*2^s<b64^vl.length by rw[<-LU.out]; exact eE O0) (by rw[Lc.out]; omega) yR hdr (by rw[<-LU.out]; exact pE) Bc.out bY.out
   rw[LU.out]
   have Dv:val b64 (win M k (vl.length+1))/(n*2^s)<b64:=by
    rw[Nat.div_lt_iff_lt_mul (by have:=Bc.out; omega),Nat.mul_comm]
    exact o8 Mk DA Bc.out
   have N2:=bx (JJ.trans CN.out)
   generalize NL:val b64 (win M k (vl.length+1))/(n*2^s)=qd at *
   have Si:=bx l1
   have Sj:=bx l2
   have Ss:=bx Dv
   clear L5 MH l1 l2 Dv NL yR hdr pE JJ Mk Iu P5 Fs LK DA CN hgd bY Bc
   obtain⟨vo,Aj,CD⟩:=J4.get (i:=k) (by have:=Lc.out; omega)
   have su:=J4.frozen k
   go_wp2
   go_roundw
   case rel=>
    exact⟨k,M',qs.set k qd,by omega,by go_num,N2,Qe,bx (by rw[List.length_set]; exact Lc.out),Ga.set Ss.out,P4.FO (by simpa using QY.out) _,J4.set _ _,Qd.ot (tA _ _ _ _) (by intro g' uF; injection uF with uF; have:=N7.out.2; omega),OQ.setCell N7.out.1 _,Si,Sj⟩
   case measure=>simp[intOf]
theorem fA (w:World) (v1 v2:Value) (m n:Nat) (h1:aY .u64 b64 w v1 m) (h2:aY .u64 b64 w v2 n) (h0:0<n) {j:Nat} (hj:Bd j m) (cQ:j<=100000000):
  Calls Tryz.prog 116 #[v1,v2] w (uh w (m/n) (m%n)):=by
 rcases Nat.lt_or_ge m n with hlt|hge
 ·exact wH w v1 v2 m n h1 h2 hlt
 ·rcases Nat.lt_or_ge n b64 with hn|hn
  ·exact wJ w v1 v2 m n h1 h2 hge h0 hn hj (by omega)
  ·exact wI w v1 v2 m n h1 h2 hge hn hj cQ
end Wx

namespace Wx
set_option maxHeartbeats 1000000
open Go Go.RowKit Go.Proofs
variable {w:World} {k:IntKind}
theorem Rd.inj {A:Option Addr} {c c':Nat} {l r:List Nat} (h:Rd w k A c l) (g:Rd w k A c' r) (hl:l.length=r.length):l=r:=by
 apply List.ext_getElem hl
 intro i h1 h2
 obtain⟨b,o,e,hc⟩:=h.at_ (i:=i) h1
 obtain⟨b',o',e',hc'⟩:=g.at_ (i:=i) h2
 rw[e]at e'
 injection e' with e'
 injection e' with e1 e2
 subst e1 e2
 rw[hc]at hc'
 injection hc' with hc'
 injection hc' with _ hc'
 rw[List.getD_eq_getElem?_getD,List.getD_eq_getElem?_getD,List.getElem?_eq_getElem h1,List.getElem?_eq_getElem h2]at hc'
 simp only[Option.getD_some]at hc'
 omega
variable {v:Value} {n:Nat}
theorem aY.inj {m:Nat} (h:aY k b64 w v m) (g:aY k b64 w v n):m=n:=by
 obtain⟨A,c,rfl,hr⟩:=h
 obtain⟨A',c',e,gr⟩:=g
 injection e with e1 e2 e3
 subst e1
 exact wE ah (hr.inj gr e2)
open Classical in
noncomputable def numOf (w:World) (v:Value):Nat:=if h:∃n,aY .u64 b64 w v n then choose h else 0
theorem aY.of_eq (h:aY .u64 b64 w v n):numOf w v=n:=by
 have hx:∃n,aY .u64 b64 w v n:=⟨n,h⟩
 unfold numOf
 rw[dif_pos hx]
 exact(Classical.choose_spec hx).inj h
theorem mE (h:n<b64):(ae b64 n).length<=1:=eX ah (by simpa using h)
theorem sj (h:¬n<b64):2<=(ae b64 n).length:=gh (by omega)
theorem p9 (w:World) (v1 v2:Value) (m n:Nat) (h1:aY .u64 b64 w v1 m) (h2:aY .u64 b64 w v2 n) {j:Nat} (hj:Bd j m) (hk:Bd j n) (cQ:j<=100000000):
  Calls Tryz.prog 115 #[v1,v2] w (dN .u64 b64 w (Nat.gcd m n)):=by
 have HX:=bx (And.intro hj hk)
 clear hj hk
 obtain⟨G,hG⟩:∃G,G=Nat.gcd m n:=⟨_,rfl⟩
 rw[<-hG]
 have HG:=bx hG
 clear hG
 go_enter Tryz.func115,Tryz.ntmps115
 go_wp2_with fail
 go_loopw [0,1] (λs0 s1 wr=>∃x y:Nat,aY .u64 b64 wr s0 x/\aY .u64 b64 wr s1 y/\Bx (G=Nat.gcd x y)/\Bx (Bd j x/\Bd j y)/\Below w.heap.size w wr) (λ_ s1 wr=>numOf wr s1)
 case atStart=>exact⟨_,_,h1,h2,HG,HX,Below.refl _ _⟩
 case round=>
  clear h1 h2 HG HX
  obtain⟨x,y,hx,hy,HG,HX,hb⟩:=hrel
  rcases Nat.eq_zero_or_pos y with rfl|hy0
  ·obtain⟨A,c,rfl,hr⟩:=id hy
   rw[aZ]at hr ⊢
   go_wp2
   go_ret
   exact⟨_,rfl,by rw[HG.out,Nat.gcd_zero_right]; exact hx,hb⟩
  ·obtain⟨A,c,rfl,hr⟩:=id hx
   obtain⟨B,d,rfl,hs⟩:=id hy
   have tD:(1:Int)<=((ae b64 y).length:Int):=by have:=(aD (n:=y) ah).2 hy0; omega
   by_cases hx1:x<b64
   ·by_cases sA:y<b64
    ·have a1:((ae b64 x).length:Int)<=1:=by have:=mE hx1; omega
     have a2:((ae b64 y).length:Int)<=1:=by have:=mE sA; omega
     have SA:=bx hx1
     have Ra:=bx sA
     have Be:=bx hy0
     clear hx1 sA hy0
     go_wp2_with fail
     refine(Cs wr _ _ x y hx hy SA.out Ra.out Be.out).mono ?_
     rintro e w2 ⟨rfl,hb2⟩
     go_wp2_with fail
     refine(lG w2 _ (Nat.lt_of_le_of_lt (Nat.gcd_le_right x Be.out) Ra.out)).mono ?_
     rintro e w3 ⟨vr,rfl,hr3,hb3⟩
     go_wp2
     go_ret
     exact⟨_,rfl,by rw[HG.out]; exact hr3,(hb.trans (hb2.mono hb.size)).trans (hb3.mono (Nat.le_trans hb.size hb2.size))⟩
    ·have a1:((ae b64 x).length:Int)<=1:=by have:=mE hx1; omega
     have a2:(2:Int)<=((ae b64 y).length:Int):=by have:=sj sA; omega
     have Be:=bx hy0
     clear hx1 sA hy0
     go_wp2_with fail
     refine(fA wr _ _ x y hx hy Be.out HX.out.1 cQ).mono ?_
     rintro e w2 ⟨vq,vr,rfl,hq,hr2,hb2⟩
     have ML:=hy.below hb2
     go_wp2
     go_roundw
     case rel=>exact⟨y,x%y,ML,hr2,bx (by rw[HG.out,Nat.gcd_comm x y,Nat.gcd_rec y x,Nat.gcd_comm]),bx ⟨HX.out.2,HX.out.2.le (Nat.le_of_lt (Nat.mod_lt _ Be.out))⟩,hb.trans (hb2.mono hb.size)⟩
     case measure=>rw[hr2.of_eq,hy.of_eq]; exact Nat.mod_lt _ Be.out
   ·have a1:(2:Int)<=((ae b64 x).length:Int):=by have:=sj hx1; omega
    have Be:=bx hy0
    clear hx1 hy0
    go_wp2_with fail
    refine(fA wr _ _ x y hx hy Be.out HX.out.1 cQ).mono ?_
    rintro e w2 ⟨vq,vr,rfl,hq,hr2,hb2⟩
    have ML:=hy.below hb2
    go_wp2
    go_roundw
    case rel=>exact⟨y,x%y,ML,hr2,bx (by rw[HG.out,Nat.gcd_comm x y,Nat.gcd_rec y x,Nat.gcd_comm]),bx ⟨HX.out.2,HX.out.2.le (Nat.le_of_lt (Nat.mod_lt _ Be.out))⟩,hb.trans (hb2.mono hb.size)⟩
    case measure=>rw[hr2.of_eq,hy.of_eq]; exact Nat.mod_lt _ Be.out
end Wx

namespace Wx
set_option maxHeartbeats 1000000
open Go Go.RowKit Go.Proofs
def vN (w:World) (g:Nat):Prop:=∀i k z,w.cell? ⟨g,i,none⟩≠some (.int k z)
def cq (w:World) (g:Nat) (x y z:Value) (e:TypeId):Prop:=w.heap[g]?=some (.cells #[x,y,z] e (0,0))
variable {w:World} {g:Nat} {x y z:Value} {e:TypeId}
theorem cq.c0 (h:cq w g x y z e):w.cell? ⟨g,0,none⟩=some x:=by unfold cq at h; simp[World.cell?,h]
theorem cq.c1 (h:cq w g x y z e):w.cell? ⟨g,1,none⟩=some y:=by unfold cq at h; simp[World.cell?,h]
theorem cq.c2 (h:cq w g x y z e):w.cell? ⟨g,2,none⟩=some z:=by unfold cq at h; simp[World.cell?,h]
theorem cq.fz (h:cq w g x y z e) (i:Nat):w.frozen? ⟨g,i,none⟩=false:=by unfold cq at h; simp[World.frozen?,h]
variable {w':World}
theorem cq.below {B:Nat} (h:cq w g x y z e) (hb:Below B w w') (hg:g<B):cq w' g x y z e:=(hb.block g hg).trans h
theorem cq.new (w:World) (x y z:Value) (e:TypeId):cq (w.alloc (.cells #[x,y,z] e)) w.heap.size x y z e:=by unfold cq; exact heap_alloc_new _ _
theorem gw (w:World) (o:Obj):w.heap.size<(w.alloc o).heap.size:=by simp
theorem cq.gV (h:cq w g x y z e) (hx:∀k n,x≠.int k n) (hy:∀k n,y≠.int k n) (hz:∀k n,z≠.int k n):vN w g:=by
 intro i k n hc
 unfold cq at h
 simp only[World.cell?,h]at hc
 match i,hc with
 |0,hc=>exact hx k n (by simpa using hc)
 |1,hc=>exact hy k n (by simpa using hc)
 |2,hc=>exact hz k n (by simpa using hc)
 |n+3,hc=>simp at hc
theorem cq.GO (h:cq w g x y z e) (u:Value):cq (w.setCell ⟨g,0,none⟩ u) g u y z e:=by
 unfold cq at *; simp[World.setCell,Array.getElem?_modify,h]
theorem cq.GQ (h:cq w g x y z e) (u:Value):cq (w.setCell ⟨g,1,none⟩ u) g x u z e:=by
 unfold cq at *; simp[World.setCell,Array.getElem?_modify,h]
theorem cq.GR (h:cq w g x y z e) (u:Value):cq (w.setCell ⟨g,2,none⟩ u) g x y u e:=by
 unfold cq at *; simp[World.setCell,Array.getElem?_modify,h]
variable {k:IntKind}
theorem Rd.gV {A:Option Addr} {c:Nat} {l:List Nat} (h:Rd w k A c l) {g:Nat} (hg:vN w g) (i:Nat) (u:Value):Rd (w.setCell ⟨g,i,none⟩ u) k A c l:=by
 obtain⟨h1,h2,h3⟩:=h
 refine⟨h1,h2,λhne=>?_⟩
 obtain⟨b,o,e,hc⟩:=h3 hne
 refine⟨b,o,e,λi' hi=>?_⟩
 have F8:b≠g:=by rintro rfl; exact hg _ _ _ (hc i' hi)
 rw[World.cell?_of_block (Below.heap_setCell w ⟨g,i,none⟩ u b F8)]
 exact hc i' hi
variable {v:Value} {n:Nat}
theorem aY.gV (h:aY k b64 w v n) {g:Nat} (hg:vN w g) (i:Nat) (u:Value):aY k b64 (w.setCell ⟨g,i,none⟩ u) v n:=by
 obtain⟨A,c,rfl,hr⟩:=h
 exact⟨A,c,rfl,hr.gV hg i u⟩
def aq (d:Nat):Nat:=if d=1 then 0 else d
def cg (w:World) (v:Value) (q:Rat):Prop:=∃vn vd,v=.agg #[.bool (decide (q.num<0)),vn,vd]/\aY .u64 b64 w vn q.num.natAbs/\aY .u64 b64 w vd (aq q.den)
def kr (w:World) (q:Rat) (e:Ending) (w':World):Prop:=∃v,e=.returned v/\cg w' v q/\Below w.heap.size w w'
variable {q:Rat}
theorem cg.below (h:cg w v q) (hb:Below w.heap.size w w'):cg w' v q:=by
 obtain⟨vn,vd,rfl,h1,h2⟩:=h
 exact⟨vn,vd,rfl,h1.below hb,h2.below hb⟩
def dL (j:Nat) (q:Rat):Prop:=Bd j q.num.natAbs/\Bd j q.den
variable {j:Nat}
theorem dL.mono {k:Nat} (h:dL j q) (hk:j<=k):dL k q:=⟨h.1.mono hk,h.2.mono hk⟩
def sg (neg:Bool) (n:Nat):Int:=if neg then -(n:Int)else n
theorem oJ (neg:Bool) (n:Nat):(sg neg n).natAbs=n:=by cases neg<;>simp[sg]
theorem xS (z:Int):sg (decide (z<0)) z.natAbs=z:=by
 unfold sg
 by_cases h:z<0
 ·rw[decide_eq_true h]; simp; omega
 ·rw[decide_eq_false h]; simp; omega
def cG (neg:Bool) (n d:Nat):Rat:=mkRat (sg neg n) d
variable {neg:Bool} {d:Nat}
theorem xH (hd:0<d):(cG neg n d).num=sg neg (n/n.gcd d):=by
 unfold cG
 rw[Rat.num_mkRat,if_neg (by omega),oJ,Nat.gcd_comm]
 cases neg
 ·simp[sg]
 ·show -(n:Int)/((n.gcd d:Nat):Int) = -((n/n.gcd d:Nat):Int)
  rw[Int.neg_ediv_of_dvd (Int.natCast_dvd_natCast.2 (Nat.gcd_dvd_left n d)),Int.natCast_ediv]
theorem nN (hd:0<d):(cG neg n d).den=d/n.gcd d:=by
 unfold cG
 rw[Rat.den_mkRat,if_neg (by omega),oJ,Nat.gcd_comm]
theorem iD (hd:0<d):(cG neg n d).num.natAbs=n/n.gcd d:=by rw[xH hd,oJ]
theorem nM (hd:0<d) (h1:Bd j n) (h2:Bd j d):dL j (cG neg n d):=
 ⟨by rw[iD hd]; exact h1.le (Nat.div_le_self _ _),by rw[nN hd]; exact h2.le (Nat.div_le_self _ _)⟩
theorem rS (hd:0<d) (hn:0<n):decide ((cG neg n d).num<0)=neg:=by
 rw[xH hd]
 have:0<n/n.gcd d:=Nat.div_pos (Nat.le_of_dvd hn (Nat.gcd_dvd_left n d)) (Nat.gcd_pos_of_pos_left _ hn)
 cases neg<;>simp[sg]<;>omega
theorem tU:cG neg 0 d=0:=by
 unfold cG sg
 cases neg<;>simp
theorem nL {w3:World} {A1 A2:Option Addr} {l1 l2 c1 c2:Nat} (hg:w.heap.size<=g) (hb:Below w.heap.size w w3) (ho:cq w3 g x y z e)
  (hx:∀k n,x≠.int k n) (hy:∀k n,y≠.int k n) (hz:∀k n,z≠.int k n) (hn:decide (q.num<0)=neg) (h1:aY .u64 b64 w3 (.slice A1 l1 c1) q.num.natAbs) (h2:aY .u64 b64 w3 (.slice A2 l2 c2) (aq q.den)):
  ∃wf,((w3.setCell ⟨g,0,none⟩ (.bool neg)).setCell ⟨g,1,none⟩ (.slice A1 l1 c1)).setCell ⟨g,2,none⟩ (.slice A2 l2 c2)=wf/\wf.cell? ⟨g,0,none⟩=some (.bool neg)/\wf.cell? ⟨g,1,none⟩=some (.slice A1 l1 c1)/\wf.cell? ⟨g,2,none⟩=some (.slice A2 l2 c2) /\
   kr w q (.returned (.agg #[.bool neg,.slice A1 l1 c1,.slice A2 l2 c2])) wf:=by
 have n0:=ho.gV hx hy hz
 have o1:=ho.GO (.bool neg)
 have n1:=o1.gV (by simp) hy hz
 have o2:=o1.GQ (.slice A1 l1 c1)
 have n2:=o2.gV (by simp) (by simp) hz
 have o3:=o2.GR (.slice A2 l2 c2)
 refine⟨_,rfl,o3.c0,o3.c1,o3.c2,_,rfl,⟨_,_,by rw[hn],((h1.gV n0 _ _).gV n1 _ _).gV n2 _ _,((h2.gV n0 _ _).gV n1 _ _).gV n2 _ _⟩,((hb.setCell hg _).setCell hg _).setCell hg _⟩
theorem mD (w:World):cg w (.agg #[.bool false,.slice none 0 0,.slice none 0 0]) 0:=⟨_,_,rfl,aY.zero _ _ _,aY.zero _ _ _⟩
theorem ja:aq 1=0:=rfl
theorem kH (h:d≠1):aq d=d:=if_neg h
theorem fD (w:World) (v:Value) (d:Nat) (h:aY .u64 b64 w v (aq d)) (hd:0<d):Calls Tryz.prog 83 #[v] w (dN .u64 b64 w d):=by
 by_cases h1:d=1
 ·subst h1
  obtain⟨A,c,rfl,hr⟩:=id h
  rw[ja,aZ]
  go_enter Tryz.func83,Tryz.ntmps83
  go_wp2_with fail
  refine(lG w 1 (by unfold b64; omega)).mono ?_
  rintro e w3 ⟨vr,rfl,hr3,hb3⟩
  go_wp2
  go_ret
  exact⟨_,rfl,hr3,hb3⟩
 ·rw[kH h1]at h
  obtain⟨A,c,rfl,hr⟩:=id h
  have hl:(((ae b64 d).length:Int)==0)=false:=beq_eq_false_iff_ne.2 (by have:=(aD (n:=d) ah).2 hd; omega)
  go_enter Tryz.func83,Tryz.ntmps83
  go_wp2
  go_ret
  exact⟨_,rfl,h,Below.refl _ _⟩
theorem lA (w:World) (neg:Bool) (v1 v2:Value) (n d:Nat) (h1:aY .u64 b64 w v1 n) (h2:aY .u64 b64 w v2 d) (hd:0<d) {j:Nat} (hj:Bd j n) (hk:Bd j d) (cQ:j<=100000000):
  Calls Tryz.prog 85 #[.bool neg,v1,v2] w (kr w (cG neg n d)):=by
 rcases Nat.eq_zero_or_pos n with rfl|hn
 ·obtain⟨A,c,rfl,hr⟩:=id h1
  rw[aZ,tU]
  go_enter Tryz.func85,Tryz.ntmps85
  go_wp2
  go_returns
  exact⟨_,rfl,mD _,Below.alloc (Below.refl _ _) (Nat.le_refl _) _⟩
 ·obtain⟨B,c,rfl,hr⟩:=id h1
  have hl:(((ae b64 n).length:Int)==0)=false:=beq_eq_false_iff_ne.2 (by have:=(aD (n:=n) ah).2 hn; omega)
  obtain⟨g,hg⟩:∃g,g=n.gcd d:=⟨_,rfl⟩
  obtain⟨q,hq⟩:∃q,q=cG neg n d:=⟨_,rfl⟩
  have hg0:0<g:=by rw[hg]; exact Nat.gcd_pos_of_pos_left _ hn
  have q1:=iD (neg:=neg) (n:=n) hd
  have q2:=nN (neg:=neg) (n:=n) hd
  have q3:=rS (neg:=neg) hd hn
  rw[<-hq,<-hg]at q1 q2
  rw[<-hq]at q3
  rw[<-hq]
  have HQ:=bx (And.intro q1 (And.intro q2 q3))
  have HJ:=bx (And.intro hj hk)
  have HG:=bx hg
  clear q1 q2 q3 hq hj hk hg hn
  by_cases CH:g=1
  ·subst CH
   rw[Nat.div_one,Nat.div_one]at HQ
   by_cases sw:d=1
   ·have sV:=bx sw
    clear sw
    go_enter Tryz.func85,Tryz.ntmps85
    go_wp2_with fail
    have hb0:=Below.alloc (Below.refl w.heap.size w) (Nat.le_refl _) (.cells #[.bool false,.slice none 0 0,.slice none 0 0] 54)
    have ho:=cq.new w (.bool false) (.slice none 0 0) (.slice none 0 0) 54
    have hlt:=gw w (.cells #[.bool false,.slice none 0 0,.slice none 0 0] 54)
    generalize w.alloc (.cells #[.bool false,.slice none 0 0,.slice none 0 0] 54)=w0 at *
    refine(p9 _ _ _ n d (h1.below hb0) (h2.below hb0) HJ.out.1 HJ.out.2 cQ).mono ?_
    rintro e w1 ⟨vg,rfl,yT,hb1⟩
    rw[<-HG.out]at yT
    have J1:=ho.below hb1 hlt
    have qV:=Nat.lt_of_lt_of_le hlt hb1.size
    have kS:=hb0.trans (hb1.mono hb0.size)
    have h11:=h1.below kS
    have Dj:=h2.below kS
    go_wp2_with fail
    refine(gG w1 vg yT).mono ?_
    rintro e w' ⟨rfl,rfl⟩
    go_wp2_with fail
    rw[sV.out]at Dj
    refine(gG w1 _ Dj).mono ?_
    rintro e w' ⟨rfl,rfl⟩
    have mm:=J1
    have I4:=kS
    obtain⟨wf,HW,f0,f1,f2,dQ⟩:=nL (q:=q) (neg:=neg) (Nat.le_refl _) I4 mm (by simp) (by simp) (by simp) HQ.out.2.2 (by rw[HQ.out.1]; exact h11) (A2:=none) (l2:=0) (c2:=0) (by rw[HQ.out.2.1,sV.out,ja]; exact aY.zero _ _ _)
    have I9:=bx HW
    have HF:=bx (And.intro f0 (And.intro f1 f2))
    clear HW f0 f1 f2
    have k0:=mm.c0
    have k1:=mm.c1
    have k2:=mm.c2
    have k3:=mm.fz 0
    have k4:=mm.fz 1
    have k5:=mm.fz 2
    go_wp2
    rw[I9.out]
    obtain⟨f0,f1,f2⟩:=HF.out
    (try simp only[Exit.inBlock,Exit.then])
    refine bodyPost_ret (by simp[results,Tryz.results85,go_sem,f0,f1,f2]; try rfl) rfl ?_
    exact dQ
   ·have sV:=bx sw
    clear sw
    go_enter Tryz.func85,Tryz.ntmps85
    go_wp2_with fail
    have hb0:=Below.alloc (Below.refl w.heap.size w) (Nat.le_refl _) (.cells #[.bool false,.slice none 0 0,.slice none 0 0] 54)
    have ho:=cq.new w (.bool false) (.slice none 0 0) (.slice none 0 0) 54
    have hlt:=gw w (.cells #[.bool false,.slice none 0 0,.slice none 0 0] 54)
    generalize w.alloc (.cells #[.bool false,.slice none 0 0,.slice none 0 0] 54)=w0 at *
    refine(p9 _ _ _ n d (h1.below hb0) (h2.below hb0) HJ.out.1 HJ.out.2 cQ).mono ?_
    rintro e w1 ⟨vg,rfl,yT,hb1⟩
    rw[<-HG.out]at yT
    have J1:=ho.below hb1 hlt
    have qV:=Nat.lt_of_lt_of_le hlt hb1.size
    have kS:=hb0.trans (hb1.mono hb0.size)
    have h11:=h1.below kS
    have Dj:=h2.below kS
    go_wp2_with fail
    refine(gG w1 vg yT).mono ?_
    rintro e w' ⟨rfl,rfl⟩
    go_wp2_with fail
    refine(gP w1 _ _ Dj sV.out).mono ?_
    rintro e w' ⟨rfl,rfl⟩
    have mm:=J1
    have I4:=kS
    obtain⟨A2,c2,rfl,_⟩:=id Dj
    obtain⟨wf,HW,f0,f1,f2,dQ⟩:=nL (q:=q) (neg:=neg) (Nat.le_refl _) I4 mm (by simp) (by simp) (by simp) HQ.out.2.2 (by rw[HQ.out.1]; exact h11) (by rw[HQ.out.2.1,kH sV.out]; exact Dj)
    have I9:=bx HW
    have HF:=bx (And.intro f0 (And.intro f1 f2))
    clear HW f0 f1 f2
    have k0:=mm.c0
    have k1:=mm.c1
    have k2:=mm.c2
    have k3:=mm.fz 0
    have k4:=mm.fz 1
    have k5:=mm.fz 2
    go_wp2
    rw[I9.out]
    obtain⟨f0,f1,f2⟩:=HF.out
    (try simp only[Exit.inBlock,Exit.then])
    refine bodyPost_ret (by simp[results,Tryz.results85,go_sem,f0,f1,f2]; try rfl) rfl ?_
    exact dQ
  ·by_cases sw:d/g=1
   ·have NW:=bx CH
    have sV:=bx sw
    clear CH sw
    go_enter Tryz.func85,Tryz.ntmps85
    go_wp2_with fail
    have hb0:=Below.alloc (Below.refl w.heap.size w) (Nat.le_refl _) (.cells #[.bool false,.slice none 0 0,.slice none 0 0] 54)
    have ho:=cq.new w (.bool false) (.slice none 0 0) (.slice none 0 0) 54
    have hlt:=gw w (.cells #[.bool false,.slice none 0 0,.slice none 0 0] 54)
    generalize w.alloc (.cells #[.bool false,.slice none 0 0,.slice none 0 0] 54)=w0 at *
    refine(p9 _ _ _ n d (h1.below hb0) (h2.below hb0) HJ.out.1 HJ.out.2 cQ).mono ?_
    rintro e w1 ⟨vg,rfl,yT,hb1⟩
    rw[<-HG.out]at yT
    have J1:=ho.below hb1 hlt
    have qV:=Nat.lt_of_lt_of_le hlt hb1.size
    have kS:=hb0.trans (hb1.mono hb0.size)
    have h11:=h1.below kS
    have Dj:=h2.below kS
    go_wp2_with fail
    refine(gP w1 vg g yT NW.out).mono ?_
    rintro e w' ⟨rfl,rfl⟩
    go_wp2_with fail
    refine(fA w1 _ _ n g h11 yT hg0 HJ.out.1 cQ).mono ?_
    rintro e w2 ⟨vn,vr,rfl,Qc,_,hb2⟩
    have yL:=kS.trans (hb2.mono kS.size)
    have OM:=h2.below yL
    have J8:=yT.below hb2
    have PT:=J1.below hb2 qV
    have ow:=Nat.lt_of_lt_of_le qV hb2.size
    go_wp2_with fail
    refine(fA w2 _ _ d g OM J8 hg0 HJ.out.2 cQ).mono ?_
    rintro e w3 ⟨vd,Us,rfl,KY,_,hb3⟩
    have I4:=yL.trans (hb3.mono yL.size)
    have mm:=PT.below hb3 ow
    have Dy:=Qc.below hb3
    go_wp2_with fail
    rw[sV.out]at KY
    refine(gG w3 vd KY).mono ?_
    rintro e w' ⟨rfl,rfl⟩
    obtain⟨A1,c1,rfl,_⟩:=id Dy
    obtain⟨wf,HW,f0,f1,f2,dQ⟩:=nL (q:=q) (neg:=neg) (Nat.le_refl _) I4 mm (by simp) (by simp) (by simp) HQ.out.2.2 (by rw[HQ.out.1]; exact Dy) (A2:=none) (l2:=0) (c2:=0) (by rw[HQ.out.2.1,sV.out,ja]; exact aY.zero _ _ _)
    have I9:=bx HW
    have HF:=bx (And.intro f0 (And.intro f1 f2))
    clear HW f0 f1 f2
    have k0:=mm.c0
    have k1:=mm.c1
    have k2:=mm.c2
    have k3:=mm.fz 0
    have k4:=mm.fz 1
    have k5:=mm.fz 2
    go_wp2
    rw[I9.out]
    obtain⟨f0,f1,f2⟩:=HF.out
    (try simp only[Exit.inBlock,Exit.then])
    refine bodyPost_ret (by simp[results,Tryz.results85,go_sem,f0,f1,f2]; try rfl) rfl ?_
    exact dQ
   ·have NW:=bx CH
    have sV:=bx sw
    clear CH sw
    go_enter Tryz.func85,Tryz.ntmps85
    go_wp2_with fail
    have hb0:=Below.alloc (Below.refl w.heap.size w) (Nat.le_refl _) (.cells #[.bool false,.slice none 0 0,.slice none 0 0] 54)
    have ho:=cq.new w (.bool false) (.slice none 0 0) (.slice none 0 0) 54
    have hlt:=gw w (.cells #[.bool false,.slice none 0 0,.slice none 0 0] 54)
    generalize w.alloc (.cells #[.bool false,.slice none 0 0,.slice none 0 0] 54)=w0 at *
    refine(p9 _ _ _ n d (h1.below hb0) (h2.below hb0) HJ.out.1 HJ.out.2 cQ).mono ?_
    rintro e w1 ⟨vg,rfl,yT,hb1⟩
    rw[<-HG.out]at yT
    have J1:=ho.below hb1 hlt
    have qV:=Nat.lt_of_lt_of_le hlt hb1.size
    have kS:=hb0.trans (hb1.mono hb0.size)
    have h11:=h1.below kS
    have Dj:=h2.below kS
    go_wp2_with fail
    refine(gP w1 vg g yT NW.out).mono ?_
    rintro e w' ⟨rfl,rfl⟩
    go_wp2_with fail
    refine(fA w1 _ _ n g h11 yT hg0 HJ.out.1 cQ).mono ?_
    rintro e w2 ⟨vn,vr,rfl,Qc,_,hb2⟩
    have yL:=kS.trans (hb2.mono kS.size)
    have OM:=h2.below yL
    have J8:=yT.below hb2
    have PT:=J1.below hb2 qV
    have ow:=Nat.lt_of_lt_of_le qV hb2.size
    go_wp2_with fail
    refine(fA w2 _ _ d g OM J8 hg0 HJ.out.2 cQ).mono ?_
    rintro e w3 ⟨vd,Us,rfl,KY,_,hb3⟩
    have I4:=yL.trans (hb3.mono yL.size)
    have mm:=PT.below hb3 ow
    have Dy:=Qc.below hb3
    go_wp2_with fail
    refine(gP w3 vd _ KY sV.out).mono ?_
    rintro e w' ⟨rfl,rfl⟩
    obtain⟨A1,c1,rfl,_⟩:=id Dy
    obtain⟨A2,c2,rfl,_⟩:=id KY
    obtain⟨wf,HW,f0,f1,f2,dQ⟩:=nL (q:=q) (neg:=neg) (Nat.le_refl _) I4 mm (by simp) (by simp) (by simp) HQ.out.2.2 (by rw[HQ.out.1]; exact Dy) (by rw[HQ.out.2.1,kH sV.out]; exact KY)
    have I9:=bx HW
    have HF:=bx (And.intro f0 (And.intro f1 f2))
    clear HW f0 f1 f2
    have k0:=mm.c0
    have k1:=mm.c1
    have k2:=mm.c2
    have k3:=mm.fz 0
    have k4:=mm.fz 1
    have k5:=mm.fz 2
    go_wp2
    rw[I9.out]
    obtain⟨f0,f1,f2⟩:=HF.out
    (try simp only[Exit.inBlock,Exit.then])
    refine bodyPost_ret (by simp[results,Tryz.results85,go_sem,f0,f1,f2]; try rfl) rfl ?_
    exact dQ
end Wx
