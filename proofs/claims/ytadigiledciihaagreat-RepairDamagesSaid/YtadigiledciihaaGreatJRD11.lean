import Derived.Test.YtadigiledciihaaGreatJRD9
import Derived.Test.YtadigiledciihaaGreatJRD10
namespace Wx
set_option maxRecDepth 100000
set_option maxHeartbeats 1000000
open Go Go.RowKit Go.Proofs
def uf (w:World) (q r:Nat) (e:Ending) (w':World):Prop:=∃v1 v2,e=.returned (.tuple #[v1,v2])/\aV .u64 b64 w' v1 q/\aV .u64 b64 w' v2 r/\Below w.heap.size w w'
theorem wI (w:World) (v1 v2:Value) (m n:Nat) (h1:aV .u64 b64 w v1 m) (h2:aV .u64 b64 w v2 n) (hlt:m<n):
  Calls Tryz.prog 116 #[v1,v2] w (uf w (m/n) (m%n)):=by
 rw[Nat.div_eq_of_lt hlt,Nat.mod_eq_of_lt hlt]
 go_enter Tryz.func116,Tryz.ntmps116
 go_wp2_with fail
 refine(mL _ _ _ _ _ h1 h2).mono ?_
 rintro e w1 ⟨rfl,hb1⟩
 rw[show bp m n = -1 by unfold bp; rw[if_pos hlt]]
 have Cg:=h1.below hb1
 go_wp2
 go_ret2
 exact⟨_,_,rfl,aV.zero _ _ _,Cg,hb1⟩
variable {m n:Nat}
theorem ur (h:n<=m):∃z,bp m n=z/\¬(z<0):=⟨_,rfl,by unfold bp; rw[if_neg (by omega)]; split<;>omega⟩
theorem wK (w:World) (v1 v2:Value) (m n:Nat) (h1:aV .u64 b64 w v1 m) (h2:aV .u64 b64 w v2 n) (hle:n<=m) (h0:0<n) (hn:n<b64) {j:Nat} (hj:Bd j m) (cQ:j<=1000000000):
  Calls Tryz.prog 116 #[v1,v2] w (uf w (m/n) (m%n)):=by
 obtain⟨z,hz,hz0⟩:=ur hle
 have HZ:=bx hz
 have hr:m%n<b64:=Nat.lt_trans (Nat.mod_lt m h0) hn
 have HR:=bx hr
 have HN:=bx hn
 clear hz hr hn
 have hc:=mL w v1 v2 m n h1 h2
 rw[HZ.out]at hc
 obtain⟨b,o,c,rfl,hcell⟩:=h2.one h0 HN.out
 go_enter Tryz.func116,Tryz.ntmps116
 go_wp2_with fail
 refine hc.mono ?_
 rintro e w1 ⟨rfl,hb1⟩
 have Cg:=h1.below hb1
 have hcell1:w1.cell? ⟨b,o,none⟩=some (.int .u64 (n:Int)):=by rw[hb1.cell (World.block_lt_of_cell? w _ hcell)]; exact hcell
 clear hc hcell
 go_wp2_with fail
 refine(yK w1 v1 m n Cg hj cQ h0 HN.out).mono ?_
 rintro e w2 ⟨vq,rfl,hq,hb2⟩
 go_wp2_with fail
 refine(kX w2 (m%n) HR.out).mono ?_
 rintro e w3 ⟨vr,rfl,hr3,hb3⟩
 go_wp2
 go_ret2
 exact⟨_,_,rfl,hq.below hb3,hr3,(hb1.trans (hb2.mono hb1.size)).trans (hb3.mono (Nat.le_trans hb1.size hb2.size))⟩
theorem Ez {T V Q:Nat} (hT:0<T) (h:V+Q*b64^0*(n*T)=m*T) (hlt:V<n*T):Q=m/n/\V/T=m%n/\V<=m*T:=by
 rw[Nat.pow_zero,Nat.mul_one]at h
 obtain⟨h1,h2⟩:=ji (m:=m*T) (d:=n*T) (q:=Q) (r:=V) (by omega) hlt
 rw[Nat.mul_div_mul_right _ _ hT]at h1
 rw[Nat.mul_mod_mul_right]at h2
 exact⟨h1.symm,by rw[<-h2,Nat.mul_div_cancel _ hT],by omega⟩
theorem Row.grown {w w':World} {k:IntKind} {e:TypeId} {g g':Nat} {l:List Nat} (h:Row w k e g l) (hg:w.grownBy w' (some g')) (hne:g'≠g):Row w' k e g l:=by
 obtain⟨rest,h1⟩:=h
 exact⟨rest,by rw[<-h1]; exact hg.block g (Row.lt ⟨rest,h1⟩) (by simp; omega)⟩
theorem fD (h:b64<=n):2<=(ae b64 n).length:=by
 rcases Nat.lt_or_ge (ae b64 n).length 2 with hl|hl
 ·have:=gM af n
  have:b64^(ae b64 n).length<=b64^1:=Nat.pow_le_pow_right (by unfold b64; omega) (by omega)
  rw[Nat.pow_one]at this
  omega
 ·exact hl
theorem nT (h:n<=m):(ae b64 n).length<=(ae b64 m).length:=by
 rcases Nat.lt_or_ge (ae b64 m).length (ae b64 n).length with hl|hl
 ·have:=bN af hl; omega
 ·exact hl
theorem wJ (w:World) (v1 v2:Value) (m n:Nat) (h1:aV .u64 b64 w v1 m) (h2:aV .u64 b64 w v2 n) (hle:n<=m) (hn:b64<=n) {j:Nat} (hj:Bd j m) (cQ:j<=100000000):
  Calls Tryz.prog 116 #[v1,v2] w (uf w (m/n) (m%n)):=by
 obtain⟨z,hz,hz0⟩:=ur hle
 have hc:=mL w v1 v2 m n h1 h2
 rw[hz]at hc
 clear hz
 have Ed:=fD hn
 have I1:=iK af n
 have hwn:=bf af n
 obtain⟨B,d,rfl,hb⟩:=id h2
 obtain⟨bb,ob,tb,rfl,hcb,OB⟩:=hb.get (i:=(ae b64 n).length-1) (by omega)
 have htb:0<tb:=by
  rcases Nat.eq_zero_or_pos tb with rfl|h
  ·exfalso; apply I1
   rw[List.getLast?_eq_getElem?]; exact OB.out
  ·exact h
 have MZ:tb<b64:=hwn _ (List.mem_of_getElem? OB.out)
 obtain⟨s,hs,hs1⟩:∃s,s=64-Lib.bitLen tb/\s<=64:=⟨_,rfl,by omega⟩
 have hbl:=hb.len
 have HS:=bx hs
 have Rl:=bx (And.intro htb MZ)
 have hNe:(((ae b64 n).length:Int)==1)=false:=beq_eq_false_iff_ne.2 (by omega)
 have Tj:(0:Int)<=((ae b64 n).length:Int)-1:=by omega
 have N8:Bd (j+65) (m*2^s):=(hj.mul (show Bd 65 (2^s)from Nat.pow_lt_pow_right (by omega) (by omega)))
 have RS:Bd j n:=hj.le hle
 have hmn:n*2^s<=m*2^s:=Nat.mul_le_mul_right _ hle
 have RT:b64<=n*2^s:=Nat.le_trans hn (Nat.le_mul_of_pos_right n (Nat.two_pow_pos s))
 have HH:=bx (And.intro hmn RT)
 have HJ:=bx (And.intro hj (And.intro RS N8))
 clear hs htb MZ hj RS N8 hmn RT I1 hn hwn
 generalize hN:(ae b64 n).length=N at *
 clear hN
 go_enter Tryz.func116,Tryz.ntmps116
 go_wp2_with fail
 refine hc.mono ?_
 rintro e w1 ⟨rfl,hb1⟩
 have h11:=h1.below hb1
 have D3:=h2.below hb1
 have PB:w1.cell? ⟨bb,ob+(N-1),none⟩=some (.int .u64 (tb:Int)):=by rw[hb1.cell (World.block_lt_of_cell? w _ hcb)]; exact hcb
 clear hc hcb h1 h2 hb
 go_wp2_with fail
 refine(Nk tb Rl.out.1 Rl.out.2 w1).mono ?_
 rintro e w' ⟨rfl,rfl⟩
 rw[<-HS.out]
 go_wp2_with fail
 refine(xo w1 _ n s D3 HJ.out.2.1 (by omega) (by omega)).mono ?_
 rintro e w2 ⟨v,rfl,hv2,hb2⟩
 have h12:=h11.below hb2
 have uA:=hb1.trans (hb2.mono hb1.size)
 clear h11 D3 PB hb1 hb2
 go_wp2_with fail
 have fo:=(Below.refl w2.heap.size w2).alloc (Nat.le_refl _) (.cells #[] 108)
 refine(xo _ _ m s (h12.below fo) HJ.out.1 (by omega) (by omega)).mono ?_
 rintro e w3 ⟨x,rfl,hx3,hb3⟩
 have IV:(w2.alloc (.cells #[] 108)).ownsRow w2.heap.size 108 1 (.slice (some ⟨w2.heap.size,0,none⟩) 0 0) 0 (dX .u64 []):=World.ownsRow_made w2 #[] 0 (Nat.le_refl _) (Nat.zero_le _) rfl
 have AZ:=IV.kept (bS hb3 none) (.inr (by simp[Value.ownBlock]))
 have pc:Below w2.heap.size w2 w3:=fo.trans (hb3.mono fo.size)
 have hv3:=hv2.below pc
 have Tb:=h12.below pc
 clear IV fo hb3 h12
 obtain⟨X,cx,rfl,QB⟩:=hx3
 have Oc:(ae b64 (m*2^s)).length<=100000000:=by
  have:=nc HJ.out.2.2; omega
 have QA:=nT HH.out.1
 have Qt:=fD HH.out.2
 obtain⟨V,cv,rfl,F5⟩:=hv2
 clear hv3
 have R4:=(Ao.of F5).nW (bS pc none) (by intro g hg; cases hg)
 clear F5
 have Mn:=bx (aR af (n*2^s))
 have Pj:=bf af (n*2^s)
 have RK:=bx (iK af (n*2^s))
 have RM:=bx (aR af (m*2^s))
 have Pk:=bf af (m*2^s)
 generalize ae b64 (n*2^s)=vl at *
 generalize ae b64 (m*2^s)=al at *
 obtain⟨bxx,ox,x0,rfl,tB,_⟩:=QB.get (i:=0) (by omega)
 clear tB
 go_upto_region 9 with(first
  |(at_builtin; refine mE _ rfl (.tmp 45) (.tmp 48) _ rfl .u64 108 w2.heap.size Tryz.underlying52 ir (.slice (some ⟨w2.heap.size,0,none⟩) 0 0) [] rfl AZ _ _ _ al _ rfl rfl QB (by simp; omega) pc.size ?_; intro U4 A4 c4 w4 Lh mS hg4)
  |(at_builtin; refine mE _ rfl (.tmp 49) (.tmp 50) _ rfl .u64 108 w2.heap.size Tryz.underlying52 ir (.slice A4 U4.length c4) U4 rfl (mS.alloc _) _ _ _ [0] 1 rfl rfl ((Row.new w4 .u64 108 [0]).dI (c:=1) (by simp) (by simp[maxLen])) (by rw[Lh.out]; simp; omega) (by simp; have h5:=pc.size; have h6:=hg4.size; omega) ?_; intro U A5 c5 w5 LD IW PS))
 have To:U.length=al.length+1:=by rw[LD.out,Lh.out]; simp
 have M3:=R4.nW hg4 (by intro g hg; simp[Value.ownBlock]at hg; omega)
 have Eg:∀k,(Value.slice A4 U4.length c4).ownBlock=some k->w2.heap.size<=k:=λk hk=>(mS.lt k hk).1
 have M6:=(M3.nW (World.grownBy_alloc w4 _ none) (by intro g hg; cases hg)).nW PS Eg
 have Gr:Below w.heap.size w w4:=(uA.trans (pc.mono uA.size)).grown hg4 (Nat.le_trans uA.size pc.size) (by intro g hg; simp[Value.ownBlock]at hg; have:=uA.size; omega)
 have NZ:Below w.heap.size w w5:=(Gr.alloc Gr.size (.cells #[.int .u64 0] 108)).grown PS (by have:=Gr.size; simp; omega) (by intro g hg; have:=Eg g hg; have:=uA.size; omega)
 obtain⟨g,rfl,hgB,N2,yw,Pe⟩:=xX IW (by omega)
 clear R4 M3 Eg Gr hg4 PS AZ mS IW Tb QB
 have Ml:Bx (val b64 U+val b64 (List.drop (U.length-vl.length) (List.replicate (U.length-vl.length) 0))*b64^(U.length-vl.length)*(n*2^s)=m*2^s):=by
  refine bx ?_
  rw[List.drop_of_length_le (by simp),BH,Nat.zero_mul,Nat.zero_mul,Nat.add_zero,LD.out,Lh.out,List.nil_append,eR,RM.out]
  simp[val]
 have Mf:Bx (val b64 (U.drop (U.length-vl.length))<n*2^s):=by
  refine bx ?_
  have e1:U.drop (U.length-vl.length)=(al.drop (U.length-vl.length))++[0]:=by
   rw[LD.out,Lh.out,List.nil_append,List.drop_append_of_le_length (by simp; omega)]
  rw[e1,eR]
  have h1:=ek (Pk.drop (U.length-vl.length))
  have h2:=kO af (n:=n*2^s) (by have:=HH.out.2; unfold b64 at this; omega)
  have h3:(ae b64 (n*2^s)).length=vl.length:=by rw[<-Mn.out,ki af Pj RK.out]
  rw[h3]at h2
  rw[List.length_drop,show al.length-(U.length-vl.length)=vl.length-1 by omega]at h1
  simp[val]
  omega
 have Tr:Wf b64 U:=by rw[LD.out,Lh.out]; exact(Wf.append (Wf.nil _) Pk).append (Wf.cons (by unfold b64; omega) (Wf.nil _))
 have Tp:vl.length+1<=U.length:=by omega
 have Tq:U.length<=100000001:=by omega
 clear Lh LD To Pk RM Oc QA
 go_wp2_with (at_make; go_loud (refine bO _ rfl _ _ _ rfl .u64 108 Tryz.underlying52 ir _ _ rfl rfl (by omega) (by omega) (by omega) ?_); intro w6 hrow bL hsz)
 rw[show((U.length:Int)-(vl.length:Int)).toNat=U.length-vl.length by omega]at hrow
 rw[show decide (z<0)=false from decide_eq_false (by omega)]
 have Mj:=N2.keep bL
 have M7:=M6.nW (bS bL none) (by intro g hg; cases hg)
 have Rw:=NZ.trans (bL.mono NZ.size)
 have RQ:g≠w5.heap.size:=by have:=N2.lt; omega
 generalize RB:U.length-vl.length=Qn at *
 have Ow:=bx RB
 have hq1:(Qn:Int)<=100000001:=by omega
 have hcc:c5<=9223372036854775807:=by unfold maxLen at Pe; omega
 have Rc:=bx RQ
 have Oy:=bx (And.intro NZ.size (show w2.heap.size<=w5.heap.size by have:=N2.lt; omega))
 have Oz:=bx (show w.heap.size<=g by have:=uA.size; omega)
 clear N2 M6 NZ bL hsz RB hz0 RQ OB hNe Tj hbl Ed uA pc
 go_loopw [13] (λQN wr=>∃(i:Nat) (M qs:List Nat),i<=Qn/\QN=.int .i64 ((i:Int)-1)/\Bx (M.length=U.length)/\Wf b64 M/\Bx (qs.length=Qn)/\Wf b64 qs/\Row wr .u64 108 g M/\Row wr .u64 108 w5.heap.size qs/\Ao wr w2.heap.size .u64 V cv vl/\Below w.heap.size w wr /\
   Bx (val b64 M+val b64 (qs.drop i)*b64^i*(n*2^s)=m*2^s)/\Bx (val b64 (M.drop i)<n*2^s)) (λQN _=>(intOf QN+1).toNat)
 case atStart=>exact⟨Qn,U,List.replicate Qn 0,Nat.le_refl _,rfl,bx rfl,Tr,bx (by simp),Wf.replicate (by unfold b64; omega) _,Mj,hrow,M7,Rw,Ml,Mf⟩
 case round=>
  clear Mj hrow M7 Rw Ml Mf
  obtain⟨i,M,qs,hi,rfl,Dv,Ek,LC,GC,IZ,Qm,F5,Me,bR,BP⟩:=hrel
  rcases Nat.eq_zero_or_pos i with rfl|hpos
  ·rw[show(((0:Nat):Int)-1) = -1 by omega]
   go_wp2_with fail
   obtain⟨e1,e2,e3⟩:=Ez (Nat.two_pow_pos s) bR.out BP.out
   have E1:=bx e1
   have E2:=bx e2
   have E3:=bx (HJ.out.2.2.le e3)
   clear e1 e2 e3 hcc hq1
   refine(fK wr (some ⟨w5.heap.size,0,none⟩) Qn qs (m/n) (Qm.dI (by rw[LC.out]; exact Nat.le_refl _) (by have:=Ow.out; unfold maxLen; omega)) GC Qn LC.out E1.out).mono ?_
   rintro e w' ⟨rfl,vq,rfl,TW⟩
   go_wp2_with fail
   refine(fK wr (some ⟨g,0,none⟩) c5 M _ (IZ.dI (by rw[Dv.out]; exact yw) Pe) Ek U.length Dv.out rfl).mono ?_
   rintro e w' ⟨rfl,vM,rfl,TV⟩
   go_wp2_with fail
   refine(CW wr vM (val b64 M) s TV E3.out (by omega) (by omega)).mono ?_
   rintro e wf ⟨vr,rfl,RU,N4⟩
   go_wp2
   go_ret2
   rw[E2.out]at RU
   exact⟨_,_,rfl,TW.below N4,RU,Me.trans (N4.mono Me.size)⟩
  ·obtain⟨k,rfl⟩:∃k,i=k+1:=⟨i-1,by omega⟩
   rw[show(((k+1:Nat):Int)-1)=(k:Int) by omega]
   have yx:(0:Int)<=(k:Int):=by omega
   have lQ:(k:Int)<(Qn:Int):=by omega
   have hk2:(k:Int)+(vl.length:Int)+1<=(c5:Int):=by have:=Ow.out; omega
   go_wp2_with fail
   have MH:k+(vl.length+1)<=M.length:=by have:=Ow.out; have:=Dv.out; omega
   have Km:=oM MH Ek (V:=n*2^s) BP.out
   rw[<-Mn.out]at Km
   have Mt:vl.length+1<=c5-k:=by omega
   rw[show k+vl.length+1-k=vl.length+1 by omega]
   have Mu:c5-k<=maxLen:=Nat.le_trans (Nat.sub_le _ _) Pe
   have M8:vl.length<=1000000000:=by omega
   refine(BX wr w2.heap.size g k (c5-k) M vl V cv IZ Ek MH Mt Mu F5 hgB Pj M8 Qt RK.out Km).mono ?_
   clear Km Mt
   rintro e wd ⟨rfl,hgd,M',J6,Qw,Ql,zh,hdr,po⟩
   have Ku:=Qm.grown hgd Rc.out
   have Qv:=F5.grown hgd hgB
   have O9:=Me.grown hgd Me.size (by intro g' uE; injection uE with uE; have:=Oz.out; omega)
   obtain⟨l1,l2⟩:=Cx J6 MH (show n*2^s<b64^vl.length by rw[<-Mn.out]; exact ek Pj) (by rw[LC.out]; omega) zh hdr (by rw[<-Mn.out]; exact po) BP.out bR.out
   rw[Mn.out]
   have Ef:val b64 (win M k (vl.length+1))/(n*2^s)<b64:=by
    rw[Nat.div_lt_iff_lt_mul (by have:=BP.out; omega),Nat.mul_comm]
    exact oM MH Ek BP.out
   have Ot:=bx (J6.trans Dv.out)
   generalize Ob:val b64 (win M k (vl.length+1))/(n*2^s)=qd at *
   have Sy:=bx l1
   have Sz:=bx l2
   have SG:=bx Ef
   clear Mu M8 l1 l2 Ef Ob zh hdr po J6 MH IZ Qm F5 Me Ek Dv hgd bR BP
   obtain⟨vo,AW,Dh⟩:=Ku.get (i:=k) (by have:=LC.out; omega)
   have sw:=Ku.frozen k
   go_wp2
   go_roundw
   case rel=>
    exact⟨k,M',qs.set k qd,by omega,by go_num,Ot,Qw,bx (by rw[List.length_set]; exact LC.out),GC.set SG.out,Ql.Gm (by simpa using Rc.out) _,Ku.set _ _,Qv.nW (tA _ _ _ _) (by intro g' uE; injection uE with uE; have:=Oy.out.2; omega),O9.setCell Oy.out.1 _,Sy,Sz⟩
   case measure=>simp[intOf]
theorem eM (w:World) (v1 v2:Value) (m n:Nat) (h1:aV .u64 b64 w v1 m) (h2:aV .u64 b64 w v2 n) (h0:0<n) {j:Nat} (hj:Bd j m) (cQ:j<=100000000):
  Calls Tryz.prog 116 #[v1,v2] w (uf w (m/n) (m%n)):=by
 rcases Nat.lt_or_ge m n with hlt|hge
 ·exact wI w v1 v2 m n h1 h2 hlt
 ·rcases Nat.lt_or_ge n b64 with hn|hn
  ·exact wK w v1 v2 m n h1 h2 hge h0 hn hj (by omega)
  ·exact wJ w v1 v2 m n h1 h2 hge hn hj cQ
end Wx

namespace Wx
set_option maxHeartbeats 1000000
open Go Go.RowKit Go.Proofs
variable {w:World} {k:IntKind}
theorem Rd.inj {A:Option Addr} {c c':Nat} {l r:List Nat} (h:Rd w k A c l) (g:Rd w k A c' r) (hl:l.length=r.length):l=r:=by
 apply List.ext_getElem hl
 intro i h1 h2
 obtain⟨b,o,e,hc⟩:=h.at_ (i:=i) h1
 obtain⟨b',o',e',hc'⟩:=g.at_ (i:=i) h2
 rw[e]at e'
 injection e' with e'
 injection e' with e1 e2
 subst e1 e2
 rw[hc]at hc'
 injection hc' with hc'
 injection hc' with _ hc'
 rw[List.getD_eq_getElem?_getD,List.getD_eq_getElem?_getD,List.getElem?_eq_getElem h1,List.getElem?_eq_getElem h2]at hc'
 simp only[Option.getD_some]at hc'
 omega
variable {v:Value} {n:Nat}
theorem aV.inj {m:Nat} (h:aV k b64 w v m) (g:aV k b64 w v n):m=n:=by
 obtain⟨A,c,rfl,hr⟩:=h
 obtain⟨A',c',e,gr⟩:=g
 injection e with e1 e2 e3
 subst e1
 exact wF af (hr.inj gr e2)
open Classical in
noncomputable def numOf (w:World) (v:Value):Nat:=if h:∃n,aV .u64 b64 w v n then choose h else 0
theorem aV.of_eq (h:aV .u64 b64 w v n):numOf w v=n:=by
 have hx:∃n,aV .u64 b64 w v n:=⟨n,h⟩
 unfold numOf
 rw[dif_pos hx]
 exact(Classical.choose_spec hx).inj h
theorem mo (h:n<b64):(ae b64 n).length<=1:=eD af (by simpa using h)
theorem sk (h:¬n<b64):2<=(ae b64 n).length:=fD (by omega)
theorem pT (w:World) (v1 v2:Value) (m n:Nat) (h1:aV .u64 b64 w v1 m) (h2:aV .u64 b64 w v2 n) {j:Nat} (hj:Bd j m) (hk:Bd j n) (cQ:j<=100000000):
  Calls Tryz.prog 115 #[v1,v2] w (dG .u64 b64 w (Nat.gcd m n)):=by
 have HX:=bx (And.intro hj hk)
 clear hj hk
 obtain⟨G,hG⟩:∃G,G=Nat.gcd m n:=⟨_,rfl⟩
 rw[<-hG]
 have HG:=bx hG
 clear hG
 go_enter Tryz.func115,Tryz.ntmps115
 go_wp2_with fail
 go_loopw [0,1] (λs0 s1 wr=>∃x y:Nat,aV .u64 b64 wr s0 x/\aV .u64 b64 wr s1 y/\Bx (G=Nat.gcd x y)/\Bx (Bd j x/\Bd j y)/\Below w.heap.size w wr) (λ_ s1 wr=>numOf wr s1)
 case atStart=>exact⟨_,_,h1,h2,HG,HX,Below.refl _ _⟩
 case round=>
  clear h1 h2 HG HX
  obtain⟨x,y,hx,hy,HG,HX,hb⟩:=hrel
  rcases Nat.eq_zero_or_pos y with rfl|hy0
  ·obtain⟨A,c,rfl,hr⟩:=id hy
   rw[aX]at hr ⊢
   go_wp2
   go_ret
   exact⟨_,rfl,by rw[HG.out,Nat.gcd_zero_right]; exact hx,hb⟩
  ·obtain⟨A,c,rfl,hr⟩:=id hx
   obtain⟨B,d,rfl,hs⟩:=id hy
   have uF:(1:Int)<=((ae b64 y).length:Int):=by have:=(ax (n:=y) af).2 hy0; omega
   by_cases hx1:x<b64
   ·by_cases sy:y<b64
    ·have a1:((ae b64 x).length:Int)<=1:=by have:=mo hx1; omega
     have a2:((ae b64 y).length:Int)<=1:=by have:=mo sy; omega
     have SM:=bx hx1
     have Rn:=bx sy
     have BQ:=bx hy0
     clear hx1 sy hy0
     go_wp2_with fail
     refine(C5 wr _ _ x y hx hy SM.out Rn.out BQ.out).mono ?_
     rintro e w2 ⟨rfl,hb2⟩
     go_wp2_with fail
     refine(kX w2 _ (Nat.lt_of_le_of_lt (Nat.gcd_le_right x BQ.out) Rn.out)).mono ?_
     rintro e w3 ⟨vr,rfl,hr3,hb3⟩
     go_wp2
     go_ret
     exact⟨_,rfl,by rw[HG.out]; exact hr3,(hb.trans (hb2.mono hb.size)).trans (hb3.mono (Nat.le_trans hb.size hb2.size))⟩
    ·have a1:((ae b64 x).length:Int)<=1:=by have:=mo hx1; omega
     have a2:(2:Int)<=((ae b64 y).length:Int):=by have:=sk sy; omega
     have BQ:=bx hy0
     clear hx1 sy hy0
     go_wp2_with fail
     refine(eM wr _ _ x y hx hy BQ.out HX.out.1 cQ).mono ?_
     rintro e w2 ⟨vq,vr,rfl,hq,hr2,hb2⟩
     have Nc:=hy.below hb2
     go_wp2
     go_roundw
     case rel=>exact⟨y,x%y,Nc,hr2,bx (by rw[HG.out,Nat.gcd_comm x y,Nat.gcd_rec y x,Nat.gcd_comm]),bx ⟨HX.out.2,HX.out.2.le (Nat.le_of_lt (Nat.mod_lt _ BQ.out))⟩,hb.trans (hb2.mono hb.size)⟩
     case measure=>rw[hr2.of_eq,hy.of_eq]; exact Nat.mod_lt _ BQ.out
   ·have a1:(2:Int)<=((ae b64 x).length:Int):=by have:=sk hx1; omega
    have BQ:=bx hy0
    clear hx1 hy0
    go_wp2_with fail
    refine(eM wr _ _ x y hx hy BQ.out HX.out.1 cQ).mono ?_
    rintro e w2 ⟨vq,vr,rfl,hq,hr2,hb2⟩
    have Nc:=hy.below hb2
    go_wp2
    go_roundw
    case rel=>exact⟨y,x%y,Nc,hr2,bx (by rw[HG.out,Nat.gcd_comm x y,Nat.gcd_rec y x,Nat.gcd_comm]),bx ⟨HX.out.2,HX.out.2.le (Nat.le_of_lt (Nat.mod_lt _ BQ.out))⟩,hb.trans (hb2.mono hb.size)⟩
    case measure=>rw[hr2.of_eq,hy.of_eq]; exact Nat.mod_lt _ BQ.out
end Wx
