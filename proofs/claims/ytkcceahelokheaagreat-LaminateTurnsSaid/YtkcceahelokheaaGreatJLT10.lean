import Derived.Test.YtkcceahelokheaaGreatJLT8
import Derived.Test.YtkcceahelokheaaGreatJLT9
namespace Wx
set_option maxRecDepth 100000
set_option maxHeartbeats 1000000
open Go Go.RowKit Go.Proofs
def CJ (w:World) (q r:Nat) (e:Ending) (w':World):Prop:=∃v1 v2,e=.returned (.tuple #[v1,v2])/\bQ .u64 b64 w' v1 q/\bQ .u64 b64 w' v2 r/\Below w.heap.size w w'
theorem EV (w:World) (v1 v2:Value) (m n:Nat) (h1:bQ .u64 b64 w v1 m) (h2:bQ .u64 b64 w v2 n) (hlt:m<n):
  Calls Tryz.prog 121 #[v1,v2] w (CJ w (m/n) (m%n)):=by
 rw[Nat.div_eq_of_lt hlt,Nat.mod_eq_of_lt hlt]
 go_enter Tryz.func121,Tryz.ntmps121
 go_wp2_with fail
 refine(ju _ _ _ _ _ h1 h2).mono ?_
 rintro e w1 ⟨rfl,hb1⟩
 rw[show bZ m n = -1 by unfold bZ; rw[if_pos hlt]]
 have Ei:=h1.below hb1
 go_wp2
 go_ret2
 exact⟨_,_,rfl,bQ.zero _ _ _,Ei,hb1⟩
variable {m n:Nat}
theorem CZ (h:n<=m):∃z,bZ m n=z/\¬(z<0):=⟨_,rfl,by unfold bZ; rw[if_neg (by omega)]; split<;>omega⟩
theorem EX (w:World) (v1 v2:Value) (m n:Nat) (h1:bQ .u64 b64 w v1 m) (h2:bQ .u64 b64 w v2 n) (hle:n<=m) (h0:0<n) (hn:n<b64) {j:Nat} (hj:Bd j m) (fA:j<=1000000000):
  Calls Tryz.prog 121 #[v1,v2] w (CJ w (m/n) (m%n)):=by
 obtain⟨z,hz,hz0⟩:=CZ hle
 have HZ:=bx hz
 have hr:m%n<b64:=Nat.lt_trans (Nat.mod_lt m h0) hn
 have HR:=bx hr
 have HN:=bx hn
 clear hz hr hn
 have hc:=ju w v1 v2 m n h1 h2
 rw[HZ.out]at hc
 obtain⟨b,o,c,rfl,hcell⟩:=h2.one h0 HN.out
 go_enter Tryz.func121,Tryz.ntmps121
 go_wp2_with fail
 refine hc.mono ?_
 rintro e w1 ⟨rfl,hb1⟩
 have Ei:=h1.below hb1
 have hcell1:w1.cell? ⟨b,o,none⟩=some (.int .u64 (n:Int)):=by rw[hb1.cell (World.block_lt_of_cell? w _ hcell)]; exact hcell
 clear hc hcell
 go_wp2_with fail
 refine(GY w1 v1 m n Ei hj fA h0 HN.out).mono ?_
 rintro e w2 ⟨vq,rfl,hq,hb2⟩
 go_wp2_with fail
 refine(rF w2 (m%n) HR.out).mono ?_
 rintro e w3 ⟨vr,rfl,hr3,hb3⟩
 go_wp2
 go_ret2
 exact⟨_,_,rfl,hq.below hb3,hr3,(hb1.trans (hb2.mono hb1.size)).trans (hb3.mono (Nat.le_trans hb1.size hb2.size))⟩
theorem Po {T V Q:Nat} (hT:0<T) (h:V+Q*b64^0*(n*T)=m*T) (hlt:V<n*T):Q=m/n/\V/T=m%n/\V<=m*T:=by
 rw[Nat.pow_zero,Nat.mul_one]at h
 obtain⟨h1,h2⟩:=pD (m:=m*T) (d:=n*T) (q:=Q) (r:=V) (by omega) hlt
 rw[Nat.mul_div_mul_right _ _ hT]at h1
 rw[Nat.mul_mod_mul_right]at h2
 exact⟨h1.symm,by rw[<-h2,Nat.mul_div_cancel _ hT],by omega⟩
theorem Row.grown {w w':World} {k:IntKind} {e:TypeId} {g g':Nat} {l:List Nat} (h:Row w k e g l) (hg:w.grownBy w' (some g')) (hne:g'≠g):Row w' k e g l:=by
 obtain⟨rest,h1⟩:=h
 exact⟨rest,by rw[<-h1]; exact hg.block g (Row.lt ⟨rest,h1⟩) (by simp; omega)⟩
theorem lC (h:b64<=n):2<=(af b64 n).length:=by
 rcases Nat.lt_or_ge (af b64 n).length 2 with hl|hl
 ·have:=nB av n
  have:b64^(af b64 n).length<=b64^1:=Nat.pow_le_pow_right (by unfold b64; omega) (by omega)
  rw[Nat.pow_one]at this
  omega
 ·exact hl
theorem vV (h:n<=m):(af b64 n).length<=(af b64 m).length:=by
 rcases Nat.lt_or_ge (af b64 m).length (af b64 n).length with hl|hl
 ·have:=di av hl; omega
 ·exact hl
theorem EW (w:World) (v1 v2:Value) (m n:Nat) (h1:bQ .u64 b64 w v1 m) (h2:bQ .u64 b64 w v2 n) (hle:n<=m) (hn:b64<=n) {j:Nat} (hj:Bd j m) (fA:j<=100000000):
  Calls Tryz.prog 121 #[v1,v2] w (CJ w (m/n) (m%n)):=by
 obtain⟨z,hz,hz0⟩:=CZ hle
 have hc:=ju w v1 v2 m n h1 h2
 rw[hz]at hc
 clear hz
 have Vt:=lC hn
 have TX:=oH av n
 have hwn:=cj av n
 obtain⟨B,d,rfl,hb⟩:=id h2
 obtain⟨bb,ob,tb,rfl,hcb,HTB⟩:=hb.get (i:=(af b64 n).length-1) (by omega)
 have htb:0<tb:=by
  rcases Nat.eq_zero_or_pos tb with rfl|h
  ·exfalso; apply TX
   rw[List.getLast?_eq_getElem?]; exact HTB.out
  ·exact h
 have Zb:tb<b64:=hwn _ (List.mem_of_getElem? HTB.out)
 obtain⟨s,hs,hs1⟩:∃s,s=64-Lib.bitLen tb/\s<=64:=⟨_,rfl,by omega⟩
 have hbl:=hb.len
 have HS:=bx hs
 have HTP:=bx (And.intro htb Zb)
 have hNe:(((af b64 n).length:Int)==1)=false:=beq_eq_false_iff_ne.2 (by omega)
 have hN0:(0:Int)<=((af b64 n).length:Int)-1:=by omega
 have hjs:Bd (j+65) (m*2^s):=(hj.mul (show Bd 65 (2^s)from Nat.pow_lt_pow_right (by omega) (by omega)))
 have hjn:Bd j n:=hj.le hle
 have hmn:n*2^s<=m*2^s:=Nat.mul_le_mul_right _ hle
 have hnV:b64<=n*2^s:=Nat.le_trans hn (Nat.le_mul_of_pos_right n (Nat.two_pow_pos s))
 have HH:=bx (And.intro hmn hnV)
 have HJ:=bx (And.intro hj (And.intro hjn hjs))
 clear hs htb Zb hj hjn hjs hmn hnV TX hn hwn
 generalize hN:(af b64 n).length=N at *
 clear hN
 go_enter Tryz.func121,Tryz.ntmps121
 go_wp2_with fail
 refine hc.mono ?_
 rintro e w1 ⟨rfl,hb1⟩
 have h11:=h1.below hb1
 have OK:=h2.below hb1
 have ab7:w1.cell? ⟨bb,ob+(N-1),none⟩=some (.int .u64 (tb:Int)):=by rw[hb1.cell (World.block_lt_of_cell? w _ hcb)]; exact hcb
 clear hc hcb h1 h2 hb
 go_wp2_with fail
 refine(Zx tb HTP.out.1 HTP.out.2 w1).mono ?_
 rintro e w' ⟨rfl,rfl⟩
 rw[<-HS.out]
 go_wp2_with fail
 refine(Fq w1 _ n s OK HJ.out.2.1 (by omega) (by omega)).mono ?_
 rintro e w2 ⟨v,rfl,hv2,hb2⟩
 have h12:=h11.below hb2
 have De:=hb1.trans (hb2.mono hb1.size)
 clear h11 OK ab7 hb1 hb2
 go_wp2_with fail
 have dX:=(Below.refl w2.heap.size w2).alloc (Nat.le_refl _) (.cells #[] 207)
 refine(Fq _ _ m s (h12.below dX) HJ.out.1 (by omega) (by omega)).mono ?_
 rintro e w3 ⟨x,rfl,hx3,hb3⟩
 have TR:(w2.alloc (.cells #[] 207)).ownsRow w2.heap.size 207 1 (.slice (some ⟨w2.heap.size,0,none⟩) 0 0) 0 (iD .u64 []):=World.ownsRow_made w2 #[] 0 (Nat.le_refl _) (Nat.zero_le _) rfl
 have Kf:=TR.kept (dz hb3 none) (.inr (by simp[Value.ownBlock]))
 have xK:Below w2.heap.size w2 w3:=dX.trans (hb3.mono dX.size)
 have hv3:=hv2.below xK
 have h13:=h12.below xK
 clear TR dX hb3 h12
 obtain⟨X,cx,rfl,hxr⟩:=hx3
 have Ik:(af b64 (m*2^s)).length<=100000000:=by
  have:=uH HJ.out.2.2; omega
 have ade:=vV HH.out.1
 have ac5:=lC HH.out.2
 obtain⟨V,cv,rfl,Q6⟩:=hv2
 clear hv3
 have hvB:=(JI.of Q6).vZ (dz xK none) (by intro g hg; cases hg)
 clear Q6
 have Yw:=bx (bI av (n*2^s))
 have hVw:=cj av (n*2^s)
 have hVt:=bx (oH av (n*2^s))
 have hXv:=bx (bI av (m*2^s))
 have hXw:=cj av (m*2^s)
 generalize af b64 (n*2^s)=vl at *
 generalize af b64 (m*2^s)=al at *
 obtain⟨bxx,ox,x0,rfl,Dg,_⟩:=hxr.get (i:=0) (by omega)
 clear Dg
 go_upto_region 9 with(first
  |(at_builtin; refine tO _ rfl (.tmp 45) (.tmp 48) _ rfl .u64 207 w2.heap.size Tryz.underlying38 n6 (.slice (some ⟨w2.heap.size,0,none⟩) 0 0) [] rfl Kf _ _ _ al _ rfl rfl hxr (by simp; omega) xK.size ?_; intro U4 A4 c4 w4 WQ uA hg4)
  |(at_builtin; refine tO _ rfl (.tmp 49) (.tmp 50) _ rfl .u64 207 w2.heap.size Tryz.underlying38 n6 (.slice A4 U4.length c4) U4 rfl (uA.alloc _) _ _ _ [0] 1 rfl rfl ((Row.new w4 .u64 207 [0]).gL (c:=1) (by simp) (by simp[maxLen])) (by rw[WQ.out]; simp; omega) (by simp; have h5:=xK.size; have h6:=hg4.size; omega) ?_; intro U A5 c5 w5 Xv TS hg5))
 have hUl:U.length=al.length+1:=by rw[Xv.out,WQ.out]; simp
 have Zc:=hvB.vZ hg4 (by intro g hg; simp[Value.ownBlock]at hg; omega)
 have O4:∀k,(Value.slice A4 U4.length c4).ownBlock=some k->w2.heap.size<=k:=λk hk=>(uA.lt k hk).1
 have Zd:=(Zc.vZ (World.grownBy_alloc w4 _ none) (by intro g hg; cases hg)).vZ hg5 O4
 have Eh:Below w.heap.size w w4:=(De.trans (xK.mono De.size)).grown hg4 (Nat.le_trans De.size xK.size) (by intro g hg; simp[Value.ownBlock]at hg; have:=De.size; omega)
 have hB5:Below w.heap.size w w5:=(Eh.alloc Eh.size (.cells #[.int .u64 0] 207)).grown hg5 (by have:=Eh.size; simp; omega) (by intro g hg; have:=O4 g hg; have:=De.size; omega)
 obtain⟨g,rfl,hgB,hRU,yg,hUm⟩:=F9 TS (by omega)
 clear hvB Zc O4 Eh hg4 hg5 Kf uA TS h13 hxr
 have Yu:Bx (val b64 U+val b64 (List.drop (U.length-vl.length) (List.replicate (U.length-vl.length) 0))*b64^(U.length-vl.length)*(n*2^s)=m*2^s):=by
  refine bx ?_
  rw[List.drop_of_length_le (by simp),Le,Nat.zero_mul,Nat.zero_mul,Nat.add_zero,Xv.out,WQ.out,List.nil_append,kH,hXv.out]
  simp[val]
 have Yn:Bx (val b64 (U.drop (U.length-vl.length))<n*2^s):=by
  refine bx ?_
  have e1:U.drop (U.length-vl.length)=(al.drop (U.length-vl.length))++[0]:=by
   rw[Xv.out,WQ.out,List.nil_append,List.drop_append_of_le_length (by simp; omega)]
  rw[e1,kH]
  have h1:=kI (hXw.drop (U.length-vl.length))
  have h2:=rh av (n:=n*2^s) (by have:=HH.out.2; unfold b64 at this; omega)
  have h3:(af b64 (n*2^s)).length=vl.length:=by rw[<-Yw.out,qC av hVw hVt.out]
  rw[h3]at h2
  rw[List.length_drop,show al.length-(U.length-vl.length)=vl.length-1 by omega]at h1
  simp[val]
  omega
 have hUw:Wf b64 U:=by rw[Xv.out,WQ.out]; exact(Wf.append (Wf.nil _) hXw).append (Wf.cons (by unfold b64; omega) (Wf.nil _))
 have hUl1:vl.length+1<=U.length:=by omega
 have hUl2:U.length<=100000001:=by omega
 clear WQ Xv hUl hXw hXv Ik ade
 go_wp2_with (at_make; go_loud (refine en _ rfl _ _ _ rfl .u64 207 Tryz.underlying38 n6 _ _ rfl rfl (by omega) (by omega) (by omega) ?_); intro w6 hrow dZ hsz)
 rw[show((U.length:Int)-(vl.length:Int)).toNat=U.length-vl.length by omega]at hrow
 rw[show decide (z<0)=false from decide_eq_false (by omega)]
 have Yt:=hRU.keep dZ
 have Ze:=Zd.vZ (dz dZ none) (by intro g hg; cases hg)
 have hB6:=hB5.trans (dZ.mono hB5.size)
 have hgq:g≠w5.heap.size:=by have:=hRU.lt; omega
 generalize hQn:U.length-vl.length=Qn at *
 have HQN:=bx hQn
 have hq1:(Qn:Int)<=100000001:=by omega
 have hcc:c5<=9223372036854775807:=by unfold maxLen at hUm; omega
 have HGQ:=bx hgq
 have HSZ:=bx (And.intro hB5.size (show w2.heap.size<=w5.heap.size by have:=hRU.lt; omega))
 have aa1:=bx (show w.heap.size<=g by have:=De.size; omega)
 clear hRU Zd hB5 dZ hsz hQn hz0 hgq HTB hNe hN0 hbl Vt De xK
 go_loopw [13] (λs13 wr=>∃(i:Nat) (M qs:List Nat),i<=Qn/\s13=.int .i64 ((i:Int)-1)/\Bx (M.length=U.length)/\Wf b64 M/\Bx (qs.length=Qn)/\Wf b64 qs/\Row wr .u64 207 g M/\Row wr .u64 207 w5.heap.size qs/\JI wr w2.heap.size .u64 V cv vl/\Below w.heap.size w wr /\
   Bx (val b64 M+val b64 (qs.drop i)*b64^i*(n*2^s)=m*2^s)/\Bx (val b64 (M.drop i)<n*2^s)) (λs13 _=>(intOf s13+1).toNat)
 case atStart=>exact⟨Qn,U,List.replicate Qn 0,Nat.le_refl _,rfl,bx rfl,hUw,bx (by simp),Wf.replicate (by unfold b64; omega) _,Yt,hrow,Ze,hB6,Yu,Yn⟩
 case round=>
  clear Yt hrow Ze hB6 Yu Yn
  obtain⟨i,M,qs,hi,rfl,NK,O9,Xt,RS,TU,hrq,Q6,Nv,er,Lj⟩:=hrel
  rcases Nat.eq_zero_or_pos i with rfl|hpos
  ·rw[show(((0:Nat):Int)-1) = -1 by omega]
   go_wp2_with fail
   obtain⟨e1,e2,e3⟩:=Po (Nat.two_pow_pos s) er.out Lj.out
   have E1:=bx e1
   have E2:=bx e2
   have E3:=bx (HJ.out.2.2.le e3)
   clear e1 e2 e3 hcc hq1
   refine(lP wr (some ⟨w5.heap.size,0,none⟩) Qn qs (m/n) (hrq.gL (by rw[Xt.out]; exact Nat.le_refl _) (by have:=HQN.out; unfold maxLen; omega)) RS Qn Xt.out E1.out).mono ?_
   rintro e w' ⟨rfl,vq,rfl,hnq⟩
   go_wp2_with fail
   refine(lP wr (some ⟨g,0,none⟩) c5 M _ (TU.gL (by rw[NK.out]; exact yg) hUm) O9 U.length NK.out rfl).mono ?_
   rintro e w' ⟨rfl,vM,rfl,hnM⟩
   go_wp2_with fail
   refine(MM wr vM (val b64 M) s hnM E3.out (by omega) (by omega)).mono ?_
   rintro e wf ⟨vr,rfl,hnr,hbf⟩
   go_wp2
   go_ret2
   rw[E2.out]at hnr
   exact⟨_,_,rfl,hnq.below hbf,hnr,Nv.trans (hbf.mono Nv.size)⟩
  ·obtain⟨k,rfl⟩:∃k,i=k+1:=⟨i-1,by omega⟩
   rw[show(((k+1:Nat):Int)-1)=(k:Int) by omega]
   have yj:(0:Int)<=(k:Int):=by omega
   have ot:(k:Int)<(Qn:Int):=by omega
   have hk2:(k:Int)+(vl.length:Int)+1<=(c5:Int):=by have:=HQN.out; omega
   go_wp2_with fail
   have YY:k+(vl.length+1)<=M.length:=by have:=HQN.out; have:=NK.out; omega
   have Vo:=xo YY O9 (V:=n*2^s) Lj.out
   rw[<-Yw.out]at Vo
   have YK:vl.length+1<=c5-k:=by omega
   rw[show k+vl.length+1-k=vl.length+1 by omega]
   have YL:c5-k<=maxLen:=Nat.le_trans (Nat.sub_le _ _) hUm
   have Zg:vl.length<=1000000000:=by omega
   refine(Lx wr w2.heap.size g k (c5-k) M vl V cv TU O9 YY YK YL Q6 hgB hVw Zg ac5 hVt.out Vo).mono ?_
   clear Vo YK
   rintro e wd ⟨rfl,hgd,M',Va,ac7,acZ,Ih,hdr,xL⟩
   have VD:=hrq.grown hgd HGQ.out
   have ac6:=Q6.grown hgd hgB
   have abF:=Nv.grown hgd Nv.size (by intro g' zw; injection zw with zw; have:=aa1.out; omega)
   obtain⟨l1,l2⟩:=Mj Va YY (show n*2^s<b64^vl.length by rw[<-Yw.out]; exact kI hVw) (by rw[Xt.out]; omega) Ih hdr (by rw[<-Yw.out]; exact xL) Lj.out er.out
   rw[Yw.out]
   have O3:val b64 (win M k (vl.length+1))/(n*2^s)<b64:=by
    rw[Nat.div_lt_iff_lt_mul (by have:=Lj.out; omega),Nat.mul_comm]
    exact xo YY O9 Lj.out
   have aaV:=bx (Va.trans NK.out)
   generalize hqd:val b64 (win M k (vl.length+1))/(n*2^s)=qd at *
   have HL1:=bx l1
   have HL2:=bx l2
   have HQD:=bx O3
   clear YL Zg l1 l2 O3 hqd Ih hdr xL Va YY TU hrq Q6 Nv O9 NK hgd er Lj
   obtain⟨vo,LO,NL⟩:=VD.get (i:=k) (by have:=Xt.out; omega)
   have AR:=VD.frozen k
   go_wp2
   go_roundw
   case rel=>
    exact⟨k,M',qs.set k qd,by omega,by go_num,aaV,ac7,bx (by rw[List.length_set]; exact Xt.out),RS.set HQD.out,acZ.Ry (by simpa using HGQ.out) _,VD.set _ _,ac6.vZ (BO _ _ _ _) (by intro g' zw; injection zw with zw; have:=HSZ.out.2; omega),abF.setCell HSZ.out.1 _,HL1,HL2⟩
   case measure=>simp[intOf]
theorem jW (w:World) (v1 v2:Value) (m n:Nat) (h1:bQ .u64 b64 w v1 m) (h2:bQ .u64 b64 w v2 n) (h0:0<n) {j:Nat} (hj:Bd j m) (fA:j<=100000000):
  Calls Tryz.prog 121 #[v1,v2] w (CJ w (m/n) (m%n)):=by
 rcases Nat.lt_or_ge m n with hlt|hge
 ·exact EV w v1 v2 m n h1 h2 hlt
 ·rcases Nat.lt_or_ge n b64 with hn|hn
  ·exact EX w v1 v2 m n h1 h2 hge h0 hn hj (by omega)
  ·exact EW w v1 v2 m n h1 h2 hge hn hj fA
end Wx

namespace Wx
set_option maxHeartbeats 1000000
open Go Go.RowKit Go.Proofs
variable {w:World} {k:IntKind}
theorem Rd.inj {A:Option Addr} {c c':Nat} {l r:List Nat} (h:Rd w k A c l) (g:Rd w k A c' r) (hl:l.length=r.length):l=r:=by
 apply List.ext_getElem hl
 intro i h1 h2
 obtain⟨b,o,e,hc⟩:=h.at_ (i:=i) h1
 obtain⟨b',o',e',hc'⟩:=g.at_ (i:=i) h2
 rw[e]at e'
 injection e' with e'
 injection e' with e1 e2
 subst e1 e2
 rw[hc]at hc'
 injection hc' with hc'
 injection hc' with _ hc'
 rw[List.getD_eq_getElem?_getD,List.getD_eq_getElem?_getD,List.getElem?_eq_getElem h1,List.getElem?_eq_getElem h2]at hc'
 simp only[Option.getD_some]at hc'
 omega
variable {v:Value} {n:Nat}
theorem bQ.inj {m:Nat} (h:bQ k b64 w v m) (g:bQ k b64 w v n):m=n:=by
 obtain⟨A,c,rfl,hr⟩:=h
 obtain⟨A',c',e,gr⟩:=g
 injection e with e1 e2 e3
 subst e1
 exact ES av (hr.inj gr e2)
open Classical in
noncomputable def numOf (w:World) (v:Value):Nat:=if h:∃n,bQ .u64 b64 w v n then choose h else 0
theorem bQ.of_eq (h:bQ .u64 b64 w v n):numOf w v=n:=by
 have hx:∃n,bQ .u64 b64 w v n:=⟨n,h⟩
 unfold numOf
 rw[dif_pos hx]
 exact(Classical.choose_spec hx).inj h
theorem tu (h:n<b64):(af b64 n).length<=1:=jz av (by simpa using h)
theorem Aw (h:¬n<b64):2<=(af b64 n).length:=lC (by omega)
theorem yb (w:World) (v1 v2:Value) (m n:Nat) (h1:bQ .u64 b64 w v1 m) (h2:bQ .u64 b64 w v2 n) {j:Nat} (hj:Bd j m) (hk:Bd j n) (fA:j<=100000000):
  Calls Tryz.prog 120 #[v1,v2] w (jR .u64 b64 w (Nat.gcd m n)):=by
 have HX:=bx (And.intro hj hk)
 clear hj hk
 obtain⟨G,hG⟩:∃G,G=Nat.gcd m n:=⟨_,rfl⟩
 rw[<-hG]
 have HG:=bx hG
 clear hG
 go_enter Tryz.func120,Tryz.ntmps120
 go_wp2_with fail
 go_loopw [0,1] (λs0 s1 wr=>∃x y:Nat,bQ .u64 b64 wr s0 x/\bQ .u64 b64 wr s1 y/\Bx (G=Nat.gcd x y)/\Bx (Bd j x/\Bd j y)/\Below w.heap.size w wr) (λ_ s1 wr=>numOf wr s1)
 case atStart=>exact⟨_,_,h1,h2,HG,HX,Below.refl _ _⟩
 case round=>
  clear h1 h2 HG HX
  obtain⟨x,y,hx,hy,HG,HX,hb⟩:=hrel
  rcases Nat.eq_zero_or_pos y with rfl|hy0
  ·obtain⟨A,c,rfl,hr⟩:=id hy
   rw[bN]at hr ⊢
   go_wp2
   go_ret
   exact⟨_,rfl,by rw[HG.out,Nat.gcd_zero_right]; exact hx,hb⟩
  ·obtain⟨A,c,rfl,hr⟩:=id hx
   obtain⟨B,d,rfl,hs⟩:=id hy
   have AB:(1:Int)<=((af b64 y).length:Int):=by have:=(aQ (n:=y) av).2 hy0; omega
   by_cases hx1:x<b64
   ·by_cases AE:y<b64
    ·have a1:((af b64 x).length:Int)<=1:=by have:=tu hx1; omega
     have a2:((af b64 y).length:Int)<=1:=by have:=tu AE; omega
     have HX1:=bx hx1
     have HY1:=bx AE
     have Lk:=bx hy0
     clear hx1 AE hy0
     go_wp2_with fail
     refine(M3 wr _ _ x y hx hy HX1.out HY1.out Lk.out).mono ?_
     rintro e w2 ⟨rfl,hb2⟩
     go_wp2_with fail
     refine(rF w2 _ (Nat.lt_of_le_of_lt (Nat.gcd_le_right x Lk.out) HY1.out)).mono ?_
     rintro e w3 ⟨vr,rfl,hr3,hb3⟩
     go_wp2
     go_ret
     exact⟨_,rfl,by rw[HG.out]; exact hr3,(hb.trans (hb2.mono hb.size)).trans (hb3.mono (Nat.le_trans hb.size hb2.size))⟩
    ·have a1:((af b64 x).length:Int)<=1:=by have:=tu hx1; omega
     have a2:(2:Int)<=((af b64 y).length:Int):=by have:=Aw AE; omega
     have Lk:=bx hy0
     clear hx1 AE hy0
     go_wp2_with fail
     refine(jW wr _ _ x y hx hy Lk.out HX.out.1 fA).mono ?_
     rintro e w2 ⟨vq,vr,rfl,hq,hr2,hb2⟩
     have Zj:=hy.below hb2
     go_wp2
     go_roundw
     case rel=>exact⟨y,x%y,Zj,hr2,bx (by rw[HG.out,Nat.gcd_comm x y,Nat.gcd_rec y x,Nat.gcd_comm]),bx ⟨HX.out.2,HX.out.2.le (Nat.le_of_lt (Nat.mod_lt _ Lk.out))⟩,hb.trans (hb2.mono hb.size)⟩
     case measure=>rw[hr2.of_eq,hy.of_eq]; exact Nat.mod_lt _ Lk.out
   ·have a1:(2:Int)<=((af b64 x).length:Int):=by have:=Aw hx1; omega
    have Lk:=bx hy0
    clear hx1 hy0
    go_wp2_with fail
    refine(jW wr _ _ x y hx hy Lk.out HX.out.1 fA).mono ?_
    rintro e w2 ⟨vq,vr,rfl,hq,hr2,hb2⟩
    have Zj:=hy.below hb2
    go_wp2
    go_roundw
    case rel=>exact⟨y,x%y,Zj,hr2,bx (by rw[HG.out,Nat.gcd_comm x y,Nat.gcd_rec y x,Nat.gcd_comm]),bx ⟨HX.out.2,HX.out.2.le (Nat.le_of_lt (Nat.mod_lt _ Lk.out))⟩,hb.trans (hb2.mono hb.size)⟩
    case measure=>rw[hr2.of_eq,hy.of_eq]; exact Nat.mod_lt _ Lk.out
end Wx

namespace Wx
set_option maxHeartbeats 1000000
open Go Go.RowKit Go.Proofs
def Eo (w:World) (g:Nat):Prop:=∀i k z,w.cell? ⟨g,i,none⟩≠some (.int k z)
def dO (w:World) (g:Nat) (x y z:Value) (e:TypeId):Prop:=w.heap[g]?=some (.cells #[x,y,z] e (0,0))
variable {w:World} {g:Nat} {x y z:Value} {e:TypeId}
theorem dO.c0 (h:dO w g x y z e):w.cell? ⟨g,0,none⟩=some x:=by unfold dO at h; simp[World.cell?,h]
theorem dO.c1 (h:dO w g x y z e):w.cell? ⟨g,1,none⟩=some y:=by unfold dO at h; simp[World.cell?,h]
theorem dO.c2 (h:dO w g x y z e):w.cell? ⟨g,2,none⟩=some z:=by unfold dO at h; simp[World.cell?,h]
theorem dO.fz (h:dO w g x y z e) (i:Nat):w.frozen? ⟨g,i,none⟩=false:=by unfold dO at h; simp[World.frozen?,h]
variable {w':World}
theorem dO.below {B:Nat} (h:dO w g x y z e) (hb:Below B w w') (hg:g<B):dO w' g x y z e:=(hb.block g hg).trans h
theorem dO.new (w:World) (x y z:Value) (e:TypeId):dO (w.alloc (.cells #[x,y,z] e)) w.heap.size x y z e:=by unfold dO; exact heap_alloc_new _ _
theorem lI (w:World) (o:Obj):w.heap.size<(w.alloc o).heap.size:=by simp
theorem dO.mG (h:dO w g x y z e) (hx:∀k n,x≠.int k n) (hy:∀k n,y≠.int k n) (hz:∀k n,z≠.int k n):Eo w g:=by
 intro i k n hc
 unfold dO at h
 simp only[World.cell?,h]at hc
 match i,hc with
 |0,hc=>exact hx k n (by simpa using hc)
 |1,hc=>exact hy k n (by simpa using hc)
 |2,hc=>exact hz k n (by simpa using hc)
 |n+3,hc=>simp at hc
theorem dO.SU (h:dO w g x y z e) (u:Value):dO (w.setCell ⟨g,0,none⟩ u) g u y z e:=by
 unfold dO at *; simp[World.setCell,Array.getElem?_modify,h]
theorem dO.SV (h:dO w g x y z e) (u:Value):dO (w.setCell ⟨g,1,none⟩ u) g x u z e:=by
 unfold dO at *; simp[World.setCell,Array.getElem?_modify,h]
theorem dO.SW (h:dO w g x y z e) (u:Value):dO (w.setCell ⟨g,2,none⟩ u) g x y u e:=by
 unfold dO at *; simp[World.setCell,Array.getElem?_modify,h]
variable {k:IntKind}
theorem Rd.mG {A:Option Addr} {c:Nat} {l:List Nat} (h:Rd w k A c l) {g:Nat} (hg:Eo w g) (i:Nat) (u:Value):Rd (w.setCell ⟨g,i,none⟩ u) k A c l:=by
 obtain⟨h1,h2,h3⟩:=h
 refine⟨h1,h2,λhne=>?_⟩
 obtain⟨b,o,e,hc⟩:=h3 hne
 refine⟨b,o,e,λi' hi=>?_⟩
 have O0:b≠g:=by rintro rfl; exact hg _ _ _ (hc i' hi)
 rw[World.cell?_of_block (Below.heap_setCell w ⟨g,i,none⟩ u b O0)]
 exact hc i' hi
variable {v:Value} {n:Nat}
theorem bQ.mG (h:bQ k b64 w v n) {g:Nat} (hg:Eo w g) (i:Nat) (u:Value):bQ k b64 (w.setCell ⟨g,i,none⟩ u) v n:=by
 obtain⟨A,c,rfl,hr⟩:=h
 exact⟨A,c,rfl,hr.mG hg i u⟩
def aq (d:Nat):Nat:=if d=1 then 0 else d
def bL (w:World) (v:Value) (q:Rat):Prop:=∃vn vd,v=.agg #[.bool (decide (q.num<0)),vn,vd]/\bQ .u64 b64 w vn q.num.natAbs/\bQ .u64 b64 w vd (aq q.den)
def ig (w:World) (q:Rat) (e:Ending) (w':World):Prop:=∃v,e=.returned v/\bL w' v q/\Below w.heap.size w w'
variable {q:Rat}
theorem bL.below (h:bL w v q) (hb:Below w.heap.size w w'):bL w' v q:=by
 obtain⟨vn,vd,rfl,h1,h2⟩:=h
 exact⟨vn,vd,rfl,h1.below hb,h2.below hb⟩
def aZ (j:Nat) (q:Rat):Prop:=Bd j q.num.natAbs/\Bd j q.den
variable {j:Nat}
theorem aZ.mono {k:Nat} (h:aZ j q) (hk:j<=k):aZ k q:=⟨h.1.mono hk,h.2.mono hk⟩
def sg (neg:Bool) (n:Nat):Int:=if neg then -(n:Int)else n
theorem wS (neg:Bool) (n:Nat):(sg neg n).natAbs=n:=by cases neg<;>simp[sg]
theorem Ai (z:Int):sg (decide (z<0)) z.natAbs=z:=by
 unfold sg
 by_cases h:z<0
 ·rw[decide_eq_true h]; simp; omega
 ·rw[decide_eq_false h]; simp; omega
def gh (neg:Bool) (n d:Nat):Rat:=mkRat (sg neg n) d
variable {neg:Bool} {d:Nat}
theorem FZ (hd:0<d):(gh neg n d).num=sg neg (n/n.gcd d):=by
 unfold gh
 rw[Rat.num_mkRat,if_neg (by omega),wS,Nat.gcd_comm]
 cases neg
 ·simp[sg]
 ·show -(n:Int)/((n.gcd d:Nat):Int) = -((n/n.gcd d:Nat):Int)
  rw[Int.neg_ediv_of_dvd (Int.natCast_dvd_natCast.2 (Nat.gcd_dvd_left n d)),Int.natCast_ediv]
theorem uX (hd:0<d):(gh neg n d).den=d/n.gcd d:=by
 unfold gh
 rw[Rat.den_mkRat,if_neg (by omega),wS,Nat.gcd_comm]
theorem nL (hd:0<d):(gh neg n d).num.natAbs=n/n.gcd d:=by rw[FZ hd,wS]
theorem l5 (hd:0<d) (h1:Bd j n) (h2:Bd j d):aZ j (gh neg n d):=
 ⟨by rw[nL hd]; exact h1.le (Nat.div_le_self _ _),by rw[uX hd]; exact h2.le (Nat.div_le_self _ _)⟩
theorem z7 (hd:0<d) (hn:0<n):decide ((gh neg n d).num<0)=neg:=by
 rw[FZ hd]
 have:0<n/n.gcd d:=Nat.div_pos (Nat.le_of_dvd hn (Nat.gcd_dvd_left n d)) (Nat.gcd_pos_of_pos_left _ hn)
 cases neg<;>simp[sg]<;>omega
theorem Cj:gh neg 0 d=0:=by
 unfold gh sg
 cases neg<;>simp
theorem uW {w3:World} {A1 A2:Option Addr} {l1 l2 c1 c2:Nat} (hg:w.heap.size<=g) (hb:Below w.heap.size w w3) (ho:dO w3 g x y z e)
  (hx:∀k n,x≠.int k n) (hy:∀k n,y≠.int k n) (hz:∀k n,z≠.int k n) (hn:decide (q.num<0)=neg) (h1:bQ .u64 b64 w3 (.slice A1 l1 c1) q.num.natAbs) (h2:bQ .u64 b64 w3 (.slice A2 l2 c2) (aq q.den)):
  ∃wf,((w3.setCell ⟨g,0,none⟩ (.bool neg)).setCell ⟨g,1,none⟩ (.slice A1 l1 c1)).setCell ⟨g,2,none⟩ (.slice A2 l2 c2)=wf/\wf.cell? ⟨g,0,none⟩=some (.bool neg)/\wf.cell? ⟨g,1,none⟩=some (.slice A1 l1 c1)/\wf.cell? ⟨g,2,none⟩=some (.slice A2 l2 c2) /\
   ig w q (.returned (.agg #[.bool neg,.slice A1 l1 c1,.slice A2 l2 c2])) wf:=by
 have n0:=ho.mG hx hy hz
 have o1:=ho.SU (.bool neg)
 have n1:=o1.mG (by simp) hy hz
 have o2:=o1.SV (.slice A1 l1 c1)
 have n2:=o2.mG (by simp) (by simp) hz
 have o3:=o2.SW (.slice A2 l2 c2)
 refine⟨_,rfl,o3.c0,o3.c1,o3.c2,_,rfl,⟨_,_,by rw[hn],((h1.mG n0 _ _).mG n1 _ _).mG n2 _ _,((h2.mG n0 _ _).mG n1 _ _).mG n2 _ _⟩,((hb.setCell hg _).setCell hg _).setCell hg _⟩
theorem ew (w:World):bL w (.agg #[.bool false,.slice none 0 0,.slice none 0 0]) 0:=⟨_,_,rfl,bQ.zero _ _ _,bQ.zero _ _ _⟩
theorem oF:aq 1=0:=rfl
theorem qA (h:d≠1):aq d=d:=if_neg h
theorem kF (w:World) (v:Value) (d:Nat) (h:bQ .u64 b64 w v (aq d)) (hd:0<d):Calls Tryz.prog 65 #[v] w (jR .u64 b64 w d):=by
 by_cases h1:d=1
 ·subst h1
  obtain⟨A,c,rfl,hr⟩:=id h
  rw[oF,bN]
  go_enter Tryz.func65,Tryz.ntmps65
  go_wp2_with fail
  refine(rF w 1 (by unfold b64; omega)).mono ?_
  rintro e w3 ⟨vr,rfl,hr3,hb3⟩
  go_wp2
  go_ret
  exact⟨_,rfl,hr3,hb3⟩
 ·rw[qA h1]at h
  obtain⟨A,c,rfl,hr⟩:=id h
  have hl:(((af b64 d).length:Int)==0)=false:=beq_eq_false_iff_ne.2 (by have:=(aQ (n:=d) av).2 hd; omega)
  go_enter Tryz.func65,Tryz.ntmps65
  go_wp2
  go_ret
  exact⟨_,rfl,h,Below.refl _ _⟩
theorem nM (w:World) (neg:Bool) (v1 v2:Value) (n d:Nat) (h1:bQ .u64 b64 w v1 n) (h2:bQ .u64 b64 w v2 d) (hd:0<d) {j:Nat} (hj:Bd j n) (hk:Bd j d) (fA:j<=100000000):
  Calls Tryz.prog 67 #[.bool neg,v1,v2] w (ig w (gh neg n d)):=by
 rcases Nat.eq_zero_or_pos n with rfl|hn
 ·obtain⟨A,c,rfl,hr⟩:=id h1
  rw[bN,Cj]
  go_enter Tryz.func67,Tryz.ntmps67
  go_wp2
  go_returns
  exact⟨_,rfl,ew _,Below.alloc (Below.refl _ _) (Nat.le_refl _) _⟩
 ·obtain⟨B,c,rfl,hr⟩:=id h1
  have hl:(((af b64 n).length:Int)==0)=false:=beq_eq_false_iff_ne.2 (by have:=(aQ (n:=n) av).2 hn; omega)
  obtain⟨g,hg⟩:∃g,g=n.gcd d:=⟨_,rfl⟩
  obtain⟨q,hq⟩:∃q,q=gh neg n d:=⟨_,rfl⟩
  have hg0:0<g:=by rw[hg]; exact Nat.gcd_pos_of_pos_left _ hn
  have q1:=nL (neg:=neg) (n:=n) hd
  have q2:=uX (neg:=neg) (n:=n) hd
  have q3:=z7 (neg:=neg) hd hn
  rw[<-hq,<-hg]at q1 q2
  rw[<-hq]at q3
  rw[<-hq]
  have HQ:=bx (And.intro q1 (And.intro q2 q3))
  have HJ:=bx (And.intro hj hk)
  have HG:=bx hg
  clear q1 q2 q3 hq hj hk hg hn
  by_cases Nu:g=1
  ·subst Nu
   rw[Nat.div_one,Nat.div_one]at HQ
   by_cases AA:d=1
   ·have Bp:=bx AA
    clear AA
    go_enter Tryz.func67,Tryz.ntmps67
    go_wp2_with fail
    have hb0:=Below.alloc (Below.refl w.heap.size w) (Nat.le_refl _) (.cells #[.bool false,.slice none 0 0,.slice none 0 0] 40)
    have ho:=dO.new w (.bool false) (.slice none 0 0) (.slice none 0 0) 40
    have hlt:=lI w (.cells #[.bool false,.slice none 0 0,.slice none 0 0] 40)
    generalize w.alloc (.cells #[.bool false,.slice none 0 0,.slice none 0 0] 40)=w0 at *
    refine(yb _ _ _ n d (h1.below hb0) (h2.below hb0) HJ.out.1 HJ.out.2 fA).mono ?_
    rintro e w1 ⟨vg,rfl,Ij,hb1⟩
    rw[<-HG.out]at Ij
    have O2:=ho.below hb1 hlt
    have zx:=Nat.lt_of_lt_of_le hlt hb1.size
    have qL:=hb0.trans (hb1.mono hb0.size)
    have h11:=h1.below qL
    have OK:=h2.below qL
    go_wp2_with fail
    refine(mb w1 vg Ij).mono ?_
    rintro e w' ⟨rfl,rfl⟩
    go_wp2_with fail
    rw[Bp.out]at OK
    refine(mb w1 _ OK).mono ?_
    rintro e w' ⟨rfl,rfl⟩
    have sS:=O2
    have Ur:=qL
    obtain⟨wf,HW,f0,f1,f2,dR⟩:=uW (q:=q) (neg:=neg) (Nat.le_refl _) Ur sS (by simp) (by simp) (by simp) HQ.out.2.2 (by rw[HQ.out.1]; exact h11) (A2:=none) (l2:=0) (c2:=0) (by rw[HQ.out.2.1,Bp.out,oF]; exact bQ.zero _ _ _)
    have Uw:=bx HW
    have HF:=bx (And.intro f0 (And.intro f1 f2))
    clear HW f0 f1 f2
    have k0:=sS.c0
    have k1:=sS.c1
    have k2:=sS.c2
    have k3:=sS.fz 0
    have k4:=sS.fz 1
    have k5:=sS.fz 2
    go_wp2
    rw[Uw.out]
    obtain⟨f0,f1,f2⟩:=HF.out
    (try simp only[Exit.inBlock,Exit.then])
    refine bodyPost_ret (by simp[results,Tryz.results67,go_sem,f0,f1,f2]; try rfl) rfl ?_
    exact dR
   ·have Bp:=bx AA
    clear AA
    go_enter Tryz.func67,Tryz.ntmps67
    go_wp2_with fail
    have hb0:=Below.alloc (Below.refl w.heap.size w) (Nat.le_refl _) (.cells #[.bool false,.slice none 0 0,.slice none 0 0] 40)
    have ho:=dO.new w (.bool false) (.slice none 0 0) (.slice none 0 0) 40
    have hlt:=lI w (.cells #[.bool false,.slice none 0 0,.slice none 0 0] 40)
    generalize w.alloc (.cells #[.bool false,.slice none 0 0,.slice none 0 0] 40)=w0 at *
    refine(yb _ _ _ n d (h1.below hb0) (h2.below hb0) HJ.out.1 HJ.out.2 fA).mono ?_
    rintro e w1 ⟨vg,rfl,Ij,hb1⟩
    rw[<-HG.out]at Ij
    have O2:=ho.below hb1 hlt
    have zx:=Nat.lt_of_lt_of_le hlt hb1.size
    have qL:=hb0.trans (hb1.mono hb0.size)
    have h11:=h1.below qL
    have OK:=h2.below qL
    go_wp2_with fail
    refine(mb w1 vg Ij).mono ?_
    rintro e w' ⟨rfl,rfl⟩
    go_wp2_with fail
    refine(mB w1 _ _ OK Bp.out).mono ?_
    rintro e w' ⟨rfl,rfl⟩
    have sS:=O2
    have Ur:=qL
    obtain⟨A2,c2,rfl,_⟩:=id OK
    obtain⟨wf,HW,f0,f1,f2,dR⟩:=uW (q:=q) (neg:=neg) (Nat.le_refl _) Ur sS (by simp) (by simp) (by simp) HQ.out.2.2 (by rw[HQ.out.1]; exact h11) (by rw[HQ.out.2.1,qA Bp.out]; exact OK)
    have Uw:=bx HW
    have HF:=bx (And.intro f0 (And.intro f1 f2))
    clear HW f0 f1 f2
    have k0:=sS.c0
    have k1:=sS.c1
    have k2:=sS.c2
    have k3:=sS.fz 0
    have k4:=sS.fz 1
    have k5:=sS.fz 2
    go_wp2
    rw[Uw.out]
    obtain⟨f0,f1,f2⟩:=HF.out
    (try simp only[Exit.inBlock,Exit.then])
    refine bodyPost_ret (by simp[results,Tryz.results67,go_sem,f0,f1,f2]; try rfl) rfl ?_
    exact dR
  ·by_cases AA:d/g=1
   ·have HG1:=bx Nu
    have Bp:=bx AA
    clear Nu AA
    go_enter Tryz.func67,Tryz.ntmps67
    go_wp2_with fail
    have hb0:=Below.alloc (Below.refl w.heap.size w) (Nat.le_refl _) (.cells #[.bool false,.slice none 0 0,.slice none 0 0] 40)
    have ho:=dO.new w (.bool false) (.slice none 0 0) (.slice none 0 0) 40
    have hlt:=lI w (.cells #[.bool false,.slice none 0 0,.slice none 0 0] 40)
    generalize w.alloc (.cells #[.bool false,.slice none 0 0,.slice none 0 0] 40)=w0 at *
    refine(yb _ _ _ n d (h1.below hb0) (h2.below hb0) HJ.out.1 HJ.out.2 fA).mono ?_
    rintro e w1 ⟨vg,rfl,Ij,hb1⟩
    rw[<-HG.out]at Ij
    have O2:=ho.below hb1 hlt
    have zx:=Nat.lt_of_lt_of_le hlt hb1.size
    have qL:=hb0.trans (hb1.mono hb0.size)
    have h11:=h1.below qL
    have OK:=h2.below qL
    go_wp2_with fail
    refine(mB w1 vg g Ij HG1.out).mono ?_
    rintro e w' ⟨rfl,rfl⟩
    go_wp2_with fail
    refine(jW w1 _ _ n g h11 Ij hg0 HJ.out.1 fA).mono ?_
    rintro e w2 ⟨vn,vr,rfl,VK,_,hb2⟩
    have H9:=qL.trans (hb2.mono qL.size)
    have h22:=h2.below H9
    have VJ:=Ij.below hb2
    have RP:=O2.below hb2 zx
    have Di:=Nat.lt_of_lt_of_le zx hb2.size
    go_wp2_with fail
    refine(jW w2 _ _ d g h22 VJ hg0 HJ.out.2 fA).mono ?_
    rintro e w3 ⟨vd,vr',rfl,Xe,_,hb3⟩
    have Ur:=H9.trans (hb3.mono H9.size)
    have sS:=RP.below hb3 Di
    have O7:=VK.below hb3
    go_wp2_with fail
    rw[Bp.out]at Xe
    refine(mb w3 vd Xe).mono ?_
    rintro e w' ⟨rfl,rfl⟩
    obtain⟨A1,c1,rfl,_⟩:=id O7
    obtain⟨wf,HW,f0,f1,f2,dR⟩:=uW (q:=q) (neg:=neg) (Nat.le_refl _) Ur sS (by simp) (by simp) (by simp) HQ.out.2.2 (by rw[HQ.out.1]; exact O7) (A2:=none) (l2:=0) (c2:=0) (by rw[HQ.out.2.1,Bp.out,oF]; exact bQ.zero _ _ _)
    have Uw:=bx HW
    have HF:=bx (And.intro f0 (And.intro f1 f2))
    clear HW f0 f1 f2
    have k0:=sS.c0
    have k1:=sS.c1
    have k2:=sS.c2
    have k3:=sS.fz 0
    have k4:=sS.fz 1
    have k5:=sS.fz 2
    go_wp2
    rw[Uw.out]
    obtain⟨f0,f1,f2⟩:=HF.out
    (try simp only[Exit.inBlock,Exit.then])
    refine bodyPost_ret (by simp[results,Tryz.results67,go_sem,f0,f1,f2]; try rfl) rfl ?_
    exact dR
   ·have HG1:=bx Nu
    have Bp:=bx AA
    clear Nu AA
    go_enter Tryz.func67,Tryz.ntmps67
    go_wp2_with fail
    have hb0:=Below.alloc (Below.refl w.heap.size w) (Nat.le_refl _) (.cells #[.bool false,.slice none 0 0,.slice none 0 0] 40)
    have ho:=dO.new w (.bool false) (.slice none 0 0) (.slice none 0 0) 40
    have hlt:=lI w (.cells #[.bool false,.slice none 0 0,.slice none 0 0] 40)
    generalize w.alloc (.cells #[.bool false,.slice none 0 0,.slice none 0 0] 40)=w0 at *
    refine(yb _ _ _ n d (h1.below hb0) (h2.below hb0) HJ.out.1 HJ.out.2 fA).mono ?_
    rintro e w1 ⟨vg,rfl,Ij,hb1⟩
    rw[<-HG.out]at Ij
    have O2:=ho.below hb1 hlt
    have zx:=Nat.lt_of_lt_of_le hlt hb1.size
    have qL:=hb0.trans (hb1.mono hb0.size)
    have h11:=h1.below qL
    have OK:=h2.below qL
    go_wp2_with fail
    refine(mB w1 vg g Ij HG1.out).mono ?_
    rintro e w' ⟨rfl,rfl⟩
    go_wp2_with fail
    refine(jW w1 _ _ n g h11 Ij hg0 HJ.out.1 fA).mono ?_
    rintro e w2 ⟨vn,vr,rfl,VK,_,hb2⟩
    have H9:=qL.trans (hb2.mono qL.size)
    have h22:=h2.below H9
    have VJ:=Ij.below hb2
    have RP:=O2.below hb2 zx
    have Di:=Nat.lt_of_lt_of_le zx hb2.size
    go_wp2_with fail
    refine(jW w2 _ _ d g h22 VJ hg0 HJ.out.2 fA).mono ?_
    rintro e w3 ⟨vd,vr',rfl,Xe,_,hb3⟩
    have Ur:=H9.trans (hb3.mono H9.size)
    have sS:=RP.below hb3 Di
    have O7:=VK.below hb3
    go_wp2_with fail
    refine(mB w3 vd _ Xe Bp.out).mono ?_
    rintro e w' ⟨rfl,rfl⟩
    obtain⟨A1,c1,rfl,_⟩:=id O7
    obtain⟨A2,c2,rfl,_⟩:=id Xe
    obtain⟨wf,HW,f0,f1,f2,dR⟩:=uW (q:=q) (neg:=neg) (Nat.le_refl _) Ur sS (by simp) (by simp) (by simp) HQ.out.2.2 (by rw[HQ.out.1]; exact O7) (by rw[HQ.out.2.1,qA Bp.out]; exact Xe)
    have Uw:=bx HW
    have HF:=bx (And.intro f0 (And.intro f1 f2))
    clear HW f0 f1 f2
    have k0:=sS.c0
    have k1:=sS.c1
    have k2:=sS.c2
    have k3:=sS.fz 0
    have k4:=sS.fz 1
    have k5:=sS.fz 2
    go_wp2
    rw[Uw.out]
    obtain⟨f0,f1,f2⟩:=HF.out
    (try simp only[Exit.inBlock,Exit.then])
    refine bodyPost_ret (by simp[results,Tryz.results67,go_sem,f0,f1,f2]; try rfl) rfl ?_
    exact dR
end Wx
