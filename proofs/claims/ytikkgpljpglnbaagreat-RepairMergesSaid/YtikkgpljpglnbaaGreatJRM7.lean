import Derived.Test.YtikkgpljpglnbaaGreatJRM5
import Derived.Test.YtikkgpljpglnbaaGreatCRMShelf
namespace Wx
variable {Y dN ig u c:Nat}
theorem Kg (hY:Y=dN*4294967296+ig) (h0:ig<4294967296) (h1:2147483648<=dN) (hu:u<Y) (hc:c<4294967296):
  u=u/dN*dN+u%dN/\(u*4294967296+c)/Y<=u/dN/\u/dN<=4294967297/\u%dN<dN:=by
 have hm:u%dN<dN:=Nat.mod_lt _ (by omega)
 have he:u/dN*dN+u%dN=u:=by have:=Nat.div_add_mod u dN; rw[Nat.mul_comm]at this; exact this
 generalize hq:u/dN=q at *
 generalize hr:u%dN=r at *
 refine⟨he.symm,?_,?_,hm⟩
 ·apply Nat.le_of_lt_succ
  rw[Nat.div_lt_iff_lt_mul (by omega),Nat.succ_mul]
  have e:q*Y=q*dN*4294967296+q*ig:=by rw[hY,Nat.mul_add,Nat.mul_assoc]
  rw[e]
  generalize q*dN=A at *
  generalize q*ig=B at *
  omega
 ·rcases Nat.lt_or_ge 4294967297 q with h|h
  ·have:4294967298*dN<=q*dN:=Nat.mul_le_mul_right _ (by omega)
   omega
  ·exact h
variable {q r:Nat}
theorem Eb (hY:Y=dN*4294967296+ig) (h1:2147483648<=dN) (he:u=q*dN+r) (hle:(u*4294967296+c)/Y<=q) (ht:q*ig<=4294967296*r+c):
  q=(u*4294967296+c)/Y:=by
 refine Nat.le_antisymm ?_ hle
 rw[Nat.le_div_iff_mul_le (by omega)]
 have e:q*Y=q*dN*4294967296+q*ig:=by rw[hY,Nat.mul_add,Nat.mul_assoc]
 rw[e]
 generalize q*dN=A at *
 generalize q*ig=B at *
 omega
theorem Kh (hu:u<Y) (hc:c<4294967296):(u*4294967296+c)/Y<4294967296:=by
 rw[Nat.div_lt_iff_lt_mul (by omega)]
 omega
theorem M8 (hY:Y=dN*4294967296+ig) (_h1:2147483648<=dN) (hu:u<Y) (hc:c<4294967296) (he:u=q*dN+r)
  (ht:4294967296<=q\/4294967296*r+c<q*ig):(u*4294967296+c)/Y<q:=by
 rcases ht with ht|ht
 ·exact Nat.lt_of_lt_of_le (Kh hu hc) ht
 ·rw[Nat.div_lt_iff_lt_mul (by omega)]
  have e:q*Y=q*dN*4294967296+q*ig:=by rw[hY,Nat.mul_add,Nat.mul_assoc]
  rw[e]
  generalize q*dN=A at *
  generalize q*ig=B at *
  omega
theorem Gx (hY:Y=dN*4294967296+ig) (h0:ig<4294967296) (h1:2147483648<=dN) (he:u=q*dN+r) (hle:(u*4294967296+c)/Y<=q) (hq:q<=4294967296) (hr:4294967296<=r):
  q=(u*4294967296+c)/Y:=by
 refine Eb hY h1 he hle ?_
 have:q*ig<=4294967296*4294967295:=Nat.mul_le_mul hq (by omega)
 omega
theorem yg (T Z:Nat) (hY:0<Y):T+Z/Y=(Z+T*Y)/Y/\Z%Y=(Z+T*Y)%Y:=by
 rw[Nat.add_mul_div_right _ _ hY,Nat.add_mul_mod_self_right]
 exact⟨Nat.add_comm _ _,rfl⟩
theorem zm {n1 n0:Nat} (hY:0<Y):
  (u*4294967296+n1)/Y*4294967296+((u*4294967296+n1)%Y*4294967296+n0)/Y=(u*18446744073709551616+(n1*4294967296+n0))/Y /\
  ((u*4294967296+n1)%Y*4294967296+n0)%Y=(u*18446744073709551616+(n1*4294967296+n0))%Y:=by
 have e:u*18446744073709551616+(n1*4294967296+n0)=(u*4294967296+n1)%Y*4294967296+n0+(u*4294967296+n1)/Y*4294967296*Y:=by
  have h:=Nat.div_add_mod (u*4294967296+n1) Y
  rw[Nat.mul_right_comm]
  rw[Nat.mul_comm]at h
  generalize (u*4294967296+n1)/Y*Y=A at *
  omega
 rw[e]
 exact yg _ _ hY
variable {U y s:Nat}
theorem GD:U*2^s/(y*2^s)=U/y/\U*2^s%(y*2^s)/2^s=U%y:=by
 have hp:0<2^s:=Nat.two_pow_pos s
 refine⟨Nat.mul_div_mul_right _ _ hp,?_⟩
 rw[Nat.mul_mod_mul_right,Nat.mul_div_cancel _ hp]
theorem yJ {hi lo:Nat} (hs:s<64) (hlo:lo<18446744073709551616) (hY:y*2^s<18446744073709551616) (hhi:hi<y):
  (hi*2^s+lo/2^(64-s))*18446744073709551616+lo*2^s%18446744073709551616=(hi*18446744073709551616+lo)*2^s/\hi*2^s+lo/2^(64-s)<y*2^s/\hi*2^s<18446744073709551616 /\
  lo/2^(64-s)<2^s:=by
 have hp:0<2^s:=Nat.two_pow_pos s
 have hpq:2^(64-s)*2^s=18446744073709551616:=by
  rw[<-Nat.pow_add,show 64-s+s=64 by omega]
 have hdiv:lo*2^s/18446744073709551616=lo/2^(64-s):=by
  rw[<-hpq,Nat.mul_div_mul_right _ _ hp]
 have KR:=Nat.div_add_mod (lo*2^s) 18446744073709551616
 rw[hdiv]at KR
 have hmul:hi*2^s+2^s<=y*2^s:=by
  rw[<-Nat.succ_mul]; exact Nat.mul_le_mul_right _ hhi
 have hl:lo/2^(64-s)<2^s:=by
  rw[Nat.div_lt_iff_lt_mul (Nat.two_pow_pos _),Nat.mul_comm,hpq]; exact hlo
 refine⟨?_,by omega,by omega,hl⟩
 rw[Nat.add_mul,Nat.add_mul,Nat.mul_right_comm]
 rw[Nat.mul_comm (lo/_)]
 omega
variable {Q:Nat}
theorem AI (hQ:Q=(u*4294967296+c)/Y) (hY:Y=dN*4294967296+ig) (h0:ig<4294967296) (h1:2147483648<=dN) (h2:dN<=4294967295) (hu:u<Y) (hc:c<4294967296):
  ∃q r,u/dN=q/\u%dN=r/\u=q*dN+r/\Q<=q/\q<=4294967297/\r<=4294967295:=by
 obtain⟨g1,g2,g3,g4⟩:=Kg (c:=c) hY h0 h1 hu hc
 exact⟨_,_,rfl,rfl,g1,by rw[hQ]; exact g2,g3,Nat.le_trans (Nat.le_of_lt g4) h2⟩
theorem uA (hQ:Q=(u*4294967296+c)/Y) (hY:Y=dN*4294967296+ig) (h1:2147483648<=dN) (hu:u<Y) (hc:c<4294967296) (he:u=q*dN+r)
  (ht:4294967296<=q\/4294967296*r+c<q*ig):Q<q:=by rw[hQ]; exact M8 hY h1 hu hc he ht
theorem AJ (hQ:Q=(u*4294967296+c)/Y) (hY:Y=dN*4294967296+ig) (h1:2147483648<=dN) (he:u=q*dN+r) (hle:Q<=q) (ht:q*ig<=4294967296*r+c):q=Q:=by
 rw[hQ]; exact Eb hY h1 he (by rw[<-hQ]; exact hle) ht
theorem lB (hq:1<=q) (h:u=q*y+r):u=(q-1)*y+(r+y):=by
 obtain⟨k,rfl⟩:∃k,q=k+1:=⟨q-1,by omega⟩
 rw[Nat.add_mul,Nat.one_mul]at h
 rw[Nat.add_sub_cancel]; omega
theorem mL (hQ:Q=(u*4294967296+c)/Y) (hY:Y=dN*4294967296+ig) (h0:ig<4294967296) (h1:2147483648<=dN) (he:u=q*dN+r) (hle:Q<q) (hq:q<=4294967297) (hr:4294967296<=r+dN):
  q-1=Q:=by
 rw[hQ]; exact Gx hY h0 h1 (lB (by omega) he) (by rw[<-hQ]; omega) (by omega) hr
variable {b p V NQ v1 Qr:Nat}
theorem Jm {un AV:Nat} (hp:0<p) (hU:U=(un*b+AV)*p+NQ) (RE:NQ<p) (hV:V=v1*p+Qr) (hv:0<v1):U/V<=(un*b+AV)/v1:=by
 rw[Nat.le_div_iff_mul_le hv]
 have LR:0<V:=by rw[hV]; have:=Nat.mul_pos hv hp; omega
 have h1:U/V*V<=U:=Nat.div_mul_le_self _ _
 have h2:U/V*v1*p<=U/V*V:=by
  rw[hV,Nat.mul_add,<-Nat.mul_assoc]; omega
 have h3:U/V*v1*p<(un*b+AV+1)*p:=by rw[Nat.add_mul _ 1,Nat.one_mul]; omega
 exact Nat.le_of_lt_succ (Nat.lt_of_mul_lt_mul_right h3)
theorem Fy {N1 u2 v2 g:Nat} (hU:U=(N1*b+u2)*p+NQ) (RE:NQ<p) (hV:V=(v1*b+v2)*p+Qr) (LR:0<V) (hN:N1=g*v1+r) (ht:r*b+u2<g*v2):U/V<g:=by
 rw[Nat.div_lt_iff_lt_mul LR]
 have h1:N1*b+u2<g*(v1*b+v2):=by
  rw[hN,Nat.add_mul,Nat.mul_add,Nat.mul_assoc]; omega
 have h2:(N1*b+u2+1)*p<=g*(v1*b+v2)*p:=Nat.mul_le_mul_right _ h1
 rw[Nat.add_mul _ 1,Nat.one_mul]at h2
 have h3:g*V=g*(v1*b+v2)*p+g*Qr:=by rw[hV,Nat.mul_add,Nat.mul_assoc]
 omega
end Wx

namespace Wx
open Go Go.RowKit Go.Proofs
theorem xn {x y c:Operand} {ops:Array Oper} {Q:Exit->Act->World->Prop} {o:Oper} {rest:List Oper} {a:Act} {w:World} (X Y C:Nat)
  (hx:a.eval x=.int .u64 X) (hy:a.eval y=.int .u64 Y) (hc:a.eval c=.int .u64 C) (c1:C<=1)
  (hK:wpList Tryz.prog ops Q rest (a.put o.dst (.tuple #[.int .u64 (fJ X Y C:Nat),.int .u64 (gN X Y C:Nat)])) w):xI Tryz.prog 78 x y c ops Q o rest a w:=
 sub64_ext Tryz.func78 (by kernel_rfl) (by kernel_rfl) (by kernel_rfl) (by kernel_rfl) X Y C hx hy hc c1 hK
theorem jQ {x y o:List Nat} {i br vx vy:Nat} {g:Nat} {wr w0:World} (dF:o.length=i) (hlt:i<x.length) (wx:Wf b64 x) (wy:Wf b64 y) (EX:br<=1) (iM:Wf b64 o)
  (hx:x[i]?=some vx) (hy:y.getD i 0=vy) (hr:Row wr .u64 86 g (o++List.replicate (x.length-i) 0)) (hbl:Below w0.heap.size w0 wr) (hg:w0.heap.size<=g)
  (hval:val b64 o+val b64 (y.take i)=val b64 (x.take i)+b64^i*br):
  ∃(o':List Nat),o'.length=i+1/\Wf b64 o' /\
   Row (wr.setCell ⟨g,i,none⟩ (.int .u64 (fJ vx vy br:Nat))) .u64 86 g (o'++List.replicate (x.length-(i+1)) 0) /\
   Below w0.heap.size w0 (wr.setCell ⟨g,i,none⟩ (.int .u64 (fJ vx vy br:Nat)))/\val b64 o'+val b64 (y.take (i+1))=val b64 (x.take (i+1))+b64^(i+1)*gN vx vy br:=by
 have om:vx<b64:=wx _ (List.mem_of_getElem? hx)
 have FT:vy<b64:=by
  rw[<-hy,List.getD_eq_getElem?_getD]
  cases h:y[i]? with
  |none=>simp[b64]
  |some z=>exact wy _ (List.mem_of_getElem? h)
 have hsp:=rS (x:=vx) (y:=vy) (by simpa [b64] using om) (by simpa [b64] using FT) EX
 refine⟨o++[fJ vx vy br],by simp[dF],iM.append (Wf.cons hsp.2 (Wf.nil _)),?_,hbl.setCell hg _,?_⟩
 ·have h:=hr.set i (fJ vx vy br)
  rw[show x.length-i=(x.length-(i+1))+1 by omega,List.replicate_succ,mS dF]at h
  rw[List.append_assoc]
  exact h
 ·exact CU dF hval (bN hx) (by rw[gH,hy]) hsp.1
set_option maxHeartbeats 400000 in
theorem BH (w:World) (v1 v2:Value) (m n:Nat) (h1:cz .u64 b64 w v1 m) (h2:cz .u64 b64 w v2 n) (hnm:n<=m) {j:Nat} (hj:Bd j m) (fD:j<=1000000000):
  Calls Tryz.prog 56 #[v1,v2] w (gQ .u64 b64 w (m-n)):=by
 obtain⟨X,cx,rfl,hx⟩:=h1
 obtain⟨Y,cy,rfl,hy⟩:=h2
 have hla:=mz hj
 have qQ:(ak b64 n).length<=(ak b64 m).length:=by
  rcases Nat.lt_or_ge (ak b64 m).length (ak b64 n).length with h|h
  ·have:=dA ai h; omega
  ·exact h
 have wx:=cI ai m
 have wy:=cI ai n
 have om:=bI ai m
 have FT:=bI ai n
 have E4:=hx.len
 have Tm:=hy.len
 clear hj
 generalize ak b64 m=x at *
 generalize ak b64 n=y at *
 have HX:=Lib.hid om
 have HY:=Lib.hid FT
 clear om FT
 go_enter Tryz.func56,Tryz.ntmps56
 go_wp2_with (at_make; refine dV _ rfl _ _ _ rfl .u64 86 Tryz.underlying45 gV _ _ rfl rfl (by omega) (by omega) (by omega) ?_; intro w1 hrow fC hsz)
 go_loopw [6,15] (λs6 Qg wr=>∃(i br:Nat) (o:List Nat),i<=x.length/\Qg=.int .i64 i/\s6=.int .u64 br/\br<=1/\o.length=i/\Wf b64 o/\Row wr .u64 86 w.heap.size (o++List.replicate (x.length-i) 0)/\Below w.heap.size w wr/\val b64 o+val b64 (y.take i)=val b64 (x.take i)+b64^i*br)
  (λ_ Qg _=>x.length-(RowKit.intOf Qg).toNat)
 case atStart=>exact⟨0,0,[],by omega,rfl,rfl,by omega,rfl,Wf.nil _,by simpa using hrow,fC,by simp[val]⟩
 case round=>
  obtain⟨i,br,o,hi,rfl,rfl,EX,dF,iM,hr,hbl,hval⟩:=hrel
  have dX:=Lib.hid hval
  have fe:=Lib.hid dF
  clear hval dF hrow fC hsz
  by_cases hlt:i<x.length
  ·obtain⟨bx,ox,vx,rfl,Cq,sj⟩:=(hx.below hbl).get hlt
   obtain⟨vo,EW,G6⟩:=hr.get (i:=i) (by have:=fe.out; simp; omega)
   have zZ:=hr.frozen i
   by_cases uP:i<y.length
   ·obtain⟨On,oy,vy,rfl,NC,Fb⟩:=(hy.below hbl).get uP
    go_wp2_with ((with_reducible refine eX 78 rfl rfl ?_); refine xn vx vy br rfl rfl rfl (by omega) ?_)
    go_roundw
    case rel=>
     exact⟨i+1,gN vx vy br,(jQ (vy:=vy) fe.out hlt wx wy EX iM sj.out (by rw[List.getD_eq_getElem?_getD,Fb.out]; rfl) hr hbl (Nat.le_refl _) dX.out).choose,by omega,by go_num,rfl,rR _ _ _,(jQ (vy:=vy) fe.out hlt wx wy EX iM sj.out (by rw[List.getD_eq_getElem?_getD,Fb.out]; rfl) hr hbl (Nat.le_refl _) dX.out).choose_spec⟩
    case measure=>simp[RowKit.intOf]; omega
   ·go_wp2_with ((with_reducible refine eX 78 rfl rfl ?_); refine xn vx 0 br rfl rfl rfl (by omega) ?_)
    go_roundw
    case rel=>
     obtain⟨o',r⟩:=jQ (vy:=0) fe.out hlt wx wy EX iM sj.out (by rw[List.getD_eq_getElem?_getD,List.getElem?_eq_none (by omega)]; rfl) hr hbl (Nat.le_refl _) dX.out
     exact⟨i+1,gN vx 0 br,o',by omega,by go_num,rfl,rR _ _ _,r⟩
    case measure=>simp[RowKit.intOf]; omega
  ·obtain rfl:i=x.length:=by omega
   have dD:val b64 o=m-n:=by
    have h:=dX.out
    rw[List.take_of_length_le (Nat.le_refl _),List.take_of_length_le (by omega),HX.out,HY.out]at h
    have hlt:=ia iM
    rw[fe.out]at hlt
    rcases Nat.eq_zero_or_pos br with rfl|hb
    ·omega
    ·obtain rfl:br=1:=by omega
     omega
   have HF:=Lib.hid dD
   clear dD
   rw[Nat.sub_self,List.replicate_zero,List.append_nil]at hr
   have hrd:=hr.gw (c:=x.length) (by have:=fe.out; omega) (by unfold maxLen; omega)
   go_wp2_with fail
   refine(fL _ _ _ o (m-n) hrd iM _ fe.out HF.out).mono ?_
   rintro e w' ⟨rfl,v,rfl,hv⟩
   go_wp2
   go_ret
   exact⟨v,rfl,hv,hbl⟩
end Wx

namespace Wx
set_option maxHeartbeats 1000000
open Go Go.RowKit Go.Proofs
theorem dQ (x y:Nat) (hx:x<b64) (hy:y<b64) (w:World):
  Calls Tryz.prog 73 #[.int .u64 x,.int .u64 y] w λe w'=>e=.returned (.tuple #[.int .u64 (muHi x y:Nat),.int .u64 (muLo x y:Nat)])/\w=w':=by
 refine(Tryz.bits_Mul64 x y (by simpa [b64] using hx) (by simpa [b64] using hy) w).mono λe w' ⟨he,hw⟩=>⟨?_,hw.symm⟩
 unfold muHi muLo
 exact he
theorem kz {x y c:Operand} {ops:Array Oper} {Q:Exit->Act->World->Prop} {o:Oper} {rest:List Oper} {a:Act} {w:World} {X Y:Nat}
  (hx:a.eval x=.int .u64 X) (hy:a.eval y=.int .u64 Y) (hc:a.eval c=.int .u64 0)
  (hK:wpList Tryz.prog ops Q rest (a.put o.dst (.tuple #[.int .u64 (adLo X Y:Nat),.int .u64 (adHi X Y:Nat)])) w):xI Tryz.prog 74 x y c ops Q o rest a w:=
 add64z_ext Tryz.func74 (by kernel_rfl) (by kernel_rfl) (by kernel_rfl) (by kernel_rfl) hx hy hc hK
theorem fT (w:World) (v:Value) (h:cz .u64 b64 w v 1):Calls Tryz.prog 72 #[v] w λe w'=>e=.returned (.bool true)/\w=w':=td w v 1 h
theorem gh (w:World) (v:Value) (n:Nat) (h:cz .u64 b64 w v n) (hn:n≠1):Calls Tryz.prog 72 #[v] w λe w'=>e=.returned (.bool false)/\w=w':=by
 have:=td w v n h
 rwa [decide_eq_false hn]at this
variable {c:Nat}
theorem BK {x y u:Nat} (hx:x<b64) (hy:y<b64) (hu:u<b64) (hc:c<b64):
  adLo (adLo (muLo x y) u) c+b64*(muHi x y+adHi (muLo x y) u+adHi (adLo (muLo x y) u) c)=x*y+u+c /\
  muHi x y+adHi (muLo x y) u<18446744073709551616/\muHi x y+adHi (muLo x y) u+adHi (adLo (muLo x y) u) c<b64:=by
 have h1:=pD x y
 have h2:=oW (muLo x y) u
 have h3:=oW (adLo (muLo x y) u) c
 have h4:=oV (adLo (muLo x y) u) c
 have hxy:x*y<=18446744073709551615*18446744073709551615:=Nat.mul_le_mul (by unfold b64 at hx; omega) (by unfold b64 at hy; omega)
 unfold b64 at *
 generalize x*y=p at *
 generalize adLo (muLo x y) u=q at *
 omega
variable {o:List Nat} {w0 wr:World} {g:Nat} {b:List Nat} {i vx N:Nat}
theorem xp {k vy vu s:Nat} (hk:k<b.length) (hc:c<b64) (dF:o.length=N) (iM:Wf b64 o) (hx:vx<b64) (hy:vy<b64) (hu:vu<b64)
  (hr:Row wr .u64 86 g o) (hg:w0.heap.size<=g) (hbl:Below w0.heap.size w0 wr) (hz:∀p,i+b.length<=p->o.getD p 0=0) (hval:val b64 o+b64^(i+k)*c=s+b64^i*(vx*val b64 (b.take k)))
  (HU:o[i+k]?=some vu) (HY:b[k]?=some vy):
  ∃(c':Nat) (o':List Nat),IntKind.u64.wrap (IntKind.u64.wrap ((muHi vx vy:Nat)+(adHi (muLo vx vy) vu:Nat))+(adHi (adLo (muLo vx vy) vu) c:Nat))=(c':Int)/\c'<b64/\o'.length=N/\Wf b64 o' /\
   Row (wr.setCell ⟨g,i+k,none⟩ (.int .u64 (adLo (adLo (muLo vx vy) vu) c:Nat))) .u64 86 g o'/\Below w0.heap.size w0 (wr.setCell ⟨g,i+k,none⟩ (.int .u64 (adLo (adLo (muLo vx vy) vu) c:Nat))) /\
   (∀p,i+b.length<=p->o'.getD p 0=0)/\val b64 o'+b64^(i+(k+1))*c'=s+b64^i*(vx*val b64 (b.take (k+1))):=by
 obtain⟨e1,e2,e3⟩:=BK hx hy hu hc
 refine⟨_,o.set (i+k) (adLo (adLo (muLo vx vy) vu) c),?_,e3,by simp[dF],iM.set (oV _ _),hr.set _ _,hbl.setCell hg _,?_,DJ hval HU HY e1⟩
 ·rw[wrap_u64 (n:=((muHi vx vy:Nat):Int)+(adHi (muLo vx vy) vu:Nat)) (by omega) (by omega),wrap_u64 (by omega) (by unfold b64 at e3; omega)]
  omega
 ·intro p hp
  rw[getD_set_ne (by omega)]; exact hz p hp
theorem Cl {o0 a:List Nat} {n:Nat} (hc:c<b64) (hi:i<a.length) (hN:N=a.length+b.length) (dF:o.length=N) (iM:Wf b64 o)
  (hr:Row wr .u64 86 g o) (hg:w0.heap.size<=g) (hbl:Below w0.heap.size w0 wr) (hz:∀p,i+b.length<=p->o.getD p 0=0) (hval:val b64 o+b64^(i+b.length)*c=val b64 o0+b64^i*(vx*val b64 (b.take b.length)))
  (h0:val b64 o0=val b64 (a.take i)*n) (hb:val b64 b=n) (hx:a[i]?=some vx):
  ∃o':List Nat,o'.length=N/\Wf b64 o'/\Row (wr.setCell ⟨g,i+b.length,none⟩ (.int .u64 (c:Nat))) .u64 86 g o'/\Below w0.heap.size w0 (wr.setCell ⟨g,i+b.length,none⟩ (.int .u64 (c:Nat))) /\
   (∀p,i+1+b.length<=p->o'.getD p 0=0)/\val b64 o'=val b64 (a.take (i+1))*n:=by
 refine⟨o.set (i+b.length) c,by simp[dF],iM.set hc,hr.set _ _,hbl.setCell hg _,?_,?_⟩
 ·intro p hp
  rw[getD_set_ne (by omega)]; exact hz p (by omega)
 ·have hu:o[i+b.length]?=some 0:=by
   have:=hz (i+b.length) (Nat.le_refl _)
   rw[List.getD_eq_getElem?_getD,List.getElem?_eq_getElem (by omega)]at this
   rw[List.getElem?_eq_getElem (by omega)]
   simpa using this
  have h1:=pK (b:=b64) hu c
  rw[Nat.mul_zero,Nat.add_zero]at h1
  rw[h1,hval,h0,bN hx,List.take_length,hb,Nat.add_mul,Nat.mul_assoc]
theorem iH (w:World) (v1 v2:Value) (m n:Nat) (h1:cz .u64 b64 w v1 m) (h2:cz .u64 b64 w v2 n) {j k:Nat} (hj:Bd j m) (hk:Bd k n) (fD:j<=1000000000) (nk:k<=1000000000):
  Calls Tryz.prog 52 #[v1,v2] w (gQ .u64 b64 w (m*n)):=by
 by_cases FM:m=1
 ·subst FM
  have h0:=h1
  obtain⟨A,c,rfl,_⟩:=h1
  go_enter Tryz.func52,Tryz.ntmps52
  go_wp2_with (go_at_call 72; refine(fT _ _ h0).mono ?_; rintro e w' ⟨rfl,rfl⟩)
  go_ret
  exact⟨v2,rfl,by rw[Nat.one_mul]; exact h2,Below.refl _ _⟩
 ·by_cases Bu:n=1
  ·subst Bu
   go_enter Tryz.func52,Tryz.ntmps52
   go_wp2_with fail
   refine(gh _ _ _ h1 FM).mono ?_
   rintro e w' ⟨rfl,rfl⟩
   go_wp2_with fail
   refine(fT _ _ h2).mono ?_
   rintro e w' ⟨rfl,rfl⟩
   go_wp2
   go_ret
   exact⟨v1,rfl,by rw[Nat.mul_one]; exact h1,Below.refl _ _⟩
  ·have g1:=h1
   have g2:=h2
   obtain⟨A,c,rfl,ha⟩:=h1
   obtain⟨B,d,rfl,hb⟩:=h2
   have hla:=mz hj
   have hlb:=mz hk
   have Af:=bI ai m
   have RG:=bI ai n
   have wa:=cI ai m
   have wb:=cI ai n
   clear hj hk
   go_enter Tryz.func52,Tryz.ntmps52
   go_wp2_with fail
   refine(gh _ _ _ g1 FM).mono ?_
   rintro e w' ⟨rfl,rfl⟩
   go_wp2_with fail
   refine(gh _ _ _ g2 Bu).mono ?_
   rintro e w' ⟨rfl,rfl⟩
   clear g1 g2
   generalize ak b64 m=a at *
   generalize ak b64 n=b at *
   have VA:=Lib.hid Af
   have VB:=Lib.hid RG
   clear Af RG
   go_wp2_with (at_make; refine dV _ rfl _ _ _ rfl .u64 86 Tryz.underlying45 gV _ _ rfl rfl (by omega) (by omega) (by omega) ?_; intro w1 hrow fC hsz)
   rw[show((a.length:Int)+(b.length:Int)).toNat=a.length+b.length by omega]at hrow
   have Ti:a.length<=1000000000:=by omega
   have Tj:b.length<=1000000000:=by omega
   clear hla hlb
   go_loopw [28] (λQj wr=>∃(i:Nat) (o:List Nat),i<=a.length/\Qj=.int .i64 i/\o.length=a.length+b.length/\Wf b64 o/\Row wr .u64 86 w.heap.size o/\Below w.heap.size w wr/\(∀p,i+b.length<=p->o.getD p 0=0)/\val b64 o=val b64 (a.take i)*n)
    (λQj _=>a.length-(RowKit.intOf Qj).toNat)
   case atStart=>exact⟨0,List.replicate (a.length+b.length) 0,by omega,rfl,by simp,Wf.replicate (by unfold b64; omega) _,hrow,fC,λp _=>by simp[List.getD_eq_getElem?_getD,List.getElem?_replicate]; split<;>rfl,by rw[kW]; simp[val]⟩
   case round=>
    obtain⟨i,o,hi,rfl,dF,iM,hr,hbl,hz,hval⟩:=hrel
    have dX:=Lib.hid hval
    have fe:=Lib.hid dF
    have HZ:=Lib.hid hz
    clear hval dF hz hrow fC hsz
    by_cases hlt:i<a.length
    ·obtain⟨bx,ox,vx,rfl,Cq,sj⟩:=(ha.below hbl).get hlt
     have om:vx<b64:=wa _ (List.mem_of_getElem? sj.out)
     have Nj:=Lib.hid om
     clear om
     go_wp2_with fail
     obtain⟨wo,rfl⟩:∃wo:World,wo=wr:=⟨_,rfl⟩
     go_loopw [8,35] (λs8 Qk wr=>∃(k c:Nat) (o':List Nat),k<=b.length/\Qk=.int .i64 k/\s8=.int .u64 c/\c<b64/\o'.length=a.length+b.length/\Wf b64 o'/\Row wr .u64 86 w.heap.size o'/\Below w.heap.size w wr/\(∀p,i+b.length<=p->o'.getD p 0=0)/\val b64 o'+b64^(i+k)*c=val b64 o+b64^i*(vx*val b64 (b.take k)))
      (λ_ Qk _=>b.length-(RowKit.intOf Qk).toNat)
     case atStart=>exact⟨0,0,o,by omega,rfl,rfl,by unfold b64; omega,fe.out,iM,hr,hbl,HZ.out,by simp[val]⟩
     case round=>
      obtain⟨k,c,o',hk,rfl,rfl,hc,Mv,JR,hr',Jx,Dn,Ie⟩:=hrel
      have G5:=Lib.hid Ie
      have E9:=Lib.hid Mv
      have QN:=Lib.hid Dn
      have HC:=Lib.hid hc
      clear Ie Mv Dn hc
      by_cases hlk:k<b.length
      ·obtain⟨On,oy,vy,rfl,NC,Fb⟩:=(hb.below Jx).get hlk
       obtain⟨vu,vX,Fa⟩:=hr'.get (i:=i+k) (by have:=E9.out; omega)
       have zZ:=hr'.frozen (i+k)
       have FT:vy<b64:=wb _ (List.mem_of_getElem? Fb.out)
       have NM:vu<b64:=JR _ (List.mem_of_getElem? Fa.out)
       have QD:=Lib.hid FT
       have R5:=Lib.hid NM
       clear FT NM
       go_wp2_with (first|(go_at_call 73; refine(dQ vx vy Nj.out QD.out _).mono ?_; rintro e w' ⟨rfl,rfl⟩)|((with_reducible refine eX 74 rfl rfl ?_); refine kz rfl rfl rfl ?_))
       go_roundw
       case rel=>
        obtain⟨c',o2,e,r⟩:=xp hlk HC.out E9.out JR Nj.out QD.out R5.out hr' (Nat.le_refl _) Jx QN.out G5.out Fa.out Fb.out
        exact⟨k+1,c',o2,by omega,by go_num,by rw[e],r⟩
       case measure=>simp[RowKit.intOf]; omega
      ·obtain rfl:k=b.length:=by omega
       obtain⟨vu,vX,Fa⟩:=hr'.get (i:=i+b.length) (by have:=E9.out; omega)
       have zZ:=hr'.frozen (i+b.length)
       go_wp2
       go_roundw
       case rel=>
        obtain⟨o2,r⟩:=Cl HC.out hlt rfl E9.out JR hr' (Nat.le_refl _) Jx QN.out G5.out dX.out VB.out sj.out
        exact⟨i+1,o2,by omega,by go_num,r⟩
       case measure=>simp[RowKit.intOf]; omega
    ·obtain rfl:i=a.length:=by omega
     have dD:val b64 o=m*n:=by
      have h:=dX.out
      rw[List.take_length,VA.out]at h
      exact h
     have HF:=Lib.hid dD
     clear dD
     have hrd:=hr.gw (c:=a.length+b.length) (by have:=fe.out; omega) (by unfold maxLen; omega)
     go_wp2_with fail
     refine(fL _ _ _ o (m*n) hrd iM _ fe.out HF.out).mono ?_
     rintro e w' ⟨rfl,v,rfl,hv⟩
     go_wp2
     go_ret
     exact⟨v,rfl,hv,hbl⟩
end Wx
