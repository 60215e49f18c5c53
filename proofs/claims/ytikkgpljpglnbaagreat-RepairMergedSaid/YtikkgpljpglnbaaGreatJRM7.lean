import Derived.Test.YtikkgpljpglnbaaGreatJRM5
import Derived.Test.YtikkgpljpglnbaaGreatCRMShelf
namespace Wx
variable {Y eF jk u c:Nat}
theorem MZ (hY:Y=eF*4294967296+jk) (h0:jk<4294967296) (h1:2147483648<=eF) (hu:u<Y) (hc:c<4294967296):
  u=u/eF*eF+u%eF/\(u*4294967296+c)/Y<=u/eF/\u/eF<=4294967297/\u%eF<eF:=by
 have hm:u%eF<eF:=Nat.mod_lt _ (by omega)
 have he:u/eF*eF+u%eF=u:=by have:=Nat.div_add_mod u eF; rw[Nat.mul_comm]at this; exact this
 generalize hq:u/eF=q at *
 generalize hr:u%eF=r at *
 refine⟨he.symm,?_,?_,hm⟩
 ·apply Nat.le_of_lt_succ
  rw[Nat.div_lt_iff_lt_mul (by omega),Nat.succ_mul]
  have e:q*Y=q*eF*4294967296+q*jk:=by rw[hY,Nat.mul_add,Nat.mul_assoc]
  rw[e]
  generalize q*eF=A at *
  generalize q*jk=B at *
  omega
 ·rcases Nat.lt_or_ge 4294967297 q with h|h
  ·have:4294967298*eF<=q*eF:=Nat.mul_le_mul_right _ (by omega)
   omega
  ·exact h
variable {q r:Nat}
theorem GJ (hY:Y=eF*4294967296+jk) (h1:2147483648<=eF) (he:u=q*eF+r) (hle:(u*4294967296+c)/Y<=q) (ht:q*jk<=4294967296*r+c):
  q=(u*4294967296+c)/Y:=by
 refine Nat.le_antisymm ?_ hle
 rw[Nat.le_div_iff_mul_le (by omega)]
 have e:q*Y=q*eF*4294967296+q*jk:=by rw[hY,Nat.mul_add,Nat.mul_assoc]
 rw[e]
 generalize q*eF=A at *
 generalize q*jk=B at *
 omega
theorem M3 (hu:u<Y) (hc:c<4294967296):(u*4294967296+c)/Y<4294967296:=by
 rw[Nat.div_lt_iff_lt_mul (by omega)]
 omega
theorem P7 (hY:Y=eF*4294967296+jk) (_h1:2147483648<=eF) (hu:u<Y) (hc:c<4294967296) (he:u=q*eF+r)
  (ht:4294967296<=q\/4294967296*r+c<q*jk):(u*4294967296+c)/Y<q:=by
 rcases ht with ht|ht
 ·exact Nat.lt_of_lt_of_le (M3 hu hc) ht
 ·rw[Nat.div_lt_iff_lt_mul (by omega)]
  have e:q*Y=q*eF*4294967296+q*jk:=by rw[hY,Nat.mul_add,Nat.mul_assoc]
  rw[e]
  generalize q*eF=A at *
  generalize q*jk=B at *
  omega
theorem JH (hY:Y=eF*4294967296+jk) (h0:jk<4294967296) (h1:2147483648<=eF) (he:u=q*eF+r) (hle:(u*4294967296+c)/Y<=q) (hq:q<=4294967296) (hr:4294967296<=r):
  q=(u*4294967296+c)/Y:=by
 refine GJ hY h1 he hle ?_
 have:q*jk<=4294967296*4294967295:=Nat.mul_le_mul hq (by omega)
 omega
theorem AF (T Z:Nat) (hY:0<Y):T+Z/Y=(Z+T*Y)/Y/\Z%Y=(Z+T*Y)%Y:=by
 rw[Nat.add_mul_div_right _ _ hY,Nat.add_mul_mod_self_right]
 exact⟨Nat.add_comm _ _,rfl⟩
theorem BM {n1 n0:Nat} (hY:0<Y):
  (u*4294967296+n1)/Y*4294967296+((u*4294967296+n1)%Y*4294967296+n0)/Y=(u*18446744073709551616+(n1*4294967296+n0))/Y /\
  ((u*4294967296+n1)%Y*4294967296+n0)%Y=(u*18446744073709551616+(n1*4294967296+n0))%Y:=by
 have e:u*18446744073709551616+(n1*4294967296+n0)=(u*4294967296+n1)%Y*4294967296+n0+(u*4294967296+n1)/Y*4294967296*Y:=by
  have h:=Nat.div_add_mod (u*4294967296+n1) Y
  rw[Nat.mul_right_comm]
  rw[Nat.mul_comm]at h
  generalize (u*4294967296+n1)/Y*Y=A at *
  omega
 rw[e]
 exact AF _ _ hY
variable {U y s:Nat}
theorem JO:U*2^s/(y*2^s)=U/y/\U*2^s%(y*2^s)/2^s=U%y:=by
 have hp:0<2^s:=Nat.two_pow_pos s
 refine⟨Nat.mul_div_mul_right _ _ hp,?_⟩
 rw[Nat.mul_mod_mul_right,Nat.mul_div_cancel _ hp]
theorem Ba {hi lo:Nat} (hs:s<64) (hlo:lo<18446744073709551616) (hY:y*2^s<18446744073709551616) (hhi:hi<y):
  (hi*2^s+lo/2^(64-s))*18446744073709551616+lo*2^s%18446744073709551616=(hi*18446744073709551616+lo)*2^s/\hi*2^s+lo/2^(64-s)<y*2^s/\hi*2^s<18446744073709551616 /\
  lo/2^(64-s)<2^s:=by
 have hp:0<2^s:=Nat.two_pow_pos s
 have hpq:2^(64-s)*2^s=18446744073709551616:=by
  rw[<-Nat.pow_add,show 64-s+s=64 by omega]
 have hdiv:lo*2^s/18446744073709551616=lo/2^(64-s):=by
  rw[<-hpq,Nat.mul_div_mul_right _ _ hp]
 have Nz:=Nat.div_add_mod (lo*2^s) 18446744073709551616
 rw[hdiv]at Nz
 have hmul:hi*2^s+2^s<=y*2^s:=by
  rw[<-Nat.succ_mul]; exact Nat.mul_le_mul_right _ hhi
 have hl:lo/2^(64-s)<2^s:=by
  rw[Nat.div_lt_iff_lt_mul (Nat.two_pow_pos _),Nat.mul_comm,hpq]; exact hlo
 refine⟨?_,by omega,by omega,hl⟩
 rw[Nat.add_mul,Nat.add_mul,Nat.mul_right_comm]
 rw[Nat.mul_comm (lo/_)]
 omega
variable {Q:Nat}
theorem CS (hQ:Q=(u*4294967296+c)/Y) (hY:Y=eF*4294967296+jk) (h0:jk<4294967296) (h1:2147483648<=eF) (h2:eF<=4294967295) (hu:u<Y) (hc:c<4294967296):
  ∃q r,u/eF=q/\u%eF=r/\u=q*eF+r/\Q<=q/\q<=4294967297/\r<=4294967295:=by
 obtain⟨g1,g2,g3,g4⟩:=MZ (c:=c) hY h0 h1 hu hc
 exact⟨_,_,rfl,rfl,g1,by rw[hQ]; exact g2,g3,Nat.le_trans (Nat.le_of_lt g4) h2⟩
theorem wS (hQ:Q=(u*4294967296+c)/Y) (hY:Y=eF*4294967296+jk) (h1:2147483648<=eF) (hu:u<Y) (hc:c<4294967296) (he:u=q*eF+r)
  (ht:4294967296<=q\/4294967296*r+c<q*jk):Q<q:=by rw[hQ]; exact P7 hY h1 hu hc he ht
theorem CT (hQ:Q=(u*4294967296+c)/Y) (hY:Y=eF*4294967296+jk) (h1:2147483648<=eF) (he:u=q*eF+r) (hle:Q<=q) (ht:q*jk<=4294967296*r+c):q=Q:=by
 rw[hQ]; exact GJ hY h1 he (by rw[<-hQ]; exact hle) ht
theorem mR (hq:1<=q) (h:u=q*y+r):u=(q-1)*y+(r+y):=by
 obtain⟨k,rfl⟩:∃k,q=k+1:=⟨q-1,by omega⟩
 rw[Nat.add_mul,Nat.one_mul]at h
 rw[Nat.add_sub_cancel]; omega
theorem oI (hQ:Q=(u*4294967296+c)/Y) (hY:Y=eF*4294967296+jk) (h0:jk<4294967296) (h1:2147483648<=eF) (he:u=q*eF+r) (hle:Q<q) (hq:q<=4294967297) (hr:4294967296<=r+eF):
  q-1=Q:=by
 rw[hQ]; exact JH hY h0 h1 (mR (by omega) he) (by rw[<-hQ]; omega) (by omega) hr
variable {b p V QK v1 Tu:Nat}
theorem LN {un C5:Nat} (hp:0<p) (hU:U=(un*b+C5)*p+QK) (UA:QK<p) (hV:V=v1*p+Tu) (hv:0<v1):U/V<=(un*b+C5)/v1:=by
 rw[Nat.le_div_iff_mul_le hv]
 have OU:0<V:=by rw[hV]; have:=Nat.mul_pos hv hp; omega
 have h1:U/V*V<=U:=Nat.div_mul_le_self _ _
 have h2:U/V*v1*p<=U/V*V:=by
  rw[hV,Nat.mul_add,<-Nat.mul_assoc]; omega
 have h3:U/V*v1*p<(un*b+C5+1)*p:=by rw[Nat.add_mul _ 1,Nat.one_mul]; omega
 exact Nat.le_of_lt_succ (Nat.lt_of_mul_lt_mul_right h3)
theorem IC {N1 u2 v2 g:Nat} (hU:U=(N1*b+u2)*p+QK) (UA:QK<p) (hV:V=(v1*b+v2)*p+Tu) (OU:0<V) (hN:N1=g*v1+r) (ht:r*b+u2<g*v2):U/V<g:=by
 rw[Nat.div_lt_iff_lt_mul OU]
 have h1:N1*b+u2<g*(v1*b+v2):=by
  rw[hN,Nat.add_mul,Nat.mul_add,Nat.mul_assoc]; omega
 have h2:(N1*b+u2+1)*p<=g*(v1*b+v2)*p:=Nat.mul_le_mul_right _ h1
 rw[Nat.add_mul _ 1,Nat.one_mul]at h2
 have h3:g*V=g*(v1*b+v2)*p+g*Tu:=by rw[hV,Nat.mul_add,Nat.mul_assoc]
 omega
end Wx

namespace Wx
open Go Go.RowKit Go.Proofs
theorem zN {x y c:Operand} {ops:Array Oper} {Q:Exit->Act->World->Prop} {o:Oper} {rest:List Oper} {a:Act} {w:World} (X Y C:Nat)
  (hx:a.eval x=.int .u64 X) (hy:a.eval y=.int .u64 Y) (hc:a.eval c=.int .u64 C) (c1:C<=1)
  (hK:wpList Tryz.prog ops Q rest (a.put o.dst (.tuple #[.int .u64 (gK X Y C:Nat),.int .u64 (iW X Y C:Nat)])) w):zY Tryz.prog 78 x y c ops Q o rest a w:=
 sub64_ext Tryz.func78 (by kernel_rfl) (by kernel_rfl) (by kernel_rfl) (by kernel_rfl) X Y C hx hy hc c1 hK
theorem lu {x y o:List Nat} {i br vx vy:Nat} {g:Nat} {wr w0:World} (ek:o.length=i) (hlt:i<x.length) (wx:Wf b64 x) (wy:Wf b64 y) (Hw:br<=1) (jC:Wf b64 o)
  (hx:x[i]?=some vx) (hy:y.getD i 0=vy) (hr:Row wr .u64 86 g (o++List.replicate (x.length-i) 0)) (hbl:Below w0.heap.size w0 wr) (hg:w0.heap.size<=g)
  (hval:val b64 o+val b64 (y.take i)=val b64 (x.take i)+b64^i*br):
  ∃(o':List Nat),o'.length=i+1/\Wf b64 o' /\
   Row (wr.setCell ⟨g,i,none⟩ (.int .u64 (gK vx vy br:Nat))) .u64 86 g (o'++List.replicate (x.length-(i+1)) 0) /\
   Below w0.heap.size w0 (wr.setCell ⟨g,i,none⟩ (.int .u64 (gK vx vy br:Nat)))/\val b64 o'+val b64 (y.take (i+1))=val b64 (x.take (i+1))+b64^(i+1)*iW vx vy br:=by
 have qw:vx<b64:=wx _ (List.mem_of_getElem? hx)
 have I4:vy<b64:=by
  rw[<-hy,List.getD_eq_getElem?_getD]
  cases h:y[i]? with
  |none=>simp[b64]
  |some z=>exact wy _ (List.mem_of_getElem? h)
 have hsp:=tP (x:=vx) (y:=vy) (by simpa [b64] using qw) (by simpa [b64] using I4) Hw
 refine⟨o++[gK vx vy br],by simp[ek],jC.append (Wf.cons hsp.2 (Wf.nil _)),?_,hbl.setCell hg _,?_⟩
 ·have h:=hr.set i (gK vx vy br)
  rw[show x.length-i=(x.length-(i+1))+1 by omega,List.replicate_succ,oP ek]at h
  rw[List.append_assoc]
  exact h
 ·exact Fc ek hval (bR hx) (by rw[iO,hy]) hsp.1
set_option maxHeartbeats 400000 in
theorem DO (w:World) (v1 v2:Value) (m n:Nat) (h1:cI .u64 b64 w v1 m) (h2:cI .u64 b64 w v2 n) (hnm:n<=m) {j:Nat} (hj:Bd j m) (gg:j<=1000000000):
  Calls Tryz.prog 56 #[v1,v2] w (jc .u64 b64 w (m-n)):=by
 obtain⟨X,cx,rfl,hx⟩:=h1
 obtain⟨Y,cy,rfl,hy⟩:=h2
 have hla:=ot hj
 have qO:(af b64 n).length<=(af b64 m).length:=by
  rcases Nat.lt_or_ge (af b64 m).length (af b64 n).length with h|h
  ·have:=dW ak h; omega
  ·exact h
 have wx:=cS ak m
 have wy:=cS ak n
 have qw:=bM ak m
 have I4:=bM ak n
 have Hz:=hx.len
 have Wy:=hy.len
 clear hj
 generalize af b64 m=x at *
 generalize af b64 n=y at *
 have HX:=Lib.hid qw
 have HY:=Lib.hid I4
 clear qw I4
 go_enter Tryz.func56,Tryz.ntmps56
 go_wp2_with (at_make; refine eP _ rfl _ _ _ rfl .u64 86 Tryz.underlying45 jf _ _ rfl rfl (by omega) (by omega) (by omega) ?_; intro w1 hrow gH hsz)
 go_loopw [6,15] (λs6 Tj wr=>∃(i br:Nat) (o:List Nat),i<=x.length/\Tj=.int .i64 i/\s6=.int .u64 br/\br<=1/\o.length=i/\Wf b64 o/\Row wr .u64 86 w.heap.size (o++List.replicate (x.length-i) 0)/\Below w.heap.size w wr/\val b64 o+val b64 (y.take i)=val b64 (x.take i)+b64^i*br)
  (λ_ Tj _=>x.length-(RowKit.intOf Tj).toNat)
 case atStart=>exact⟨0,0,[],by omega,rfl,rfl,by omega,rfl,Wf.nil _,by simpa using hrow,gH,by simp[val]⟩
 case round=>
  obtain⟨i,br,o,hi,rfl,rfl,Hw,ek,jC,hr,hbl,hval⟩:=hrel
  have eY:=Lib.hid hval
  have gn:=Lib.hid ek
  clear hval ek hrow gH hsz
  by_cases hlt:i<x.length
  ·obtain⟨bx,ox,vx,rfl,Hx,ue⟩:=(hx.below hbl).get hlt
   obtain⟨vo,Hv,Ka⟩:=hr.get (i:=i) (by have:=gn.out; simp; omega)
   have Cm:=hr.frozen i
   by_cases wH:i<y.length
   ·obtain⟨Rh,oy,vy,rfl,Qx,Ib⟩:=(hy.below hbl).get wH
    go_wp2_with ((with_reducible refine gb 78 rfl rfl ?_); refine zN vx vy br rfl rfl rfl (by omega) ?_)
    go_roundw
    case rel=>
     exact⟨i+1,iW vx vy br,(lu (vy:=vy) gn.out hlt wx wy Hw jC ue.out (by rw[List.getD_eq_getElem?_getD,Ib.out]; rfl) hr hbl (Nat.le_refl _) eY.out).choose,by omega,by go_num,rfl,tO _ _ _,(lu (vy:=vy) gn.out hlt wx wy Hw jC ue.out (by rw[List.getD_eq_getElem?_getD,Ib.out]; rfl) hr hbl (Nat.le_refl _) eY.out).choose_spec⟩
    case measure=>simp[RowKit.intOf]; omega
   ·go_wp2_with ((with_reducible refine gb 78 rfl rfl ?_); refine zN vx 0 br rfl rfl rfl (by omega) ?_)
    go_roundw
    case rel=>
     obtain⟨o',r⟩:=lu (vy:=0) gn.out hlt wx wy Hw jC ue.out (by rw[List.getD_eq_getElem?_getD,List.getElem?_eq_none (by omega)]; rfl) hr hbl (Nat.le_refl _) eY.out
     exact⟨i+1,iW vx 0 br,o',by omega,by go_num,rfl,tO _ _ _,r⟩
    case measure=>simp[RowKit.intOf]; omega
  ·obtain rfl:i=x.length:=by omega
   have ee:val b64 o=m-n:=by
    have h:=eY.out
    rw[List.take_of_length_le (Nat.le_refl _),List.take_of_length_le (by omega),HX.out,HY.out]at h
    have hlt:=ji jC
    rw[gn.out]at hlt
    rcases Nat.eq_zero_or_pos br with rfl|hb
    ·omega
    ·obtain rfl:br=1:=by omega
     omega
   have HF:=Lib.hid ee
   clear ee
   rw[Nat.sub_self,List.replicate_zero,List.append_nil]at hr
   have hrd:=hr.iE (c:=x.length) (by have:=gn.out; omega) (by unfold maxLen; omega)
   go_wp2_with fail
   refine(gP _ _ _ o (m-n) hrd jC _ gn.out HF.out).mono ?_
   rintro e w' ⟨rfl,v,rfl,hv⟩
   go_wp2
   go_ret
   exact⟨v,rfl,hv,hbl⟩
end Wx

namespace Wx
set_option maxHeartbeats 1000000
open Go Go.RowKit Go.Proofs
theorem eJ (x y:Nat) (hx:x<b64) (hy:y<b64) (w:World):
  Calls Tryz.prog 73 #[.int .u64 x,.int .u64 y] w λe w'=>e=.returned (.tuple #[.int .u64 (muHi x y:Nat),.int .u64 (muLo x y:Nat)])/\w=w':=by
 refine(Tryz.bits_Mul64 x y (by simpa [b64] using hx) (by simpa [b64] using hy) w).mono λe w' ⟨he,hw⟩=>⟨?_,hw.symm⟩
 unfold muHi muLo
 exact he
theorem lS {x y c:Operand} {ops:Array Oper} {Q:Exit->Act->World->Prop} {o:Oper} {rest:List Oper} {a:Act} {w:World} {X Y:Nat}
  (hx:a.eval x=.int .u64 X) (hy:a.eval y=.int .u64 Y) (hc:a.eval c=.int .u64 0)
  (hK:wpList Tryz.prog ops Q rest (a.put o.dst (.tuple #[.int .u64 (adLo X Y:Nat),.int .u64 (adHi X Y:Nat)])) w):zY Tryz.prog 74 x y c ops Q o rest a w:=
 add64z_ext Tryz.func74 (by kernel_rfl) (by kernel_rfl) (by kernel_rfl) (by kernel_rfl) hx hy hc hK
theorem ia (w:World) (v:Value) (h:cI .u64 b64 w v 1):Calls Tryz.prog 72 #[v] w λe w'=>e=.returned (.bool true)/\w=w':=uX w v 1 h
theorem iy (w:World) (v:Value) (n:Nat) (h:cI .u64 b64 w v n) (hn:n≠1):Calls Tryz.prog 72 #[v] w λe w'=>e=.returned (.bool false)/\w=w':=by
 have:=uX w v n h
 rwa [decide_eq_false hn]at this
variable {c:Nat}
theorem DU {x y u:Nat} (hx:x<b64) (hy:y<b64) (hu:u<b64) (hc:c<b64):
  adLo (adLo (muLo x y) u) c+b64*(muHi x y+adHi (muLo x y) u+adHi (adLo (muLo x y) u) c)=x*y+u+c /\
  muHi x y+adHi (muLo x y) u<18446744073709551616/\muHi x y+adHi (muLo x y) u+adHi (adLo (muLo x y) u) c<b64:=by
 have h1:=rz x y
 have h2:=qX (muLo x y) u
 have h3:=qX (adLo (muLo x y) u) c
 have h4:=qW (adLo (muLo x y) u) c
 have hxy:x*y<=18446744073709551615*18446744073709551615:=Nat.mul_le_mul (by unfold b64 at hx; omega) (by unfold b64 at hy; omega)
 unfold b64 at *
 generalize x*y=p at *
 generalize adLo (muLo x y) u=q at *
 omega
variable {o:List Nat} {w0 wr:World} {g:Nat} {b:List Nat} {i vx N:Nat}
theorem zP {k vy vu s:Nat} (hk:k<b.length) (hc:c<b64) (ek:o.length=N) (jC:Wf b64 o) (hx:vx<b64) (hy:vy<b64) (hu:vu<b64)
  (hr:Row wr .u64 86 g o) (hg:w0.heap.size<=g) (hbl:Below w0.heap.size w0 wr) (hz:∀p,i+b.length<=p->o.getD p 0=0) (hval:val b64 o+b64^(i+k)*c=s+b64^i*(vx*val b64 (b.take k)))
  (HU:o[i+k]?=some vu) (HY:b[k]?=some vy):
  ∃(c':Nat) (o':List Nat),IntKind.u64.wrap (IntKind.u64.wrap ((muHi vx vy:Nat)+(adHi (muLo vx vy) vu:Nat))+(adHi (adLo (muLo vx vy) vu) c:Nat))=(c':Int)/\c'<b64/\o'.length=N/\Wf b64 o' /\
   Row (wr.setCell ⟨g,i+k,none⟩ (.int .u64 (adLo (adLo (muLo vx vy) vu) c:Nat))) .u64 86 g o'/\Below w0.heap.size w0 (wr.setCell ⟨g,i+k,none⟩ (.int .u64 (adLo (adLo (muLo vx vy) vu) c:Nat))) /\
   (∀p,i+b.length<=p->o'.getD p 0=0)/\val b64 o'+b64^(i+(k+1))*c'=s+b64^i*(vx*val b64 (b.take (k+1))):=by
 obtain⟨e1,e2,e3⟩:=DU hx hy hu hc
 refine⟨_,o.set (i+k) (adLo (adLo (muLo vx vy) vu) c),?_,e3,by simp[ek],jC.set (qW _ _),hr.set _ _,hbl.setCell hg _,?_,Gd hval HU HY e1⟩
 ·rw[wrap_u64 (n:=((muHi vx vy:Nat):Int)+(adHi (muLo vx vy) vu:Nat)) (by omega) (by omega),wrap_u64 (by omega) (by unfold b64 at e3; omega)]
  omega
 ·intro p hp
  rw[getD_set_ne (by omega)]; exact hz p hp
theorem Es {o0 a:List Nat} {n:Nat} (hc:c<b64) (hi:i<a.length) (hN:N=a.length+b.length) (ek:o.length=N) (jC:Wf b64 o)
  (hr:Row wr .u64 86 g o) (hg:w0.heap.size<=g) (hbl:Below w0.heap.size w0 wr) (hz:∀p,i+b.length<=p->o.getD p 0=0) (hval:val b64 o+b64^(i+b.length)*c=val b64 o0+b64^i*(vx*val b64 (b.take b.length)))
  (h0:val b64 o0=val b64 (a.take i)*n) (hb:val b64 b=n) (hx:a[i]?=some vx):
  ∃o':List Nat,o'.length=N/\Wf b64 o'/\Row (wr.setCell ⟨g,i+b.length,none⟩ (.int .u64 (c:Nat))) .u64 86 g o'/\Below w0.heap.size w0 (wr.setCell ⟨g,i+b.length,none⟩ (.int .u64 (c:Nat))) /\
   (∀p,i+1+b.length<=p->o'.getD p 0=0)/\val b64 o'=val b64 (a.take (i+1))*n:=by
 refine⟨o.set (i+b.length) c,by simp[ek],jC.set hc,hr.set _ _,hbl.setCell hg _,?_,?_⟩
 ·intro p hp
  rw[getD_set_ne (by omega)]; exact hz p (by omega)
 ·have hu:o[i+b.length]?=some 0:=by
   have:=hz (i+b.length) (Nat.le_refl _)
   rw[List.getD_eq_getElem?_getD,List.getElem?_eq_getElem (by omega)]at this
   rw[List.getElem?_eq_getElem (by omega)]
   simpa using this
  have h1:=rH (b:=b64) hu c
  rw[Nat.mul_zero,Nat.add_zero]at h1
  rw[h1,hval,h0,bR hx,List.take_length,hb,Nat.add_mul,Nat.mul_assoc]
theorem fT (w:World) (v1 v2:Value) (m n:Nat) (h1:cI .u64 b64 w v1 m) (h2:cI .u64 b64 w v2 n) {j k:Nat} (hj:Bd j m) (hk:Bd k n) (gg:j<=1000000000) (nD:k<=1000000000):
  Calls Tryz.prog 52 #[v1,v2] w (jc .u64 b64 w (m*n)):=by
 by_cases IX:m=1
 ·subst IX
  have h0:=h1
  obtain⟨A,c,rfl,_⟩:=h1
  go_enter Tryz.func52,Tryz.ntmps52
  go_wp2_with (go_at_call 72; refine(ia _ _ h0).mono ?_; rintro e w' ⟨rfl,rfl⟩)
  go_ret
  exact⟨v2,rfl,by rw[Nat.one_mul]; exact h2,Below.refl _ _⟩
 ·by_cases Dy:n=1
  ·subst Dy
   go_enter Tryz.func52,Tryz.ntmps52
   go_wp2_with fail
   refine(iy _ _ _ h1 IX).mono ?_
   rintro e w' ⟨rfl,rfl⟩
   go_wp2_with fail
   refine(ia _ _ h2).mono ?_
   rintro e w' ⟨rfl,rfl⟩
   go_wp2
   go_ret
   exact⟨v1,rfl,by rw[Nat.mul_one]; exact h1,Below.refl _ _⟩
  ·have g1:=h1
   have g2:=h2
   obtain⟨A,c,rfl,ha⟩:=h1
   obtain⟨B,d,rfl,hb⟩:=h2
   have hla:=ot hj
   have hlb:=ot hk
   have Cs:=bM ak m
   have UC:=bM ak n
   have wa:=cS ak m
   have wb:=cS ak n
   clear hj hk
   go_enter Tryz.func52,Tryz.ntmps52
   go_wp2_with fail
   refine(iy _ _ _ g1 IX).mono ?_
   rintro e w' ⟨rfl,rfl⟩
   go_wp2_with fail
   refine(iy _ _ _ g2 Dy).mono ?_
   rintro e w' ⟨rfl,rfl⟩
   clear g1 g2
   generalize af b64 m=a at *
   generalize af b64 n=b at *
   have VA:=Lib.hid Cs
   have VB:=Lib.hid UC
   clear Cs UC
   go_wp2_with (at_make; refine eP _ rfl _ _ _ rfl .u64 86 Tryz.underlying45 jf _ _ rfl rfl (by omega) (by omega) (by omega) ?_; intro w1 hrow gH hsz)
   rw[show((a.length:Int)+(b.length:Int)).toNat=a.length+b.length by omega]at hrow
   have Wt:a.length<=1000000000:=by omega
   have Wu:b.length<=1000000000:=by omega
   clear hla hlb
   go_loopw [28] (λTm wr=>∃(i:Nat) (o:List Nat),i<=a.length/\Tm=.int .i64 i/\o.length=a.length+b.length/\Wf b64 o/\Row wr .u64 86 w.heap.size o/\Below w.heap.size w wr/\(∀p,i+b.length<=p->o.getD p 0=0)/\val b64 o=val b64 (a.take i)*n)
    (λTm _=>a.length-(RowKit.intOf Tm).toNat)
   case atStart=>exact⟨0,List.replicate (a.length+b.length) 0,by omega,rfl,by simp,Wf.replicate (by unfold b64; omega) _,hrow,gH,λp _=>by simp[List.getD_eq_getElem?_getD,List.getElem?_replicate]; split<;>rfl,by rw[mH]; simp[val]⟩
   case round=>
    obtain⟨i,o,hi,rfl,ek,jC,hr,hbl,hz,hval⟩:=hrel
    have eY:=Lib.hid hval
    have gn:=Lib.hid ek
    have HZ:=Lib.hid hz
    clear hval ek hz hrow gH hsz
    by_cases hlt:i<a.length
    ·obtain⟨bx,ox,vx,rfl,Hx,ue⟩:=(ha.below hbl).get hlt
     have qw:vx<b64:=wa _ (List.mem_of_getElem? ue.out)
     have Qi:=Lib.hid qw
     clear qw
     go_wp2_with fail
     obtain⟨wo,rfl⟩:∃wo:World,wo=wr:=⟨_,rfl⟩
     go_loopw [8,35] (λs8 Tn wr=>∃(k c:Nat) (o':List Nat),k<=b.length/\Tn=.int .i64 k/\s8=.int .u64 c/\c<b64/\o'.length=a.length+b.length/\Wf b64 o'/\Row wr .u64 86 w.heap.size o'/\Below w.heap.size w wr/\(∀p,i+b.length<=p->o'.getD p 0=0)/\val b64 o'+b64^(i+k)*c=val b64 o+b64^i*(vx*val b64 (b.take k)))
      (λ_ Tn _=>b.length-(RowKit.intOf Tn).toNat)
     case atStart=>exact⟨0,0,o,by omega,rfl,rfl,by unfold b64; omega,gn.out,jC,hr,hbl,HZ.out,by simp[val]⟩
     case round=>
      obtain⟨k,c,o',hk,rfl,rfl,hc,Pv,Mx,hr',Ma,I6,KI⟩:=hrel
      have J9:=Lib.hid KI
      have H9:=Lib.hid Pv
      have TT:=Lib.hid I6
      have HC:=Lib.hid hc
      clear KI Pv I6 hc
      by_cases hlk:k<b.length
      ·obtain⟨Rh,oy,vy,rfl,Qx,Ib⟩:=(hb.below Ma).get hlk
       obtain⟨vu,yA,Ia⟩:=hr'.get (i:=i+k) (by have:=H9.out; omega)
       have Cm:=hr'.frozen (i+k)
       have I4:vy<b64:=wb _ (List.mem_of_getElem? Ib.out)
       have QG:vu<b64:=Mx _ (List.mem_of_getElem? Ia.out)
       have TI:=Lib.hid I4
       have Vc:=Lib.hid QG
       clear I4 QG
       go_wp2_with (first|(go_at_call 73; refine(eJ vx vy Qi.out TI.out _).mono ?_; rintro e w' ⟨rfl,rfl⟩)|((with_reducible refine gb 74 rfl rfl ?_); refine lS rfl rfl rfl ?_))
       go_roundw
       case rel=>
        obtain⟨c',o2,e,r⟩:=zP hlk HC.out H9.out Mx Qi.out TI.out Vc.out hr' (Nat.le_refl _) Ma TT.out J9.out Ia.out Ib.out
        exact⟨k+1,c',o2,by omega,by go_num,by rw[e],r⟩
       case measure=>simp[RowKit.intOf]; omega
      ·obtain rfl:k=b.length:=by omega
       obtain⟨vu,yA,Ia⟩:=hr'.get (i:=i+b.length) (by have:=H9.out; omega)
       have Cm:=hr'.frozen (i+b.length)
       go_wp2
       go_roundw
       case rel=>
        obtain⟨o2,r⟩:=Es HC.out hlt rfl H9.out Mx hr' (Nat.le_refl _) Ma TT.out J9.out eY.out VB.out ue.out
        exact⟨i+1,o2,by omega,by go_num,r⟩
       case measure=>simp[RowKit.intOf]; omega
    ·obtain rfl:i=a.length:=by omega
     have ee:val b64 o=m*n:=by
      have h:=eY.out
      rw[List.take_length,VA.out]at h
      exact h
     have HF:=Lib.hid ee
     clear ee
     have hrd:=hr.iE (c:=a.length+b.length) (by have:=gn.out; omega) (by unfold maxLen; omega)
     go_wp2_with fail
     refine(gP _ _ _ o (m*n) hrd jC _ gn.out HF.out).mono ?_
     rintro e w' ⟨rfl,v,rfl,hv⟩
     go_wp2
     go_ret
     exact⟨v,rfl,hv,hbl⟩
end Wx
