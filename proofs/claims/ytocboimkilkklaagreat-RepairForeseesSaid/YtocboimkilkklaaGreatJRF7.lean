import Derived.Test.YtocboimkilkklaaGreatJRF5
import Derived.Test.YtocboimkilkklaaGreatCRFShelf
namespace Wx
variable {Y gD kF u c:Nat}
theorem PB (hY:Y=gD*4294967296+kF) (h0:kF<4294967296) (h1:2147483648<=gD) (hu:u<Y) (hc:c<4294967296):
  u=u/gD*gD+u%gD/\(u*4294967296+c)/Y<=u/gD/\u/gD<=4294967297/\u%gD<gD:=by
 have hm:u%gD<gD:=Nat.mod_lt _ (by omega)
 have he:u/gD*gD+u%gD=u:=by have:=Nat.div_add_mod u gD; rw[Nat.mul_comm]at this; exact this
 generalize hq:u/gD=q at *
 generalize hr:u%gD=r at *
 refine⟨he.symm,?_,?_,hm⟩
 ·apply Nat.le_of_lt_succ
  rw[Nat.div_lt_iff_lt_mul (by omega),Nat.succ_mul]
  have e:q*Y=q*gD*4294967296+q*kF:=by rw[hY,Nat.mul_add,Nat.mul_assoc]
  rw[e]
  generalize q*gD=A at *
  generalize q*kF=B at *
  omega
 ·rcases Nat.lt_or_ge 4294967297 q with h|h
  ·have:4294967298*gD<=q*gD:=Nat.mul_le_mul_right _ (by omega)
   omega
  ·exact h
variable {q r:Nat}
theorem JR (hY:Y=gD*4294967296+kF) (h1:2147483648<=gD) (he:u=q*gD+r) (hle:(u*4294967296+c)/Y<=q) (ht:q*kF<=4294967296*r+c):
  q=(u*4294967296+c)/Y:=by
 refine Nat.le_antisymm ?_ hle
 rw[Nat.le_div_iff_mul_le (by omega)]
 have e:q*Y=q*gD*4294967296+q*kF:=by rw[hY,Nat.mul_add,Nat.mul_assoc]
 rw[e]
 generalize q*gD=A at *
 generalize q*kF=B at *
 omega
theorem PC (hu:u<Y) (hc:c<4294967296):(u*4294967296+c)/Y<4294967296:=by
 rw[Nat.div_lt_iff_lt_mul (by omega)]
 omega
theorem Sv (hY:Y=gD*4294967296+kF) (_h1:2147483648<=gD) (hu:u<Y) (hc:c<4294967296) (he:u=q*gD+r)
  (ht:4294967296<=q\/4294967296*r+c<q*kF):(u*4294967296+c)/Y<q:=by
 rcases ht with ht|ht
 ·exact Nat.lt_of_lt_of_le (PC hu hc) ht
 ·rw[Nat.div_lt_iff_lt_mul (by omega)]
  have e:q*Y=q*gD*4294967296+q*kF:=by rw[hY,Nat.mul_add,Nat.mul_assoc]
  rw[e]
  generalize q*gD=A at *
  generalize q*kF=B at *
  omega
theorem Mb (hY:Y=gD*4294967296+kF) (h0:kF<4294967296) (h1:2147483648<=gD) (he:u=q*gD+r) (hle:(u*4294967296+c)/Y<=q) (hq:q<=4294967296) (hr:4294967296<=r):
  q=(u*4294967296+c)/Y:=by
 refine JR hY h1 he hle ?_
 have:q*kF<=4294967296*4294967295:=Nat.mul_le_mul hq (by omega)
 omega
theorem Cr (T Z:Nat) (hY:0<Y):T+Z/Y=(Z+T*Y)/Y/\Z%Y=(Z+T*Y)%Y:=by
 rw[Nat.add_mul_div_right _ _ hY,Nat.add_mul_mod_self_right]
 exact⟨Nat.add_comm _ _,rfl⟩
theorem Dg {n1 n0:Nat} (hY:0<Y):
  (u*4294967296+n1)/Y*4294967296+((u*4294967296+n1)%Y*4294967296+n0)/Y=(u*18446744073709551616+(n1*4294967296+n0))/Y /\
  ((u*4294967296+n1)%Y*4294967296+n0)%Y=(u*18446744073709551616+(n1*4294967296+n0))%Y:=by
 have e:u*18446744073709551616+(n1*4294967296+n0)=(u*4294967296+n1)%Y*4294967296+n0+(u*4294967296+n1)/Y*4294967296*Y:=by
  have h:=Nat.div_add_mod (u*4294967296+n1) Y
  rw[Nat.mul_right_comm]
  rw[Nat.mul_comm]at h
  generalize (u*4294967296+n1)/Y*Y=A at *
  omega
 rw[e]
 exact Cr _ _ hY
variable {U y s:Nat}
theorem Mn:U*2^s/(y*2^s)=U/y/\U*2^s%(y*2^s)/2^s=U%y:=by
 have hp:0<2^s:=Nat.two_pow_pos s
 refine⟨Nat.mul_div_mul_right _ _ hp,?_⟩
 rw[Nat.mul_mod_mul_right,Nat.mul_div_cancel _ hp]
theorem CM {hi lo:Nat} (hs:s<64) (hlo:lo<18446744073709551616) (hY:y*2^s<18446744073709551616) (hhi:hi<y):
  (hi*2^s+lo/2^(64-s))*18446744073709551616+lo*2^s%18446744073709551616=(hi*18446744073709551616+lo)*2^s/\hi*2^s+lo/2^(64-s)<y*2^s/\hi*2^s<18446744073709551616 /\
  lo/2^(64-s)<2^s:=by
 have hp:0<2^s:=Nat.two_pow_pos s
 have hpq:2^(64-s)*2^s=18446744073709551616:=by
  rw[<-Nat.pow_add,show 64-s+s=64 by omega]
 have hdiv:lo*2^s/18446744073709551616=lo/2^(64-s):=by
  rw[<-hpq,Nat.mul_div_mul_right _ _ hp]
 have P6:=Nat.div_add_mod (lo*2^s) 18446744073709551616
 rw[hdiv]at P6
 have hmul:hi*2^s+2^s<=y*2^s:=by
  rw[<-Nat.succ_mul]; exact Nat.mul_le_mul_right _ hhi
 have hl:lo/2^(64-s)<2^s:=by
  rw[Nat.div_lt_iff_lt_mul (Nat.two_pow_pos _),Nat.mul_comm,hpq]; exact hlo
 refine⟨?_,by omega,by omega,hl⟩
 rw[Nat.add_mul,Nat.add_mul,Nat.mul_right_comm]
 rw[Nat.mul_comm (lo/_)]
 omega
variable {Q:Nat}
theorem Ex (hQ:Q=(u*4294967296+c)/Y) (hY:Y=gD*4294967296+kF) (h0:kF<4294967296) (h1:2147483648<=gD) (h2:gD<=4294967295) (hu:u<Y) (hc:c<4294967296):
  ∃q r,u/gD=q/\u%gD=r/\u=q*gD+r/\Q<=q/\q<=4294967297/\r<=4294967295:=by
 obtain⟨g1,g2,g3,g4⟩:=PB (c:=c) hY h0 h1 hu hc
 exact⟨_,_,rfl,rfl,g1,by rw[hQ]; exact g2,g3,Nat.le_trans (Nat.le_of_lt g4) h2⟩
theorem zh (hQ:Q=(u*4294967296+c)/Y) (hY:Y=gD*4294967296+kF) (h1:2147483648<=gD) (hu:u<Y) (hc:c<4294967296) (he:u=q*gD+r)
  (ht:4294967296<=q\/4294967296*r+c<q*kF):Q<q:=by rw[hQ]; exact Sv hY h1 hu hc he ht
theorem Ey (hQ:Q=(u*4294967296+c)/Y) (hY:Y=gD*4294967296+kF) (h1:2147483648<=gD) (he:u=q*gD+r) (hle:Q<=q) (ht:q*kF<=4294967296*r+c):q=Q:=by
 rw[hQ]; exact JR hY h1 he (by rw[<-hQ]; exact hle) ht
theorem oQ (hq:1<=q) (h:u=q*y+r):u=(q-1)*y+(r+y):=by
 obtain⟨k,rfl⟩:∃k,q=k+1:=⟨q-1,by omega⟩
 rw[Nat.add_mul,Nat.one_mul]at h
 rw[Nat.add_sub_cancel]; omega
theorem qy (hQ:Q=(u*4294967296+c)/Y) (hY:Y=gD*4294967296+kF) (h0:kF<4294967296) (h1:2147483648<=gD) (he:u=q*gD+r) (hle:Q<q) (hq:q<=4294967297) (hr:4294967296<=r+gD):
  q-1=Q:=by
 rw[hQ]; exact Mb hY h0 h1 (oQ (by omega) he) (by rw[<-hQ]; omega) (by omega) hr
variable {b p V Tc v1 V6:Nat}
theorem Oq {un EJ:Nat} (hp:0<p) (hU:U=(un*b+EJ)*p+Tc) (Xj:Tc<p) (hV:V=v1*p+V6) (hv:0<v1):U/V<=(un*b+EJ)/v1:=by
 rw[Nat.le_div_iff_mul_le hv]
 have Rf:0<V:=by rw[hV]; have:=Nat.mul_pos hv hp; omega
 have h1:U/V*V<=U:=Nat.div_mul_le_self _ _
 have h2:U/V*v1*p<=U/V*V:=by
  rw[hV,Nat.mul_add,<-Nat.mul_assoc]; omega
 have h3:U/V*v1*p<(un*b+EJ+1)*p:=by rw[Nat.add_mul _ 1,Nat.one_mul]; omega
 exact Nat.le_of_lt_succ (Nat.lt_of_mul_lt_mul_right h3)
theorem K7 {N1 u2 v2 g:Nat} (hU:U=(N1*b+u2)*p+Tc) (Xj:Tc<p) (hV:V=(v1*b+v2)*p+V6) (Rf:0<V) (hN:N1=g*v1+r) (ht:r*b+u2<g*v2):U/V<g:=by
 rw[Nat.div_lt_iff_lt_mul Rf]
 have h1:N1*b+u2<g*(v1*b+v2):=by
  rw[hN,Nat.add_mul,Nat.mul_add,Nat.mul_assoc]; omega
 have h2:(N1*b+u2+1)*p<=g*(v1*b+v2)*p:=Nat.mul_le_mul_right _ h1
 rw[Nat.add_mul _ 1,Nat.one_mul]at h2
 have h3:g*V=g*(v1*b+v2)*p+g*V6:=by rw[hV,Nat.mul_add,Nat.mul_assoc]
 omega
end Wx

namespace Wx
open Go Go.RowKit Go.Proofs
theorem BC {x y c:Operand} {ops:Array Oper} {Q:Exit->Act->World->Prop} {o:Oper} {rest:List Oper} {a:Act} {w:World} (X Y C:Nat)
  (hx:a.eval x=.int .u64 X) (hy:a.eval y=.int .u64 Y) (hc:a.eval c=.int .u64 C) (c1:C<=1)
  (hK:wpList Tryz.prog ops Q rest (a.put o.dst (.tuple #[.int .u64 (iT X Y C:Nat),.int .u64 (ko X Y C:Nat)])) w):BS Tryz.prog 116 x y c ops Q o rest a w:=
 sub64_ext Tryz.func116 (by kernel_rfl) (by kernel_rfl) (by kernel_rfl) (by kernel_rfl) X Y C hx hy hc c1 hK
theorem mW {x y o:List Nat} {i br vx vy:Nat} {g:Nat} {wr w0:World} (ew:o.length=i) (hlt:i<x.length) (wx:Wf b64 x) (wy:Wf b64 y) (AD:br<=1) (fg:Wf b64 o)
  (hx:x[i]?=some vx) (hy:y.getD i 0=vy) (hr:Row wr .u64 119 g (o++List.replicate (x.length-i) 0)) (hbl:Below w0.heap.size w0 wr) (hg:w0.heap.size<=g)
  (hval:val b64 o+val b64 (y.take i)=val b64 (x.take i)+b64^i*br):
  ∃(o':List Nat),o'.length=i+1/\Wf b64 o' /\
   Row (wr.setCell ⟨g,i,none⟩ (.int .u64 (iT vx vy br:Nat))) .u64 119 g (o'++List.replicate (x.length-(i+1)) 0) /\
   Below w0.heap.size w0 (wr.setCell ⟨g,i,none⟩ (.int .u64 (iT vx vy br:Nat)))/\val b64 o'+val b64 (y.take (i+1))=val b64 (x.take (i+1))+b64^(i+1)*ko vx vy br:=by
 have qb:vx<b64:=wx _ (List.mem_of_getElem? hx)
 have AF:vy<b64:=by
  rw[<-hy,List.getD_eq_getElem?_getD]
  cases h:y[i]? with
  |none=>simp[b64]
  |some z=>exact wy _ (List.mem_of_getElem? h)
 have hsp:=vK (x:=vx) (y:=vy) (by simpa [b64] using qb) (by simpa [b64] using AF) AD
 refine⟨o++[iT vx vy br],by simp[ew],fg.append (Wf.cons hsp.2 (Wf.nil _)),?_,hbl.setCell hg _,?_⟩
 ·have h:=hr.set i (iT vx vy br)
  rw[show x.length-i=(x.length-(i+1))+1 by omega,List.replicate_succ,ki ew]at h
  rw[List.append_assoc]
  exact h
 ·exact Ac ew hval (cQ hx) (by rw[eO,hy]) hsp.1
set_option maxHeartbeats 400000 in
theorem FY (w:World) (v1 v2:Value) (m n:Nat) (h1:bq .u64 b64 w v1 m) (h2:bq .u64 b64 w v2 n) (hnm:n<=m) {j:Nat} (hj:Bd j m) (de:j<=1000000000):
  Calls Tryz.prog 74 #[v1,v2] w (eW .u64 b64 w (m-n)):=by
 obtain⟨X,cx,rfl,hx⟩:=h1
 obtain⟨Y,cy,rfl,hy⟩:=h2
 have hla:=qi hj
 have wq:(ae b64 n).length<=(ae b64 m).length:=by
  rcases Nat.lt_or_ge (ae b64 m).length (ae b64 n).length with h|h
  ·have:=cZ ai h; omega
  ·exact h
 have wx:=bW ai m
 have wy:=bW ai n
 have qb:=bF ai m
 have AF:=bF ai n
 have M8:=hx.len
 have RM:=hy.len
 clear hj
 generalize ae b64 m=x at *
 generalize ae b64 n=y at *
 have HX:=Lib.hid qb
 have HY:=Lib.hid AF
 clear qb AF
 go_enter Tryz.func74,Tryz.ntmps74
 go_wp2_with (at_make; refine da _ rfl _ _ _ rfl .u64 119 Tryz.underlying30 kA _ _ rfl rfl (by omega) (by omega) (by omega) ?_; intro w1 hrow cV hsz)
 go_loopw [6,15] (λs6 VU wr=>∃(i br:Nat) (o:List Nat),i<=x.length/\VU=.int .i64 i/\s6=.int .u64 br/\br<=1/\o.length=i/\Wf b64 o/\Row wr .u64 119 w.heap.size (o++List.replicate (x.length-i) 0)/\Below w.heap.size w wr/\val b64 o+val b64 (y.take i)=val b64 (x.take i)+b64^i*br)
  (λ_ VU _=>x.length-(RowKit.intOf VU).toNat)
 case atStart=>exact⟨0,0,[],by omega,rfl,rfl,by omega,rfl,Wf.nil _,by simpa using hrow,cV,by simp[val]⟩
 case round=>
  obtain⟨i,br,o,hi,rfl,rfl,AD,ew,fg,hr,hbl,hval⟩:=hrel
  have dh:=Lib.hid hval
  have en:=Lib.hid ew
  clear hval ew hrow cV hsz
  by_cases hlt:i<x.length
  ·obtain⟨bx,ox,vx,rfl,xo,jG⟩:=(hx.below hbl).get hlt
   obtain⟨vo,DY,GI⟩:=hr.get (i:=i) (by have:=en.out; simp; omega)
   have vU:=hr.frozen i
   by_cases qP:i<y.length
   ·obtain⟨N0,oy,vy,rfl,Iw,sq⟩:=(hy.below hbl).get qP
    go_wp2_with ((with_reducible refine ij 116 rfl rfl ?_); refine BC vx vy br rfl rfl rfl (by omega) ?_)
    go_roundw
    case rel=>
     exact⟨i+1,ko vx vy br,(mW (vy:=vy) en.out hlt wx wy AD fg jG.out (by rw[List.getD_eq_getElem?_getD,sq.out]; rfl) hr hbl (Nat.le_refl _) dh.out).choose,by omega,by go_num,rfl,vI _ _ _,(mW (vy:=vy) en.out hlt wx wy AD fg jG.out (by rw[List.getD_eq_getElem?_getD,sq.out]; rfl) hr hbl (Nat.le_refl _) dh.out).choose_spec⟩
    case measure=>simp[RowKit.intOf]; omega
   ·go_wp2_with ((with_reducible refine ij 116 rfl rfl ?_); refine BC vx 0 br rfl rfl rfl (by omega) ?_)
    go_roundw
    case rel=>
     obtain⟨o',r⟩:=mW (vy:=0) en.out hlt wx wy AD fg jG.out (by rw[List.getD_eq_getElem?_getD,List.getElem?_eq_none (by omega)]; rfl) hr hbl (Nat.le_refl _) dh.out
     exact⟨i+1,ko vx 0 br,o',by omega,by go_num,rfl,vI _ _ _,r⟩
    case measure=>simp[RowKit.intOf]; omega
  ·obtain rfl:i=x.length:=by omega
   have cW:val b64 o=m-n:=by
    have h:=dh.out
    rw[List.take_of_length_le (Nat.le_refl _),List.take_of_length_le (by omega),HX.out,HY.out]at h
    have hlt:=gC fg
    rw[en.out]at hlt
    rcases Nat.eq_zero_or_pos br with rfl|hb
    ·omega
    ·obtain rfl:br=1:=by omega
     omega
   have HF:=Lib.hid cW
   clear cW
   rw[Nat.sub_self,List.replicate_zero,List.append_nil]at hr
   have hrd:=hr.fF (c:=x.length) (by have:=en.out; omega) (by unfold maxLen; omega)
   go_wp2_with fail
   refine(iV _ _ _ o (m-n) hrd fg _ en.out HF.out).mono ?_
   rintro e w' ⟨rfl,v,rfl,hv⟩
   go_wp2
   go_ret
   exact⟨v,rfl,hv,hbl⟩
end Wx

namespace Wx
set_option maxHeartbeats 1000000
open Go Go.RowKit Go.Proofs
theorem gF (x y:Nat) (hx:x<b64) (hy:y<b64) (w:World):
  Calls Tryz.prog 113 #[.int .u64 x,.int .u64 y] w λe w'=>e=.returned (.tuple #[.int .u64 (muHi x y:Nat),.int .u64 (muLo x y:Nat)])/\w=w':=by
 refine(Tryz.bits_Mul64 x y (by simpa [b64] using hx) (by simpa [b64] using hy) w).mono λe w' ⟨he,hw⟩=>⟨?_,hw.symm⟩
 unfold muHi muLo
 exact he
theorem nH {x y c:Operand} {ops:Array Oper} {Q:Exit->Act->World->Prop} {o:Oper} {rest:List Oper} {a:Act} {w:World} {X Y:Nat}
  (hx:a.eval x=.int .u64 X) (hy:a.eval y=.int .u64 Y) (hc:a.eval c=.int .u64 0)
  (hK:wpList Tryz.prog ops Q rest (a.put o.dst (.tuple #[.int .u64 (adLo X Y:Nat),.int .u64 (adHi X Y:Nat)])) w):BS Tryz.prog 114 x y c ops Q o rest a w:=
 add64z_ext Tryz.func114 (by kernel_rfl) (by kernel_rfl) (by kernel_rfl) (by kernel_rfl) hx hy hc hK
theorem jg (w:World) (v:Value) (h:bq .u64 b64 w v 1):Calls Tryz.prog 111 #[v] w λe w'=>e=.returned (.bool true)/\w=w':=xq w v 1 h
theorem jr (w:World) (v:Value) (n:Nat) (h:bq .u64 b64 w v n) (hn:n≠1):Calls Tryz.prog 111 #[v] w λe w'=>e=.returned (.bool false)/\w=w':=by
 have:=xq w v n h
 rwa [decide_eq_false hn]at this
variable {c:Nat}
theorem FZ {x y u:Nat} (hx:x<b64) (hy:y<b64) (hu:u<b64) (hc:c<b64):
  adLo (adLo (muLo x y) u) c+b64*(muHi x y+adHi (muLo x y) u+adHi (adLo (muLo x y) u) c)=x*y+u+c /\
  muHi x y+adHi (muLo x y) u<18446744073709551616/\muHi x y+adHi (muLo x y) u+adHi (adLo (muLo x y) u) c<b64:=by
 have h1:=sW x y
 have h2:=sI (muLo x y) u
 have h3:=sI (adLo (muLo x y) u) c
 have h4:=sH (adLo (muLo x y) u) c
 have hxy:x*y<=18446744073709551615*18446744073709551615:=Nat.mul_le_mul (by unfold b64 at hx; omega) (by unfold b64 at hy; omega)
 unfold b64 at *
 generalize x*y=p at *
 generalize adLo (muLo x y) u=q at *
 omega
variable {o:List Nat} {w0 wr:World} {g:Nat} {b:List Nat} {i vx N:Nat}
theorem BG {k vy vu s:Nat} (hk:k<b.length) (hc:c<b64) (ew:o.length=N) (fg:Wf b64 o) (hx:vx<b64) (hy:vy<b64) (hu:vu<b64)
  (hr:Row wr .u64 119 g o) (hg:w0.heap.size<=g) (hbl:Below w0.heap.size w0 wr) (hz:∀p,i+b.length<=p->o.getD p 0=0) (hval:val b64 o+b64^(i+k)*c=s+b64^i*(vx*val b64 (b.take k)))
  (HU:o[i+k]?=some vu) (HY:b[k]?=some vy):
  ∃(c':Nat) (o':List Nat),IntKind.u64.wrap (IntKind.u64.wrap ((muHi vx vy:Nat)+(adHi (muLo vx vy) vu:Nat))+(adHi (adLo (muLo vx vy) vu) c:Nat))=(c':Int)/\c'<b64/\o'.length=N/\Wf b64 o' /\
   Row (wr.setCell ⟨g,i+k,none⟩ (.int .u64 (adLo (adLo (muLo vx vy) vu) c:Nat))) .u64 119 g o'/\Below w0.heap.size w0 (wr.setCell ⟨g,i+k,none⟩ (.int .u64 (adLo (adLo (muLo vx vy) vu) c:Nat))) /\
   (∀p,i+b.length<=p->o'.getD p 0=0)/\val b64 o'+b64^(i+(k+1))*c'=s+b64^i*(vx*val b64 (b.take (k+1))):=by
 obtain⟨e1,e2,e3⟩:=FZ hx hy hu hc
 refine⟨_,o.set (i+k) (adLo (adLo (muLo vx vy) vu) c),?_,e3,by simp[ew],fg.set (sH _ _),hr.set _ _,hbl.setCell hg _,?_,AW hval HU HY e1⟩
 ·rw[wrap_u64 (n:=((muHi vx vy:Nat):Int)+(adHi (muLo vx vy) vu:Nat)) (by omega) (by omega),wrap_u64 (by omega) (by unfold b64 at e3; omega)]
  omega
 ·intro p hp
  rw[getD_set_ne (by omega)]; exact hz p hp
theorem GC {o0 a:List Nat} {n:Nat} (hc:c<b64) (hi:i<a.length) (hN:N=a.length+b.length) (ew:o.length=N) (fg:Wf b64 o)
  (hr:Row wr .u64 119 g o) (hg:w0.heap.size<=g) (hbl:Below w0.heap.size w0 wr) (hz:∀p,i+b.length<=p->o.getD p 0=0) (hval:val b64 o+b64^(i+b.length)*c=val b64 o0+b64^i*(vx*val b64 (b.take b.length)))
  (h0:val b64 o0=val b64 (a.take i)*n) (hb:val b64 b=n) (hx:a[i]?=some vx):
  ∃o':List Nat,o'.length=N/\Wf b64 o'/\Row (wr.setCell ⟨g,i+b.length,none⟩ (.int .u64 (c:Nat))) .u64 119 g o'/\Below w0.heap.size w0 (wr.setCell ⟨g,i+b.length,none⟩ (.int .u64 (c:Nat))) /\
   (∀p,i+1+b.length<=p->o'.getD p 0=0)/\val b64 o'=val b64 (a.take (i+1))*n:=by
 refine⟨o.set (i+b.length) c,by simp[ew],fg.set hc,hr.set _ _,hbl.setCell hg _,?_,?_⟩
 ·intro p hp
  rw[getD_set_ne (by omega)]; exact hz p (by omega)
 ·have hu:o[i+b.length]?=some 0:=by
   have:=hz (i+b.length) (Nat.le_refl _)
   rw[List.getD_eq_getElem?_getD,List.getElem?_eq_getElem (by omega)]at this
   rw[List.getElem?_eq_getElem (by omega)]
   simpa using this
  have h1:=oh (b:=b64) hu c
  rw[Nat.mul_zero,Nat.add_zero]at h1
  rw[h1,hval,h0,cQ hx,List.take_length,hb,Nat.add_mul,Nat.mul_assoc]
theorem ia (w:World) (v1 v2:Value) (m n:Nat) (h1:bq .u64 b64 w v1 m) (h2:bq .u64 b64 w v2 n) {j k:Nat} (hj:Bd j m) (hk:Bd k n) (de:j<=1000000000) (jE:k<=1000000000):
  Calls Tryz.prog 71 #[v1,v2] w (eW .u64 b64 w (m*n)):=by
 by_cases OS:m=1
 ·subst OS
  have h0:=h1
  obtain⟨A,c,rfl,_⟩:=h1
  go_enter Tryz.func71,Tryz.ntmps71
  go_wp2_with (go_at_call 111; refine(jg _ _ h0).mono ?_; rintro e w' ⟨rfl,rfl⟩)
  go_ret
  exact⟨v2,rfl,by rw[Nat.one_mul]; exact h2,Below.refl _ _⟩
 ·by_cases Fs:n=1
  ·subst Fs
   go_enter Tryz.func71,Tryz.ntmps71
   go_wp2_with fail
   refine(jr _ _ _ h1 OS).mono ?_
   rintro e w' ⟨rfl,rfl⟩
   go_wp2_with fail
   refine(jg _ _ h2).mono ?_
   rintro e w' ⟨rfl,rfl⟩
   go_wp2
   go_ret
   exact⟨v1,rfl,by rw[Nat.mul_one]; exact h1,Below.refl _ _⟩
  ·have g1:=h1
   have g2:=h2
   obtain⟨A,c,rfl,ha⟩:=h1
   obtain⟨B,d,rfl,hb⟩:=h2
   have hla:=qi hj
   have hlb:=qi hk
   have um:=bF ai m
   have O3:=bF ai n
   have wa:=bW ai m
   have wb:=bW ai n
   clear hj hk
   go_enter Tryz.func71,Tryz.ntmps71
   go_wp2_with fail
   refine(jr _ _ _ g1 OS).mono ?_
   rintro e w' ⟨rfl,rfl⟩
   go_wp2_with fail
   refine(jr _ _ _ g2 Fs).mono ?_
   rintro e w' ⟨rfl,rfl⟩
   clear g1 g2
   generalize ae b64 m=a at *
   generalize ae b64 n=b at *
   have VA:=Lib.hid um
   have VB:=Lib.hid O3
   clear um O3
   go_wp2_with (at_make; refine da _ rfl _ _ _ rfl .u64 119 Tryz.underlying30 kA _ _ rfl rfl (by omega) (by omega) (by omega) ?_; intro w1 hrow cV hsz)
   rw[show((a.length:Int)+(b.length:Int)).toNat=a.length+b.length by omega]at hrow
   have U1:a.length<=1000000000:=by omega
   have U2:b.length<=1000000000:=by omega
   clear hla hlb
   go_loopw [28] (λVY wr=>∃(i:Nat) (o:List Nat),i<=a.length/\VY=.int .i64 i/\o.length=a.length+b.length/\Wf b64 o/\Row wr .u64 119 w.heap.size o/\Below w.heap.size w wr/\(∀p,i+b.length<=p->o.getD p 0=0)/\val b64 o=val b64 (a.take i)*n)
    (λVY _=>a.length-(RowKit.intOf VY).toNat)
   case atStart=>exact⟨0,List.replicate (a.length+b.length) 0,by omega,rfl,by simp,Wf.replicate (by unfold b64; omega) _,hrow,cV,λp _=>by simp[List.getD_eq_getElem?_getD,List.getElem?_replicate]; split<;>rfl,by rw[gn]; simp[val]⟩
   case round=>
    obtain⟨i,o,hi,rfl,ew,fg,hr,hbl,hz,hval⟩:=hrel
    have dh:=Lib.hid hval
    have en:=Lib.hid ew
    have HZ:=Lib.hid hz
    clear hval ew hz hrow cV hsz
    by_cases hlt:i<a.length
    ·obtain⟨bx,ox,vx,rfl,xo,jG⟩:=(ha.below hbl).get hlt
     have qb:vx<b64:=wa _ (List.mem_of_getElem? jG.out)
     have MA:=Lib.hid qb
     clear qb
     go_wp2_with fail
     obtain⟨wo,rfl⟩:∃wo:World,wo=wr:=⟨_,rfl⟩
     go_loopw [8,35] (λs8 VZ wr=>∃(k c:Nat) (o':List Nat),k<=b.length/\VZ=.int .i64 k/\s8=.int .u64 c/\c<b64/\o'.length=a.length+b.length/\Wf b64 o'/\Row wr .u64 119 w.heap.size o'/\Below w.heap.size w wr/\(∀p,i+b.length<=p->o'.getD p 0=0)/\val b64 o'+b64^(i+k)*c=val b64 o+b64^i*(vx*val b64 (b.take k)))
      (λ_ VZ _=>b.length-(RowKit.intOf VZ).toNat)
     case atStart=>exact⟨0,0,o,by omega,rfl,rfl,by unfold b64; omega,en.out,fg,hr,hbl,HZ.out,by simp[val]⟩
     case round=>
      obtain⟨k,c,o',hk,rfl,rfl,hc,RQ,yQ,hr',wk,Lr,Nh⟩:=hrel
      have tv:=Lib.hid Nh
      have tu:=Lib.hid RQ
      have NR:=Lib.hid Lr
      have HC:=Lib.hid hc
      clear Nh RQ Lr hc
      by_cases hlk:k<b.length
      ·obtain⟨N0,oy,vy,rfl,Iw,sq⟩:=(hb.below wk).get hlk
       obtain⟨vu,BN,Dq⟩:=hr'.get (i:=i+k) (by have:=tu.out; omega)
       have vU:=hr'.frozen (i+k)
       have AF:vy<b64:=wb _ (List.mem_of_getElem? sq.out)
       have R3:vu<b64:=yQ _ (List.mem_of_getElem? Dq.out)
       have PV:=Lib.hid AF
       have Qj:=Lib.hid R3
       clear AF R3
       go_wp2_with (first|(go_at_call 113; refine(gF vx vy MA.out PV.out _).mono ?_; rintro e w' ⟨rfl,rfl⟩)|((with_reducible refine ij 114 rfl rfl ?_); refine nH rfl rfl rfl ?_))
       go_roundw
       case rel=>
        obtain⟨c',o2,e,r⟩:=BG hlk HC.out tu.out yQ MA.out PV.out Qj.out hr' (Nat.le_refl _) wk NR.out tv.out Dq.out sq.out
        exact⟨k+1,c',o2,by omega,by go_num,by rw[e],r⟩
       case measure=>simp[RowKit.intOf]; omega
      ·obtain rfl:k=b.length:=by omega
       obtain⟨vu,BN,Dq⟩:=hr'.get (i:=i+b.length) (by have:=tu.out; omega)
       have vU:=hr'.frozen (i+b.length)
       go_wp2
       go_roundw
       case rel=>
        obtain⟨o2,r⟩:=GC HC.out hlt rfl tu.out yQ hr' (Nat.le_refl _) wk NR.out tv.out dh.out VB.out jG.out
        exact⟨i+1,o2,by omega,by go_num,r⟩
       case measure=>simp[RowKit.intOf]; omega
    ·obtain rfl:i=a.length:=by omega
     have cW:val b64 o=m*n:=by
      have h:=dh.out
      rw[List.take_length,VA.out]at h
      exact h
     have HF:=Lib.hid cW
     clear cW
     have hrd:=hr.fF (c:=a.length+b.length) (by have:=en.out; omega) (by unfold maxLen; omega)
     go_wp2_with fail
     refine(iV _ _ _ o (m*n) hrd fg _ en.out HF.out).mono ?_
     rintro e w' ⟨rfl,v,rfl,hv⟩
     go_wp2
     go_ret
     exact⟨v,rfl,hv,hbl⟩
end Wx

namespace Wx
set_option maxRecDepth 100000
open Go Go.RowKit Go.Proofs
theorem DB:∀x:Nat,0<x->x<2^64->x<2^Lib.bitLen x/\2^(Lib.bitLen x-1)<=x/\1<=Lib.bitLen x:=by
 intro x
 induction x using Nat.strongRecOn with
 |_ x ih=>
  intro h0 h1
  rw[Lib.bitLen_half x (by omega) h1]
  by_cases hx:x/2=0
  ·obtain rfl:x=1:=by omega
   refine⟨by decide,by decide,by decide⟩
  ·obtain⟨i1,i2,i3⟩:=ih (x/2) (by omega) (by omega) (by omega)
   generalize Lib.bitLen (x/2)=L at *
   obtain⟨M,rfl⟩:∃M,L=M+1:=⟨L-1,by omega⟩
   rw[show 1+(M+1)-1=M+1 by omega,show 1+(M+1)=(M+1)+1 by omega]
   rw[show M+1-1=M by omega]at i2
   rw[Nat.pow_succ]at *
   refine⟨by rw[Nat.pow_succ]; omega,by omega,by omega⟩
theorem MG {x:Nat} (h0:0<x) (h1:x<b64):Lib.bitLen x<=64:=by
 rw[jH]at h1
 obtain⟨_,h2,h3⟩:=DB x h0 h1
 rcases Nat.lt_or_ge 64 (Lib.bitLen x)with h|h
 ·have:2^64<=2^(Lib.bitLen x-1):=Nat.pow_le_pow_right (by omega) (by omega)
  omega
 ·exact h
variable {y:Nat}
theorem Gu (h0:0<y) (h1:y<b64):y*2^(64-Lib.bitLen y)<18446744073709551616/\9223372036854775808<=y*2^(64-Lib.bitLen y)/\64-Lib.bitLen y<64:=by
 have hle:=MG h0 h1
 rw[jH]at h1
 obtain⟨h2,h3,h4⟩:=DB y h0 h1
 have e1:2^Lib.bitLen y*2^(64-Lib.bitLen y)=18446744073709551616:=by rw[<-Nat.pow_add,show Lib.bitLen y+(64-Lib.bitLen y)=64 by omega]
 have e2:2^(Lib.bitLen y-1)*2^(64-Lib.bitLen y)=9223372036854775808:=by rw[<-Nat.pow_add,show Lib.bitLen y-1+(64-Lib.bitLen y)=63 by omega]
 refine⟨?_,?_,by omega⟩
 ·rw[<-e1]; exact Nat.mul_lt_mul_of_pos_right h2 (Nat.two_pow_pos _)
 ·rw[<-e2]; exact Nat.mul_le_mul_right _ h3
theorem Sf (y:Nat) (h0:0<y) (hy:y<b64) (w:World):Calls Tryz.prog 146 #[.int .u64 (y:Int)] w λe w'=>e=.returned (.int .i64 ((64-Lib.bitLen y:Nat):Int))/\w=w':=by
 have hle:=MG h0 hy
 unfold b64 at hy
 refine(Tryz.bits_LeadingZeros64 y w (by omega) (by omega)).mono λe w' ⟨he,hw⟩=>⟨?_,hw.symm⟩
 rw[he]
 refine iu ?_
 rw[Int.toNat_natCast]
 omega
theorem zM (x:Nat) (hx:x<18446744073709551616):bits BinOp.and .u64 (x:Int) 4294967295=((x%4294967296:Nat):Int):=by
 have h:=u64_and_nat x 4294967295 hx (by omega)
 rw[show((4294967295:Nat):Int)=4294967295 from rfl]at h
 rw[h]
 congr 1
 exact Nat.and_two_pow_sub_one_eq_mod x 32
variable {s:Nat}
theorem BI (h:y*2^s<18446744073709551616):IntKind.u64.wrap ((y:Int)*2^s)=((y*2^s:Nat):Int):=by
 have e:((y*2^s:Nat):Int)=(y:Int)*2^s:=by rw[Int.natCast_mul,Int.natCast_pow]; rfl
 rw[<-e,wrap_u64 (by omega) (by omega)]
theorem mc:IntKind.u64.wrap ((y:Int)*2^s)=((y*2^s%18446744073709551616:Nat):Int):=by
 have e:((y*2^s:Nat):Int)=(y:Int)*2^s:=by rw[Int.natCast_mul,Int.natCast_pow]; rfl
 rw[<-e,IntKind.wrap_u64]; omega
variable {hi lo:Nat}
theorem LZ (h3:hi*2^s<18446744073709551616) (h4:lo/2^(64-s)<2^s) (hlo:lo<18446744073709551616):
  bits BinOp.or .u64 ((hi*2^s:Nat):Int) ((lo:Int)/2^(64-s))=((hi*2^s+lo/2^(64-s):Nat):Int):=by
 have e:((lo/2^(64-s):Nat):Int)=(lo:Int)/2^(64-s):=by rw[Int.natCast_ediv,Int.natCast_pow]; rfl
 rw[<-e,u64_or_nat _ _ h3 (Nat.lt_of_le_of_lt (Nat.div_le_self _ _) hlo),nat_join s _ _ (Nat.mul_mod_left _ _) h4]
theorem ML (x:Nat):(x:Int)/4294967296=((x/4294967296:Nat):Int):=by omega
variable {Y u:Nat}
theorem Ff {u0:Nat} (h1:Y<18446744073709551616) (h2:9223372036854775808<=Y) (h3:u*18446744073709551616+u0%18446744073709551616=(hi*18446744073709551616+lo)*2^s) (h4:u<Y)
  (_:0<hi) (_:hi<y):
  Y%4294967296<=4294967295/\2147483648<=Y/4294967296/\Y/4294967296<=4294967295/\u0%18446744073709551616/4294967296<=4294967295/\u0%18446744073709551616%4294967296<=4294967295/\Y<=18446744073709551615/\u<Y /\
  Hid (Y=Y/4294967296*4294967296+Y%4294967296 /\
   u*18446744073709551616+(u0%18446744073709551616/4294967296*4294967296+u0%18446744073709551616%4294967296)=(hi*18446744073709551616+lo)*2^s):=by
 refine⟨by omega,by omega,by omega,by omega,by omega,by omega,h4,?_,?_⟩
 ·omega
 ·rw[<-h3]; omega
theorem BJ (_:Y<=18446744073709551615) (_:u<Y) (_:2147483648<=y):IntKind.u64.wrap ((u:Int)/(y:Int))=((u/y:Nat):Int):=by
 have e:((u/y:Nat):Int)=(u:Int)/(y:Int):=Int.natCast_ediv _ _
 have h:=Nat.div_le_self u y
 rw[<-e]
 generalize u/y=q at *
 rw[wrap_u64 (by omega) (by omega)]
theorem BK (_:Y<=18446744073709551615) (_:u<Y) (_:2147483648<=y):IntKind.u64.wrap ((u:Int)-IntKind.u64.wrap (((u/y:Nat):Int)*(y:Int)))=((u%y:Nat):Int):=by
 have h:=Nat.div_add_mod u y
 rw[Nat.mul_comm]at h
 have e:((u/y*y:Nat):Int)=((u/y:Nat):Int)*(y:Int):=Int.natCast_mul _ _
 rw[<-e]
 generalize u/y*y=q at *
 generalize u%y=r at *
 rw[wrap_u64 (n:=(q:Int)) (by omega) (by omega),wrap_u64 (by omega) (by omega)]
 omega
variable {Q:Nat}
theorem ES {c:Nat} (hQ:Q=(u*4294967296+c)/Y) (_:(Y:Int)<=18446744073709551615) (_:u<Y):
  IntKind.u64.wrap (IntKind.u64.wrap (IntKind.u64.wrap ((u:Int)*4294967296)+(c:Int))-IntKind.u64.wrap ((Q:Int)*(Y:Int)))=(((u*4294967296+c)%Y:Nat):Int):=by
 have h:=Nat.div_add_mod (u*4294967296+c) Y
 have hlt:(u*4294967296+c)%Y<Y:=Nat.mod_lt _ (by omega)
 rw[<-hQ,Nat.mul_comm]at h
 have e:((Q*Y:Nat):Int)=(Q:Int)*(Y:Int):=Int.natCast_mul _ _
 rw[<-e]
 generalize Q*Y=p at *
 generalize (u*4294967296+c)%Y=r at *
 simp only[IntKind.wrap_u64]
 omega
theorem Fg {c1 c0 R Q2:Nat} (hQ:Q=(u*4294967296+c1)/Y) (hR:R=(u*4294967296+c1)%Y) (Yz:Q2=(R*4294967296+c0)/Y)
  (hF:u*18446744073709551616+(c1*4294967296+c0)=(hi*18446744073709551616+lo)*2^s) (hY:Y=y*2^s) (h0:0<Y):
  Q*4294967296+Q2=(hi*18446744073709551616+lo)/y/\(R*4294967296+c0)%Y/2^s=(hi*18446744073709551616+lo)%y:=by
 obtain⟨t1,t2⟩:=Dg (u:=u) (n1:=c1) (n0:=c0) h0
 rw[<-hQ,<-hR,<-Yz,hF]at t1
 rw[<-hR,hF]at t2
 rw[t1,t2,hY]
 exact Mn
set_option maxHeartbeats 4000000 in
theorem Fc (w:World) (hi lo y:Nat) (hlo:lo<b64) (hy:y<b64) (hhi:hi<y) (h0:0<hi):
  Calls Tryz.prog 139 #[.int .u64 (hi:Int),.int .u64 (lo:Int),.int .u64 (y:Int)] w λe w'=>e=.returned (.tuple #[.int .u64 ((hi*b64+lo)/y:Nat),.int .u64 ((hi*b64+lo)%y:Nat)])/\w=w':=by
 obtain⟨t1,t2,t3⟩:=Gu (by omega) hy
 have RN:=Sf y (by omega) hy w
 have OO:lo<18446744073709551616:=by simpa [b64] using hlo
 have hy':y<18446744073709551616:=by simpa [b64] using hy
 clear hlo hy
 obtain⟨s,hs⟩:∃s,s=64-Lib.bitLen y:=⟨_,rfl⟩
 rw[<-hs]at t1 t2 t3 RN
 clear hs
 obtain⟨n1,n2,n3,n4⟩:=CM t3 OO t1 hhi
 have hb1:(((y:Nat):Int)==0)=false:=by simp; omega
 have hb2:(((hi:Nat):Int)==0)=false:=by simp; omega
 have EY:=Lib.hid (BI t1)
 have EH:=Lib.hid (BI n3)
 have EL:=Lib.hid (mc (y:=lo) (s:=s))
 have EO:=Lib.hid (LZ n3 n4 OO)
 have HZ:=Lib.hid RN
 have Tw:=Lib.hid t1
 have PX:=Lib.hid t2
 have Wj:=Lib.hid n1
 have Wk:=Lib.hid n2
 clear RN t1 t2 n1 n2 n3 n4
 go_enter Tryz.func139,Tryz.ntmps139
 go_wp2_with fail
 refine HZ.out.mono ?_
 rintro e w' ⟨rfl,rfl⟩
 clear HZ
 go_upto_region 15 with fail
 have hl:lo*2^s%18446744073709551616<18446744073709551616:=Nat.mod_lt _ (by omega)
 rw[EY.out,EH.out,EL.out,EO.out,zM _ Tw.out,zM _ hl]
 rw[ML (y*2^s),ML (lo*2^s%18446744073709551616)]
 clear EY EH EL EO hb1 hb2 hl
 have HF:=Ff Tw.out PX.out Wj.out Wk.out h0 hhi
 clear Tw PX Wj Wk
 obtain⟨Y,Um⟩:∃Y,Y=y*2^s:=⟨_,rfl⟩
 rw[<-Um]at HF ⊢
 have X2:=Lib.hid Um
 clear Um
 generalize hi*2^s+lo/2^(64-s)=u at *
 generalize lo*2^s%18446744073709551616=u0 at *
 generalize Y/4294967296=gD at *
 generalize Y%4294967296=kF at *
 generalize u0/4294967296=c1 at *
 generalize u0%4294967296=c0 at *
 obtain⟨f1,f2,f3,f4,f5,f6,f7,HF⟩:=HF
 clear OO hy' h0 hhi
 go_upto_block 0 with fail
 rw[BJ f6 f7 f2,BK f6 f7 f2]
 have hN:(u*4294967296+c1)/Y<4294967296:=PC f7 (by omega)
 have hY:=HF.out.1
 have HY:=Lib.hid hY
 obtain⟨Q,hQ⟩:∃Q,Q=(u*4294967296+c1)/Y:=⟨_,rfl⟩
 rw[<-hQ]at hN
 obtain⟨q,r,hq,hr,g1,g2,g3,g4⟩:=Ex hQ HY.out (by omega) f2 f3 f7 (by omega)
 rw[hq,hr]
 have HQ:=Lib.hid hQ
 have Tm:=Lib.hid (And.intro g1 g2)
 have HU:=Lib.hid f7
 have i1:(kF:Int)<=4294967295:=by omega
 have i2:(2147483648:Int)<=(gD:Int):=by omega
 have i3:(gD:Int)<=4294967295:=by omega
 have i4:(c1:Int)<=4294967295:=by omega
 have i5:(c0:Int)<=4294967295:=by omega
 have i6:(Y:Int)<=18446744073709551615:=by omega
 have i7:(u:Int)<(Y:Int):=by omega
 have i8:(Q:Int)<4294967296:=by omega
 have i9:(q:Int)<=4294967297:=by omega
 have i0:(r:Int)<=4294967295:=by omega
 clear hY hQ hq hr g1 g2 g3 g4 f1 f2 f3 f4 f5 f6 f7 hN
 go_cut [15] (λv w'=>w'=w/\v=.int .u64 (Q:Int))
 case first=>
  go_wp2_with fail
  go_loop [15,16] (λv15 v16=>∃q r:Nat,v15=.int .u64 (q:Int)/\v16=.int .u64 (r:Int)/\(q:Int)<=4294967297/\(r:Int)<=4294967295/\Hid (u=q*gD+r/\Q<=q)) (λv15 _=>(RowKit.intOf v15).toNat)
  case atStart=>exact⟨_,_,rfl,rfl,by omega,by omega,Tm⟩
  case round=>
   clear Tm i9 i0
   obtain⟨q,r,rfl,rfl,hq,hr,HI⟩:=hrel
   by_cases hbig:(4294967296:Int)<=(q:Int)
   ·have HD:=Lib.hid (zh HQ.out HY.out (by omega) HU.out (by omega) HI.out.1 (.inl (by omega)))
    by_cases OH:(4294967296:Int)<=(r:Int)+(gD:Int)
    ·go_wp2
     go_meet
     case rel=>
      refine⟨rfl,?_⟩
      rw[<-qy HQ.out HY.out (by omega) (by omega) HI.out.1 HD.out (by omega) (by omega)]
      congr 1; omega
    ·go_wp2
     go_round
     case rel=>exact⟨q-1,r+gD,by congr 1; omega,by go_num,by omega,by omega,oQ (by omega) HI.out.1,by have:=HD.out; omega⟩
     case measure=>simp[RowKit.intOf]; omega
   ·have e:((q*kF:Nat):Int)=(q:Int)*(kF:Int):=Int.natCast_mul _ _
    have hp:(q:Int)*(kF:Int)<=18446744073709551615:=by
     have:q*kF<=4294967295*4294967295:=Nat.mul_le_mul (by omega) (by omega)
     omega
    have Zb:0<=(q:Int)*(kF:Int):=by omega
    by_cases hgt:4294967296*r+c1<q*kF
    ·have UX:4294967296*(r:Int)+(c1:Int)<(q:Int)*(kF:Int):=by omega
     have hd:=zh HQ.out HY.out (by omega) HU.out (by omega) HI.out.1 (.inr hgt)
     have hq1:1<=q:=by omega
     have HD:=Lib.hid hd
     clear hd hgt e
     by_cases OH:(4294967296:Int)<=(r:Int)+(gD:Int)
     ·go_wp2
      go_meet
      case rel=>
       refine⟨rfl,?_⟩
       rw[<-qy HQ.out HY.out (by omega) (by omega) HI.out.1 HD.out (by omega) (by omega)]
       congr 1; omega
     ·go_wp2
      go_round
      case rel=>exact⟨q-1,r+gD,by congr 1; omega,by go_num,by omega,by omega,oQ (by omega) HI.out.1,by have:=HD.out; omega⟩
      case measure=>simp[RowKit.intOf]; omega
    ·have hle':¬(4294967296*(r:Int)+(c1:Int)<(q:Int)*(kF:Int)):=by omega
     have HL:Hid (q*kF<=4294967296*r+c1):=by show _<=_; omega
     clear hgt e
     go_wp2
     go_meet
     case rel=>
      refine⟨rfl,?_⟩
      rw[<-Ey HQ.out HY.out (by omega) HI.out.1 HI.out.2 HL.out]
 case rest=>
  obtain⟨rfl,rfl⟩:=hcut
  clear Tm i9 i0
  go_upto_region 22 with fail
  rw[ES HQ.out i6 HU.out]
  obtain⟨R,hR⟩:∃R,R=(u*4294967296+c1)%Y:=⟨_,rfl⟩
  have WR:R<Y:=by rw[hR]; exact Nat.mod_lt _ (by omega)
  rw[<-hR]
  have HR:=Lib.hid hR
  clear hR
  have i10:(R:Int)<(Y:Int):=by omega
  have MB:=Lib.hid WR
  clear WR
  go_upto_block 2 with fail
  rw[BJ (Y:=Y) (by omega) (by omega) (by omega),BK (Y:=Y) (by omega) (by omega) (by omega)]
  obtain⟨Q2,hQ⟩:∃Q2,Q2=(R*4294967296+c0)/Y:=⟨_,rfl⟩
  have hN:Q2<4294967296:=by rw[hQ]; exact PC MB.out (by omega)
  obtain⟨q,r,hq,hr,g1,g2,g3,g4⟩:=Ex hQ HY.out (by omega) (by omega) (by omega) MB.out (by omega)
  rw[hq,hr]
  have NM:=Lib.hid hQ
  have To:=Lib.hid (And.intro g1 g2)
  have j8:(Q2:Int)<4294967296:=by omega
  have j9:(q:Int)<=4294967297:=by omega
  have j0:(r:Int)<=4294967295:=by omega
  clear hQ hq hr g1 g2 g3 g4 hN
  go_cut [18] (λv w'=>w'=wc/\v=.int .u64 (Q2:Int))
  case first=>
   go_wp2_with fail
   go_loop [18,16] (λv18 v16=>∃q r:Nat,v18=.int .u64 (q:Int)/\v16=.int .u64 (r:Int)/\(q:Int)<=4294967297/\(r:Int)<=4294967295/\Hid (R=q*gD+r/\Q2<=q)) (λv18 _=>(RowKit.intOf v18).toNat)
   case atStart=>exact⟨_,_,rfl,rfl,by omega,by omega,To⟩
   case round=>
    clear To j9 j0 i4 i7
    obtain⟨q,r,rfl,rfl,hq,hr,HI⟩:=hrel
    by_cases hbig:(4294967296:Int)<=(q:Int)
    ·have HD:=Lib.hid (zh NM.out HY.out (by omega) MB.out (by omega) HI.out.1 (.inl (by omega)))
     by_cases OH:(4294967296:Int)<=(r:Int)+(gD:Int)
     ·go_wp2
      go_meet
      case rel=>
       refine⟨rfl,?_⟩
       rw[<-qy NM.out HY.out (by omega) (by omega) HI.out.1 HD.out (by omega) (by omega)]
       congr 1; omega
     ·go_wp2
      go_round
      case rel=>exact⟨q-1,r+gD,by congr 1; omega,by go_num,by omega,by omega,oQ (by omega) HI.out.1,by have:=HD.out; omega⟩
      case measure=>simp[RowKit.intOf]; omega
    ·have e:((q*kF:Nat):Int)=(q:Int)*(kF:Int):=Int.natCast_mul _ _
     have hp:(q:Int)*(kF:Int)<=18446744073709551615:=by
      have:q*kF<=4294967295*4294967295:=Nat.mul_le_mul (by omega) (by omega)
      omega
     have Zb:0<=(q:Int)*(kF:Int):=by omega
     by_cases hgt:4294967296*r+c0<q*kF
     ·have UX:4294967296*(r:Int)+(c0:Int)<(q:Int)*(kF:Int):=by omega
      have hd:=zh NM.out HY.out (by omega) MB.out (by omega) HI.out.1 (.inr hgt)
      have hq1:1<=q:=by omega
      have HD:=Lib.hid hd
      clear hd hgt e
      by_cases OH:(4294967296:Int)<=(r:Int)+(gD:Int)
      ·go_wp2
       go_meet
       case rel=>
        refine⟨rfl,?_⟩
        rw[<-qy NM.out HY.out (by omega) (by omega) HI.out.1 HD.out (by omega) (by omega)]
        congr 1; omega
      ·go_wp2
       go_round
       case rel=>exact⟨q-1,r+gD,by congr 1; omega,by go_num,by omega,by omega,oQ (by omega) HI.out.1,by have:=HD.out; omega⟩
       case measure=>simp[RowKit.intOf]; omega
     ·have hle':¬(4294967296*(r:Int)+(c0:Int)<(q:Int)*(kF:Int)):=by omega
      have HL:Hid (q*kF<=4294967296*r+c0):=by show _<=_; omega
      clear hgt e
      go_wp2
      go_meet
      case rel=>
       refine⟨rfl,?_⟩
       rw[<-Ey NM.out HY.out (by omega) HI.out.1 HI.out.2 HL.out]
  case rest=>
   obtain⟨rfl,rfl⟩:=hcut
   clear To j9 j0
   go_wp2
   obtain⟨e1,e2⟩:=Fg HQ.out HR.out NM.out HF.out.2 X2.out (by omega)
   rw[ES NM.out i6 MB.out]
   have ep:(((R*4294967296+c0)%Y/2^s:Nat):Int)=(((R*4294967296+c0)%Y:Nat):Int)/2^s:=by rw[Int.natCast_ediv,Int.natCast_pow]; rfl
   rw[<-ep,e2]
   rw[show(Q:Int)*4294967296+(Q2:Int)=(((hi*18446744073709551616+lo)/y:Nat):Int) by rw[<-e1,Int.natCast_add,Int.natCast_mul]; rfl]
   go_ret2
   exact⟨rfl,rfl⟩
theorem Cj (w:World) (lo y:Nat) (hlo:lo<b64) (h0:0<y):
  Calls Tryz.prog 139 #[.int .u64 0,.int .u64 (lo:Int),.int .u64 (y:Int)] w λe w'=>e=.returned (.tuple #[.int .u64 (lo/y:Nat),.int .u64 (lo%y:Nat)])/\∃m,w'=w.drewN m:=by
 have hb1:(((y:Nat):Int)==0)=false:=by simp; omega
 have qP:(1:Int)<=(y:Int):=by omega
 have hq:=Nat.div_le_self lo y
 have e1:((lo/y:Nat):Int)=(lo:Int)/(y:Int):=Int.natCast_ediv _ _
 have e2:((lo%y:Nat):Int)=(lo:Int)%(y:Int):=Int.natCast_emod _ _
 have e3:IntKind.u64.wrap ((lo:Int)/(y:Int))=((lo/y:Nat):Int):=by
  rw[<-e1]
  generalize lo/y=q at *
  rw[wrap_u64 (by omega) (by unfold b64 at hlo; omega)]
 have E2:=Lib.hid e2
 have E3:=Lib.hid e3
 clear e1 e2 e3 hq hlo
 go_enter Tryz.func139,Tryz.ntmps139
 go_wp2
 go_quiet (fail)
 go_wp2
 rw[E3.out,<-E2.out]
 go_ret2
 exact⟨rfl,_,rfl⟩
@[irreducible] def dvQ (hi lo y : Nat) : Nat := (hi * b64 + lo) / y
@[irreducible] def dvR (hi lo y : Nat) : Nat := (hi * b64 + lo) % y
theorem DN (hlo:lo<b64) (hy:hi<y):dvQ hi lo y*y+dvR hi lo y=hi*b64+lo/\dvR hi lo y<y/\dvQ hi lo y<b64:=by
 unfold dvQ dvR
 have h:=Nat.div_add_mod (hi*b64+lo) y
 rw[Nat.mul_comm]at h
 refine⟨h,Nat.mod_lt _ (by omega),?_⟩
 rw[Nat.div_lt_iff_lt_mul (by omega),Nat.mul_comm b64]
 have:hi*b64+b64<=y*b64:=by rw[<-Nat.succ_mul]; exact Nat.mul_le_mul_right _ hy
 omega
theorem Ag (w:World) (hi lo y:Nat) (hlo:lo<b64) (hy:y<b64) (hhi:hi<y):
  Calls Tryz.prog 139 #[.int .u64 (hi:Int),.int .u64 (lo:Int),.int .u64 (y:Int)] w (zG w (.tuple #[.int .u64 (dvQ hi lo y:Nat),.int .u64 (dvR hi lo y:Nat)])):=by
 unfold dvQ dvR
 rcases Nat.eq_zero_or_pos hi with rfl|h0
 ·rw[Nat.zero_mul,Nat.zero_add]
  exact Cj w lo y hlo hhi
 ·exact(Fc w hi lo y hlo hy hhi h0).mono λe w' ⟨he,hw⟩=>⟨he,0,hw.symm⟩
theorem Fb (w:World) (hi lo y:Nat) (hlo:lo<b64) (hy:y<b64) (hhi:hi<y):
  Calls Tryz.prog 139 #[.int .u64 (hi:Int),.int .u64 (lo:Int),.int .u64 (y:Int)] w (dY w (.tuple #[.int .u64 (dvQ hi lo y:Nat),.int .u64 (dvR hi lo y:Nat)])):=
 (Ag w hi lo y hlo hy hhi).mono λ_ _ h=>h.is
end Wx
