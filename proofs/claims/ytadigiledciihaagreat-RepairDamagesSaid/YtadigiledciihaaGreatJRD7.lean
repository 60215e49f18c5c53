import Derived.Test.YtadigiledciihaaGreatJRD5
import Derived.Test.YtadigiledciihaaGreatCRDShelf
namespace Wx
variable {Y en iC u c:Nat}
theorem KX (hY:Y=en*4294967296+iC) (h0:iC<4294967296) (h1:2147483648<=en) (hu:u<Y) (hc:c<4294967296):
  u=u/en*en+u%en/\(u*4294967296+c)/Y<=u/en/\u/en<=4294967297/\u%en<en:=by
 have hm:u%en<en:=Nat.mod_lt _ (by omega)
 have he:u/en*en+u%en=u:=by have:=Nat.div_add_mod u en; rw[Nat.mul_comm]at this; exact this
 generalize hq:u/en=q at *
 generalize hr:u%en=r at *
 refine⟨he.symm,?_,?_,hm⟩
 ·apply Nat.le_of_lt_succ
  rw[Nat.div_lt_iff_lt_mul (by omega),Nat.succ_mul]
  have e:q*Y=q*en*4294967296+q*iC:=by rw[hY,Nat.mul_add,Nat.mul_assoc]
  rw[e]
  generalize q*en=A at *
  generalize q*iC=B at *
  omega
 ·rcases Nat.lt_or_ge 4294967297 q with h|h
  ·have:4294967298*en<=q*en:=Nat.mul_le_mul_right _ (by omega)
   omega
  ·exact h
variable {q r:Nat}
theorem Fc (hY:Y=en*4294967296+iC) (h1:2147483648<=en) (he:u=q*en+r) (hle:(u*4294967296+c)/Y<=q) (ht:q*iC<=4294967296*r+c):
  q=(u*4294967296+c)/Y:=by
 refine Nat.le_antisymm ?_ hle
 rw[Nat.le_div_iff_mul_le (by omega)]
 have e:q*Y=q*en*4294967296+q*iC:=by rw[hY,Nat.mul_add,Nat.mul_assoc]
 rw[e]
 generalize q*en=A at *
 generalize q*iC=B at *
 omega
theorem KY (hu:u<Y) (hc:c<4294967296):(u*4294967296+c)/Y<4294967296:=by
 rw[Nat.div_lt_iff_lt_mul (by omega)]
 omega
theorem NB (hY:Y=en*4294967296+iC) (_h1:2147483648<=en) (hu:u<Y) (hc:c<4294967296) (he:u=q*en+r)
  (ht:4294967296<=q\/4294967296*r+c<q*iC):(u*4294967296+c)/Y<q:=by
 rcases ht with ht|ht
 ·exact Nat.lt_of_lt_of_le (KY hu hc) ht
 ·rw[Nat.div_lt_iff_lt_mul (by omega)]
  have e:q*Y=q*en*4294967296+q*iC:=by rw[hY,Nat.mul_add,Nat.mul_assoc]
  rw[e]
  generalize q*en=A at *
  generalize q*iC=B at *
  omega
theorem Hl (hY:Y=en*4294967296+iC) (h0:iC<4294967296) (h1:2147483648<=en) (he:u=q*en+r) (hle:(u*4294967296+c)/Y<=q) (hq:q<=4294967296) (hr:4294967296<=r):
  q=(u*4294967296+c)/Y:=by
 refine Fc hY h1 he hle ?_
 have:q*iC<=4294967296*4294967295:=Nat.mul_le_mul hq (by omega)
 omega
theorem yY (T Z:Nat) (hY:0<Y):T+Z/Y=(Z+T*Y)/Y/\Z%Y=(Z+T*Y)%Y:=by
 rw[Nat.add_mul_div_right _ _ hY,Nat.add_mul_mod_self_right]
 exact⟨Nat.add_comm _ _,rfl⟩
theorem Aa {n1 n0:Nat} (hY:0<Y):
  (u*4294967296+n1)/Y*4294967296+((u*4294967296+n1)%Y*4294967296+n0)/Y=(u*18446744073709551616+(n1*4294967296+n0))/Y /\
  ((u*4294967296+n1)%Y*4294967296+n0)%Y=(u*18446744073709551616+(n1*4294967296+n0))%Y:=by
 have e:u*18446744073709551616+(n1*4294967296+n0)=(u*4294967296+n1)%Y*4294967296+n0+(u*4294967296+n1)/Y*4294967296*Y:=by
  have h:=Nat.div_add_mod (u*4294967296+n1) Y
  rw[Nat.mul_right_comm]
  rw[Nat.mul_comm]at h
  generalize (u*4294967296+n1)/Y*Y=A at *
  omega
 rw[e]
 exact yY _ _ hY
variable {U y s:Nat}
theorem Hz:U*2^s/(y*2^s)=U/y/\U*2^s%(y*2^s)/2^s=U%y:=by
 have hp:0<2^s:=Nat.two_pow_pos s
 refine⟨Nat.mul_div_mul_right _ _ hp,?_⟩
 rw[Nat.mul_mod_mul_right,Nat.mul_div_cancel _ hp]
theorem zz {hi lo:Nat} (hs:s<64) (hlo:lo<18446744073709551616) (hY:y*2^s<18446744073709551616) (hhi:hi<y):
  (hi*2^s+lo/2^(64-s))*18446744073709551616+lo*2^s%18446744073709551616=(hi*18446744073709551616+lo)*2^s/\hi*2^s+lo/2^(64-s)<y*2^s/\hi*2^s<18446744073709551616 /\
  lo/2^(64-s)<2^s:=by
 have hp:0<2^s:=Nat.two_pow_pos s
 have hpq:2^(64-s)*2^s=18446744073709551616:=by
  rw[<-Nat.pow_add,show 64-s+s=64 by omega]
 have hdiv:lo*2^s/18446744073709551616=lo/2^(64-s):=by
  rw[<-hpq,Nat.mul_div_mul_right _ _ hp]
 have Lm:=Nat.div_add_mod (lo*2^s) 18446744073709551616
 rw[hdiv]at Lm
 have hmul:hi*2^s+2^s<=y*2^s:=by
  rw[<-Nat.succ_mul]; exact Nat.mul_le_mul_right _ hhi
 have hl:lo/2^(64-s)<2^s:=by
  rw[Nat.div_lt_iff_lt_mul (Nat.two_pow_pos _),Nat.mul_comm,hpq]; exact hlo
 refine⟨?_,by omega,by omega,hl⟩
 rw[Nat.add_mul,Nat.add_mul,Nat.mul_right_comm]
 rw[Nat.mul_comm (lo/_)]
 omega
variable {Q:Nat}
theorem Bu (hQ:Q=(u*4294967296+c)/Y) (hY:Y=en*4294967296+iC) (h0:iC<4294967296) (h1:2147483648<=en) (h2:en<=4294967295) (hu:u<Y) (hc:c<4294967296):
  ∃q r,u/en=q/\u%en=r/\u=q*en+r/\Q<=q/\q<=4294967297/\r<=4294967295:=by
 obtain⟨g1,g2,g3,g4⟩:=KX (c:=c) hY h0 h1 hu hc
 exact⟨_,_,rfl,rfl,g1,by rw[hQ]; exact g2,g3,Nat.le_trans (Nat.le_of_lt g4) h2⟩
theorem uZ (hQ:Q=(u*4294967296+c)/Y) (hY:Y=en*4294967296+iC) (h1:2147483648<=en) (hu:u<Y) (hc:c<4294967296) (he:u=q*en+r)
  (ht:4294967296<=q\/4294967296*r+c<q*iC):Q<q:=by rw[hQ]; exact NB hY h1 hu hc he ht
theorem Bv (hQ:Q=(u*4294967296+c)/Y) (hY:Y=en*4294967296+iC) (h1:2147483648<=en) (he:u=q*en+r) (hle:Q<=q) (ht:q*iC<=4294967296*r+c):q=Q:=by
 rw[hQ]; exact Fc hY h1 he (by rw[<-hQ]; exact hle) ht
theorem mg (hq:1<=q) (h:u=q*y+r):u=(q-1)*y+(r+y):=by
 obtain⟨k,rfl⟩:∃k,q=k+1:=⟨q-1,by omega⟩
 rw[Nat.add_mul,Nat.one_mul]at h
 rw[Nat.add_sub_cancel]; omega
theorem ny (hQ:Q=(u*4294967296+c)/Y) (hY:Y=en*4294967296+iC) (h0:iC<4294967296) (h1:2147483648<=en) (he:u=q*en+r) (hle:Q<q) (hq:q<=4294967297) (hr:4294967296<=r+en):
  q-1=Q:=by
 rw[hQ]; exact Hl hY h0 h1 (mg (by omega) he) (by rw[<-hQ]; omega) (by omega) hr
variable {b p V Og v1 Q3:Nat}
theorem JV {un BG:Nat} (hp:0<p) (hU:U=(un*b+BG)*p+Og) (R2:Og<p) (hV:V=v1*p+Q3) (hv:0<v1):U/V<=(un*b+BG)/v1:=by
 rw[Nat.le_div_iff_mul_le hv]
 have Mm:0<V:=by rw[hV]; have:=Nat.mul_pos hv hp; omega
 have h1:U/V*V<=U:=Nat.div_mul_le_self _ _
 have h2:U/V*v1*p<=U/V*V:=by
  rw[hV,Nat.mul_add,<-Nat.mul_assoc]; omega
 have h3:U/V*v1*p<(un*b+BG+1)*p:=by rw[Nat.add_mul _ 1,Nat.one_mul]; omega
 exact Nat.le_of_lt_succ (Nat.lt_of_mul_lt_mul_right h3)
theorem Gk {N1 u2 v2 g:Nat} (hU:U=(N1*b+u2)*p+Og) (R2:Og<p) (hV:V=(v1*b+v2)*p+Q3) (Mm:0<V) (hN:N1=g*v1+r) (ht:r*b+u2<g*v2):U/V<g:=by
 rw[Nat.div_lt_iff_lt_mul Mm]
 have h1:N1*b+u2<g*(v1*b+v2):=by
  rw[hN,Nat.add_mul,Nat.mul_add,Nat.mul_assoc]; omega
 have h2:(N1*b+u2+1)*p<=g*(v1*b+v2)*p:=Nat.mul_le_mul_right _ h1
 rw[Nat.add_mul _ 1,Nat.one_mul]at h2
 have h3:g*V=g*(v1*b+v2)*p+g*Q3:=by rw[hV,Nat.mul_add,Nat.mul_assoc]
 omega
end Wx

namespace Wx
open Go Go.RowKit Go.Proofs
theorem yf {x y c:Operand} {ops:Array Oper} {Q:Exit->Act->World->Prop} {o:Oper} {rest:List Oper} {a:Act} {w:World} (X Y C:Nat)
  (hx:a.eval x=.int .u64 X) (hy:a.eval y=.int .u64 Y) (hc:a.eval c=.int .u64 C) (c1:C<=1)
  (hK:wpList Tryz.prog ops Q rest (a.put o.dst (.tuple #[.int .u64 (fI X Y C:Nat),.int .u64 (gW X Y C:Nat)])) w):yB Tryz.prog 117 x y c ops Q o rest a w:=
 sub64_ext Tryz.func117 (by kernel_rfl) (by kernel_rfl) (by kernel_rfl) (by kernel_rfl) X Y C hx hy hc c1 hK
theorem kJ {x y o:List Nat} {i br vx vy:Nat} {g:Nat} {wr w0:World} (cG:o.length=i) (hlt:i<x.length) (wx:Wf b64 x) (wy:Wf b64 y) (wW:br<=1) (dw:Wf b64 o)
  (hx:x[i]?=some vx) (hy:y.getD i 0=vy) (hr:Row wr .u64 108 g (o++List.replicate (x.length-i) 0)) (hbl:Below w0.heap.size w0 wr) (hg:w0.heap.size<=g)
  (hval:val b64 o+val b64 (y.take i)=val b64 (x.take i)+b64^i*br):
  ∃(o':List Nat),o'.length=i+1/\Wf b64 o' /\
   Row (wr.setCell ⟨g,i,none⟩ (.int .u64 (fI vx vy br:Nat))) .u64 108 g (o'++List.replicate (x.length-(i+1)) 0) /\
   Below w0.heap.size w0 (wr.setCell ⟨g,i,none⟩ (.int .u64 (fI vx vy br:Nat)))/\val b64 o'+val b64 (y.take (i+1))=val b64 (x.take (i+1))+b64^(i+1)*gW vx vy br:=by
 have mV:vx<b64:=wx _ (List.mem_of_getElem? hx)
 have wZ:vy<b64:=by
  rw[<-hy,List.getD_eq_getElem?_getD]
  cases h:y[i]? with
  |none=>simp[b64]
  |some z=>exact wy _ (List.mem_of_getElem? h)
 have hsp:=si (x:=vx) (y:=vy) (by simpa [b64] using mV) (by simpa [b64] using wZ) wW
 refine⟨o++[fI vx vy br],by simp[cG],dw.append (Wf.cons hsp.2 (Wf.nil _)),?_,hbl.setCell hg _,?_⟩
 ·have h:=hr.set i (fI vx vy br)
  rw[show x.length-i=(x.length-(i+1))+1 by omega,List.replicate_succ,gU cG]at h
  rw[List.append_assoc]
  exact h
 ·exact wD cG hval (bI hx) (by rw[cZ,hy]) hsp.1
set_option maxHeartbeats 400000 in
theorem CB (w:World) (v1 v2:Value) (m n:Nat) (h1:aV .u64 b64 w v1 m) (h2:aV .u64 b64 w v2 n) (hnm:n<=m) {j:Nat} (hj:Bd j m) (cQ:j<=1000000000):
  Calls Tryz.prog 87 #[v1,v2] w (dG .u64 b64 w (m-n)):=by
 obtain⟨X,cx,rfl,hx⟩:=h1
 obtain⟨Y,cy,rfl,hy⟩:=h2
 have hla:=nc hj
 have sG:(ae b64 n).length<=(ae b64 m).length:=by
  rcases Nat.lt_or_ge (ae b64 m).length (ae b64 n).length with h|h
  ·have:=bN af h; omega
  ·exact h
 have wx:=bf af m
 have wy:=bf af n
 have mV:=aR af m
 have wZ:=aR af n
 have IP:=hx.len
 have MN:=hy.len
 clear hj
 generalize ae b64 m=x at *
 generalize ae b64 n=y at *
 have HX:=Lib.hid mV
 have HY:=Lib.hid wZ
 clear mV wZ
 go_enter Tryz.func87,Tryz.ntmps87
 go_wp2_with (at_make; refine bO _ rfl _ _ _ rfl .u64 108 Tryz.underlying52 ir _ _ rfl rfl (by omega) (by omega) (by omega) ?_; intro w1 hrow bL hsz)
 go_loopw [6,15] (λs6 QO wr=>∃(i br:Nat) (o:List Nat),i<=x.length/\QO=.int .i64 i/\s6=.int .u64 br/\br<=1/\o.length=i/\Wf b64 o/\Row wr .u64 108 w.heap.size (o++List.replicate (x.length-i) 0)/\Below w.heap.size w wr/\val b64 o+val b64 (y.take i)=val b64 (x.take i)+b64^i*br)
  (λ_ QO _=>x.length-(intOf QO).toNat)
 case atStart=>exact⟨0,0,[],by omega,rfl,rfl,by omega,rfl,Wf.nil _,by simpa using hrow,bL,by simp[val]⟩
 case round=>
  obtain⟨i,br,o,hi,rfl,rfl,wW,cG,dw,hr,hbl,hval⟩:=hrel
  have bR:=Lib.hid hval
  have cD:=Lib.hid cG
  clear hval cG hrow bL hsz
  by_cases hlt:i<x.length
  ·obtain⟨bx,ox,vx,rfl,tB,gI⟩:=(hx.below hbl).get hlt
   obtain⟨vo,AW,Dh⟩:=hr.get (i:=i) (by have:=cD.out; simp; omega)
   have sw:=hr.frozen i
   by_cases sy:i<y.length
   ·obtain⟨JE,oy,vy,rfl,D7,oU⟩:=(hy.below hbl).get sy
    go_wp2_with ((with_reducible refine eU 117 rfl rfl ?_); refine yf vx vy br rfl rfl rfl (by omega) ?_)
    go_roundw
    case rel=>
     exact⟨i+1,gW vx vy br,(kJ (vy:=vy) cD.out hlt wx wy wW dw gI.out (by rw[List.getD_eq_getElem?_getD,oU.out]; rfl) hr hbl (Nat.le_refl _) bR.out).choose,by omega,by go_num,rfl,rZ _ _ _,(kJ (vy:=vy) cD.out hlt wx wy wW dw gI.out (by rw[List.getD_eq_getElem?_getD,oU.out]; rfl) hr hbl (Nat.le_refl _) bR.out).choose_spec⟩
    case measure=>simp[intOf]; omega
   ·go_wp2_with ((with_reducible refine eU 117 rfl rfl ?_); refine yf vx 0 br rfl rfl rfl (by omega) ?_)
    go_roundw
    case rel=>
     obtain⟨o',r⟩:=kJ (vy:=0) cD.out hlt wx wy wW dw gI.out (by rw[List.getD_eq_getElem?_getD,List.getElem?_eq_none (by omega)]; rfl) hr hbl (Nat.le_refl _) bR.out
     exact⟨i+1,gW vx 0 br,o',by omega,by go_num,rfl,rZ _ _ _,r⟩
    case measure=>simp[intOf]; omega
  ·obtain rfl:i=x.length:=by omega
   have dJ:val b64 o=m-n:=by
    have h:=bR.out
    rw[List.take_of_length_le (Nat.le_refl _),List.take_of_length_le (by omega),HX.out,HY.out]at h
    have hlt:=ek dw
    rw[cD.out]at hlt
    rcases Nat.eq_zero_or_pos br with rfl|hb
    ·omega
    ·obtain rfl:br=1:=by omega
     omega
   have HF:=Lib.hid dJ
   clear dJ
   rw[Nat.sub_self,List.replicate_zero,List.append_nil]at hr
   have hrd:=hr.dI (c:=x.length) (by have:=cD.out; omega) (by unfold maxLen; omega)
   go_wp2_with fail
   refine(fK _ _ _ o (m-n) hrd dw _ cD.out HF.out).mono ?_
   rintro e w' ⟨rfl,v,rfl,hv⟩
   go_wp2
   go_ret
   exact⟨v,rfl,hv,hbl⟩
end Wx

namespace Wx
set_option maxHeartbeats 1000000
open Go Go.RowKit Go.Proofs
theorem er (x y:Nat) (hx:x<b64) (hy:y<b64) (w:World):
  Calls Tryz.prog 112 #[.int .u64 x,.int .u64 y] w λe w'=>e=.returned (.tuple #[.int .u64 (muHi x y:Nat),.int .u64 (muLo x y:Nat)])/\w=w':=by
 refine(Tryz.bits_Mul64 x y (by simpa [b64] using hx) (by simpa [b64] using hy) w).mono λe w' ⟨he,hw⟩=>⟨?_,hw.symm⟩
 unfold muHi muLo
 exact he
theorem lg {x y c:Operand} {ops:Array Oper} {Q:Exit->Act->World->Prop} {o:Oper} {rest:List Oper} {a:Act} {w:World} {X Y:Nat}
  (hx:a.eval x=.int .u64 X) (hy:a.eval y=.int .u64 Y) (hc:a.eval c=.int .u64 0)
  (hK:wpList Tryz.prog ops Q rest (a.put o.dst (.tuple #[.int .u64 (adLo X Y:Nat),.int .u64 (adHi X Y:Nat)])) w):yB Tryz.prog 113 x y c ops Q o rest a w:=
 add64z_ext Tryz.func113 (by kernel_rfl) (by kernel_rfl) (by kernel_rfl) (by kernel_rfl) hx hy hc hK
theorem fR (w:World) (v:Value) (h:aV .u64 b64 w v 1):Calls Tryz.prog 111 #[v] w λe w'=>e=.returned (.bool true)/\w=w':=tD w v 1 h
theorem gj (w:World) (v:Value) (n:Nat) (h:aV .u64 b64 w v n) (hn:n≠1):Calls Tryz.prog 111 #[v] w λe w'=>e=.returned (.bool false)/\w=w':=by
 have:=tD w v n h
 rwa [decide_eq_false hn]at this
variable {c:Nat}
theorem CC {x y u:Nat} (hx:x<b64) (hy:y<b64) (hu:u<b64) (hc:c<b64):
  adLo (adLo (muLo x y) u) c+b64*(muHi x y+adHi (muLo x y) u+adHi (adLo (muLo x y) u) c)=x*y+u+c /\
  muHi x y+adHi (muLo x y) u<18446744073709551616/\muHi x y+adHi (muLo x y) u+adHi (adLo (muLo x y) u) c<b64:=by
 have h1:=pW x y
 have h2:=pH (muLo x y) u
 have h3:=pH (adLo (muLo x y) u) c
 have h4:=pF (adLo (muLo x y) u) c
 have hxy:x*y<=18446744073709551615*18446744073709551615:=Nat.mul_le_mul (by unfold b64 at hx; omega) (by unfold b64 at hy; omega)
 unfold b64 at *
 generalize x*y=p at *
 generalize adLo (muLo x y) u=q at *
 omega
variable {o:List Nat} {w0 wr:World} {g:Nat} {b:List Nat} {i vx N:Nat}
theorem yj {k vy vu s:Nat} (hk:k<b.length) (hc:c<b64) (cG:o.length=N) (dw:Wf b64 o) (hx:vx<b64) (hy:vy<b64) (hu:vu<b64)
  (hr:Row wr .u64 108 g o) (hg:w0.heap.size<=g) (hbl:Below w0.heap.size w0 wr) (hz:∀p,i+b.length<=p->o.getD p 0=0) (hval:val b64 o+b64^(i+k)*c=s+b64^i*(vx*val b64 (b.take k)))
  (HU:o[i+k]?=some vu) (HY:b[k]?=some vy):
  ∃(c':Nat) (o':List Nat),IntKind.u64.wrap (IntKind.u64.wrap ((muHi vx vy:Nat)+(adHi (muLo vx vy) vu:Nat))+(adHi (adLo (muLo vx vy) vu) c:Nat))=(c':Int)/\c'<b64/\o'.length=N/\Wf b64 o' /\
   Row (wr.setCell ⟨g,i+k,none⟩ (.int .u64 (adLo (adLo (muLo vx vy) vu) c:Nat))) .u64 108 g o'/\Below w0.heap.size w0 (wr.setCell ⟨g,i+k,none⟩ (.int .u64 (adLo (adLo (muLo vx vy) vu) c:Nat))) /\
   (∀p,i+b.length<=p->o'.getD p 0=0)/\val b64 o'+b64^(i+(k+1))*c'=s+b64^i*(vx*val b64 (b.take (k+1))):=by
 obtain⟨e1,e2,e3⟩:=CC hx hy hu hc
 refine⟨_,o.set (i+k) (adLo (adLo (muLo vx vy) vu) c),?_,e3,by simp[cG],dw.set (pF _ _),hr.set _ _,hbl.setCell hg _,?_,xx hval HU HY e1⟩
 ·rw[wrap_u64 (n:=((muHi vx vy:Nat):Int)+(adHi (muLo vx vy) vu:Nat)) (by omega) (by omega),wrap_u64 (by omega) (by unfold b64 at e3; omega)]
  omega
 ·intro p hp
  rw[getD_set_ne (by omega)]; exact hz p hp
theorem Dd {o0 a:List Nat} {n:Nat} (hc:c<b64) (hi:i<a.length) (hN:N=a.length+b.length) (cG:o.length=N) (dw:Wf b64 o)
  (hr:Row wr .u64 108 g o) (hg:w0.heap.size<=g) (hbl:Below w0.heap.size w0 wr) (hz:∀p,i+b.length<=p->o.getD p 0=0) (hval:val b64 o+b64^(i+b.length)*c=val b64 o0+b64^i*(vx*val b64 (b.take b.length)))
  (h0:val b64 o0=val b64 (a.take i)*n) (hb:val b64 b=n) (hx:a[i]?=some vx):
  ∃o':List Nat,o'.length=N/\Wf b64 o'/\Row (wr.setCell ⟨g,i+b.length,none⟩ (.int .u64 (c:Nat))) .u64 108 g o'/\Below w0.heap.size w0 (wr.setCell ⟨g,i+b.length,none⟩ (.int .u64 (c:Nat))) /\
   (∀p,i+1+b.length<=p->o'.getD p 0=0)/\val b64 o'=val b64 (a.take (i+1))*n:=by
 refine⟨o.set (i+b.length) c,by simp[cG],dw.set hc,hr.set _ _,hbl.setCell hg _,?_,?_⟩
 ·intro p hp
  rw[getD_set_ne (by omega)]; exact hz p (by omega)
 ·have hu:o[i+b.length]?=some 0:=by
   have:=hz (i+b.length) (Nat.le_refl _)
   rw[List.getD_eq_getElem?_getD,List.getElem?_eq_getElem (by omega)]at this
   rw[List.getElem?_eq_getElem (by omega)]
   simpa using this
  have h1:=lH (b:=b64) hu c
  rw[Nat.mul_zero,Nat.add_zero]at h1
  rw[h1,hval,h0,bI hx,List.take_length,hb,Nat.add_mul,Nat.mul_assoc]
theorem iY (w:World) (v1 v2:Value) (m n:Nat) (h1:aV .u64 b64 w v1 m) (h2:aV .u64 b64 w v2 n) {j k:Nat} (hj:Bd j m) (hk:Bd k n) (cQ:j<=1000000000) (lQ:k<=1000000000):
  Calls Tryz.prog 84 #[v1,v2] w (dG .u64 b64 w (m*n)):=by
 by_cases MP:m=1
 ·subst MP
  have h0:=h1
  obtain⟨A,c,rfl,_⟩:=h1
  go_enter Tryz.func84,Tryz.ntmps84
  go_wp2_with (go_at_call 111; refine(fR _ _ h0).mono ?_; rintro e w' ⟨rfl,rfl⟩)
  go_ret
  exact⟨v2,rfl,by rw[Nat.one_mul]; exact h2,Below.refl _ _⟩
 ·by_cases Cg:n=1
  ·subst Cg
   go_enter Tryz.func84,Tryz.ntmps84
   go_wp2_with fail
   refine(gj _ _ _ h1 MP).mono ?_
   rintro e w' ⟨rfl,rfl⟩
   go_wp2_with fail
   refine(fR _ _ h2).mono ?_
   rintro e w' ⟨rfl,rfl⟩
   go_wp2
   go_ret
   exact⟨v1,rfl,by rw[Nat.mul_one]; exact h1,Below.refl _ _⟩
  ·have g1:=h1
   have g2:=h2
   obtain⟨A,c,rfl,ha⟩:=h1
   obtain⟨B,d,rfl,hb⟩:=h2
   have hla:=nc hj
   have hlb:=nc hk
   have qR:=aR af m
   have Ky:=aR af n
   have wa:=bf af m
   have wb:=bf af n
   clear hj hk
   go_enter Tryz.func84,Tryz.ntmps84
   go_wp2_with fail
   refine(gj _ _ _ g1 MP).mono ?_
   rintro e w' ⟨rfl,rfl⟩
   go_wp2_with fail
   refine(gj _ _ _ g2 Cg).mono ?_
   rintro e w' ⟨rfl,rfl⟩
   clear g1 g2
   generalize ae b64 m=a at *
   generalize ae b64 n=b at *
   have VA:=Lib.hid qR
   have VB:=Lib.hid Ky
   clear qR Ky
   go_wp2_with (at_make; refine bO _ rfl _ _ _ rfl .u64 108 Tryz.underlying52 ir _ _ rfl rfl (by omega) (by omega) (by omega) ?_; intro w1 hrow bL hsz)
   rw[show((a.length:Int)+(b.length:Int)).toNat=a.length+b.length by omega]at hrow
   have P4:a.length<=1000000000:=by omega
   have P5:b.length<=1000000000:=by omega
   clear hla hlb
   go_loopw [28] (λQU wr=>∃(i:Nat) (o:List Nat),i<=a.length/\QU=.int .i64 i/\o.length=a.length+b.length/\Wf b64 o/\Row wr .u64 108 w.heap.size o/\Below w.heap.size w wr/\(∀p,i+b.length<=p->o.getD p 0=0)/\val b64 o=val b64 (a.take i)*n)
    (λQU _=>a.length-(intOf QU).toNat)
   case atStart=>exact⟨0,List.replicate (a.length+b.length) 0,by omega,rfl,by simp,Wf.replicate (by unfold b64; omega) _,hrow,bL,λp _=>by simp[List.getD_eq_getElem?_getD,List.getElem?_replicate]; split<;>rfl,by rw[dZ]; simp[val]⟩
   case round=>
    obtain⟨i,o,hi,rfl,cG,dw,hr,hbl,hz,hval⟩:=hrel
    have bR:=Lib.hid hval
    have cD:=Lib.hid cG
    have HZ:=Lib.hid hz
    clear hval cG hz hrow bL hsz
    by_cases hlt:i<a.length
    ·obtain⟨bx,ox,vx,rfl,tB,gI⟩:=(ha.below hbl).get hlt
     have mV:vx<b64:=wa _ (List.mem_of_getElem? gI.out)
     have Ik:=Lib.hid mV
     clear mV
     go_wp2_with fail
     obtain⟨wo,rfl⟩:∃wo:World,wo=wr:=⟨_,rfl⟩
     go_loopw [8,35] (λs8 QV wr=>∃(k c:Nat) (o':List Nat),k<=b.length/\QV=.int .i64 k/\s8=.int .u64 c/\c<b64/\o'.length=a.length+b.length/\Wf b64 o'/\Row wr .u64 108 w.heap.size o'/\Below w.heap.size w wr/\(∀p,i+b.length<=p->o'.getD p 0=0)/\val b64 o'+b64^(i+k)*c=val b64 o+b64^i*(vx*val b64 (b.take k)))
      (λ_ QV _=>b.length-(intOf QV).toNat)
     case atStart=>exact⟨0,0,o,by omega,rfl,rfl,by unfold b64; omega,cD.out,dw,hr,hbl,HZ.out,by simp[val]⟩
     case round=>
      obtain⟨k,c,o',hk,rfl,rfl,hc,MS,uK,hr',sF,GD,I2⟩:=hrel
      have qg:=Lib.hid I2
      have qf:=Lib.hid MS
      have Jw:=Lib.hid GD
      have HC:=Lib.hid hc
      clear I2 MS GD hc
      by_cases hlk:k<b.length
      ·obtain⟨JE,oy,vy,rfl,D7,oU⟩:=(hb.below sF).get hlk
       obtain⟨vu,yw,Ai⟩:=hr'.get (i:=i+k) (by have:=qf.out; omega)
       have sw:=hr'.frozen (i+k)
       have wZ:vy<b64:=wb _ (List.mem_of_getElem? oU.out)
       have M9:vu<b64:=uK _ (List.mem_of_getElem? Ai.out)
       have Lg:=Lib.hid wZ
       have LB:=Lib.hid M9
       clear wZ M9
       go_wp2_with (first|(go_at_call 112; refine(er vx vy Ik.out Lg.out _).mono ?_; rintro e w' ⟨rfl,rfl⟩)|((with_reducible refine eU 113 rfl rfl ?_); refine lg rfl rfl rfl ?_))
       go_roundw
       case rel=>
        obtain⟨c',o2,e,r⟩:=yj hlk HC.out qf.out uK Ik.out Lg.out LB.out hr' (Nat.le_refl _) sF Jw.out qg.out Ai.out oU.out
        exact⟨k+1,c',o2,by omega,by go_num,by rw[e],r⟩
       case measure=>simp[intOf]; omega
      ·obtain rfl:k=b.length:=by omega
       obtain⟨vu,yw,Ai⟩:=hr'.get (i:=i+b.length) (by have:=qf.out; omega)
       have sw:=hr'.frozen (i+b.length)
       go_wp2
       go_roundw
       case rel=>
        obtain⟨o2,r⟩:=Dd HC.out hlt rfl qf.out uK hr' (Nat.le_refl _) sF Jw.out qg.out bR.out VB.out gI.out
        exact⟨i+1,o2,by omega,by go_num,r⟩
       case measure=>simp[intOf]; omega
    ·obtain rfl:i=a.length:=by omega
     have dJ:val b64 o=m*n:=by
      have h:=bR.out
      rw[List.take_length,VA.out]at h
      exact h
     have HF:=Lib.hid dJ
     clear dJ
     have hrd:=hr.dI (c:=a.length+b.length) (by have:=cD.out; omega) (by unfold maxLen; omega)
     go_wp2_with fail
     refine(fK _ _ _ o (m*n) hrd dw _ cD.out HF.out).mono ?_
     rintro e w' ⟨rfl,v,rfl,hv⟩
     go_wp2
     go_ret
     exact⟨v,rfl,hv,hbl⟩
end Wx
