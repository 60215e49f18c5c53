import Derived.Test.YtpiniclogfefjaaGreatJSolves4
import Derived.Test.YtpiniclogfefjaaGreatCSolvesShelf
namespace Wx

theorem q_init {Y yn1 yn0 u c:Nat} (hY:Y=yn1*4294967296+yn0) (h0:yn0<4294967296) (h1:2147483648≤yn1) (hu:u<Y) (hc:c<4294967296):
  u=u/yn1*yn1+u%yn1∧(u*4294967296+c)/Y≤u/yn1∧u/yn1≤4294967297∧u%yn1<yn1:=by
 have hm:u%yn1<yn1:=Nat.mod_lt _ (by omega)
 have he:u/yn1*yn1+u%yn1=u:=by have:=Nat.div_add_mod u yn1; rw[Nat.mul_comm]at this; exact this
 generalize hq:u/yn1=q at *
 generalize hr:u%yn1=r at *
 refine⟨he.symm,?_,?_,hm⟩
 ·apply Nat.le_of_lt_succ
  rw[Nat.div_lt_iff_lt_mul (by omega),Nat.succ_mul]
  have e:q*Y=q*yn1*4294967296+q*yn0:=by rw[hY,Nat.mul_add,Nat.mul_assoc]
  rw[e]
  generalize q*yn1=A at *
  generalize q*yn0=B at *
  omega
 ·rcases Nat.lt_or_ge 4294967297 q with h|h
  ·have:4294967298*yn1≤q*yn1:=Nat.mul_le_mul_right _ (by omega)
   omega
  ·exact h

theorem q_stop {Y yn1 yn0 u c q r:Nat} (hY:Y=yn1*4294967296+yn0) (h1:2147483648≤yn1) (he:u=q*yn1+r) (hle:(u*4294967296+c)/Y≤q) (ht:q*yn0≤4294967296*r+c):
  q=(u*4294967296+c)/Y:=by
 refine Nat.le_antisymm ?_ hle
 rw[Nat.le_div_iff_mul_le (by omega)]
 have e:q*Y=q*yn1*4294967296+q*yn0:=by rw[hY,Nat.mul_add,Nat.mul_assoc]
 rw[e]
 generalize q*yn1=A at *
 generalize q*yn0=B at *
 omega
theorem q_lt {Y u c:Nat} (hu:u<Y) (hc:c<4294967296):(u*4294967296+c)/Y<4294967296:=by
 rw[Nat.div_lt_iff_lt_mul (by omega)]
 omega
theorem q_dec {Y yn1 yn0 u c q r:Nat} (hY:Y=yn1*4294967296+yn0) (_h1:2147483648≤yn1) (hu:u<Y) (hc:c<4294967296) (he:u=q*yn1+r)
  (ht:4294967296≤q∨4294967296*r+c<q*yn0):(u*4294967296+c)/Y<q:=by
 rcases ht with ht|ht
 ·exact Nat.lt_of_lt_of_le (q_lt hu hc) ht
 ·rw[Nat.div_lt_iff_lt_mul (by omega)]
  have e:q*Y=q*yn1*4294967296+q*yn0:=by rw[hY,Nat.mul_add,Nat.mul_assoc]
  rw[e]
  generalize q*yn1=A at *
  generalize q*yn0=B at *
  omega
theorem q_break {Y yn1 yn0 u c q r:Nat} (hY:Y=yn1*4294967296+yn0) (h0:yn0<4294967296) (h1:2147483648≤yn1) (he:u=q*yn1+r) (hle:(u*4294967296+c)/Y≤q) (hq:q≤4294967296) (hr:4294967296≤r):
  q=(u*4294967296+c)/Y:=by
 refine q_stop hY h1 he hle ?_
 have:q*yn0≤4294967296*4294967295:=Nat.mul_le_mul hq (by omega)
 omega
theorem halves_aux {Y:Nat} (T Z:Nat) (hY:0<Y):T+Z/Y=(Z+T*Y)/Y∧Z%Y=(Z+T*Y)%Y:=by
 rw[Nat.add_mul_div_right _ _ hY,Nat.add_mul_mod_self_right]
 exact⟨Nat.add_comm _ _,rfl⟩
theorem two_halves {Y u n1 n0:Nat} (hY:0<Y):
  (u*4294967296+n1)/Y*4294967296+((u*4294967296+n1)%Y*4294967296+n0)/Y=(u*18446744073709551616+(n1*4294967296+n0))/Y ∧
  ((u*4294967296+n1)%Y*4294967296+n0)%Y=(u*18446744073709551616+(n1*4294967296+n0))%Y:=by
 have e:u*18446744073709551616+(n1*4294967296+n0)=(u*4294967296+n1)%Y*4294967296+n0+(u*4294967296+n1)/Y*4294967296*Y:=by
  have h:=Nat.div_add_mod (u*4294967296+n1) Y
  rw[Nat.mul_right_comm]
  rw[Nat.mul_comm]at h
  generalize (u*4294967296+n1)/Y*Y=A at *
  omega
 rw[e]
 exact halves_aux _ _ hY
theorem shifted {U y s:Nat}:U*2^s/(y*2^s)=U/y∧U*2^s%(y*2^s)/2^s=U%y:=by
 have hp:0<2^s:=Nat.two_pow_pos s
 refine⟨Nat.mul_div_mul_right _ _ hp,?_⟩
 rw[Nat.mul_mod_mul_right,Nat.mul_div_cancel _ hp]
theorem norm_facts {hi lo y s:Nat} (hs:s<64) (hlo:lo<18446744073709551616) (hY:y*2^s<18446744073709551616) (hhi:hi<y):
  (hi*2^s+lo/2^(64-s))*18446744073709551616+lo*2^s%18446744073709551616=(hi*18446744073709551616+lo)*2^s∧hi*2^s+lo/2^(64-s)<y*2^s∧hi*2^s<18446744073709551616 ∧
  lo/2^(64-s)<2^s:=by
 have hp:0<2^s:=Nat.two_pow_pos s
 have hpq:2^(64-s)*2^s=18446744073709551616:=by
  rw[← Nat.pow_add,show 64-s+s=64 by omega]
 have hdiv:lo*2^s/18446744073709551616=lo/2^(64-s):=by
  rw[← hpq,Nat.mul_div_mul_right _ _ hp]
 have hdm:=Nat.div_add_mod (lo*2^s) 18446744073709551616
 rw[hdiv]at hdm
 have hmul:hi*2^s+2^s≤y*2^s:=by
  rw[← Nat.succ_mul]; exact Nat.mul_le_mul_right _ hhi
 have hl:lo/2^(64-s)<2^s:=by
  rw[Nat.div_lt_iff_lt_mul (Nat.two_pow_pos _),Nat.mul_comm,hpq]; exact hlo
 refine⟨?_,by omega,by omega,hl⟩
 rw[Nat.add_mul,Nat.add_mul,Nat.mul_right_comm]
 rw[Nat.mul_comm (lo/_)]
 omega
theorem q_initQ {Y yn1 yn0 u c Q:Nat} (hQ:Q=(u*4294967296+c)/Y) (hY:Y=yn1*4294967296+yn0) (h0:yn0<4294967296) (h1:2147483648≤yn1) (h2:yn1≤4294967295) (hu:u<Y) (hc:c<4294967296):
  ∃q r,u/yn1=q∧u%yn1=r∧u=q*yn1+r∧Q≤q∧q≤4294967297∧r≤4294967295:=by
 obtain⟨g1,g2,g3,g4⟩:=q_init (c:=c) hY h0 h1 hu hc
 exact⟨_,_,rfl,rfl,g1,by rw[hQ]; exact g2,g3,Nat.le_trans (Nat.le_of_lt g4) h2⟩
theorem q_decQ {Y yn1 yn0 u c q r Q:Nat} (hQ:Q=(u*4294967296+c)/Y) (hY:Y=yn1*4294967296+yn0) (h1:2147483648≤yn1) (hu:u<Y) (hc:c<4294967296) (he:u=q*yn1+r)
  (ht:4294967296≤q∨4294967296*r+c<q*yn0):Q<q:=by rw[hQ]; exact q_dec hY h1 hu hc he ht
theorem q_stopQ {Y yn1 yn0 u c q r Q:Nat} (hQ:Q=(u*4294967296+c)/Y) (hY:Y=yn1*4294967296+yn0) (h1:2147483648≤yn1) (he:u=q*yn1+r) (hle:Q≤q) (ht:q*yn0≤4294967296*r+c):q=Q:=by
 rw[hQ]; exact q_stop hY h1 he (by rw[← hQ]; exact hle) ht
theorem Qen {u q y r:Nat} (hq:1≤q) (h:u=q*y+r):u=(q-1)*y+(r+y):=by
 obtain⟨k,rfl⟩:∃k,q=k+1:=⟨q-1,by omega⟩
 rw[Nat.add_mul,Nat.one_mul]at h
 rw[Nat.add_sub_cancel]; omega
theorem Qgr {Y yn1 yn0 u c q r Q:Nat} (hQ:Q=(u*4294967296+c)/Y) (hY:Y=yn1*4294967296+yn0) (h0:yn0<4294967296) (h1:2147483648≤yn1) (he:u=q*yn1+r) (hle:Q<q) (hq:q≤4294967297) (hr:4294967296≤r+yn1):
  q-1=Q:=by
 rw[hQ]; exact q_break hY h0 h1 (Qen (by omega) he) (by rw[← hQ]; omega) (by omega) hr
theorem est_le {b p U V un un1 ulo v1 vlo:Nat} (hp:0<p) (hU:U=(un*b+un1)*p+ulo) (hul:ulo<p) (hV:V=v1*p+vlo) (hv:0<v1):U/V≤(un*b+un1)/v1:=by
 rw[Nat.le_div_iff_mul_le hv]
 have hVp:0<V:=by rw[hV]; have:=Nat.mul_pos hv hp; omega
 have h1:U/V*V≤U:=Nat.div_mul_le_self _ _
 have h2:U/V*v1*p≤U/V*V:=by
  rw[hV,Nat.mul_add,← Nat.mul_assoc]; omega
 have h3:U/V*v1*p<(un*b+un1+1)*p:=by rw[Nat.add_mul _ 1,Nat.one_mul]; omega
 exact Nat.le_of_lt_succ (Nat.lt_of_mul_lt_mul_right h3)
theorem est_dec {b p U V N1 u2 ulo v1 v2 vlo g r:Nat} (hU:U=(N1*b+u2)*p+ulo) (hul:ulo<p) (hV:V=(v1*b+v2)*p+vlo) (hVp:0<V) (hN:N1=g*v1+r) (ht:r*b+u2<g*v2):U/V<g:=by
 rw[Nat.div_lt_iff_lt_mul hVp]
 have h1:N1*b+u2<g*(v1*b+v2):=by
  rw[hN,Nat.add_mul,Nat.mul_add,Nat.mul_assoc]; omega
 have h2:(N1*b+u2+1)*p≤g*(v1*b+v2)*p:=Nat.mul_le_mul_right _ h1
 rw[Nat.add_mul _ 1,Nat.one_mul]at h2
 have h3:g*V=g*(v1*b+v2)*p+g*vlo:=by rw[hV,Nat.mul_add,Nat.mul_assoc]
 omega
end Wx

namespace Wx
open Go Go.RowKit Go.Proofs

theorem sub64_at {x y c:Operand} {ops:Array Oper} {Q:Exit→Act→World→Prop} {o:Oper} {rest:List Oper} {a:Act} {w:World} (X Y C:Nat)
  (hx:a.eval x=.int .u64 X) (hy:a.eval y=.int .u64 Y) (hc:a.eval c=.int .u64 C) (c1:C≤1)
  (hK:wpList Tryz.prog ops Q rest (a.put o.dst (.tuple #[.int .u64 (Uh X Y C:Nat),.int .u64 (Qac X Y C:Nat)])) w):Ext3 Tryz.prog 122 x y c ops Q o rest a w:=
 sub64_ext Tryz.func122 (by kernel_rfl) (by kernel_rfl) (by kernel_rfl) (by kernel_rfl) X Y C hx hy hc c1 hK

theorem Qfx {x y o:List Nat} {i br vx vy:Nat} {g:Nat} {wr w0:World} (hol:o.length=i) (hlt:i<x.length) (wx:Wf Qa x) (wy:Wf Qa y) (hcr:br≤1) (hwo:Wf Qa o)
  (hx:x[i]?=some vx) (hy:y.getD i 0=vy) (hr:Row wr .u64 127 g (o++List.replicate (x.length-i) 0)) (hbl:Below w0.heap.size w0 wr) (hg:w0.heap.size≤g)
  (hval:Qh Qa o+Qh Qa (y.take i)=Qh Qa (x.take i)+Qa^i*br):
  ∃(o':List Nat),o'.length=i+1∧Wf Qa o' ∧
   Row (wr.setCell ⟨g,i,none⟩ (.int .u64 (Uh vx vy br:Nat))) .u64 127 g (o'++List.replicate (x.length-(i+1)) 0) ∧
   Below w0.heap.size w0 (wr.setCell ⟨g,i,none⟩ (.int .u64 (Uh vx vy br:Nat)))∧Qh Qa o'+Qh Qa (y.take (i+1))=Qh Qa (x.take (i+1))+Qa^(i+1)*Qac vx vy br:=by
 have hvx:vx<Qa:=wx _ (List.mem_of_getElem? hx)
 have hvy:vy<Qa:=by
  rw[← hy,List.getD_eq_getElem?_getD]
  cases h:y[i]? with
  |none=>simp[Qa]
  |some z=>exact wy _ (List.mem_of_getElem? h)
 have hsp:=sub_spec (x:=vx) (y:=vy) (by simpa [Qa] using hvx) (by simpa [Qa] using hvy) hcr
 refine⟨o++[Uh vx vy br],by simp[hol],hwo.append (Wf.cons hsp.2 (Wf.nil _)),?_,hbl.setCell hg _,?_⟩
 ·have h:=hr.set i (Uh vx vy br)
  rw[show x.length-i=(x.length-(i+1))+1 by omega,List.replicate_succ,Qb5 hol]at h
  rw[List.append_assoc]
  exact h
 ·exact dif_step hol hval (Jl hx) (by rw[Wy,hy]) hsp.1

set_option maxHeartbeats 400000 in
theorem minus_num (w:World) (v1 v2:Value) (m n:Nat) (h1:Num .u64 Qa w v1 m) (h2:Num .u64 Qa w v2 n) (hnm:n≤m) {j:Nat} (hj:Bd j m) (hj1:j≤1000000000):
  Calls Tryz.prog 101 #[v1,v2] w (J6 .u64 Qa w (m-n)):=by
 obtain⟨X,cx,rfl,hx⟩:=h1
 obtain⟨Y,cy,rfl,hy⟩:=h2
 have hla:=len64 hj
 have hyx:(digs Qa n).length≤(digs Qa m).length:=by
  rcases Nat.lt_or_ge (digs Qa m).length (digs Qa n).length with h|h
  ·have:=Kg Qu h; omega
  ·exact h
 have wx:=Yz Qu m
 have wy:=Yz Qu n
 have hvx:=Yg Qu m
 have hvy:=Yg Qu n
 have hlx:=hx.len
 have hly:=hy.len
 clear hj
 generalize digs Qa m=x at *
 generalize digs Qa n=y at *
 have HX:=Lib.hid hvx
 have HY:=Lib.hid hvy
 clear hvx hvy
 go_enter Tryz.func101,Tryz.ntmps101
 go_wp2_with (at_make; refine Jm _ rfl _ _ _ rfl .u64 127 Tryz.underlying36 Qa7 _ _ rfl rfl (by omega) (by omega) (by omega) ?_; intro w1 hrow hbel hsz)
 go_loopw [6,15] (fun s6 s15 wr=>∃(i br:Nat) (o:List Nat),i≤x.length∧s15=.int .i64 i∧s6=.int .u64 br∧br≤1∧o.length=i∧Wf Qa o∧Row wr .u64 127 w.heap.size (o++List.replicate (x.length-i) 0)∧Below w.heap.size w wr∧Qh Qa o+Qh Qa (y.take i)=Qh Qa (x.take i)+Qa^i*br)
  (fun _ s15 _=>x.length-(intOf s15).toNat)
 case atStart=>exact⟨0,0,[],by omega,rfl,rfl,by omega,rfl,Wf.nil _,by simpa using hrow,hbel,by simp[Qh]⟩
 case round=>
  obtain⟨i,br,o,hi,rfl,rfl,hcr,hol,hwo,hr,hbl,hval⟩:=hrel
  have HVAL:=Lib.hid hval
  have HOL:=Lib.hid hol
  clear hval hol hrow hbel hsz
  by_cases hlt:i<x.length
  ·obtain⟨bx,ox,vx,rfl,hcx,HVX⟩:=(hx.below hbl).get hlt
   obtain⟨vo,hco,HVO⟩:=hr.get (i:=i) (by have:=HOL.out; simp; omega)
   have hcf:=hr.frozen i
   by_cases hy1:i<y.length
   ·obtain⟨by_,oy,vy,rfl,hcy,HVY⟩:=(hy.below hbl).get hy1
    go_wp2_with ((with_reducible refine U6 122 rfl rfl ?_); refine sub64_at vx vy br rfl rfl rfl (by omega) ?_)
    go_roundw
    case rel=>
     exact⟨i+1,Qac vx vy br,(Qfx (vy:=vy) HOL.out hlt wx wy hcr hwo HVX.out (by rw[List.getD_eq_getElem?_getD,HVY.out]; rfl) hr hbl (Nat.le_refl _) HVAL.out).choose,by omega,by go_num,rfl,subHi_le _ _ _,(Qfx (vy:=vy) HOL.out hlt wx wy hcr hwo HVX.out (by rw[List.getD_eq_getElem?_getD,HVY.out]; rfl) hr hbl (Nat.le_refl _) HVAL.out).choose_spec⟩
    case measure=>simp[intOf]; omega
   ·go_wp2_with ((with_reducible refine U6 122 rfl rfl ?_); refine sub64_at vx 0 br rfl rfl rfl (by omega) ?_)
    go_roundw
    case rel=>
     obtain⟨o',r⟩:=Qfx (vy:=0) HOL.out hlt wx wy hcr hwo HVX.out (by rw[List.getD_eq_getElem?_getD,List.getElem?_eq_none (by omega)]; rfl) hr hbl (Nat.le_refl _) HVAL.out
     exact⟨i+1,Qac vx 0 br,o',by omega,by go_num,rfl,subHi_le _ _ _,r⟩
    case measure=>simp[intOf]; omega
  ·obtain rfl:i=x.length:=by omega
   have hfin:Qh Qa o=m-n:=by
    have h:=HVAL.out
    rw[List.take_of_length_le (Nat.le_refl _),List.take_of_length_le (by omega),HX.out,HY.out]at h
    have hlt:=Vc hwo
    rw[HOL.out]at hlt
    rcases Nat.eq_zero_or_pos br with rfl|hb
    ·omega
    ·obtain rfl:br=1:=by omega
     omega
   have HF:=Lib.hid hfin
   clear hfin
   rw[Nat.sub_self,List.replicate_zero,List.append_nil]at hr
   have hrd:=hr.rd_all (c:=x.length) (by have:=HOL.out; omega) (by unfold maxLen; omega)
   go_wp2_with fail
   refine(Qat _ _ _ o (m-n) hrd hwo _ HOL.out HF.out).mono ?_
   rintro e w' ⟨rfl,v,rfl,hv⟩
   go_wp2
   go_ret
   exact⟨v,rfl,hv,hbl⟩
end Wx

namespace Wx
open Go Go.RowKit Go.Proofs

theorem Us (x y:Nat) (hx:x<Qa) (hy:y<Qa) (w:World):
  Calls Tryz.prog 119 #[.int .u64 x,.int .u64 y] w fun e w'=>e=.returned (.tuple #[.int .u64 (muHi x y:Nat),.int .u64 (muLo x y:Nat)])∧w=w':=by
 refine(Tryz.bits_Mul64 x y (by simpa [Qa] using hx) (by simpa [Qa] using hy) w).mono fun e w' ⟨he,hw⟩=>⟨?_,hw.symm⟩
 unfold muHi muLo
 exact he
theorem Qd5 {x y c:Operand} {ops:Array Oper} {Q:Exit→Act→World→Prop} {o:Oper} {rest:List Oper} {a:Act} {w:World} {X Y:Nat}
  (hx:a.eval x=.int .u64 X) (hy:a.eval y=.int .u64 Y) (hc:a.eval c=.int .u64 0)
  (hK:wpList Tryz.prog ops Q rest (a.put o.dst (.tuple #[.int .u64 (adLo X Y:Nat),.int .u64 (adHi X Y:Nat)])) w):Ext3 Tryz.prog 120 x y c ops Q o rest a w:=
 add64z_ext Tryz.func120 (by kernel_rfl) (by kernel_rfl) (by kernel_rfl) (by kernel_rfl) hx hy hc hK
theorem Qbx (w:World) (v:Value) (h:Num .u64 Qa w v 1):Calls Tryz.prog 104 #[v] w fun e w'=>e=.returned (.bool true)∧w=w':=isOne_num w v 1 h
theorem Qbn (w:World) (v:Value) (n:Nat) (h:Num .u64 Qa w v n) (hn:n≠1):Calls Tryz.prog 104 #[v] w fun e w'=>e=.returned (.bool false)∧w=w':=by
 have:=isOne_num w v n h
 rwa [decide_eq_false hn]at this

theorem mul_carry {x y u c:Nat} (hx:x<Qa) (hy:y<Qa) (hu:u<Qa) (hc:c<Qa):
  adLo (adLo (muLo x y) u) c+Qa*(muHi x y+adHi (muLo x y) u+adHi (adLo (muLo x y) u) c)=x*y+u+c ∧
  muHi x y+adHi (muLo x y) u<18446744073709551616∧muHi x y+adHi (muLo x y) u+adHi (adLo (muLo x y) u) c<Qa:=by
 have h1:=mu_spec x y
 have h2:=ad_spec (muLo x y) u
 have h3:=ad_spec (adLo (muLo x y) u) c
 have h4:=adLo_lt (adLo (muLo x y) u) c
 have hxy:x*y≤18446744073709551615*18446744073709551615:=Nat.mul_le_mul (by unfold Qa at hx; omega) (by unfold Qa at hy; omega)
 unfold Qa at *
 generalize x*y=p at *
 generalize adLo (muLo x y) u=q at *
 omega

theorem times_round {w0 wr:World} {g:Nat} {o b:List Nat} {i k c vx vy vu s N:Nat} (hk:k<b.length) (hc:c<Qa) (hol:o.length=N) (hwo:Wf Qa o) (hx:vx<Qa) (hy:vy<Qa) (hu:vu<Qa)
  (hr:Row wr .u64 127 g o) (hg:w0.heap.size≤g) (hbl:Below w0.heap.size w0 wr) (hz:∀p,i+b.length≤p→o.getD p 0=0) (hval:Qh Qa o+Qa^(i+k)*c=s+Qa^i*(vx*Qh Qa (b.take k)))
  (HU:o[i+k]?=some vu) (HY:b[k]?=some vy):
  ∃(c':Nat) (o':List Nat),IntKind.u64.wrap (IntKind.u64.wrap ((muHi vx vy:Nat)+(adHi (muLo vx vy) vu:Nat))+(adHi (adLo (muLo vx vy) vu) c:Nat))=(c':Int)∧c'<Qa∧o'.length=N∧Wf Qa o' ∧
   Row (wr.setCell ⟨g,i+k,none⟩ (.int .u64 (adLo (adLo (muLo vx vy) vu) c:Nat))) .u64 127 g o'∧Below w0.heap.size w0 (wr.setCell ⟨g,i+k,none⟩ (.int .u64 (adLo (adLo (muLo vx vy) vu) c:Nat))) ∧
   (∀p,i+b.length≤p→o'.getD p 0=0)∧Qh Qa o'+Qa^(i+(k+1))*c'=s+Qa^i*(vx*Qh Qa (b.take (k+1))):=by
 obtain⟨e1,e2,e3⟩:=mul_carry hx hy hu hc
 refine⟨_,o.set (i+k) (adLo (adLo (muLo vx vy) vu) c),?_,e3,by simp[hol],hwo.set (adLo_lt _ _),hr.set _ _,hbl.setCell hg _,?_,mul_step hval HU HY e1⟩
 ·rw[wrap_u64 (n:=((muHi vx vy:Nat):Int)+(adHi (muLo vx vy) vu:Nat)) (by omega) (by omega),wrap_u64 (by omega) (by unfold Qa at e3; omega)]
  omega
 ·intro p hp
  rw[V4 (by omega)]; exact hz p hp
theorem times_row {w0 wr:World} {g:Nat} {o o0 a b:List Nat} {i c vx n N:Nat} (hc:c<Qa) (hi:i<a.length) (hN:N=a.length+b.length) (hol:o.length=N) (hwo:Wf Qa o)
  (hr:Row wr .u64 127 g o) (hg:w0.heap.size≤g) (hbl:Below w0.heap.size w0 wr) (hz:∀p,i+b.length≤p→o.getD p 0=0) (hval:Qh Qa o+Qa^(i+b.length)*c=Qh Qa o0+Qa^i*(vx*Qh Qa (b.take b.length)))
  (h0:Qh Qa o0=Qh Qa (a.take i)*n) (hb:Qh Qa b=n) (hx:a[i]?=some vx):
  ∃o':List Nat,o'.length=N∧Wf Qa o'∧Row (wr.setCell ⟨g,i+b.length,none⟩ (.int .u64 (c:Nat))) .u64 127 g o'∧Below w0.heap.size w0 (wr.setCell ⟨g,i+b.length,none⟩ (.int .u64 (c:Nat))) ∧
   (∀p,i+1+b.length≤p→o'.getD p 0=0)∧Qh Qa o'=Qh Qa (a.take (i+1))*n:=by
 refine⟨o.set (i+b.length) c,by simp[hol],hwo.set hc,hr.set _ _,hbl.setCell hg _,?_,?_⟩
 ·intro p hp
  rw[V4 (by omega)]; exact hz p (by omega)
 ·have hu:o[i+b.length]?=some 0:=by
   have:=hz (i+b.length) (Nat.le_refl _)
   rw[List.getD_eq_getElem?_getD,List.getElem?_eq_getElem (by omega)]at this
   rw[List.getElem?_eq_getElem (by omega)]
   simpa using this
  have h1:=Qef (b:=Qa) hu c
  rw[Nat.mul_zero,Nat.add_zero]at h1
  rw[h1,hval,h0,Jl hx,List.take_length,hb,Nat.add_mul,Nat.mul_assoc]

set_option maxHeartbeats 1000000 in
theorem Qb7 (w:World) (v1 v2:Value) (m n:Nat) (h1:Num .u64 Qa w v1 m) (h2:Num .u64 Qa w v2 n) {j k:Nat} (hj:Bd j m) (hk:Bd k n) (hj1:j≤1000000000) (hk1:k≤1000000000):
  Calls Tryz.prog 96 #[v1,v2] w (J6 .u64 Qa w (m*n)):=by
 by_cases hm1:m=1
 ·subst hm1
  have h0:=h1
  obtain⟨A,c,rfl,_⟩:=h1
  go_enter Tryz.func96,Tryz.ntmps96
  go_wp2_with (go_at_call 104; refine(Qbx _ _ h0).mono ?_; rintro e w' ⟨rfl,rfl⟩)
  go_ret
  exact⟨v2,rfl,by rw[Nat.one_mul]; exact h2,Below.refl _ _⟩
 ·by_cases hn1:n=1
  ·subst hn1
   go_enter Tryz.func96,Tryz.ntmps96
   go_wp2_with fail
   refine(Qbn _ _ _ h1 hm1).mono ?_
   rintro e w' ⟨rfl,rfl⟩
   go_wp2_with fail
   refine(Qbx _ _ h2).mono ?_
   rintro e w' ⟨rfl,rfl⟩
   go_wp2
   go_ret
   exact⟨v1,rfl,by rw[Nat.mul_one]; exact h1,Below.refl _ _⟩
  ·have g1:=h1
   have g2:=h2
   obtain⟨A,c,rfl,ha⟩:=h1
   obtain⟨B,d,rfl,hb⟩:=h2
   have hla:=len64 hj
   have hlb:=len64 hk
   have hva:=Yg Qu m
   have hvb:=Yg Qu n
   have wa:=Yz Qu m
   have wb:=Yz Qu n
   clear hj hk
   go_enter Tryz.func96,Tryz.ntmps96
   go_wp2_with fail
   refine(Qbn _ _ _ g1 hm1).mono ?_
   rintro e w' ⟨rfl,rfl⟩
   go_wp2_with fail
   refine(Qbn _ _ _ g2 hn1).mono ?_
   rintro e w' ⟨rfl,rfl⟩
   clear g1 g2
   generalize digs Qa m=a at *
   generalize digs Qa n=b at *
   have VA:=Lib.hid hva
   have VB:=Lib.hid hvb
   clear hva hvb
   go_wp2_with (at_make; refine Jm _ rfl _ _ _ rfl .u64 127 Tryz.underlying36 Qa7 _ _ rfl rfl (by omega) (by omega) (by omega) ?_; intro w1 hrow hbel hsz)
   rw[show((a.length:Int)+(b.length:Int)).toNat=a.length+b.length by omega]at hrow
   have hla1:a.length≤1000000000:=by omega
   have hlb1:b.length≤1000000000:=by omega
   clear hla hlb
   go_loopw [28] (fun s28 wr=>∃(i:Nat) (o:List Nat),i≤a.length∧s28=.int .i64 i∧o.length=a.length+b.length∧Wf Qa o∧Row wr .u64 127 w.heap.size o∧Below w.heap.size w wr∧(∀p,i+b.length≤p→o.getD p 0=0)∧Qh Qa o=Qh Qa (a.take i)*n)
    (fun s28 _=>a.length-(intOf s28).toNat)
   case atStart=>exact⟨0,List.replicate (a.length+b.length) 0,by omega,rfl,by simp,Wf.replicate (by unfold Qa; omega) _,hrow,hbel,fun p _=>by simp[List.getD_eq_getElem?_getD,List.getElem?_replicate]; split<;>rfl,by rw[U5]; simp[Qh]⟩
   case round=>
    obtain⟨i,o,hi,rfl,hol,hwo,hr,hbl,hz,hval⟩:=hrel
    have HVAL:=Lib.hid hval
    have HOL:=Lib.hid hol
    have HZ:=Lib.hid hz
    clear hval hol hz hrow hbel hsz
    by_cases hlt:i<a.length
    ·obtain⟨bx,ox,vx,rfl,hcx,HVX⟩:=(ha.below hbl).get hlt
     have hvx:vx<Qa:=wa _ (List.mem_of_getElem? HVX.out)
     have HLX:=Lib.hid hvx
     clear hvx
     go_wp2_with fail
     obtain⟨wo,rfl⟩:∃wo:World,wo=wr:=⟨_,rfl⟩
     go_loopw [8,35] (fun s8 s35 wr=>∃(k c:Nat) (o':List Nat),k≤b.length∧s35=.int .i64 k∧s8=.int .u64 c∧c<Qa∧o'.length=a.length+b.length∧Wf Qa o'∧Row wr .u64 127 w.heap.size o'∧Below w.heap.size w wr∧(∀p,i+b.length≤p→o'.getD p 0=0)∧Qh Qa o'+Qa^(i+k)*c=Qh Qa o+Qa^i*(vx*Qh Qa (b.take k)))
      (fun _ s35 _=>b.length-(intOf s35).toNat)
     case atStart=>exact⟨0,0,o,by omega,rfl,rfl,by unfold Qa; omega,HOL.out,hwo,hr,hbl,HZ.out,by simp[Qh]⟩
     case round=>
      obtain⟨k,c,o',hk,rfl,rfl,hc,hol',hwo',hr',hbl',hz',hval'⟩:=hrel
      have HVAL':=Lib.hid hval'
      have HOL':=Lib.hid hol'
      have HZ':=Lib.hid hz'
      have HC:=Lib.hid hc
      clear hval' hol' hz' hc
      by_cases hlk:k<b.length
      ·obtain⟨by_,oy,vy,rfl,hcy,HVY⟩:=(hb.below hbl').get hlk
       obtain⟨vu,hcu,HVU⟩:=hr'.get (i:=i+k) (by have:=HOL'.out; omega)
       have hcf:=hr'.frozen (i+k)
       have hvy:vy<Qa:=wb _ (List.mem_of_getElem? HVY.out)
       have hvu:vu<Qa:=hwo' _ (List.mem_of_getElem? HVU.out)
       have HLY:=Lib.hid hvy
       have HLU:=Lib.hid hvu
       clear hvy hvu
       go_wp2_with (first|(go_at_call 119; refine(Us vx vy HLX.out HLY.out _).mono ?_; rintro e w' ⟨rfl,rfl⟩)|((with_reducible refine U6 120 rfl rfl ?_); refine Qd5 rfl rfl rfl ?_))
       go_roundw
       case rel=>
        obtain⟨c',o2,e,r⟩:=times_round hlk HC.out HOL'.out hwo' HLX.out HLY.out HLU.out hr' (Nat.le_refl _) hbl' HZ'.out HVAL'.out HVU.out HVY.out
        exact⟨k+1,c',o2,by omega,by go_num,by rw[e],r⟩
       case measure=>simp[intOf]; omega
      ·obtain rfl:k=b.length:=by omega
       obtain⟨vu,hcu,HVU⟩:=hr'.get (i:=i+b.length) (by have:=HOL'.out; omega)
       have hcf:=hr'.frozen (i+b.length)
       go_wp2
       go_roundw
       case rel=>
        obtain⟨o2,r⟩:=times_row HC.out hlt rfl HOL'.out hwo' hr' (Nat.le_refl _) hbl' HZ'.out HVAL'.out HVAL.out VB.out HVX.out
        exact⟨i+1,o2,by omega,by go_num,r⟩
       case measure=>simp[intOf]; omega
    ·obtain rfl:i=a.length:=by omega
     have hfin:Qh Qa o=m*n:=by
      have h:=HVAL.out
      rw[List.take_length,VA.out]at h
      exact h
     have HF:=Lib.hid hfin
     clear hfin
     have hrd:=hr.rd_all (c:=a.length+b.length) (by have:=HOL.out; omega) (by unfold maxLen; omega)
     go_wp2_with fail
     refine(Qat _ _ _ o (m*n) hrd hwo _ HOL.out HF.out).mono ?_
     rintro e w' ⟨rfl,v,rfl,hv⟩
     go_wp2
     go_ret
     exact⟨v,rfl,hv,hbl⟩
end Wx

namespace Wx
set_option maxRecDepth 100000
open Go Go.RowKit Go.Proofs

theorem bl_spec:∀x:Nat,0<x→x<2^64→x<2^Lib.bitLen x∧2^(Lib.bitLen x-1)≤x∧1≤Lib.bitLen x:=by
 intro x
 induction x using Nat.strongRecOn with
 |_ x ih=>
  intro h0 h1
  rw[Lib.bitLen_half x (by omega) h1]
  by_cases hx:x/2=0
  ·obtain rfl:x=1:=by omega
   refine⟨by decide,by decide,by decide⟩
  ·obtain⟨i1,i2,i3⟩:=ih (x/2) (by omega) (by omega) (by omega)
   generalize Lib.bitLen (x/2)=L at *
   obtain⟨M,rfl⟩:∃M,L=M+1:=⟨L-1,by omega⟩
   rw[show 1+(M+1)-1=M+1 by omega,show 1+(M+1)=(M+1)+1 by omega]
   rw[show M+1-1=M by omega]at i2
   rw[Nat.pow_succ]at *
   refine⟨by rw[Nat.pow_succ]; omega,by omega,by omega⟩
theorem bl_le {x:Nat} (h0:0<x) (h1:x<Qa):Lib.bitLen x≤64:=by
 rw[Qbr]at h1
 obtain⟨_,h2,h3⟩:=bl_spec x h0 h1
 rcases Nat.lt_or_ge 64 (Lib.bitLen x)with h|h
 ·have:2^64≤2^(Lib.bitLen x-1):=Nat.pow_le_pow_right (by omega) (by omega)
  omega
 ·exact h
theorem shift_top {y:Nat} (h0:0<y) (h1:y<Qa):y*2^(64-Lib.bitLen y)<18446744073709551616∧9223372036854775808≤y*2^(64-Lib.bitLen y)∧64-Lib.bitLen y<64:=by
 have hle:=bl_le h0 h1
 rw[Qbr]at h1
 obtain⟨h2,h3,h4⟩:=bl_spec y h0 h1
 have e1:2^Lib.bitLen y*2^(64-Lib.bitLen y)=18446744073709551616:=by rw[← Nat.pow_add,show Lib.bitLen y+(64-Lib.bitLen y)=64 by omega]
 have e2:2^(Lib.bitLen y-1)*2^(64-Lib.bitLen y)=9223372036854775808:=by rw[← Nat.pow_add,show Lib.bitLen y-1+(64-Lib.bitLen y)=63 by omega]
 refine⟨?_,?_,by omega⟩
 ·rw[← e1]; exact Nat.mul_lt_mul_of_pos_right h2 (Nat.two_pow_pos _)
 ·rw[← e2]; exact Nat.mul_le_mul_right _ h3

theorem lz64 (y:Nat) (h0:0<y) (hy:y<Qa) (w:World):Calls Tryz.prog 125 #[.int .u64 (y:Int)] w fun e w'=>e=.returned (.int .i64 ((64-Lib.bitLen y:Nat):Int))∧w=w':=by
 have hle:=bl_le h0 hy
 unfold Qa at hy
 refine(Tryz.bits_LeadingZeros64 y w (by omega) (by omega)).mono fun e w' ⟨he,hw⟩=>⟨?_,hw.symm⟩
 rw[he]
 refine Up ?_
 rw[Int.toNat_natCast]
 omega

theorem and_mask (x:Nat) (hx:x<18446744073709551616):bits BinOp.and .u64 (x:Int) 4294967295=((x%4294967296:Nat):Int):=by
 have h:=u64_and_nat x 4294967295 hx (by omega)
 rw[show((4294967295:Nat):Int)=4294967295 from rfl]at h
 rw[h]
 congr 1
 exact Nat.and_two_pow_sub_one_eq_mod x 32

theorem wrap_pow {y s:Nat} (h:y*2^s<18446744073709551616):IntKind.u64.wrap ((y:Int)*2^s)=((y*2^s:Nat):Int):=by
 have e:((y*2^s:Nat):Int)=(y:Int)*2^s:=by rw[Int.natCast_mul,Int.natCast_pow]; rfl
 rw[← e,wrap_u64 (by omega) (by omega)]
theorem Qfc {y s:Nat}:IntKind.u64.wrap ((y:Int)*2^s)=((y*2^s%18446744073709551616:Nat):Int):=by
 have e:((y*2^s:Nat):Int)=(y:Int)*2^s:=by rw[Int.natCast_mul,Int.natCast_pow]; rfl
 rw[← e,IntKind.wrap_u64]; omega
theorem or_join {hi lo s:Nat} (h3:hi*2^s<18446744073709551616) (h4:lo/2^(64-s)<2^s) (hlo:lo<18446744073709551616):
  bits BinOp.or .u64 ((hi*2^s:Nat):Int) ((lo:Int)/2^(64-s))=((hi*2^s+lo/2^(64-s):Nat):Int):=by
 have e:((lo/2^(64-s):Nat):Int)=(lo:Int)/2^(64-s):=by rw[Int.natCast_ediv,Int.natCast_pow]; rfl
 rw[← e,u64_or_nat _ _ h3 (Nat.lt_of_le_of_lt (Nat.div_le_self _ _) hlo),nat_join s _ _ (Nat.mul_mod_left _ _) h4]

theorem div32 (x:Nat):(x:Int)/4294967296=((x/4294967296:Nat):Int):=by omega
theorem div_facts {Y hi lo y s u u0:Nat} (h1:Y<18446744073709551616) (h2:9223372036854775808≤Y) (h3:u*18446744073709551616+u0%18446744073709551616=(hi*18446744073709551616+lo)*2^s) (h4:u<Y)
  (_:0<hi) (_:hi<y):
  Y%4294967296≤4294967295∧2147483648≤Y/4294967296∧Y/4294967296≤4294967295∧u0%18446744073709551616/4294967296≤4294967295∧u0%18446744073709551616%4294967296≤4294967295∧Y≤18446744073709551615∧u<Y ∧
  Hid (Y=Y/4294967296*4294967296+Y%4294967296 ∧
   u*18446744073709551616+(u0%18446744073709551616/4294967296*4294967296+u0%18446744073709551616%4294967296)=(hi*18446744073709551616+lo)*2^s):=by
 refine⟨by omega,by omega,by omega,by omega,by omega,by omega,h4,?_,?_⟩
 ·omega
 ·rw[← h3]; omega

theorem wrap_quo {u y Y:Nat} (_:Y≤18446744073709551615) (_:u<Y) (_:2147483648≤y):IntKind.u64.wrap ((u:Int)/(y:Int))=((u/y:Nat):Int):=by
 have e:((u/y:Nat):Int)=(u:Int)/(y:Int):=Int.natCast_ediv _ _
 have h:=Nat.div_le_self u y
 rw[← e]
 generalize u/y=q at *
 rw[wrap_u64 (by omega) (by omega)]
theorem wrap_rem {u y Y:Nat} (_:Y≤18446744073709551615) (_:u<Y) (_:2147483648≤y):IntKind.u64.wrap ((u:Int)-IntKind.u64.wrap (((u/y:Nat):Int)*(y:Int)))=((u%y:Nat):Int):=by
 have h:=Nat.div_add_mod u y
 rw[Nat.mul_comm]at h
 have e:((u/y*y:Nat):Int)=((u/y:Nat):Int)*(y:Int):=Int.natCast_mul _ _
 rw[← e]
 generalize u/y*y=q at *
 generalize u%y=r at *
 rw[wrap_u64 (n:=(q:Int)) (by omega) (by omega),wrap_u64 (by omega) (by omega)]
 omega

theorem wrap_un {u c Q Y:Nat} (hQ:Q=(u*4294967296+c)/Y) (_:(Y:Int)≤18446744073709551615) (_:u<Y):
  IntKind.u64.wrap (IntKind.u64.wrap (IntKind.u64.wrap ((u:Int)*4294967296)+(c:Int))-IntKind.u64.wrap ((Q:Int)*(Y:Int)))=(((u*4294967296+c)%Y:Nat):Int):=by
 have h:=Nat.div_add_mod (u*4294967296+c) Y
 have hlt:(u*4294967296+c)%Y<Y:=Nat.mod_lt _ (by omega)
 rw[← hQ,Nat.mul_comm]at h
 have e:((Q*Y:Nat):Int)=(Q:Int)*(Y:Int):=Int.natCast_mul _ _
 rw[← e]
 generalize Q*Y=p at *
 generalize (u*4294967296+c)%Y=r at *
 simp only[IntKind.wrap_u64]
 omega

theorem div_final {u c1 c0 Q R Q2 Y hi lo y s:Nat} (hQ:Q=(u*4294967296+c1)/Y) (hR:R=(u*4294967296+c1)%Y) (hQ2:Q2=(R*4294967296+c0)/Y)
  (hF:u*18446744073709551616+(c1*4294967296+c0)=(hi*18446744073709551616+lo)*2^s) (hY:Y=y*2^s) (h0:0<Y):
  Q*4294967296+Q2=(hi*18446744073709551616+lo)/y∧(R*4294967296+c0)%Y/2^s=(hi*18446744073709551616+lo)%y:=by
 obtain⟨t1,t2⟩:=two_halves (u:=u) (n1:=c1) (n0:=c0) h0
 rw[← hQ,← hR,← hQ2,hF]at t1
 rw[← hR,hF]at t2
 rw[t1,t2,hY]
 exact shifted

set_option maxHeartbeats 4000000 in
theorem div64_pos (w:World) (hi lo y:Nat) (hlo:lo<Qa) (hy:y<Qa) (hhi:hi<y) (h0:0<hi):
  Calls Tryz.prog 130 #[.int .u64 (hi:Int),.int .u64 (lo:Int),.int .u64 (y:Int)] w fun e w'=>e=.returned (.tuple #[.int .u64 ((hi*Qa+lo)/y:Nat),.int .u64 ((hi*Qa+lo)%y:Nat)])∧w=w':=by
 obtain⟨t1,t2,t3⟩:=shift_top (by omega) hy
 have hlz:=lz64 y (by omega) hy w
 have hlo':lo<18446744073709551616:=by simpa [Qa] using hlo
 have hy':y<18446744073709551616:=by simpa [Qa] using hy
 clear hlo hy
 obtain⟨s,hs⟩:∃s,s=64-Lib.bitLen y:=⟨_,rfl⟩
 rw[← hs]at t1 t2 t3 hlz
 clear hs
 obtain⟨n1,n2,n3,n4⟩:=norm_facts t3 hlo' t1 hhi
 have hb1:(((y:Nat):Int)==0)=false:=by simp; omega
 have hb2:(((hi:Nat):Int)==0)=false:=by simp; omega
 have EY:=Lib.hid (wrap_pow t1)
 have EH:=Lib.hid (wrap_pow n3)
 have EL:=Lib.hid (Qfc (y:=lo) (s:=s))
 have EO:=Lib.hid (or_join n3 n4 hlo')
 have HZ:=Lib.hid hlz
 have HT1:=Lib.hid t1
 have HT2:=Lib.hid t2
 have HN1:=Lib.hid n1
 have HN2:=Lib.hid n2
 clear hlz t1 t2 n1 n2 n3 n4
 go_enter Tryz.func130,Tryz.ntmps130
 go_wp2_with fail
 refine HZ.out.mono ?_
 rintro e w' ⟨rfl,rfl⟩
 clear HZ
 go_upto_region 15 with fail
 have hl:lo*2^s%18446744073709551616<18446744073709551616:=Nat.mod_lt _ (by omega)
 rw[EY.out,EH.out,EL.out,EO.out,and_mask _ HT1.out,and_mask _ hl]
 rw[div32 (y*2^s),div32 (lo*2^s%18446744073709551616)]
 clear EY EH EL EO hb1 hb2 hl
 have HF:=div_facts HT1.out HT2.out HN1.out HN2.out h0 hhi
 clear HT1 HT2 HN1 HN2
 obtain⟨Y,hYs⟩:∃Y,Y=y*2^s:=⟨_,rfl⟩
 rw[← hYs]at HF ⊢
 have HYS:=Lib.hid hYs
 clear hYs
 generalize hi*2^s+lo/2^(64-s)=u at *
 generalize lo*2^s%18446744073709551616=u0 at *
 generalize Y/4294967296=yn1 at *
 generalize Y%4294967296=yn0 at *
 generalize u0/4294967296=c1 at *
 generalize u0%4294967296=c0 at *
 obtain⟨f1,f2,f3,f4,f5,f6,f7,HF⟩:=HF
 clear hlo' hy' h0 hhi
 go_upto_block 0 with fail
 rw[wrap_quo f6 f7 f2,wrap_rem f6 f7 f2]
 have hN:(u*4294967296+c1)/Y<4294967296:=q_lt f7 (by omega)
 have hY:=HF.out.1
 have HY:=Lib.hid hY
 obtain⟨Q,hQ⟩:∃Q,Q=(u*4294967296+c1)/Y:=⟨_,rfl⟩
 rw[← hQ]at hN
 obtain⟨q,r,hq,hr,g1,g2,g3,g4⟩:=q_initQ hQ HY.out (by omega) f2 f3 f7 (by omega)
 rw[hq,hr]
 have HQ:=Lib.hid hQ
 have HI0:=Lib.hid (And.intro g1 g2)
 have HU:=Lib.hid f7
 have i1:(yn0:Int)≤4294967295:=by omega
 have i2:(2147483648:Int)≤(yn1:Int):=by omega
 have i3:(yn1:Int)≤4294967295:=by omega
 have i4:(c1:Int)≤4294967295:=by omega
 have i5:(c0:Int)≤4294967295:=by omega
 have i6:(Y:Int)≤18446744073709551615:=by omega
 have i7:(u:Int)<(Y:Int):=by omega
 have i8:(Q:Int)<4294967296:=by omega
 have i9:(q:Int)≤4294967297:=by omega
 have i0:(r:Int)≤4294967295:=by omega
 clear hY hQ hq hr g1 g2 g3 g4 f1 f2 f3 f4 f5 f6 f7 hN
 go_cut [15] (fun v w'=>w'=w∧v=.int .u64 (Q:Int))
 case first=>
  go_wp2_with fail
  go_loop [15,16] (fun v15 v16=>∃q r:Nat,v15=.int .u64 (q:Int)∧v16=.int .u64 (r:Int)∧(q:Int)≤4294967297∧(r:Int)≤4294967295∧Hid (u=q*yn1+r∧Q≤q)) (fun v15 _=>(intOf v15).toNat)
  case atStart=>exact⟨_,_,rfl,rfl,by omega,by omega,HI0⟩
  case round=>
   clear HI0 i9 i0
   obtain⟨q,r,rfl,rfl,hq,hr,HI⟩:=hrel
   by_cases hbig:(4294967296:Int)≤(q:Int)
   ·have HD:=Lib.hid (q_decQ HQ.out HY.out (by omega) HU.out (by omega) HI.out.1 (.inl (by omega)))
    by_cases hbrk:(4294967296:Int)≤(r:Int)+(yn1:Int)
    ·go_wp2
     go_meet
     case rel=>
      refine⟨rfl,?_⟩
      rw[← Qgr HQ.out HY.out (by omega) (by omega) HI.out.1 HD.out (by omega) (by omega)]
      congr 1; omega
    ·go_wp2
     go_round
     case rel=>exact⟨q-1,r+yn1,by congr 1; omega,by go_num,by omega,by omega,Qen (by omega) HI.out.1,by have:=HD.out; omega⟩
     case measure=>simp[intOf]; omega
   ·have e:((q*yn0:Nat):Int)=(q:Int)*(yn0:Int):=Int.natCast_mul _ _
    have hp:(q:Int)*(yn0:Int)≤18446744073709551615:=by
     have:q*yn0≤4294967295*4294967295:=Nat.mul_le_mul (by omega) (by omega)
     omega
    have hp0:0≤(q:Int)*(yn0:Int):=by omega
    by_cases hgt:4294967296*r+c1<q*yn0
    ·have hgt':4294967296*(r:Int)+(c1:Int)<(q:Int)*(yn0:Int):=by omega
     have hd:=q_decQ HQ.out HY.out (by omega) HU.out (by omega) HI.out.1 (.inr hgt)
     have hq1:1≤q:=by omega
     have HD:=Lib.hid hd
     clear hd hgt e
     by_cases hbrk:(4294967296:Int)≤(r:Int)+(yn1:Int)
     ·go_wp2
      go_meet
      case rel=>
       refine⟨rfl,?_⟩
       rw[← Qgr HQ.out HY.out (by omega) (by omega) HI.out.1 HD.out (by omega) (by omega)]
       congr 1; omega
     ·go_wp2
      go_round
      case rel=>exact⟨q-1,r+yn1,by congr 1; omega,by go_num,by omega,by omega,Qen (by omega) HI.out.1,by have:=HD.out; omega⟩
      case measure=>simp[intOf]; omega
    ·have hle':¬(4294967296*(r:Int)+(c1:Int)<(q:Int)*(yn0:Int)):=by omega
     have HL:Hid (q*yn0≤4294967296*r+c1):=by show _≤_; omega
     clear hgt e
     go_wp2
     go_meet
     case rel=>
      refine⟨rfl,?_⟩
      rw[← q_stopQ HQ.out HY.out (by omega) HI.out.1 HI.out.2 HL.out]
 case rest=>
  obtain⟨rfl,rfl⟩:=hcut
  clear HI0 i9 i0
  go_upto_region 22 with fail
  rw[wrap_un HQ.out i6 HU.out]
  obtain⟨R,hR⟩:∃R,R=(u*4294967296+c1)%Y:=⟨_,rfl⟩
  have hRY:R<Y:=by rw[hR]; exact Nat.mod_lt _ (by omega)
  rw[← hR]
  have HR:=Lib.hid hR
  clear hR
  have i10:(R:Int)<(Y:Int):=by omega
  have HR1:=Lib.hid hRY
  clear hRY
  go_upto_block 2 with fail
  rw[wrap_quo (Y:=Y) (by omega) (by omega) (by omega),wrap_rem (Y:=Y) (by omega) (by omega) (by omega)]
  obtain⟨Q2,hQ⟩:∃Q2,Q2=(R*4294967296+c0)/Y:=⟨_,rfl⟩
  have hN:Q2<4294967296:=by rw[hQ]; exact q_lt HR1.out (by omega)
  obtain⟨q,r,hq,hr,g1,g2,g3,g4⟩:=q_initQ hQ HY.out (by omega) (by omega) (by omega) HR1.out (by omega)
  rw[hq,hr]
  have HQ2:=Lib.hid hQ
  have HJ0:=Lib.hid (And.intro g1 g2)
  have j8:(Q2:Int)<4294967296:=by omega
  have j9:(q:Int)≤4294967297:=by omega
  have j0:(r:Int)≤4294967295:=by omega
  clear hQ hq hr g1 g2 g3 g4 hN
  go_cut [18] (fun v w'=>w'=wc∧v=.int .u64 (Q2:Int))
  case first=>
   go_wp2_with fail
   go_loop [18,16] (fun v18 v16=>∃q r:Nat,v18=.int .u64 (q:Int)∧v16=.int .u64 (r:Int)∧(q:Int)≤4294967297∧(r:Int)≤4294967295∧Hid (R=q*yn1+r∧Q2≤q)) (fun v18 _=>(intOf v18).toNat)
   case atStart=>exact⟨_,_,rfl,rfl,by omega,by omega,HJ0⟩
   case round=>
    clear HJ0 j9 j0 i4 i7
    obtain⟨q,r,rfl,rfl,hq,hr,HI⟩:=hrel
    by_cases hbig:(4294967296:Int)≤(q:Int)
    ·have HD:=Lib.hid (q_decQ HQ2.out HY.out (by omega) HR1.out (by omega) HI.out.1 (.inl (by omega)))
     by_cases hbrk:(4294967296:Int)≤(r:Int)+(yn1:Int)
     ·go_wp2
      go_meet
      case rel=>
       refine⟨rfl,?_⟩
       rw[← Qgr HQ2.out HY.out (by omega) (by omega) HI.out.1 HD.out (by omega) (by omega)]
       congr 1; omega
     ·go_wp2
      go_round
      case rel=>exact⟨q-1,r+yn1,by congr 1; omega,by go_num,by omega,by omega,Qen (by omega) HI.out.1,by have:=HD.out; omega⟩
      case measure=>simp[intOf]; omega
    ·have e:((q*yn0:Nat):Int)=(q:Int)*(yn0:Int):=Int.natCast_mul _ _
     have hp:(q:Int)*(yn0:Int)≤18446744073709551615:=by
      have:q*yn0≤4294967295*4294967295:=Nat.mul_le_mul (by omega) (by omega)
      omega
     have hp0:0≤(q:Int)*(yn0:Int):=by omega
     by_cases hgt:4294967296*r+c0<q*yn0
     ·have hgt':4294967296*(r:Int)+(c0:Int)<(q:Int)*(yn0:Int):=by omega
      have hd:=q_decQ HQ2.out HY.out (by omega) HR1.out (by omega) HI.out.1 (.inr hgt)
      have hq1:1≤q:=by omega
      have HD:=Lib.hid hd
      clear hd hgt e
      by_cases hbrk:(4294967296:Int)≤(r:Int)+(yn1:Int)
      ·go_wp2
       go_meet
       case rel=>
        refine⟨rfl,?_⟩
        rw[← Qgr HQ2.out HY.out (by omega) (by omega) HI.out.1 HD.out (by omega) (by omega)]
        congr 1; omega
      ·go_wp2
       go_round
       case rel=>exact⟨q-1,r+yn1,by congr 1; omega,by go_num,by omega,by omega,Qen (by omega) HI.out.1,by have:=HD.out; omega⟩
       case measure=>simp[intOf]; omega
     ·have hle':¬(4294967296*(r:Int)+(c0:Int)<(q:Int)*(yn0:Int)):=by omega
      have HL:Hid (q*yn0≤4294967296*r+c0):=by show _≤_; omega
      clear hgt e
      go_wp2
      go_meet
      case rel=>
       refine⟨rfl,?_⟩
       rw[← q_stopQ HQ2.out HY.out (by omega) HI.out.1 HI.out.2 HL.out]
  case rest=>
   obtain⟨rfl,rfl⟩:=hcut
   clear HJ0 j9 j0
   go_wp2
   obtain⟨e1,e2⟩:=div_final HQ.out HR.out HQ2.out HF.out.2 HYS.out (by omega)
   rw[wrap_un HQ2.out i6 HR1.out]
   have ep:(((R*4294967296+c0)%Y/2^s:Nat):Int)=(((R*4294967296+c0)%Y:Nat):Int)/2^s:=by rw[Int.natCast_ediv,Int.natCast_pow]; rfl
   rw[← ep,e2]
   rw[show(Q:Int)*4294967296+(Q2:Int)=(((hi*18446744073709551616+lo)/y:Nat):Int) by rw[← e1,Int.natCast_add,Int.natCast_mul]; rfl]
   go_ret2
   exact⟨rfl,rfl⟩

theorem div64_zero (w:World) (lo y:Nat) (hlo:lo<Qa) (h0:0<y):
  Calls Tryz.prog 130 #[.int .u64 0,.int .u64 (lo:Int),.int .u64 (y:Int)] w fun e w'=>e=.returned (.tuple #[.int .u64 (lo/y:Nat),.int .u64 (lo%y:Nat)])∧∃m,w'=w.drewN m:=by
 have hb1:(((y:Nat):Int)==0)=false:=by simp; omega
 have hy1:(1:Int)≤(y:Int):=by omega
 have hq:=Nat.div_le_self lo y
 have e1:((lo/y:Nat):Int)=(lo:Int)/(y:Int):=Int.natCast_ediv _ _
 have e2:((lo%y:Nat):Int)=(lo:Int)%(y:Int):=Int.natCast_emod _ _
 have e3:IntKind.u64.wrap ((lo:Int)/(y:Int))=((lo/y:Nat):Int):=by
  rw[← e1]
  generalize lo/y=q at *
  rw[wrap_u64 (by omega) (by unfold Qa at hlo; omega)]
 have E2:=Lib.hid e2
 have E3:=Lib.hid e3
 clear e1 e2 e3 hq hlo
 go_enter Tryz.func130,Tryz.ntmps130
 go_wp2
 go_quiet (fail)
 go_wp2
 rw[E3.out,← E2.out]
 go_ret2
 exact⟨rfl,_,rfl⟩

@[irreducible] def dvQ (hi lo y : Nat) : Nat := (hi * Qa + lo) / y
@[irreducible] def dvR (hi lo y : Nat) : Nat := (hi * Qa + lo) % y
theorem dv_spec {hi lo y:Nat} (hlo:lo<Qa) (hy:hi<y):dvQ hi lo y*y+dvR hi lo y=hi*Qa+lo∧dvR hi lo y<y∧dvQ hi lo y<Qa:=by
 unfold dvQ dvR
 have h:=Nat.div_add_mod (hi*Qa+lo) y
 rw[Nat.mul_comm]at h
 refine⟨h,Nat.mod_lt _ (by omega),?_⟩
 rw[Nat.div_lt_iff_lt_mul (by omega),Nat.mul_comm Qa]
 have:hi*Qa+Qa≤y*Qa:=by rw[← Nat.succ_mul]; exact Nat.mul_le_mul_right _ hy
 omega
theorem div64_dr (w:World) (hi lo y:Nat) (hlo:lo<Qa) (hy:y<Qa) (hhi:hi<y):
  Calls Tryz.prog 130 #[.int .u64 (hi:Int),.int .u64 (lo:Int),.int .u64 (y:Int)] w (RetDr w (.tuple #[.int .u64 (dvQ hi lo y:Nat),.int .u64 (dvR hi lo y:Nat)])):=by
 unfold dvQ dvR
 rcases Nat.eq_zero_or_pos hi with rfl|h0
 ·rw[Nat.zero_mul,Nat.zero_add]
  exact div64_zero w lo y hlo hhi
 ·exact(div64_pos w hi lo y hlo hy hhi h0).mono fun e w' ⟨he,hw⟩=>⟨he,0,hw.symm⟩
theorem div64_num (w:World) (hi lo y:Nat) (hlo:lo<Qa) (hy:y<Qa) (hhi:hi<y):
  Calls Tryz.prog 130 #[.int .u64 (hi:Int),.int .u64 (lo:Int),.int .u64 (y:Int)] w (Jc w (.tuple #[.int .u64 (dvQ hi lo y:Nat),.int .u64 (dvR hi lo y:Nat)])):=
 (div64_dr w hi lo y hlo hy hhi).mono fun _ _ h=>h.is
end Wx
