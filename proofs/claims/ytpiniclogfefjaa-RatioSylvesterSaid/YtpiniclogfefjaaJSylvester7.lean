import Derived.Test.YtpiniclogfefjaaJSylvester5
import Derived.Test.YtpiniclogfefjaaCSylvesterShelf
namespace Wx

theorem q_init {Y yn1 yn0 u c:Nat} (hY:Y=yn1*4294967296+yn0) (h0:yn0<4294967296) (h1:2147483648≤yn1) (hu:u<Y) (hc:c<4294967296):
  u=u/yn1*yn1+u%yn1∧(u*4294967296+c)/Y≤u/yn1∧u/yn1≤4294967297∧u%yn1<yn1:=by
 have hm:u%yn1<yn1:=Nat.mod_lt _ (by omega)
 have he:u/yn1*yn1+u%yn1=u:=by have:=Nat.div_add_mod u yn1; rw[Nat.mul_comm]at this; exact this
 generalize hq:u/yn1=q at *
 generalize hr:u%yn1=r at *
 refine⟨he.symm,?_,?_,hm⟩
 ·apply Nat.le_of_lt_succ
  rw[Nat.div_lt_iff_lt_mul (by omega),Nat.succ_mul]
  have e:q*Y=q*yn1*4294967296+q*yn0:=by rw[hY,Nat.mul_add,Nat.mul_assoc]
  rw[e]
  generalize q*yn1=A at *
  generalize q*yn0=B at *
  omega
 ·rcases Nat.lt_or_ge 4294967297 q with h|h
  ·have:4294967298*yn1≤q*yn1:=Nat.mul_le_mul_right _ (by omega)
   omega
  ·exact h

theorem q_stop {Y yn1 yn0 u c q r:Nat} (hY:Y=yn1*4294967296+yn0) (h1:2147483648≤yn1) (he:u=q*yn1+r) (hle:(u*4294967296+c)/Y≤q) (ht:q*yn0≤4294967296*r+c):
  q=(u*4294967296+c)/Y:=by
 refine Nat.le_antisymm ?_ hle
 rw[Nat.le_div_iff_mul_le (by omega)]
 have e:q*Y=q*yn1*4294967296+q*yn0:=by rw[hY,Nat.mul_add,Nat.mul_assoc]
 rw[e]
 generalize q*yn1=A at *
 generalize q*yn0=B at *
 omega
theorem q_lt {Y u c:Nat} (hu:u<Y) (hc:c<4294967296):(u*4294967296+c)/Y<4294967296:=by
 rw[Nat.div_lt_iff_lt_mul (by omega)]
 omega
theorem q_dec {Y yn1 yn0 u c q r:Nat} (hY:Y=yn1*4294967296+yn0) (_h1:2147483648≤yn1) (hu:u<Y) (hc:c<4294967296) (he:u=q*yn1+r)
  (ht:4294967296≤q∨4294967296*r+c<q*yn0):(u*4294967296+c)/Y<q:=by
 rcases ht with ht|ht
 ·exact Nat.lt_of_lt_of_le (q_lt hu hc) ht
 ·rw[Nat.div_lt_iff_lt_mul (by omega)]
  have e:q*Y=q*yn1*4294967296+q*yn0:=by rw[hY,Nat.mul_add,Nat.mul_assoc]
  rw[e]
  generalize q*yn1=A at *
  generalize q*yn0=B at *
  omega
theorem q_break {Y yn1 yn0 u c q r:Nat} (hY:Y=yn1*4294967296+yn0) (h0:yn0<4294967296) (h1:2147483648≤yn1) (he:u=q*yn1+r) (hle:(u*4294967296+c)/Y≤q) (hq:q≤4294967296) (hr:4294967296≤r):
  q=(u*4294967296+c)/Y:=by
 refine q_stop hY h1 he hle ?_
 have:q*yn0≤4294967296*4294967295:=Nat.mul_le_mul hq (by omega)
 omega
theorem halves_aux {Y:Nat} (T Z:Nat) (hY:0<Y):T+Z/Y=(Z+T*Y)/Y∧Z%Y=(Z+T*Y)%Y:=by
 rw[Nat.add_mul_div_right _ _ hY,Nat.add_mul_mod_self_right]
 exact⟨Nat.add_comm _ _,rfl⟩
theorem two_halves {Y u n1 n0:Nat} (hY:0<Y):
  (u*4294967296+n1)/Y*4294967296+((u*4294967296+n1)%Y*4294967296+n0)/Y=(u*18446744073709551616+(n1*4294967296+n0))/Y ∧
  ((u*4294967296+n1)%Y*4294967296+n0)%Y=(u*18446744073709551616+(n1*4294967296+n0))%Y:=by
 have e:u*18446744073709551616+(n1*4294967296+n0)=(u*4294967296+n1)%Y*4294967296+n0+(u*4294967296+n1)/Y*4294967296*Y:=by
  have h:=Nat.div_add_mod (u*4294967296+n1) Y
  rw[Nat.mul_right_comm]
  rw[Nat.mul_comm]at h
  generalize (u*4294967296+n1)/Y*Y=A at *
  omega
 rw[e]
 exact halves_aux _ _ hY
theorem shifted {U y s:Nat}:U*2^s/(y*2^s)=U/y∧U*2^s%(y*2^s)/2^s=U%y:=by
 have hp:0<2^s:=Nat.two_pow_pos s
 refine⟨Nat.mul_div_mul_right _ _ hp,?_⟩
 rw[Nat.mul_mod_mul_right,Nat.mul_div_cancel _ hp]
theorem norm_facts {hi lo y s:Nat} (hs:s<64) (hlo:lo<18446744073709551616) (hY:y*2^s<18446744073709551616) (hhi:hi<y):
  (hi*2^s+lo/2^(64-s))*18446744073709551616+lo*2^s%18446744073709551616=(hi*18446744073709551616+lo)*2^s∧hi*2^s+lo/2^(64-s)<y*2^s∧hi*2^s<18446744073709551616 ∧
  lo/2^(64-s)<2^s:=by
 have hp:0<2^s:=Nat.two_pow_pos s
 have hpq:2^(64-s)*2^s=18446744073709551616:=by
  rw[← Nat.pow_add,show 64-s+s=64 by omega]
 have hdiv:lo*2^s/18446744073709551616=lo/2^(64-s):=by
  rw[← hpq,Nat.mul_div_mul_right _ _ hp]
 have hdm:=Nat.div_add_mod (lo*2^s) 18446744073709551616
 rw[hdiv]at hdm
 have hmul:hi*2^s+2^s≤y*2^s:=by
  rw[← Nat.succ_mul]; exact Nat.mul_le_mul_right _ hhi
 have hl:lo/2^(64-s)<2^s:=by
  rw[Nat.div_lt_iff_lt_mul (Nat.two_pow_pos _),Nat.mul_comm,hpq]; exact hlo
 refine⟨?_,by omega,by omega,hl⟩
 rw[Nat.add_mul,Nat.add_mul,Nat.mul_right_comm]
 rw[Nat.mul_comm (lo/_)]
 omega
theorem q_initQ {Y yn1 yn0 u c Q:Nat} (hQ:Q=(u*4294967296+c)/Y) (hY:Y=yn1*4294967296+yn0) (h0:yn0<4294967296) (h1:2147483648≤yn1) (h2:yn1≤4294967295) (hu:u<Y) (hc:c<4294967296):
  ∃q r,u/yn1=q∧u%yn1=r∧u=q*yn1+r∧Q≤q∧q≤4294967297∧r≤4294967295:=by
 obtain⟨g1,g2,g3,g4⟩:=q_init (c:=c) hY h0 h1 hu hc
 exact⟨_,_,rfl,rfl,g1,by rw[hQ]; exact g2,g3,Nat.le_trans (Nat.le_of_lt g4) h2⟩
theorem q_decQ {Y yn1 yn0 u c q r Q:Nat} (hQ:Q=(u*4294967296+c)/Y) (hY:Y=yn1*4294967296+yn0) (h1:2147483648≤yn1) (hu:u<Y) (hc:c<4294967296) (he:u=q*yn1+r)
  (ht:4294967296≤q∨4294967296*r+c<q*yn0):Q<q:=by rw[hQ]; exact q_dec hY h1 hu hc he ht
theorem q_stopQ {Y yn1 yn0 u c q r Q:Nat} (hQ:Q=(u*4294967296+c)/Y) (hY:Y=yn1*4294967296+yn0) (h1:2147483648≤yn1) (he:u=q*yn1+r) (hle:Q≤q) (ht:q*yn0≤4294967296*r+c):q=Q:=by
 rw[hQ]; exact q_stop hY h1 he (by rw[← hQ]; exact hle) ht
theorem Qbk {u q y r:Nat} (hq:1≤q) (h:u=q*y+r):u=(q-1)*y+(r+y):=by
 obtain⟨k,rfl⟩:∃k,q=k+1:=⟨q-1,by omega⟩
 rw[Nat.add_mul,Nat.one_mul]at h
 rw[Nat.add_sub_cancel]; omega
theorem Qdh {Y yn1 yn0 u c q r Q:Nat} (hQ:Q=(u*4294967296+c)/Y) (hY:Y=yn1*4294967296+yn0) (h0:yn0<4294967296) (h1:2147483648≤yn1) (he:u=q*yn1+r) (hle:Q<q) (hq:q≤4294967297) (hr:4294967296≤r+yn1):
  q-1=Q:=by
 rw[hQ]; exact q_break hY h0 h1 (Qbk (by omega) he) (by rw[← hQ]; omega) (by omega) hr
theorem est_le {b p U V un un1 ulo v1 vlo:Nat} (hp:0<p) (hU:U=(un*b+un1)*p+ulo) (hul:ulo<p) (hV:V=v1*p+vlo) (hv:0<v1):U/V≤(un*b+un1)/v1:=by
 rw[Nat.le_div_iff_mul_le hv]
 have hVp:0<V:=by rw[hV]; have:=Nat.mul_pos hv hp; omega
 have h1:U/V*V≤U:=Nat.div_mul_le_self _ _
 have h2:U/V*v1*p≤U/V*V:=by
  rw[hV,Nat.mul_add,← Nat.mul_assoc]; omega
 have h3:U/V*v1*p<(un*b+un1+1)*p:=by rw[Nat.add_mul _ 1,Nat.one_mul]; omega
 exact Nat.le_of_lt_succ (Nat.lt_of_mul_lt_mul_right h3)
theorem est_dec {b p U V N1 u2 ulo v1 v2 vlo g r:Nat} (hU:U=(N1*b+u2)*p+ulo) (hul:ulo<p) (hV:V=(v1*b+v2)*p+vlo) (hVp:0<V) (hN:N1=g*v1+r) (ht:r*b+u2<g*v2):U/V<g:=by
 rw[Nat.div_lt_iff_lt_mul hVp]
 have h1:N1*b+u2<g*(v1*b+v2):=by
  rw[hN,Nat.add_mul,Nat.mul_add,Nat.mul_assoc]; omega
 have h2:(N1*b+u2+1)*p≤g*(v1*b+v2)*p:=Nat.mul_le_mul_right _ h1
 rw[Nat.add_mul _ 1,Nat.one_mul]at h2
 have h3:g*V=g*(v1*b+v2)*p+g*vlo:=by rw[hV,Nat.mul_add,Nat.mul_assoc]
 omega
end Wx

namespace Wx
open Go Go.RowKit Go.Proofs

theorem sub64_at {x y c:Operand} {ops:Array Oper} {Q:Exit→Act→World→Prop} {o:Oper} {rest:List Oper} {a:Act} {w:World} (X Y C:Nat)
  (hx:a.eval x=.int .u64 X) (hy:a.eval y=.int .u64 Y) (hc:a.eval c=.int .u64 C) (c1:C≤1)
  (hK:wpList Try.prog ops Q rest (a.put o.dst (.tuple #[.int .u64 (K0 X Y C:Nat),.int .u64 (Ww X Y C:Nat)])) w):Ext3 Try.prog 68 x y c ops Q o rest a w:=
 sub64_ext Try.func68 (by kernel_rfl) (by kernel_rfl) (by kernel_rfl) (by kernel_rfl) X Y C hx hy hc c1 hK

theorem Qcm {x y o:List Nat} {i br vx vy:Nat} {g:Nat} {wr w0:World} (hol:o.length=i) (hlt:i<x.length) (wx:Wf Qb x) (wy:Wf Qb y) (hcr:br≤1) (hwo:Wf Qb o)
  (hx:x[i]?=some vx) (hy:y.getD i 0=vy) (hr:Row wr .u64 81 g (o++List.replicate (x.length-i) 0)) (hbl:Below w0.heap.size w0 wr) (hg:w0.heap.size≤g)
  (hval:Ql Qb o+Ql Qb (y.take i)=Ql Qb (x.take i)+Qb^i*br):
  ∃(o':List Nat),o'.length=i+1∧Wf Qb o' ∧
   Row (wr.setCell ⟨g,i,none⟩ (.int .u64 (K0 vx vy br:Nat))) .u64 81 g (o'++List.replicate (x.length-(i+1)) 0) ∧
   Below w0.heap.size w0 (wr.setCell ⟨g,i,none⟩ (.int .u64 (K0 vx vy br:Nat)))∧Ql Qb o'+Ql Qb (y.take (i+1))=Ql Qb (x.take (i+1))+Qb^(i+1)*Ww vx vy br:=by
 have hvx:vx<Qb:=wx _ (List.mem_of_getElem? hx)
 have hvy:vy<Qb:=by
  rw[← hy,List.getD_eq_getElem?_getD]
  cases h:y[i]? with
  |none=>simp[Qb]
  |some z=>exact wy _ (List.mem_of_getElem? h)
 have hsp:=sub_spec (x:=vx) (y:=vy) (by simpa [Qb] using hvx) (by simpa [Qb] using hvy) hcr
 refine⟨o++[K0 vx vy br],by simp[hol],hwo.append (Wf.cons hsp.2 (Wf.nil _)),?_,hbl.setCell hg _,?_⟩
 ·have h:=hr.set i (K0 vx vy br)
  rw[show x.length-i=(x.length-(i+1))+1 by omega,List.replicate_succ,Qcv hol]at h
  rw[List.append_assoc]
  exact h
 ·exact dif_step hol hval (Z4 hx) (by rw[Qak,hy]) hsp.1

set_option maxHeartbeats 400000 in
theorem minus_num (w:World) (v1 v2:Value) (m n:Nat) (h1:Num .u64 Qb w v1 m) (h2:Num .u64 Qb w v2 n) (hnm:n≤m) {j:Nat} (hj:Bd j m) (hj1:j≤1000000000):
  Calls Try.prog 43 #[v1,v2] w (K4 .u64 Qb w (m-n)):=by
 obtain⟨X,cx,rfl,hx⟩:=h1
 obtain⟨Y,cy,rfl,hy⟩:=h2
 have hla:=len64 hj
 have hyx:(digs Qb n).length≤(digs Qb m).length:=by
  rcases Nat.lt_or_ge (digs Qb m).length (digs Qb n).length with h|h
  ·have:=Wm Qv h; omega
  ·exact h
 have wx:=Jk Qv m
 have wy:=Jk Qv n
 have hvx:=Zi Qv m
 have hvy:=Zi Qv n
 have hlx:=hx.len
 have hly:=hy.len
 clear hj
 generalize digs Qb m=x at *
 generalize digs Qb n=y at *
 have HX:=Lib.hid hvx
 have HY:=Lib.hid hvy
 clear hvx hvy
 go_enter Try.func43,Try.ntmps43
 go_wp2_with (at_make; refine Wd _ rfl _ _ _ rfl .u64 81 Try.underlying30 Vu _ _ rfl rfl (by omega) (by omega) (by omega) ?_; intro w1 hrow hbel hsz)
 go_loopw [6,15] (fun s6 s15 wr=>∃(i br:Nat) (o:List Nat),i≤x.length∧s15=.int .i64 i∧s6=.int .u64 br∧br≤1∧o.length=i∧Wf Qb o∧Row wr .u64 81 w.heap.size (o++List.replicate (x.length-i) 0)∧Below w.heap.size w wr∧Ql Qb o+Ql Qb (y.take i)=Ql Qb (x.take i)+Qb^i*br)
  (fun _ s15 _=>x.length-(intOf s15).toNat)
 case atStart=>exact⟨0,0,[],by omega,rfl,rfl,by omega,rfl,Wf.nil _,by simpa using hrow,hbel,by simp[Ql]⟩
 case round=>
  obtain⟨i,br,o,hi,rfl,rfl,hcr,hol,hwo,hr,hbl,hval⟩:=hrel
  have HVAL:=Lib.hid hval
  have HOL:=Lib.hid hol
  clear hval hol hrow hbel hsz
  by_cases hlt:i<x.length
  ·obtain⟨bx,ox,vx,rfl,hcx,HVX⟩:=(hx.below hbl).get hlt
   obtain⟨vo,hco,HVO⟩:=hr.get (i:=i) (by have:=HOL.out; simp; omega)
   have hcf:=hr.frozen i
   by_cases hy1:i<y.length
   ·obtain⟨by_,oy,vy,rfl,hcy,HVY⟩:=(hy.below hbl).get hy1
    go_wp2_with ((with_reducible refine Wo 68 rfl rfl ?_); refine sub64_at vx vy br rfl rfl rfl (by omega) ?_)
    go_roundw
    case rel=>
     exact⟨i+1,Ww vx vy br,(Qcm (vy:=vy) HOL.out hlt wx wy hcr hwo HVX.out (by rw[List.getD_eq_getElem?_getD,HVY.out]; rfl) hr hbl (Nat.le_refl _) HVAL.out).choose,by omega,by go_num,rfl,subHi_le _ _ _,(Qcm (vy:=vy) HOL.out hlt wx wy hcr hwo HVX.out (by rw[List.getD_eq_getElem?_getD,HVY.out]; rfl) hr hbl (Nat.le_refl _) HVAL.out).choose_spec⟩
    case measure=>simp[intOf]; omega
   ·go_wp2_with ((with_reducible refine Wo 68 rfl rfl ?_); refine sub64_at vx 0 br rfl rfl rfl (by omega) ?_)
    go_roundw
    case rel=>
     obtain⟨o',r⟩:=Qcm (vy:=0) HOL.out hlt wx wy hcr hwo HVX.out (by rw[List.getD_eq_getElem?_getD,List.getElem?_eq_none (by omega)]; rfl) hr hbl (Nat.le_refl _) HVAL.out
     exact⟨i+1,Ww vx 0 br,o',by omega,by go_num,rfl,subHi_le _ _ _,r⟩
    case measure=>simp[intOf]; omega
  ·obtain rfl:i=x.length:=by omega
   have hfin:Ql Qb o=m-n:=by
    have h:=HVAL.out
    rw[List.take_of_length_le (Nat.le_refl _),List.take_of_length_le (by omega),HX.out,HY.out]at h
    have hlt:=V3 hwo
    rw[HOL.out]at hlt
    rcases Nat.eq_zero_or_pos br with rfl|hb
    ·omega
    ·obtain rfl:br=1:=by omega
     omega
   have HF:=Lib.hid hfin
   clear hfin
   rw[Nat.sub_self,List.replicate_zero,List.append_nil]at hr
   have hrd:=hr.rd_all (c:=x.length) (by have:=HOL.out; omega) (by unfold maxLen; omega)
   go_wp2_with fail
   refine(Vk _ _ _ o (m-n) hrd hwo _ HOL.out HF.out).mono ?_
   rintro e w' ⟨rfl,v,rfl,hv⟩
   go_wp2
   go_ret
   exact⟨v,rfl,hv,hbl⟩
end Wx

namespace Wx
open Go Go.RowKit Go.Proofs

theorem K8 (x y:Nat) (hx:x<Qb) (hy:y<Qb) (w:World):
  Calls Try.prog 65 #[.int .u64 x,.int .u64 y] w fun e w'=>e=.returned (.tuple #[.int .u64 (muHi x y:Nat),.int .u64 (muLo x y:Nat)])∧w=w':=by
 refine(Try.bits_Mul64 x y (by simpa [Qb] using hx) (by simpa [Qb] using hy) w).mono fun e w' ⟨he,hw⟩=>⟨?_,hw.symm⟩
 unfold muHi muLo
 exact he
theorem Qba {x y c:Operand} {ops:Array Oper} {Q:Exit→Act→World→Prop} {o:Oper} {rest:List Oper} {a:Act} {w:World} {X Y:Nat}
  (hx:a.eval x=.int .u64 X) (hy:a.eval y=.int .u64 Y) (hc:a.eval c=.int .u64 0)
  (hK:wpList Try.prog ops Q rest (a.put o.dst (.tuple #[.int .u64 (adLo X Y:Nat),.int .u64 (adHi X Y:Nat)])) w):Ext3 Try.prog 66 x y c ops Q o rest a w:=
 add64z_ext Try.func66 (by kernel_rfl) (by kernel_rfl) (by kernel_rfl) (by kernel_rfl) hx hy hc hK
theorem Ue (w:World) (v:Value) (h:Num .u64 Qb w v 1):Calls Try.prog 63 #[v] w fun e w'=>e=.returned (.bool true)∧w=w':=isOne_num w v 1 h
theorem V9 (w:World) (v:Value) (n:Nat) (h:Num .u64 Qb w v n) (hn:n≠1):Calls Try.prog 63 #[v] w fun e w'=>e=.returned (.bool false)∧w=w':=by
 have:=isOne_num w v n h
 rwa [decide_eq_false hn]at this

theorem mul_carry {x y u c:Nat} (hx:x<Qb) (hy:y<Qb) (hu:u<Qb) (hc:c<Qb):
  adLo (adLo (muLo x y) u) c+Qb*(muHi x y+adHi (muLo x y) u+adHi (adLo (muLo x y) u) c)=x*y+u+c ∧
  muHi x y+adHi (muLo x y) u<18446744073709551616∧muHi x y+adHi (muLo x y) u+adHi (adLo (muLo x y) u) c<Qb:=by
 have h1:=mu_spec x y
 have h2:=ad_spec (muLo x y) u
 have h3:=ad_spec (adLo (muLo x y) u) c
 have h4:=adLo_lt (adLo (muLo x y) u) c
 have hxy:x*y≤18446744073709551615*18446744073709551615:=Nat.mul_le_mul (by unfold Qb at hx; omega) (by unfold Qb at hy; omega)
 unfold Qb at *
 generalize x*y=p at *
 generalize adLo (muLo x y) u=q at *
 omega

theorem times_round {w0 wr:World} {g:Nat} {o b:List Nat} {i k c vx vy vu s N:Nat} (hk:k<b.length) (hc:c<Qb) (hol:o.length=N) (hwo:Wf Qb o) (hx:vx<Qb) (hy:vy<Qb) (hu:vu<Qb)
  (hr:Row wr .u64 81 g o) (hg:w0.heap.size≤g) (hbl:Below w0.heap.size w0 wr) (hz:∀p,i+b.length≤p→o.getD p 0=0) (hval:Ql Qb o+Qb^(i+k)*c=s+Qb^i*(vx*Ql Qb (b.take k)))
  (HU:o[i+k]?=some vu) (HY:b[k]?=some vy):
  ∃(c':Nat) (o':List Nat),IntKind.u64.wrap (IntKind.u64.wrap ((muHi vx vy:Nat)+(adHi (muLo vx vy) vu:Nat))+(adHi (adLo (muLo vx vy) vu) c:Nat))=(c':Int)∧c'<Qb∧o'.length=N∧Wf Qb o' ∧
   Row (wr.setCell ⟨g,i+k,none⟩ (.int .u64 (adLo (adLo (muLo vx vy) vu) c:Nat))) .u64 81 g o'∧Below w0.heap.size w0 (wr.setCell ⟨g,i+k,none⟩ (.int .u64 (adLo (adLo (muLo vx vy) vu) c:Nat))) ∧
   (∀p,i+b.length≤p→o'.getD p 0=0)∧Ql Qb o'+Qb^(i+(k+1))*c'=s+Qb^i*(vx*Ql Qb (b.take (k+1))):=by
 obtain⟨e1,e2,e3⟩:=mul_carry hx hy hu hc
 refine⟨_,o.set (i+k) (adLo (adLo (muLo vx vy) vu) c),?_,e3,by simp[hol],hwo.set (adLo_lt _ _),hr.set _ _,hbl.setCell hg _,?_,mul_step hval HU HY e1⟩
 ·rw[wrap_u64 (n:=((muHi vx vy:Nat):Int)+(adHi (muLo vx vy) vu:Nat)) (by omega) (by omega),wrap_u64 (by omega) (by unfold Qb at e3; omega)]
  omega
 ·intro p hp
  rw[Qaj (by omega)]; exact hz p hp
theorem times_row {w0 wr:World} {g:Nat} {o o0 a b:List Nat} {i c vx n N:Nat} (hc:c<Qb) (hi:i<a.length) (hN:N=a.length+b.length) (hol:o.length=N) (hwo:Wf Qb o)
  (hr:Row wr .u64 81 g o) (hg:w0.heap.size≤g) (hbl:Below w0.heap.size w0 wr) (hz:∀p,i+b.length≤p→o.getD p 0=0) (hval:Ql Qb o+Qb^(i+b.length)*c=Ql Qb o0+Qb^i*(vx*Ql Qb (b.take b.length)))
  (h0:Ql Qb o0=Ql Qb (a.take i)*n) (hb:Ql Qb b=n) (hx:a[i]?=some vx):
  ∃o':List Nat,o'.length=N∧Wf Qb o'∧Row (wr.setCell ⟨g,i+b.length,none⟩ (.int .u64 (c:Nat))) .u64 81 g o'∧Below w0.heap.size w0 (wr.setCell ⟨g,i+b.length,none⟩ (.int .u64 (c:Nat))) ∧
   (∀p,i+1+b.length≤p→o'.getD p 0=0)∧Ql Qb o'=Ql Qb (a.take (i+1))*n:=by
 refine⟨o.set (i+b.length) c,by simp[hol],hwo.set hc,hr.set _ _,hbl.setCell hg _,?_,?_⟩
 ·intro p hp
  rw[Qaj (by omega)]; exact hz p (by omega)
 ·have hu:o[i+b.length]?=some 0:=by
   have:=hz (i+b.length) (Nat.le_refl _)
   rw[List.getD_eq_getElem?_getD,List.getElem?_eq_getElem (by omega)]at this
   rw[List.getElem?_eq_getElem (by omega)]
   simpa using this
  have h1:=val_set (b:=Qb) hu c
  rw[Nat.mul_zero,Nat.add_zero]at h1
  rw[h1,hval,h0,Z4 hx,List.take_length,hb,Nat.add_mul,Nat.mul_assoc]

set_option maxHeartbeats 1000000 in
theorem Uk (w:World) (v1 v2:Value) (m n:Nat) (h1:Num .u64 Qb w v1 m) (h2:Num .u64 Qb w v2 n) {j k:Nat} (hj:Bd j m) (hk:Bd k n) (hj1:j≤1000000000) (hk1:k≤1000000000):
  Calls Try.prog 39 #[v1,v2] w (K4 .u64 Qb w (m*n)):=by
 by_cases hm1:m=1
 ·subst hm1
  have h0:=h1
  obtain⟨A,c,rfl,_⟩:=h1
  go_enter Try.func39,Try.ntmps39
  go_wp2_with (go_at_call 63; refine(Ue _ _ h0).mono ?_; rintro e w' ⟨rfl,rfl⟩)
  go_ret
  exact⟨v2,rfl,by rw[Nat.one_mul]; exact h2,Below.refl _ _⟩
 ·by_cases hn1:n=1
  ·subst hn1
   go_enter Try.func39,Try.ntmps39
   go_wp2_with fail
   refine(V9 _ _ _ h1 hm1).mono ?_
   rintro e w' ⟨rfl,rfl⟩
   go_wp2_with fail
   refine(Ue _ _ h2).mono ?_
   rintro e w' ⟨rfl,rfl⟩
   go_wp2
   go_ret
   exact⟨v1,rfl,by rw[Nat.mul_one]; exact h1,Below.refl _ _⟩
  ·have g1:=h1
   have g2:=h2
   obtain⟨A,c,rfl,ha⟩:=h1
   obtain⟨B,d,rfl,hb⟩:=h2
   have hla:=len64 hj
   have hlb:=len64 hk
   have hva:=Zi Qv m
   have hvb:=Zi Qv n
   have wa:=Jk Qv m
   have wb:=Jk Qv n
   clear hj hk
   go_enter Try.func39,Try.ntmps39
   go_wp2_with fail
   refine(V9 _ _ _ g1 hm1).mono ?_
   rintro e w' ⟨rfl,rfl⟩
   go_wp2_with fail
   refine(V9 _ _ _ g2 hn1).mono ?_
   rintro e w' ⟨rfl,rfl⟩
   clear g1 g2
   generalize digs Qb m=a at *
   generalize digs Qb n=b at *
   have VA:=Lib.hid hva
   have VB:=Lib.hid hvb
   clear hva hvb
   go_wp2_with (at_make; refine Wd _ rfl _ _ _ rfl .u64 81 Try.underlying30 Vu _ _ rfl rfl (by omega) (by omega) (by omega) ?_; intro w1 hrow hbel hsz)
   rw[show((a.length:Int)+(b.length:Int)).toNat=a.length+b.length by omega]at hrow
   have hla1:a.length≤1000000000:=by omega
   have hlb1:b.length≤1000000000:=by omega
   clear hla hlb
   go_loopw [28] (fun s28 wr=>∃(i:Nat) (o:List Nat),i≤a.length∧s28=.int .i64 i∧o.length=a.length+b.length∧Wf Qb o∧Row wr .u64 81 w.heap.size o∧Below w.heap.size w wr∧(∀p,i+b.length≤p→o.getD p 0=0)∧Ql Qb o=Ql Qb (a.take i)*n)
    (fun s28 _=>a.length-(intOf s28).toNat)
   case atStart=>exact⟨0,List.replicate (a.length+b.length) 0,by omega,rfl,by simp,Wf.replicate (by unfold Qb; omega) _,hrow,hbel,fun p _=>by simp[List.getD_eq_getElem?_getD,List.getElem?_replicate]; split<;>rfl,by rw[Qdu]; simp[Ql]⟩
   case round=>
    obtain⟨i,o,hi,rfl,hol,hwo,hr,hbl,hz,hval⟩:=hrel
    have HVAL:=Lib.hid hval
    have HOL:=Lib.hid hol
    have HZ:=Lib.hid hz
    clear hval hol hz hrow hbel hsz
    by_cases hlt:i<a.length
    ·obtain⟨bx,ox,vx,rfl,hcx,HVX⟩:=(ha.below hbl).get hlt
     have hvx:vx<Qb:=wa _ (List.mem_of_getElem? HVX.out)
     have HLX:=Lib.hid hvx
     clear hvx
     go_wp2_with fail
     obtain⟨wo,rfl⟩:∃wo:World,wo=wr:=⟨_,rfl⟩
     go_loopw [8,35] (fun s8 s35 wr=>∃(k c:Nat) (o':List Nat),k≤b.length∧s35=.int .i64 k∧s8=.int .u64 c∧c<Qb∧o'.length=a.length+b.length∧Wf Qb o'∧Row wr .u64 81 w.heap.size o'∧Below w.heap.size w wr∧(∀p,i+b.length≤p→o'.getD p 0=0)∧Ql Qb o'+Qb^(i+k)*c=Ql Qb o+Qb^i*(vx*Ql Qb (b.take k)))
      (fun _ s35 _=>b.length-(intOf s35).toNat)
     case atStart=>exact⟨0,0,o,by omega,rfl,rfl,by unfold Qb; omega,HOL.out,hwo,hr,hbl,HZ.out,by simp[Ql]⟩
     case round=>
      obtain⟨k,c,o',hk,rfl,rfl,hc,hol',hwo',hr',hbl',hz',hval'⟩:=hrel
      have HVAL':=Lib.hid hval'
      have HOL':=Lib.hid hol'
      have HZ':=Lib.hid hz'
      have HC:=Lib.hid hc
      clear hval' hol' hz' hc
      by_cases hlk:k<b.length
      ·obtain⟨by_,oy,vy,rfl,hcy,HVY⟩:=(hb.below hbl').get hlk
       obtain⟨vu,hcu,HVU⟩:=hr'.get (i:=i+k) (by have:=HOL'.out; omega)
       have hcf:=hr'.frozen (i+k)
       have hvy:vy<Qb:=wb _ (List.mem_of_getElem? HVY.out)
       have hvu:vu<Qb:=hwo' _ (List.mem_of_getElem? HVU.out)
       have HLY:=Lib.hid hvy
       have HLU:=Lib.hid hvu
       clear hvy hvu
       go_wp2_with (first|(go_at_call 65; refine(K8 vx vy HLX.out HLY.out _).mono ?_; rintro e w' ⟨rfl,rfl⟩)|((with_reducible refine Wo 66 rfl rfl ?_); refine Qba rfl rfl rfl ?_))
       go_roundw
       case rel=>
        obtain⟨c',o2,e,r⟩:=times_round hlk HC.out HOL'.out hwo' HLX.out HLY.out HLU.out hr' (Nat.le_refl _) hbl' HZ'.out HVAL'.out HVU.out HVY.out
        exact⟨k+1,c',o2,by omega,by go_num,by rw[e],r⟩
       case measure=>simp[intOf]; omega
      ·obtain rfl:k=b.length:=by omega
       obtain⟨vu,hcu,HVU⟩:=hr'.get (i:=i+b.length) (by have:=HOL'.out; omega)
       have hcf:=hr'.frozen (i+b.length)
       go_wp2
       go_roundw
       case rel=>
        obtain⟨o2,r⟩:=times_row HC.out hlt rfl HOL'.out hwo' hr' (Nat.le_refl _) hbl' HZ'.out HVAL'.out HVAL.out VB.out HVX.out
        exact⟨i+1,o2,by omega,by go_num,r⟩
       case measure=>simp[intOf]; omega
    ·obtain rfl:i=a.length:=by omega
     have hfin:Ql Qb o=m*n:=by
      have h:=HVAL.out
      rw[List.take_length,VA.out]at h
      exact h
     have HF:=Lib.hid hfin
     clear hfin
     have hrd:=hr.rd_all (c:=a.length+b.length) (by have:=HOL.out; omega) (by unfold maxLen; omega)
     go_wp2_with fail
     refine(Vk _ _ _ o (m*n) hrd hwo _ HOL.out HF.out).mono ?_
     rintro e w' ⟨rfl,v,rfl,hv⟩
     go_wp2
     go_ret
     exact⟨v,rfl,hv,hbl⟩
end Wx
