import Derived.Test.YtikkgpljpglnbaaGreatCRMDiv64
namespace Wx
set_option maxHeartbeats 1000000
open Go Go.RowKit Go.Proofs
theorem jH (n p:Nat):(List.replicate n 0).getD p 0=0:=by
 rw[List.getD_eq_getElem?_getD,List.getElem?_replicate]; split<;>rfl
variable {l:List Nat} {i v:Nat}
theorem oc (h:i<l.length):(l.set i v).getD i 0=v:=by
 rw[List.getD_eq_getElem?_getD,List.getElem?_set_self h]; rfl
theorem FB (h:l[i]?=some v):l.getD i 0=v:=by rw[List.getD_eq_getElem?_getD,h]; rfl
theorem yF {w0 wr:World} {g:Nat} {a o:List Nat} {d r k vx vu N:Nat} (Tw:r<64) (hi:i<a.length) (hN:N=a.length+d+1) (dF:o.length=N) (wa:Wf b64 a) (iM:Wf b64 o)
  (hr:Row wr .u64 86 g o) (hg:w0.heap.size<=g) (hbl:Below w0.heap.size w0 wr) (hz:∀p,i+d+1<=p->o.getD p 0=0) (ht:o.getD (i+d) 0<2^r) (hval:val b64 o=val b64 (a.take i)*2^k)
  (hx:a[i]?=some vx) (hu:o[i+d]?=some vu) (hk:k=64*d+r):
  ∃o':List Nat,o'.length=N/\Wf b64 o' /\
   Row ((wr.setCell ⟨g,i+d,none⟩ (.int .u64 (bits BinOp.or .u64 (vu:Int) (IntKind.u64.wrap ((vx:Int)*2^r))))).setCell ⟨g,i+d+1,none⟩ (.int .u64 ((vx:Int)/2^(64-r)))).drew .u64 86 g o' /\
   Below w0.heap.size w0 ((wr.setCell ⟨g,i+d,none⟩ (.int .u64 (bits BinOp.or .u64 (vu:Int) (IntKind.u64.wrap ((vx:Int)*2^r))))).setCell ⟨g,i+d+1,none⟩ (.int .u64 ((vx:Int)/2^(64-r)))).drew /\
   (∀p,i+1+d+1<=p->o'.getD p 0=0)/\o'.getD (i+1+d) 0<2^r/\val b64 o'=val b64 (a.take (i+1))*2^k:=by
 have om:vx<b64:=wa _ (List.mem_of_getElem? hx)
 rw[gE]at om
 rw[FB hu]at ht
 have hp:0<2^r:=Nat.two_pow_pos r
 have hpq:2^(64-r)*2^r=18446744073709551616:=by rw[<-Nat.pow_add,show 64-r+r=64 by omega]
 have hdiv:vx*2^r/18446744073709551616=vx/2^(64-r):=by rw[<-hpq,Nat.mul_div_mul_right _ _ hp]
 have KR:=Nat.div_add_mod (vx*2^r) 18446744073709551616
 rw[hdiv]at KR
 have hhi:vx/2^(64-r)<2^r:=by rw[Nat.div_lt_iff_lt_mul (Nat.two_pow_pos _),Nat.mul_comm,hpq]; omega
 have oJ:vx*2^r%18446744073709551616%2^r=0:=by
  rw[<-hpq,Nat.mul_comm (2^(64-r)),Nat.mod_mul_right_mod,Nat.mul_mod_left]
 have Tu:2^r<18446744073709551616:=by
  have:=Nat.pow_lt_pow_right (show 1<2 by omega) Tw
  omega
 have Ts:bits BinOp.or .u64 (vu:Int) (IntKind.u64.wrap ((vx:Int)*2^r))=((vu+vx*2^r%18446744073709551616:Nat):Int):=by
  rw[jn,u64_or_nat _ _ (by omega) (Nat.mod_lt _ (by omega)),Nat.or_comm,nat_join r _ _ oJ ht,Nat.add_comm]
 have hdc:((vx/2^(64-r):Nat):Int)=(vx:Int)/2^(64-r):=by rw[Int.natCast_ediv,Int.natCast_pow]; rfl
 rw[Ts,<-hdc]
 have hlo:vu+vx*2^r%18446744073709551616<18446744073709551616:=by
  -- the low part is a MR of 2^r below 2^64
  have hl:vx*2^r%18446744073709551616<18446744073709551616:=Nat.mod_lt _ (by omega)
  obtain⟨t,ht'⟩:∃t,vx*2^r%18446744073709551616=t*2^r:=⟨vx*2^r%18446744073709551616/2^r,by
   have:=Nat.div_add_mod (vx*2^r%18446744073709551616) (2^r)
   rw[oJ,Nat.mul_comm]at this; omega⟩
  rw[ht']at hl ⊢
  rw[<-hpq]at hl ⊢
  have hlt:t<2^(64-r):=Nat.lt_of_mul_lt_mul_right hl
  have:(t+1)*2^r<=2^(64-r)*2^r:=Nat.mul_le_mul_right _ hlt
  rw[Nat.add_mul,Nat.one_mul]at this
  omega
 have h1:=pK (b:=b64) hu (vu+vx*2^r%18446744073709551616)
 have PT:(o.set (i+d) (vu+vx*2^r%18446744073709551616))[i+d+1]?=some 0:=by
  rw[List.getElem?_set_ne (by omega),List.getElem?_eq_getElem (by omega)]
  have:=hz (i+d+1) (Nat.le_refl _)
  rw[List.getD_eq_getElem?_getD,List.getElem?_eq_getElem (by omega)]at this
  simpa using this
 have h2:=pK (b:=b64) PT (vx/2^(64-r))
 refine⟨(o.set (i+d) (vu+vx*2^r%18446744073709551616)).set (i+d+1) (vx/2^(64-r)),by simp[dF],(iM.set (by unfold b64; exact hlo)).set (by unfold b64; omega),((hr.set _ _).set _ _).drew,((hbl.setCell hg _).setCell hg _).drew,?_,?_,?_⟩
 ·intro p NI
  rw[getD_set_ne (by omega),getD_set_ne (by omega)]
  exact hz p (by omega)
 ·rw[show i+1+d=i+d+1 by omega,oc (by simp; omega)]
  exact hhi
 ·rw[bN hx,Nat.add_mul,<-hval]
  have e3:b64^i*vx*2^k=b64^(i+d)*(vx*2^r):=by
   have e:2^k=b64^d*2^r:=by rw[hk,Nat.pow_add,gE,<-Nat.pow_mul]
   rw[e,Nat.pow_add,Nat.mul_assoc,Nat.mul_assoc]
   congr 1
   rw[Nat.mul_left_comm]
  have e5:b64^(i+d)*(vx*2^r)=b64^(i+d)*(18446744073709551616*(vx/2^(64-r)))+b64^(i+d)*(vx*2^r%18446744073709551616):=by
   rw[<-Nat.mul_add,KR]
  have e4:b64^(i+d+1)*(vx/2^(64-r))=b64^(i+d)*(18446744073709551616*(vx/2^(64-r))):=by
   rw[Nat.pow_succ,Nat.mul_assoc]; rfl
  rw[e3,e5,<-e4]
  rw[Nat.mul_add]at h1
  rw[Nat.mul_zero,Nat.add_zero]at h2
  omega
theorem wC (w:World) (v1:Value) (m k:Nat) (h1:cz .u64 b64 w v1 m) {j:Nat} (hj:Bd j m) (fD:j<=1000000000) (nk:k<=1000000000):
  Calls Tryz.prog 98 #[v1,.int .i64 (k:Int)] w (gQ .u64 b64 w (m*2^k)):=by
 by_cases h0:k=0\/m=0
 ·have g1:=h1
  obtain⟨A,c,rfl,ha⟩:=h1
  have he:m*2^k=m:=by rcases h0 with rfl|rfl<;>simp
  rw[he]
  by_cases hm:m=0
  ·subst hm
   rw[bf]at g1 ⊢
   rw[List.length_nil]at *
   go_enter Tryz.func98,Tryz.ntmps98
   go_wp2
   go_ret
   exact⟨_,rfl,g1,Below.refl _ _⟩
  ·have pA:k=0:=by omega
   subst pA
   have hpos:=(aU ai).2 (show 0<m by omega)
   have hb:(((ak b64 m).length:Int)==0)=false:=beq_eq_false_iff_ne.2 (by omega)
   go_enter Tryz.func98,Tryz.ntmps98
   go_wp2
   go_ret
   exact⟨_,rfl,g1,Below.refl _ _⟩
 ·have hm:0<m:=by omega
  have hk:0<k:=by omega
  clear h0
  obtain⟨A,c,rfl,ha⟩:=h1
  have hla:=mz hj
  have Af:=bI ai m
  have wa:=cI ai m
  have hpos:=(aU ai).2 hm
  clear hj
  generalize ak b64 m=a at *
  have VA:=Lib.hid Af
  clear Af
  have hlen:a.length<=100000000:=by omega
  clear hla
  obtain⟨d,r,hd,hr,bD⟩:∃d r,k/64=d/\k%64=r/\k=64*d+r:=⟨k/64,k%64,rfl,rfl,by omega⟩
  have hr1:(r:Int)<64:=by omega
  have Ta:(k:Int)/64=(d:Int):=by omega
  have Tb:(k:Int)%64=(r:Int):=by omega
  have sZ:(d:Int)<=100000000:=by omega
  have HK:=Lib.hid bD
  clear hd hr bD
  have hb:((a.length:Int)==0)=false:=beq_eq_false_iff_ne.2 (by omega)
  have hb2:((k:Int)==0)=false:=beq_eq_false_iff_ne.2 (by omega)
  go_enter Tryz.func98,Tryz.ntmps98
  go_wp2_with (at_make; refine dV _ rfl _ _ _ rfl .u64 86 Tryz.underlying45 gV _ _ rfl rfl (by omega) (by omega) (by omega) ?_; intro w1 hrow fC hsz)
  rw[show((a.length:Int)+(d:Int)+1).toNat=a.length+d+1 by omega]at hrow
  go_loopw [25] (λKn wr=>∃(i:Nat) (o:List Nat),i<=a.length/\Kn=.int .i64 i/\o.length=a.length+d+1/\Wf b64 o/\Row wr .u64 86 w.heap.size o/\Below w.heap.size w wr/\(∀p,i+d+1<=p->o.getD p 0=0)/\o.getD (i+d) 0<2^r/\val b64 o=val b64 (a.take i)*2^k)
   (λKn _=>a.length-(RowKit.intOf Kn).toNat)
  case atStart=>exact⟨0,List.replicate (a.length+d+1) 0,by omega,rfl,by simp,Wf.replicate (by unfold b64; omega) _,hrow,fC,λp _=>jH _ _,by rw[jH]; exact Nat.two_pow_pos _,by rw[kW]; simp[val]⟩
  case round=>
   obtain⟨i,o,hi,rfl,dF,iM,hr,hbl,hz,Dg,hval⟩:=hrel
   have dX:=Lib.hid hval
   have fe:=Lib.hid dF
   have HZ:=Lib.hid hz
   have HT:=Lib.hid Dg
   clear hval dF hz Dg hrow fC hsz
   by_cases hlt:i<a.length
   ·obtain⟨bx,ox,vx,rfl,Cq,sj⟩:=(ha.below hbl).get hlt
    obtain⟨vu,vX,Fa⟩:=hr.get (i:=i+d) (by have:=fe.out; omega)
    obtain⟨vt,hct,HVT⟩:=hr.get (i:=i+d+1) (by have:=fe.out; omega)
    have zZ:=hr.frozen (i+d)
    have S0:=hr.frozen (i+d+1)
    have e1:(0:Int)<=(i:Int)+(d:Int):=by omega
    have e2:(i:Int)+(d:Int)<(a.length:Int)+(d:Int)+1:=by omega
    have e3:(0:Int)<=(r:Int):=by omega
    go_wp2
    go_region
    all_goals go_wp2
    all_goals
     go_roundw
     case rel=>
      obtain⟨o2,f1,f2,f3,r2⟩:=yF (N:=a.length+d+1) (by omega) hlt rfl fe.out wa iM hr (Nat.le_refl _) hbl HZ.out HT.out dX.out sj.out Fa.out HK.out
      exact⟨i+1,o2,by omega,by go_num,f1,f2,f3,r2⟩
     case measure=>simp[RowKit.intOf]; omega
   ·obtain rfl:i=a.length:=by omega
    have HF:Hid (val b64 o=m*2^k):=by
     have h:=dX.out
     rw[List.take_length,VA.out]at h
     exact h
    have hrd:=hr.gw (c:=a.length+d+1) (by have:=fe.out; omega) (by unfold maxLen; omega)
    go_wp2_with fail
    refine(fL _ _ _ o _ hrd iM _ fe.out HF.out).mono ?_
    rintro e w' ⟨rfl,v,rfl,hv⟩
    go_wp2
    go_ret
    exact⟨v,rfl,hv,hbl⟩
end Wx

namespace Wx
set_option maxHeartbeats 1000000
open Go Go.RowKit Go.Proofs
variable {x r:Nat}
theorem xe {y:Nat} (hx:x<b64) (hr:r<64):
  bits BinOp.or .u64 ((x:Int)/2^r) (IntKind.u64.wrap ((y:Int)*2^(64-r)))=((x/2^r+y%2^r*2^(64-r):Nat):Int)/\x/2^r+y%2^r*2^(64-r)<b64 /\
  (x/2^r+y%2^r*2^(64-r))*2^r+x%2^r=x+b64*(y%2^r):=by
 have hp:0<2^r:=Nat.two_pow_pos r
 have hpq:2^(64-r)*2^r=b64:=by rw[gE,<-Nat.pow_add,show 64-r+r=64 by omega]
 have hq:0<2^(64-r):=Nat.two_pow_pos _
 have hlo:x/2^r<2^(64-r):=by rw[Nat.div_lt_iff_lt_mul hp,hpq]; exact hx
 have oJ:y*2^(64-r)%b64=y%2^r*2^(64-r):=by
  rw[<-hpq,Nat.mul_comm (2^(64-r)) (2^r),Nat.mul_mod_mul_right]
 have TF:y%2^r<2^r:=Nat.mod_lt _ hp
 have Mz:x/2^r+y%2^r*2^(64-r)<b64:=by
  have:(y%2^r+1)*2^(64-r)<=2^r*2^(64-r):=Nat.mul_le_mul_right _ TF
  rw[Nat.add_mul,Nat.one_mul,Nat.mul_comm (2^r),hpq]at this
  omega
 refine⟨?_,Mz,?_⟩
 ·have hdc:((x/2^r:Nat):Int)=(x:Int)/2^r:=by rw[Int.natCast_ediv,Int.natCast_pow]; rfl
  rw[<-hdc,jn]
  have e:y*2^(64-r)%18446744073709551616=y%2^r*2^(64-r):=by rw[<-oJ]; rfl
  rw[e,u64_or_nat _ _ (by have:=Nat.div_le_self x (2^r); unfold b64 at hx; omega) (by unfold b64 at Mz; omega),Nat.or_comm,nat_join (64-r) _ _ (Nat.mul_mod_left _ _) hlo,Nat.add_comm]
 ·rw[Nat.add_mul,Nat.mul_assoc,hpq]
  have:=Nat.div_add_mod x (2^r)
  rw[Nat.mul_comm]at this
  rw[Nat.mul_comm b64]
  omega
theorem rK (hx:x<b64):((x:Int)/2^r)=((x/2^r:Nat):Int)/\x/2^r<b64/\x/2^r*2^r+x%2^r=x:=by
 refine⟨by rw[Int.natCast_ediv,Int.natCast_pow]; rfl,Nat.lt_of_le_of_lt (Nat.div_le_self _ _) hx,?_⟩
 have:=Nat.div_add_mod x (2^r)
 rw[Nat.mul_comm]at this
 omega
variable {a:List Nat} {i:Nat}
theorem iV {d:Nat} (h:a[d+i]?=some x):(a.drop d).getD i 0=x:=by
 rw[List.getD_eq_getElem?_getD,List.getElem?_drop,h]; rfl
theorem rM {o:List Nat} {s z:Nat} (dF:i<o.length) (hval:val b64 (o.take i)*2^r+z=val b64 (a.take i)+b64^i*(a.getD i 0%2^r)) (hs:s*2^r+a.getD i 0%2^r=a.getD i 0+b64*(a.getD (i+1) 0%2^r)):
  val b64 ((o.set i s).take (i+1))*2^r+z=val b64 (a.take (i+1))+b64^(i+1)*(a.getD (i+1) 0%2^r):=by
 rw[gH,List.take_set_of_le (Nat.le_refl _),oc dF,gH,Nat.add_mul,Nat.pow_succ]
 have e:b64^i*(s*2^r+a.getD i 0%2^r)=b64^i*(a.getD i 0+b64*(a.getD (i+1) 0%2^r)):=by rw[hs]
 rw[Nat.mul_add,Nat.mul_add,<-Nat.mul_assoc,<-Nat.mul_assoc]at e
 omega
theorem B5 (w:World) (v1:Value) (m k:Nat) (h1:cz .u64 b64 w v1 m) {j:Nat} (hj:Bd j m) (fD:j<=1000000000) (nk:k<=1000000000):
  Calls Tryz.prog 100 #[v1,.int .i64 (k:Int)] w (gQ .u64 b64 w (m/2^k)):=by
 obtain⟨A,c,rfl,ha⟩:=h1
 have hla:=mz hj
 have Af:=bI ai m
 have wa:=cI ai m
 have JG:=jO ai m
 clear hj
 generalize ak b64 m=a at *
 have hlen:a.length<=100000000:=by omega
 clear hla
 obtain⟨d,r,hd,hr,bD⟩:∃d r,k/64=d/\k%64=r/\k=64*d+r:=⟨k/64,k%64,rfl,rfl,by omega⟩
 have hr1:(r:Int)<64:=by omega
 have NK:r<64:=by omega
 have Ta:(k:Int)/64=(d:Int):=by omega
 have Tb:(k:Int)%64=(r:Int):=by omega
 have sZ:(d:Int)<=100000000:=by omega
 by_cases hge:a.length<=d
 ·have h0:m/2^k=0:=by
   rw[Nat.div_eq_zero_iff]
   right
   refine Nat.lt_of_lt_of_le JG ?_
   rw[gE,<-Nat.pow_mul]
   exact Nat.pow_le_pow_right (by omega) (by omega)
  rw[h0]
  have Pu:(a.length:Int)<=(d:Int):=by omega
  clear hd hr bD h0 Af JG
  go_enter Tryz.func100,Tryz.ntmps100
  go_wp2
  go_ret
  exact⟨_,rfl,cz.zero _ _ _,Below.refl _ _⟩
 ·have VA:Hid (val b64 (a.drop d)/2^r=m/2^k):=by
   show _=_
   rw[bD,Nat.pow_add,<-Nat.div_div_eq_div_mul,<-Af]
   congr 1
   have h:=bM b64 a d (by omega)
   have hl:=ia (wa.take d)
   rw[List.length_take,Nat.min_eq_left (by omega)]at hl
   have e:2^(64*d)=b64^d:=by rw[gE,<-Nat.pow_mul]
   rw[e,h,Nat.add_mul_div_left _ _ (Nat.pow_pos (by unfold b64; omega)),Nat.div_eq_of_lt hl,Nat.zero_add]
  have Pu:¬((a.length:Int)<=(d:Int)):=by omega
  clear hd hr bD Af JG
  go_enter Tryz.func100,Tryz.ntmps100
  go_wp2_with (at_make; refine dV _ rfl _ _ _ rfl .u64 86 Tryz.underlying45 gV _ _ rfl rfl (by omega) (by omega) (by omega) ?_; intro w1 hrow fC hsz)
  rw[show((a.length:Int)-(d:Int)).toNat=a.length-d by omega]at hrow
  go_loopw [20] (λQh wr=>∃(i:Nat) (o:List Nat),i<=a.length-d/\Qh=.int .i64 i/\o.length=a.length-d/\Wf b64 o/\Row wr .u64 86 w.heap.size o/\Below w.heap.size w wr /\
    val b64 (o.take i)*2^r+(a.drop d).getD 0 0%2^r=val b64 ((a.drop d).take i)+b64^i*((a.drop d).getD i 0%2^r))
   (λQh _=>a.length-(RowKit.intOf Qh).toNat)
  case atStart=>exact⟨0,List.replicate (a.length-d) 0,by omega,rfl,by simp,Wf.replicate (by unfold b64; omega) _,hrow,fC,by simp[val]⟩
  case round=>
   obtain⟨i,o,hi,rfl,dF,iM,hr,hbl,hval⟩:=hrel
   have dX:=Lib.hid hval
   have fe:=Lib.hid dF
   clear hval dF hrow fC hsz
   by_cases hlt:i<a.length-d
   ·obtain⟨bx,ox,vx,rfl,Cq,sj⟩:=(ha.below hbl).get (i:=i+d) (by omega)
    obtain⟨vo,EW,G6⟩:=hr.get (i:=i) (by have:=fe.out; omega)
    have zZ:=hr.frozen i
    have om:vx<b64:=wa _ (List.mem_of_getElem? sj.out)
    have KE:=Lib.hid om
    clear om
    have e1:(i:Int)<((a.length-d:Nat):Int):=by omega
    have e2:(i:Int)+(d:Int)<(a.length:Int):=by omega
    have e3:(0:Int)<=(r:Int):=by omega
    have e4:(0:Int)<=(i:Int):=by omega
    by_cases PE:i+d+1<a.length
    ·obtain⟨On,oy,vy,O3,NC,Fb⟩:=(ha.below hbl).get (i:=i+d+1) PE
     injection O3 with O3
     injection O3 with O4 O5
     subst O4 O5
     have e5:(i:Int)+(d:Int)+1<(a.length:Int):=by omega
     go_wp2
     go_region
     all_goals go_wp2
     all_goals
      go_roundw
      case rel=>
       obtain⟨f1,f2,f3⟩:=xe (x:=vx) (y:=vy) KE.out NK
       rw[f1,(rK (r:=r) KE.out).1]
       have hR:=((hr.set i (vx/2^r)).set i (vx/2^r+vy%2^r*2^(64-r))).drew
       rw[List.set_set]at hR
       refine⟨i+1,o.set i (vx/2^r+vy%2^r*2^(64-r)),by omega,by go_num,by rw[List.length_set]; exact fe.out,iM.set f2,hR,((hbl.setCell (Nat.le_refl _) _).setCell (Nat.le_refl _) _).drew,?_⟩
       refine rM (by have:=fe.out; omega) dX.out ?_
       rw[iV (i:=i) (by rw[Nat.add_comm]; exact sj.out),iV (i:=i+1) (by rw[show d+(i+1)=i+d+1 by omega]; exact Fb.out)]
       exact f3
      case measure=>simp[RowKit.intOf]; omega
    ·have e5:¬((i:Int)+(d:Int)+1<(a.length:Int)):=by omega
     go_wp2
     go_roundw
     case rel=>
      obtain⟨f1,f2,f3⟩:=rK (x:=vx) (r:=r) KE.out
      rw[f1]
      refine⟨i+1,o.set i (vx/2^r),by omega,by go_num,by rw[List.length_set]; exact fe.out,iM.set f2,hr.set _ _,hbl.setCell (Nat.le_refl _) _,?_⟩
      refine rM (by have:=fe.out; omega) dX.out ?_
      have hz:(a.drop d).getD (i+1) 0=0:=by rw[List.getD_eq_getElem?_getD,List.getElem?_eq_none (by simp; omega)]; rfl
      rw[iV (i:=i) (by rw[Nat.add_comm]; exact sj.out),hz,Nat.zero_mod,Nat.mul_zero,Nat.add_zero]
      exact f3
     case measure=>simp[RowKit.intOf]; omega
   ·obtain rfl:i=a.length-d:=by omega
    have HF:Hid (val b64 o=m/2^k):=by
     show _=_
     rw[<-VA.out]
     have h:=dX.out
     have hz:(a.drop d).getD (a.length-d) 0=0:=by rw[List.getD_eq_getElem?_getD,List.getElem?_eq_none (by simp)]; rfl
     rw[List.take_of_length_le (l:=a.drop d) (by rw[List.length_drop]; omega),List.take_of_length_le (l:=o) (by have:=fe.out; omega),hz,Nat.zero_mod,Nat.mul_zero,Nat.add_zero]at h
     rw[<-h,Nat.mul_comm,Nat.mul_add_div (Nat.two_pow_pos r),Nat.div_eq_of_lt (Nat.mod_lt _ (Nat.two_pow_pos r)),Nat.add_zero]
    have hrd:=hr.gw (c:=a.length-d) (by have:=fe.out; omega) (by unfold maxLen; omega)
    go_wp2_with fail
    refine(fL _ _ _ o _ hrd iM _ fe.out HF.out).mono ?_
    rintro e w' ⟨rfl,v,rfl,hv⟩
    go_wp2
    go_ret
    exact⟨v,rfl,hv,hbl⟩
end Wx

namespace Wx
set_option maxHeartbeats 1000000
open Go Go.RowKit Go.Proofs
variable {o:List Nat} {j x:Nat}
theorem kR (h:j<o.length):(o.set j x).drop j=x::o.drop (j+1):=by
 rw[List.drop_eq_getElem_cons (by simpa using h),List.getElem_set_self,jF (by omega)]
theorem sr (h:o[j]?=some x):o.drop j=x::o.drop (j+1):=by
 obtain⟨h1,rfl⟩:=List.getElem?_eq_some_iff.1 h
 exact List.drop_eq_getElem_cons h1
variable {d q r:Nat}
theorem vv {b rest A O:Nat} (h1:A=O*d+rest) (h2:q*d+r=rest*b+x):x+b*A=(q+b*O)*d+r:=by
 rw[h1,Nat.add_mul,Nat.mul_add,Nat.mul_comm b rest,Nat.mul_assoc]
 omega
theorem qp {m:Nat} (h:m=q*d+r) (hr:r<d):m/d=q/\m%d=r:=by
 subst h
 rw[Nat.mul_comm,Nat.mul_add_div (by omega),Nat.mul_add_mod,Nat.div_eq_of_lt hr,Nat.mod_eq_of_lt hr]
 exact⟨rfl,rfl⟩
def Fh (w:World) (q r:Nat) (e:Ending) (w':World):Prop:=∃v,e=.returned (.tuple #[v,.int .u64 (r:Int)])/\cz .u64 b64 w' v q/\Below w.heap.size w w'
def Cz (w:World) (q r:Nat) (e:Ending) (w':World):Prop:=∃n c,e=.returned (.tuple #[.slice (some ⟨w.heap.size,0,none⟩) n c,.int .u64 (r:Int)])/\cz .u64 b64 w' (.slice (some ⟨w.heap.size,0,none⟩) n c) q/\Below w.heap.size w w'
theorem CP (w:World) (A:Option Addr) (c:Nat) (l:List Nat) (n:Nat) (h:Rd w .u64 A c l) (hw:Wf b64 l) (L:Nat) (hL:l.length=L) (hn:val b64 l=n):
  Calls Tryz.prog 75 #[.slice A L c] w λe w'=>w=w'/\∃k,e=.returned (.slice A k c)/\cz .u64 b64 w (.slice A k c) n:=by
 subst hL
 refine(zO w A c l h).mono λe w' ⟨k,hk,he,hw',ht,hv⟩=>⟨hw',_,he,?_⟩
 rw[<-hn,<-hv b64]
 exact cz.of ai (h.take k) (by rw[List.length_take]; omega) (hw.take k) ht
theorem nW (w:World) (v1:Value) (m d:Nat) (h1:cz .u64 b64 w v1 m) {j:Nat} (hj:Bd j m) (fD:j<=1000000000) (hd:0<d) (sZ:d<b64):
  Calls Tryz.prog 59 #[v1,.int .u64 (d:Int)] w (Cz w (m/d) (m%d)):=by
 obtain⟨A,c,rfl,ha⟩:=h1
 have hla:=mz hj
 have Af:=bI ai m
 have wa:=cI ai m
 clear hj
 generalize ak b64 m=a at *
 have VA:=Lib.hid Af
 have tK:=Lib.hid sZ
 clear Af sZ
 go_enter Tryz.func59,Tryz.ntmps59
 go_wp2_with (at_make; refine dV _ rfl _ _ _ rfl .u64 86 Tryz.underlying45 gV _ _ rfl rfl (by omega) (by omega) (by omega) ?_; intro w1 hrow fC hsz)
 rw[Int.toNat_natCast]at hrow
 go_loopw [7,8] (λs7 s8 wr=>∃(i rest:Nat) (o:List Nat),i<=a.length/\s8=.int .i64 ((i:Int)-1)/\s7=.int .u64 (rest:Int)/\rest<d/\o.length=a.length/\Wf b64 o/\Row wr .u64 86 w.heap.size o/\Below w.heap.size w wr/\val b64 (a.drop i)=val b64 (o.drop i)*d+rest)
  (λ_ s8 _=>(RowKit.intOf s8+1).toNat)
 case atStart=>exact⟨a.length,0,List.replicate a.length 0,by omega,rfl,rfl,hd,by simp,Wf.replicate (by unfold b64; omega) _,hrow,fC,by rw[List.drop_of_length_le (by omega),List.drop_of_length_le (by simp)]; simp[val]⟩
 case round=>
  obtain⟨i,rest,o,hi,rfl,rfl,hrd,dF,iM,hr,hbl,hval⟩:=hrel
  have dX:=Lib.hid hval
  have fe:=Lib.hid dF
  have N6:=Lib.hid hrd
  clear hval dF hrow fC hsz hrd
  rcases Nat.eq_zero_or_pos i with rfl|hpos
  ·rw[show(((0:Nat):Int)-1) = -1 by omega]
   have h:=dX.out
   rw[List.drop_zero,List.drop_zero,VA.out]at h
   obtain⟨e1,e2⟩:=qp h N6.out
   have HF:=Lib.hid e1.symm
   have HG:=Lib.hid e2.symm
   clear h e1 e2
   have hrd:=hr.gw (c:=a.length) (by have:=fe.out; omega) (by unfold maxLen; omega)
   go_wp2_with fail
   refine(CP _ _ _ o (m/d) hrd iM _ fe.out HF.out).mono ?_
   rintro e w' ⟨rfl,kn,rfl,hv⟩
   go_wp2
   rw[HG.out]
   go_ret2
   exact⟨_,_,rfl,hv,hbl⟩
  ·obtain⟨k,rfl⟩:∃k,i=k+1:=⟨i-1,by omega⟩
   rw[show(((k+1:Nat):Int)-1)=(k:Int) by omega]
   obtain⟨bx,ox,vx,rfl,Cq,sj⟩:=(ha.below hbl).get (i:=k) (by omega)
   obtain⟨vo,EW,G6⟩:=hr.get (i:=k) (by have:=fe.out; omega)
   have zZ:=hr.frozen k
   have KE:Hid (vx<b64):=wa _ (List.mem_of_getElem? sj.out)
   have pA:(0:Int)<=(k:Int):=by omega
   have nk:(k:Int)<(a.length:Int):=by omega
   go_wp2_with fail
   refine(Bh _ rest vx d KE.out tK.out N6.out).mono ?_
   rintro e w2 ⟨rfl,hb2⟩
   obtain⟨f1,f2,f3⟩:=zR KE.out N6.out
   have F1:=Lib.hid f1
   have F2:=Lib.hid f2
   have F3:=Lib.hid f3
   clear f1 f2 f3
   have hr2:=hr.keep hb2
   obtain⟨vo2,S3,Sd⟩:=hr2.get (i:=k) (by have:=fe.out; omega)
   have S1:=hr2.frozen k
   have O7:=hbl.trans (hb2.mono hbl.size)
   clear hb2 EW zZ Cq
   go_wp2
   go_roundw
   case rel=>
    refine⟨k,_,o.set k (dvQ rest vx d),by omega,by go_num,rfl,F2.out,by rw[List.length_set]; exact fe.out,iM.set F3.out,hr2.set _ _,O7.setCell (Nat.le_refl _) _,?_⟩
    rw[kR (by have:=fe.out; omega),sr sj.out,rU,rU]
    exact vv dX.out F1.out
   case measure=>simp[RowKit.intOf]
theorem xO (w:World) (v1:Value) (m d:Nat) (h1:cz .u64 b64 w v1 m) {j:Nat} (hj:Bd j m) (fD:j<=1000000000) (hd:0<d) (sZ:d<b64):
  Calls Tryz.prog 59 #[v1,.int .u64 (d:Int)] w (Fh w (m/d) (m%d)):=
 (nW w v1 m d h1 hj fD hd sZ).mono λ_ _ ⟨_,_,he,hn,hb⟩=>⟨_,he,hn,hb⟩
end Wx

namespace Wx
set_option maxHeartbeats 1000000
open Go Go.RowKit Go.Proofs
theorem cz.one {k:IntKind} {w:World} {v:Value} {n:Nat} (h:cz k b64 w v n) (h0:0<n) (h1:n<b64):∃b o c,v=.slice (some ⟨b,o,none⟩) 1 c/\w.cell? ⟨b,o,none⟩=some (.int k (n:Int)):=by
 obtain⟨A,c,rfl,hr⟩:=h
 rw[qo ai h0 h1]at hr ⊢
 obtain⟨b,o,rfl,hc⟩:=hr.at_ (i:=0) (by simp)
 exact⟨b,o,c,rfl,by simpa using hc⟩
theorem Cc (w:World) (v1 v2:Value) (m n:Nat) (h1:cz .u64 b64 w v1 m) (h2:cz .u64 b64 w v2 n) (hm:m<b64) (hn:n<b64) (h0:0<n):
  Calls Tryz.prog 96 #[v1,v2] w (fW w (.int .u64 (Nat.gcd m n:Nat))):=by
 obtain⟨bn,on,cn,rfl,NB⟩:=h2.one h0 hn
 have HM:=Lib.hid hm
 have HN:=Lib.hid hn
 clear hm hn h2
 obtain⟨G,hG⟩:∃G,G=Nat.gcd m n:=⟨_,rfl⟩
 rw[<-hG]
 have hx:=Lib.hid hG
 clear hG
 have key:∀(A:Option Addr) (L c:Nat),((L=0/\m=0)\/(L=1/\0<m/\∃b o,A=some ⟨b,o,none⟩/\w.cell? ⟨b,o,none⟩=some (.int .u64 (m:Int)))) ->
   Calls Tryz.prog 96 #[.slice A L c,.slice (some ⟨bn,on,none⟩) 1 cn] w (fW w (.int .u64 (G:Int))):=by
  intro A L c hL
  rcases hL with⟨rfl,rfl⟩|⟨rfl,hm0,b,o,rfl,hc⟩
  all_goals
   go_enter Tryz.func96,Tryz.ntmps96
   go_wp2_with fail
   go_loopw [5,6] (λs5 s6 wr=>∃x y:Nat,s5=.int .u64 (x:Int)/\s6=.int .u64 (y:Int)/\Hid (G=Nat.gcd x y)/\∃q,wr=w.drewN q) (λ_ s6 _=>(RowKit.intOf s6).toNat)
   case atStart=>exact⟨_,_,rfl,rfl,hx,0,rfl⟩
   case round=>
    obtain⟨x,y,rfl,rfl,HG,q,rfl⟩:=hrel
    rcases Nat.eq_zero_or_pos y with rfl|hy
    ·go_wp2
     go_ret
     refine⟨kH ?_,below_drewN (Below.refl _ _) _⟩
     rw[HG.out,Nat.gcd_zero_right]
    ·have uP:(1:Int)<=(y:Int):=by omega
     have hb:((y:Int)==0)=false:=beq_eq_false_iff_ne.2 (by omega)
     go_wp2
     go_quiet (fail)
     go_wp2
     go_roundw
     case rel=>exact⟨y,x%y,rfl,by rw[Int.natCast_emod],by show _=_; rw[HG.out,Nat.gcd_comm x y,Nat.gcd_rec y x,Nat.gcd_comm],_,World.drewN_drewN _ _ _⟩
     case measure=>simp[RowKit.intOf]; rw[<-Int.natCast_emod]; have:=Nat.mod_lt x hy; omega
 rcases Nat.eq_zero_or_pos m with rfl|hm0
 ·obtain⟨A,c,rfl,_⟩:=h1
  exact key A _ c (.inl ⟨by rw[bf]; rfl,rfl⟩)
 ·obtain⟨b,o,c,rfl,hc⟩:=h1.one hm0 HM.out
  exact key _ 1 c (.inr ⟨rfl,hm0,b,o,rfl,hc⟩)
end Wx
