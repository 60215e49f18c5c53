import Derived.Test.YtikkgpljpglnbaaGreatCRMDiv64
namespace Wx
set_option maxHeartbeats 1000000
open Go Go.RowKit Go.Proofs
theorem kW (n p:Nat):(List.replicate n 0).getD p 0=0:=by
 rw[List.getD_eq_getElem?_getD,List.getElem?_replicate]; split<;>rfl
variable {l:List Nat} {i v:Nat}
theorem qq (h:i<l.length):(l.set i v).getD i 0=v:=by
 rw[List.getD_eq_getElem?_getD,List.getElem?_set_self h]; rfl
theorem II (h:l[i]?=some v):l.getD i 0=v:=by rw[List.getD_eq_getElem?_getD,h]; rfl
theorem AY {w0 wr:World} {g:Nat} {a o:List Nat} {d r k vx vu N:Nat} (WK:r<64) (hi:i<a.length) (hN:N=a.length+d+1) (ek:o.length=N) (wa:Wf b64 a) (jC:Wf b64 o)
  (hr:Row wr .u64 86 g o) (hg:w0.heap.size<=g) (hbl:Below w0.heap.size w0 wr) (hz:∀p,i+d+1<=p->o.getD p 0=0) (ht:o.getD (i+d) 0<2^r) (hval:val b64 o=val b64 (a.take i)*2^k)
  (hx:a[i]?=some vx) (hu:o[i+d]?=some vu) (hk:k=64*d+r):
  ∃o':List Nat,o'.length=N/\Wf b64 o' /\
   Row ((wr.setCell ⟨g,i+d,none⟩ (.int .u64 (bits BinOp.or .u64 (vu:Int) (IntKind.u64.wrap ((vx:Int)*2^r))))).setCell ⟨g,i+d+1,none⟩ (.int .u64 ((vx:Int)/2^(64-r)))).drew .u64 86 g o' /\
   Below w0.heap.size w0 ((wr.setCell ⟨g,i+d,none⟩ (.int .u64 (bits BinOp.or .u64 (vu:Int) (IntKind.u64.wrap ((vx:Int)*2^r))))).setCell ⟨g,i+d+1,none⟩ (.int .u64 ((vx:Int)/2^(64-r)))).drew /\
   (∀p,i+1+d+1<=p->o'.getD p 0=0)/\o'.getD (i+1+d) 0<2^r/\val b64 o'=val b64 (a.take (i+1))*2^k:=by
 have qw:vx<b64:=wa _ (List.mem_of_getElem? hx)
 rw[iL]at qw
 rw[II hu]at ht
 have hp:0<2^r:=Nat.two_pow_pos r
 have hpq:2^(64-r)*2^r=18446744073709551616:=by rw[<-Nat.pow_add,show 64-r+r=64 by omega]
 have hdiv:vx*2^r/18446744073709551616=vx/2^(64-r):=by rw[<-hpq,Nat.mul_div_mul_right _ _ hp]
 have Nz:=Nat.div_add_mod (vx*2^r) 18446744073709551616
 rw[hdiv]at Nz
 have hhi:vx/2^(64-r)<2^r:=by rw[Nat.div_lt_iff_lt_mul (Nat.two_pow_pos _),Nat.mul_comm,hpq]; omega
 have qN:vx*2^r%18446744073709551616%2^r=0:=by
  rw[<-hpq,Nat.mul_comm (2^(64-r)),Nat.mod_mul_right_mod,Nat.mul_mod_left]
 have WI:2^r<18446744073709551616:=by
  have:=Nat.pow_lt_pow_right (show 1<2 by omega) WK
  omega
 have WG:bits BinOp.or .u64 (vu:Int) (IntKind.u64.wrap ((vx:Int)*2^r))=((vu+vx*2^r%18446744073709551616:Nat):Int):=by
  rw[kr,u64_or_nat _ _ (by omega) (Nat.mod_lt _ (by omega)),Nat.or_comm,nat_join r _ _ qN ht,Nat.add_comm]
 have hdc:((vx/2^(64-r):Nat):Int)=(vx:Int)/2^(64-r):=by rw[Int.natCast_ediv,Int.natCast_pow]; rfl
 rw[WG,<-hdc]
 have hlo:vu+vx*2^r%18446744073709551616<18446744073709551616:=by
  -- the low part is a PS of 2^r below 2^64
  have hl:vx*2^r%18446744073709551616<18446744073709551616:=Nat.mod_lt _ (by omega)
  obtain⟨t,ht'⟩:∃t,vx*2^r%18446744073709551616=t*2^r:=⟨vx*2^r%18446744073709551616/2^r,by
   have:=Nat.div_add_mod (vx*2^r%18446744073709551616) (2^r)
   rw[qN,Nat.mul_comm]at this; omega⟩
  rw[ht']at hl ⊢
  rw[<-hpq]at hl ⊢
  have hlt:t<2^(64-r):=Nat.lt_of_mul_lt_mul_right hl
  have:(t+1)*2^r<=2^(64-r)*2^r:=Nat.mul_le_mul_right _ hlt
  rw[Nat.add_mul,Nat.one_mul]at this
  omega
 have h1:=rH (b:=b64) hu (vu+vx*2^r%18446744073709551616)
 have SJ:(o.set (i+d) (vu+vx*2^r%18446744073709551616))[i+d+1]?=some 0:=by
  rw[List.getElem?_set_ne (by omega),List.getElem?_eq_getElem (by omega)]
  have:=hz (i+d+1) (Nat.le_refl _)
  rw[List.getD_eq_getElem?_getD,List.getElem?_eq_getElem (by omega)]at this
  simpa using this
 have h2:=rH (b:=b64) SJ (vx/2^(64-r))
 refine⟨(o.set (i+d) (vu+vx*2^r%18446744073709551616)).set (i+d+1) (vx/2^(64-r)),by simp[ek],(jC.set (by unfold b64; exact hlo)).set (by unfold b64; omega),((hr.set _ _).set _ _).drew,((hbl.setCell hg _).setCell hg _).drew,?_,?_,?_⟩
 ·intro p QC
  rw[getD_set_ne (by omega),getD_set_ne (by omega)]
  exact hz p (by omega)
 ·rw[show i+1+d=i+d+1 by omega,qq (by simp; omega)]
  exact hhi
 ·rw[bR hx,Nat.add_mul,<-hval]
  have e3:b64^i*vx*2^k=b64^(i+d)*(vx*2^r):=by
   have e:2^k=b64^d*2^r:=by rw[hk,Nat.pow_add,iL,<-Nat.pow_mul]
   rw[e,Nat.pow_add,Nat.mul_assoc,Nat.mul_assoc]
   congr 1
   rw[Nat.mul_left_comm]
  have e5:b64^(i+d)*(vx*2^r)=b64^(i+d)*(18446744073709551616*(vx/2^(64-r)))+b64^(i+d)*(vx*2^r%18446744073709551616):=by
   rw[<-Nat.mul_add,Nz]
  have e4:b64^(i+d+1)*(vx/2^(64-r))=b64^(i+d)*(18446744073709551616*(vx/2^(64-r))):=by
   rw[Nat.pow_succ,Nat.mul_assoc]; rfl
  rw[e3,e5,<-e4]
  rw[Nat.mul_add]at h1
  rw[Nat.mul_zero,Nat.add_zero]at h2
  omega
theorem yR (w:World) (v1:Value) (m k:Nat) (h1:cI .u64 b64 w v1 m) {j:Nat} (hj:Bd j m) (gg:j<=1000000000) (nD:k<=1000000000):
  Calls Tryz.prog 98 #[v1,.int .i64 (k:Int)] w (jc .u64 b64 w (m*2^k)):=by
 by_cases h0:k=0\/m=0
 ·have g1:=h1
  obtain⟨A,c,rfl,ha⟩:=h1
  have he:m*2^k=m:=by rcases h0 with rfl|rfl<;>simp
  rw[he]
  by_cases hm:m=0
  ·subst hm
   rw[bk]at g1 ⊢
   rw[List.length_nil]at *
   go_enter Tryz.func98,Tryz.ntmps98
   go_wp2
   go_ret
   exact⟨_,rfl,g1,Below.refl _ _⟩
  ·have lZ:k=0:=by omega
   subst lZ
   have hpos:=(aX ak).2 (show 0<m by omega)
   have hb:(((af b64 m).length:Int)==0)=false:=beq_eq_false_iff_ne.2 (by omega)
   go_enter Tryz.func98,Tryz.ntmps98
   go_wp2
   go_ret
   exact⟨_,rfl,g1,Below.refl _ _⟩
 ·have hm:0<m:=by omega
  have hk:0<k:=by omega
  clear h0
  obtain⟨A,c,rfl,ha⟩:=h1
  have hla:=ot hj
  have Cs:=bM ak m
  have wa:=cS ak m
  have hpos:=(aX ak).2 hm
  clear hj
  generalize af b64 m=a at *
  have VA:=Lib.hid Cs
  clear Cs
  have hlen:a.length<=100000000:=by omega
  clear hla
  obtain⟨d,r,hd,hr,bS⟩:∃d r,k/64=d/\k%64=r/\k=64*d+r:=⟨k/64,k%64,rfl,rfl,by omega⟩
  have hr1:(r:Int)<64:=by omega
  have Wl:(k:Int)/64=(d:Int):=by omega
  have Sa:(k:Int)%64=(r:Int):=by omega
  have uV:(d:Int)<=100000000:=by omega
  have HK:=Lib.hid bS
  clear hd hr bS
  have hb:((a.length:Int)==0)=false:=beq_eq_false_iff_ne.2 (by omega)
  have hb2:((k:Int)==0)=false:=beq_eq_false_iff_ne.2 (by omega)
  go_enter Tryz.func98,Tryz.ntmps98
  go_wp2_with (at_make; refine eP _ rfl _ _ _ rfl .u64 86 Tryz.underlying45 jf _ _ rfl rfl (by omega) (by omega) (by omega) ?_; intro w1 hrow gH hsz)
  rw[show((a.length:Int)+(d:Int)+1).toNat=a.length+d+1 by omega]at hrow
  go_loopw [25] (λM9 wr=>∃(i:Nat) (o:List Nat),i<=a.length/\M9=.int .i64 i/\o.length=a.length+d+1/\Wf b64 o/\Row wr .u64 86 w.heap.size o/\Below w.heap.size w wr/\(∀p,i+d+1<=p->o.getD p 0=0)/\o.getD (i+d) 0<2^r/\val b64 o=val b64 (a.take i)*2^k)
   (λM9 _=>a.length-(RowKit.intOf M9).toNat)
  case atStart=>exact⟨0,List.replicate (a.length+d+1) 0,by omega,rfl,by simp,Wf.replicate (by unfold b64; omega) _,hrow,gH,λp _=>kW _ _,by rw[kW]; exact Nat.two_pow_pos _,by rw[mH]; simp[val]⟩
  case round=>
   obtain⟨i,o,hi,rfl,ek,jC,hr,hbl,hz,FF,hval⟩:=hrel
   have eY:=Lib.hid hval
   have gn:=Lib.hid ek
   have HZ:=Lib.hid hz
   have HT:=Lib.hid FF
   clear hval ek hz FF hrow gH hsz
   by_cases hlt:i<a.length
   ·obtain⟨bx,ox,vx,rfl,Hx,ue⟩:=(ha.below hbl).get hlt
    obtain⟨vu,yA,Ia⟩:=hr.get (i:=i+d) (by have:=gn.out; omega)
    obtain⟨vt,hct,HVT⟩:=hr.get (i:=i+d+1) (by have:=gn.out; omega)
    have Cm:=hr.frozen (i+d)
    have V9:=hr.frozen (i+d+1)
    have e1:(0:Int)<=(i:Int)+(d:Int):=by omega
    have e2:(i:Int)+(d:Int)<(a.length:Int)+(d:Int)+1:=by omega
    have e3:(0:Int)<=(r:Int):=by omega
    go_wp2
    go_region
    all_goals go_wp2
    all_goals
     go_roundw
     case rel=>
      obtain⟨o2,f1,f2,f3,r2⟩:=AY (N:=a.length+d+1) (by omega) hlt rfl gn.out wa jC hr (Nat.le_refl _) hbl HZ.out HT.out eY.out ue.out Ia.out HK.out
      exact⟨i+1,o2,by omega,by go_num,f1,f2,f3,r2⟩
     case measure=>simp[RowKit.intOf]; omega
   ·obtain rfl:i=a.length:=by omega
    have HF:Hid (val b64 o=m*2^k):=by
     have h:=eY.out
     rw[List.take_length,VA.out]at h
     exact h
    have hrd:=hr.iE (c:=a.length+d+1) (by have:=gn.out; omega) (by unfold maxLen; omega)
    go_wp2_with fail
    refine(gP _ _ _ o _ hrd jC _ gn.out HF.out).mono ?_
    rintro e w' ⟨rfl,v,rfl,hv⟩
    go_wp2
    go_ret
    exact⟨v,rfl,hv,hbl⟩
end Wx

namespace Wx
set_option maxHeartbeats 1000000
open Go Go.RowKit Go.Proofs
variable {x r:Nat}
theorem zD {y:Nat} (hx:x<b64) (hr:r<64):
  bits BinOp.or .u64 ((x:Int)/2^r) (IntKind.u64.wrap ((y:Int)*2^(64-r)))=((x/2^r+y%2^r*2^(64-r):Nat):Int)/\x/2^r+y%2^r*2^(64-r)<b64 /\
  (x/2^r+y%2^r*2^(64-r))*2^r+x%2^r=x+b64*(y%2^r):=by
 have hp:0<2^r:=Nat.two_pow_pos r
 have hpq:2^(64-r)*2^r=b64:=by rw[iL,<-Nat.pow_add,show 64-r+r=64 by omega]
 have hq:0<2^(64-r):=Nat.two_pow_pos _
 have hlo:x/2^r<2^(64-r):=by rw[Nat.div_lt_iff_lt_mul hp,hpq]; exact hx
 have qN:y*2^(64-r)%b64=y%2^r*2^(64-r):=by
  rw[<-hpq,Nat.mul_comm (2^(64-r)) (2^r),Nat.mul_mod_mul_right]
 have WW:y%2^r<2^r:=Nat.mod_lt _ hp
 have PA:x/2^r+y%2^r*2^(64-r)<b64:=by
  have:(y%2^r+1)*2^(64-r)<=2^r*2^(64-r):=Nat.mul_le_mul_right _ WW
  rw[Nat.add_mul,Nat.one_mul,Nat.mul_comm (2^r),hpq]at this
  omega
 refine⟨?_,PA,?_⟩
 ·have hdc:((x/2^r:Nat):Int)=(x:Int)/2^r:=by rw[Int.natCast_ediv,Int.natCast_pow]; rfl
  rw[<-hdc,kr]
  have e:y*2^(64-r)%18446744073709551616=y%2^r*2^(64-r):=by rw[<-qN]; rfl
  rw[e,u64_or_nat _ _ (by have:=Nat.div_le_self x (2^r); unfold b64 at hx; omega) (by unfold b64 at PA; omega),Nat.or_comm,nat_join (64-r) _ _ (Nat.mul_mod_left _ _) hlo,Nat.add_comm]
 ·rw[Nat.add_mul,Nat.mul_assoc,hpq]
  have:=Nat.div_add_mod x (2^r)
  rw[Nat.mul_comm]at this
  rw[Nat.mul_comm b64]
  omega
theorem tH (hx:x<b64):((x:Int)/2^r)=((x/2^r:Nat):Int)/\x/2^r<b64/\x/2^r*2^r+x%2^r=x:=by
 refine⟨by rw[Int.natCast_ediv,Int.natCast_pow]; rfl,Nat.lt_of_le_of_lt (Nat.div_le_self _ _) hx,?_⟩
 have:=Nat.div_add_mod x (2^r)
 rw[Nat.mul_comm]at this
 omega
variable {a:List Nat} {i:Nat}
theorem jP {d:Nat} (h:a[d+i]?=some x):(a.drop d).getD i 0=x:=by
 rw[List.getD_eq_getElem?_getD,List.getElem?_drop,h]; rfl
theorem tI {o:List Nat} {s z:Nat} (ek:i<o.length) (hval:val b64 (o.take i)*2^r+z=val b64 (a.take i)+b64^i*(a.getD i 0%2^r)) (hs:s*2^r+a.getD i 0%2^r=a.getD i 0+b64*(a.getD (i+1) 0%2^r)):
  val b64 ((o.set i s).take (i+1))*2^r+z=val b64 (a.take (i+1))+b64^(i+1)*(a.getD (i+1) 0%2^r):=by
 rw[iO,List.take_set_of_le (Nat.le_refl _),qq ek,iO,Nat.add_mul,Nat.pow_succ]
 have e:b64^i*(s*2^r+a.getD i 0%2^r)=b64^i*(a.getD i 0+b64*(a.getD (i+1) 0%2^r)):=by rw[hs]
 rw[Nat.mul_add,Nat.mul_add,<-Nat.mul_assoc,<-Nat.mul_assoc]at e
 omega
theorem Eb (w:World) (v1:Value) (m k:Nat) (h1:cI .u64 b64 w v1 m) {j:Nat} (hj:Bd j m) (gg:j<=1000000000) (nD:k<=1000000000):
  Calls Tryz.prog 100 #[v1,.int .i64 (k:Int)] w (jc .u64 b64 w (m/2^k)):=by
 obtain⟨A,c,rfl,ha⟩:=h1
 have hla:=ot hj
 have Cs:=bM ak m
 have wa:=cS ak m
 have Ml:=lp ak m
 clear hj
 generalize af b64 m=a at *
 have hlen:a.length<=100000000:=by omega
 clear hla
 obtain⟨d,r,hd,hr,bS⟩:∃d r,k/64=d/\k%64=r/\k=64*d+r:=⟨k/64,k%64,rfl,rfl,by omega⟩
 have hr1:(r:Int)<64:=by omega
 have QE:r<64:=by omega
 have Wl:(k:Int)/64=(d:Int):=by omega
 have Sa:(k:Int)%64=(r:Int):=by omega
 have uV:(d:Int)<=100000000:=by omega
 by_cases hge:a.length<=d
 ·have h0:m/2^k=0:=by
   rw[Nat.div_eq_zero_iff]
   right
   refine Nat.lt_of_lt_of_le Ml ?_
   rw[iL,<-Nat.pow_mul]
   exact Nat.pow_le_pow_right (by omega) (by omega)
  rw[h0]
  have Sj:(a.length:Int)<=(d:Int):=by omega
  clear hd hr bS h0 Cs Ml
  go_enter Tryz.func100,Tryz.ntmps100
  go_wp2
  go_ret
  exact⟨_,rfl,cI.zero _ _ _,Below.refl _ _⟩
 ·have VA:Hid (val b64 (a.drop d)/2^r=m/2^k):=by
   show _=_
   rw[bS,Nat.pow_add,<-Nat.div_div_eq_div_mul,<-Cs]
   congr 1
   have h:=bQ b64 a d (by omega)
   have hl:=ji (wa.take d)
   rw[List.length_take,Nat.min_eq_left (by omega)]at hl
   have e:2^(64*d)=b64^d:=by rw[iL,<-Nat.pow_mul]
   rw[e,h,Nat.add_mul_div_left _ _ (Nat.pow_pos (by unfold b64; omega)),Nat.div_eq_of_lt hl,Nat.zero_add]
  have Sj:¬((a.length:Int)<=(d:Int)):=by omega
  clear hd hr bS Cs Ml
  go_enter Tryz.func100,Tryz.ntmps100
  go_wp2_with (at_make; refine eP _ rfl _ _ _ rfl .u64 86 Tryz.underlying45 jf _ _ rfl rfl (by omega) (by omega) (by omega) ?_; intro w1 hrow gH hsz)
  rw[show((a.length:Int)-(d:Int)).toNat=a.length-d by omega]at hrow
  go_loopw [20] (λTk wr=>∃(i:Nat) (o:List Nat),i<=a.length-d/\Tk=.int .i64 i/\o.length=a.length-d/\Wf b64 o/\Row wr .u64 86 w.heap.size o/\Below w.heap.size w wr /\
    val b64 (o.take i)*2^r+(a.drop d).getD 0 0%2^r=val b64 ((a.drop d).take i)+b64^i*((a.drop d).getD i 0%2^r))
   (λTk _=>a.length-(RowKit.intOf Tk).toNat)
  case atStart=>exact⟨0,List.replicate (a.length-d) 0,by omega,rfl,by simp,Wf.replicate (by unfold b64; omega) _,hrow,gH,by simp[val]⟩
  case round=>
   obtain⟨i,o,hi,rfl,ek,jC,hr,hbl,hval⟩:=hrel
   have eY:=Lib.hid hval
   have gn:=Lib.hid ek
   clear hval ek hrow gH hsz
   by_cases hlt:i<a.length-d
   ·obtain⟨bx,ox,vx,rfl,Hx,ue⟩:=(ha.below hbl).get (i:=i+d) (by omega)
    obtain⟨vo,Hv,Ka⟩:=hr.get (i:=i) (by have:=gn.out; omega)
    have Cm:=hr.frozen i
    have qw:vx<b64:=wa _ (List.mem_of_getElem? ue.out)
    have Nt:=Lib.hid qw
    clear qw
    have e1:(i:Int)<((a.length-d:Nat):Int):=by omega
    have e2:(i:Int)+(d:Int)<(a.length:Int):=by omega
    have e3:(0:Int)<=(r:Int):=by omega
    have e4:(0:Int)<=(i:Int):=by omega
    by_cases Sw:i+d+1<a.length
    ·obtain⟨Rh,oy,vy,RS,Qx,Ib⟩:=(ha.below hbl).get (i:=i+d+1) Sw
     injection RS with RS
     injection RS with RT RU
     subst RT RU
     have e5:(i:Int)+(d:Int)+1<(a.length:Int):=by omega
     go_wp2
     go_region
     all_goals go_wp2
     all_goals
      go_roundw
      case rel=>
       obtain⟨f1,f2,f3⟩:=zD (x:=vx) (y:=vy) Nt.out QE
       rw[f1,(tH (r:=r) Nt.out).1]
       have hR:=((hr.set i (vx/2^r)).set i (vx/2^r+vy%2^r*2^(64-r))).drew
       rw[List.set_set]at hR
       refine⟨i+1,o.set i (vx/2^r+vy%2^r*2^(64-r)),by omega,by go_num,by rw[List.length_set]; exact gn.out,jC.set f2,hR,((hbl.setCell (Nat.le_refl _) _).setCell (Nat.le_refl _) _).drew,?_⟩
       refine tI (by have:=gn.out; omega) eY.out ?_
       rw[jP (i:=i) (by rw[Nat.add_comm]; exact ue.out),jP (i:=i+1) (by rw[show d+(i+1)=i+d+1 by omega]; exact Ib.out)]
       exact f3
      case measure=>simp[RowKit.intOf]; omega
    ·have e5:¬((i:Int)+(d:Int)+1<(a.length:Int)):=by omega
     go_wp2
     go_roundw
     case rel=>
      obtain⟨f1,f2,f3⟩:=tH (x:=vx) (r:=r) Nt.out
      rw[f1]
      refine⟨i+1,o.set i (vx/2^r),by omega,by go_num,by rw[List.length_set]; exact gn.out,jC.set f2,hr.set _ _,hbl.setCell (Nat.le_refl _) _,?_⟩
      refine tI (by have:=gn.out; omega) eY.out ?_
      have hz:(a.drop d).getD (i+1) 0=0:=by rw[List.getD_eq_getElem?_getD,List.getElem?_eq_none (by simp; omega)]; rfl
      rw[jP (i:=i) (by rw[Nat.add_comm]; exact ue.out),hz,Nat.zero_mod,Nat.mul_zero,Nat.add_zero]
      exact f3
     case measure=>simp[RowKit.intOf]; omega
   ·obtain rfl:i=a.length-d:=by omega
    have HF:Hid (val b64 o=m/2^k):=by
     show _=_
     rw[<-VA.out]
     have h:=eY.out
     have hz:(a.drop d).getD (a.length-d) 0=0:=by rw[List.getD_eq_getElem?_getD,List.getElem?_eq_none (by simp)]; rfl
     rw[List.take_of_length_le (l:=a.drop d) (by rw[List.length_drop]; omega),List.take_of_length_le (l:=o) (by have:=gn.out; omega),hz,Nat.zero_mod,Nat.mul_zero,Nat.add_zero]at h
     rw[<-h,Nat.mul_comm,Nat.mul_add_div (Nat.two_pow_pos r),Nat.div_eq_of_lt (Nat.mod_lt _ (Nat.two_pow_pos r)),Nat.add_zero]
    have hrd:=hr.iE (c:=a.length-d) (by have:=gn.out; omega) (by unfold maxLen; omega)
    go_wp2_with fail
    refine(gP _ _ _ o _ hrd jC _ gn.out HF.out).mono ?_
    rintro e w' ⟨rfl,v,rfl,hv⟩
    go_wp2
    go_ret
    exact⟨v,rfl,hv,hbl⟩
end Wx

namespace Wx
set_option maxHeartbeats 1000000
open Go Go.RowKit Go.Proofs
variable {o:List Nat} {j x:Nat}
theorem mD (h:j<o.length):(o.set j x).drop j=x::o.drop (j+1):=by
 rw[List.drop_eq_getElem_cons (by simpa using h),List.getElem_set_self,kR (by omega)]
theorem uj (h:o[j]?=some x):o.drop j=x::o.drop (j+1):=by
 obtain⟨h1,rfl⟩:=List.getElem?_eq_some_iff.1 h
 exact List.drop_eq_getElem_cons h1
variable {d q r:Nat}
theorem xN {b rest A O:Nat} (h1:A=O*d+rest) (h2:q*d+r=rest*b+x):x+b*A=(q+b*O)*d+r:=by
 rw[h1,Nat.add_mul,Nat.mul_add,Nat.mul_comm b rest,Nat.mul_assoc]
 omega
theorem sq {m:Nat} (h:m=q*d+r) (hr:r<d):m/d=q/\m%d=r:=by
 subst h
 rw[Nat.mul_comm,Nat.mul_add_div (by omega),Nat.mul_add_mod,Nat.div_eq_of_lt hr,Nat.mod_eq_of_lt hr]
 exact⟨rfl,rfl⟩
def Ih (w:World) (q r:Nat) (e:Ending) (w':World):Prop:=∃v,e=.returned (.tuple #[v,.int .u64 (r:Int)])/\cI .u64 b64 w' v q/\Below w.heap.size w w'
def EI (w:World) (q r:Nat) (e:Ending) (w':World):Prop:=∃n c,e=.returned (.tuple #[.slice (some ⟨w.heap.size,0,none⟩) n c,.int .u64 (r:Int)])/\cI .u64 b64 w' (.slice (some ⟨w.heap.size,0,none⟩) n c) q/\Below w.heap.size w w'
theorem E7 (w:World) (A:Option Addr) (c:Nat) (l:List Nat) (n:Nat) (h:Rd w .u64 A c l) (hw:Wf b64 l) (L:Nat) (hL:l.length=L) (hn:val b64 l=n):
  Calls Tryz.prog 75 #[.slice A L c] w λe w'=>w=w'/\∃k,e=.returned (.slice A k c)/\cI .u64 b64 w (.slice A k c) n:=by
 subst hL
 refine(Cc w A c l h).mono λe w' ⟨k,hk,he,hw',ht,hv⟩=>⟨hw',_,he,?_⟩
 rw[<-hn,<-hv b64]
 exact cI.of ak (h.take k) (by rw[List.length_take]; omega) (hw.take k) ht
theorem qj (w:World) (v1:Value) (m d:Nat) (h1:cI .u64 b64 w v1 m) {j:Nat} (hj:Bd j m) (gg:j<=1000000000) (hd:0<d) (uV:d<b64):
  Calls Tryz.prog 59 #[v1,.int .u64 (d:Int)] w (EI w (m/d) (m%d)):=by
 obtain⟨A,c,rfl,ha⟩:=h1
 have hla:=ot hj
 have Cs:=bM ak m
 have wa:=cS ak m
 clear hj
 generalize af b64 m=a at *
 have VA:=Lib.hid Cs
 have vP:=Lib.hid uV
 clear Cs uV
 go_enter Tryz.func59,Tryz.ntmps59
 go_wp2_with (at_make; refine eP _ rfl _ _ _ rfl .u64 86 Tryz.underlying45 jf _ _ rfl rfl (by omega) (by omega) (by omega) ?_; intro w1 hrow gH hsz)
 rw[Int.toNat_natCast]at hrow
 go_loopw [7,8] (λs7 s8 wr=>∃(i rest:Nat) (o:List Nat),i<=a.length/\s8=.int .i64 ((i:Int)-1)/\s7=.int .u64 (rest:Int)/\rest<d/\o.length=a.length/\Wf b64 o/\Row wr .u64 86 w.heap.size o/\Below w.heap.size w wr/\val b64 (a.drop i)=val b64 (o.drop i)*d+rest)
  (λ_ s8 _=>(RowKit.intOf s8+1).toNat)
 case atStart=>exact⟨a.length,0,List.replicate a.length 0,by omega,rfl,rfl,hd,by simp,Wf.replicate (by unfold b64; omega) _,hrow,gH,by rw[List.drop_of_length_le (by omega),List.drop_of_length_le (by simp)]; simp[val]⟩
 case round=>
  obtain⟨i,rest,o,hi,rfl,rfl,hrd,ek,jC,hr,hbl,hval⟩:=hrel
  have eY:=Lib.hid hval
  have gn:=Lib.hid ek
  have QZ:=Lib.hid hrd
  clear hval ek hrow gH hsz hrd
  rcases Nat.eq_zero_or_pos i with rfl|hpos
  ·rw[show(((0:Nat):Int)-1) = -1 by omega]
   have h:=eY.out
   rw[List.drop_zero,List.drop_zero,VA.out]at h
   obtain⟨e1,e2⟩:=sq h QZ.out
   have HF:=Lib.hid e1.symm
   have HG:=Lib.hid e2.symm
   clear h e1 e2
   have hrd:=hr.iE (c:=a.length) (by have:=gn.out; omega) (by unfold maxLen; omega)
   go_wp2_with fail
   refine(E7 _ _ _ o (m/d) hrd jC _ gn.out HF.out).mono ?_
   rintro e w' ⟨rfl,kn,rfl,hv⟩
   go_wp2
   rw[HG.out]
   go_ret2
   exact⟨_,_,rfl,hv,hbl⟩
  ·obtain⟨k,rfl⟩:∃k,i=k+1:=⟨i-1,by omega⟩
   rw[show(((k+1:Nat):Int)-1)=(k:Int) by omega]
   obtain⟨bx,ox,vx,rfl,Hx,ue⟩:=(ha.below hbl).get (i:=k) (by omega)
   obtain⟨vo,Hv,Ka⟩:=hr.get (i:=k) (by have:=gn.out; omega)
   have Cm:=hr.frozen k
   have Nt:Hid (vx<b64):=wa _ (List.mem_of_getElem? ue.out)
   have lZ:(0:Int)<=(k:Int):=by omega
   have nD:(k:Int)<(a.length:Int):=by omega
   go_wp2_with fail
   refine(Dj _ rest vx d Nt.out vP.out QZ.out).mono ?_
   rintro e w2 ⟨rfl,hb2⟩
   obtain⟨f1,f2,f3⟩:=Cg Nt.out QZ.out
   have F1:=Lib.hid f1
   have F2:=Lib.hid f2
   have F3:=Lib.hid f3
   clear f1 f2 f3
   have hr2:=hr.keep hb2
   obtain⟨vo2,Wc,Vl⟩:=hr2.get (i:=k) (by have:=gn.out; omega)
   have Wa:=hr2.frozen k
   have RX:=hbl.trans (hb2.mono hbl.size)
   clear hb2 Hv Cm Hx
   go_wp2
   go_roundw
   case rel=>
    refine⟨k,_,o.set k (dvQ rest vx d),by omega,by go_num,rfl,F2.out,by rw[List.length_set]; exact gn.out,jC.set F3.out,hr2.set _ _,RX.setCell (Nat.le_refl _) _,?_⟩
    rw[mD (by have:=gn.out; omega),uj ue.out,tR,tR]
    exact xN eY.out F1.out
   case measure=>simp[RowKit.intOf]
theorem Ai (w:World) (v1:Value) (m d:Nat) (h1:cI .u64 b64 w v1 m) {j:Nat} (hj:Bd j m) (gg:j<=1000000000) (hd:0<d) (uV:d<b64):
  Calls Tryz.prog 59 #[v1,.int .u64 (d:Int)] w (Ih w (m/d) (m%d)):=
 (qj w v1 m d h1 hj gg hd uV).mono λ_ _ ⟨_,_,he,hn,hb⟩=>⟨_,he,hn,hb⟩
end Wx

namespace Wx
set_option maxHeartbeats 1000000
open Go Go.RowKit Go.Proofs
theorem cI.one {k:IntKind} {w:World} {v:Value} {n:Nat} (h:cI k b64 w v n) (h0:0<n) (h1:n<b64):∃b o c,v=.slice (some ⟨b,o,none⟩) 1 c/\w.cell? ⟨b,o,none⟩=some (.int k (n:Int)):=by
 obtain⟨A,c,rfl,hr⟩:=h
 rw[sk ak h0 h1]at hr ⊢
 obtain⟨b,o,rfl,hc⟩:=hr.at_ (i:=0) (by simp)
 exact⟨b,o,c,rfl,by simpa using hc⟩
theorem Ej (w:World) (v1 v2:Value) (m n:Nat) (h1:cI .u64 b64 w v1 m) (h2:cI .u64 b64 w v2 n) (hm:m<b64) (hn:n<b64) (h0:0<n):
  Calls Tryz.prog 96 #[v1,v2] w (eZ w (.int .u64 (Nat.gcd m n:Nat))):=by
 obtain⟨bn,on,cn,rfl,Qw⟩:=h2.one h0 hn
 have HM:=Lib.hid hm
 have HN:=Lib.hid hn
 clear hm hn h2
 obtain⟨G,hG⟩:∃G,G=Nat.gcd m n:=⟨_,rfl⟩
 rw[<-hG]
 have hx:=Lib.hid hG
 clear hG
 have key:∀(A:Option Addr) (L c:Nat),((L=0/\m=0)\/(L=1/\0<m/\∃b o,A=some ⟨b,o,none⟩/\w.cell? ⟨b,o,none⟩=some (.int .u64 (m:Int)))) ->
   Calls Tryz.prog 96 #[.slice A L c,.slice (some ⟨bn,on,none⟩) 1 cn] w (eZ w (.int .u64 (G:Int))):=by
  intro A L c hL
  rcases hL with⟨rfl,rfl⟩|⟨rfl,hm0,b,o,rfl,hc⟩
  all_goals
   go_enter Tryz.func96,Tryz.ntmps96
   go_wp2_with fail
   go_loopw [5,6] (λs5 s6 wr=>∃x y:Nat,s5=.int .u64 (x:Int)/\s6=.int .u64 (y:Int)/\Hid (G=Nat.gcd x y)/\∃q,wr=w.drewN q) (λ_ s6 _=>(RowKit.intOf s6).toNat)
   case atStart=>exact⟨_,_,rfl,rfl,hx,0,rfl⟩
   case round=>
    obtain⟨x,y,rfl,rfl,HG,q,rfl⟩:=hrel
    rcases Nat.eq_zero_or_pos y with rfl|hy
    ·go_wp2
     go_ret
     refine⟨mh ?_,below_drewN (Below.refl _ _) _⟩
     rw[HG.out,Nat.gcd_zero_right]
    ·have wH:(1:Int)<=(y:Int):=by omega
     have hb:((y:Int)==0)=false:=beq_eq_false_iff_ne.2 (by omega)
     go_wp2
     go_quiet (fail)
     go_wp2
     go_roundw
     case rel=>exact⟨y,x%y,rfl,by rw[Int.natCast_emod],by show _=_; rw[HG.out,Nat.gcd_comm x y,Nat.gcd_rec y x,Nat.gcd_comm],_,World.drewN_drewN _ _ _⟩
     case measure=>simp[RowKit.intOf]; rw[<-Int.natCast_emod]; have:=Nat.mod_lt x hy; omega
 rcases Nat.eq_zero_or_pos m with rfl|hm0
 ·obtain⟨A,c,rfl,_⟩:=h1
  exact key A _ c (.inl ⟨by rw[bk]; rfl,rfl⟩)
 ·obtain⟨b,o,c,rfl,hc⟩:=h1.one hm0 HM.out
  exact key _ 1 c (.inr ⟨rfl,hm0,b,o,rfl,hc⟩)
end Wx
