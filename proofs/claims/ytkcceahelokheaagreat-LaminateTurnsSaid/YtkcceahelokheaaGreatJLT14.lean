import Derived.Test.YtkcceahelokheaaGreatJLT13
namespace Wx
set_option maxRecDepth 100000
set_option maxHeartbeats 1000000
open Go Go.RowKit Go.Proofs
@[irreducible] def npLo (x y u c : Nat) : Nat := (u + c + x * y) % 4294967296
@[irreducible] def npHi (x y u c : Nat) : Nat := (u + c + x * y) / 4294967296
theorem Sh (x y u c:Nat):npLo x y u c+aP*npHi x y u c=x*y+u+c:=by unfold npLo npHi aP; omega
theorem Sg (x y u c:Nat):npLo x y u c<aP:=by unfold npLo aP; omega
variable {c:Nat}
theorem Kw {x y u:Nat} (hx:x<aP) (hy:y<aP) (hu:u<aP) (hc:c<aP):npHi x y u c<aP/\u+c+x*y<18446744073709551616:=by
 have hxy:x*y<=4294967295*4294967295:=Nat.mul_le_mul (by unfold aP at hx; omega) (by unfold aP at hy; omega)
 unfold aP npHi at *
 omega
variable {w0 wr:World} {g:Nat} {o b:List Nat} {i k vx vy vu s N:Nat}
theorem FD (hk:k<b.length) (hc:c<aP) (dB:o.length=N) (gS:Wf aP o) (hx:vx<aP) (hy:vy<aP) (hu:vu<aP)
  (hr:Row wr .u32 270 g o) (hg:w0.heap.size<=g) (hbl:Below w0.heap.size w0 wr) (hz:∀p,i+b.length+1<=p->o.getD p 0=0) (hz0:o.getD (i+b.length) 0=0) (hval:val aP o+aP^(i+k)*c=s+aP^i*(vx*val aP (b.take k)))
  (HU:o[i+k]?=some vu) (HY:b[k]?=some vy):
  ∃(o':List Nat),npHi vx vy vu c<aP/\o'.length=N/\Wf aP o' /\
   Row (wr.setCell ⟨g,i+k,none⟩ (.int .u32 (npLo vx vy vu c:Nat))) .u32 270 g o'/\Below w0.heap.size w0 (wr.setCell ⟨g,i+k,none⟩ (.int .u32 (npLo vx vy vu c:Nat))) /\
   (∀p,i+b.length+1<=p->o'.getD p 0=0)/\o'.getD (i+b.length) 0=0/\val aP o'+aP^(i+(k+1))*npHi vx vy vu c=s+aP^i*(vx*val aP (b.take (k+1))):=by
 refine⟨o.set (i+k) (npLo vx vy vu c),(Kw hx hy hu hc).1,by simp[dB],gS.set (Sg _ _ _ _),hr.set _ _,hbl.setCell hg _,?_,?_,Fy hval HU HY (Sh _ _ _ _)⟩
 ·intro p hp
  rw[getD_set_ne (by omega)]; exact hz p hp
 ·rw[getD_set_ne (by omega)]; exact hz0
theorem FC (hc:c<aP) (hN:i+b.length<N) (dB:o.length=N) (gS:Wf aP o)
  (hr:Row wr .u32 270 g o) (hg:w0.heap.size<=g) (hbl:Below w0.heap.size w0 wr) (hz:∀p,i+b.length+1<=p->o.getD p 0=0) (hz0:o.getD (i+b.length) 0=0) (hval:val aP o+aP^(i+b.length)*c=s+aP^i*(vx*val aP (b.take b.length))):
  ∃(o':List Nat),o'.length=N/\Wf aP o' /\
   Row (wr.setCell ⟨g,i+b.length,none⟩ (.int .u32 (c:Nat))) .u32 270 g o'/\Below w0.heap.size w0 (wr.setCell ⟨g,i+b.length,none⟩ (.int .u32 (c:Nat))) /\
   (∀p,i+b.length+1<=p->o'.getD p 0=0)/\val aP o'+aP^(i+(b.length+1))*0=s+aP^i*(vx*val aP (b.take (b.length+1))):=by
 refine⟨o.set (i+b.length) c,by simp[dB],gS.set hc,hr.set _ _,hbl.setCell hg _,λp hp=>by rw[getD_set_ne (by omega)]; exact hz p hp,?_⟩
 have hu:o[i+b.length]?=some 0:=by
  rw[List.getD_eq_getElem?_getD,List.getElem?_eq_getElem (by omega)]at hz0
  rw[List.getElem?_eq_getElem (by omega)]
  simpa using hz0
 have h1:=r8 (b:=aP) hu c
 rw[Nat.mul_zero,Nat.add_zero]at h1
 rw[h1,hval,Nat.mul_zero,Nat.add_zero,List.take_length,List.take_of_length_le (by omega)]
theorem B6 {b:Nat} {o0 x y:List Nat} {n:Nat} (hk:y.length<=k) (hval:val b o+b^(i+k)*0=val b o0+b^i*(vx*val b (y.take k))) (h0:val b o0=val b (x.take i)*n) (hb:val b y=n) (hx:x[i]?=some vx):
  val b o=val b (x.take (i+1))*n:=by
 rw[Nat.mul_zero,Nat.add_zero,List.take_of_length_le hk,hb]at hval
 rw[hval,h0,cS hx,Nat.add_mul,Nat.mul_assoc]
theorem VY (hx:vx<aP) (hy:vy<aP) (hu:vu<aP) (hc:c<aP):
  IntKind.u64.wrap ((IntKind.u64.wrap ((vu:Int)+(c:Int)+IntKind.u64.wrap ((vx:Int)*(vy:Int)))).tdiv 4294967296)=((npHi vx vy vu c:Nat):Int) /\
  (IntKind.u64.wrap ((vu:Int)+(c:Int)+IntKind.u64.wrap ((vx:Int)*(vy:Int)))).tmod 4294967296%4294967296=((npLo vx vy vu c:Nat):Int):=by
 obtain⟨h1,h2⟩:=Kw hx hy hu hc
 have e0:IntKind.u64.wrap ((vx:Int)*(vy:Int))=((vx*vy:Nat):Int):=by
  rw[<-Int.natCast_mul,wrap_u64 (by omega) (by omega)]
 have e:(vu:Int)+(c:Int)+((vx*vy:Nat):Int)=((vu+c+vx*vy:Nat):Int):=by omega
 rw[e0,e]
 unfold npLo npHi at *
 generalize vu+c+vx*vy=N at *
 unfold aP at h1
 rw[wrap_u64 (n:=(N:Int)) (by omega) (by omega),Int.tdiv_eq_ediv_of_nonneg (by omega),Int.tmod_eq_emod_of_nonneg (by omega),wrap_u64 (by omega) (by omega)]
 omega
theorem DN (w:World) (v1 v2:Value) (m n:Nat) (h1:bQ .u32 aP w v1 m) (h2:bQ .u32 aP w v2 n) {j k:Nat} (hj:Bd j m) (hk:Bd k n) (fA:j<=1000000000) (ot:k<=1000000000):
  Calls Tryz.prog 204 #[v1,v2] w (xU w (m*n)):=by
 obtain⟨A,c,rfl,ha⟩:=h1
 obtain⟨B,d,rfl,hb⟩:=h2
 have hla:=zE hj
 have hlb:=zE hk
 have zA:=bI aI m
 have VI:=bI aI n
 have wa:=cj aI m
 have wb:=cj aI n
 clear hj hk
 go_enter Tryz.func204,Tryz.ntmps204
 generalize af aP m=a at *
 generalize af aP n=b at *
 have VA:=Lib.hid zA
 have VB:=Lib.hid VI
 clear zA VI
 have acF:a.length<=100000000:=by omega
 have acG:b.length<=100000000:=by omega
 clear hla hlb
 go_wp2_with (at_make; refine en _ rfl _ _ _ rfl .u32 270 Tryz.underlying44 tr _ _ rfl rfl (by omega) (by omega) (by omega) ?_; intro w1 hrow dZ hsz)
 rw[show((a.length:Int)+(b.length:Int)).toNat=a.length+b.length by omega]at hrow
 go_loopw [6] (λs6 wr=>∃(i:Nat) (o:List Nat),i<=a.length/\s6=.int .i64 i/\o.length=a.length+b.length/\Wf aP o/\Row wr .u32 270 w.heap.size o/\Below w.heap.size w wr/\(∀p,i+b.length<=p->o.getD p 0=0)/\val aP o=val aP (a.take i)*n)
  (λs6 _=>a.length-(intOf s6).toNat)
 case atStart=>exact⟨0,List.replicate (a.length+b.length) 0,by omega,rfl,by simp,Wf.replicate (by unfold aP; omega) _,hrow,dZ,λp _=>by simp[List.getD_eq_getElem?_getD,List.getElem?_replicate]; split<;>rfl,by rw[iK]; simp[val]⟩
 case round=>
  obtain⟨i,o,hi,rfl,dB,gS,hr,hbl,hz,hval⟩:=hrel
  have er:=Lib.hid hval
  have fK:=Lib.hid dB
  have HZ:=Lib.hid hz
  clear hval dB hz hrow dZ hsz
  by_cases hlt:i<a.length
  ·obtain⟨gx,ox,vx,rfl,_,pn⟩:=(ha.below hbl).get hlt
   have Tj:=Lib.hid (wa _ (List.mem_of_getElem? pn.out))
   have sF:=iR Tj.out
   have hi0:(0:Int)<=(i:Int):=by omega
   have hi1:(i:Int)<(a.length:Int):=by omega
   go_wp2_with fail
   obtain⟨wo,rfl⟩:∃wo:World,wo=wr:=⟨_,rfl⟩
   go_loopw [7,8] (λs7 s8 wr=>∃(k c:Nat) (o':List Nat),k<=b.length+1/\s8=.int .i64 k/\s7=.int .u64 c/\Bx (c<aP/\(k=b.length+1->c=0))/\Bx (o'.length=a.length+b.length)/\Wf aP o'/\Row wr .u32 270 w.heap.size o'/\Below w.heap.size w wr/\Bx (∀p,i+b.length+1<=p->o'.getD p 0=0)/\Bx (k<=b.length->o'.getD (i+b.length) 0=0)/\Bx (val aP o'+aP^(i+k)*c=val aP o+aP^i*(vx*val aP (b.take k))))
    (λ_ s8 _=>b.length+1-(intOf s8).toNat)
   case atStart=>exact⟨0,0,o,by omega,rfl,rfl,bx ⟨by unfold aP; omega,by omega⟩,bx fK.out,gS,hr,hbl,bx (λp hp=>HZ.out p (by omega)),bx (λ_=>HZ.out _ (Nat.le_refl _)),bx (by simp[val])⟩
   case round=>
    clear hr gS
    obtain⟨k,c,o',hk,rfl,rfl,HC,yG,Dp,hr',AQ,Ux,Z5,yH⟩:=hrel
    have Dg:=((ha.below AQ).at_ hlt)
    by_cases hlk:k<b.length
    ·obtain⟨b1,o1,e1,Dg⟩:=Dg
     injection e1 with e1
     injection e1 with e1 e2
     subst e1 e2
     rw[List.getD_eq_getElem?_getD,pn.out,Option.getD_some]at Dg
     obtain⟨XD,oy,vy,rfl,RI,CE⟩:=(hb.below AQ).get hlk
     obtain⟨vu,yg,JH⟩:=hr'.get (i:=i+k) (by have:=yG.out; omega)
     have AR:=hr'.frozen (i+k)
     have WN:=Lib.hid (wb _ (List.mem_of_getElem? CE.out))
     have Xr:=Lib.hid (Dp _ (List.mem_of_getElem? JH.out))
     have Ki:=iR WN.out
     have Zh:=iR Xr.out
     have hvc:=iR HC.out.1
     have yj:(0:Int)<=(k:Int):=by omega
     have ot:(k:Int)<(b.length:Int):=by omega
     obtain⟨q1,q2⟩:=VY Tj.out WN.out Xr.out HC.out.1
     have Q1:=bx q1
     have Q2:=bx q2
     clear q1 q2
     go_wp2
     go_quiet (fail)
     go_wp2
     rw[Q1.out,Q2.out]
     go_roundw
     case rel=>
      obtain⟨o2,hc2,hl2,LY,hr2,hb2,hz2,hz3,hv2⟩:=FD hlk HC.out.1 yG.out Dp Tj.out WN.out Xr.out (hr'.drewN nq) (Nat.le_refl _) (below_drewN AQ nq) Ux.out (Z5.out (by omega)) yH.out JH.out CE.out
      exact⟨k+1,_,o2,by omega,by go_num,rfl,bx ⟨hc2,λh=>by omega⟩,bx hl2,LY,hr2,hb2,bx hz2,bx (λ_=>hz3),bx hv2⟩
     case measure=>(simp[intOf]; try omega)
    ·clear Dg
     by_cases hkb:k=b.length
     ·subst hkb
      rcases Nat.eq_zero_or_pos c with rfl|hc0
      ·go_wp2
       go_roundw
       case rel=>
        exact⟨i+1,o',by omega,by go_num,yG.out,Dp,hr',AQ,λp hp=>by
         rcases Nat.lt_or_ge p (i+b.length+1)with h|h
         ·have:=Z5.out (Nat.le_refl _)
          omega
         ·exact Ux.out p h,B6 (Nat.le_refl _) yH.out er.out VB.out pn.out⟩
       case measure=>(simp[intOf]; try omega)
      ·obtain⟨vu,yg,JH⟩:=hr'.get (i:=i+b.length) (by have:=yG.out; omega)
       have AR:=hr'.frozen (i+b.length)
       have hu0:vu=0:=by
        have h:=Z5.out (Nat.le_refl _)
        rw[List.getD_eq_getElem?_getD,JH.out]at h
        simpa using h
       subst hu0
       have hvc:=iR HC.out.1
       have uw:(0:Int)<(c:Int):=by omega
       have C1:=bx (show(c:Int)/4294967296=((0:Nat):Int) by omega)
       have C2:=bx (show(c:Int)%4294967296=(c:Int) by omega)
       go_wp2
       rw[C1.out,C2.out]
       go_roundw
       case rel=>
        obtain⟨o2,hl2,LY,hr2,hb2,hz2,hv2⟩:=FC HC.out.1 (by omega) yG.out Dp hr' (Nat.le_refl _) AQ Ux.out (Z5.out (Nat.le_refl _)) yH.out
        exact⟨b.length+1,0,o2,by omega,by go_num,rfl,bx ⟨by unfold aP; omega,λ_=>rfl⟩,bx hl2,LY,hr2,hb2,bx hz2,bx (λh=>by omega),bx hv2⟩
       case measure=>(simp[intOf]; try omega)
     ·obtain rfl:k=b.length+1:=by omega
      obtain rfl:c=0:=HC.out.2 rfl
      go_wp2
      go_roundw
      case rel=>
       exact⟨i+1,o',by omega,by go_num,yG.out,Dp,hr',AQ,λp hp=>Ux.out p (by omega),B6 (by omega) yH.out er.out VB.out pn.out⟩
      case measure=>(simp[intOf]; try omega)
  ·obtain rfl:i=a.length:=by omega
   have dR:val aP o=m*n:=by
    have h:=er.out
    rw[List.take_length,VA.out]at h
    exact h
   have HF:=Lib.hid dR
   clear dR
   have hrd:=hr.gL (c:=a.length+b.length) (by have:=fK.out; omega) (by unfold maxLen; omega)
   go_wp2_with fail
   refine(wB _ _ _ o (m*n) hrd gS _ fK.out HF.out).mono ?_
   rintro e w' ⟨rfl,kn,rfl,hv⟩
   go_wp2
   go_ret
   exact⟨_,_,_,Nat.le_refl _,rfl,hv,hbl⟩
end Wx

namespace Wx
set_option maxRecDepth 100000
set_option maxHeartbeats 1000000
open Go Go.RowKit Go.Proofs
variable {n:Nat}
theorem IF {t:Nat} (h0:0<n) (ht:(af aP n)[(af aP n).length-1]?=some t):bB n=32*((af aP n).length-1)+bB t:=by
 have hl:=(aQ (n:=n) aI).2 h0
 have hw:=cj aI n
 have Ii:=oH aI n
 have hv:=bI aI n
 have kj:=ht
 obtain⟨hi,e⟩:=List.getElem?_eq_some_iff.1 ht
 have ht0:0<t:=by
  rcases Nat.eq_zero_or_pos t with h|h
  ·exfalso
   apply Ii
   rw[List.getLast?_eq_getElem?,ht,h]
  ·exact h
 have e1:=cD aP (af aP n) ((af aP n).length-1) (by omega)
 rw[o8 aP _ _ hi,e,List.drop_of_length_le (by omega),Le,Nat.mul_zero,Nat.add_zero,hv]at e1
 have LS:=kI (hw.take ((af aP n).length-1))
 rw[List.length_take,Nat.min_eq_left (by omega)]at LS
 have hp:aP^((af aP n).length-1)=2^(32*((af aP n).length-1)):=by rw[xZ,<-Nat.pow_mul]
 rw[hp]at e1 LS
 exact AZ ht0 LS e1
theorem ue (w:World) (v:Value) (n:Nat) (h:bQ .u32 aP w v n) {j:Nat} (hj:Bd j n) (fA:j<=1000000000):Calls Tryz.prog 197 #[v] w λe w'=>e=.returned (.int .i64 (bB n:Nat))/\w=w':=by
 obtain⟨A,c,rfl,ha⟩:=h
 have hl:=zE hj
 rcases Nat.eq_zero_or_pos n with rfl|h0
 ·rw[bN,mF]
  go_enter Tryz.func197,Tryz.ntmps197
  go_wp2
  go_ret
  exact⟨rfl,rfl⟩
 ·have hlp:=(aQ (n:=n) aI).2 h0
  obtain⟨b,o,t,rfl,hc,HT⟩:=ha.get (i:=(af aP n).length-1) (by omega)
  have HN:=bx (IF h0 HT.out)
  have hbt:=iR (cj aI n _ (List.mem_of_getElem? HT.out))
  have HNB:=bx (show bB n<=1000000000 from Nat.le_trans (qV hj) fA)
  clear HT ha hj h0
  have Q5:(af aP n).length<=100000000:=by omega
  clear hl
  generalize (af aP n).length=L at *
  obtain⟨K,rfl⟩:∃K,L=K+1:=⟨L-1,by omega⟩
  rw[Nat.add_sub_cancel]at hc HN
  have ot:(K:Int)<=100000000:=by omega
  clear Q5 hlp
  have yj:(((K+1:Nat):Int)==0)=false:=beq_eq_false_iff_ne.2 (by omega)
  go_enter Tryz.func197,Tryz.ntmps197
  go_wp2_with fail
  go_loop [3,4] (λs3 s4=>∃(m x:Nat),s3=.int .i64 (m:Int)/\s4=.int .u32 (x:Int)/\Bx (bB n=m+bB x)/\(x:Int)<=4294967295) (λ_ s4=>(intOf s4).toNat)
  case atStart=>exact⟨32*K,t,by go_num,rfl,HN,hbt⟩
  case round=>
   obtain⟨m,x,rfl,rfl,HX,hx⟩:=hrel
   have hm:(m:Int)<=4000000000:=by have:=HX.out; have:=HNB.out; omega
   rcases Nat.eq_zero_or_pos x with rfl|hx0
   ·have e:=HX.out
    rw[mF,Nat.add_zero]at e
    have E:=bx e
    clear e
    go_wp2
    go_ret
    exact⟨kO (by rw[E.out]),rfl⟩
   ·have hx1:(0:Int)<(x:Int):=by omega
    have e:=HX.out
    rw[IG hx0]at e
    have E:=bx e
    clear e
    go_wp2
    go_round
    case rel=>exact⟨m+1,x/2,by go_num,by go_num,bx (by rw[E.out]; omega),by omega⟩
    case measure=>simp[intOf]; omega
theorem Bl {P:Program} (w:World) {ops:Array Oper} {rest:List Oper} {o:Oper} {a:Act} {Q:Exit->Act->World->Prop}
  (hg:o.guard=none) (l c:Operand) (t:TypeId) (hop:o.op=Op.makeSlice t l c)
  (k:IntKind) (e:TypeId) (h1:P.underlying t=some (.slice e)) (hi:(P.info? e).map (λi=>(i.zero,i.size,decide (i.bytes<=8)))=some (some (.int k 0),1,true))
  (C:Nat) (hl:a.eval l=.int .i64 C) (hc:a.eval c=.int .i64 C) (hC:C<=1099511627776)
  (hK:∀w',w'.ownsRow w.heap.size e 1 (.slice (some ⟨w.heap.size,0,none⟩) C C) C (iD k (List.replicate C 0))->Below w.heap.size w w'->w'.heap.size=w.heap.size+1->wpList P ops Q rest (a.put o.dst (.slice (some ⟨w.heap.size,0,none⟩) C C)) w'):
  wpList P ops Q (o::rest) a w:=by
 obtain⟨i,h2,hzz⟩:=Option.map_eq_some_iff.1 hi
 simp only[Prod.mk.injEq,decide_eq_true_eq]at hzz
 obtain⟨hz,hs,hb⟩:=hzz
 refine wpList_plain hg λK hK'=>?_
 have hbytes:(i.bytes:Int)*(C:Int)<=281474976710656:=by
  have h8:(i.bytes:Int)<=8:=by omega
  have:=Int.mul_le_mul_of_nonneg_right h8 (show 0<=(C:Int) by omega)
  omega
 have hrun:=run_make (P:=P) w t e i (.int k 0) h1 h2 hz .i64 .i64 C C (by omega) (by omega) hbytes (by omega)
 rw[hs,Nat.mul_one]at hrun
 unfold Oper.wp
 simp only[execOp,hop,hl,hc,Sem.run_bind,hrun,Result.andThen]
 simp only[Sem.run_pure,Oper.upon]
 refine hK' _ _ (hK _ ?_ ((Below.refl _ _).alloc (Nat.le_refl _) _) (by simp))
 simp only[Value.cells,sK,Int.toNat_natCast]
 refine⟨by simp[fI],.inr ⟨w.heap.size,C,_,rfl,Nat.le_refl _,heap_alloc_new _ _,Nat.le_refl _,by unfold maxLen; omega,by simp[fI],by rw[Nat.mul_one,List.toList_toArray,List.take_of_length_le (by simp[fI])]⟩⟩
theorem Jw {l r:List Nat} (h:r≠[]) (ht:tR r):tR (l++r):=by
 unfold tR at *
 rw[List.getLast?_append]
 obtain⟨x,hx⟩:∃x,r.getLast?=some x:=⟨r.getLast h,List.getLast?_eq_some_getLast h⟩
 rw[hx]at ht ⊢
 simpa using ht
theorem Ji {k:Nat} (h:0<n):List.replicate k 0++af aP n=af aP (aP^k*n):=by
 have hne:af aP n≠[]:=List.length_pos_iff.1 ((aQ aI).2 h)
 have e:val aP (List.replicate k 0++af aP n)=aP^k*n:=by
  rw[kH,iK,List.length_replicate,Nat.zero_add,bI aI]
 rw[<-e]
 exact(qC aI ((Wf.replicate (by unfold aP; omega) k).append (cj aI n)) (Jw hne (oH aI n))).symm
theorem DX (w:World) (v:Value) (n k:Nat) (h:bQ .u32 aP w v n) (h0:0<n) {j:Nat} (hj:Bd j n) (fA:j<=100000000) (hk:k<=100000000):Calls Tryz.prog 198 #[v,.int .i64 (k:Int)] w (xU w (n*2^k)):=by
 obtain⟨A,c,rfl,ha⟩:=h
 have hl:=zE hj
 have hlp:=(aQ (n:=n) aI).2 h0
 obtain⟨b,o,t,rfl,_,_⟩:=ha.get (i:=0) hlp
 have Q5:(af aP n).length<=100000000:=by omega
 clear hl
 have HE:=bx (Ji (k:=k/32) h0)
 have HP:=bx (show aP^(k/32)*n*2^(k%32)=n*2^k by
  rw[xZ,<-Nat.pow_mul,Nat.mul_comm (2^(32*(k/32))) n,Nat.mul_assoc,<-Nat.pow_add,Nat.div_add_mod])
 have HJ:Bx (Bd (k+j) (aP^(k/32)*n)):=bx (by
  have e:aP^(k/32)=2^(32*(k/32)):=by rw[xZ,<-Nat.pow_mul]
  have h2:=hj
  unfold Bd at *
  rw[e,Nat.pow_add]
  have h3:2^(32*(k/32))<=2^k:=Nat.pow_le_pow_right (by omega) (by omega)
  exact Nat.lt_of_le_of_lt (Nat.mul_le_mul_right _ h3) (Nat.mul_lt_mul_of_pos_left h2 (Nat.two_pow_pos k)))
 clear hj
 generalize af aP n=l at *
 go_enter Tryz.func198,Tryz.ntmps198
 go_wp2_with (first
  |(at_make; refine Bl _ rfl _ _ _ rfl .u32 270 Tryz.underlying44 tr (k/32) rfl rfl (by omega) ?_; intro w1 hown dZ hsz; have hown:w1.ownsRow w.heap.size 270 1 (.slice (some ⟨w.heap.size,0,none⟩) (k/32) (k/32)) (List.replicate (k/32) 0).length (iD .u32 (List.replicate (k/32) 0)):=by rw[List.length_replicate]; exact hown)
  |(at_builtin; refine tO _ rfl (.tmp 9) (.tmp 10) _ rfl .u32 270 w.heap.size Tryz.underlying44 tr (.slice (some ⟨w.heap.size,0,none⟩) (k/32) (k/32)) (List.replicate (k/32) 0) rfl hown _ _ _ l _ rfl rfl (ha.below dZ) (by simp; omega) (by have:=dZ.size; omega) ?_; intro U A4 c4 w4 HU uA hg4))
 have hp2:2^(k%32)<2^32:=Nat.pow_lt_pow_right (by omega) (by omega)
 have W2:=bx (show IntKind.u64.wrap ((2:Int)^(k%32))=((2^(k%32):Nat):Int) by
  have e:((2:Int)^(k%32))=((2^(k%32):Nat):Int):=by simp
  rw[e]
  generalize 2^(k%32)=P at hp2 ⊢
  exact wrap_u64 (by omega) (by omega))
 rw[W2.out]
 have Eh:Below w.heap.size w w4:=dZ.grown hg4 (by omega) (by intro g hg; simp[Value.ownBlock]at hg; omega)
 have hN:bQ .u32 aP w4 (.slice A4 U.length c4) (aP^(k/32)*n):=⟨A4,c4,by rw[HU.out,HE.out],by rw[<-HE.out,<-HU.out]; exact I6 uA⟩
 refine Calls.mono (nC w4 (2^(k%32)) (by unfold b64; omega)) ?_
 rintro e w5 ⟨v5,rfl,h5,TH⟩
 clear hp2
 go_wp2_with fail
 refine Calls.mono (DN w5 _ _ _ _ (hN.below TH) h5 (j:=k+j) (k:=32) (HJ.out) (Nat.pow_lt_pow_right (by omega) (by omega)) (by omega) (by omega)) ?_
 rintro e w6 ⟨g6,L6,c6,hg6,rfl,h6,Vc⟩
 go_wp2
 go_ret
 rw[HP.out]at h6
 exact⟨g6,_,_,Nat.le_trans (Nat.le_trans Eh.size TH.size) hg6,rfl,h6,(Eh.trans (TH.mono Eh.size)).trans (Vc.mono (Nat.le_trans Eh.size TH.size))⟩
end Wx

namespace Wx
set_option maxRecDepth 100000
set_option maxHeartbeats 1000000
open Go Go.RowKit Go.Proofs
variable {i:Nat}
theorem Bi {l:List Nat}:val aP (l.drop i)%2=l.getD i 0%2:=by
 by_cases h:i<l.length
 ·rw[o8 aP l i h,List.getD_eq_getElem?_getD,List.getElem?_eq_getElem h,Option.getD_some]
  unfold aP; omega
 ·rw[List.drop_of_length_le (by omega),List.getD_eq_getElem?_getD,List.getElem?_eq_none (by omega)]; rfl
theorem tg {a o:List Nat} {x y d z L g T:Nat} {wr w0:World} (dB:o.length=i) (hlt:i<L) (gS:Wf aP o) (hwa:Wf aP a) (hx:a[i]?=some x) (hy:a.getD (i+1) 0=y) (hd:y%2=d) (hz:z=x/2+2147483648*d)
  (hr:Row wr .u32 270 g ((o++List.replicate (L-i) 0).set i z)) (hbl:Below w0.heap.size w0 wr)
  (hval:val aP o+aP^i*(val aP (a.drop i)/2)=T):
  ∃(o':List Nat),o'.length=i+1/\Wf aP o'/\Row wr .u32 270 g (o'++List.replicate (L-(i+1)) 0)/\Below w0.heap.size w0 wr/\val aP o'+aP^(i+1)*(val aP (a.drop (i+1))/2)=T:=by
 have jO:x<aP:=hwa _ (List.mem_of_getElem? hx)
 have hzb:z<aP:=by
  subst hz
  have:d<=1:=by omega
  unfold aP at *; omega
 refine⟨o++[z],by simp[dB],gS.append (Wf.cons hzb (Wf.nil _)),?_,hbl,?_⟩
 ·rw[show L-i=(L-(i+1))+1 by omega,List.replicate_succ,pX dB]at hr
  rw[List.append_assoc]
  exact hr
 ·rw[<-hval,o9,dB,nW hx,o7]
  have hm:=Bi (l:=a) (i:=i+1)
  rw[hy,hd]at hm
  have h:=LN (x:=x) hm
  have e:aP=4294967296:=rfl
  rw[<-e]at h
  rw[h,<-hz,Nat.pow_succ,Nat.mul_assoc,Nat.mul_add]
  omega
theorem xk (w:World) (v:Value) (n:Nat) (h:bQ .u32 aP w v n) {j:Nat} (hj:Bd j n) (fA:j<=1000000000):Calls Tryz.prog 200 #[v] w (xU w (n/2)):=by
 obtain⟨A,c,rfl,ha⟩:=h
 have hl:=zE hj
 have zA:=bI aI n
 have wa:=cj aI n
 clear hj
 generalize af aP n=a at *
 have hla:a.length<=100000000:=by omega
 clear hl
 have VA:=bx zA
 clear zA
 go_enter Tryz.func200,Tryz.ntmps200
 go_wp2_with (at_make; refine en _ rfl _ _ _ rfl .u32 270 Tryz.underlying44 tr _ _ rfl rfl (by omega) (by omega) (by omega) ?_; intro w1 hrow dZ hsz)
 rw[Int.toNat_natCast]at hrow
 go_loopw [4] (λs4 wr=>∃(i:Nat) (o:List Nat),i<=a.length/\s4=.int .i64 i/\o.length=i/\Wf aP o/\Row wr .u32 270 w.heap.size (o++List.replicate (a.length-i) 0)/\Below w.heap.size w wr/\val aP o+aP^i*(val aP (a.drop i)/2)=n/2)
  (λs4 _=>a.length-(intOf s4).toNat)
 case atStart=>exact⟨0,[],by omega,rfl,rfl,Wf.nil _,by simpa using hrow,dZ,by simp[val]; rw[VA.out]⟩
 case round=>
  obtain⟨i,o,hi,rfl,dB,gS,hr,hbl,hval⟩:=hrel
  have er:=bx hval
  have fK:=bx dB
  clear hval dB hrow dZ hsz
  by_cases hlt:i<a.length
  ·obtain⟨gx,ox,x,rfl,Dg,pn⟩:=(ha.below hbl).get hlt
   obtain⟨vo,LO,NL⟩:=hr.get (i:=i) (by have:=fK.out; simp; omega)
   have AR:=hr.frozen i
   have hi0:(0:Int)<=(i:Int):=by omega
   have hi1:(i:Int)<(a.length:Int):=by omega
   have hx1:=iR (wa _ (List.mem_of_getElem? pn.out))
   obtain⟨b2,o2,e2,hcw⟩:=ha.at_ hlt
   injection e2 with e2
   injection e2 with e1 e2
   subst e1 e2
   have hgx:=World.block_lt_of_cell? w _ hcw
   have hne:gx≠w.heap.size:=by
    have:gx<w.heap.size:=hgx
    omega
   clear hcw hgx
   have hx2:(0:Int)<=(x:Int)/2:=by omega
   have hrs:∀z:Nat,Row (wr.setCell ⟨w.heap.size,i,none⟩ (.int .u32 (z:Int))) .u32 270 w.heap.size ((o++List.replicate (a.length-i) 0).set i z):=λz=>hr.set i z
   have HRS:=bx hrs
   have HBS:Bx (∀u,Below w.heap.size w (wr.setCell ⟨w.heap.size,i,none⟩ u)):=bx (λu=>hbl.setCell (Nat.le_refl w.heap.size) u)
   clear hrs
   by_cases hn:i+1<a.length
   ·obtain⟨gy,oy,y,e1,RI,CE⟩:=(ha.below hbl).get hn
    injection e1 with e1
    injection e1 with e1 e2
    subst e1 e2
    have hcy':(wr.setCell ⟨w.heap.size,i,none⟩ (.int .u32 ((x:Int)/2))).cell? ⟨gx,ox+(i+1),none⟩=some (.int .u32 (y:Int)):=by
     rw[World.cell?_of_block (Below.heap_setCell wr ⟨w.heap.size,i,none⟩ _ gx hne)]; exact RI
    rcases Nat.mod_two_eq_zero_or_one y with hy|hy
    ·have hy0:((y:Int)%2==1)=false:=beq_eq_false_iff_ne.2 (by omega)
     have HY:=bx hy
     clear hy
     go_wp2
     go_roundw
     case rel=>
      obtain⟨o',r⟩:=tg (z:=x/2) fK.out hlt gS wa pn.out (by rw[List.getD_eq_getElem?_getD,CE.out]; rfl) HY.out (by omega) (HRS.out (x/2)) (HBS.out _) er.out
      exact⟨i+1,o',by omega,by go_num,r⟩
     case measure=>simp[intOf]; omega
    ·have hy0:((y:Int)%2==1)=true:=beq_iff_eq.2 (by omega)
     have HY:=bx hy
     clear hy
     go_wp2
     go_roundw
     case rel=>
      have hR:=(HRS.out (x/2)).set i (x/2+2147483648)
      rw[List.set_set]at hR
      obtain⟨o',r⟩:=tg (z:=x/2+2147483648) fK.out hlt gS wa pn.out (by rw[List.getD_eq_getElem?_getD,CE.out]; rfl) HY.out (by omega) hR ((HBS.out _).setCell (Nat.le_refl _) _) er.out
      exact⟨i+1,o',by omega,by go_num,r⟩
     case measure=>simp[intOf]; omega
   ·go_wp2
    go_roundw
    case rel=>
     obtain⟨o',r⟩:=tg (z:=x/2) (y:=0) fK.out hlt gS wa pn.out (by rw[List.getD_eq_getElem?_getD,List.getElem?_eq_none (by omega)]; rfl) rfl (by omega) (HRS.out (x/2)) (HBS.out _) er.out
     exact⟨i+1,o',by omega,by go_num,r⟩
    case measure=>simp[intOf]; omega
  ·obtain rfl:i=a.length:=by omega
   have HF:=bx (show val aP o=n/2 by have:=er.out; rw[List.drop_of_length_le (Nat.le_refl _)]at this; simpa [val] using this)
   rw[Nat.sub_self,List.replicate_zero,List.append_nil]at hr
   have hrd:=hr.gL (c:=a.length) (by have:=fK.out; omega) (by unfold maxLen; omega)
   go_wp2_with fail
   refine(wB _ _ _ o (n/2) hrd gS _ fK.out HF.out).mono ?_
   rintro e w' ⟨rfl,kn,rfl,hv⟩
   go_wp2
   go_ret
   exact⟨_,_,_,Nat.le_refl _,rfl,hv,hbl⟩
end Wx

namespace Wx
set_option maxRecDepth 100000
set_option maxHeartbeats 1000000
open Go Go.RowKit Go.Proofs
@[irreducible] def bdQ (r x d : Nat) : Nat := (r * 4294967296 + x) / d
@[irreducible] def bdR (r x d : Nat) : Nat := (r * 4294967296 + x) % d
variable {r x d:Nat}
theorem JQ (hd:0<d) (hr:r<d) (hx:x<aP):bdQ r x d*d+bdR r x d=r*aP+x/\bdR r x d<d/\bdQ r x d<aP:=by
 unfold bdQ bdR aP
 unfold aP at hx
 refine⟨by rw[Nat.mul_comm]; exact Nat.div_add_mod _ _,Nat.mod_lt _ hd,?_⟩
 rw[Nat.div_lt_iff_lt_mul hd]
 have:=Nat.mul_le_mul_right 4294967296 (Nat.succ_le_of_lt hr)
 rw[Nat.succ_mul,Nat.mul_comm d]at this
 omega
theorem UI (hd:0<d) (hr:r<d) (hx:x<aP):
  ((r:Int)*4294967296+(x:Int))/(d:Int)%4294967296=((bdQ r x d:Nat):Int)/\((r:Int)*4294967296+(x:Int))%(d:Int)=((bdR r x d:Nat):Int):=by
 obtain⟨_,h2,h3⟩:=JQ hd hr hx
 have e:(r:Int)*4294967296+(x:Int)=((r*4294967296+x:Nat):Int):=by omega
 unfold bdQ bdR at *
 rw[e,<-Int.natCast_ediv,<-Int.natCast_emod]
 unfold aP at h3
 generalize (r*4294967296+x)/d=q at *
 omega
def NN (w:World) (q r:Nat) (e:Ending) (w':World):Prop:=∃v,e=.returned (.tuple #[v,.int .u32 (r:Int)])/\bQ .u32 aP w' v q/\Below w.heap.size w w'
theorem EB (w:World) (v1:Value) (m d:Nat) (h1:bQ .u32 aP w v1 m) {j:Nat} (hj:Bd j m) (fA:j<=1000000000) (hd:0<d) (AA:d<aP):
  Calls Tryz.prog 196 #[v1,.int .u32 (d:Int)] w (NN w (m/d) (m%d)):=by
 obtain⟨A,c,rfl,ha⟩:=h1
 have hl:=zE hj
 have zA:=bI aI m
 have wa:=cj aI m
 clear hj
 generalize af aP m=a at *
 have hla:a.length<=100000000:=by omega
 clear hl
 have VA:=Lib.hid zA
 have Bp:=Lib.hid AA
 have RJ:=iR AA
 have hd0:(0:Int)<(d:Int):=by omega
 clear zA AA
 go_enter Tryz.func196,Tryz.ntmps196
 go_wp2_with (at_make; refine en _ rfl _ _ _ rfl .u32 270 Tryz.underlying44 tr _ _ rfl rfl (by omega) (by omega) (by omega) ?_; intro w1 hrow dZ hsz)
 rw[Int.toNat_natCast]at hrow
 go_loopw [7,8] (λs7 s8 wr=>∃(i rest:Nat) (o:List Nat),i<=a.length/\s8=.int .i64 ((i:Int)-1)/\s7=.int .u64 (rest:Int)/\Bx (rest<d)/\Bx (o.length=a.length)/\Wf aP o/\Row wr .u32 270 w.heap.size o/\Below w.heap.size w wr/\Bx (val aP (a.drop i)=val aP (o.drop i)*d+rest))
  (λ_ s8 _=>(intOf s8+1).toNat)
 case atStart=>exact⟨a.length,0,List.replicate a.length 0,by omega,rfl,rfl,bx hd,bx (by simp),Wf.replicate (by unfold aP; omega) _,hrow,dZ,bx (by rw[List.drop_of_length_le (by omega),List.drop_of_length_le (by simp)]; simp[val])⟩
 case round=>
  obtain⟨i,rest,o,hi,rfl,rfl,Rb,fK,gS,hr,hbl,er⟩:=hrel
  clear hrow dZ hsz
  rcases Nat.eq_zero_or_pos i with rfl|hpos
  ·rw[show(((0:Nat):Int)-1) = -1 by omega]
   have h:=er.out
   rw[List.drop_zero,List.drop_zero,VA.out]at h
   obtain⟨e1,e2⟩:=pD h Rb.out
   have HF:=Lib.hid e1.symm
   have HG:=Lib.hid e2.symm
   clear h e1 e2
   have hrd:=hr.gL (c:=a.length) (by have:=fK.out; omega) (by unfold maxLen; omega)
   have hr1:(rest:Int)<=4294967295:=by have:=Rb.out; omega
   go_wp2_with fail
   refine(zJ _ _ _ o (m/d) hrd gS _ fK.out HF.out).mono ?_
   rintro e w' ⟨rfl,v,rfl,hv⟩
   go_wp2
   rw[HG.out]
   go_ret2
   exact⟨_,rfl,hv,hbl⟩
  ·obtain⟨k,rfl⟩:∃k,i=k+1:=⟨i-1,by omega⟩
   rw[show(((k+1:Nat):Int)-1)=(k:Int) by omega]
   obtain⟨gx,ox,vx,rfl,Dg,pn⟩:=(ha.below hbl).get (i:=k) (by omega)
   obtain⟨vo,LO,NL⟩:=hr.get (i:=k) (by have:=fK.out; omega)
   have AR:=hr.frozen k
   have QS:Bx (vx<aP):=bx (wa _ (List.mem_of_getElem? pn.out))
   have sF:=iR QS.out
   have yj:(0:Int)<=(k:Int):=by omega
   have ot:(k:Int)<(a.length:Int):=by omega
   have hrx:(rest:Int)<=4294967294:=by have:=Rb.out; omega
   obtain⟨q1,q2⟩:=UI hd Rb.out QS.out
   have Q1:=bx q1
   have Q2:=bx q2
   have HS:=bx (JQ hd Rb.out QS.out)
   clear q1 q2
   go_wp2_with fail
   rw[Q1.out,Q2.out]
   go_roundw
   case rel=>
    refine⟨k,_,o.set k (bdQ rest vx d),by omega,rfl,rfl,bx HS.out.2.1,bx (by rw[List.length_set]; exact fK.out),gS.set HS.out.2.2,hr.set _ _,hbl.setCell (Nat.le_refl _) _,bx ?_⟩
    rw[nX (by have:=fK.out; omega),nW pn.out,o7,o7]
    exact xb er.out HS.out.1
   case measure=>simp[intOf]
end Wx
