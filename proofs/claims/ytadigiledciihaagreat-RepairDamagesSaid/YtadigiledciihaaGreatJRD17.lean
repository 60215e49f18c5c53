import Derived.Test.YtadigiledciihaaGreatJRD16
namespace Wx
set_option maxRecDepth 100000
set_option maxHeartbeats 1000000
open Go Go.RowKit Go.Proofs
variable {b:Nat}
theorem BL (hb:0<b) {l:List Nat} (h:Wf b l) (i:Nat):l.getD i 0<b:=by
 rw[List.getD_eq_getElem?_getD]
 cases e:l[i]? with
 |none=>simpa using hb
 |some z=>exact h _ (List.mem_of_getElem? e)
variable {x y o:List Nat} {cr L:Nat}
theorem jq {i vx vy g:Nat} {wr w0:World} (cG:o.length=i) (hlt:i<L) (wx:Wf ai x) (wy:Wf ai y) (wW:cr<=1) (dw:Wf ai o)
  (hx:x.getD i 0=vx) (hy:y.getD i 0=vy) (hr:Row wr .u32 146 g (o++List.replicate (L-i) 0)) (hbl:Below w0.heap.size w0 wr) (hg:w0.heap.size<=g)
  (hval:val ai o+ai^i*cr=val ai (x.take i)+val ai (y.take i)):
  ∃(o':List Nat),(cr+vx+vy)/ai<=1/\o'.length=i+1/\Wf ai o' /\
   Row (wr.setCell ⟨g,i,none⟩ (.int .u32 (((cr+vx+vy)%ai:Nat):Int))) .u32 146 g (o'++List.replicate (L-(i+1)) 0) /\
   Below w0.heap.size w0 (wr.setCell ⟨g,i,none⟩ (.int .u32 (((cr+vx+vy)%ai:Nat):Int)))/\val ai o'+ai^(i+1)*((cr+vx+vy)/ai)=val ai (x.take (i+1))+val ai (y.take (i+1)):=by
 have mV:vx<ai:=by rw[<-hx]; exact BL (by unfold ai; omega) wx i
 have wZ:vy<ai:=by rw[<-hy]; exact BL (by unfold ai; omega) wy i
 refine⟨o++[(cr+vx+vy)%ai],by unfold ai at *; omega,by simp[cG],dw.append (Wf.cons (Nat.mod_lt _ (by unfold ai; omega)) (Wf.nil _)),?_,hbl.setCell hg _,?_⟩
 ·have h:=hr.set i ((cr+vx+vy)%ai)
  rw[show L-i=(L-(i+1))+1 by omega,List.replicate_succ,gU cG]at h
  rw[List.append_assoc]
  exact h
 ·exact yg cG hval (by rw[cZ,hx]) (by rw[cZ,hy]) (by have:=Nat.mod_add_div (cr+vx+vy) ai; omega)
theorem EJ {s:Nat} (hb:2<=b) (wx:Wf b x) (wy:Wf b y) (IP:x.length<L) (MN:y.length<L) (hval:val b o+b^L*cr=val b (x.take L)+val b (y.take L))
  (hs:val b x+val b y=s):val b o=s:=by
 rw[List.take_of_length_le (by omega),List.take_of_length_le (by omega),hs]at hval
 have h1:=ek wx
 have h2:=ek wy
 obtain⟨K,rfl⟩:∃K,L=K+1:=⟨L-1,by omega⟩
 have h3:b^x.length<=b^K:=Nat.pow_le_pow_right (by omega) (by omega)
 have h4:b^y.length<=b^K:=Nat.pow_le_pow_right (by omega) (by omega)
 rcases Nat.eq_zero_or_pos cr with rfl|hc
 ·omega
 ·have h5:b^(K+1)<=b^(K+1)*cr:=Nat.le_mul_of_pos_right _ hc
  have h6:2*b^K<=b^(K+1):=by rw[Nat.pow_succ,Nat.mul_comm]; exact Nat.mul_le_mul_left _ hb
  omega
theorem dm {x:Nat} (h:x<ai):(x:Int)<=4294967295:=by unfold ai at h; omega
theorem H6 (w:World) (v1 v2:Value) (m n:Nat) (h1:aV .u32 ai w v1 m) (h2:aV .u32 ai w v2 n) {j k:Nat} (hj:Bd j m) (hk:Bd k n) (cQ:j<=1000000000) (lQ:k<=1000000000):
  Calls Tryz.prog 89 #[v1,v2] w (dG .u32 ai w (m+n)):=by
 obtain⟨A,c,rfl,ha⟩:=h1
 obtain⟨B,d,rfl,hb⟩:=h2
 have hla:=mZ hj
 have hlb:=mZ hk
 have hv:val ai (ae ai m)+val ai (ae ai n)=m+n:=by rw[aR aj,aR aj]
 have wa:=bf aj m
 have wb:=bf aj n
 clear hj hk
 generalize ae ai m=x at *
 generalize ae ai n=y at *
 generalize m+n=s at *
 have HV:=Lib.hid hv
 clear hv
 have IP:x.length<=1000000000:=by omega
 have MN:y.length<=1000000000:=by omega
 clear hla hlb
 go_enter Tryz.func89,Tryz.ntmps89
 go_upto_region 1 with(fail)
 go_cut [5] (λv5 w'=>∃L:Nat,v5=.slice (some ⟨w.heap.size,0,none⟩) (L+1) (L+1)/\x.length<=L/\y.length<=L/\L<=1000000000/\Row w' .u32 146 w.heap.size (List.replicate (L+1) 0)/\Below w.heap.size w w')
 case first=>
  by_cases h:x.length<y.length
  ·go_wp2_with (at_make; refine bO _ rfl _ _ _ rfl .u32 146 Tryz.underlying59 jn _ _ rfl rfl (by omega) (by omega) (by omega) ?_; intro w1 hrow bL hsz)
   go_meet
   case rel=>
    (try rw[show(max (x.length:Int) (y.length:Int)+1).toNat=y.length+1 by omega]at *)
    (try rw[show((y.length:Int)+1).toNat=y.length+1 by omega]at *)
    exact⟨y.length,rfl,by omega,by omega,by omega,hrow,bL⟩
  ·go_wp2_with (at_make; refine bO _ rfl _ _ _ rfl .u32 146 Tryz.underlying59 jn _ _ rfl rfl (by omega) (by omega) (by omega) ?_; intro w1 hrow bL hsz)
   go_meet
   case rel=>
    (try rw[show(max (x.length:Int) (y.length:Int)+1).toNat=x.length+1 by omega]at *)
    (try rw[show((x.length:Int)+1).toNat=x.length+1 by omega]at *)
    exact⟨x.length,rfl,by omega,by omega,by omega,hrow,bL⟩
 case rest=>
  obtain⟨L,rfl,hL1,hL2,hL3,hrow,bL⟩:=hcut
  go_wp2_with fail
  go_loopw [6,7] (λs6 s7 wr=>∃(i cr:Nat) (o:List Nat),i<=L+1/\s7=.int .i64 i/\s6=.int .u64 cr/\cr<=1/\o.length=i/\Wf ai o/\Row wr .u32 146 w.heap.size (o++List.replicate (L+1-i) 0)/\Below w.heap.size w wr/\val ai o+ai^i*cr=val ai (x.take i)+val ai (y.take i))
   (λ_ s7 _=>L+1-(intOf s7).toNat)
  case atStart=>exact⟨0,0,[],by omega,rfl,rfl,by omega,rfl,Wf.nil _,by simpa using hrow,bL,by simp[val]⟩
  case round=>
   obtain⟨i,cr,o,hi,rfl,rfl,wW,cG,dw,hr,hbl,hval⟩:=hrel
   have bR:=Lib.hid hval
   have cD:=Lib.hid cG
   clear hval cG hrow bL
   by_cases hlt:i<L+1
   ·obtain⟨vo,AW,Dh⟩:=hr.get (i:=i) (by have:=cD.out; simp; omega)
    have sw:=hr.frozen i
    by_cases hx1:i<x.length
    ·obtain⟨bx,ox,vx,rfl,tB,gI⟩:=(ha.below hbl).get hx1
     have mV:=dm (wa _ (List.mem_of_getElem? gI.out))
     by_cases sy:i<y.length
     ·obtain⟨JE,oy,vy,rfl,D7,oU⟩:=(hb.below hbl).get sy
      have wZ:=dm (wb _ (List.mem_of_getElem? oU.out))
      go_wp2
      go_roundw
      case rel=>
       obtain⟨o',hc',r⟩:=jq (vx:=vx) (vy:=vy) cD.out hlt wa wb wW dw (by rw[List.getD_eq_getElem?_getD,gI.out]; rfl) (by rw[List.getD_eq_getElem?_getD,oU.out]; rfl) hr hbl (Nat.le_refl _) bR.out
       exact⟨i+1,_,o',by omega,by go_num,by go_num,hc',r⟩
      case measure=>simp[intOf]; omega
     ·go_wp2
      go_roundw
      case rel=>
       obtain⟨o',hc',r⟩:=jq (vx:=vx) (vy:=0) cD.out hlt wa wb wW dw (by rw[List.getD_eq_getElem?_getD,gI.out]; rfl) (by rw[List.getD_eq_getElem?_getD,List.getElem?_eq_none (by omega)]; rfl) hr hbl (Nat.le_refl _) bR.out
       exact⟨i+1,_,o',by omega,by go_num,by go_num,hc',r⟩
      case measure=>simp[intOf]; omega
    ·by_cases sy:i<y.length
     ·obtain⟨JE,oy,vy,rfl,D7,oU⟩:=(hb.below hbl).get sy
      have wZ:=dm (wb _ (List.mem_of_getElem? oU.out))
      go_wp2
      go_roundw
      case rel=>
       obtain⟨o',hc',r⟩:=jq (vx:=0) (vy:=vy) cD.out hlt wa wb wW dw (by rw[List.getD_eq_getElem?_getD,List.getElem?_eq_none (by omega)]; rfl) (by rw[List.getD_eq_getElem?_getD,oU.out]; rfl) hr hbl (Nat.le_refl _) bR.out
       exact⟨i+1,_,o',by omega,by go_num,by go_num,hc',r⟩
      case measure=>simp[intOf]; omega
     ·go_wp2
      go_roundw
      case rel=>
       obtain⟨o',hc',r⟩:=jq (vx:=0) (vy:=0) cD.out hlt wa wb wW dw (by rw[List.getD_eq_getElem?_getD,List.getElem?_eq_none (by omega)]; rfl) (by rw[List.getD_eq_getElem?_getD,List.getElem?_eq_none (by omega)]; rfl) hr hbl (Nat.le_refl _) bR.out
       exact⟨i+1,_,o',by omega,by go_num,by go_num,hc',r⟩
      case measure=>simp[intOf]; omega
   ·obtain rfl:i=L+1:=by omega
    have HF:=Lib.hid (EJ aj wa wb (by omega) (by omega) bR.out HV.out)
    rw[Nat.sub_self,List.replicate_zero,List.append_nil]at hr
    have hrd:=hr.dI (c:=L+1) (by have:=cD.out; omega) (by unfold maxLen; omega)
    go_wp2_with fail
    refine(nj _ _ _ o s hrd dw _ cD.out HF.out).mono ?_
    rintro e w' ⟨rfl,v,rfl,hv⟩
    go_wp2
    go_ret
    exact⟨v,rfl,hv,hbl⟩
end Wx

namespace Wx
set_option maxRecDepth 100000
set_option maxHeartbeats 1000000
open Go Go.RowKit Go.Proofs
variable {x y o:List Nat} {br:Nat}
theorem gP {i vx vy s t L g:Nat} {wr w0:World} (cG:o.length=i) (hlt:i<L) (dw:Wf ai o) (hs:s+vy+br=vx+ai*t) (Ci:s<ai)
  (hx:x.getD i 0=vx) (hy:y.getD i 0=vy) (hr:Row wr .u32 146 g (o++List.replicate (L-i) 0)) (hbl:Below w0.heap.size w0 wr) (hg:w0.heap.size<=g)
  (hval:val ai o+val ai (y.take i)=val ai (x.take i)+ai^i*br):
  ∃(o':List Nat),o'.length=i+1/\Wf ai o' /\
   Row (wr.setCell ⟨g,i,none⟩ (.int .u32 (s:Int))) .u32 146 g (o'++List.replicate (L-(i+1)) 0) /\
   Below w0.heap.size w0 (wr.setCell ⟨g,i,none⟩ (.int .u32 (s:Int)))/\val ai o'+val ai (y.take (i+1))=val ai (x.take (i+1))+ai^(i+1)*t:=by
 refine⟨o++[s],by simp[cG],dw.append (Wf.cons Ci (Wf.nil _)),?_,hbl.setCell hg _,?_⟩
 ·have h:=hr.set i s
  rw[show L-i=(L-(i+1))+1 by omega,List.replicate_succ,gU cG]at h
  rw[List.append_assoc]
  exact h
 ·exact wD cG hval (by rw[cZ,hx]) (by rw[cZ,hy]) hs
theorem CD {b m n:Nat} (dw:Wf b o) (cG:o.length=x.length) (MN:y.length<=x.length) (hval:val b o+val b (y.take x.length)=val b (x.take x.length)+b^x.length*br)
  (hm:val b x=m) (hn:val b y=n) (hnm:n<=m):val b o=m-n:=by
 rw[List.take_of_length_le (Nat.le_refl _),List.take_of_length_le MN,hm,hn]at hval
 have hlt:=ek dw
 rw[cG]at hlt
 rcases Nat.eq_zero_or_pos br with rfl|hb
 ·omega
 ·have h5:b^x.length<=b^x.length*br:=Nat.le_mul_of_pos_right _ hb
  omega
theorem jH (w:World) (v1 v2:Value) (m n:Nat) (h1:aV .u32 ai w v1 m) (h2:aV .u32 ai w v2 n) (hnm:n<=m) {j:Nat} (hj:Bd j m) (cQ:j<=1000000000):
  Calls Tryz.prog 91 #[v1,v2] w (kZ w (m-n)):=by
 obtain⟨X,cx,rfl,hx⟩:=h1
 obtain⟨Y,cy,rfl,hy⟩:=h2
 have hla:=mZ hj
 have sG:(ae ai n).length<=(ae ai m).length:=by
  rcases Nat.lt_or_ge (ae ai m).length (ae ai n).length with h|h
  ·have:=bN aj h; omega
  ·exact h
 have wx:=bf aj m
 have wy:=bf aj n
 have mV:=aR aj m
 have wZ:=aR aj n
 clear hj
 generalize ae ai m=x at *
 generalize ae ai n=y at *
 have IP:x.length<=1000000000:=by omega
 clear hla
 have HX:=Lib.hid mV
 have HY:=Lib.hid wZ
 clear mV wZ
 go_enter Tryz.func91,Tryz.ntmps91
 go_wp2_with (at_make; refine bO _ rfl _ _ _ rfl .u32 146 Tryz.underlying59 jn _ _ rfl rfl (by omega) (by omega) (by omega) ?_; intro w1 hrow bL hsz)
 rw[Int.toNat_natCast]at hrow
 go_loopw [6,7] (λs6 s7 wr=>∃(i br:Nat) (o:List Nat),i<=x.length/\s7=.int .i64 i/\s6=.int .u64 br/\br<=1/\o.length=i/\Wf ai o/\Row wr .u32 146 w.heap.size (o++List.replicate (x.length-i) 0)/\Below w.heap.size w wr/\val ai o+val ai (y.take i)=val ai (x.take i)+ai^i*br)
  (λ_ s7 _=>x.length-(intOf s7).toNat)
 case atStart=>exact⟨0,0,[],by omega,rfl,rfl,by omega,rfl,Wf.nil _,by simpa using hrow,bL,by simp[val]⟩
 case round=>
  obtain⟨i,br,o,hi,rfl,rfl,wW,cG,dw,hr,hbl,hval⟩:=hrel
  have bR:=Lib.hid hval
  have cD:=Lib.hid cG
  clear hval cG hrow bL hsz
  by_cases hlt:i<x.length
  ·obtain⟨bx,ox,vx,rfl,tB,gI⟩:=(hx.below hbl).get hlt
   have mV:=dm (wx _ (List.mem_of_getElem? gI.out))
   obtain⟨vo,AW,Dh⟩:=hr.get (i:=i) (by have:=cD.out; simp; omega)
   have sw:=hr.frozen i
   have PZ:(0:Int)<=(i:Int):=by omega
   have P0:(i:Int)<(x.length:Int):=by omega
   by_cases sy:i<y.length
   ·obtain⟨JE,oy,vy,rfl,D7,oU⟩:=(hy.below hbl).get sy
    have wZ:=dm (wy _ (List.mem_of_getElem? oU.out))
    by_cases nY:vx<br+vy
    ·skip
     have Kl:(vx:Int)<(br:Int)+(vy:Int):=by omega
     have E:=Lib.hid (show((vx:Int)+4294967296-((br:Int)+(vy:Int)))=(((vx+4294967296-(br+vy)):Nat):Int) by omega)
     have Na:(0:Int)<=(vx:Int)+4294967296-((br:Int)+(vy:Int)):=by omega
     go_wp2
     go_roundw
     case rel=>
      obtain⟨o',r⟩:=gP (vx:=vx) (vy:=vy) (s:=(vx+4294967296-(br+vy))) (t:=1) cD.out hlt dw (by unfold ai; omega) (by unfold ai; omega) (by rw[List.getD_eq_getElem?_getD,gI.out]; rfl) (by rw[List.getD_eq_getElem?_getD,oU.out]; rfl) hr hbl (Nat.le_refl _) bR.out
      rw[E.out]
      exact⟨i+1,1,o',by omega,by go_num,rfl,by omega,r⟩
     case measure=>simp[intOf]; omega
    ·skip
     have Kl:¬((vx:Int)<(br:Int)+(vy:Int)):=by omega
     have E:=Lib.hid (show((vx:Int)-((br:Int)+(vy:Int)))=(((vx-(br+vy)):Nat):Int) by omega)
     have Na:(0:Int)<=(vx:Int)-((br:Int)+(vy:Int)):=by omega
     go_wp2
     go_roundw
     case rel=>
      obtain⟨o',r⟩:=gP (vx:=vx) (vy:=vy) (s:=(vx-(br+vy))) (t:=0) cD.out hlt dw (by unfold ai; omega) (by unfold ai; omega) (by rw[List.getD_eq_getElem?_getD,gI.out]; rfl) (by rw[List.getD_eq_getElem?_getD,oU.out]; rfl) hr hbl (Nat.le_refl _) bR.out
      rw[E.out]
      exact⟨i+1,0,o',by omega,by go_num,rfl,by omega,r⟩
     case measure=>simp[intOf]; omega
   ·by_cases nY:vx<br
    ·skip
     have Kl:(vx:Int)<(br:Int):=by omega
     have E:=Lib.hid (show((vx:Int)+4294967296-(br:Int))=(((vx+4294967296-(br+0)):Nat):Int) by omega)
     have Na:(0:Int)<=(vx:Int)+4294967296-(br:Int):=by omega
     go_wp2
     go_roundw
     case rel=>
      obtain⟨o',r⟩:=gP (vx:=vx) (vy:=0) (s:=(vx+4294967296-(br+0))) (t:=1) cD.out hlt dw (by unfold ai; omega) (by unfold ai; omega) (by rw[List.getD_eq_getElem?_getD,gI.out]; rfl) (by rw[List.getD_eq_getElem?_getD,List.getElem?_eq_none (by omega)]; rfl) hr hbl (Nat.le_refl _) bR.out
      rw[E.out]
      exact⟨i+1,1,o',by omega,by go_num,rfl,by omega,r⟩
     case measure=>simp[intOf]; omega
    ·skip
     have Kl:¬((vx:Int)<(br:Int)):=by omega
     have E:=Lib.hid (show((vx:Int)-(br:Int))=(((vx-(br+0)):Nat):Int) by omega)
     have Na:(0:Int)<=(vx:Int)-(br:Int):=by omega
     go_wp2
     go_roundw
     case rel=>
      obtain⟨o',r⟩:=gP (vx:=vx) (vy:=0) (s:=(vx-(br+0))) (t:=0) cD.out hlt dw (by unfold ai; omega) (by unfold ai; omega) (by rw[List.getD_eq_getElem?_getD,gI.out]; rfl) (by rw[List.getD_eq_getElem?_getD,List.getElem?_eq_none (by omega)]; rfl) hr hbl (Nat.le_refl _) bR.out
      rw[E.out]
      exact⟨i+1,0,o',by omega,by go_num,rfl,by omega,r⟩
     case measure=>simp[intOf]; omega
  ·obtain rfl:i=x.length:=by omega
   have HF:=Lib.hid (CD dw cD.out sG bR.out HX.out HY.out hnm)
   rw[Nat.sub_self,List.replicate_zero,List.append_nil]at hr
   have hrd:=hr.dI (c:=x.length) (by have:=cD.out; omega) (by unfold maxLen; omega)
   go_wp2_with fail
   refine(od _ _ _ o (m-n) hrd dw _ cD.out HF.out).mono ?_
   rintro e w' ⟨rfl,kn,rfl,hv⟩
   go_wp2
   go_ret
   exact⟨_,_,_,Nat.le_refl _,rfl,hv,hbl⟩
theorem qA (w:World) (v1 v2:Value) (m n:Nat) (h1:aV .u32 ai w v1 m) (h2:aV .u32 ai w v2 n) (hnm:n<=m) {j:Nat} (hj:Bd j m) (cQ:j<=1000000000):
  Calls Tryz.prog 91 #[v1,v2] w (dG .u32 ai w (m-n)):=(jH w v1 v2 m n h1 h2 hnm hj cQ).mono λ_ _ h=>h.num
end Wx

namespace Wx
set_option maxRecDepth 100000
set_option maxHeartbeats 1000000
open Go Go.RowKit Go.Proofs
@[irreducible] def npLo (x y u c : Nat) : Nat := (u + c + x * y) % 4294967296
@[irreducible] def npHi (x y u c : Nat) : Nat := (u + c + x * y) / 4294967296
theorem G5 (x y u c:Nat):npLo x y u c+ai*npHi x y u c=x*y+u+c:=by unfold npLo npHi ai; omega
theorem G4 (x y u c:Nat):npLo x y u c<ai:=by unfold npLo ai; omega
variable {c:Nat}
theorem Bb {x y u:Nat} (hx:x<ai) (hy:y<ai) (hu:u<ai) (hc:c<ai):npHi x y u c<ai/\u+c+x*y<18446744073709551616:=by
 have hxy:x*y<=4294967295*4294967295:=Nat.mul_le_mul (by unfold ai at hx; omega) (by unfold ai at hy; omega)
 unfold ai npHi at *
 omega
variable {w0 wr:World} {g:Nat} {o b:List Nat} {i k vx vy vu s N:Nat}
theorem xD (hk:k<b.length) (hc:c<ai) (cG:o.length=N) (dw:Wf ai o) (hx:vx<ai) (hy:vy<ai) (hu:vu<ai)
  (hr:Row wr .u32 146 g o) (hg:w0.heap.size<=g) (hbl:Below w0.heap.size w0 wr) (hz:∀p,i+b.length+1<=p->o.getD p 0=0) (hz0:o.getD (i+b.length) 0=0) (hval:val ai o+ai^(i+k)*c=s+ai^i*(vx*val ai (b.take k)))
  (HU:o[i+k]?=some vu) (HY:b[k]?=some vy):
  ∃(o':List Nat),npHi vx vy vu c<ai/\o'.length=N/\Wf ai o' /\
   Row (wr.setCell ⟨g,i+k,none⟩ (.int .u32 (npLo vx vy vu c:Nat))) .u32 146 g o'/\Below w0.heap.size w0 (wr.setCell ⟨g,i+k,none⟩ (.int .u32 (npLo vx vy vu c:Nat))) /\
   (∀p,i+b.length+1<=p->o'.getD p 0=0)/\o'.getD (i+b.length) 0=0/\val ai o'+ai^(i+(k+1))*npHi vx vy vu c=s+ai^i*(vx*val ai (b.take (k+1))):=by
 refine⟨o.set (i+k) (npLo vx vy vu c),(Bb hx hy hu hc).1,by simp[cG],dw.set (G4 _ _ _ _),hr.set _ _,hbl.setCell hg _,?_,?_,xx hval HU HY (G5 _ _ _ _)⟩
 ·intro p hp
  rw[getD_set_ne (by omega)]; exact hz p hp
 ·rw[getD_set_ne (by omega)]; exact hz0
theorem xC (hc:c<ai) (hN:i+b.length<N) (cG:o.length=N) (dw:Wf ai o)
  (hr:Row wr .u32 146 g o) (hg:w0.heap.size<=g) (hbl:Below w0.heap.size w0 wr) (hz:∀p,i+b.length+1<=p->o.getD p 0=0) (hz0:o.getD (i+b.length) 0=0) (hval:val ai o+ai^(i+b.length)*c=s+ai^i*(vx*val ai (b.take b.length))):
  ∃(o':List Nat),o'.length=N/\Wf ai o' /\
   Row (wr.setCell ⟨g,i+b.length,none⟩ (.int .u32 (c:Nat))) .u32 146 g o'/\Below w0.heap.size w0 (wr.setCell ⟨g,i+b.length,none⟩ (.int .u32 (c:Nat))) /\
   (∀p,i+b.length+1<=p->o'.getD p 0=0)/\val ai o'+ai^(i+(b.length+1))*0=s+ai^i*(vx*val ai (b.take (b.length+1))):=by
 refine⟨o.set (i+b.length) c,by simp[cG],dw.set hc,hr.set _ _,hbl.setCell hg _,λp hp=>by rw[getD_set_ne (by omega)]; exact hz p hp,?_⟩
 have hu:o[i+b.length]?=some 0:=by
  rw[List.getD_eq_getElem?_getD,List.getElem?_eq_getElem (by omega)]at hz0
  rw[List.getElem?_eq_getElem (by omega)]
  simpa using hz0
 have h1:=lH (b:=ai) hu c
 rw[Nat.mul_zero,Nat.add_zero]at h1
 rw[h1,hval,Nat.mul_zero,Nat.add_zero,List.take_length,List.take_of_length_le (by omega)]
theorem tI {b:Nat} {o0 x y:List Nat} {n:Nat} (hk:y.length<=k) (hval:val b o+b^(i+k)*0=val b o0+b^i*(vx*val b (y.take k))) (h0:val b o0=val b (x.take i)*n) (hb:val b y=n) (hx:x[i]?=some vx):
  val b o=val b (x.take (i+1))*n:=by
 rw[Nat.mul_zero,Nat.add_zero,List.take_of_length_le hk,hb]at hval
 rw[hval,h0,bI hx,Nat.add_mul,Nat.mul_assoc]
theorem KJ (hx:vx<ai) (hy:vy<ai) (hu:vu<ai) (hc:c<ai):
  IntKind.u64.wrap ((IntKind.u64.wrap ((vu:Int)+(c:Int)+IntKind.u64.wrap ((vx:Int)*(vy:Int)))).tdiv 4294967296)=((npHi vx vy vu c:Nat):Int) /\
  (IntKind.u64.wrap ((vu:Int)+(c:Int)+IntKind.u64.wrap ((vx:Int)*(vy:Int)))).tmod 4294967296%4294967296=((npLo vx vy vu c:Nat):Int):=by
 obtain⟨h1,h2⟩:=Bb hx hy hu hc
 have e0:IntKind.u64.wrap ((vx:Int)*(vy:Int))=((vx*vy:Nat):Int):=by
  rw[<-Int.natCast_mul,wrap_u64 (by omega) (by omega)]
 have e:(vu:Int)+(c:Int)+((vx*vy:Nat):Int)=((vu+c+vx*vy:Nat):Int):=by omega
 rw[e0,e]
 unfold npLo npHi at *
 generalize vu+c+vx*vy=N at *
 unfold ai at h1
 rw[wrap_u64 (n:=(N:Int)) (by omega) (by omega),Int.tdiv_eq_ediv_of_nonneg (by omega),Int.tmod_eq_emod_of_nonneg (by omega),wrap_u64 (by omega) (by omega)]
 omega
theorem nx (w:World) (v1 v2:Value) (m n:Nat) (h1:aV .u32 ai w v1 m) (h2:aV .u32 ai w v2 n) {j k:Nat} (hj:Bd j m) (hk:Bd k n) (cQ:j<=1000000000) (lQ:k<=1000000000):
  Calls Tryz.prog 79 #[v1,v2] w (kZ w (m*n)):=by
 obtain⟨A,c,rfl,ha⟩:=h1
 obtain⟨B,d,rfl,hb⟩:=h2
 have hla:=mZ hj
 have hlb:=mZ hk
 have qR:=aR aj m
 have Ky:=aR aj n
 have wa:=bf aj m
 have wb:=bf aj n
 clear hj hk
 go_enter Tryz.func79,Tryz.ntmps79
 generalize ae ai m=a at *
 generalize ae ai n=b at *
 have VA:=Lib.hid qR
 have VB:=Lib.hid Ky
 clear qR Ky
 have P4:a.length<=100000000:=by omega
 have P5:b.length<=100000000:=by omega
 clear hla hlb
 go_wp2_with (at_make; refine bO _ rfl _ _ _ rfl .u32 146 Tryz.underlying59 jn _ _ rfl rfl (by omega) (by omega) (by omega) ?_; intro w1 hrow bL hsz)
 rw[show((a.length:Int)+(b.length:Int)).toNat=a.length+b.length by omega]at hrow
 go_loopw [6] (λs6 wr=>∃(i:Nat) (o:List Nat),i<=a.length/\s6=.int .i64 i/\o.length=a.length+b.length/\Wf ai o/\Row wr .u32 146 w.heap.size o/\Below w.heap.size w wr/\(∀p,i+b.length<=p->o.getD p 0=0)/\val ai o=val ai (a.take i)*n)
  (λs6 _=>a.length-(intOf s6).toNat)
 case atStart=>exact⟨0,List.replicate (a.length+b.length) 0,by omega,rfl,by simp,Wf.replicate (by unfold ai; omega) _,hrow,bL,λp _=>by simp[List.getD_eq_getElem?_getD,List.getElem?_replicate]; split<;>rfl,by rw[dZ]; simp[val]⟩
 case round=>
  obtain⟨i,o,hi,rfl,cG,dw,hr,hbl,hz,hval⟩:=hrel
  have bR:=Lib.hid hval
  have cD:=Lib.hid cG
  have HZ:=Lib.hid hz
  clear hval cG hz hrow bL hsz
  by_cases hlt:i<a.length
  ·obtain⟨gx,ox,vx,rfl,_,gI⟩:=(ha.below hbl).get hlt
   have Ik:=Lib.hid (wa _ (List.mem_of_getElem? gI.out))
   have mV:=dm Ik.out
   have PZ:(0:Int)<=(i:Int):=by omega
   have P0:(i:Int)<(a.length:Int):=by omega
   go_wp2_with fail
   obtain⟨wo,rfl⟩:∃wo:World,wo=wr:=⟨_,rfl⟩
   go_loopw [7,8] (λs7 s8 wr=>∃(k c:Nat) (o':List Nat),k<=b.length+1/\s8=.int .i64 k/\s7=.int .u64 c/\Bx (c<ai/\(k=b.length+1->c=0))/\Bx (o'.length=a.length+b.length)/\Wf ai o'/\Row wr .u32 146 w.heap.size o'/\Below w.heap.size w wr/\Bx (∀p,i+b.length+1<=p->o'.getD p 0=0)/\Bx (k<=b.length->o'.getD (i+b.length) 0=0)/\Bx (val ai o'+ai^(i+k)*c=val ai o+ai^i*(vx*val ai (b.take k))))
    (λ_ s8 _=>b.length+1-(intOf s8).toNat)
   case atStart=>exact⟨0,0,o,by omega,rfl,rfl,bx ⟨by unfold ai; omega,by omega⟩,bx cD.out,dw,hr,hbl,bx (λp hp=>HZ.out p (by omega)),bx (λ_=>HZ.out _ (Nat.le_refl _)),bx (by simp[val])⟩
   case round=>
    clear hr dw
    obtain⟨k,c,o',hk,rfl,rfl,HC,qf,uK,hr',sF,Jw,NS,qg⟩:=hrel
    have tB:=((ha.below sF).at_ hlt)
    by_cases hlk:k<b.length
    ·obtain⟨b1,o1,e1,tB⟩:=tB
     injection e1 with e1
     injection e1 with e1 e2
     subst e1 e2
     rw[List.getD_eq_getElem?_getD,gI.out,Option.getD_some]at tB
     obtain⟨JE,oy,vy,rfl,D7,oU⟩:=(hb.below sF).get hlk
     obtain⟨vu,yw,Ai⟩:=hr'.get (i:=i+k) (by have:=qf.out; omega)
     have sw:=hr'.frozen (i+k)
     have Lg:=Lib.hid (wb _ (List.mem_of_getElem? oU.out))
     have LB:=Lib.hid (uK _ (List.mem_of_getElem? Ai.out))
     have wZ:=dm Lg.out
     have M9:=dm LB.out
     have Ue:=dm HC.out.1
     have yx:(0:Int)<=(k:Int):=by omega
     have lQ:(k:Int)<(b.length:Int):=by omega
     obtain⟨q1,q2⟩:=KJ Ik.out Lg.out LB.out HC.out.1
     have Q1:=bx q1
     have Q2:=bx q2
     clear q1 q2
     go_wp2
     go_quiet (fail)
     go_wp2
     rw[Q1.out,Q2.out]
     go_roundw
     case rel=>
      obtain⟨o2,hc2,hl2,Ck,hr2,hb2,hz2,hz3,hv2⟩:=xD hlk HC.out.1 qf.out uK Ik.out Lg.out LB.out (hr'.drewN nq) (Nat.le_refl _) (below_drewN sF nq) Jw.out (NS.out (by omega)) qg.out Ai.out oU.out
      exact⟨k+1,_,o2,by omega,by go_num,rfl,bx ⟨hc2,λh=>by omega⟩,bx hl2,Ck,hr2,hb2,bx hz2,bx (λ_=>hz3),bx hv2⟩
     case measure=>(simp[intOf]; try omega)
    ·clear tB
     by_cases hkb:k=b.length
     ·subst hkb
      rcases Nat.eq_zero_or_pos c with rfl|hc0
      ·go_wp2
       go_roundw
       case rel=>
        exact⟨i+1,o',by omega,by go_num,qf.out,uK,hr',sF,λp hp=>by
         rcases Nat.lt_or_ge p (i+b.length+1)with h|h
         ·have:=NS.out (Nat.le_refl _)
          omega
         ·exact Jw.out p h,tI (Nat.le_refl _) qg.out bR.out VB.out gI.out⟩
       case measure=>(simp[intOf]; try omega)
      ·obtain⟨vu,yw,Ai⟩:=hr'.get (i:=i+b.length) (by have:=qf.out; omega)
       have sw:=hr'.frozen (i+b.length)
       have Ud:vu=0:=by
        have h:=NS.out (Nat.le_refl _)
        rw[List.getD_eq_getElem?_getD,Ai.out]at h
        simpa using h
       subst Ud
       have Ue:=dm HC.out.1
       have pn:(0:Int)<(c:Int):=by omega
       have C1:=bx (show(c:Int)/4294967296=((0:Nat):Int) by omega)
       have C2:=bx (show(c:Int)%4294967296=(c:Int) by omega)
       go_wp2
       rw[C1.out,C2.out]
       go_roundw
       case rel=>
        obtain⟨o2,hl2,Ck,hr2,hb2,hz2,hv2⟩:=xC HC.out.1 (by omega) qf.out uK hr' (Nat.le_refl _) sF Jw.out (NS.out (Nat.le_refl _)) qg.out
        exact⟨b.length+1,0,o2,by omega,by go_num,rfl,bx ⟨by unfold ai; omega,λ_=>rfl⟩,bx hl2,Ck,hr2,hb2,bx hz2,bx (λh=>by omega),bx hv2⟩
       case measure=>(simp[intOf]; try omega)
     ·obtain rfl:k=b.length+1:=by omega
      obtain rfl:c=0:=HC.out.2 rfl
      go_wp2
      go_roundw
      case rel=>
       exact⟨i+1,o',by omega,by go_num,qf.out,uK,hr',sF,λp hp=>Jw.out p (by omega),tI (by omega) qg.out bR.out VB.out gI.out⟩
      case measure=>(simp[intOf]; try omega)
  ·obtain rfl:i=a.length:=by omega
   have dJ:val ai o=m*n:=by
    have h:=bR.out
    rw[List.take_length,VA.out]at h
    exact h
   have HF:=Lib.hid dJ
   clear dJ
   have hrd:=hr.dI (c:=a.length+b.length) (by have:=cD.out; omega) (by unfold maxLen; omega)
   go_wp2_with fail
   refine(od _ _ _ o (m*n) hrd dw _ cD.out HF.out).mono ?_
   rintro e w' ⟨rfl,kn,rfl,hv⟩
   go_wp2
   go_ret
   exact⟨_,_,_,Nat.le_refl _,rfl,hv,hbl⟩
theorem kP (w:World) (v1 v2:Value) (m n:Nat) (h1:aV .u32 ai w v1 m) (h2:aV .u32 ai w v2 n) {j k:Nat} (hj:Bd j m) (hk:Bd k n) (cQ:j<=1000000000) (lQ:k<=1000000000):
  Calls Tryz.prog 79 #[v1,v2] w (dG .u32 ai w (m*n)):=(nx w v1 v2 m n h1 h2 hj hk cQ lQ).mono λ_ _ h=>h.num
end Wx
