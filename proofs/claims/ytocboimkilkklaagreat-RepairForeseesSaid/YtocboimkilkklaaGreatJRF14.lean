import Derived.Test.YtocboimkilkklaaGreatJRF13
namespace Wx
set_option maxRecDepth 100000
set_option maxHeartbeats 1000000
open Go Go.RowKit Go.Proofs
variable {b:Nat}
theorem EP (hb:0<b) {l:List Nat} (h:Wf b l) (i:Nat):l.getD i 0<b:=by
 rw[List.getD_eq_getElem?_getD]
 cases e:l[i]? with
 |none=>simpa using hb
 |some z=>exact h _ (List.mem_of_getElem? e)
variable {x y o:List Nat} {cr L:Nat}
theorem lP {i vx vy g:Nat} {wr w0:World} (ew:o.length=i) (hlt:i<L) (wx:Wf af x) (wy:Wf af y) (AD:cr<=1) (fg:Wf af o)
  (hx:x.getD i 0=vx) (hy:y.getD i 0=vy) (hr:Row wr .u32 128 g (o++List.replicate (L-i) 0)) (hbl:Below w0.heap.size w0 wr) (hg:w0.heap.size<=g)
  (hval:val af o+af^i*cr=val af (x.take i)+val af (y.take i)):
  ∃(o':List Nat),(cr+vx+vy)/af<=1/\o'.length=i+1/\Wf af o' /\
   Row (wr.setCell ⟨g,i,none⟩ (.int .u32 (((cr+vx+vy)%af:Nat):Int))) .u32 128 g (o'++List.replicate (L-(i+1)) 0) /\
   Below w0.heap.size w0 (wr.setCell ⟨g,i,none⟩ (.int .u32 (((cr+vx+vy)%af:Nat):Int)))/\val af o'+af^(i+1)*((cr+vx+vy)/af)=val af (x.take (i+1))+val af (y.take (i+1)):=by
 have qb:vx<af:=by rw[<-hx]; exact EP (by unfold af; omega) wx i
 have AF:vy<af:=by rw[<-hy]; exact EP (by unfold af; omega) wy i
 refine⟨o++[(cr+vx+vy)%af],by unfold af at *; omega,by simp[ew],fg.append (Wf.cons (Nat.mod_lt _ (by unfold af; omega)) (Wf.nil _)),?_,hbl.setCell hg _,?_⟩
 ·have h:=hr.set i ((cr+vx+vy)%af)
  rw[show L-i=(L-(i+1))+1 by omega,List.replicate_succ,ki ew]at h
  rw[List.append_assoc]
  exact h
 ·exact BD ew hval (by rw[eO,hx]) (by rw[eO,hy]) (by have:=Nat.mod_add_div (cr+vx+vy) af; omega)
theorem Js {s:Nat} (hb:2<=b) (wx:Wf b x) (wy:Wf b y) (M8:x.length<L) (RM:y.length<L) (hval:val b o+b^L*cr=val b (x.take L)+val b (y.take L))
  (hs:val b x+val b y=s):val b o=s:=by
 rw[List.take_of_length_le (by omega),List.take_of_length_le (by omega),hs]at hval
 have h1:=gC wx
 have h2:=gC wy
 obtain⟨K,rfl⟩:∃K,L=K+1:=⟨L-1,by omega⟩
 have h3:b^x.length<=b^K:=Nat.pow_le_pow_right (by omega) (by omega)
 have h4:b^y.length<=b^K:=Nat.pow_le_pow_right (by omega) (by omega)
 rcases Nat.eq_zero_or_pos cr with rfl|hc
 ·omega
 ·have h5:b^(K+1)<=b^(K+1)*cr:=Nat.le_mul_of_pos_right _ hc
  have h6:2*b^K<=b^(K+1):=by rw[Nat.pow_succ,Nat.mul_comm]; exact Nat.mul_le_mul_left _ hb
  omega
theorem fc {x:Nat} (h:x<af):(x:Int)<=4294967295:=by unfold af at h; omega
theorem EF (w:World) (v1 v2:Value) (m n:Nat) (h1:bq .u32 af w v1 m) (h2:bq .u32 af w v2 n) {j k:Nat} (hj:Bd j m) (hk:Bd k n) (de:j<=1000000000) (jE:k<=1000000000):
  Calls Tryz.prog 77 #[v1,v2] w (eW .u32 af w (m+n)):=by
 obtain⟨A,c,rfl,ha⟩:=h1
 obtain⟨B,d,rfl,hb⟩:=h2
 have hla:=qh hj
 have hlb:=qh hk
 have hv:val af (ae af m)+val af (ae af n)=m+n:=by rw[bF ak,bF ak]
 have wa:=bW ak m
 have wb:=bW ak n
 clear hj hk
 generalize ae af m=x at *
 generalize ae af n=y at *
 generalize m+n=s at *
 have HV:=Lib.hid hv
 clear hv
 have M8:x.length<=1000000000:=by omega
 have RM:y.length<=1000000000:=by omega
 clear hla hlb
 go_enter Tryz.func77,Tryz.ntmps77
 go_upto_region 1 with(fail)
 go_cut [5] (λv5 w'=>∃L:Nat,v5=.slice (some ⟨w.heap.size,0,none⟩) (L+1) (L+1)/\x.length<=L/\y.length<=L/\L<=1000000000/\Row w' .u32 128 w.heap.size (List.replicate (L+1) 0)/\Below w.heap.size w w')
 case first=>
  by_cases h:x.length<y.length
  ·go_wp2_with (at_make; refine da _ rfl _ _ _ rfl .u32 128 Tryz.underlying36 lK _ _ rfl rfl (by omega) (by omega) (by omega) ?_; intro w1 hrow cV hsz)
   go_meet
   case rel=>
    (try rw[show(max (x.length:Int) (y.length:Int)+1).toNat=y.length+1 by omega]at *)
    (try rw[show((y.length:Int)+1).toNat=y.length+1 by omega]at *)
    exact⟨y.length,rfl,by omega,by omega,by omega,hrow,cV⟩
  ·go_wp2_with (at_make; refine da _ rfl _ _ _ rfl .u32 128 Tryz.underlying36 lK _ _ rfl rfl (by omega) (by omega) (by omega) ?_; intro w1 hrow cV hsz)
   go_meet
   case rel=>
    (try rw[show(max (x.length:Int) (y.length:Int)+1).toNat=x.length+1 by omega]at *)
    (try rw[show((x.length:Int)+1).toNat=x.length+1 by omega]at *)
    exact⟨x.length,rfl,by omega,by omega,by omega,hrow,cV⟩
 case rest=>
  obtain⟨L,rfl,hL1,hL2,hL3,hrow,cV⟩:=hcut
  go_wp2_with fail
  go_loopw [6,7] (λs6 s7 wr=>∃(i cr:Nat) (o:List Nat),i<=L+1/\s7=.int .i64 i/\s6=.int .u64 cr/\cr<=1/\o.length=i/\Wf af o/\Row wr .u32 128 w.heap.size (o++List.replicate (L+1-i) 0)/\Below w.heap.size w wr/\val af o+af^i*cr=val af (x.take i)+val af (y.take i))
   (λ_ s7 _=>L+1-(RowKit.intOf s7).toNat)
  case atStart=>exact⟨0,0,[],by omega,rfl,rfl,by omega,rfl,Wf.nil _,by simpa using hrow,cV,by simp[val]⟩
  case round=>
   obtain⟨i,cr,o,hi,rfl,rfl,AD,ew,fg,hr,hbl,hval⟩:=hrel
   have dh:=Lib.hid hval
   have en:=Lib.hid ew
   clear hval ew hrow cV
   by_cases hlt:i<L+1
   ·obtain⟨vo,DY,GI⟩:=hr.get (i:=i) (by have:=en.out; simp; omega)
    have vU:=hr.frozen i
    by_cases hx1:i<x.length
    ·obtain⟨bx,ox,vx,rfl,xo,jG⟩:=(ha.below hbl).get hx1
     have qb:=fc (wa _ (List.mem_of_getElem? jG.out))
     by_cases qP:i<y.length
     ·obtain⟨N0,oy,vy,rfl,Iw,sq⟩:=(hb.below hbl).get qP
      have AF:=fc (wb _ (List.mem_of_getElem? sq.out))
      go_wp2
      go_roundw
      case rel=>
       obtain⟨o',hc',r⟩:=lP (vx:=vx) (vy:=vy) en.out hlt wa wb AD fg (by rw[List.getD_eq_getElem?_getD,jG.out]; rfl) (by rw[List.getD_eq_getElem?_getD,sq.out]; rfl) hr hbl (Nat.le_refl _) dh.out
       exact⟨i+1,_,o',by omega,by go_num,by go_num,hc',r⟩
      case measure=>simp[RowKit.intOf]; omega
     ·go_wp2
      go_roundw
      case rel=>
       obtain⟨o',hc',r⟩:=lP (vx:=vx) (vy:=0) en.out hlt wa wb AD fg (by rw[List.getD_eq_getElem?_getD,jG.out]; rfl) (by rw[List.getD_eq_getElem?_getD,List.getElem?_eq_none (by omega)]; rfl) hr hbl (Nat.le_refl _) dh.out
       exact⟨i+1,_,o',by omega,by go_num,by go_num,hc',r⟩
      case measure=>simp[RowKit.intOf]; omega
    ·by_cases qP:i<y.length
     ·obtain⟨N0,oy,vy,rfl,Iw,sq⟩:=(hb.below hbl).get qP
      have AF:=fc (wb _ (List.mem_of_getElem? sq.out))
      go_wp2
      go_roundw
      case rel=>
       obtain⟨o',hc',r⟩:=lP (vx:=0) (vy:=vy) en.out hlt wa wb AD fg (by rw[List.getD_eq_getElem?_getD,List.getElem?_eq_none (by omega)]; rfl) (by rw[List.getD_eq_getElem?_getD,sq.out]; rfl) hr hbl (Nat.le_refl _) dh.out
       exact⟨i+1,_,o',by omega,by go_num,by go_num,hc',r⟩
      case measure=>simp[RowKit.intOf]; omega
     ·go_wp2
      go_roundw
      case rel=>
       obtain⟨o',hc',r⟩:=lP (vx:=0) (vy:=0) en.out hlt wa wb AD fg (by rw[List.getD_eq_getElem?_getD,List.getElem?_eq_none (by omega)]; rfl) (by rw[List.getD_eq_getElem?_getD,List.getElem?_eq_none (by omega)]; rfl) hr hbl (Nat.le_refl _) dh.out
       exact⟨i+1,_,o',by omega,by go_num,by go_num,hc',r⟩
      case measure=>simp[RowKit.intOf]; omega
   ·obtain rfl:i=L+1:=by omega
    have HF:=Lib.hid (Js ak wa wb (by omega) (by omega) dh.out HV.out)
    rw[Nat.sub_self,List.replicate_zero,List.append_nil]at hr
    have hrd:=hr.fF (c:=L+1) (by have:=en.out; omega) (by unfold maxLen; omega)
    go_wp2_with fail
    refine(qn _ _ _ o s hrd fg _ en.out HF.out).mono ?_
    rintro e w' ⟨rfl,v,rfl,hv⟩
    go_wp2
    go_ret
    exact⟨v,rfl,hv,hbl⟩
end Wx

namespace Wx
set_option maxRecDepth 100000
set_option maxHeartbeats 1000000
open Go Go.RowKit Go.Proofs
variable {x y o:List Nat} {br:Nat}
theorem jO {i vx vy s t L g:Nat} {wr w0:World} (ew:o.length=i) (hlt:i<L) (fg:Wf af o) (hs:s+vy+br=vx+af*t) (Fv:s<af)
  (hx:x.getD i 0=vx) (hy:y.getD i 0=vy) (hr:Row wr .u32 128 g (o++List.replicate (L-i) 0)) (hbl:Below w0.heap.size w0 wr) (hg:w0.heap.size<=g)
  (hval:val af o+val af (y.take i)=val af (x.take i)+af^i*br):
  ∃(o':List Nat),o'.length=i+1/\Wf af o' /\
   Row (wr.setCell ⟨g,i,none⟩ (.int .u32 (s:Int))) .u32 128 g (o'++List.replicate (L-(i+1)) 0) /\
   Below w0.heap.size w0 (wr.setCell ⟨g,i,none⟩ (.int .u32 (s:Int)))/\val af o'+val af (y.take (i+1))=val af (x.take (i+1))+af^(i+1)*t:=by
 refine⟨o++[s],by simp[ew],fg.append (Wf.cons Fv (Wf.nil _)),?_,hbl.setCell hg _,?_⟩
 ·have h:=hr.set i s
  rw[show L-i=(L-(i+1))+1 by omega,List.replicate_succ,ki ew]at h
  rw[List.append_assoc]
  exact h
 ·exact Ac ew hval (by rw[eO,hx]) (by rw[eO,hy]) hs
theorem F0 {b m n:Nat} (fg:Wf b o) (ew:o.length=x.length) (RM:y.length<=x.length) (hval:val b o+val b (y.take x.length)=val b (x.take x.length)+b^x.length*br)
  (hm:val b x=m) (hn:val b y=n) (hnm:n<=m):val b o=m-n:=by
 rw[List.take_of_length_le (Nat.le_refl _),List.take_of_length_le RM,hm,hn]at hval
 have hlt:=gC fg
 rw[ew]at hlt
 rcases Nat.eq_zero_or_pos br with rfl|hb
 ·omega
 ·have h5:b^x.length<=b^x.length*br:=Nat.le_mul_of_pos_right _ hb
  omega
theorem mg (w:World) (v1 v2:Value) (m n:Nat) (h1:bq .u32 af w v1 m) (h2:bq .u32 af w v2 n) (hnm:n<=m) {j:Nat} (hj:Bd j m) (de:j<=1000000000):
  Calls Tryz.prog 79 #[v1,v2] w (nF w (m-n)):=by
 obtain⟨X,cx,rfl,hx⟩:=h1
 obtain⟨Y,cy,rfl,hy⟩:=h2
 have hla:=qh hj
 have wq:(ae af n).length<=(ae af m).length:=by
  rcases Nat.lt_or_ge (ae af m).length (ae af n).length with h|h
  ·have:=cZ ak h; omega
  ·exact h
 have wx:=bW ak m
 have wy:=bW ak n
 have qb:=bF ak m
 have AF:=bF ak n
 clear hj
 generalize ae af m=x at *
 generalize ae af n=y at *
 have M8:x.length<=1000000000:=by omega
 clear hla
 have HX:=Lib.hid qb
 have HY:=Lib.hid AF
 clear qb AF
 go_enter Tryz.func79,Tryz.ntmps79
 go_wp2_with (at_make; refine da _ rfl _ _ _ rfl .u32 128 Tryz.underlying36 lK _ _ rfl rfl (by omega) (by omega) (by omega) ?_; intro w1 hrow cV hsz)
 rw[Int.toNat_natCast]at hrow
 go_loopw [6,7] (λs6 s7 wr=>∃(i br:Nat) (o:List Nat),i<=x.length/\s7=.int .i64 i/\s6=.int .u64 br/\br<=1/\o.length=i/\Wf af o/\Row wr .u32 128 w.heap.size (o++List.replicate (x.length-i) 0)/\Below w.heap.size w wr/\val af o+val af (y.take i)=val af (x.take i)+af^i*br)
  (λ_ s7 _=>x.length-(RowKit.intOf s7).toNat)
 case atStart=>exact⟨0,0,[],by omega,rfl,rfl,by omega,rfl,Wf.nil _,by simpa using hrow,cV,by simp[val]⟩
 case round=>
  obtain⟨i,br,o,hi,rfl,rfl,AD,ew,fg,hr,hbl,hval⟩:=hrel
  have dh:=Lib.hid hval
  have en:=Lib.hid ew
  clear hval ew hrow cV hsz
  by_cases hlt:i<x.length
  ·obtain⟨bx,ox,vx,rfl,xo,jG⟩:=(hx.below hbl).get hlt
   have qb:=fc (wx _ (List.mem_of_getElem? jG.out))
   obtain⟨vo,DY,GI⟩:=hr.get (i:=i) (by have:=en.out; simp; omega)
   have vU:=hr.frozen i
   have UY:(0:Int)<=(i:Int):=by omega
   have UZ:(i:Int)<(x.length:Int):=by omega
   by_cases qP:i<y.length
   ·obtain⟨N0,oy,vy,rfl,Iw,sq⟩:=(hy.below hbl).get qP
    have AF:=fc (wy _ (List.mem_of_getElem? sq.out))
    by_cases rj:vx<br+vy
    ·skip
     have OP:(vx:Int)<(br:Int)+(vy:Int):=by omega
     have E:=Lib.hid (show((vx:Int)+4294967296-((br:Int)+(vy:Int)))=(((vx+4294967296-(br+vy)):Nat):Int) by omega)
     have R4:(0:Int)<=(vx:Int)+4294967296-((br:Int)+(vy:Int)):=by omega
     go_wp2
     go_roundw
     case rel=>
      obtain⟨o',r⟩:=jO (vx:=vx) (vy:=vy) (s:=(vx+4294967296-(br+vy))) (t:=1) en.out hlt fg (by unfold af; omega) (by unfold af; omega) (by rw[List.getD_eq_getElem?_getD,jG.out]; rfl) (by rw[List.getD_eq_getElem?_getD,sq.out]; rfl) hr hbl (Nat.le_refl _) dh.out
      rw[E.out]
      exact⟨i+1,1,o',by omega,by go_num,rfl,by omega,r⟩
     case measure=>simp[RowKit.intOf]; omega
    ·skip
     have OP:¬((vx:Int)<(br:Int)+(vy:Int)):=by omega
     have E:=Lib.hid (show((vx:Int)-((br:Int)+(vy:Int)))=(((vx-(br+vy)):Nat):Int) by omega)
     have R4:(0:Int)<=(vx:Int)-((br:Int)+(vy:Int)):=by omega
     go_wp2
     go_roundw
     case rel=>
      obtain⟨o',r⟩:=jO (vx:=vx) (vy:=vy) (s:=(vx-(br+vy))) (t:=0) en.out hlt fg (by unfold af; omega) (by unfold af; omega) (by rw[List.getD_eq_getElem?_getD,jG.out]; rfl) (by rw[List.getD_eq_getElem?_getD,sq.out]; rfl) hr hbl (Nat.le_refl _) dh.out
      rw[E.out]
      exact⟨i+1,0,o',by omega,by go_num,rfl,by omega,r⟩
     case measure=>simp[RowKit.intOf]; omega
   ·by_cases rj:vx<br
    ·skip
     have OP:(vx:Int)<(br:Int):=by omega
     have E:=Lib.hid (show((vx:Int)+4294967296-(br:Int))=(((vx+4294967296-(br+0)):Nat):Int) by omega)
     have R4:(0:Int)<=(vx:Int)+4294967296-(br:Int):=by omega
     go_wp2
     go_roundw
     case rel=>
      obtain⟨o',r⟩:=jO (vx:=vx) (vy:=0) (s:=(vx+4294967296-(br+0))) (t:=1) en.out hlt fg (by unfold af; omega) (by unfold af; omega) (by rw[List.getD_eq_getElem?_getD,jG.out]; rfl) (by rw[List.getD_eq_getElem?_getD,List.getElem?_eq_none (by omega)]; rfl) hr hbl (Nat.le_refl _) dh.out
      rw[E.out]
      exact⟨i+1,1,o',by omega,by go_num,rfl,by omega,r⟩
     case measure=>simp[RowKit.intOf]; omega
    ·skip
     have OP:¬((vx:Int)<(br:Int)):=by omega
     have E:=Lib.hid (show((vx:Int)-(br:Int))=(((vx-(br+0)):Nat):Int) by omega)
     have R4:(0:Int)<=(vx:Int)-(br:Int):=by omega
     go_wp2
     go_roundw
     case rel=>
      obtain⟨o',r⟩:=jO (vx:=vx) (vy:=0) (s:=(vx-(br+0))) (t:=0) en.out hlt fg (by unfold af; omega) (by unfold af; omega) (by rw[List.getD_eq_getElem?_getD,jG.out]; rfl) (by rw[List.getD_eq_getElem?_getD,List.getElem?_eq_none (by omega)]; rfl) hr hbl (Nat.le_refl _) dh.out
      rw[E.out]
      exact⟨i+1,0,o',by omega,by go_num,rfl,by omega,r⟩
     case measure=>simp[RowKit.intOf]; omega
  ·obtain rfl:i=x.length:=by omega
   have HF:=Lib.hid (F0 fg en.out wq dh.out HX.out HY.out hnm)
   rw[Nat.sub_self,List.replicate_zero,List.append_nil]at hr
   have hrd:=hr.fF (c:=x.length) (by have:=en.out; omega) (by unfold maxLen; omega)
   go_wp2_with fail
   refine(rB _ _ _ o (m-n) hrd fg _ en.out HF.out).mono ?_
   rintro e w' ⟨rfl,kn,rfl,hv⟩
   go_wp2
   go_ret
   exact⟨_,_,_,Nat.le_refl _,rfl,hv,hbl⟩
theorem tR (w:World) (v1 v2:Value) (m n:Nat) (h1:bq .u32 af w v1 m) (h2:bq .u32 af w v2 n) (hnm:n<=m) {j:Nat} (hj:Bd j m) (de:j<=1000000000):
  Calls Tryz.prog 79 #[v1,v2] w (eW .u32 af w (m-n)):=(mg w v1 v2 m n h1 h2 hnm hj de).mono λ_ _ h=>h.num
end Wx

namespace Wx
set_option maxRecDepth 100000
set_option maxHeartbeats 1000000
open Go Go.RowKit Go.Proofs
@[irreducible] def npLo (x y u c : Nat) : Nat := (u + c + x * y) % 4294967296
@[irreducible] def npHi (x y u c : Nat) : Nat := (u + c + x * y) / 4294967296
theorem LN (x y u c:Nat):npLo x y u c+af*npHi x y u c=x*y+u+c:=by unfold npLo npHi af; omega
theorem LM (x y u c:Nat):npLo x y u c<af:=by unfold npLo af; omega
variable {c:Nat}
theorem Ed {x y u:Nat} (hx:x<af) (hy:y<af) (hu:u<af) (hc:c<af):npHi x y u c<af/\u+c+x*y<18446744073709551616:=by
 have hxy:x*y<=4294967295*4294967295:=Nat.mul_le_mul (by unfold af at hx; omega) (by unfold af at hy; omega)
 unfold af npHi at *
 omega
variable {w0 wr:World} {g:Nat} {o b:List Nat} {i k vx vy vu s N:Nat}
theorem Ba (hk:k<b.length) (hc:c<af) (ew:o.length=N) (fg:Wf af o) (hx:vx<af) (hy:vy<af) (hu:vu<af)
  (hr:Row wr .u32 128 g o) (hg:w0.heap.size<=g) (hbl:Below w0.heap.size w0 wr) (hz:∀p,i+b.length+1<=p->o.getD p 0=0) (hz0:o.getD (i+b.length) 0=0) (hval:val af o+af^(i+k)*c=s+af^i*(vx*val af (b.take k)))
  (HU:o[i+k]?=some vu) (HY:b[k]?=some vy):
  ∃(o':List Nat),npHi vx vy vu c<af/\o'.length=N/\Wf af o' /\
   Row (wr.setCell ⟨g,i+k,none⟩ (.int .u32 (npLo vx vy vu c:Nat))) .u32 128 g o'/\Below w0.heap.size w0 (wr.setCell ⟨g,i+k,none⟩ (.int .u32 (npLo vx vy vu c:Nat))) /\
   (∀p,i+b.length+1<=p->o'.getD p 0=0)/\o'.getD (i+b.length) 0=0/\val af o'+af^(i+(k+1))*npHi vx vy vu c=s+af^i*(vx*val af (b.take (k+1))):=by
 refine⟨o.set (i+k) (npLo vx vy vu c),(Ed hx hy hu hc).1,by simp[ew],fg.set (LM _ _ _ _),hr.set _ _,hbl.setCell hg _,?_,?_,AW hval HU HY (LN _ _ _ _)⟩
 ·intro p hp
  rw[getD_set_ne (by omega)]; exact hz p hp
 ·rw[getD_set_ne (by omega)]; exact hz0
theorem A9 (hc:c<af) (hN:i+b.length<N) (ew:o.length=N) (fg:Wf af o)
  (hr:Row wr .u32 128 g o) (hg:w0.heap.size<=g) (hbl:Below w0.heap.size w0 wr) (hz:∀p,i+b.length+1<=p->o.getD p 0=0) (hz0:o.getD (i+b.length) 0=0) (hval:val af o+af^(i+b.length)*c=s+af^i*(vx*val af (b.take b.length))):
  ∃(o':List Nat),o'.length=N/\Wf af o' /\
   Row (wr.setCell ⟨g,i+b.length,none⟩ (.int .u32 (c:Nat))) .u32 128 g o'/\Below w0.heap.size w0 (wr.setCell ⟨g,i+b.length,none⟩ (.int .u32 (c:Nat))) /\
   (∀p,i+b.length+1<=p->o'.getD p 0=0)/\val af o'+af^(i+(b.length+1))*0=s+af^i*(vx*val af (b.take (b.length+1))):=by
 refine⟨o.set (i+b.length) c,by simp[ew],fg.set hc,hr.set _ _,hbl.setCell hg _,λp hp=>by rw[getD_set_ne (by omega)]; exact hz p hp,?_⟩
 have hu:o[i+b.length]?=some 0:=by
  rw[List.getD_eq_getElem?_getD,List.getElem?_eq_getElem (by omega)]at hz0
  rw[List.getElem?_eq_getElem (by omega)]
  simpa using hz0
 have h1:=oh (b:=af) hu c
 rw[Nat.mul_zero,Nat.add_zero]at h1
 rw[h1,hval,Nat.mul_zero,Nat.add_zero,List.take_length,List.take_of_length_le (by omega)]
theorem xD {b:Nat} {o0 x y:List Nat} {n:Nat} (hk:y.length<=k) (hval:val b o+b^(i+k)*0=val b o0+b^i*(vx*val b (y.take k))) (h0:val b o0=val b (x.take i)*n) (hb:val b y=n) (hx:x[i]?=some vx):
  val b o=val b (x.take (i+1))*n:=by
 rw[Nat.mul_zero,Nat.add_zero,List.take_of_length_le hk,hb]at hval
 rw[hval,h0,cQ hx,Nat.add_mul,Nat.mul_assoc]
theorem Pk (hx:vx<af) (hy:vy<af) (hu:vu<af) (hc:c<af):
  IntKind.u64.wrap ((IntKind.u64.wrap ((vu:Int)+(c:Int)+IntKind.u64.wrap ((vx:Int)*(vy:Int)))).tdiv 4294967296)=((npHi vx vy vu c:Nat):Int) /\
  (IntKind.u64.wrap ((vu:Int)+(c:Int)+IntKind.u64.wrap ((vx:Int)*(vy:Int)))).tmod 4294967296%4294967296=((npLo vx vy vu c:Nat):Int):=by
 obtain⟨h1,h2⟩:=Ed hx hy hu hc
 have e0:IntKind.u64.wrap ((vx:Int)*(vy:Int))=((vx*vy:Nat):Int):=by
  rw[<-Int.natCast_mul,wrap_u64 (by omega) (by omega)]
 have e:(vu:Int)+(c:Int)+((vx*vy:Nat):Int)=((vu+c+vx*vy:Nat):Int):=by omega
 rw[e0,e]
 unfold npLo npHi at *
 generalize vu+c+vx*vy=N at *
 unfold af at h1
 rw[wrap_u64 (n:=(N:Int)) (by omega) (by omega),Int.tdiv_eq_ediv_of_nonneg (by omega),Int.tmod_eq_emod_of_nonneg (by omega),wrap_u64 (by omega) (by omega)]
 omega
theorem qx (w:World) (v1 v2:Value) (m n:Nat) (h1:bq .u32 af w v1 m) (h2:bq .u32 af w v2 n) {j k:Nat} (hj:Bd j m) (hk:Bd k n) (de:j<=1000000000) (jE:k<=1000000000):
  Calls Tryz.prog 49 #[v1,v2] w (nF w (m*n)):=by
 obtain⟨A,c,rfl,ha⟩:=h1
 obtain⟨B,d,rfl,hb⟩:=h2
 have hla:=qh hj
 have hlb:=qh hk
 have um:=bF ak m
 have O3:=bF ak n
 have wa:=bW ak m
 have wb:=bW ak n
 clear hj hk
 go_enter Tryz.func49,Tryz.ntmps49
 generalize ae af m=a at *
 generalize ae af n=b at *
 have VA:=Lib.hid um
 have VB:=Lib.hid O3
 clear um O3
 have U1:a.length<=100000000:=by omega
 have U2:b.length<=100000000:=by omega
 clear hla hlb
 go_wp2_with (at_make; refine da _ rfl _ _ _ rfl .u32 128 Tryz.underlying36 lK _ _ rfl rfl (by omega) (by omega) (by omega) ?_; intro w1 hrow cV hsz)
 rw[show((a.length:Int)+(b.length:Int)).toNat=a.length+b.length by omega]at hrow
 go_loopw [6] (λs6 wr=>∃(i:Nat) (o:List Nat),i<=a.length/\s6=.int .i64 i/\o.length=a.length+b.length/\Wf af o/\Row wr .u32 128 w.heap.size o/\Below w.heap.size w wr/\(∀p,i+b.length<=p->o.getD p 0=0)/\val af o=val af (a.take i)*n)
  (λs6 _=>a.length-(RowKit.intOf s6).toNat)
 case atStart=>exact⟨0,List.replicate (a.length+b.length) 0,by omega,rfl,by simp,Wf.replicate (by unfold af; omega) _,hrow,cV,λp _=>by simp[List.getD_eq_getElem?_getD,List.getElem?_replicate]; split<;>rfl,by rw[gn]; simp[val]⟩
 case round=>
  obtain⟨i,o,hi,rfl,ew,fg,hr,hbl,hz,hval⟩:=hrel
  have dh:=Lib.hid hval
  have en:=Lib.hid ew
  have HZ:=Lib.hid hz
  clear hval ew hz hrow cV hsz
  by_cases hlt:i<a.length
  ·obtain⟨gx,ox,vx,rfl,_,jG⟩:=(ha.below hbl).get hlt
   have MA:=Lib.hid (wa _ (List.mem_of_getElem? jG.out))
   have qb:=fc MA.out
   have UY:(0:Int)<=(i:Int):=by omega
   have UZ:(i:Int)<(a.length:Int):=by omega
   go_wp2_with fail
   obtain⟨wo,rfl⟩:∃wo:World,wo=wr:=⟨_,rfl⟩
   go_loopw [7,8] (λs7 s8 wr=>∃(k c:Nat) (o':List Nat),k<=b.length+1/\s8=.int .i64 k/\s7=.int .u64 c/\Bx (c<af/\(k=b.length+1->c=0))/\Bx (o'.length=a.length+b.length)/\Wf af o'/\Row wr .u32 128 w.heap.size o'/\Below w.heap.size w wr/\Bx (∀p,i+b.length+1<=p->o'.getD p 0=0)/\Bx (k<=b.length->o'.getD (i+b.length) 0=0)/\Bx (val af o'+af^(i+k)*c=val af o+af^i*(vx*val af (b.take k))))
    (λ_ s8 _=>b.length+1-(RowKit.intOf s8).toNat)
   case atStart=>exact⟨0,0,o,by omega,rfl,rfl,bx ⟨by unfold af; omega,by omega⟩,bx en.out,fg,hr,hbl,bx (λp hp=>HZ.out p (by omega)),bx (λ_=>HZ.out _ (Nat.le_refl _)),bx (by simp[val])⟩
   case round=>
    clear hr fg
    obtain⟨k,c,o',hk,rfl,rfl,HC,tu,yQ,hr',wk,NR,SN,tv⟩:=hrel
    have xo:=((ha.below wk).at_ hlt)
    by_cases hlk:k<b.length
    ·obtain⟨b1,o1,e1,xo⟩:=xo
     injection e1 with e1
     injection e1 with e1 e2
     subst e1 e2
     rw[List.getD_eq_getElem?_getD,jG.out,Option.getD_some]at xo
     obtain⟨N0,oy,vy,rfl,Iw,sq⟩:=(hb.below wk).get hlk
     obtain⟨vu,BN,Dq⟩:=hr'.get (i:=i+k) (by have:=tu.out; omega)
     have vU:=hr'.frozen (i+k)
     have PV:=Lib.hid (wb _ (List.mem_of_getElem? sq.out))
     have Qj:=Lib.hid (yQ _ (List.mem_of_getElem? Dq.out))
     have AF:=fc PV.out
     have R3:=fc Qj.out
     have Zs:=fc HC.out.1
     have BO:(0:Int)<=(k:Int):=by omega
     have jE:(k:Int)<(b.length:Int):=by omega
     obtain⟨q1,q2⟩:=Pk MA.out PV.out Qj.out HC.out.1
     have Q1:=bx q1
     have Q2:=bx q2
     clear q1 q2
     go_wp2
     go_quiet (fail)
     go_wp2
     rw[Q1.out,Q2.out]
     go_roundw
     case rel=>
      obtain⟨o2,hc2,hl2,Fy,hr2,hb2,hz2,hz3,hv2⟩:=Ba hlk HC.out.1 tu.out yQ MA.out PV.out Qj.out (hr'.drewN nq) (Nat.le_refl _) (below_drewN wk nq) NR.out (SN.out (by omega)) tv.out Dq.out sq.out
      exact⟨k+1,_,o2,by omega,by go_num,rfl,bx ⟨hc2,λh=>by omega⟩,bx hl2,Fy,hr2,hb2,bx hz2,bx (λ_=>hz3),bx hv2⟩
     case measure=>(simp[RowKit.intOf]; try omega)
    ·clear xo
     by_cases hkb:k=b.length
     ·subst hkb
      rcases Nat.eq_zero_or_pos c with rfl|hc0
      ·go_wp2
       go_roundw
       case rel=>
        exact⟨i+1,o',by omega,by go_num,tu.out,yQ,hr',wk,λp hp=>by
         rcases Nat.lt_or_ge p (i+b.length+1)with h|h
         ·have:=SN.out (Nat.le_refl _)
          omega
         ·exact NR.out p h,xD (Nat.le_refl _) tv.out dh.out VB.out jG.out⟩
       case measure=>(simp[RowKit.intOf]; try omega)
      ·obtain⟨vu,BN,Dq⟩:=hr'.get (i:=i+b.length) (by have:=tu.out; omega)
       have vU:=hr'.frozen (i+b.length)
       have Zr:vu=0:=by
        have h:=SN.out (Nat.le_refl _)
        rw[List.getD_eq_getElem?_getD,Dq.out]at h
        simpa using h
       subst Zr
       have Zs:=fc HC.out.1
       have rf:(0:Int)<(c:Int):=by omega
       have C1:=bx (show(c:Int)/4294967296=((0:Nat):Int) by omega)
       have C2:=bx (show(c:Int)%4294967296=(c:Int) by omega)
       go_wp2
       rw[C1.out,C2.out]
       go_roundw
       case rel=>
        obtain⟨o2,hl2,Fy,hr2,hb2,hz2,hv2⟩:=A9 HC.out.1 (by omega) tu.out yQ hr' (Nat.le_refl _) wk NR.out (SN.out (Nat.le_refl _)) tv.out
        exact⟨b.length+1,0,o2,by omega,by go_num,rfl,bx ⟨by unfold af; omega,λ_=>rfl⟩,bx hl2,Fy,hr2,hb2,bx hz2,bx (λh=>by omega),bx hv2⟩
       case measure=>(simp[RowKit.intOf]; try omega)
     ·obtain rfl:k=b.length+1:=by omega
      obtain rfl:c=0:=HC.out.2 rfl
      go_wp2
      go_roundw
      case rel=>
       exact⟨i+1,o',by omega,by go_num,tu.out,yQ,hr',wk,λp hp=>NR.out p (by omega),xD (by omega) tv.out dh.out VB.out jG.out⟩
      case measure=>(simp[RowKit.intOf]; try omega)
  ·obtain rfl:i=a.length:=by omega
   have cW:val af o=m*n:=by
    have h:=dh.out
    rw[List.take_length,VA.out]at h
    exact h
   have HF:=Lib.hid cW
   clear cW
   have hrd:=hr.fF (c:=a.length+b.length) (by have:=en.out; omega) (by unfold maxLen; omega)
   go_wp2_with fail
   refine(rB _ _ _ o (m*n) hrd fg _ en.out HF.out).mono ?_
   rintro e w' ⟨rfl,kn,rfl,hv⟩
   go_wp2
   go_ret
   exact⟨_,_,_,Nat.le_refl _,rfl,hv,hbl⟩
theorem iC (w:World) (v1 v2:Value) (m n:Nat) (h1:bq .u32 af w v1 m) (h2:bq .u32 af w v2 n) {j k:Nat} (hj:Bd j m) (hk:Bd k n) (de:j<=1000000000) (jE:k<=1000000000):
  Calls Tryz.prog 49 #[v1,v2] w (eW .u32 af w (m*n)):=(qx w v1 v2 m n h1 h2 hj hk de jE).mono λ_ _ h=>h.num
end Wx
