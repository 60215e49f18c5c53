import Derived.Test.YtocboimkilkklaaGreatJRC14
namespace Wx
set_option maxRecDepth 100000
set_option maxHeartbeats 1000000
open Go Go.RowKit Go.Proofs
variable {b:Nat}
theorem EA (hb:0<b) {l:List Nat} (h:Wf b l) (i:Nat):l.getD i 0<b:=by
 rw[List.getD_eq_getElem?_getD]
 cases e:l[i]? with
 |none=>simpa using hb
 |some z=>exact h _ (List.mem_of_getElem? e)
variable {x y o:List Nat} {cr L:Nat}
theorem lH {i vx vy g:Nat} {wr w0:World} (dr:o.length=i) (hlt:i<L) (wx:Wf ah x) (wy:Wf ah y) (Ah:cr<=1) (eM:Wf ah o)
  (hx:x.getD i 0=vx) (hy:y.getD i 0=vy) (hr:Row wr .u32 128 g (o++List.replicate (L-i) 0)) (hbl:Below w0.heap.size w0 wr) (hg:w0.heap.size<=g)
  (hval:val ah o+ah^i*cr=val ah (x.take i)+val ah (y.take i)):
  ∃(o':List Nat),(cr+vx+vy)/ah<=1/\o'.length=i+1/\Wf ah o' /\
   Row (wr.setCell ⟨g,i,none⟩ (.int .u32 (((cr+vx+vy)%ah:Nat):Int))) .u32 128 g (o'++List.replicate (L-(i+1)) 0) /\
   Below w0.heap.size w0 (wr.setCell ⟨g,i,none⟩ (.int .u32 (((cr+vx+vy)%ah:Nat):Int)))/\val ah o'+ah^(i+1)*((cr+vx+vy)/ah)=val ah (x.take (i+1))+val ah (y.take (i+1)):=by
 have oF:vx<ah:=by rw[<-hx]; exact EA (by unfold ah; omega) wx i
 have Aq:vy<ah:=by rw[<-hy]; exact EA (by unfold ah; omega) wy i
 refine⟨o++[(cr+vx+vy)%ah],by unfold ah at *; omega,by simp[dr],eM.append (Wf.cons (Nat.mod_lt _ (by unfold ah; omega)) (Wf.nil _)),?_,hbl.setCell hg _,?_⟩
 ·have h:=hr.set i ((cr+vx+vy)%ah)
  rw[show L-i=(L-(i+1))+1 by omega,List.replicate_succ,jR dr]at h
  rw[List.append_assoc]
  exact h
 ·exact Bi dr hval (by rw[ez,hx]) (by rw[ez,hy]) (by have:=Nat.mod_add_div (cr+vx+vy) ah; omega)
theorem I0 {s:Nat} (hb:2<=b) (wx:Wf b x) (wy:Wf b y) (Fa:x.length<L) (Q8:y.length<L) (hval:val b o+b^L*cr=val b (x.take L)+val b (y.take L))
  (hs:val b x+val b y=s):val b o=s:=by
 rw[List.take_of_length_le (by omega),List.take_of_length_le (by omega),hs]at hval
 have h1:=fO wx
 have h2:=fO wy
 obtain⟨K,rfl⟩:∃K,L=K+1:=⟨L-1,by omega⟩
 have h3:b^x.length<=b^K:=Nat.pow_le_pow_right (by omega) (by omega)
 have h4:b^y.length<=b^K:=Nat.pow_le_pow_right (by omega) (by omega)
 rcases Nat.eq_zero_or_pos cr with rfl|hc
 ·omega
 ·have h5:b^(K+1)<=b^(K+1)*cr:=Nat.le_mul_of_pos_right _ hc
  have h6:2*b^K<=b^(K+1):=by rw[Nat.pow_succ,Nat.mul_comm]; exact Nat.mul_le_mul_left _ hb
  omega
theorem eI {x:Nat} (h:x<ah):(x:Int)<=4294967295:=by unfold ah at h; omega
theorem LY (w:World) (v1 v2:Value) (m n:Nat) (h1:bt .u32 ah w v1 m) (h2:bt .u32 ah w v2 n) {j k:Nat} (hj:Bd j m) (hk:Bd k n) (cM:j<=1000000000) (kX:k<=1000000000):
  Calls Tryz.prog 77 #[v1,v2] w (eR .u32 ah w (m+n)):=by
 obtain⟨A,c,rfl,ha⟩:=h1
 obtain⟨B,d,rfl,hb⟩:=h2
 have hla:=pK hj
 have hlb:=pK hk
 have hv:val ah (ae ah m)+val ah (ae ah n)=m+n:=by rw[bj aj,bj aj]
 have wa:=bF aj m
 have wb:=bF aj n
 clear hj hk
 generalize ae ah m=x at *
 generalize ae ah n=y at *
 generalize m+n=s at *
 have HV:=Lib.hid hv
 clear hv
 have Fa:x.length<=1000000000:=by omega
 have Q8:y.length<=1000000000:=by omega
 clear hla hlb
 go_enter Tryz.func77,Tryz.ntmps77
 go_upto_region 1 with(fail)
 go_cut [5] (λv5 w'=>∃L:Nat,v5=.slice (some ⟨w.heap.size,0,none⟩) (L+1) (L+1)/\x.length<=L/\y.length<=L/\L<=1000000000/\Row w' .u32 128 w.heap.size (List.replicate (L+1) 0)/\Below w.heap.size w w')
 case first=>
  by_cases h:x.length<y.length
  ·go_wp2_with (at_make; refine cH _ rfl _ _ _ rfl .u32 128 Tryz.underlying36 lE _ _ rfl rfl (by omega) (by omega) (by omega) ?_; intro w1 hrow cE hsz)
   go_meet
   case rel=>
    (try rw[show(max (x.length:Int) (y.length:Int)+1).toNat=y.length+1 by omega]at *)
    (try rw[show((y.length:Int)+1).toNat=y.length+1 by omega]at *)
    exact⟨y.length,rfl,by omega,by omega,by omega,hrow,cE⟩
  ·go_wp2_with (at_make; refine cH _ rfl _ _ _ rfl .u32 128 Tryz.underlying36 lE _ _ rfl rfl (by omega) (by omega) (by omega) ?_; intro w1 hrow cE hsz)
   go_meet
   case rel=>
    (try rw[show(max (x.length:Int) (y.length:Int)+1).toNat=x.length+1 by omega]at *)
    (try rw[show((x.length:Int)+1).toNat=x.length+1 by omega]at *)
    exact⟨x.length,rfl,by omega,by omega,by omega,hrow,cE⟩
 case rest=>
  obtain⟨L,rfl,hL1,hL2,hL3,hrow,cE⟩:=hcut
  go_wp2_with fail
  go_loopw [6,7] (λs6 s7 wr=>∃(i cr:Nat) (o:List Nat),i<=L+1/\s7=.int .i64 i/\s6=.int .u64 cr/\cr<=1/\o.length=i/\Wf ah o/\Row wr .u32 128 w.heap.size (o++List.replicate (L+1-i) 0)/\Below w.heap.size w wr/\val ah o+ah^i*cr=val ah (x.take i)+val ah (y.take i))
   (λ_ s7 _=>L+1-(intOf s7).toNat)
  case atStart=>exact⟨0,0,[],by omega,rfl,rfl,by omega,rfl,Wf.nil _,by simpa using hrow,cE,by simp[val]⟩
  case round=>
   obtain⟨i,cr,o,hi,rfl,rfl,Ah,dr,eM,hr,hbl,hval⟩:=hrel
   have cK:=Lib.hid hval
   have dM:=Lib.hid dr
   clear hval dr hrow cE
   by_cases hlt:i<L+1
   ·obtain⟨vo,DJ,Gp⟩:=hr.get (i:=i) (by have:=dM.out; simp; omega)
    have vh:=hr.frozen i
    by_cases hx1:i<x.length
    ·obtain⟨bx,ox,vx,rfl,wS,jA⟩:=(ha.below hbl).get hx1
     have oF:=eI (wa _ (List.mem_of_getElem? jA.out))
     by_cases qz:i<y.length
     ·obtain⟨NA,oy,vy,rfl,Hy,rP⟩:=(hb.below hbl).get qz
      have Aq:=eI (wb _ (List.mem_of_getElem? rP.out))
      go_wp2
      go_roundw
      case rel=>
       obtain⟨o',hc',r⟩:=lH (vx:=vx) (vy:=vy) dM.out hlt wa wb Ah eM (by rw[List.getD_eq_getElem?_getD,jA.out]; rfl) (by rw[List.getD_eq_getElem?_getD,rP.out]; rfl) hr hbl (Nat.le_refl _) cK.out
       exact⟨i+1,_,o',by omega,by go_num,by go_num,hc',r⟩
      case measure=>simp[intOf]; omega
     ·go_wp2
      go_roundw
      case rel=>
       obtain⟨o',hc',r⟩:=lH (vx:=vx) (vy:=0) dM.out hlt wa wb Ah eM (by rw[List.getD_eq_getElem?_getD,jA.out]; rfl) (by rw[List.getD_eq_getElem?_getD,List.getElem?_eq_none (by omega)]; rfl) hr hbl (Nat.le_refl _) cK.out
       exact⟨i+1,_,o',by omega,by go_num,by go_num,hc',r⟩
      case measure=>simp[intOf]; omega
    ·by_cases qz:i<y.length
     ·obtain⟨NA,oy,vy,rfl,Hy,rP⟩:=(hb.below hbl).get qz
      have Aq:=eI (wb _ (List.mem_of_getElem? rP.out))
      go_wp2
      go_roundw
      case rel=>
       obtain⟨o',hc',r⟩:=lH (vx:=0) (vy:=vy) dM.out hlt wa wb Ah eM (by rw[List.getD_eq_getElem?_getD,List.getElem?_eq_none (by omega)]; rfl) (by rw[List.getD_eq_getElem?_getD,rP.out]; rfl) hr hbl (Nat.le_refl _) cK.out
       exact⟨i+1,_,o',by omega,by go_num,by go_num,hc',r⟩
      case measure=>simp[intOf]; omega
     ·go_wp2
      go_roundw
      case rel=>
       obtain⟨o',hc',r⟩:=lH (vx:=0) (vy:=0) dM.out hlt wa wb Ah eM (by rw[List.getD_eq_getElem?_getD,List.getElem?_eq_none (by omega)]; rfl) (by rw[List.getD_eq_getElem?_getD,List.getElem?_eq_none (by omega)]; rfl) hr hbl (Nat.le_refl _) cK.out
       exact⟨i+1,_,o',by omega,by go_num,by go_num,hc',r⟩
      case measure=>simp[intOf]; omega
   ·obtain rfl:i=L+1:=by omega
    have HF:=Lib.hid (I0 aj wa wb (by omega) (by omega) cK.out HV.out)
    rw[Nat.sub_self,List.replicate_zero,List.append_nil]at hr
    have hrd:=hr.eU (c:=L+1) (by have:=dM.out; omega) (by unfold maxLen; omega)
    go_wp2_with fail
    refine(pP _ _ _ o s hrd eM _ dM.out HF.out).mono ?_
    rintro e w' ⟨rfl,v,rfl,hv⟩
    go_wp2
    go_ret
    exact⟨v,rfl,hv,hbl⟩
end Wx

namespace Wx
set_option maxRecDepth 100000
set_option maxHeartbeats 1000000
open Go Go.RowKit Go.Proofs
variable {x y o:List Nat} {br:Nat}
theorem jH {i vx vy s t L g:Nat} {wr w0:World} (dr:o.length=i) (hlt:i<L) (eM:Wf ah o) (hs:s+vy+br=vx+ah*t) (vP:s<ah)
  (hx:x.getD i 0=vx) (hy:y.getD i 0=vy) (hr:Row wr .u32 128 g (o++List.replicate (L-i) 0)) (hbl:Below w0.heap.size w0 wr) (hg:w0.heap.size<=g)
  (hval:val ah o+val ah (y.take i)=val ah (x.take i)+ah^i*br):
  ∃(o':List Nat),o'.length=i+1/\Wf ah o' /\
   Row (wr.setCell ⟨g,i,none⟩ (.int .u32 (s:Int))) .u32 128 g (o'++List.replicate (L-(i+1)) 0) /\
   Below w0.heap.size w0 (wr.setCell ⟨g,i,none⟩ (.int .u32 (s:Int)))/\val ah o'+val ah (y.take (i+1))=val ah (x.take (i+1))+ah^(i+1)*t:=by
 refine⟨o++[s],by simp[dr],eM.append (Wf.cons vP (Wf.nil _)),?_,hbl.setCell hg _,?_⟩
 ·have h:=hr.set i s
  rw[show L-i=(L-(i+1))+1 by omega,List.replicate_succ,jR dr]at h
  rw[List.append_assoc]
  exact h
 ·exact zN dr hval (by rw[ez,hx]) (by rw[ez,hy]) hs
theorem FH {b m n:Nat} (eM:Wf b o) (dr:o.length=x.length) (Q8:y.length<=x.length) (hval:val b o+val b (y.take x.length)=val b (x.take x.length)+b^x.length*br)
  (hm:val b x=m) (hn:val b y=n) (hnm:n<=m):val b o=m-n:=by
 rw[List.take_of_length_le (Nat.le_refl _),List.take_of_length_le Q8,hm,hn]at hval
 have hlt:=fO eM
 rw[dr]at hlt
 rcases Nat.eq_zero_or_pos br with rfl|hb
 ·omega
 ·have h5:b^x.length<=b^x.length*br:=Nat.le_mul_of_pos_right _ hb
  omega
theorem lW (w:World) (v1 v2:Value) (m n:Nat) (h1:bt .u32 ah w v1 m) (h2:bt .u32 ah w v2 n) (hnm:n<=m) {j:Nat} (hj:Bd j m) (cM:j<=1000000000):
  Calls Tryz.prog 79 #[v1,v2] w (nA w (m-n)):=by
 obtain⟨X,cx,rfl,hx⟩:=h1
 obtain⟨Y,cy,rfl,hy⟩:=h2
 have hla:=pK hj
 have vQ:(ae ah n).length<=(ae ah m).length:=by
  rcases Nat.lt_or_ge (ae ah m).length (ae ah n).length with h|h
  ·have:=cG aj h; omega
  ·exact h
 have wx:=bF aj m
 have wy:=bF aj n
 have oF:=bj aj m
 have Aq:=bj aj n
 clear hj
 generalize ae ah m=x at *
 generalize ae ah n=y at *
 have Fa:x.length<=1000000000:=by omega
 clear hla
 have HX:=Lib.hid oF
 have HY:=Lib.hid Aq
 clear oF Aq
 go_enter Tryz.func79,Tryz.ntmps79
 go_wp2_with (at_make; refine cH _ rfl _ _ _ rfl .u32 128 Tryz.underlying36 lE _ _ rfl rfl (by omega) (by omega) (by omega) ?_; intro w1 hrow cE hsz)
 rw[Int.toNat_natCast]at hrow
 go_loopw [6,7] (λs6 s7 wr=>∃(i br:Nat) (o:List Nat),i<=x.length/\s7=.int .i64 i/\s6=.int .u64 br/\br<=1/\o.length=i/\Wf ah o/\Row wr .u32 128 w.heap.size (o++List.replicate (x.length-i) 0)/\Below w.heap.size w wr/\val ah o+val ah (y.take i)=val ah (x.take i)+ah^i*br)
  (λ_ s7 _=>x.length-(intOf s7).toNat)
 case atStart=>exact⟨0,0,[],by omega,rfl,rfl,by omega,rfl,Wf.nil _,by simpa using hrow,cE,by simp[val]⟩
 case round=>
  obtain⟨i,br,o,hi,rfl,rfl,Ah,dr,eM,hr,hbl,hval⟩:=hrel
  have cK:=Lib.hid hval
  have dM:=Lib.hid dr
  clear hval dr hrow cE hsz
  by_cases hlt:i<x.length
  ·obtain⟨bx,ox,vx,rfl,wS,jA⟩:=(hx.below hbl).get hlt
   have oF:=eI (wx _ (List.mem_of_getElem? jA.out))
   obtain⟨vo,DJ,Gp⟩:=hr.get (i:=i) (by have:=dM.out; simp; omega)
   have vh:=hr.frozen i
   have UK:(0:Int)<=(i:Int):=by omega
   have UL:(i:Int)<(x.length:Int):=by omega
   by_cases qz:i<y.length
   ·obtain⟨NA,oy,vy,rfl,Hy,rP⟩:=(hy.below hbl).get qz
    have Aq:=eI (wy _ (List.mem_of_getElem? rP.out))
    by_cases qG:vx<br+vy
    ·skip
     have Ol:(vx:Int)<(br:Int)+(vy:Int):=by omega
     have E:=Lib.hid (show((vx:Int)+4294967296-((br:Int)+(vy:Int)))=(((vx+4294967296-(br+vy)):Nat):Int) by omega)
     have Rs:(0:Int)<=(vx:Int)+4294967296-((br:Int)+(vy:Int)):=by omega
     go_wp2
     go_roundw
     case rel=>
      obtain⟨o',r⟩:=jH (vx:=vx) (vy:=vy) (s:=(vx+4294967296-(br+vy))) (t:=1) dM.out hlt eM (by unfold ah; omega) (by unfold ah; omega) (by rw[List.getD_eq_getElem?_getD,jA.out]; rfl) (by rw[List.getD_eq_getElem?_getD,rP.out]; rfl) hr hbl (Nat.le_refl _) cK.out
      rw[E.out]
      exact⟨i+1,1,o',by omega,by go_num,rfl,by omega,r⟩
     case measure=>simp[intOf]; omega
    ·skip
     have Ol:¬((vx:Int)<(br:Int)+(vy:Int)):=by omega
     have E:=Lib.hid (show((vx:Int)-((br:Int)+(vy:Int)))=(((vx-(br+vy)):Nat):Int) by omega)
     have Rs:(0:Int)<=(vx:Int)-((br:Int)+(vy:Int)):=by omega
     go_wp2
     go_roundw
     case rel=>
      obtain⟨o',r⟩:=jH (vx:=vx) (vy:=vy) (s:=(vx-(br+vy))) (t:=0) dM.out hlt eM (by unfold ah; omega) (by unfold ah; omega) (by rw[List.getD_eq_getElem?_getD,jA.out]; rfl) (by rw[List.getD_eq_getElem?_getD,rP.out]; rfl) hr hbl (Nat.le_refl _) cK.out
      rw[E.out]
      exact⟨i+1,0,o',by omega,by go_num,rfl,by omega,r⟩
     case measure=>simp[intOf]; omega
   ·by_cases qG:vx<br
    ·skip
     have Ol:(vx:Int)<(br:Int):=by omega
     have E:=Lib.hid (show((vx:Int)+4294967296-(br:Int))=(((vx+4294967296-(br+0)):Nat):Int) by omega)
     have Rs:(0:Int)<=(vx:Int)+4294967296-(br:Int):=by omega
     go_wp2
     go_roundw
     case rel=>
      obtain⟨o',r⟩:=jH (vx:=vx) (vy:=0) (s:=(vx+4294967296-(br+0))) (t:=1) dM.out hlt eM (by unfold ah; omega) (by unfold ah; omega) (by rw[List.getD_eq_getElem?_getD,jA.out]; rfl) (by rw[List.getD_eq_getElem?_getD,List.getElem?_eq_none (by omega)]; rfl) hr hbl (Nat.le_refl _) cK.out
      rw[E.out]
      exact⟨i+1,1,o',by omega,by go_num,rfl,by omega,r⟩
     case measure=>simp[intOf]; omega
    ·skip
     have Ol:¬((vx:Int)<(br:Int)):=by omega
     have E:=Lib.hid (show((vx:Int)-(br:Int))=(((vx-(br+0)):Nat):Int) by omega)
     have Rs:(0:Int)<=(vx:Int)-(br:Int):=by omega
     go_wp2
     go_roundw
     case rel=>
      obtain⟨o',r⟩:=jH (vx:=vx) (vy:=0) (s:=(vx-(br+0))) (t:=0) dM.out hlt eM (by unfold ah; omega) (by unfold ah; omega) (by rw[List.getD_eq_getElem?_getD,jA.out]; rfl) (by rw[List.getD_eq_getElem?_getD,List.getElem?_eq_none (by omega)]; rfl) hr hbl (Nat.le_refl _) cK.out
      rw[E.out]
      exact⟨i+1,0,o',by omega,by go_num,rfl,by omega,r⟩
     case measure=>simp[intOf]; omega
  ·obtain rfl:i=x.length:=by omega
   have HF:=Lib.hid (FH eM dM.out vQ cK.out HX.out HY.out hnm)
   rw[Nat.sub_self,List.replicate_zero,List.append_nil]at hr
   have hrd:=hr.eU (c:=x.length) (by have:=dM.out; omega) (by unfold maxLen; omega)
   go_wp2_with fail
   refine(qK _ _ _ o (m-n) hrd eM _ dM.out HF.out).mono ?_
   rintro e w' ⟨rfl,kn,rfl,hv⟩
   go_wp2
   go_ret
   exact⟨_,_,_,Nat.le_refl _,rfl,hv,hbl⟩
theorem tC (w:World) (v1 v2:Value) (m n:Nat) (h1:bt .u32 ah w v1 m) (h2:bt .u32 ah w v2 n) (hnm:n<=m) {j:Nat} (hj:Bd j m) (cM:j<=1000000000):
  Calls Tryz.prog 79 #[v1,v2] w (eR .u32 ah w (m-n)):=(lW w v1 v2 m n h1 h2 hnm hj cM).mono λ_ _ h=>h.num
end Wx

namespace Wx
set_option maxRecDepth 100000
set_option maxHeartbeats 1000000
open Go Go.RowKit Go.Proofs
@[irreducible] def npLo (x y u c : Nat) : Nat := (u + c + x * y) % 4294967296
@[irreducible] def npHi (x y u c : Nat) : Nat := (u + c + x * y) / 4294967296
theorem Lq (x y u c:Nat):npLo x y u c+ah*npHi x y u c=x*y+u+c:=by unfold npLo npHi ah; omega
theorem Lp (x y u c:Nat):npLo x y u c<ah:=by unfold npLo ah; omega
variable {c:Nat}
theorem D2 {x y u:Nat} (hx:x<ah) (hy:y<ah) (hu:u<ah) (hc:c<ah):npHi x y u c<ah/\u+c+x*y<18446744073709551616:=by
 have hxy:x*y<=4294967295*4294967295:=Nat.mul_le_mul (by unfold ah at hx; omega) (by unfold ah at hy; omega)
 unfold ah npHi at *
 omega
variable {w0 wr:World} {g:Nat} {o b:List Nat} {i k vx vy vu s N:Nat}
theorem AO (hk:k<b.length) (hc:c<ah) (dr:o.length=N) (eM:Wf ah o) (hx:vx<ah) (hy:vy<ah) (hu:vu<ah)
  (hr:Row wr .u32 128 g o) (hg:w0.heap.size<=g) (hbl:Below w0.heap.size w0 wr) (hz:∀p,i+b.length+1<=p->o.getD p 0=0) (hz0:o.getD (i+b.length) 0=0) (hval:val ah o+ah^(i+k)*c=s+ah^i*(vx*val ah (b.take k)))
  (HU:o[i+k]?=some vu) (HY:b[k]?=some vy):
  ∃(o':List Nat),npHi vx vy vu c<ah/\o'.length=N/\Wf ah o' /\
   Row (wr.setCell ⟨g,i+k,none⟩ (.int .u32 (npLo vx vy vu c:Nat))) .u32 128 g o'/\Below w0.heap.size w0 (wr.setCell ⟨g,i+k,none⟩ (.int .u32 (npLo vx vy vu c:Nat))) /\
   (∀p,i+b.length+1<=p->o'.getD p 0=0)/\o'.getD (i+b.length) 0=0/\val ah o'+ah^(i+(k+1))*npHi vx vy vu c=s+ah^i*(vx*val ah (b.take (k+1))):=by
 refine⟨o.set (i+k) (npLo vx vy vu c),(D2 hx hy hu hc).1,by simp[dr],eM.set (Lp _ _ _ _),hr.set _ _,hbl.setCell hg _,?_,?_,AG hval HU HY (Lq _ _ _ _)⟩
 ·intro p hp
  rw[getD_set_ne (by omega)]; exact hz p hp
 ·rw[getD_set_ne (by omega)]; exact hz0
theorem AM (hc:c<ah) (hN:i+b.length<N) (dr:o.length=N) (eM:Wf ah o)
  (hr:Row wr .u32 128 g o) (hg:w0.heap.size<=g) (hbl:Below w0.heap.size w0 wr) (hz:∀p,i+b.length+1<=p->o.getD p 0=0) (hz0:o.getD (i+b.length) 0=0) (hval:val ah o+ah^(i+b.length)*c=s+ah^i*(vx*val ah (b.take b.length))):
  ∃(o':List Nat),o'.length=N/\Wf ah o' /\
   Row (wr.setCell ⟨g,i+b.length,none⟩ (.int .u32 (c:Nat))) .u32 128 g o'/\Below w0.heap.size w0 (wr.setCell ⟨g,i+b.length,none⟩ (.int .u32 (c:Nat))) /\
   (∀p,i+b.length+1<=p->o'.getD p 0=0)/\val ah o'+ah^(i+(b.length+1))*0=s+ah^i*(vx*val ah (b.take (b.length+1))):=by
 refine⟨o.set (i+b.length) c,by simp[dr],eM.set hc,hr.set _ _,hbl.setCell hg _,λp hp=>by rw[getD_set_ne (by omega)]; exact hz p hp,?_⟩
 have hu:o[i+b.length]?=some 0:=by
  rw[List.getD_eq_getElem?_getD,List.getElem?_eq_getElem (by omega)]at hz0
  rw[List.getElem?_eq_getElem (by omega)]
  simpa using hz0
 have h1:=nT (b:=ah) hu c
 rw[Nat.mul_zero,Nat.add_zero]at h1
 rw[h1,hval,Nat.mul_zero,Nat.add_zero,List.take_length,List.take_of_length_le (by omega)]
theorem xb {b:Nat} {o0 x y:List Nat} {n:Nat} (hk:y.length<=k) (hval:val b o+b^(i+k)*0=val b o0+b^i*(vx*val b (y.take k))) (h0:val b o0=val b (x.take i)*n) (hb:val b y=n) (hx:x[i]?=some vx):
  val b o=val b (x.take (i+1))*n:=by
 rw[Nat.mul_zero,Nat.add_zero,List.take_of_length_le hk,hb]at hval
 rw[hval,h0,cz hx,Nat.add_mul,Nat.mul_assoc]
theorem OT (hx:vx<ah) (hy:vy<ah) (hu:vu<ah) (hc:c<ah):
  IntKind.u64.wrap ((IntKind.u64.wrap ((vu:Int)+(c:Int)+IntKind.u64.wrap ((vx:Int)*(vy:Int)))).tdiv 4294967296)=((npHi vx vy vu c:Nat):Int) /\
  (IntKind.u64.wrap ((vu:Int)+(c:Int)+IntKind.u64.wrap ((vx:Int)*(vy:Int)))).tmod 4294967296%4294967296=((npLo vx vy vu c:Nat):Int):=by
 obtain⟨h1,h2⟩:=D2 hx hy hu hc
 have e0:IntKind.u64.wrap ((vx:Int)*(vy:Int))=((vx*vy:Nat):Int):=by
  rw[<-Int.natCast_mul,wrap_u64 (by omega) (by omega)]
 have e:(vu:Int)+(c:Int)+((vx*vy:Nat):Int)=((vu+c+vx*vy:Nat):Int):=by omega
 rw[e0,e]
 unfold npLo npHi at *
 generalize vu+c+vx*vy=N at *
 unfold ah at h1
 rw[wrap_u64 (n:=(N:Int)) (by omega) (by omega),Int.tdiv_eq_ediv_of_nonneg (by omega),Int.tmod_eq_emod_of_nonneg (by omega),wrap_u64 (by omega) (by omega)]
 omega
theorem qa (w:World) (v1 v2:Value) (m n:Nat) (h1:bt .u32 ah w v1 m) (h2:bt .u32 ah w v2 n) {j k:Nat} (hj:Bd j m) (hk:Bd k n) (cM:j<=1000000000) (kX:k<=1000000000):
  Calls Tryz.prog 49 #[v1,v2] w (nA w (m*n)):=by
 obtain⟨A,c,rfl,ha⟩:=h1
 obtain⟨B,d,rfl,hb⟩:=h2
 have hla:=pK hj
 have hlb:=pK hk
 have tU:=bj aj m
 have Oz:=bj aj n
 have wa:=bF aj m
 have wb:=bF aj n
 clear hj hk
 go_enter Tryz.func49,Tryz.ntmps49
 generalize ae ah m=a at *
 generalize ae ah n=b at *
 have VA:=Lib.hid tU
 have VB:=Lib.hid Oz
 clear tU Oz
 have UO:a.length<=100000000:=by omega
 have UQ:b.length<=100000000:=by omega
 clear hla hlb
 go_wp2_with (at_make; refine cH _ rfl _ _ _ rfl .u32 128 Tryz.underlying36 lE _ _ rfl rfl (by omega) (by omega) (by omega) ?_; intro w1 hrow cE hsz)
 rw[show((a.length:Int)+(b.length:Int)).toNat=a.length+b.length by omega]at hrow
 go_loopw [6] (λs6 wr=>∃(i:Nat) (o:List Nat),i<=a.length/\s6=.int .i64 i/\o.length=a.length+b.length/\Wf ah o/\Row wr .u32 128 w.heap.size o/\Below w.heap.size w wr/\(∀p,i+b.length<=p->o.getD p 0=0)/\val ah o=val ah (a.take i)*n)
  (λs6 _=>a.length-(intOf s6).toNat)
 case atStart=>exact⟨0,List.replicate (a.length+b.length) 0,by omega,rfl,by simp,Wf.replicate (by unfold ah; omega) _,hrow,cE,λp _=>by simp[List.getD_eq_getElem?_getD,List.getElem?_replicate]; split<;>rfl,by rw[fK]; simp[val]⟩
 case round=>
  obtain⟨i,o,hi,rfl,dr,eM,hr,hbl,hz,hval⟩:=hrel
  have cK:=Lib.hid hval
  have dM:=Lib.hid dr
  have HZ:=Lib.hid hz
  clear hval dr hz hrow cE hsz
  by_cases hlt:i<a.length
  ·obtain⟨gx,ox,vx,rfl,_,jA⟩:=(ha.below hbl).get hlt
   have Mg:=Lib.hid (wa _ (List.mem_of_getElem? jA.out))
   have oF:=eI Mg.out
   have UK:(0:Int)<=(i:Int):=by omega
   have UL:(i:Int)<(a.length:Int):=by omega
   go_wp2_with fail
   obtain⟨wo,rfl⟩:∃wo:World,wo=wr:=⟨_,rfl⟩
   go_loopw [7,8] (λs7 s8 wr=>∃(k c:Nat) (o':List Nat),k<=b.length+1/\s8=.int .i64 k/\s7=.int .u64 c/\Bx (c<ah/\(k=b.length+1->c=0))/\Bx (o'.length=a.length+b.length)/\Wf ah o'/\Row wr .u32 128 w.heap.size o'/\Below w.heap.size w wr/\Bx (∀p,i+b.length+1<=p->o'.getD p 0=0)/\Bx (k<=b.length->o'.getD (i+b.length) 0=0)/\Bx (val ah o'+ah^(i+k)*c=val ah o+ah^i*(vx*val ah (b.take k))))
    (λ_ s8 _=>b.length+1-(intOf s8).toNat)
   case atStart=>exact⟨0,0,o,by omega,rfl,rfl,bx ⟨by unfold ah; omega,by omega⟩,bx dM.out,eM,hr,hbl,bx (λp hp=>HZ.out p (by omega)),bx (λ_=>HZ.out _ (Nat.le_refl _)),bx (by simp[val])⟩
   case round=>
    clear hr eM
    obtain⟨k,c,o',hk,rfl,rfl,HC,sW,yA,hr',vK,Nt,Sf,sX⟩:=hrel
    have wS:=((ha.below vK).at_ hlt)
    by_cases hlk:k<b.length
    ·obtain⟨b1,o1,e1,wS⟩:=wS
     injection e1 with e1
     injection e1 with e1 e2
     subst e1 e2
     rw[List.getD_eq_getElem?_getD,jA.out,Option.getD_some]at wS
     obtain⟨NA,oy,vy,rfl,Hy,rP⟩:=(hb.below vK).get hlk
     obtain⟨vu,yu,C9⟩:=hr'.get (i:=i+k) (by have:=sW.out; omega)
     have vh:=hr'.frozen (i+k)
     have Pr:=Lib.hid (wb _ (List.mem_of_getElem? rP.out))
     have PI:=Lib.hid (yA _ (List.mem_of_getElem? C9.out))
     have Aq:=eI Pr.out
     have Rq:=eI PI.out
     have Za:=eI HC.out.1
     have tQ:(0:Int)<=(k:Int):=by omega
     have kX:(k:Int)<(b.length:Int):=by omega
     obtain⟨q1,q2⟩:=OT Mg.out Pr.out PI.out HC.out.1
     have Q1:=bx q1
     have Q2:=bx q2
     clear q1 q2
     go_wp2
     go_quiet (fail)
     go_wp2
     rw[Q1.out,Q2.out]
     go_roundw
     case rel=>
      obtain⟨o2,hc2,hl2,Fg,hr2,hb2,hz2,hz3,hv2⟩:=AO hlk HC.out.1 sW.out yA Mg.out Pr.out PI.out (hr'.drewN nq) (Nat.le_refl _) (below_drewN vK nq) Nt.out (Sf.out (by omega)) sX.out C9.out rP.out
      exact⟨k+1,_,o2,by omega,by go_num,rfl,bx ⟨hc2,λh=>by omega⟩,bx hl2,Fg,hr2,hb2,bx hz2,bx (λ_=>hz3),bx hv2⟩
     case measure=>(simp[intOf]; try omega)
    ·clear wS
     by_cases hkb:k=b.length
     ·subst hkb
      rcases Nat.eq_zero_or_pos c with rfl|hc0
      ·go_wp2
       go_roundw
       case rel=>
        exact⟨i+1,o',by omega,by go_num,sW.out,yA,hr',vK,λp hp=>by
         rcases Nat.lt_or_ge p (i+b.length+1)with h|h
         ·have:=Sf.out (Nat.le_refl _)
          omega
         ·exact Nt.out p h,xb (Nat.le_refl _) sX.out cK.out VB.out jA.out⟩
       case measure=>(simp[intOf]; try omega)
      ·obtain⟨vu,yu,C9⟩:=hr'.get (i:=i+b.length) (by have:=sW.out; omega)
       have vh:=hr'.frozen (i+b.length)
       have Y9:vu=0:=by
        have h:=Sf.out (Nat.le_refl _)
        rw[List.getD_eq_getElem?_getD,C9.out]at h
        simpa using h
       subst Y9
       have Za:=eI HC.out.1
       have qx:(0:Int)<(c:Int):=by omega
       have C1:=bx (show(c:Int)/4294967296=((0:Nat):Int) by omega)
       have C2:=bx (show(c:Int)%4294967296=(c:Int) by omega)
       go_wp2
       rw[C1.out,C2.out]
       go_roundw
       case rel=>
        obtain⟨o2,hl2,Fg,hr2,hb2,hz2,hv2⟩:=AM HC.out.1 (by omega) sW.out yA hr' (Nat.le_refl _) vK Nt.out (Sf.out (Nat.le_refl _)) sX.out
        exact⟨b.length+1,0,o2,by omega,by go_num,rfl,bx ⟨by unfold ah; omega,λ_=>rfl⟩,bx hl2,Fg,hr2,hb2,bx hz2,bx (λh=>by omega),bx hv2⟩
       case measure=>(simp[intOf]; try omega)
     ·obtain rfl:k=b.length+1:=by omega
      obtain rfl:c=0:=HC.out.2 rfl
      go_wp2
      go_roundw
      case rel=>
       exact⟨i+1,o',by omega,by go_num,sW.out,yA,hr',vK,λp hp=>Nt.out p (by omega),xb (by omega) sX.out cK.out VB.out jA.out⟩
      case measure=>(simp[intOf]; try omega)
  ·obtain rfl:i=a.length:=by omega
   have eL:val ah o=m*n:=by
    have h:=cK.out
    rw[List.take_length,VA.out]at h
    exact h
   have HF:=Lib.hid eL
   clear eL
   have hrd:=hr.eU (c:=a.length+b.length) (by have:=dM.out; omega) (by unfold maxLen; omega)
   go_wp2_with fail
   refine(qK _ _ _ o (m*n) hrd eM _ dM.out HF.out).mono ?_
   rintro e w' ⟨rfl,kn,rfl,hv⟩
   go_wp2
   go_ret
   exact⟨_,_,_,Nat.le_refl _,rfl,hv,hbl⟩
theorem ik (w:World) (v1 v2:Value) (m n:Nat) (h1:bt .u32 ah w v1 m) (h2:bt .u32 ah w v2 n) {j k:Nat} (hj:Bd j m) (hk:Bd k n) (cM:j<=1000000000) (kX:k<=1000000000):
  Calls Tryz.prog 49 #[v1,v2] w (eR .u32 ah w (m*n)):=(qa w v1 v2 m n h1 h2 hj hk cM kX).mono λ_ _ h=>h.num
end Wx
