import Derived.Test.YtadigiledciihaaGreatJRB15
namespace Wx
set_option maxRecDepth 100000
set_option maxHeartbeats 1000000
open Go Go.RowKit Go.Proofs
variable {b:Nat}
theorem CT (hb:0<b) {l:List Nat} (h:Wf b l) (i:Nat):l.getD i 0<b:=by
 rw[List.getD_eq_getElem?_getD]
 cases e:l[i]? with
 |none=>simpa using hb
 |some z=>exact h _ (List.mem_of_getElem? e)
variable {x y o:List Nat} {cr L:Nat}
theorem kp {i vx vy g:Nat} {wr w0:World} (cL:o.length=i) (hlt:i<L) (wx:Wf ah x) (wy:Wf ah y) (yE:cr<=1) (dN:Wf ah o)
  (hx:x.getD i 0=vx) (hy:y.getD i 0=vy) (hr:Row wr .u32 146 g (o++List.replicate (L-i) 0)) (hbl:Below w0.heap.size w0 wr) (hg:w0.heap.size<=g)
  (hval:val ah o+ah^i*cr=val ah (x.take i)+val ah (y.take i)):
  ∃(o':List Nat),(cr+vx+vy)/ah<=1/\o'.length=i+1/\Wf ah o' /\
   Row (wr.setCell ⟨g,i,none⟩ (.int .u32 (((cr+vx+vy)%ah:Nat):Int))) .u32 146 g (o'++List.replicate (L-(i+1)) 0) /\
   Below w0.heap.size w0 (wr.setCell ⟨g,i,none⟩ (.int .u32 (((cr+vx+vy)%ah:Nat):Int)))/\val ah o'+ah^(i+1)*((cr+vx+vy)/ah)=val ah (x.take (i+1))+val ah (y.take (i+1)):=by
 have nr:vx<ah:=by rw[<-hx]; exact CT (by unfold ah; omega) wx i
 have yL:vy<ah:=by rw[<-hy]; exact CT (by unfold ah; omega) wy i
 refine⟨o++[(cr+vx+vy)%ah],by unfold ah at *; omega,by simp[cL],dN.append (Wf.cons (Nat.mod_lt _ (by unfold ah; omega)) (Wf.nil _)),?_,hbl.setCell hg _,?_⟩
 ·have h:=hr.set i ((cr+vx+vy)%ah)
  rw[show L-i=(L-(i+1))+1 by omega,List.replicate_succ,iW cL]at h
  rw[List.append_assoc]
  exact h
 ·exact zJ cL hval (by rw[dx,hx]) (by rw[dx,hy]) (by have:=Nat.mod_add_div (cr+vx+vy) ah; omega)
theorem Gf {s:Nat} (hb:2<=b) (wx:Wf b x) (wy:Wf b y) (Dn:x.length<L) (OM:y.length<L) (hval:val b o+b^L*cr=val b (x.take L)+val b (y.take L))
  (hs:val b x+val b y=s):val b o=s:=by
 rw[List.take_of_length_le (by omega),List.take_of_length_le (by omega),hs]at hval
 have h1:=eW wx
 have h2:=eW wy
 obtain⟨K,rfl⟩:∃K,L=K+1:=⟨L-1,by omega⟩
 have h3:b^x.length<=b^K:=Nat.pow_le_pow_right (by omega) (by omega)
 have h4:b^y.length<=b^K:=Nat.pow_le_pow_right (by omega) (by omega)
 rcases Nat.eq_zero_or_pos cr with rfl|hc
 ·omega
 ·have h5:b^(K+1)<=b^(K+1)*cr:=Nat.le_mul_of_pos_right _ hc
  have h6:2*b^K<=b^(K+1):=by rw[Nat.pow_succ,Nat.mul_comm]; exact Nat.mul_le_mul_left _ hb
  omega
theorem dI {x:Nat} (h:x<ah):(x:Int)<=4294967295:=by unfold ah at h; omega
theorem JM (w:World) (v1 v2:Value) (m n:Nat) (h1:aZ .u32 ah w v1 m) (h2:aZ .u32 ah w v2 n) {j k:Nat} (hj:Bd j m) (hk:Bd k n) (ct:j<=1000000000) (kN:k<=1000000000):
  Calls Tryz.prog 89 #[v1,v2] w (dS .u32 ah w (m+n)):=by
 obtain⟨A,c,rfl,ha⟩:=h1
 obtain⟨B,d,rfl,hb⟩:=h2
 have hla:=oc hj
 have hlb:=oc hk
 have hv:val ah (ae ah m)+val ah (ae ah n)=m+n:=by rw[aV aj,aV aj]
 have wa:=bq aj m
 have wb:=bq aj n
 clear hj hk
 generalize ae ah m=x at *
 generalize ae ah n=y at *
 generalize m+n=s at *
 have HV:=Lib.hid hv
 clear hv
 have Dn:x.length<=1000000000:=by omega
 have OM:y.length<=1000000000:=by omega
 clear hla hlb
 go_enter Tryz.func89,Tryz.ntmps89
 go_upto_region 1 with(fail)
 go_cut [5] (λv5 w'=>∃L:Nat,v5=.slice (some ⟨w.heap.size,0,none⟩) (L+1) (L+1)/\x.length<=L/\y.length<=L/\L<=1000000000/\Row w' .u32 146 w.heap.size (List.replicate (L+1) 0)/\Below w.heap.size w w')
 case first=>
  by_cases h:x.length<y.length
  ·go_wp2_with (at_make; refine bY _ rfl _ _ _ rfl .u32 146 Tryz.underlying59 ko _ _ rfl rfl (by omega) (by omega) (by omega) ?_; intro w1 hrow bV hsz)
   go_meet
   case rel=>
    (try rw[show(max (x.length:Int) (y.length:Int)+1).toNat=y.length+1 by omega]at *)
    (try rw[show((y.length:Int)+1).toNat=y.length+1 by omega]at *)
    exact⟨y.length,rfl,by omega,by omega,by omega,hrow,bV⟩
  ·go_wp2_with (at_make; refine bY _ rfl _ _ _ rfl .u32 146 Tryz.underlying59 ko _ _ rfl rfl (by omega) (by omega) (by omega) ?_; intro w1 hrow bV hsz)
   go_meet
   case rel=>
    (try rw[show(max (x.length:Int) (y.length:Int)+1).toNat=x.length+1 by omega]at *)
    (try rw[show((x.length:Int)+1).toNat=x.length+1 by omega]at *)
    exact⟨x.length,rfl,by omega,by omega,by omega,hrow,bV⟩
 case rest=>
  obtain⟨L,rfl,hL1,hL2,hL3,hrow,bV⟩:=hcut
  go_wp2_with fail
  go_loopw [6,7] (λs6 s7 wr=>∃(i cr:Nat) (o:List Nat),i<=L+1/\s7=.int .i64 i/\s6=.int .u64 cr/\cr<=1/\o.length=i/\Wf ah o/\Row wr .u32 146 w.heap.size (o++List.replicate (L+1-i) 0)/\Below w.heap.size w wr/\val ah o+ah^i*cr=val ah (x.take i)+val ah (y.take i))
   (λ_ s7 _=>L+1-(RowKit.intOf s7).toNat)
  case atStart=>exact⟨0,0,[],by omega,rfl,rfl,by omega,rfl,Wf.nil _,by simpa using hrow,bV,by simp[val]⟩
  case round=>
   obtain⟨i,cr,o,hi,rfl,rfl,yE,cL,dN,hr,hbl,hval⟩:=hrel
   have cj:=Lib.hid hval
   have dc:=Lib.hid cL
   clear hval cL hrow bV
   by_cases hlt:i<L+1
   ·obtain⟨vo,Cj,Es⟩:=hr.get (i:=i) (by have:=dc.out; simp; omega)
    have tS:=hr.frozen i
    by_cases hx1:i<x.length
    ·obtain⟨bx,ox,vx,rfl,uS,iK⟩:=(ha.below hbl).get hx1
     have nr:=dI (wa _ (List.mem_of_getElem? iK.out))
     by_cases oQ:i<y.length
     ·obtain⟨Ln,oy,vy,rfl,Fv,qF⟩:=(hb.below hbl).get oQ
      have yL:=dI (wb _ (List.mem_of_getElem? qF.out))
      go_wp2
      go_roundw
      case rel=>
       obtain⟨o',hc',r⟩:=kp (vx:=vx) (vy:=vy) dc.out hlt wa wb yE dN (by rw[List.getD_eq_getElem?_getD,iK.out]; rfl) (by rw[List.getD_eq_getElem?_getD,qF.out]; rfl) hr hbl (Nat.le_refl _) cj.out
       exact⟨i+1,_,o',by omega,by go_num,by go_num,hc',r⟩
      case measure=>simp[RowKit.intOf]; omega
     ·go_wp2
      go_roundw
      case rel=>
       obtain⟨o',hc',r⟩:=kp (vx:=vx) (vy:=0) dc.out hlt wa wb yE dN (by rw[List.getD_eq_getElem?_getD,iK.out]; rfl) (by rw[List.getD_eq_getElem?_getD,List.getElem?_eq_none (by omega)]; rfl) hr hbl (Nat.le_refl _) cj.out
       exact⟨i+1,_,o',by omega,by go_num,by go_num,hc',r⟩
      case measure=>simp[RowKit.intOf]; omega
    ·by_cases oQ:i<y.length
     ·obtain⟨Ln,oy,vy,rfl,Fv,qF⟩:=(hb.below hbl).get oQ
      have yL:=dI (wb _ (List.mem_of_getElem? qF.out))
      go_wp2
      go_roundw
      case rel=>
       obtain⟨o',hc',r⟩:=kp (vx:=0) (vy:=vy) dc.out hlt wa wb yE dN (by rw[List.getD_eq_getElem?_getD,List.getElem?_eq_none (by omega)]; rfl) (by rw[List.getD_eq_getElem?_getD,qF.out]; rfl) hr hbl (Nat.le_refl _) cj.out
       exact⟨i+1,_,o',by omega,by go_num,by go_num,hc',r⟩
      case measure=>simp[RowKit.intOf]; omega
     ·go_wp2
      go_roundw
      case rel=>
       obtain⟨o',hc',r⟩:=kp (vx:=0) (vy:=0) dc.out hlt wa wb yE dN (by rw[List.getD_eq_getElem?_getD,List.getElem?_eq_none (by omega)]; rfl) (by rw[List.getD_eq_getElem?_getD,List.getElem?_eq_none (by omega)]; rfl) hr hbl (Nat.le_refl _) cj.out
       exact⟨i+1,_,o',by omega,by go_num,by go_num,hc',r⟩
      case measure=>simp[RowKit.intOf]; omega
   ·obtain rfl:i=L+1:=by omega
    have HF:=Lib.hid (Gf aj wa wb (by omega) (by omega) cj.out HV.out)
    rw[Nat.sub_self,List.replicate_zero,List.append_nil]at hr
    have hrd:=hr.dV (c:=L+1) (by have:=dc.out; omega) (by unfold maxLen; omega)
    go_wp2_with fail
    refine(om _ _ _ o s hrd dN _ dc.out HF.out).mono ?_
    rintro e w' ⟨rfl,v,rfl,hv⟩
    go_wp2
    go_ret
    exact⟨v,rfl,hv,hbl⟩
end Wx

namespace Wx
set_option maxRecDepth 100000
set_option maxHeartbeats 1000000
open Go Go.RowKit Go.Proofs
variable {x y o:List Nat} {br:Nat}
theorem iP {i vx vy s t L g:Nat} {wr w0:World} (cL:o.length=i) (hlt:i<L) (dN:Wf ah o) (hs:s+vy+br=vx+ah*t) (ug:s<ah)
  (hx:x.getD i 0=vx) (hy:y.getD i 0=vy) (hr:Row wr .u32 146 g (o++List.replicate (L-i) 0)) (hbl:Below w0.heap.size w0 wr) (hg:w0.heap.size<=g)
  (hval:val ah o+val ah (y.take i)=val ah (x.take i)+ah^i*br):
  ∃(o':List Nat),o'.length=i+1/\Wf ah o' /\
   Row (wr.setCell ⟨g,i,none⟩ (.int .u32 (s:Int))) .u32 146 g (o'++List.replicate (L-(i+1)) 0) /\
   Below w0.heap.size w0 (wr.setCell ⟨g,i,none⟩ (.int .u32 (s:Int)))/\val ah o'+val ah (y.take (i+1))=val ah (x.take (i+1))+ah^(i+1)*t:=by
 refine⟨o++[s],by simp[cL],dN.append (Wf.cons ug (Wf.nil _)),?_,hbl.setCell hg _,?_⟩
 ·have h:=hr.set i s
  rw[show L-i=(L-(i+1))+1 by omega,List.replicate_succ,iW cL]at h
  rw[List.append_assoc]
  exact h
 ·exact ye cL hval (by rw[dx,hx]) (by rw[dx,hy]) hs
theorem DM {b m n:Nat} (dN:Wf b o) (cL:o.length=x.length) (OM:y.length<=x.length) (hval:val b o+val b (y.take x.length)=val b (x.take x.length)+b^x.length*br)
  (hm:val b x=m) (hn:val b y=n) (hnm:n<=m):val b o=m-n:=by
 rw[List.take_of_length_le (Nat.le_refl _),List.take_of_length_le OM,hm,hn]at hval
 have hlt:=eW dN
 rw[cL]at hlt
 rcases Nat.eq_zero_or_pos br with rfl|hb
 ·omega
 ·have h5:b^x.length<=b^x.length*br:=Nat.le_mul_of_pos_right _ hb
  omega
theorem kJ (w:World) (v1 v2:Value) (m n:Nat) (h1:aZ .u32 ah w v1 m) (h2:aZ .u32 ah w v2 n) (hnm:n<=m) {j:Nat} (hj:Bd j m) (ct:j<=1000000000):
  Calls Tryz.prog 91 #[v1,v2] w (mc w (m-n)):=by
 obtain⟨X,cx,rfl,hx⟩:=h1
 obtain⟨Y,cy,rfl,hy⟩:=h2
 have hla:=oc hj
 have uh:(ae ah n).length<=(ae ah m).length:=by
  rcases Nat.lt_or_ge (ae ah m).length (ae ah n).length with h|h
  ·have:=bX aj h; omega
  ·exact h
 have wx:=bq aj m
 have wy:=bq aj n
 have nr:=aV aj m
 have yL:=aV aj n
 clear hj
 generalize ae ah m=x at *
 generalize ae ah n=y at *
 have Dn:x.length<=1000000000:=by omega
 clear hla
 have HX:=Lib.hid nr
 have HY:=Lib.hid yL
 clear nr yL
 go_enter Tryz.func91,Tryz.ntmps91
 go_wp2_with (at_make; refine bY _ rfl _ _ _ rfl .u32 146 Tryz.underlying59 ko _ _ rfl rfl (by omega) (by omega) (by omega) ?_; intro w1 hrow bV hsz)
 rw[Int.toNat_natCast]at hrow
 go_loopw [6,7] (λs6 s7 wr=>∃(i br:Nat) (o:List Nat),i<=x.length/\s7=.int .i64 i/\s6=.int .u64 br/\br<=1/\o.length=i/\Wf ah o/\Row wr .u32 146 w.heap.size (o++List.replicate (x.length-i) 0)/\Below w.heap.size w wr/\val ah o+val ah (y.take i)=val ah (x.take i)+ah^i*br)
  (λ_ s7 _=>x.length-(RowKit.intOf s7).toNat)
 case atStart=>exact⟨0,0,[],by omega,rfl,rfl,by omega,rfl,Wf.nil _,by simpa using hrow,bV,by simp[val]⟩
 case round=>
  obtain⟨i,br,o,hi,rfl,rfl,yE,cL,dN,hr,hbl,hval⟩:=hrel
  have cj:=Lib.hid hval
  have dc:=Lib.hid cL
  clear hval cL hrow bV hsz
  by_cases hlt:i<x.length
  ·obtain⟨bx,ox,vx,rfl,uS,iK⟩:=(hx.below hbl).get hlt
   have nr:=dI (wx _ (List.mem_of_getElem? iK.out))
   obtain⟨vo,Cj,Es⟩:=hr.get (i:=i) (by have:=dc.out; simp; omega)
   have tS:=hr.frozen i
   have R7:(0:Int)<=(i:Int):=by omega
   have R8:(i:Int)<(x.length:Int):=by omega
   by_cases oQ:i<y.length
   ·obtain⟨Ln,oy,vy,rfl,Fv,qF⟩:=(hy.below hbl).get oQ
    have yL:=dI (wy _ (List.mem_of_getElem? qF.out))
    by_cases pC:vx<br+vy
    ·skip
     have Mb:(vx:Int)<(br:Int)+(vy:Int):=by omega
     have E:=Lib.hid (show((vx:Int)+4294967296-((br:Int)+(vy:Int)))=(((vx+4294967296-(br+vy)):Nat):Int) by omega)
     have O6:(0:Int)<=(vx:Int)+4294967296-((br:Int)+(vy:Int)):=by omega
     go_wp2
     go_roundw
     case rel=>
      obtain⟨o',r⟩:=iP (vx:=vx) (vy:=vy) (s:=(vx+4294967296-(br+vy))) (t:=1) dc.out hlt dN (by unfold ah; omega) (by unfold ah; omega) (by rw[List.getD_eq_getElem?_getD,iK.out]; rfl) (by rw[List.getD_eq_getElem?_getD,qF.out]; rfl) hr hbl (Nat.le_refl _) cj.out
      rw[E.out]
      exact⟨i+1,1,o',by omega,by go_num,rfl,by omega,r⟩
     case measure=>simp[RowKit.intOf]; omega
    ·skip
     have Mb:¬((vx:Int)<(br:Int)+(vy:Int)):=by omega
     have E:=Lib.hid (show((vx:Int)-((br:Int)+(vy:Int)))=(((vx-(br+vy)):Nat):Int) by omega)
     have O6:(0:Int)<=(vx:Int)-((br:Int)+(vy:Int)):=by omega
     go_wp2
     go_roundw
     case rel=>
      obtain⟨o',r⟩:=iP (vx:=vx) (vy:=vy) (s:=(vx-(br+vy))) (t:=0) dc.out hlt dN (by unfold ah; omega) (by unfold ah; omega) (by rw[List.getD_eq_getElem?_getD,iK.out]; rfl) (by rw[List.getD_eq_getElem?_getD,qF.out]; rfl) hr hbl (Nat.le_refl _) cj.out
      rw[E.out]
      exact⟨i+1,0,o',by omega,by go_num,rfl,by omega,r⟩
     case measure=>simp[RowKit.intOf]; omega
   ·by_cases pC:vx<br
    ·skip
     have Mb:(vx:Int)<(br:Int):=by omega
     have E:=Lib.hid (show((vx:Int)+4294967296-(br:Int))=(((vx+4294967296-(br+0)):Nat):Int) by omega)
     have O6:(0:Int)<=(vx:Int)+4294967296-(br:Int):=by omega
     go_wp2
     go_roundw
     case rel=>
      obtain⟨o',r⟩:=iP (vx:=vx) (vy:=0) (s:=(vx+4294967296-(br+0))) (t:=1) dc.out hlt dN (by unfold ah; omega) (by unfold ah; omega) (by rw[List.getD_eq_getElem?_getD,iK.out]; rfl) (by rw[List.getD_eq_getElem?_getD,List.getElem?_eq_none (by omega)]; rfl) hr hbl (Nat.le_refl _) cj.out
      rw[E.out]
      exact⟨i+1,1,o',by omega,by go_num,rfl,by omega,r⟩
     case measure=>simp[RowKit.intOf]; omega
    ·skip
     have Mb:¬((vx:Int)<(br:Int)):=by omega
     have E:=Lib.hid (show((vx:Int)-(br:Int))=(((vx-(br+0)):Nat):Int) by omega)
     have O6:(0:Int)<=(vx:Int)-(br:Int):=by omega
     go_wp2
     go_roundw
     case rel=>
      obtain⟨o',r⟩:=iP (vx:=vx) (vy:=0) (s:=(vx-(br+0))) (t:=0) dc.out hlt dN (by unfold ah; omega) (by unfold ah; omega) (by rw[List.getD_eq_getElem?_getD,iK.out]; rfl) (by rw[List.getD_eq_getElem?_getD,List.getElem?_eq_none (by omega)]; rfl) hr hbl (Nat.le_refl _) cj.out
      rw[E.out]
      exact⟨i+1,0,o',by omega,by go_num,rfl,by omega,r⟩
     case measure=>simp[RowKit.intOf]; omega
  ·obtain rfl:i=x.length:=by omega
   have HF:=Lib.hid (DM dN dc.out uh cj.out HX.out HY.out hnm)
   rw[Nat.sub_self,List.replicate_zero,List.append_nil]at hr
   have hrd:=hr.dV (c:=x.length) (by have:=dc.out; omega) (by unfold maxLen; omega)
   go_wp2_with fail
   refine(pH _ _ _ o (m-n) hrd dN _ dc.out HF.out).mono ?_
   rintro e w' ⟨rfl,kn,rfl,hv⟩
   go_wp2
   go_ret
   exact⟨_,_,_,Nat.le_refl _,rfl,hv,hbl⟩
theorem rX (w:World) (v1 v2:Value) (m n:Nat) (h1:aZ .u32 ah w v1 m) (h2:aZ .u32 ah w v2 n) (hnm:n<=m) {j:Nat} (hj:Bd j m) (ct:j<=1000000000):
  Calls Tryz.prog 91 #[v1,v2] w (dS .u32 ah w (m-n)):=(kJ w v1 v2 m n h1 h2 hnm hj ct).mono λ_ _ h=>h.num
end Wx

namespace Wx
set_option maxRecDepth 100000
set_option maxHeartbeats 1000000
open Go Go.RowKit Go.Proofs
@[irreducible] def npLo (x y u c : Nat) : Nat := (u + c + x * y) % 4294967296
@[irreducible] def npHi (x y u c : Nat) : Nat := (u + c + x * y) / 4294967296
theorem Jg (x y u c:Nat):npLo x y u c+ah*npHi x y u c=x*y+u+c:=by unfold npLo npHi ah; omega
theorem Jf (x y u c:Nat):npLo x y u c<ah:=by unfold npLo ah; omega
variable {c:Nat}
theorem Cv {x y u:Nat} (hx:x<ah) (hy:y<ah) (hu:u<ah) (hc:c<ah):npHi x y u c<ah/\u+c+x*y<18446744073709551616:=by
 have hxy:x*y<=4294967295*4294967295:=Nat.mul_le_mul (by unfold ah at hx; omega) (by unfold ah at hy; omega)
 unfold ah npHi at *
 omega
variable {w0 wr:World} {g:Nat} {o b:List Nat} {i k vx vy vu s N:Nat}
theorem zf (hk:k<b.length) (hc:c<ah) (cL:o.length=N) (dN:Wf ah o) (hx:vx<ah) (hy:vy<ah) (hu:vu<ah)
  (hr:Row wr .u32 146 g o) (hg:w0.heap.size<=g) (hbl:Below w0.heap.size w0 wr) (hz:∀p,i+b.length+1<=p->o.getD p 0=0) (hz0:o.getD (i+b.length) 0=0) (hval:val ah o+ah^(i+k)*c=s+ah^i*(vx*val ah (b.take k)))
  (HU:o[i+k]?=some vu) (HY:b[k]?=some vy):
  ∃(o':List Nat),npHi vx vy vu c<ah/\o'.length=N/\Wf ah o' /\
   Row (wr.setCell ⟨g,i+k,none⟩ (.int .u32 (npLo vx vy vu c:Nat))) .u32 146 g o'/\Below w0.heap.size w0 (wr.setCell ⟨g,i+k,none⟩ (.int .u32 (npLo vx vy vu c:Nat))) /\
   (∀p,i+b.length+1<=p->o'.getD p 0=0)/\o'.getD (i+b.length) 0=0/\val ah o'+ah^(i+(k+1))*npHi vx vy vu c=s+ah^i*(vx*val ah (b.take (k+1))):=by
 refine⟨o.set (i+k) (npLo vx vy vu c),(Cv hx hy hu hc).1,by simp[cL],dN.set (Jf _ _ _ _),hr.set _ _,hbl.setCell hg _,?_,?_,yY hval HU HY (Jg _ _ _ _)⟩
 ·intro p hp
  rw[getD_set_ne (by omega)]; exact hz p hp
 ·rw[getD_set_ne (by omega)]; exact hz0
theorem ze (hc:c<ah) (hN:i+b.length<N) (cL:o.length=N) (dN:Wf ah o)
  (hr:Row wr .u32 146 g o) (hg:w0.heap.size<=g) (hbl:Below w0.heap.size w0 wr) (hz:∀p,i+b.length+1<=p->o.getD p 0=0) (hz0:o.getD (i+b.length) 0=0) (hval:val ah o+ah^(i+b.length)*c=s+ah^i*(vx*val ah (b.take b.length))):
  ∃(o':List Nat),o'.length=N/\Wf ah o' /\
   Row (wr.setCell ⟨g,i+b.length,none⟩ (.int .u32 (c:Nat))) .u32 146 g o'/\Below w0.heap.size w0 (wr.setCell ⟨g,i+b.length,none⟩ (.int .u32 (c:Nat))) /\
   (∀p,i+b.length+1<=p->o'.getD p 0=0)/\val ah o'+ah^(i+(b.length+1))*0=s+ah^i*(vx*val ah (b.take (b.length+1))):=by
 refine⟨o.set (i+b.length) c,by simp[cL],dN.set hc,hr.set _ _,hbl.setCell hg _,λp hp=>by rw[getD_set_ne (by omega)]; exact hz p hp,?_⟩
 have hu:o[i+b.length]?=some 0:=by
  rw[List.getD_eq_getElem?_getD,List.getElem?_eq_getElem (by omega)]at hz0
  rw[List.getElem?_eq_getElem (by omega)]
  simpa using hz0
 have h1:=mG (b:=ah) hu c
 rw[Nat.mul_zero,Nat.add_zero]at h1
 rw[h1,hval,Nat.mul_zero,Nat.add_zero,List.take_length,List.take_of_length_le (by omega)]
theorem uZ {b:Nat} {o0 x y:List Nat} {n:Nat} (hk:y.length<=k) (hval:val b o+b^(i+k)*0=val b o0+b^i*(vx*val b (y.take k))) (h0:val b o0=val b (x.take i)*n) (hb:val b y=n) (hx:x[i]?=some vx):
  val b o=val b (x.take (i+1))*n:=by
 rw[Nat.mul_zero,Nat.add_zero,List.take_of_length_le hk,hb]at hval
 rw[hval,h0,bQ hx,Nat.add_mul,Nat.mul_assoc]
theorem ME (hx:vx<ah) (hy:vy<ah) (hu:vu<ah) (hc:c<ah):
  IntKind.u64.wrap ((IntKind.u64.wrap ((vu:Int)+(c:Int)+IntKind.u64.wrap ((vx:Int)*(vy:Int)))).tdiv 4294967296)=((npHi vx vy vu c:Nat):Int) /\
  (IntKind.u64.wrap ((vu:Int)+(c:Int)+IntKind.u64.wrap ((vx:Int)*(vy:Int)))).tmod 4294967296%4294967296=((npLo vx vy vu c:Nat):Int):=by
 obtain⟨h1,h2⟩:=Cv hx hy hu hc
 have e0:IntKind.u64.wrap ((vx:Int)*(vy:Int))=((vx*vy:Nat):Int):=by
  rw[<-Int.natCast_mul,wrap_u64 (by omega) (by omega)]
 have e:(vu:Int)+(c:Int)+((vx*vy:Nat):Int)=((vu+c+vx*vy:Nat):Int):=by omega
 rw[e0,e]
 unfold npLo npHi at *
 generalize vu+c+vx*vy=N at *
 unfold ah at h1
 rw[wrap_u64 (n:=(N:Int)) (by omega) (by omega),Int.tdiv_eq_ediv_of_nonneg (by omega),Int.tmod_eq_emod_of_nonneg (by omega),wrap_u64 (by omega) (by omega)]
 omega
theorem ow (w:World) (v1 v2:Value) (m n:Nat) (h1:aZ .u32 ah w v1 m) (h2:aZ .u32 ah w v2 n) {j k:Nat} (hj:Bd j m) (hk:Bd k n) (ct:j<=1000000000) (kN:k<=1000000000):
  Calls Tryz.prog 79 #[v1,v2] w (mc w (m*n)):=by
 obtain⟨A,c,rfl,ha⟩:=h1
 obtain⟨B,d,rfl,hb⟩:=h2
 have hla:=oc hj
 have hlb:=oc hk
 have sE:=aV aj m
 have Mm:=aV aj n
 have wa:=bq aj m
 have wb:=bq aj n
 clear hj hk
 go_enter Tryz.func79,Tryz.ntmps79
 generalize ae ah m=a at *
 generalize ae ah n=b at *
 have VA:=Lib.hid sE
 have VB:=Lib.hid Mm
 clear sE Mm
 have Sb:a.length<=100000000:=by omega
 have Sc:b.length<=100000000:=by omega
 clear hla hlb
 go_wp2_with (at_make; refine bY _ rfl _ _ _ rfl .u32 146 Tryz.underlying59 ko _ _ rfl rfl (by omega) (by omega) (by omega) ?_; intro w1 hrow bV hsz)
 rw[show((a.length:Int)+(b.length:Int)).toNat=a.length+b.length by omega]at hrow
 go_loopw [6] (λs6 wr=>∃(i:Nat) (o:List Nat),i<=a.length/\s6=.int .i64 i/\o.length=a.length+b.length/\Wf ah o/\Row wr .u32 146 w.heap.size o/\Below w.heap.size w wr/\(∀p,i+b.length<=p->o.getD p 0=0)/\val ah o=val ah (a.take i)*n)
  (λs6 _=>a.length-(RowKit.intOf s6).toNat)
 case atStart=>exact⟨0,List.replicate (a.length+b.length) 0,by omega,rfl,by simp,Wf.replicate (by unfold ah; omega) _,hrow,bV,λp _=>by simp[List.getD_eq_getElem?_getD,List.getElem?_replicate]; split<;>rfl,by rw[eM]; simp[val]⟩
 case round=>
  obtain⟨i,o,hi,rfl,cL,dN,hr,hbl,hz,hval⟩:=hrel
  have cj:=Lib.hid hval
  have dc:=Lib.hid cL
  have HZ:=Lib.hid hz
  clear hval cL hz hrow bV hsz
  by_cases hlt:i<a.length
  ·obtain⟨gx,ox,vx,rfl,_,iK⟩:=(ha.below hbl).get hlt
   have JV:=Lib.hid (wa _ (List.mem_of_getElem? iK.out))
   have nr:=dI JV.out
   have R7:(0:Int)<=(i:Int):=by omega
   have R8:(i:Int)<(a.length:Int):=by omega
   go_wp2_with fail
   obtain⟨wo,rfl⟩:∃wo:World,wo=wr:=⟨_,rfl⟩
   go_loopw [7,8] (λs7 s8 wr=>∃(k c:Nat) (o':List Nat),k<=b.length+1/\s8=.int .i64 k/\s7=.int .u64 c/\Bx (c<ah/\(k=b.length+1->c=0))/\Bx (o'.length=a.length+b.length)/\Wf ah o'/\Row wr .u32 146 w.heap.size o'/\Below w.heap.size w wr/\Bx (∀p,i+b.length+1<=p->o'.getD p 0=0)/\Bx (k<=b.length->o'.getD (i+b.length) 0=0)/\Bx (val ah o'+ah^(i+k)*c=val ah o+ah^i*(vx*val ah (b.take k))))
    (λ_ s8 _=>b.length+1-(RowKit.intOf s8).toNat)
   case atStart=>exact⟨0,0,o,by omega,rfl,rfl,bx ⟨by unfold ah; omega,by omega⟩,bx dc.out,dN,hr,hbl,bx (λp hp=>HZ.out p (by omega)),bx (λ_=>HZ.out _ (Nat.le_refl _)),bx (by simp[val])⟩
   case round=>
    clear hr dN
    obtain⟨k,c,o',hk,rfl,rfl,HC,rE,wO,hr',ud,Lc,PT,rF⟩:=hrel
    have uS:=((ha.below ud).at_ hlt)
    by_cases hlk:k<b.length
    ·obtain⟨b1,o1,e1,uS⟩:=uS
     injection e1 with e1
     injection e1 with e1 e2
     subst e1 e2
     rw[List.getD_eq_getElem?_getD,iK.out,Option.getD_some]at uS
     obtain⟨Ln,oy,vy,rfl,Fv,qF⟩:=(hb.below ud).get hlk
     obtain⟨vu,wI,BK⟩:=hr'.get (i:=i+k) (by have:=rE.out; omega)
     have tS:=hr'.frozen (i+k)
     have Ng:=Lib.hid (wb _ (List.mem_of_getElem? qF.out))
     have NB:=Lib.hid (wO _ (List.mem_of_getElem? BK.out))
     have yL:=dI Ng.out
     have O5:=dI NB.out
     have Wr:=dI HC.out.1
     have uT:(0:Int)<=(k:Int):=by omega
     have kN:(k:Int)<(b.length:Int):=by omega
     obtain⟨q1,q2⟩:=ME JV.out Ng.out NB.out HC.out.1
     have Q1:=bx q1
     have Q2:=bx q2
     clear q1 q2
     go_wp2
     go_quiet (fail)
     go_wp2
     rw[Q1.out,Q2.out]
     go_roundw
     case rel=>
      obtain⟨o2,hc2,hl2,Ds,hr2,hb2,hz2,hz3,hv2⟩:=zf hlk HC.out.1 rE.out wO JV.out Ng.out NB.out (hr'.drewN nq) (Nat.le_refl _) (below_drewN ud nq) Lc.out (PT.out (by omega)) rF.out BK.out qF.out
      exact⟨k+1,_,o2,by omega,by go_num,rfl,bx ⟨hc2,λh=>by omega⟩,bx hl2,Ds,hr2,hb2,bx hz2,bx (λ_=>hz3),bx hv2⟩
     case measure=>(simp[RowKit.intOf]; try omega)
    ·clear uS
     by_cases hkb:k=b.length
     ·subst hkb
      rcases Nat.eq_zero_or_pos c with rfl|hc0
      ·go_wp2
       go_roundw
       case rel=>
        exact⟨i+1,o',by omega,by go_num,rE.out,wO,hr',ud,λp hp=>by
         rcases Nat.lt_or_ge p (i+b.length+1)with h|h
         ·have:=PT.out (Nat.le_refl _)
          omega
         ·exact Lc.out p h,uZ (Nat.le_refl _) rF.out cj.out VB.out iK.out⟩
       case measure=>(simp[RowKit.intOf]; try omega)
      ·obtain⟨vu,wI,BK⟩:=hr'.get (i:=i+b.length) (by have:=rE.out; omega)
       have tS:=hr'.frozen (i+b.length)
       have Wq:vu=0:=by
        have h:=PT.out (Nat.le_refl _)
        rw[List.getD_eq_getElem?_getD,BK.out]at h
        simpa using h
       subst Wq
       have Wr:=dI HC.out.1
       have qn:(0:Int)<(c:Int):=by omega
       have C1:=bx (show(c:Int)/4294967296=((0:Nat):Int) by omega)
       have C2:=bx (show(c:Int)%4294967296=(c:Int) by omega)
       go_wp2
       rw[C1.out,C2.out]
       go_roundw
       case rel=>
        obtain⟨o2,hl2,Ds,hr2,hb2,hz2,hv2⟩:=ze HC.out.1 (by omega) rE.out wO hr' (Nat.le_refl _) ud Lc.out (PT.out (Nat.le_refl _)) rF.out
        exact⟨b.length+1,0,o2,by omega,by go_num,rfl,bx ⟨by unfold ah; omega,λ_=>rfl⟩,bx hl2,Ds,hr2,hb2,bx hz2,bx (λh=>by omega),bx hv2⟩
       case measure=>(simp[RowKit.intOf]; try omega)
     ·obtain rfl:k=b.length+1:=by omega
      obtain rfl:c=0:=HC.out.2 rfl
      go_wp2
      go_roundw
      case rel=>
       exact⟨i+1,o',by omega,by go_num,rE.out,wO,hr',ud,λp hp=>Lc.out p (by omega),uZ (by omega) rF.out cj.out VB.out iK.out⟩
      case measure=>(simp[RowKit.intOf]; try omega)
  ·obtain rfl:i=a.length:=by omega
   have dM:val ah o=m*n:=by
    have h:=cj.out
    rw[List.take_length,VA.out]at h
    exact h
   have HF:=Lib.hid dM
   clear dM
   have hrd:=hr.dV (c:=a.length+b.length) (by have:=dc.out; omega) (by unfold maxLen; omega)
   go_wp2_with fail
   refine(pH _ _ _ o (m*n) hrd dN _ dc.out HF.out).mono ?_
   rintro e w' ⟨rfl,kn,rfl,hv⟩
   go_wp2
   go_ret
   exact⟨_,_,_,Nat.le_refl _,rfl,hv,hbl⟩
theorem gn (w:World) (v1 v2:Value) (m n:Nat) (h1:aZ .u32 ah w v1 m) (h2:aZ .u32 ah w v2 n) {j k:Nat} (hj:Bd j m) (hk:Bd k n) (ct:j<=1000000000) (kN:k<=1000000000):
  Calls Tryz.prog 79 #[v1,v2] w (dS .u32 ah w (m*n)):=(ow w v1 v2 m n h1 h2 hj hk ct kN).mono λ_ _ h=>h.num
end Wx
