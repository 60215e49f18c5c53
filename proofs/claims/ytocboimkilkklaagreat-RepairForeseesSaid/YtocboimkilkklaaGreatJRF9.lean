import Derived.Test.YtocboimkilkklaaGreatJRF7
import Derived.Deep.DeepMust
namespace Wx
set_option maxHeartbeats 1000000
open Go Go.RowKit Go.Proofs
def win (L:List Nat) (j n:Nat):List Nat:=(L.drop j).take n
variable {L:List Nat} {j n:Nat}
theorem ig (h:j+n<=L.length):(win L j n).length=n:=by unfold win; simp; omega
variable {i:Nat}
theorem oo (hi:i<n):(win L j n)[i]?=L[j+i]?:=by
 unfold win; rw[List.getElem?_take_of_lt hi,List.getElem?_drop]
theorem Dh {b:Nat} (h:Wf b L) (j n:Nat):Wf b (win L j n):=(h.drop j).take n
theorem Ms {v:Nat}:win (L.set (j+i) v) j n=(win L j n).set i v:=by
 unfold win
 rw[List.drop_set,if_neg (by omega),show j+i-j=i by omega,List.take_set]
theorem Row.win {w:World} {k:IntKind} {e:TypeId} {g:Nat} {L:List Nat} (h:Row w k e g L) {j n c:Nat} (hj:j+n<=L.length) (hc:n<=c) (hm:c<=maxLen):Rd w k (some ⟨g,j,none⟩) c (win L j n):=by
 have hl:=ig hj
 refine⟨by omega,hm,λ_=>⟨g,j,rfl,λi hi=>?_⟩⟩
 rw[hl]at hi
 rw[h.cell (i:=j+i) (by omega),List.getD_eq_getElem?_getD,List.getD_eq_getElem?_getD,oo hi]
def Ds (w:World) (B:Nat) (k:IntKind) (A:Option Addr) (c:Nat) (l:List Nat):Prop:=Rd w k A c l/\(l≠[]->∀a,A=some a->a.block<B)
variable {w w':World} {B g:Nat} {k:IntKind} {A:Option Addr} {c:Nat} {l:List Nat}
theorem Ds.grown (h:Ds w B k A c l) (hg:w.grownBy w' (some g)) (hB:B<=g):Ds w' B k A c l:=by
 obtain⟨⟨h1,h2,h3⟩,h4⟩:=h
 refine⟨⟨h1,h2,λhne=>?_⟩,h4⟩
 obtain⟨b,o,e,hc⟩:=h3 hne
 refine⟨b,o,e,λi hi=>?_⟩
 have hb:=h4 hne _ e
 exact hg.cell (hc i hi) (by simp at hb ⊢; omega)
variable {row:Option Nat}
theorem Ds.qZ (h:Ds w B k A c l) (hg:w.grownBy w' row) (hB:∀g,row=some g->B<=g):Ds w' B k A c l:=by
 obtain⟨⟨h1,h2,h3⟩,h4⟩:=h
 refine⟨⟨h1,h2,λhne=>?_⟩,h4⟩
 obtain⟨b,o,e,hc⟩:=h3 hne
 refine⟨b,o,e,λi hi=>?_⟩
 have hb:=h4 hne _ e
 refine hg.cell (hc i hi) (λe=>?_)
 have:=hB _ e.symm
 simp at hb this
 omega
theorem Ds.of (h:Rd w k A c l):Ds w w.heap.size k A c l:=by
 refine⟨h,λhne a ha=>?_⟩
 obtain⟨b,o,e,hc⟩:=h.2.2 hne
 rw[e]at ha
 injection ha with ha
 subst ha
 have hl:0<l.length:=List.length_pos_iff.2 hne
 exact World.block_lt_of_cell? w _ (hc 0 hl)
theorem di (h:Below w.heap.size w w') (row:Option Nat):w.grownBy w' row:=
 ⟨h.os,h.tape,h.output,h.size,λk hk _=>h.block k hk⟩
theorem jK {w1 w2:World} (h:w.grownBy w1 row) (k:w1.grownBy w2 row):w.grownBy w2 row:=
 ⟨k.os.trans h.os,k.tape.trans h.tape,k.output.trans h.output,Nat.le_trans h.size k.size,λi hi hn=>(k.block i (Nat.lt_of_lt_of_le hi h.size) hn).trans (h.block i hi hn)⟩
theorem xn (w:World) (g i:Nat) (v:Value):w.grownBy (w.setCell ⟨g,i,none⟩ v) (some g):=
 ⟨rfl,rfl,rfl,by simp[World.setCell],λk _ hk=>Below.heap_setCell w ⟨g,i,none⟩ v k (λe=>hk (by simp[e]))⟩
theorem rS (w:World) (n:Nat) (row:Option Nat):w.grownBy (w.drewN n) row:=⟨rfl,rfl,rfl,Nat.le_refl _,λ_ _ _=>rfl⟩
theorem Dd {w0 wr:World} {v o:List Nat} {vx q:Nat} (ew:o.length=i) (hi:i<v.length) (hx:v[i]?=some vx) (GQ:Wf b64 v) (fg:Wf b64 o) (hc:c<b64) (hq:q<b64)
  (hr:Row wr .u64 119 g (o++List.replicate (v.length+1-i) 0)) (hg:w0.heap.size<=g) (hbl:Below w0.heap.size w0 wr) (hval:val b64 o+b64^i*c=val b64 (v.take i)*q):
  ∃(c':Nat) (o':List Nat),IntKind.u64.wrap ((muHi vx q:Nat)+(adHi (muLo vx q) c:Nat))=(c':Int)/\c'<b64/\o'.length=i+1/\Wf b64 o' /\
   Row (wr.setCell ⟨g,i,none⟩ (.int .u64 (adLo (muLo vx q) c:Nat))) .u64 119 g (o'++List.replicate (v.length+1-(i+1)) 0)/\Below w0.heap.size w0 (wr.setCell ⟨g,i,none⟩ (.int .u64 (adLo (muLo vx q) c:Nat))) /\
   val b64 o'+b64^(i+1)*c'=val b64 (v.take (i+1))*q:=by
 have qb:vx<b64:=GQ _ (List.mem_of_getElem? hx)
 have h1:=sW vx q
 have h2:=sI (muLo vx q) c
 have h3:=sH (muLo vx q) c
 have hxq:vx*q<=18446744073709551615*18446744073709551615:=Nat.mul_le_mul (by unfold b64 at qb; omega) (by unfold b64 at hq; omega)
 have hlt:muHi vx q+adHi (muLo vx q) c<b64:=by
  unfold b64 at *
  generalize vx*q=p at *
  omega
 refine⟨_,o++[adLo (muLo vx q) c],?_,hlt,by simp[ew],fg.append (Wf.cons h3 (Wf.nil _)),?_,hbl.setCell hg _,?_⟩
 ·rw[wrap_u64 (by omega) (by unfold b64 at hlt; omega)]; omega
 ·have h:=hr.set i (adLo (muLo vx q) c)
  rw[show v.length+1-i=(v.length+1-(i+1))+1 by omega,List.replicate_succ,ki ew]at h
  rw[List.append_assoc]
  exact h
 ·rw[lC,ew,cQ hx,Nat.add_mul,<-hval,Nat.pow_succ]
  have e:b64^i*(adLo (muLo vx q) c+b64*(muHi vx q+adHi (muLo vx q) c))=b64^i*(vx*q+c):=by
   congr 1
   unfold b64
   rw[<-h1]
   omega
  rw[Nat.mul_add (b64^i) (adLo (muLo vx q) c),Nat.mul_add (b64^i) (vx*q),<-Nat.mul_assoc (b64^i) b64]at e
  rw[Nat.mul_assoc (b64^i) vx q]
  omega
theorem GB (x y c:Nat) (hc:c<=1):∀w:World,(callFunc 116 #[.int .u64 (x:Int),.int .u64 (y:Int),.int .u64 (c:Int)]).run Tryz.prog w=.ok (.value (.tuple #[.int .u64 (iT x y c:Nat),.int .u64 (ko x y c:Nat)])) w:=by
 intro w
 rw[run_callFunc_extern Tryz.func116 (by kernel_rfl) (by kernel_rfl) (by kernel_rfl) (e:=subEntry) (by kernel_rfl),qE x y c hc]
 rfl
theorem Dc {M P:List Nat} {br vu vp:Nat} (hml:M.length=L.length) (hj:j+n<=L.length) (hi:i<n) (hu:M[j+i]?=some vu) (hp:P[i]?=some vp) (hd:M.drop (j+i)=L.drop (j+i))
  (R3:vu<b64) (hvp:vp<b64) (hbr:br<=1) (hval:val b64 ((win M j n).take i)+val b64 (P.take i)=val b64 ((win L j n).take i)+b64^i*br):
  val b64 ((win (M.set (j+i) (iT vu vp br)) j n).take (i+1))+val b64 (P.take (i+1))=val b64 ((win L j n).take (i+1))+b64^(i+1)*ko vu vp br:=by
 have hs:=(vK (c:=br) R3 hvp hbr).1
 have hwu:(win M j n)[i]?=some vu:=by rw[oo hi]; exact hu
 have Y3:(win L j n)[i]?=some vu:=by
  rw[oo hi]
  have:(M.drop (j+i))[0]?=(L.drop (j+i))[0]?:=by rw[hd]
  rw[List.getElem?_drop,List.getElem?_drop,Nat.add_zero]at this
  rw[<-this]; exact hu
 have Xm:=ig (L:=M) (j:=j) (n:=n) (by omega)
 rw[Ms,cQ hp,cQ Y3]
 rw[cQ (l:=(win M j n).set i (iT vu vp br)) (v:=iT vu vp br) (by rw[List.getElem?_set_self (by omega)]),List.take_set_of_le (Nat.le_refl _),Nat.pow_succ]
 have e:b64^i*(iT vu vp br+vp+br)=b64^i*(vu+b64*ko vu vp br):=by rw[hs]; rfl
 rw[Nat.mul_add,Nat.mul_add,Nat.mul_add,<-Nat.mul_assoc]at e
 omega
def G9 (w:World) (g j n:Nat) (L:List Nat) (p:Nat) (e:Ending) (w':World):Prop:=
 (val b64 (win L j (n+1))<p/\e=.returned (.bool false)/\Below w.heap.size w w') \/
 (p<=val b64 (win L j (n+1))/\e=.returned (.bool true)/\w.grownBy w' (some g) /\
  ∃L',L'.length=L.length/\Wf b64 L'/\Row w' .u64 119 g L'/\L'.take j=L.take j/\L'.drop (j+(n+1))=L.drop (j+(n+1))/\val b64 (win L' j (n+1))+p=val b64 (win L j (n+1)))
theorem Kb (w:World) (B g j cu:Nat) (L v:List Nat) (A:Option Addr) (cv q:Nat) (hR:Row w .u64 119 g L) (IL:Wf b64 L) (hj:j+(v.length+1)<=L.length) (BN:v.length+1<=cu) (hcm:cu<=maxLen)
  (hv:Ds w B .u64 A cv v) (_hB:B<=g) (GQ:Wf b64 v) (hq:q<b64) (hn:v.length<=1000000000):
  Calls Tryz.prog 165 #[.slice (some ⟨g,j,none⟩) (v.length+1) cu,.slice A v.length cv,.int .u64 (q:Int)] w (G9 w g j v.length L (val b64 v*q)):=by
 have hvl:=hv.1.len
 have HQ:=Lib.hid hq
 have UC:cu<=9223372036854775807:=by unfold maxLen at hcm; omega
 clear hq
 go_enter Tryz.func165,Tryz.ntmps165
 go_wp2_with (at_make; refine da _ rfl _ _ _ rfl .u64 119 Tryz.underlying30 kA _ _ rfl rfl (by omega) (by omega) (by omega) ?_; intro w1 hrow cV hsz)
 rw[show((v.length:Int)+1).toNat=v.length+1 by omega]at hrow
 go_loopw [8,22] (λs8 VW wr=>∃(i c:Nat) (o:List Nat),i<=v.length/\VW=.int .i64 i/\s8=.int .u64 c/\c<b64/\o.length=i/\Wf b64 o/\Row wr .u64 119 w.heap.size (o++List.replicate (v.length+1-i) 0)/\Below w.heap.size w wr/\val b64 o+b64^i*c=val b64 (v.take i)*q)
  (λ_ VW _=>v.length-(RowKit.intOf VW).toNat)
 case atStart=>exact⟨0,0,[],by omega,rfl,rfl,by unfold b64; omega,rfl,Wf.nil _,by simpa using hrow,cV,by simp[val]⟩
 case round=>
  obtain⟨i,c,o,hi,rfl,rfl,hc,ew,fg,hr,hbl,hval⟩:=hrel
  have dh:=Lib.hid hval
  have en:=Lib.hid ew
  have HC:=Lib.hid hc
  clear hval ew hc hrow cV hsz
  by_cases hlt:i<v.length
  ·obtain⟨bx,ox,vx,rfl,xo,jG⟩:=(hv.1.below hbl).get hlt
   obtain⟨vo,DY,GI⟩:=hr.get (i:=i) (by have:=en.out; simp; omega)
   have vU:=hr.frozen i
   have MA:Hid (vx<b64):=GQ _ (List.mem_of_getElem? jG.out)
   go_wp2_with (first|(go_at_call 113; refine(gF vx q MA.out HQ.out _).mono ?_; rintro e w' ⟨rfl,rfl⟩)|((with_reducible refine ij 114 rfl rfl ?_); refine nH rfl rfl rfl ?_))
   go_roundw
   case rel=>
    obtain⟨c',o2,e,r⟩:=Dd en.out hlt jG.out GQ fg HC.out HQ.out hr (Nat.le_refl _) hbl dh.out
    exact⟨i+1,c',o2,by omega,by go_num,by rw[e],r⟩
   case measure=>simp[RowKit.intOf]; omega
  ·obtain rfl:i=v.length:=by omega
   rw[show v.length+1-v.length=1 by omega,show List.replicate 1 0=[0]from rfl]at hr
   obtain⟨vo,DY,GI⟩:=hr.get (i:=v.length) (by have:=en.out; simp; omega)
   have vU:=hr.frozen v.length
   have HP:Hid (val b64 (o++[c])=val b64 v*q):=by
    show _=_
    have h:=dh.out
    rw[List.take_length]at h
    rw[lC,en.out]; exact h
   have Q9:=hr.set v.length c
   rw[ki en.out]at Q9
   have Vw:Wf b64 (o++[c]):=fg.append (Wf.cons HC.out (Wf.nil _))
   have Tr:Hid ((o++[c]).length=v.length+1):=by show _=_; simp[en.out]
   have hb2:=hbl.setCell (p:=⟨w.heap.size,v.length,none⟩) (Nat.le_refl _) (.int .u64 (c:Int))
   generalize o++[c]=P at *
   clear dh en fg hr GI
   have Rx:=hR.lt
   go_wp2_with fail
   obtain⟨w2,Fy⟩:∃w2,w2=wr.setCell ⟨w.heap.size,v.length,none⟩ (.int .u64 (c:Int)):=⟨_,rfl⟩
   rw[<-Fy]at Q9 hb2 ⊢
   clear Fy hbl vU DY
   have Q8:=hR.keep hb2
   refine(iV _ _ _ (win L j (v.length+1)) _ (Q8.win hj BN hcm) (Dh IL _ _) _ (ig hj) rfl).mono ?_
   rintro e w' ⟨rfl,x1,rfl,hx1⟩
   go_wp2_with fail
   refine(iV _ _ _ P _ (Q9.fF (c:=v.length+1) (by have:=Tr.out; omega) (by unfold maxLen; omega)) Vw _ Tr.out HP.out).mono ?_
   rintro e w' ⟨rfl,x2,rfl,hx2⟩
   go_wp2_with fail
   refine(nM _ _ _ _ _ hx1 hx2).mono ?_
   rintro e w3 ⟨rfl,hb3⟩
   clear hx1 hx2
   have sw:=hb2.trans (hb3.mono hb2.size)
   have WQ:=Q8.keep hb3
   have Ra:=Q9.keep hb3
   clear Q8 Q9 hb2 hb3
   by_cases hlt:val b64 (win L j (v.length+1))<val b64 v*q
   ·have e1:bK (val b64 (win L j (v.length+1))) (val b64 v*q) = -1:=by unfold bK; rw[if_pos hlt]
    rw[e1]
    go_wp2
    go_ret
    exact .inl ⟨hlt,rfl,sw⟩
   ·have e1:∃z:Int,z=bK (val b64 (win L j (v.length+1))) (val b64 v*q)/\¬(z<0):=⟨_,rfl,by unfold bK; rw[if_neg hlt]; split<;>omega⟩
    obtain⟨z,hz,hz0⟩:=e1
    rw[<-hz]
    clear hz
    go_wp2_with fail
    have Yy:=Tr.out
    have KJ:=Lib.hid hlt
    have Tu:Hid (w.heap.size≠g):=by show _≠_; omega
    have hg3:=di sw (some g)
    clear hlt sw hR
    go_loopw [14,59] (λZJ V0 wr=>∃(i br:Nat) (M:List Nat),i<=v.length+1/\V0=.int .i64 i/\ZJ=.int .u64 br/\br<=1/\Hid (M.length=L.length)/\Wf b64 M/\Row wr .u64 119 g M/\Row wr .u64 119 w.heap.size P/\w.grownBy wr (some g)/\M.take j=L.take j/\M.drop (j+i)=L.drop (j+i) /\
      Hid (val b64 ((win M j (v.length+1)).take i)+val b64 (P.take i)=val b64 ((win L j (v.length+1)).take i)+b64^i*br))
     (λ_ V0 _=>v.length+1-(RowKit.intOf V0).toNat)
    case atStart=>exact⟨0,0,L,by omega,rfl,rfl,by omega,rfl,IL,WQ,Ra,hg3,rfl,rfl,rfl⟩
    case round=>
     obtain⟨i,br,M,hi,rfl,rfl,hbr,G3,IM,Nd,Xh,hgr,Cw,hdr,HV⟩:=hrel
     have Wp:=Lib.hid Cw
     have Tk:=Lib.hid hdr
     clear Cw hdr WQ Ra hg3
     by_cases hlt:i<v.length+1
     ·obtain⟨vu,YQ,Dq⟩:=Nd.get (i:=j+i) (by have:=G3.out; omega)
      obtain⟨vp,UD,TC⟩:=Xh.get (i:=i) (by omega)
      have vU:=Nd.frozen (j+i)
      have e1:(0:Int)<=(i:Int):=by omega
      have e2:(i:Int)<(v.length:Int)+1:=by omega
      have hsub:=GB vu vp br hbr
      go_wp2
      go_region
      all_goals go_wp2
      all_goals
       go_roundw
       case rel=>
        have UT:g≠w.heap.size:=by omega
        refine⟨i+1,ko vu vp br,M.set (j+i) (iT vu vp br),by omega,by go_num,rfl,vI _ _ _,?_,IM.set (vK (IM _ (List.mem_of_getElem? Dq.out)) (Vw _ (List.mem_of_getElem? TC.out)) hbr).2,(Nd.set _ _).drew,(Xh.K9 (p:=⟨g,j+i,none⟩) (by exact UT.symm) _).drew,jK (jK hgr (xn _ _ _ _)) (rS _ 1 _),?_,?_,?_⟩
        ·show _=_; rw[List.length_set]; exact G3.out
        ·rw[List.take_set_of_le (by omega)]; exact Wp.out
        ·rw[mM (by omega),show j+(i+1)=j+i+1 by omega,<-List.drop_drop,<-List.drop_drop (l:=L),Tk.out]
        ·show _=_
         exact Dc G3.out hj hlt Dq.out TC.out Tk.out (IM _ (List.mem_of_getElem? Dq.out)) (Vw _ (List.mem_of_getElem? TC.out)) hbr HV.out
       case measure=>simp[RowKit.intOf]; omega
     ·obtain rfl:i=v.length+1:=by omega
      go_wp2
      go_ret
      have h:=HV.out
      have l1:=ig (L:=M) (j:=j) (n:=v.length+1) (by have:=G3.out; omega)
      have l2:=ig (L:=L) (j:=j) (n:=v.length+1) hj
      rw[List.take_of_length_le (by omega),List.take_of_length_le (l:=P) (by omega),List.take_of_length_le (l:=win L j (v.length+1)) (by omega)]at h
      have hP:=HP.out
      have RK:=gC (Dh IM j (v.length+1))
      rw[l1]at RK
      have hnlt:=KJ.out
      have Ux:br=0:=by
       rcases Nat.eq_zero_or_pos br with h0|h0
       ·exact h0
       ·obtain rfl:br=1:=by omega
        omega
      subst Ux
      exact .inr ⟨by omega,rfl,hgr,M,G3.out,IM,Nd,Wp.out,Tk.out,by omega⟩
end Wx

namespace Wx
set_option maxRecDepth 100000
set_option maxHeartbeats 1000000
open Go Go.RowKit Go.Proofs
variable {n:Nat}
theorem nC {b:Nat} {l:List Nat} {x:Nat} (hn:l.length=n+1) (hx:l[n]?=some x):val b l=x*b^n+val b (l.take n):=by
 have h:=cQ (b:=b) hx
 rw[List.take_of_length_le (by omega)]at h
 rw[h,Nat.mul_comm,Nat.add_comm]
variable {un2 v2 j:Nat}
theorem Ae {v:List Nat} {un EJ v1:Nat} {L:List Nat} (M9:v.length=n+2) (hj:j+(v.length+1)<=L.length) (hu:(win L j (v.length+1))[n+2]?=some un) (Vo:(win L j (v.length+1))[n+1]?=some EJ) (Vp:(win L j (v.length+1))[n]?=some un2)
  (gb:v[n+1]?=some v1) (hv2:v[n]?=some v2) (wu:Wf b64 (win L j (v.length+1))) (ht:pE v) (hlt:val b64 (win L j (v.length+1))<val b64 v*b64):
  val b64 (win L j (v.length+1))/val b64 v<=(un*b64+EJ)/v1 /\
  (∀g r,un*b64+EJ=g*v1+r->r*b64+un2<g*v2->val b64 (win L j (v.length+1))/val b64 v<g)/\val b64 (win L j (v.length+1))/val b64 v<b64/\0<v1:=by
 have Xj:=ig hj
 generalize win L j (v.length+1)=u at *
 have hv0:0<v1:=by
  rcases Nat.eq_zero_or_pos v1 with rfl|h
  ·exfalso; apply ht
   rw[List.getLast?_eq_getElem?,M9]
   exact gb
  ·exact h
 have hp:∀k,0<b64^k:=λk=>Nat.pow_pos (by unfold b64; omega)
 have YB:=nC (b:=b64) (n:=n+2) (by omega) hu
 have WS:=nC (b:=b64) (l:=u.take (n+2)) (n:=n+1) (by simp; omega) (by rw[List.getElem?_take_of_lt (by omega)]; exact Vo)
 have WT:=nC (b:=b64) (l:=u.take (n+1)) (n:=n) (by simp; omega) (by rw[List.getElem?_take_of_lt (by omega)]; exact Vp)
 rw[List.take_take,Nat.min_eq_left (by omega)]at WS WT
 have Uh:=nC (b:=b64) (n:=n+1) (by omega) gb
 have hV1:=nC (b:=b64) (l:=v.take (n+1)) (n:=n) (by simp; omega) (by rw[List.getElem?_take_of_lt (by omega)]; exact hv2)
 rw[List.take_take,Nat.min_eq_left (by omega)]at hV1
 have e1:val b64 u=(un*b64+EJ)*b64^(n+1)+val b64 (u.take (n+1)):=by
  rw[YB,WS,Nat.add_mul,Nat.mul_assoc,show b64*b64^(n+1)=b64^(n+2)from Nat.pow_succ'.symm]; omega
 have e2:val b64 u=((un*b64+EJ)*b64+un2)*b64^n+val b64 (u.take n):=by
  rw[e1,WT,Nat.add_mul _ un2,Nat.mul_assoc _ b64,show b64*b64^n=b64^(n+1)from Nat.pow_succ'.symm]; omega
 have e3:val b64 v=(v1*b64+v2)*b64^n+val b64 (v.take n):=by
  rw[Uh,hV1,Nat.add_mul,Nat.mul_assoc,show b64*b64^n=b64^(n+1)from Nat.pow_succ'.symm]; omega
 have Rf:0<val b64 v:=by rw[Uh]; have:=Nat.mul_pos hv0 (hp (n+1)); omega
 have l1:=gC (wu.take (n+1))
 rw[List.length_take,Nat.min_eq_left (by omega)]at l1
 have l2:=gC (wu.take n)
 rw[List.length_take,Nat.min_eq_left (by omega)]at l2
 refine⟨Oq (hp _) e1 l1 Uh hv0,λg r hN ht=>K7 e2 l2 e3 Rf hN ht,?_,hv0⟩
 rw[Nat.div_lt_iff_lt_mul Rf,Nat.mul_comm]; exact hlt
theorem Ah (w:World) (k n hi lo y:Nat) (hlo:lo<b64) (hy:y<b64) (hhi:hi<y):
  Calls Tryz.prog 139 #[.int .u64 (hi:Int),.int .u64 (lo:Int),.int .u64 (y:Int)] (w.drewN (k+n)) λe w''=>e=.returned (.tuple #[.int .u64 (dvQ hi lo y:Nat),.int .u64 (dvR hi lo y:Nat)])/\∃m,w''=w.drewN (k+m):=
 (Ag _ hi lo y hlo hy hhi).mono λe w' ⟨he,m,hw⟩=>⟨he,n+m,by rw[hw,World.drewN_drewN,Nat.add_assoc]⟩
variable {gs r:Nat}
theorem Ke (h:gs*v2<=r*b64+un2) (hu:un2<b64):∃hi lo,muHi gs v2=hi/\muLo gs v2=lo/\(hi<r\/(hi=r/\lo<=un2)):=by
 refine⟨_,_,rfl,rfl,?_⟩
 have h1:=sW gs v2
 have h2:=Ea gs v2
 unfold b64 at *
 rcases Nat.lt_trichotomy (muHi gs v2) r with h3|h3|h3
 ·exact .inl h3
 ·refine .inr ⟨h3,?_⟩
  rw[<-h1,h3]at h
  omega
 ·exfalso; omega
theorem Kc (h:r*b64+un2<gs*v2):∃hi lo,muHi gs v2=hi/\muLo gs v2=lo/\(r<hi\/(hi=r/\un2<lo)):=by
 refine⟨_,_,rfl,rfl,?_⟩
 have h1:=sW gs v2
 have h2:=Ea gs v2
 unfold b64 at *
 rcases Nat.lt_trichotomy (muHi gs v2) r with h3|h3|h3
 ·exfalso; omega
 ·refine .inr ⟨h3,?_⟩
  rw[<-h1,h3]at h
  omega
 ·exact .inl h3
def ET (w:World) (g j n:Nat) (L:List Nat) (V:Nat) (e:Ending) (w':World):Prop:=
 e=.returned (.int .u64 (val b64 (win L j (n+1))/V:Nat))/\w.grownBy w' (some g) /\
  ∃L',L'.length=L.length/\Wf b64 L'/\Row w' .u64 119 g L'/\L'.take j=L.take j/\L'.drop (j+(n+1))=L.drop (j+(n+1))/\val b64 (win L' j (n+1))=val b64 (win L j (n+1))%V
theorem Fa (w:World) (B g j cu:Nat) (L v:List Nat) (A:Option Addr) (cv:Nat) (hR:Row w .u64 119 g L) (IL:Wf b64 L) (hj:j+(v.length+1)<=L.length) (BN:v.length+1<=cu) (hcm:cu<=maxLen)
  (hv:Ds w B .u64 A cv v) (hB:B<=g) (GQ:Wf b64 v) (hn:v.length<=1000000000) (IE:2<=v.length) (Cx:pE v) (hlt:val b64 (win L j (v.length+1))<val b64 v*b64):
  Calls Tryz.prog 147 #[.slice (some ⟨g,j,none⟩) (v.length+1) cu,.slice A v.length cv] w (ET w g j v.length L (val b64 v)):=by
 have hvl:=hv.1.len
 have UC:cu<=9223372036854775807:=by unfold maxLen at hcm; omega
 obtain⟨n,M9⟩:∃n,v.length=n+2:=⟨v.length-2,by omega⟩
 obtain⟨un,UF,Tz⟩:=hR.get (i:=j+(n+2)) (by omega)
 obtain⟨EJ,Rq,NN⟩:=hR.get (i:=j+(n+1)) (by omega)
 obtain⟨un2,Rs,NP⟩:=hR.get (i:=j+n) (by omega)
 obtain⟨bv,ov,v1,rfl,UG,TA⟩:=hv.1.get (i:=n+1) (by omega)
 obtain⟨bv',ov',v2,Un,UH,TB⟩:=hv.1.get (i:=n) (by omega)
 injection Un with Un
 injection Un with h1 h2 h3
 subst h1 h2
 clear h3
 have SM:=Lib.hid M9
 rw[M9]
 obtain⟨f1,f2,f3,f4⟩:=Ae M9 hj (by rw[oo (by omega)]; exact Tz.out) (by rw[oo (by omega)]; exact NN.out) (by rw[oo (by omega)]; exact NP.out) TA.out TB.out (Dh IL _ _) Cx hlt
 rw[M9]at f1 f2 f3
 have FU:Bx (un<b64/\EJ<b64/\un2<b64/\v1<b64/\v2<b64):=bx ⟨IL _ (List.mem_of_getElem? Tz.out),IL _ (List.mem_of_getElem? NN.out),IL _ (List.mem_of_getElem? NP.out),GQ _ (List.mem_of_getElem? TA.out),GQ _ (List.mem_of_getElem? TB.out)⟩
 obtain⟨q,hq⟩:∃q,q=val b64 (win L j (n+2+1))/val b64 v:=⟨_,rfl⟩
 rw[<-hq]at f1 f2 f3
 have F1:=bx f1
 have F2:=bx f2
 have F3:=bx f3
 have F4:=bx f4
 have HQ:=bx hq
 have KJ:=bx hlt
 rw[M9]at hj BN hn hvl
 have XQ:=bx hn
 clear f1 f2 f3 f4 hq hlt M9 IE Cx hvl
 have hnI:(n:Int)<=999999998:=by omega
 have zy:(0:Int)<=(n:Int):=by omega
 clear hn
 go_enter Tryz.func147,Tryz.ntmps147
 go_upto_region 3 with fail
 go_quiet (fail)
 go_upto_if 22 with fail
 go_cut [6] (λv6 w'=>∃gs:Nat,v6=.int .u64 (gs:Int)/\Bx (q<=gs/\gs<b64)/\∃m,w'=w.drewN m)
 case first=>
  by_cases uf:un<v1
  ·have RL:(un:Int)<(v1:Int):=by omega
   obtain⟨d1,d2,d3⟩:=DN FU.out.2.1 uf
   have S6:q<=dvQ un EJ v1:=by
    have h:=F1.out
    unfold dvQ; exact h
   have HD:=bx (And.intro d1 (And.intro d2 (And.intro d3 S6)))
   clear d1 d2 d3 S6
   rw[show decide (un<v1)=true from decide_eq_true uf]
   go_upto_region 5 with fail
   go_quiet ((go_at_call 139; go_must (exact Ah _ _ _ un EJ v1 FU.out.2.1 FU.out.2.2.2.1 uf)))
   go_wp2_with fail
   rw[show n+2-1=n+1 from rfl]
   go_loopw [6,7] (λv6 v7 wr=>∃gs r:Nat,v6=.int .u64 (gs:Int)/\v7=.int .u64 (r:Int)/\Bx (un*b64+EJ=gs*v1+r/\q<=gs/\gs<b64/\r<b64)/\∃m,wr=w.drewN m) (λv6 _ _=>(RowKit.intOf v6).toNat)
   case atStart=>exact⟨_,_,rfl,rfl,bx ⟨HD.out.1.symm,HD.out.2.2.2,HD.out.2.2.1,Nat.lt_trans HD.out.2.1 FU.out.2.2.2.1⟩,_,World.drewN_drewN _ _ _⟩
   case round=>
    clear HD
    obtain⟨gs,r,rfl,rfl,HI,mq,rfl⟩:=hrel
    have UR:(gs:Int)<=18446744073709551615:=by have:=HI.out.2.2.1; unfold b64 at this; omega
    by_cases hle:gs*v2<=r*b64+un2
    ·-- the third word is content: out of the loop
     obtain⟨hi,lo,hhi,hlo,hcmp⟩:=Ke hle FU.out.2.2.1
     by_cases rf:hi<r
     ·have YI:(hi:Int)<(r:Int):=by omega
      go_wp2_with (go_at_call 113; refine(gF gs v2 HI.out.2.2.1 FU.out.2.2.2.2 _).mono ?_; rintro e w' ⟨rfl,rfl⟩; rw[hhi,hlo])
      go_meet
      case rel=>exact⟨gs,rfl,bx ⟨HI.out.2.1,HI.out.2.2.1⟩,_,rfl⟩
     ·obtain⟨rfl,hc2⟩:hi=r/\lo<=un2:=by rcases hcmp with h|h; exact absurd h rf; exact h
      have YK:(lo:Int)<=(un2:Int):=by omega
      go_wp2_with (go_at_call 113; refine(gF gs v2 HI.out.2.2.1 FU.out.2.2.2.2 _).mono ?_; rintro e w' ⟨rfl,rfl⟩; rw[hhi,hlo])
      go_meet
      case rel=>exact⟨gs,rfl,bx ⟨HI.out.2.1,HI.out.2.2.1⟩,_,rfl⟩
    ·have Xg:=F2.out gs r HI.out.1 (by omega)
     have HG:=bx Xg
     have UO:(1:Int)<=(gs:Int):=by omega
     obtain⟨hi,lo,hhi,hlo,hcmp⟩:=Kc (gs:=gs) (v2:=v2) (r:=r) (un2:=un2) (by omega)
     have HA:=bx (sI r v1)
     have We:=bx (sH r v1)
     clear Xg hle
     by_cases Ve:adHi r v1=0
     ·have Vf:(((adHi r v1:Nat)):Int)=0:=by omega
      have Wo:=bx Ve
      clear Ve
      rcases hcmp with hc|⟨rfl,hc⟩
      ·have rf:¬((hi:Int)<(r:Int)):=by omega
       have hc2:((hi:Int)==(r:Int))=false:=beq_eq_false_iff_ne.2 (by omega)
       go_wp2_with (first|(go_at_call 113; refine(gF gs v2 HI.out.2.2.1 FU.out.2.2.2.2 _).mono ?_; rintro e w' ⟨rfl,rfl⟩; rw[hhi,hlo])|((with_reducible refine ij 114 rfl rfl ?_); refine nH rfl rfl rfl ?_))
       go_roundw
       case rel=>exact⟨gs-1,adLo r v1,by congr 1; omega,rfl,bx ⟨by have h:=oQ (by omega) HI.out.1; have h2:=HA.out; rw[Wo.out]at h2; rw[h]; omega,by have:=HG.out; omega,by have:=HI.out.2.2.1; omega,by unfold b64; exact We.out⟩,_,rfl⟩
       case measure=>simp[RowKit.intOf]; omega
      ·have rf:¬((hi:Int)<(hi:Int)):=by omega
       have hc2:¬((lo:Int)<=(un2:Int)):=by omega
       go_wp2_with (first|(go_at_call 113; refine(gF gs v2 HI.out.2.2.1 FU.out.2.2.2.2 _).mono ?_; rintro e w' ⟨rfl,rfl⟩; rw[hhi,hlo])|((with_reducible refine ij 114 rfl rfl ?_); refine nH rfl rfl rfl ?_))
       go_roundw
       case rel=>exact⟨gs-1,adLo hi v1,by congr 1; omega,rfl,bx ⟨by have h:=oQ (by omega) HI.out.1; have h2:=HA.out; rw[Wo.out]at h2; rw[h]; omega,by have:=HG.out; omega,by have:=HI.out.2.2.1; omega,by unfold b64; exact We.out⟩,_,rfl⟩
       case measure=>simp[RowKit.intOf]; omega
     ·have Vf:(0:Int)<(((adHi r v1:Nat)):Int):=by omega
      clear Ve
      rcases hcmp with hc|⟨rfl,hc⟩
      ·have rf:¬((hi:Int)<(r:Int)):=by omega
       have hc2:((hi:Int)==(r:Int))=false:=beq_eq_false_iff_ne.2 (by omega)
       go_wp2_with (first|(go_at_call 113; refine(gF gs v2 HI.out.2.2.1 FU.out.2.2.2.2 _).mono ?_; rintro e w' ⟨rfl,rfl⟩; rw[hhi,hlo])|((with_reducible refine ij 114 rfl rfl ?_); refine nH rfl rfl rfl ?_))
       go_meet
       case rel=>exact⟨gs-1,by congr 1; omega,bx ⟨by have:=HG.out; omega,by have:=HI.out.2.2.1; omega⟩,_,rfl⟩
      ·have rf:¬((hi:Int)<(hi:Int)):=by omega
       have hc2:¬((lo:Int)<=(un2:Int)):=by omega
       go_wp2_with (first|(go_at_call 113; refine(gF gs v2 HI.out.2.2.1 FU.out.2.2.2.2 _).mono ?_; rintro e w' ⟨rfl,rfl⟩; rw[hhi,hlo])|((with_reducible refine ij 114 rfl rfl ?_); refine nH rfl rfl rfl ?_))
       go_meet
       case rel=>exact⟨gs-1,by congr 1; omega,bx ⟨by have:=HG.out; omega,by have:=HI.out.2.2.1; omega⟩,_,rfl⟩
  ·have RL:¬((un:Int)<(v1:Int)):=by omega
   go_wp2
   go_meet
   case rel=>exact⟨18446744073709551615,rfl,bx ⟨by have:=F3.out; unfold b64 at this; omega,by unfold b64; omega⟩,_,rfl⟩
 case rest=>
  obtain⟨Yl,rfl,NL,m0,rfl⟩:=hcut
  have WO:=hR.drewN m0
  have hv0:Ds (w.drewN m0) B .u64 (some ⟨bv,ov,none⟩) cv v:=hv
  have Ry:=rS w m0 (some g)
  have Vx:w.heap.size=(w.drewN m0).heap.size:=rfl
  clear UF Rq Rs UG UH hR hv F1 F2 FU Tz NN NP TA TB
  go_wp2_with fail
  go_loopw [6] (λv6 wr=>∃gs:Nat,v6=.int .u64 (gs:Int)/\Bx (q<=gs/\gs<b64)/\Row wr .u64 119 g L/\Ds wr B .u64 (some ⟨bv,ov,none⟩) cv v/\w.grownBy wr (some g)) (λv6 _=>(RowKit.intOf v6).toNat)
  case atStart=>exact⟨Yl,rfl,NL,WO,hv0,Ry⟩
  case round=>
   clear WO hv0 Ry NL Vx
   obtain⟨gs,rfl,HG,Ud,KG,hgr⟩:=hrel
   go_wp2_with fail
   have Cw:=Kb wr B g j cu L v _ cv gs Ud IL (by have:=SM.out; omega) (by have:=SM.out; omega) hcm KG hB GQ HG.out.2 (by have:=SM.out; have:=XQ.out; omega)
   rw[SM.out]at Cw
   refine Cw.mono ?_
   clear Cw
   rintro e w2 (⟨rj,rfl,hb2⟩|⟨Rv,rfl,hg2,M,m1,m2,m3,m4,m5,m6⟩)
   ·have IG:q<gs:=by
     rw[HQ.out,Nat.div_lt_iff_lt_mul,Nat.mul_comm]
     ·exact rj
     ·rcases Nat.eq_zero_or_pos (val b64 v)with h|h
      ·rw[h,Nat.zero_mul]at rj; omega
      ·exact h
    have XV:=bx IG
    have UO:(1:Int)<=(gs:Int):=by omega
    have UR:(gs:Int)<=18446744073709551615:=by have:=HG.out.2; unfold b64 at this; omega
    have Q8:=Ud.keep hb2
    have hv2:=KG.grown (di hb2 (some g)) hB
    have UU:=jK hgr (di hb2 (some g))
    clear rj IG Ud KG hgr hb2
    go_wp2
    go_roundw
    case rel=>exact⟨gs-1,by congr 1; omega,bx ⟨by have:=XV.out; omega,by have:=HG.out.2; omega⟩,Q8,hv2,UU⟩
    case measure=>simp[RowKit.intOf]; omega
   ·have hge:=HG.out.1
    have Vh:gs=val b64 (win L j (n+2+1))/val b64 v:=by
     refine Nat.le_antisymm ?_ (by rw[HQ.out]at hge; exact hge)
     rcases Nat.eq_zero_or_pos (val b64 v)with h|h
     ·have:=KJ.out; rw[h,Nat.zero_mul]at this; omega
     ·rw[Nat.le_div_iff_mul_le h,Nat.mul_comm]; exact Rv
    have sA:val b64 (win M j (n+2+1))=val b64 (win L j (n+2+1))%val b64 v:=by
     have h:=Nat.div_add_mod (val b64 (win L j (n+2+1))) (val b64 v)
     rw[<-Vh]at h
     omega
    have XU:=bx Vh
    have Tq:=bx sA
    clear Rv Vh sA m6 hge
    have M1:=bx m1
    have M4:=bx m4
    have M5:=bx m5
    clear m1 m4 m5
    go_wp2
    go_ret
    exact⟨iu (by rw[XU.out]),jK hgr hg2,M,M1.out,m2,m3,M4.out,M5.out,Tq.out⟩
variable {M:List Nat} {K V:Nat}
theorem FO {M' qs:List Nat} {A:Nat} (hl:M'.length=M.length) (hj:j+(K+1)<=M.length) (hV:V<b64^K) (Ze:j<qs.length)
  (Cw:M'.take j=M.take j) (hdr:M'.drop (j+(K+1))=M.drop (j+(K+1))) (sA:val b64 (win M' j (K+1))=val b64 (win M j (K+1))%V) (hlt:val b64 (M.drop (j+1))<V)
  (hval:val b64 M+val b64 (qs.drop (j+1))*b64^(j+1)*V=A):
  val b64 M'+val b64 ((qs.set j (val b64 (win M j (K+1))/V)).drop j)*b64^j*V=A/\val b64 (M'.drop j)<V:=by
 have hz:val b64 (M.drop (j+(K+1)))=0:=by
  have h:=cB b64 (M.drop (j+1)) K (by simp; omega)
  rw[List.drop_drop,show j+1+K=j+(K+1) by omega]at h
  rcases Nat.eq_zero_or_pos (val b64 (M.drop (j+(K+1))))with h0|h0
  ·exact h0
  ·have:b64^K*1<=b64^K*val b64 (M.drop (j+(K+1))):=Nat.mul_le_mul_left _ h0
   omega
 have e1:val b64 (M.drop j)=val b64 (win M j (K+1)):=by
  have h:=cB b64 (M.drop j) (K+1) (by simp; omega)
  rw[List.drop_drop,hz,Nat.mul_zero,Nat.add_zero]at h
  exact h
 have e2:val b64 (M'.drop j)=val b64 (win M j (K+1))%V:=by
  have h:=cB b64 (M'.drop j) (K+1) (by simp; omega)
  rw[List.drop_drop,hdr,hz,Nat.mul_zero,Nat.add_zero]at h
  rw[<-sA]; exact h
 refine⟨?_,by rw[e2]; exact Nat.mod_lt _ (by omega)⟩
 have m1:=cB b64 M j (by omega)
 have m2:=cB b64 M' j (by omega)
 rw[e1]at m1
 rw[e2,Cw]at m2
 have hd:(qs.set j (val b64 (win M j (K+1))/V)).drop j=val b64 (win M j (K+1))/V::qs.drop (j+1):=by
  rw[List.drop_eq_getElem_cons (by simpa using Ze),List.getElem_set_self,mM (by omega)]
 rw[hd,lA,m2,<-hval,m1]
 generalize val b64 (win M j (K+1))=W at *
 generalize val b64 (qs.drop (j+1))=Y at *
 have P6:=Nat.div_add_mod W V
 rw[Nat.add_mul,Nat.add_mul,Nat.pow_succ]
 have t1:b64*Y*b64^j*V=Y*(b64^j*b64)*V:=by
  congr 1
  rw[Nat.mul_comm b64 Y,Nat.mul_assoc,Nat.mul_comm b64]
 have t2:W/V*b64^j*V+b64^j*(W%V)=b64^j*W:=by
  have:b64^j*W=b64^j*(V*(W/V)+W%V):=by rw[P6]
  rw[this,Nat.mul_add]
  congr 1
  rw[Nat.mul_comm (W/V),Nat.mul_assoc,Nat.mul_comm (W/V)]
 omega
theorem rW (hj:j+(K+1)<=M.length) (wM:Wf b64 M) (hlt:val b64 (M.drop (j+1))<V):val b64 (win M j (K+1))<V*b64:=by
 have h:val b64 (win M j (K+1))<=val b64 (M.drop j):=by
  have h:=cB b64 (M.drop j) (K+1) (by simp; omega)
  unfold win
  omega
 have h2:=lB b64 M j (by omega)
 have h3:=wM.get (i:=j) (by omega)
 have h4:b64*(val b64 (M.drop (j+1))+1)<=b64*V:=Nat.mul_le_mul_left _ hlt
 rw[Nat.mul_add,Nat.mul_one,Nat.mul_comm b64 V]at h4
 omega
end Wx
