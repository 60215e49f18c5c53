import Derived.Deep.DeepMust
import Derived.Test.YtikkgpljpglnbaaGreatCRMDiv64
namespace Wx
set_option maxHeartbeats 1000000
open Go Go.RowKit Go.Proofs
def win (L:List Nat) (j n:Nat):List Nat:=(L.drop j).take n
variable {L:List Nat} {j n:Nat}
theorem eW (h:j+n<=L.length):(win L j n).length=n:=by unfold win; simp; omega
variable {i:Nat}
theorem kJ (hi:i<n):(win L j n)[i]?=L[j+i]?:=by
 unfold win; rw[List.getElem?_take_of_lt hi,List.getElem?_drop]
theorem zo {b:Nat} (h:Wf b L) (j n:Nat):Wf b (win L j n):=(h.drop j).take n
theorem GQ {v:Nat}:win (L.set (j+i) v) j n=(win L j n).set i v:=by
 unfold win
 rw[List.drop_set,if_neg (by omega),show j+i-j=i by omega,List.take_set]
theorem Row.win {w:World} {k:IntKind} {e:TypeId} {g:Nat} {L:List Nat} (h:Row w k e g L) {j n c:Nat} (hj:j+n<=L.length) (hc:n<=c) (hm:c<=maxLen):Rd w k (some ⟨g,j,none⟩) c (win L j n):=by
 have hl:=eW hj
 refine⟨by omega,hm,λ_=>⟨g,j,rfl,λi hi=>?_⟩⟩
 rw[hl]at hi
 rw[h.cell (i:=j+i) (by omega),List.getD_eq_getElem?_getD,List.getD_eq_getElem?_getD,kJ hi]
def zA (w:World) (B:Nat) (k:IntKind) (A:Option Addr) (c:Nat) (l:List Nat):Prop:=Rd w k A c l/\(l≠[]->∀a,A=some a->a.block<B)
variable {w w':World} {B g:Nat} {k:IntKind} {A:Option Addr} {c:Nat} {l:List Nat}
theorem zA.grown (h:zA w B k A c l) (hg:w.grownBy w' (some g)) (hB:B<=g):zA w' B k A c l:=by
 obtain⟨⟨h1,h2,h3⟩,h4⟩:=h
 refine⟨⟨h1,h2,λhne=>?_⟩,h4⟩
 obtain⟨b,o,e,hc⟩:=h3 hne
 refine⟨b,o,e,λi hi=>?_⟩
 have hb:=h4 hne _ e
 exact hg.cell (hc i hi) (by simp at hb ⊢; omega)
variable {row:Option Nat}
theorem zA.nB (h:zA w B k A c l) (hg:w.grownBy w' row) (hB:∀g,row=some g->B<=g):zA w' B k A c l:=by
 obtain⟨⟨h1,h2,h3⟩,h4⟩:=h
 refine⟨⟨h1,h2,λhne=>?_⟩,h4⟩
 obtain⟨b,o,e,hc⟩:=h3 hne
 refine⟨b,o,e,λi hi=>?_⟩
 have hb:=h4 hne _ e
 refine hg.cell (hc i hi) (λe=>?_)
 have:=hB _ e.symm
 simp at hb this
 omega
theorem zA.of (h:Rd w k A c l):zA w w.heap.size k A c l:=by
 refine⟨h,λhne a ha=>?_⟩
 obtain⟨b,o,e,hc⟩:=h.2.2 hne
 rw[e]at ha
 injection ha with ha
 subst ha
 have hl:0<l.length:=List.length_pos_iff.2 hne
 exact World.block_lt_of_cell? w _ (hc 0 hl)
theorem bP (h:Below w.heap.size w w') (row:Option Nat):w.grownBy w' row:=
 ⟨h.os,h.tape,h.output,h.size,λk hk _=>h.block k hk⟩
theorem gI {w1 w2:World} (h:w.grownBy w1 row) (k:w1.grownBy w2 row):w.grownBy w2 row:=
 ⟨k.os.trans h.os,k.tape.trans h.tape,k.output.trans h.output,Nat.le_trans h.size k.size,λi hi hn=>(k.block i (Nat.lt_of_lt_of_le hi h.size) hn).trans (h.block i hi hn)⟩
theorem sY (w:World) (g i:Nat) (v:Value):w.grownBy (w.setCell ⟨g,i,none⟩ v) (some g):=
 ⟨rfl,rfl,rfl,by simp[World.setCell],λk _ hk=>Below.heap_setCell w ⟨g,i,none⟩ v k (λe=>hk (by simp[e]))⟩
theorem od (w:World) (n:Nat) (row:Option Nat):w.grownBy (w.drewN n) row:=⟨rfl,rfl,rfl,Nat.le_refl _,λ_ _ _=>rfl⟩
theorem zi {w0 wr:World} {v o:List Nat} {vx q:Nat} (dF:o.length=i) (hi:i<v.length) (hx:v[i]?=some vx) (Ct:Wf b64 v) (iM:Wf b64 o) (hc:c<b64) (hq:q<b64)
  (hr:Row wr .u64 86 g (o++List.replicate (v.length+1-i) 0)) (hg:w0.heap.size<=g) (hbl:Below w0.heap.size w0 wr) (hval:val b64 o+b64^i*c=val b64 (v.take i)*q):
  ∃(c':Nat) (o':List Nat),IntKind.u64.wrap ((muHi vx q:Nat)+(adHi (muLo vx q) c:Nat))=(c':Int)/\c'<b64/\o'.length=i+1/\Wf b64 o' /\
   Row (wr.setCell ⟨g,i,none⟩ (.int .u64 (adLo (muLo vx q) c:Nat))) .u64 86 g (o'++List.replicate (v.length+1-(i+1)) 0)/\Below w0.heap.size w0 (wr.setCell ⟨g,i,none⟩ (.int .u64 (adLo (muLo vx q) c:Nat))) /\
   val b64 o'+b64^(i+1)*c'=val b64 (v.take (i+1))*q:=by
 have om:vx<b64:=Ct _ (List.mem_of_getElem? hx)
 have h1:=pD vx q
 have h2:=oW (muLo vx q) c
 have h3:=oV (muLo vx q) c
 have hxq:vx*q<=18446744073709551615*18446744073709551615:=Nat.mul_le_mul (by unfold b64 at om; omega) (by unfold b64 at hq; omega)
 have hlt:muHi vx q+adHi (muLo vx q) c<b64:=by
  unfold b64 at *
  generalize vx*q=p at *
  omega
 refine⟨_,o++[adLo (muLo vx q) c],?_,hlt,by simp[dF],iM.append (Wf.cons h3 (Wf.nil _)),?_,hbl.setCell hg _,?_⟩
 ·rw[wrap_u64 (by omega) (by unfold b64 at hlt; omega)]; omega
 ·have h:=hr.set i (adLo (muLo vx q) c)
  rw[show v.length+1-i=(v.length+1-(i+1))+1 by omega,List.replicate_succ,mS dF]at h
  rw[List.append_assoc]
  exact h
 ·rw[ki,dF,bN hx,Nat.add_mul,<-hval,Nat.pow_succ]
  have e:b64^i*(adLo (muLo vx q) c+b64*(muHi vx q+adHi (muLo vx q) c))=b64^i*(vx*q+c):=by
   congr 1
   unfold b64
   rw[<-h1]
   omega
  rw[Nat.mul_add (b64^i) (adLo (muLo vx q) c),Nat.mul_add (b64^i) (vx*q),<-Nat.mul_assoc (b64^i) b64]at e
  rw[Nat.mul_assoc (b64^i) vx q]
  omega
theorem Cj (x y c:Nat) (hc:c<=1):∀w:World,(callFunc 78 #[.int .u64 (x:Int),.int .u64 (y:Int),.int .u64 (c:Int)]).run Tryz.prog w=.ok (.value (.tuple #[.int .u64 (fJ x y c:Nat),.int .u64 (gN x y c:Nat)])) w:=by
 intro w
 rw[run_callFunc_extern Tryz.func78 (by kernel_rfl) (by kernel_rfl) (by kernel_rfl) (e:=subEntry) (by kernel_rfl),mQ x y c hc]
 rfl
theorem zh {M P:List Nat} {br vu vp:Nat} (hml:M.length=L.length) (hj:j+n<=L.length) (hi:i<n) (hu:M[j+i]?=some vu) (hp:P[i]?=some vp) (hd:M.drop (j+i)=L.drop (j+i))
  (NM:vu<b64) (hvp:vp<b64) (hbr:br<=1) (hval:val b64 ((win M j n).take i)+val b64 (P.take i)=val b64 ((win L j n).take i)+b64^i*br):
  val b64 ((win (M.set (j+i) (fJ vu vp br)) j n).take (i+1))+val b64 (P.take (i+1))=val b64 ((win L j n).take (i+1))+b64^(i+1)*gN vu vp br:=by
 have hs:=(rS (c:=br) NM hvp hbr).1
 have hwu:(win M j n)[i]?=some vu:=by rw[kJ hi]; exact hu
 have Tl:(win L j n)[i]?=some vu:=by
  rw[kJ hi]
  have:(M.drop (j+i))[0]?=(L.drop (j+i))[0]?:=by rw[hd]
  rw[List.getElem?_drop,List.getElem?_drop,Nat.add_zero]at this
  rw[<-this]; exact hu
 have RH:=eW (L:=M) (j:=j) (n:=n) (by omega)
 rw[GQ,bN hp,bN Tl]
 rw[bN (l:=(win M j n).set i (fJ vu vp br)) (v:=fJ vu vp br) (by rw[List.getElem?_set_self (by omega)]),List.take_set_of_le (Nat.le_refl _),Nat.pow_succ]
 have e:b64^i*(fJ vu vp br+vp+br)=b64^i*(vu+b64*gN vu vp br):=by rw[hs]; rfl
 rw[Nat.mul_add,Nat.mul_add,Nat.mul_add,<-Nat.mul_assoc]at e
 omega
def CB (w:World) (g j n:Nat) (L:List Nat) (p:Nat) (e:Ending) (w':World):Prop:=
 (val b64 (win L j (n+1))<p/\e=.returned (.bool false)/\Below w.heap.size w w') \/
 (p<=val b64 (win L j (n+1))/\e=.returned (.bool true)/\w.grownBy w' (some g) /\
  ∃L',L'.length=L.length/\Wf b64 L'/\Row w' .u64 86 g L'/\L'.take j=L.take j/\L'.drop (j+(n+1))=L.drop (j+(n+1))/\val b64 (win L' j (n+1))+p=val b64 (win L j (n+1)))
theorem EA (w:World) (B g j cu:Nat) (L v:List Nat) (A:Option Addr) (cv q:Nat) (hR:Row w .u64 86 g L) (Dj:Wf b64 L) (hj:j+(v.length+1)<=L.length) (vX:v.length+1<=cu) (hcm:cu<=maxLen)
  (hv:zA w B .u64 A cv v) (_hB:B<=g) (Ct:Wf b64 v) (hq:q<b64) (hn:v.length<=1000000000):
  Calls Tryz.prog 110 #[.slice (some ⟨g,j,none⟩) (v.length+1) cu,.slice A v.length cv,.int .u64 (q:Int)] w (CB w g j v.length L (val b64 v*q)):=by
 have hvl:=hv.1.len
 have HQ:=Lib.hid hq
 have Pe:cu<=9223372036854775807:=by unfold maxLen at hcm; omega
 clear hq
 go_enter Tryz.func110,Tryz.ntmps110
 go_wp2_with (at_make; refine dV _ rfl _ _ _ rfl .u64 86 Tryz.underlying45 gV _ _ rfl rfl (by omega) (by omega) (by omega) ?_; intro w1 hrow fC hsz)
 rw[show((v.length:Int)+1).toNat=v.length+1 by omega]at hrow
 go_loopw [8,22] (λs8 Qi wr=>∃(i c:Nat) (o:List Nat),i<=v.length/\Qi=.int .i64 i/\s8=.int .u64 c/\c<b64/\o.length=i/\Wf b64 o/\Row wr .u64 86 w.heap.size (o++List.replicate (v.length+1-i) 0)/\Below w.heap.size w wr/\val b64 o+b64^i*c=val b64 (v.take i)*q)
  (λ_ Qi _=>v.length-(RowKit.intOf Qi).toNat)
 case atStart=>exact⟨0,0,[],by omega,rfl,rfl,by unfold b64; omega,rfl,Wf.nil _,by simpa using hrow,fC,by simp[val]⟩
 case round=>
  obtain⟨i,c,o,hi,rfl,rfl,hc,dF,iM,hr,hbl,hval⟩:=hrel
  have dX:=Lib.hid hval
  have fe:=Lib.hid dF
  have HC:=Lib.hid hc
  clear hval dF hc hrow fC hsz
  by_cases hlt:i<v.length
  ·obtain⟨bx,ox,vx,rfl,Cq,sj⟩:=(hv.1.below hbl).get hlt
   obtain⟨vo,EW,G6⟩:=hr.get (i:=i) (by have:=fe.out; simp; omega)
   have zZ:=hr.frozen i
   have Nj:Hid (vx<b64):=Ct _ (List.mem_of_getElem? sj.out)
   go_wp2_with (first|(go_at_call 73; refine(dQ vx q Nj.out HQ.out _).mono ?_; rintro e w' ⟨rfl,rfl⟩)|((with_reducible refine eX 74 rfl rfl ?_); refine kz rfl rfl rfl ?_))
   go_roundw
   case rel=>
    obtain⟨c',o2,e,r⟩:=zi fe.out hlt sj.out Ct iM HC.out HQ.out hr (Nat.le_refl _) hbl dX.out
    exact⟨i+1,c',o2,by omega,by go_num,by rw[e],r⟩
   case measure=>simp[RowKit.intOf]; omega
  ·obtain rfl:i=v.length:=by omega
   rw[show v.length+1-v.length=1 by omega,show List.replicate 1 0=[0]from rfl]at hr
   obtain⟨vo,EW,G6⟩:=hr.get (i:=v.length) (by have:=fe.out; simp; omega)
   have zZ:=hr.frozen v.length
   have HP:Hid (val b64 (o++[c])=val b64 v*q):=by
    show _=_
    have h:=dX.out
    rw[List.take_length]at h
    rw[ki,fe.out]; exact h
   have LN:=hr.set v.length c
   rw[mS fe.out]at LN
   have P0:Wf b64 (o++[c]):=iM.append (Wf.cons HC.out (Wf.nil _))
   have N4:Hid ((o++[c]).length=v.length+1):=by show _=_; simp[fe.out]
   have hb2:=hbl.setCell (p:=⟨w.heap.size,v.length,none⟩) (Nat.le_refl _) (.int .u64 (c:Int))
   generalize o++[c]=P at *
   clear dX fe iM hr G6
   have Mg:=hR.lt
   go_wp2_with fail
   obtain⟨w2,Di⟩:∃w2,w2=wr.setCell ⟨w.heap.size,v.length,none⟩ (.int .u64 (c:Int)):=⟨_,rfl⟩
   rw[<-Di]at LN hb2 ⊢
   clear Di hbl zZ EW
   have LM:=hR.keep hb2
   refine(fL _ _ _ (win L j (v.length+1)) _ (LM.win hj vX hcm) (zo Dj _ _) _ (eW hj) rfl).mono ?_
   rintro e w' ⟨rfl,x1,rfl,hx1⟩
   go_wp2_with fail
   refine(fL _ _ _ P _ (LN.gw (c:=v.length+1) (by have:=N4.out; omega) (by unfold maxLen; omega)) P0 _ N4.out HP.out).mono ?_
   rintro e w' ⟨rfl,x2,rfl,hx2⟩
   go_wp2_with fail
   refine(lS _ _ _ _ _ hx1 hx2).mono ?_
   rintro e w3 ⟨rfl,hb3⟩
   clear hx1 hx2
   have oH:=hb2.trans (hb3.mono hb2.size)
   have Ri:=LM.keep hb3
   have LO:=LN.keep hb3
   clear LM LN hb2 hb3
   by_cases hlt:val b64 (win L j (v.length+1))<val b64 v*q
   ·have e1:cW (val b64 (win L j (v.length+1))) (val b64 v*q) = -1:=by unfold cW; rw[if_pos hlt]
    rw[e1]
    go_wp2
    go_ret
    exact .inl ⟨hlt,rfl,oH⟩
   ·have e1:∃z:Int,z=cW (val b64 (win L j (v.length+1))) (val b64 v*q)/\¬(z<0):=⟨_,rfl,by unfold cW; rw[if_neg hlt]; split<;>omega⟩
    obtain⟨z,hz,hz0⟩:=e1
    rw[<-hz]
    clear hz
    go_wp2_with fail
    have SJ:=N4.out
    have KC:=Lib.hid hlt
    have N7:Hid (w.heap.size≠g):=by show _≠_; omega
    have hg3:=bP oH (some g)
    clear hlt oH hR
    go_loopw [14,59] (λTT Ql wr=>∃(i br:Nat) (M:List Nat),i<=v.length+1/\Ql=.int .i64 i/\TT=.int .u64 br/\br<=1/\Hid (M.length=L.length)/\Wf b64 M/\Row wr .u64 86 g M/\Row wr .u64 86 w.heap.size P/\w.grownBy wr (some g)/\M.take j=L.take j/\M.drop (j+i)=L.drop (j+i) /\
      Hid (val b64 ((win M j (v.length+1)).take i)+val b64 (P.take i)=val b64 ((win L j (v.length+1)).take i)+b64^i*br))
     (λ_ Ql _=>v.length+1-(RowKit.intOf Ql).toNat)
    case atStart=>exact⟨0,0,L,by omega,rfl,rfl,by omega,rfl,Dj,Ri,LO,hg3,rfl,rfl,rfl⟩
    case round=>
     obtain⟨i,br,M,hi,rfl,rfl,hbr,Cx,Dk,Ia,RD,hgr,yw,hdr,HV⟩:=hrel
     have QJ:=Lib.hid yw
     have NW:=Lib.hid hdr
     clear yw hdr Ri LO hg3
     by_cases hlt:i<v.length+1
     ·obtain⟨vu,S5,Fa⟩:=Ia.get (i:=j+i) (by have:=Cx.out; omega)
      obtain⟨vp,L5,Oe⟩:=RD.get (i:=i) (by omega)
      have zZ:=Ia.frozen (j+i)
      have e1:(0:Int)<=(i:Int):=by omega
      have e2:(i:Int)<(v.length:Int)+1:=by omega
      have hsub:=Cj vu vp br hbr
      go_wp2
      go_region
      all_goals go_wp2
      all_goals
       go_roundw
       case rel=>
        have Pv:g≠w.heap.size:=by omega
        refine⟨i+1,gN vu vp br,M.set (j+i) (fJ vu vp br),by omega,by go_num,rfl,rR _ _ _,?_,Dk.set (rS (Dk _ (List.mem_of_getElem? Fa.out)) (P0 _ (List.mem_of_getElem? Oe.out)) hbr).2,(Ia.set _ _).drew,(RD.KM (p:=⟨g,j+i,none⟩) (by exact Pv.symm) _).drew,gI (gI hgr (sY _ _ _ _)) (od _ 1 _),?_,?_,?_⟩
        ·show _=_; rw[List.length_set]; exact Cx.out
        ·rw[List.take_set_of_le (by omega)]; exact QJ.out
        ·rw[jF (by omega),show j+(i+1)=j+i+1 by omega,<-List.drop_drop,<-List.drop_drop (l:=L),NW.out]
        ·show _=_
         exact zh Cx.out hj hlt Fa.out Oe.out NW.out (Dk _ (List.mem_of_getElem? Fa.out)) (P0 _ (List.mem_of_getElem? Oe.out)) hbr HV.out
       case measure=>simp[RowKit.intOf]; omega
     ·obtain rfl:i=v.length+1:=by omega
      go_wp2
      go_ret
      have h:=HV.out
      have l1:=eW (L:=M) (j:=j) (n:=v.length+1) (by have:=Cx.out; omega)
      have l2:=eW (L:=L) (j:=j) (n:=v.length+1) hj
      rw[List.take_of_length_le (by omega),List.take_of_length_le (l:=P) (by omega),List.take_of_length_le (l:=win L j (v.length+1)) (by omega)]at h
      have hP:=HP.out
      have PD:=ia (zo Dk j (v.length+1))
      rw[l1]at PD
      have hnlt:=KC.out
      have O9:br=0:=by
       rcases Nat.eq_zero_or_pos br with h0|h0
       ·exact h0
       ·obtain rfl:br=1:=by omega
        omega
      subst O9
      exact .inr ⟨by omega,rfl,hgr,M,Cx.out,Dk,Ia,QJ.out,NW.out,by omega⟩
end Wx

namespace Wx
set_option maxRecDepth 100000
set_option maxHeartbeats 1000000
open Go Go.RowKit Go.Proofs
variable {n:Nat}
theorem kj {b:Nat} {l:List Nat} {x:Nat} (hn:l.length=n+1) (hx:l[n]?=some x):val b l=x*b^n+val b (l.take n):=by
 have h:=bN (b:=b) hx
 rw[List.take_of_length_le (by omega)]at h
 rw[h,Nat.mul_comm,Nat.add_comm]
variable {un2 v2 j:Nat}
theorem vH {v:List Nat} {un AV v1:Nat} {L:List Nat} (FO:v.length=n+2) (hj:j+(v.length+1)<=L.length) (hu:(win L j (v.length+1))[n+2]?=some un) (PS:(win L j (v.length+1))[n+1]?=some AV) (PT:(win L j (v.length+1))[n]?=some un2)
  (jw:v[n+1]?=some v1) (hv2:v[n]?=some v2) (wu:Wf b64 (win L j (v.length+1))) (ht:oU v) (hlt:val b64 (win L j (v.length+1))<val b64 v*b64):
  val b64 (win L j (v.length+1))/val b64 v<=(un*b64+AV)/v1 /\
  (∀g r,un*b64+AV=g*v1+r->r*b64+un2<g*v2->val b64 (win L j (v.length+1))/val b64 v<g)/\val b64 (win L j (v.length+1))/val b64 v<b64/\0<v1:=by
 have RE:=eW hj
 generalize win L j (v.length+1)=u at *
 have hv0:0<v1:=by
  rcases Nat.eq_zero_or_pos v1 with rfl|h
  ·exfalso; apply ht
   rw[List.getLast?_eq_getElem?,FO]
   exact jw
  ·exact h
 have hp:∀k,0<b64^k:=λk=>Nat.pow_pos (by unfold b64; omega)
 have SL:=kj (b:=b64) (n:=n+2) (by omega) hu
 have Rk:=kj (b:=b64) (l:=u.take (n+2)) (n:=n+1) (by simp; omega) (by rw[List.getElem?_take_of_lt (by omega)]; exact PS)
 have Rl:=kj (b:=b64) (l:=u.take (n+1)) (n:=n) (by simp; omega) (by rw[List.getElem?_take_of_lt (by omega)]; exact PT)
 rw[List.take_take,Nat.min_eq_left (by omega)]at Rk Rl
 have OW:=kj (b:=b64) (n:=n+1) (by omega) jw
 have hV1:=kj (b:=b64) (l:=v.take (n+1)) (n:=n) (by simp; omega) (by rw[List.getElem?_take_of_lt (by omega)]; exact hv2)
 rw[List.take_take,Nat.min_eq_left (by omega)]at hV1
 have e1:val b64 u=(un*b64+AV)*b64^(n+1)+val b64 (u.take (n+1)):=by
  rw[SL,Rk,Nat.add_mul,Nat.mul_assoc,show b64*b64^(n+1)=b64^(n+2)from Nat.pow_succ'.symm]; omega
 have e2:val b64 u=((un*b64+AV)*b64+un2)*b64^n+val b64 (u.take n):=by
  rw[e1,Rl,Nat.add_mul _ un2,Nat.mul_assoc _ b64,show b64*b64^n=b64^(n+1)from Nat.pow_succ'.symm]; omega
 have e3:val b64 v=(v1*b64+v2)*b64^n+val b64 (v.take n):=by
  rw[OW,hV1,Nat.add_mul,Nat.mul_assoc,show b64*b64^n=b64^(n+1)from Nat.pow_succ'.symm]; omega
 have LR:0<val b64 v:=by rw[OW]; have:=Nat.mul_pos hv0 (hp (n+1)); omega
 have l1:=ia (wu.take (n+1))
 rw[List.length_take,Nat.min_eq_left (by omega)]at l1
 have l2:=ia (wu.take n)
 rw[List.length_take,Nat.min_eq_left (by omega)]at l2
 refine⟨Jm (hp _) e1 l1 OW hv0,λg r hN ht=>Fy e2 l2 e3 LR hN ht,?_,hv0⟩
 rw[Nat.div_lt_iff_lt_mul LR,Nat.mul_comm]; exact hlt
theorem vK (w:World) (k n hi lo y:Nat) (hlo:lo<b64) (hy:y<b64) (hhi:hi<y):
  Calls Tryz.prog 80 #[.int .u64 (hi:Int),.int .u64 (lo:Int),.int .u64 (y:Int)] (w.drewN (k+n)) λe w''=>e=.returned (.tuple #[.int .u64 (dvQ hi lo y:Nat),.int .u64 (dvR hi lo y:Nat)])/\∃m,w''=w.drewN (k+m):=
 (vI _ hi lo y hlo hy hhi).mono λe w' ⟨he,m,hw⟩=>⟨he,n+m,by rw[hw,World.drewN_drewN,Nat.add_assoc]⟩
variable {gs r:Nat}
theorem ED (h:gs*v2<=r*b64+un2) (hu:un2<b64):∃hi lo,muHi gs v2=hi/\muLo gs v2=lo/\(hi<r\/(hi=r/\lo<=un2)):=by
 refine⟨_,_,rfl,rfl,?_⟩
 have h1:=pD gs v2
 have h2:=Ap gs v2
 unfold b64 at *
 rcases Nat.lt_trichotomy (muHi gs v2) r with h3|h3|h3
 ·exact .inl h3
 ·refine .inr ⟨h3,?_⟩
  rw[<-h1,h3]at h
  omega
 ·exfalso; omega
theorem EC (h:r*b64+un2<gs*v2):∃hi lo,muHi gs v2=hi/\muLo gs v2=lo/\(r<hi\/(hi=r/\un2<lo)):=by
 refine⟨_,_,rfl,rfl,?_⟩
 have h1:=pD gs v2
 have h2:=Ap gs v2
 unfold b64 at *
 rcases Nat.lt_trichotomy (muHi gs v2) r with h3|h3|h3
 ·exfalso; omega
 ·refine .inr ⟨h3,?_⟩
  rw[<-h1,h3]at h
  omega
 ·exact .inl h3
def A9 (w:World) (g j n:Nat) (L:List Nat) (V:Nat) (e:Ending) (w':World):Prop:=
 e=.returned (.int .u64 (val b64 (win L j (n+1))/V:Nat))/\w.grownBy w' (some g) /\
  ∃L',L'.length=L.length/\Wf b64 L'/\Row w' .u64 86 g L'/\L'.take j=L.take j/\L'.drop (j+(n+1))=L.drop (j+(n+1))/\val b64 (win L' j (n+1))=val b64 (win L j (n+1))%V
theorem Bg (w:World) (B g j cu:Nat) (L v:List Nat) (A:Option Addr) (cv:Nat) (hR:Row w .u64 86 g L) (Dj:Wf b64 L) (hj:j+(v.length+1)<=L.length) (vX:v.length+1<=cu) (hcm:cu<=maxLen)
  (hv:zA w B .u64 A cv v) (hB:B<=g) (Ct:Wf b64 v) (hn:v.length<=1000000000) (Ab:2<=v.length) (Dg:oU v) (hlt:val b64 (win L j (v.length+1))<val b64 v*b64):
  Calls Tryz.prog 99 #[.slice (some ⟨g,j,none⟩) (v.length+1) cu,.slice A v.length cv] w (A9 w g j v.length L (val b64 v)):=by
 have hvl:=hv.1.len
 have Pe:cu<=9223372036854775807:=by unfold maxLen at hcm; omega
 obtain⟨n,FO⟩:∃n,v.length=n+2:=⟨v.length-2,by omega⟩
 obtain⟨un,Pf,Ob⟩:=hR.get (i:=j+(n+2)) (by omega)
 obtain⟨AV,L8,I3⟩:=hR.get (i:=j+(n+1)) (by omega)
 obtain⟨un2,L9,I4⟩:=hR.get (i:=j+n) (by omega)
 obtain⟨bv,ov,v1,rfl,Pg,Oc⟩:=hv.1.get (i:=n+1) (by omega)
 obtain⟨bv',ov',v2,LU,Ph,Od⟩:=hv.1.get (i:=n) (by omega)
 injection LU with LU
 injection LU with h1 h2 h3
 subst h1 h2
 clear h3
 have Nk:=Lib.hid FO
 rw[FO]
 obtain⟨f1,f2,f3,f4⟩:=vH FO hj (by rw[kJ (by omega)]; exact Ob.out) (by rw[kJ (by omega)]; exact I3.out) (by rw[kJ (by omega)]; exact I4.out) Oc.out Od.out (zo Dj _ _) Dg hlt
 rw[FO]at f1 f2 f3
 have FU:Bx (un<b64/\AV<b64/\un2<b64/\v1<b64/\v2<b64):=bx ⟨Dj _ (List.mem_of_getElem? Ob.out),Dj _ (List.mem_of_getElem? I3.out),Dj _ (List.mem_of_getElem? I4.out),Ct _ (List.mem_of_getElem? Oc.out),Ct _ (List.mem_of_getElem? Od.out)⟩
 obtain⟨q,hq⟩:∃q,q=val b64 (win L j (n+2+1))/val b64 v:=⟨_,rfl⟩
 rw[<-hq]at f1 f2 f3
 have F1:=bx f1
 have F2:=bx f2
 have F3:=bx f3
 have F4:=bx f4
 have HQ:=bx hq
 have KC:=bx hlt
 rw[FO]at hj vX hn hvl
 have R6:=bx hn
 clear f1 f2 f3 f4 hq hlt FO Ab Dg hvl
 have hnI:(n:Int)<=999999998:=by omega
 have yn:(0:Int)<=(n:Int):=by omega
 clear hn
 go_enter Tryz.func99,Tryz.ntmps99
 go_upto_region 3 with fail
 go_quiet (fail)
 go_upto_if 22 with fail
 go_cut [6] (λv6 w'=>∃gs:Nat,v6=.int .u64 (gs:Int)/\Bx (q<=gs/\gs<b64)/\∃m,w'=w.drewN m)
 case first=>
  by_cases qF:un<v1
  ·have Mq:(un:Int)<(v1:Int):=by omega
   obtain⟨d1,d2,d3⟩:=zR FU.out.2.1 qF
   have NJ:q<=dvQ un AV v1:=by
    have h:=F1.out
    unfold dvQ; exact h
   have HD:=bx (And.intro d1 (And.intro d2 (And.intro d3 NJ)))
   clear d1 d2 d3 NJ
   rw[show decide (un<v1)=true from decide_eq_true qF]
   go_upto_region 5 with fail
   go_quiet ((go_at_call 80; go_must (exact vK _ _ _ un AV v1 FU.out.2.1 FU.out.2.2.2.1 qF)))
   go_wp2_with fail
   rw[show n+2-1=n+1 from rfl]
   go_loopw [6,7] (λv6 v7 wr=>∃gs r:Nat,v6=.int .u64 (gs:Int)/\v7=.int .u64 (r:Int)/\Bx (un*b64+AV=gs*v1+r/\q<=gs/\gs<b64/\r<b64)/\∃m,wr=w.drewN m) (λv6 _ _=>(RowKit.intOf v6).toNat)
   case atStart=>exact⟨_,_,rfl,rfl,bx ⟨HD.out.1.symm,HD.out.2.2.2,HD.out.2.2.1,Nat.lt_trans HD.out.2.1 FU.out.2.2.2.1⟩,_,World.drewN_drewN _ _ _⟩
   case round=>
    clear HD
    obtain⟨gs,r,rfl,rfl,HI,mq,rfl⟩:=hrel
    have Ps:(gs:Int)<=18446744073709551615:=by have:=HI.out.2.2.1; unfold b64 at this; omega
    by_cases hle:gs*v2<=r*b64+un2
    ·-- the third word is content: out of the loop
     obtain⟨hi,lo,hhi,hlo,hcmp⟩:=ED hle FU.out.2.2.1
     by_cases xE:hi<r
     ·have SX:(hi:Int)<(r:Int):=by omega
      go_wp2_with (go_at_call 73; refine(dQ gs v2 HI.out.2.2.1 FU.out.2.2.2.2 _).mono ?_; rintro e w' ⟨rfl,rfl⟩; rw[hhi,hlo])
      go_meet
      case rel=>exact⟨gs,rfl,bx ⟨HI.out.2.1,HI.out.2.2.1⟩,_,rfl⟩
     ·obtain⟨rfl,hc2⟩:hi=r/\lo<=un2:=by rcases hcmp with h|h; exact absurd h xE; exact h
      have SY:(lo:Int)<=(un2:Int):=by omega
      go_wp2_with (go_at_call 73; refine(dQ gs v2 HI.out.2.2.1 FU.out.2.2.2.2 _).mono ?_; rintro e w' ⟨rfl,rfl⟩; rw[hhi,hlo])
      go_meet
      case rel=>exact⟨gs,rfl,bx ⟨HI.out.2.1,HI.out.2.2.1⟩,_,rfl⟩
    ·have RB:=F2.out gs r HI.out.1 (by omega)
     have HG:=bx RB
     have Pq:(1:Int)<=(gs:Int):=by omega
     obtain⟨hi,lo,hhi,hlo,hcmp⟩:=EC (gs:=gs) (v2:=v2) (r:=r) (un2:=un2) (by omega)
     have HA:=bx (oW r v1)
     have QA:=bx (oV r v1)
     clear RB hle
     by_cases PJ:adHi r v1=0
     ·have PK:(((adHi r v1:Nat)):Int)=0:=by omega
      have QH:=bx PJ
      clear PJ
      rcases hcmp with hc|⟨rfl,hc⟩
      ·have xE:¬((hi:Int)<(r:Int)):=by omega
       have hc2:((hi:Int)==(r:Int))=false:=beq_eq_false_iff_ne.2 (by omega)
       go_wp2_with (first|(go_at_call 73; refine(dQ gs v2 HI.out.2.2.1 FU.out.2.2.2.2 _).mono ?_; rintro e w' ⟨rfl,rfl⟩; rw[hhi,hlo])|((with_reducible refine eX 74 rfl rfl ?_); refine kz rfl rfl rfl ?_))
       go_roundw
       case rel=>exact⟨gs-1,adLo r v1,by congr 1; omega,rfl,bx ⟨by have h:=lB (by omega) HI.out.1; have h2:=HA.out; rw[QH.out]at h2; rw[h]; omega,by have:=HG.out; omega,by have:=HI.out.2.2.1; omega,by unfold b64; exact QA.out⟩,_,rfl⟩
       case measure=>simp[RowKit.intOf]; omega
      ·have xE:¬((hi:Int)<(hi:Int)):=by omega
       have hc2:¬((lo:Int)<=(un2:Int)):=by omega
       go_wp2_with (first|(go_at_call 73; refine(dQ gs v2 HI.out.2.2.1 FU.out.2.2.2.2 _).mono ?_; rintro e w' ⟨rfl,rfl⟩; rw[hhi,hlo])|((with_reducible refine eX 74 rfl rfl ?_); refine kz rfl rfl rfl ?_))
       go_roundw
       case rel=>exact⟨gs-1,adLo hi v1,by congr 1; omega,rfl,bx ⟨by have h:=lB (by omega) HI.out.1; have h2:=HA.out; rw[QH.out]at h2; rw[h]; omega,by have:=HG.out; omega,by have:=HI.out.2.2.1; omega,by unfold b64; exact QA.out⟩,_,rfl⟩
       case measure=>simp[RowKit.intOf]; omega
     ·have PK:(0:Int)<(((adHi r v1:Nat)):Int):=by omega
      clear PJ
      rcases hcmp with hc|⟨rfl,hc⟩
      ·have xE:¬((hi:Int)<(r:Int)):=by omega
       have hc2:((hi:Int)==(r:Int))=false:=beq_eq_false_iff_ne.2 (by omega)
       go_wp2_with (first|(go_at_call 73; refine(dQ gs v2 HI.out.2.2.1 FU.out.2.2.2.2 _).mono ?_; rintro e w' ⟨rfl,rfl⟩; rw[hhi,hlo])|((with_reducible refine eX 74 rfl rfl ?_); refine kz rfl rfl rfl ?_))
       go_meet
       case rel=>exact⟨gs-1,by congr 1; omega,bx ⟨by have:=HG.out; omega,by have:=HI.out.2.2.1; omega⟩,_,rfl⟩
      ·have xE:¬((hi:Int)<(hi:Int)):=by omega
       have hc2:¬((lo:Int)<=(un2:Int)):=by omega
       go_wp2_with (first|(go_at_call 73; refine(dQ gs v2 HI.out.2.2.1 FU.out.2.2.2.2 _).mono ?_; rintro e w' ⟨rfl,rfl⟩; rw[hhi,hlo])|((with_reducible refine eX 74 rfl rfl ?_); refine kz rfl rfl rfl ?_))
       go_meet
       case rel=>exact⟨gs-1,by congr 1; omega,bx ⟨by have:=HG.out; omega,by have:=HI.out.2.2.1; omega⟩,_,rfl⟩
  ·have Mq:¬((un:Int)<(v1:Int)):=by omega
   go_wp2
   go_meet
   case rel=>exact⟨18446744073709551615,rfl,bx ⟨by have:=F3.out; unfold b64 at this; omega,by unfold b64; omega⟩,_,rfl⟩
 case rest=>
  obtain⟨Su,rfl,QB,m0,rfl⟩:=hcut
  have Rh:=hR.drewN m0
  have hv0:zA (w.drewN m0) B .u64 (some ⟨bv,ov,none⟩) cv v:=hv
  have Mh:=od w m0 (some g)
  have P3:w.heap.size=(w.drewN m0).heap.size:=rfl
  clear Pf L8 L9 Pg Ph hR hv F1 F2 FU Ob I3 I4 Oc Od
  go_wp2_with fail
  go_loopw [6] (λv6 wr=>∃gs:Nat,v6=.int .u64 (gs:Int)/\Bx (q<=gs/\gs<b64)/\Row wr .u64 86 g L/\zA wr B .u64 (some ⟨bv,ov,none⟩) cv v/\w.grownBy wr (some g)) (λv6 _=>(RowKit.intOf v6).toNat)
  case atStart=>exact⟨Su,rfl,QB,Rh,hv0,Mh⟩
  case round=>
   clear Rh hv0 Mh QB P3
   obtain⟨gs,rfl,HG,OS,E5,hgr⟩:=hrel
   go_wp2_with fail
   have yw:=EA wr B g j cu L v _ cv gs OS Dj (by have:=Nk.out; omega) (by have:=Nk.out; omega) hcm E5 hB Ct HG.out.2 (by have:=Nk.out; have:=R6.out; omega)
   rw[Nk.out]at yw
   refine yw.mono ?_
   clear yw
   rintro e w2 (⟨qG,rfl,hb2⟩|⟨Me,rfl,hg2,M,m1,m2,m3,m4,m5,m6⟩)
   ·have De:q<gs:=by
     rw[HQ.out,Nat.div_lt_iff_lt_mul,Nat.mul_comm]
     ·exact qG
     ·rcases Nat.eq_zero_or_pos (val b64 v)with h|h
      ·rw[h,Nat.zero_mul]at qG; omega
      ·exact h
    have Sb:=bx De
    have Pq:(1:Int)<=(gs:Int):=by omega
    have Ps:(gs:Int)<=18446744073709551615:=by have:=HG.out.2; unfold b64 at this; omega
    have LM:=OS.keep hb2
    have hv2:=E5.grown (bP hb2 (some g)) hB
    have Pw:=gI hgr (bP hb2 (some g))
    clear qG De OS E5 hgr hb2
    go_wp2
    go_roundw
    case rel=>exact⟨gs-1,by congr 1; omega,bx ⟨by have:=Sb.out; omega,by have:=HG.out.2; omega⟩,LM,hv2,Pw⟩
    case measure=>simp[RowKit.intOf]; omega
   ·have hge:=HG.out.1
    have PM:gs=val b64 (win L j (n+2+1))/val b64 v:=by
     refine Nat.le_antisymm ?_ (by rw[HQ.out]at hge; exact hge)
     rcases Nat.eq_zero_or_pos (val b64 v)with h|h
     ·have:=KC.out; rw[h,Nat.zero_mul]at this; omega
     ·rw[Nat.le_div_iff_mul_le h,Nat.mul_comm]; exact Me
    have oJ:val b64 (win M j (n+2+1))=val b64 (win L j (n+2+1))%val b64 v:=by
     have h:=Nat.div_add_mod (val b64 (win L j (n+2+1))) (val b64 v)
     rw[<-PM]at h
     omega
    have Sa:=bx PM
    have N3:=bx oJ
    clear Me PM oJ m6 hge
    have M1:=bx m1
    have M4:=bx m4
    have M5:=bx m5
    clear m1 m4 m5
    go_wp2
    go_ret
    exact⟨kH (by rw[Sa.out]),gI hgr hg2,M,M1.out,m2,m3,M4.out,M5.out,N3.out⟩
variable {M:List Nat} {K V:Nat}
theorem BF {M' qs:List Nat} {A:Nat} (hl:M'.length=M.length) (hj:j+(K+1)<=M.length) (hV:V<b64^K) (Tv:j<qs.length)
  (yw:M'.take j=M.take j) (hdr:M'.drop (j+(K+1))=M.drop (j+(K+1))) (oJ:val b64 (win M' j (K+1))=val b64 (win M j (K+1))%V) (hlt:val b64 (M.drop (j+1))<V)
  (hval:val b64 M+val b64 (qs.drop (j+1))*b64^(j+1)*V=A):
  val b64 M'+val b64 ((qs.set j (val b64 (win M j (K+1))/V)).drop j)*b64^j*V=A/\val b64 (M'.drop j)<V:=by
 have hz:val b64 (M.drop (j+(K+1)))=0:=by
  have h:=bM b64 (M.drop (j+1)) K (by simp; omega)
  rw[List.drop_drop,show j+1+K=j+(K+1) by omega]at h
  rcases Nat.eq_zero_or_pos (val b64 (M.drop (j+(K+1))))with h0|h0
  ·exact h0
  ·have:b64^K*1<=b64^K*val b64 (M.drop (j+(K+1))):=Nat.mul_le_mul_left _ h0
   omega
 have e1:val b64 (M.drop j)=val b64 (win M j (K+1)):=by
  have h:=bM b64 (M.drop j) (K+1) (by simp; omega)
  rw[List.drop_drop,hz,Nat.mul_zero,Nat.add_zero]at h
  exact h
 have e2:val b64 (M'.drop j)=val b64 (win M j (K+1))%V:=by
  have h:=bM b64 (M'.drop j) (K+1) (by simp; omega)
  rw[List.drop_drop,hdr,hz,Nat.mul_zero,Nat.add_zero]at h
  rw[<-oJ]; exact h
 refine⟨?_,by rw[e2]; exact Nat.mod_lt _ (by omega)⟩
 have m1:=bM b64 M j (by omega)
 have m2:=bM b64 M' j (by omega)
 rw[e1]at m1
 rw[e2,yw]at m2
 have hd:(qs.set j (val b64 (win M j (K+1))/V)).drop j=val b64 (win M j (K+1))/V::qs.drop (j+1):=by
  rw[List.drop_eq_getElem_cons (by simpa using Tv),List.getElem_set_self,jF (by omega)]
 rw[hd,rU,m2,<-hval,m1]
 generalize val b64 (win M j (K+1))=W at *
 generalize val b64 (qs.drop (j+1))=Y at *
 have KR:=Nat.div_add_mod W V
 rw[Nat.add_mul,Nat.add_mul,Nat.pow_succ]
 have t1:b64*Y*b64^j*V=Y*(b64^j*b64)*V:=by
  congr 1
  rw[Nat.mul_comm b64 Y,Nat.mul_assoc,Nat.mul_comm b64]
 have t2:W/V*b64^j*V+b64^j*(W%V)=b64^j*W:=by
  have:b64^j*W=b64^j*(V*(W/V)+W%V):=by rw[KR]
  rw[this,Nat.mul_add]
  congr 1
  rw[Nat.mul_comm (W/V),Nat.mul_assoc,Nat.mul_comm (W/V)]
 omega
theorem ot (hj:j+(K+1)<=M.length) (wM:Wf b64 M) (hlt:val b64 (M.drop (j+1))<V):val b64 (win M j (K+1))<V*b64:=by
 have h:val b64 (win M j (K+1))<=val b64 (M.drop j):=by
  have h:=bM b64 (M.drop j) (K+1) (by simp; omega)
  unfold win
  omega
 have h2:=rV b64 M j (by omega)
 have h3:=wM.get (i:=j) (by omega)
 have h4:b64*(val b64 (M.drop (j+1))+1)<=b64*V:=Nat.mul_le_mul_left _ hlt
 rw[Nat.mul_add,Nat.mul_one,Nat.mul_comm b64 V]at h4
 omega
end Wx
