import Derived.Deep.DeepMust
import Derived.Test.YtikkgpljpglnbaaGreatCRMDiv64
namespace Wx
set_option maxHeartbeats 1000000
open Go Go.RowKit Go.Proofs
def win (L:List Nat) (j n:Nat):List Nat:=(L.drop j).take n
variable {L:List Nat} {j n:Nat}
theorem fZ (h:j+n<=L.length):(win L j n).length=n:=by unfold win; simp; omega
variable {i:Nat}
theorem mw (hi:i<n):(win L j n)[i]?=L[j+i]?:=by
 unfold win; rw[List.getElem?_take_of_lt hi,List.getElem?_drop]
theorem BN {b:Nat} (h:Wf b L) (j n:Nat):Wf b (win L j n):=(h.drop j).take n
theorem JY {v:Nat}:win (L.set (j+i) v) j n=(win L j n).set i v:=by
 unfold win
 rw[List.drop_set,if_neg (by omega),show j+i-j=i by omega,List.take_set]
theorem Row.win {w:World} {k:IntKind} {e:TypeId} {g:Nat} {L:List Nat} (h:Row w k e g L) {j n c:Nat} (hj:j+n<=L.length) (hc:n<=c) (hm:c<=maxLen):Rd w k (some ⟨g,j,none⟩) c (win L j n):=by
 have hl:=fZ hj
 refine⟨by omega,hm,λ_=>⟨g,j,rfl,λi hi=>?_⟩⟩
 rw[hl]at hi
 rw[h.cell (i:=j+i) (by omega),List.getD_eq_getElem?_getD,List.getD_eq_getElem?_getD,mw hi]
def BW (w:World) (B:Nat) (k:IntKind) (A:Option Addr) (c:Nat) (l:List Nat):Prop:=Rd w k A c l/\(l≠[]->∀a,A=some a->a.block<B)
variable {w w':World} {B g:Nat} {k:IntKind} {A:Option Addr} {c:Nat} {l:List Nat}
theorem BW.grown (h:BW w B k A c l) (hg:w.grownBy w' (some g)) (hB:B<=g):BW w' B k A c l:=by
 obtain⟨⟨h1,h2,h3⟩,h4⟩:=h
 refine⟨⟨h1,h2,λhne=>?_⟩,h4⟩
 obtain⟨b,o,e,hc⟩:=h3 hne
 refine⟨b,o,e,λi hi=>?_⟩
 have hb:=h4 hne _ e
 exact hg.cell (hc i hi) (by simp at hb ⊢; omega)
variable {row:Option Nat}
theorem BW.pM (h:BW w B k A c l) (hg:w.grownBy w' row) (hB:∀g,row=some g->B<=g):BW w' B k A c l:=by
 obtain⟨⟨h1,h2,h3⟩,h4⟩:=h
 refine⟨⟨h1,h2,λhne=>?_⟩,h4⟩
 obtain⟨b,o,e,hc⟩:=h3 hne
 refine⟨b,o,e,λi hi=>?_⟩
 have hb:=h4 hne _ e
 refine hg.cell (hc i hi) (λe=>?_)
 have:=hB _ e.symm
 simp at hb this
 omega
theorem BW.of (h:Rd w k A c l):BW w w.heap.size k A c l:=by
 refine⟨h,λhne a ha=>?_⟩
 obtain⟨b,o,e,hc⟩:=h.2.2 hne
 rw[e]at ha
 injection ha with ha
 subst ha
 have hl:0<l.length:=List.length_pos_iff.2 hne
 exact World.block_lt_of_cell? w _ (hc 0 hl)
theorem bT (h:Below w.heap.size w w') (row:Option Nat):w.grownBy w' row:=
 ⟨h.os,h.tape,h.output,h.size,λk hk _=>h.block k hk⟩
theorem iP {w1 w2:World} (h:w.grownBy w1 row) (k:w1.grownBy w2 row):w.grownBy w2 row:=
 ⟨k.os.trans h.os,k.tape.trans h.tape,k.output.trans h.output,Nat.le_trans h.size k.size,λi hi hn=>(k.block i (Nat.lt_of_lt_of_le hi h.size) hn).trans (h.block i hi hn)⟩
theorem uU (w:World) (g i:Nat) (v:Value):w.grownBy (w.setCell ⟨g,i,none⟩ v) (some g):=
 ⟨rfl,rfl,rfl,by simp[World.setCell],λk _ hk=>Below.heap_setCell w ⟨g,i,none⟩ v k (λe=>hk (by simp[e]))⟩
theorem qu (w:World) (n:Nat) (row:Option Nat):w.grownBy (w.drewN n) row:=⟨rfl,rfl,rfl,Nat.le_refl _,λ_ _ _=>rfl⟩
theorem BI {w0 wr:World} {v o:List Nat} {vx q:Nat} (ek:o.length=i) (hi:i<v.length) (hx:v[i]?=some vx) (EB:Wf b64 v) (jC:Wf b64 o) (hc:c<b64) (hq:q<b64)
  (hr:Row wr .u64 86 g (o++List.replicate (v.length+1-i) 0)) (hg:w0.heap.size<=g) (hbl:Below w0.heap.size w0 wr) (hval:val b64 o+b64^i*c=val b64 (v.take i)*q):
  ∃(c':Nat) (o':List Nat),IntKind.u64.wrap ((muHi vx q:Nat)+(adHi (muLo vx q) c:Nat))=(c':Int)/\c'<b64/\o'.length=i+1/\Wf b64 o' /\
   Row (wr.setCell ⟨g,i,none⟩ (.int .u64 (adLo (muLo vx q) c:Nat))) .u64 86 g (o'++List.replicate (v.length+1-(i+1)) 0)/\Below w0.heap.size w0 (wr.setCell ⟨g,i,none⟩ (.int .u64 (adLo (muLo vx q) c:Nat))) /\
   val b64 o'+b64^(i+1)*c'=val b64 (v.take (i+1))*q:=by
 have qw:vx<b64:=EB _ (List.mem_of_getElem? hx)
 have h1:=rz vx q
 have h2:=qX (muLo vx q) c
 have h3:=qW (muLo vx q) c
 have hxq:vx*q<=18446744073709551615*18446744073709551615:=Nat.mul_le_mul (by unfold b64 at qw; omega) (by unfold b64 at hq; omega)
 have hlt:muHi vx q+adHi (muLo vx q) c<b64:=by
  unfold b64 at *
  generalize vx*q=p at *
  omega
 refine⟨_,o++[adLo (muLo vx q) c],?_,hlt,by simp[ek],jC.append (Wf.cons h3 (Wf.nil _)),?_,hbl.setCell hg _,?_⟩
 ·rw[wrap_u64 (by omega) (by unfold b64 at hlt; omega)]; omega
 ·have h:=hr.set i (adLo (muLo vx q) c)
  rw[show v.length+1-i=(v.length+1-(i+1))+1 by omega,List.replicate_succ,oP ek]at h
  rw[List.append_assoc]
  exact h
 ·rw[lM,ek,bR hx,Nat.add_mul,<-hval,Nat.pow_succ]
  have e:b64^i*(adLo (muLo vx q) c+b64*(muHi vx q+adHi (muLo vx q) c))=b64^i*(vx*q+c):=by
   congr 1
   unfold b64
   rw[<-h1]
   omega
  rw[Nat.mul_add (b64^i) (adLo (muLo vx q) c),Nat.mul_add (b64^i) (vx*q),<-Nat.mul_assoc (b64^i) b64]at e
  rw[Nat.mul_assoc (b64^i) vx q]
  omega
theorem Ep (x y c:Nat) (hc:c<=1):∀w:World,(callFunc 78 #[.int .u64 (x:Int),.int .u64 (y:Int),.int .u64 (c:Int)]).run Tryz.prog w=.ok (.value (.tuple #[.int .u64 (gK x y c:Nat),.int .u64 (iW x y c:Nat)])) w:=by
 intro w
 rw[run_callFunc_extern Tryz.func78 (by kernel_rfl) (by kernel_rfl) (by kernel_rfl) (e:=subEntry) (by kernel_rfl),oN x y c hc]
 rfl
theorem BH {M P:List Nat} {br vu vp:Nat} (hml:M.length=L.length) (hj:j+n<=L.length) (hi:i<n) (hu:M[j+i]?=some vu) (hp:P[i]?=some vp) (hd:M.drop (j+i)=L.drop (j+i))
  (QG:vu<b64) (hvp:vp<b64) (hbr:br<=1) (hval:val b64 ((win M j n).take i)+val b64 (P.take i)=val b64 ((win L j n).take i)+b64^i*br):
  val b64 ((win (M.set (j+i) (gK vu vp br)) j n).take (i+1))+val b64 (P.take (i+1))=val b64 ((win L j n).take (i+1))+b64^(i+1)*iW vu vp br:=by
 have hs:=(tP (c:=br) QG hvp hbr).1
 have hwu:(win M j n)[i]?=some vu:=by rw[mw hi]; exact hu
 have Ww:(win L j n)[i]?=some vu:=by
  rw[mw hi]
  have:(M.drop (j+i))[0]?=(L.drop (j+i))[0]?:=by rw[hd]
  rw[List.getElem?_drop,List.getElem?_drop,Nat.add_zero]at this
  rw[<-this]; exact hu
 have UD:=fZ (L:=M) (j:=j) (n:=n) (by omega)
 rw[JY,bR hp,bR Ww]
 rw[bR (l:=(win M j n).set i (gK vu vp br)) (v:=gK vu vp br) (by rw[List.getElem?_set_self (by omega)]),List.take_set_of_le (Nat.le_refl _),Nat.pow_succ]
 have e:b64^i*(gK vu vp br+vp+br)=b64^i*(vu+b64*iW vu vp br):=by rw[hs]; rfl
 rw[Nat.mul_add,Nat.mul_add,Nat.mul_add,<-Nat.mul_assoc]at e
 omega
def EK (w:World) (g j n:Nat) (L:List Nat) (p:Nat) (e:Ending) (w':World):Prop:=
 (val b64 (win L j (n+1))<p/\e=.returned (.bool false)/\Below w.heap.size w w') \/
 (p<=val b64 (win L j (n+1))/\e=.returned (.bool true)/\w.grownBy w' (some g) /\
  ∃L',L'.length=L.length/\Wf b64 L'/\Row w' .u64 86 g L'/\L'.take j=L.take j/\L'.drop (j+(n+1))=L.drop (j+(n+1))/\val b64 (win L' j (n+1))+p=val b64 (win L j (n+1)))
theorem G7 (w:World) (B g j cu:Nat) (L v:List Nat) (A:Option Addr) (cv q:Nat) (hR:Row w .u64 86 g L) (FJ:Wf b64 L) (hj:j+(v.length+1)<=L.length) (yA:v.length+1<=cu) (hcm:cu<=maxLen)
  (hv:BW w B .u64 A cv v) (_hB:B<=g) (EB:Wf b64 v) (hq:q<b64) (hn:v.length<=1000000000):
  Calls Tryz.prog 110 #[.slice (some ⟨g,j,none⟩) (v.length+1) cu,.slice A v.length cv,.int .u64 (q:Int)] w (EK w g j v.length L (val b64 v*q)):=by
 have hvl:=hv.1.len
 have HQ:=Lib.hid hq
 have R5:cu<=9223372036854775807:=by unfold maxLen at hcm; omega
 clear hq
 go_enter Tryz.func110,Tryz.ntmps110
 go_wp2_with (at_make; refine eP _ rfl _ _ _ rfl .u64 86 Tryz.underlying45 jf _ _ rfl rfl (by omega) (by omega) (by omega) ?_; intro w1 hrow gH hsz)
 rw[show((v.length:Int)+1).toNat=v.length+1 by omega]at hrow
 go_loopw [8,22] (λs8 Tl wr=>∃(i c:Nat) (o:List Nat),i<=v.length/\Tl=.int .i64 i/\s8=.int .u64 c/\c<b64/\o.length=i/\Wf b64 o/\Row wr .u64 86 w.heap.size (o++List.replicate (v.length+1-i) 0)/\Below w.heap.size w wr/\val b64 o+b64^i*c=val b64 (v.take i)*q)
  (λ_ Tl _=>v.length-(RowKit.intOf Tl).toNat)
 case atStart=>exact⟨0,0,[],by omega,rfl,rfl,by unfold b64; omega,rfl,Wf.nil _,by simpa using hrow,gH,by simp[val]⟩
 case round=>
  obtain⟨i,c,o,hi,rfl,rfl,hc,ek,jC,hr,hbl,hval⟩:=hrel
  have eY:=Lib.hid hval
  have gn:=Lib.hid ek
  have HC:=Lib.hid hc
  clear hval ek hc hrow gH hsz
  by_cases hlt:i<v.length
  ·obtain⟨bx,ox,vx,rfl,Hx,ue⟩:=(hv.1.below hbl).get hlt
   obtain⟨vo,Hv,Ka⟩:=hr.get (i:=i) (by have:=gn.out; simp; omega)
   have Cm:=hr.frozen i
   have Qi:Hid (vx<b64):=EB _ (List.mem_of_getElem? ue.out)
   go_wp2_with (first|(go_at_call 73; refine(eJ vx q Qi.out HQ.out _).mono ?_; rintro e w' ⟨rfl,rfl⟩)|((with_reducible refine gb 74 rfl rfl ?_); refine lS rfl rfl rfl ?_))
   go_roundw
   case rel=>
    obtain⟨c',o2,e,r⟩:=BI gn.out hlt ue.out EB jC HC.out HQ.out hr (Nat.le_refl _) hbl eY.out
    exact⟨i+1,c',o2,by omega,by go_num,by rw[e],r⟩
   case measure=>simp[RowKit.intOf]; omega
  ·obtain rfl:i=v.length:=by omega
   rw[show v.length+1-v.length=1 by omega,show List.replicate 1 0=[0]from rfl]at hr
   obtain⟨vo,Hv,Ka⟩:=hr.get (i:=v.length) (by have:=gn.out; simp; omega)
   have Cm:=hr.frozen v.length
   have HP:Hid (val b64 (o++[c])=val b64 v*q):=by
    show _=_
    have h:=eY.out
    rw[List.take_length]at h
    rw[lM,gn.out]; exact h
   have OO:=hr.set v.length c
   rw[oP gn.out]at OO
   have SR:Wf b64 (o++[c]):=jC.append (Wf.cons HC.out (Wf.nil _))
   have QX:Hid ((o++[c]).length=v.length+1):=by show _=_; simp[gn.out]
   have hb2:=hbl.setCell (p:=⟨w.heap.size,v.length,none⟩) (Nat.le_refl _) (.int .u64 (c:Int))
   generalize o++[c]=P at *
   clear eY gn jC hr Ka
   have Pe:=hR.lt
   go_wp2_with fail
   obtain⟨w2,FI⟩:∃w2,w2=wr.setCell ⟨w.heap.size,v.length,none⟩ (.int .u64 (c:Int)):=⟨_,rfl⟩
   rw[<-FI]at OO hb2 ⊢
   clear FI hbl Cm Hv
   have OM:=hR.keep hb2
   refine(gP _ _ _ (win L j (v.length+1)) _ (OM.win hj yA hcm) (BN FJ _ _) _ (fZ hj) rfl).mono ?_
   rintro e w' ⟨rfl,x1,rfl,hx1⟩
   go_wp2_with fail
   refine(gP _ _ _ P _ (OO.iE (c:=v.length+1) (by have:=QX.out; omega) (by unfold maxLen; omega)) SR _ QX.out HP.out).mono ?_
   rintro e w' ⟨rfl,x2,rfl,hx2⟩
   go_wp2_with fail
   refine(lU _ _ _ _ _ hx1 hx2).mono ?_
   rintro e w3 ⟨rfl,hb3⟩
   clear hx1 hx2
   have qL:=hb2.trans (hb3.mono hb2.size)
   have Uh:=OM.keep hb3
   have OP:=OO.keep hb3
   clear OM OO hb2 hb3
   by_cases hlt:val b64 (win L j (v.length+1))<val b64 v*q
   ·have e1:cD (val b64 (win L j (v.length+1))) (val b64 v*q) = -1:=by unfold cD; rw[if_pos hlt]
    rw[e1]
    go_wp2
    go_ret
    exact .inl ⟨hlt,rfl,qL⟩
   ·have e1:∃z:Int,z=cD (val b64 (win L j (v.length+1))) (val b64 v*q)/\¬(z<0):=⟨_,rfl,by unfold cD; rw[if_neg hlt]; split<;>omega⟩
    obtain⟨z,hz,hz0⟩:=e1
    rw[<-hz]
    clear hz
    go_wp2_with fail
    have VQ:=QX.out
    have Nq:=Lib.hid hlt
    have Q0:Hid (w.heap.size≠g):=by show _≠_; omega
    have hg3:=bT qL (some g)
    clear hlt qL hR
    go_loopw [14,59] (λXa To wr=>∃(i br:Nat) (M:List Nat),i<=v.length+1/\To=.int .i64 i/\Xa=.int .u64 br/\br<=1/\Hid (M.length=L.length)/\Wf b64 M/\Row wr .u64 86 g M/\Row wr .u64 86 w.heap.size P/\w.grownBy wr (some g)/\M.take j=L.take j/\M.drop (j+i)=L.drop (j+i) /\
      Hid (val b64 ((win M j (v.length+1)).take i)+val b64 (P.take i)=val b64 ((win L j (v.length+1)).take i)+b64^i*br))
     (λ_ To _=>v.length+1-(RowKit.intOf To).toNat)
    case atStart=>exact⟨0,0,L,by omega,rfl,rfl,by omega,rfl,FJ,Uh,OP,hg3,rfl,rfl,rfl⟩
    case round=>
     obtain⟨i,br,M,hi,rfl,rfl,hbr,EF,FK,KF,Uy,hgr,AO,hdr,HV⟩:=hrel
     have TP:=Lib.hid AO
     have QO:=Lib.hid hdr
     clear AO hdr Uh OP hg3
     by_cases hlt:i<v.length+1
     ·obtain⟨vu,We,Ia⟩:=KF.get (i:=j+i) (by have:=EF.out; omega)
      obtain⟨vp,O6,Q8⟩:=Uy.get (i:=i) (by omega)
      have Cm:=KF.frozen (j+i)
      have e1:(0:Int)<=(i:Int):=by omega
      have e2:(i:Int)<(v.length:Int)+1:=by omega
      have hsub:=Ep vu vp br hbr
      go_wp2
      go_region
      all_goals go_wp2
      all_goals
       go_roundw
       case rel=>
        have Sk:g≠w.heap.size:=by omega
        refine⟨i+1,iW vu vp br,M.set (j+i) (gK vu vp br),by omega,by go_num,rfl,tO _ _ _,?_,FK.set (tP (FK _ (List.mem_of_getElem? Ia.out)) (SR _ (List.mem_of_getElem? Q8.out)) hbr).2,(KF.set _ _).drew,(Uy.Nx (p:=⟨g,j+i,none⟩) (by exact Sk.symm) _).drew,iP (iP hgr (uU _ _ _ _)) (qu _ 1 _),?_,?_,?_⟩
        ·show _=_; rw[List.length_set]; exact EF.out
        ·rw[List.take_set_of_le (by omega)]; exact TP.out
        ·rw[kR (by omega),show j+(i+1)=j+i+1 by omega,<-List.drop_drop,<-List.drop_drop (l:=L),QO.out]
        ·show _=_
         exact BH EF.out hj hlt Ia.out Q8.out QO.out (FK _ (List.mem_of_getElem? Ia.out)) (SR _ (List.mem_of_getElem? Q8.out)) hbr HV.out
       case measure=>simp[RowKit.intOf]; omega
     ·obtain rfl:i=v.length+1:=by omega
      go_wp2
      go_ret
      have h:=HV.out
      have l1:=fZ (L:=M) (j:=j) (n:=v.length+1) (by have:=EF.out; omega)
      have l2:=fZ (L:=L) (j:=j) (n:=v.length+1) hj
      rw[List.take_of_length_le (by omega),List.take_of_length_le (l:=P) (by omega),List.take_of_length_le (l:=win L j (v.length+1)) (by omega)]at h
      have hP:=HP.out
      have Sv:=ji (BN FK j (v.length+1))
      rw[l1]at Sv
      have hnlt:=Nq.out
      have RZ:br=0:=by
       rcases Nat.eq_zero_or_pos br with h0|h0
       ·exact h0
       ·obtain rfl:br=1:=by omega
        omega
      subst RZ
      exact .inr ⟨by omega,rfl,hgr,M,EF.out,FK,KF,TP.out,QO.out,by omega⟩
end Wx

namespace Wx
set_option maxRecDepth 100000
set_option maxHeartbeats 1000000
open Go Go.RowKit Go.Proofs
variable {n:Nat}
theorem lN {b:Nat} {l:List Nat} {x:Nat} (hn:l.length=n+1) (hx:l[n]?=some x):val b l=x*b^n+val b (l.take n):=by
 have h:=bR (b:=b) hx
 rw[List.take_of_length_le (by omega)]at h
 rw[h,Nat.mul_comm,Nat.add_comm]
variable {un2 v2 j:Nat}
theorem ya {v:List Nat} {un C5 v1:Nat} {L:List Nat} (IZ:v.length=n+2) (hj:j+(v.length+1)<=L.length) (hu:(win L j (v.length+1))[n+2]?=some un) (SI:(win L j (v.length+1))[n+1]?=some C5) (SJ:(win L j (v.length+1))[n]?=some un2)
  (iI:v[n+1]?=some v1) (hv2:v[n]?=some v2) (wu:Wf b64 (win L j (v.length+1))) (ht:qV v) (hlt:val b64 (win L j (v.length+1))<val b64 v*b64):
  val b64 (win L j (v.length+1))/val b64 v<=(un*b64+C5)/v1 /\
  (∀g r,un*b64+C5=g*v1+r->r*b64+un2<g*v2->val b64 (win L j (v.length+1))/val b64 v<g)/\val b64 (win L j (v.length+1))/val b64 v<b64/\0<v1:=by
 have UA:=fZ hj
 generalize win L j (v.length+1)=u at *
 have hv0:0<v1:=by
  rcases Nat.eq_zero_or_pos v1 with rfl|h
  ·exfalso; apply ht
   rw[List.getLast?_eq_getElem?,IZ]
   exact iI
  ·exact h
 have hp:∀k,0<b64^k:=λk=>Nat.pow_pos (by unfold b64; omega)
 have VT:=lN (b:=b64) (n:=n+2) (by omega) hu
 have Uj:=lN (b:=b64) (l:=u.take (n+2)) (n:=n+1) (by simp; omega) (by rw[List.getElem?_take_of_lt (by omega)]; exact SI)
 have Uk:=lN (b:=b64) (l:=u.take (n+1)) (n:=n) (by simp; omega) (by rw[List.getElem?_take_of_lt (by omega)]; exact SJ)
 rw[List.take_take,Nat.min_eq_left (by omega)]at Uj Uk
 have RN:=lN (b:=b64) (n:=n+1) (by omega) iI
 have hV1:=lN (b:=b64) (l:=v.take (n+1)) (n:=n) (by simp; omega) (by rw[List.getElem?_take_of_lt (by omega)]; exact hv2)
 rw[List.take_take,Nat.min_eq_left (by omega)]at hV1
 have e1:val b64 u=(un*b64+C5)*b64^(n+1)+val b64 (u.take (n+1)):=by
  rw[VT,Uj,Nat.add_mul,Nat.mul_assoc,show b64*b64^(n+1)=b64^(n+2)from Nat.pow_succ'.symm]; omega
 have e2:val b64 u=((un*b64+C5)*b64+un2)*b64^n+val b64 (u.take n):=by
  rw[e1,Uk,Nat.add_mul _ un2,Nat.mul_assoc _ b64,show b64*b64^n=b64^(n+1)from Nat.pow_succ'.symm]; omega
 have e3:val b64 v=(v1*b64+v2)*b64^n+val b64 (v.take n):=by
  rw[RN,hV1,Nat.add_mul,Nat.mul_assoc,show b64*b64^n=b64^(n+1)from Nat.pow_succ'.symm]; omega
 have OU:0<val b64 v:=by rw[RN]; have:=Nat.mul_pos hv0 (hp (n+1)); omega
 have l1:=ji (wu.take (n+1))
 rw[List.length_take,Nat.min_eq_left (by omega)]at l1
 have l2:=ji (wu.take n)
 rw[List.length_take,Nat.min_eq_left (by omega)]at l2
 refine⟨LN (hp _) e1 l1 RN hv0,λg r hN ht=>IC e2 l2 e3 OU hN ht,?_,hv0⟩
 rw[Nat.div_lt_iff_lt_mul OU,Nat.mul_comm]; exact hlt
theorem yc (w:World) (k n hi lo y:Nat) (hlo:lo<b64) (hy:y<b64) (hhi:hi<y):
  Calls Tryz.prog 80 #[.int .u64 (hi:Int),.int .u64 (lo:Int),.int .u64 (y:Int)] (w.drewN (k+n)) λe w''=>e=.returned (.tuple #[.int .u64 (dvQ hi lo y:Nat),.int .u64 (dvR hi lo y:Nat)])/\∃m,w''=w.drewN (k+m):=
 (yb _ hi lo y hlo hy hhi).mono λe w' ⟨he,m,hw⟩=>⟨he,n+m,by rw[hw,World.drewN_drewN,Nat.add_assoc]⟩
variable {gs r:Nat}
theorem G9 (h:gs*v2<=r*b64+un2) (hu:un2<b64):∃hi lo,muHi gs v2=hi/\muLo gs v2=lo/\(hi<r\/(hi=r/\lo<=un2)):=by
 refine⟨_,_,rfl,rfl,?_⟩
 have h1:=rz gs v2
 have h2:=CC gs v2
 unfold b64 at *
 rcases Nat.lt_trichotomy (muHi gs v2) r with h3|h3|h3
 ·exact .inl h3
 ·refine .inr ⟨h3,?_⟩
  rw[<-h1,h3]at h
  omega
 ·exfalso; omega
theorem G8 (h:r*b64+un2<gs*v2):∃hi lo,muHi gs v2=hi/\muLo gs v2=lo/\(r<hi\/(hi=r/\un2<lo)):=by
 refine⟨_,_,rfl,rfl,?_⟩
 have h1:=rz gs v2
 have h2:=CC gs v2
 unfold b64 at *
 rcases Nat.lt_trichotomy (muHi gs v2) r with h3|h3|h3
 ·exfalso; omega
 ·refine .inr ⟨h3,?_⟩
  rw[<-h1,h3]at h
  omega
 ·exact .inl h3
def Da (w:World) (g j n:Nat) (L:List Nat) (V:Nat) (e:Ending) (w':World):Prop:=
 e=.returned (.int .u64 (val b64 (win L j (n+1))/V:Nat))/\w.grownBy w' (some g) /\
  ∃L',L'.length=L.length/\Wf b64 L'/\Row w' .u64 86 g L'/\L'.take j=L.take j/\L'.drop (j+(n+1))=L.drop (j+(n+1))/\val b64 (win L' j (n+1))=val b64 (win L j (n+1))%V
theorem Di (w:World) (B g j cu:Nat) (L v:List Nat) (A:Option Addr) (cv:Nat) (hR:Row w .u64 86 g L) (FJ:Wf b64 L) (hj:j+(v.length+1)<=L.length) (yA:v.length+1<=cu) (hcm:cu<=maxLen)
  (hv:BW w B .u64 A cv v) (hB:B<=g) (EB:Wf b64 v) (hn:v.length<=1000000000) (zV:2<=v.length) (FF:qV v) (hlt:val b64 (win L j (v.length+1))<val b64 v*b64):
  Calls Tryz.prog 99 #[.slice (some ⟨g,j,none⟩) (v.length+1) cu,.slice A v.length cv] w (Da w g j v.length L (val b64 v)):=by
 have hvl:=hv.1.len
 have R5:cu<=9223372036854775807:=by unfold maxLen at hcm; omega
 obtain⟨n,IZ⟩:∃n,v.length=n+2:=⟨v.length-2,by omega⟩
 obtain⟨un,R6,Q5⟩:=hR.get (i:=j+(n+2)) (by omega)
 obtain⟨C5,O8,Ln⟩:=hR.get (i:=j+(n+1)) (by omega)
 obtain⟨un2,O9,Lo⟩:=hR.get (i:=j+n) (by omega)
 obtain⟨bv,ov,v1,rfl,R7,Q6⟩:=hv.1.get (i:=n+1) (by omega)
 obtain⟨bv',ov',v2,OY,R8,Q7⟩:=hv.1.get (i:=n) (by omega)
 injection OY with OY
 injection OY with h1 h2 h3
 subst h1 h2
 clear h3
 have Qj:=Lib.hid IZ
 rw[IZ]
 obtain⟨f1,f2,f3,f4⟩:=ya IZ hj (by rw[mw (by omega)]; exact Q5.out) (by rw[mw (by omega)]; exact Ln.out) (by rw[mw (by omega)]; exact Lo.out) Q6.out Q7.out (BN FJ _ _) FF hlt
 rw[IZ]at f1 f2 f3
 have FU:Bx (un<b64/\C5<b64/\un2<b64/\v1<b64/\v2<b64):=bx ⟨FJ _ (List.mem_of_getElem? Q5.out),FJ _ (List.mem_of_getElem? Ln.out),FJ _ (List.mem_of_getElem? Lo.out),EB _ (List.mem_of_getElem? Q6.out),EB _ (List.mem_of_getElem? Q7.out)⟩
 obtain⟨q,hq⟩:∃q,q=val b64 (win L j (n+2+1))/val b64 v:=⟨_,rfl⟩
 rw[<-hq]at f1 f2 f3
 have F1:=bx f1
 have F2:=bx f2
 have F3:=bx f3
 have F4:=bx f4
 have HQ:=bx hq
 have Nq:=bx hlt
 rw[IZ]at hj yA hn hvl
 have Vd:=bx hn
 clear f1 f2 f3 f4 hq hlt IZ zV FF hvl
 have hnI:(n:Int)<=999999998:=by omega
 have AJ:(0:Int)<=(n:Int):=by omega
 clear hn
 go_enter Tryz.func99,Tryz.ntmps99
 go_upto_region 3 with fail
 go_quiet (fail)
 go_upto_if 22 with fail
 go_cut [6] (λv6 w'=>∃gs:Nat,v6=.int .u64 (gs:Int)/\Bx (q<=gs/\gs<b64)/\∃m,w'=w.drewN m)
 case first=>
  by_cases sG:un<v1
  ·have Pq:(un:Int)<(v1:Int):=by omega
   obtain⟨d1,d2,d3⟩:=Cg FU.out.2.1 sG
   have QD:q<=dvQ un C5 v1:=by
    have h:=F1.out
    unfold dvQ; exact h
   have HD:=bx (And.intro d1 (And.intro d2 (And.intro d3 QD)))
   clear d1 d2 d3 QD
   rw[show decide (un<v1)=true from decide_eq_true sG]
   go_upto_region 5 with fail
   go_quiet ((go_at_call 80; go_must (exact yc _ _ _ un C5 v1 FU.out.2.1 FU.out.2.2.2.1 sG)))
   go_wp2_with fail
   rw[show n+2-1=n+1 from rfl]
   go_loopw [6,7] (λv6 v7 wr=>∃gs r:Nat,v6=.int .u64 (gs:Int)/\v7=.int .u64 (r:Int)/\Bx (un*b64+C5=gs*v1+r/\q<=gs/\gs<b64/\r<b64)/\∃m,wr=w.drewN m) (λv6 _ _=>(RowKit.intOf v6).toNat)
   case atStart=>exact⟨_,_,rfl,rfl,bx ⟨HD.out.1.symm,HD.out.2.2.2,HD.out.2.2.1,Nat.lt_trans HD.out.2.1 FU.out.2.2.2.1⟩,_,World.drewN_drewN _ _ _⟩
   case round=>
    clear HD
    obtain⟨gs,r,rfl,rfl,HI,mq,rfl⟩:=hrel
    have Si:(gs:Int)<=18446744073709551615:=by have:=HI.out.2.2.1; unfold b64 at this; omega
    by_cases hle:gs*v2<=r*b64+un2
    ·-- the third word is content: out of the loop
     obtain⟨hi,lo,hhi,hlo,hcmp⟩:=G9 hle FU.out.2.2.1
     by_cases xq:hi<r
     ·have V5:(hi:Int)<(r:Int):=by omega
      go_wp2_with (go_at_call 73; refine(eJ gs v2 HI.out.2.2.1 FU.out.2.2.2.2 _).mono ?_; rintro e w' ⟨rfl,rfl⟩; rw[hhi,hlo])
      go_meet
      case rel=>exact⟨gs,rfl,bx ⟨HI.out.2.1,HI.out.2.2.1⟩,_,rfl⟩
     ·obtain⟨rfl,hc2⟩:hi=r/\lo<=un2:=by rcases hcmp with h|h; exact absurd h xq; exact h
      have V6:(lo:Int)<=(un2:Int):=by omega
      go_wp2_with (go_at_call 73; refine(eJ gs v2 HI.out.2.2.1 FU.out.2.2.2.2 _).mono ?_; rintro e w' ⟨rfl,rfl⟩; rw[hhi,hlo])
      go_meet
      case rel=>exact⟨gs,rfl,bx ⟨HI.out.2.1,HI.out.2.2.1⟩,_,rfl⟩
    ·have Ux:=F2.out gs r HI.out.1 (by omega)
     have HG:=bx Ux
     have Sg:(1:Int)<=(gs:Int):=by omega
     obtain⟨hi,lo,hhi,hlo,hcmp⟩:=G8 (gs:=gs) (v2:=v2) (r:=r) (un2:=un2) (by omega)
     have HA:=bx (qX r v1)
     have TF:=bx (qW r v1)
     clear Ux hle
     by_cases SB:adHi r v1=0
     ·have SC:(((adHi r v1:Nat)):Int)=0:=by omega
      have TM:=bx SB
      clear SB
      rcases hcmp with hc|⟨rfl,hc⟩
      ·have xq:¬((hi:Int)<(r:Int)):=by omega
       have hc2:((hi:Int)==(r:Int))=false:=beq_eq_false_iff_ne.2 (by omega)
       go_wp2_with (first|(go_at_call 73; refine(eJ gs v2 HI.out.2.2.1 FU.out.2.2.2.2 _).mono ?_; rintro e w' ⟨rfl,rfl⟩; rw[hhi,hlo])|((with_reducible refine gb 74 rfl rfl ?_); refine lS rfl rfl rfl ?_))
       go_roundw
       case rel=>exact⟨gs-1,adLo r v1,by congr 1; omega,rfl,bx ⟨by have h:=mR (by omega) HI.out.1; have h2:=HA.out; rw[TM.out]at h2; rw[h]; omega,by have:=HG.out; omega,by have:=HI.out.2.2.1; omega,by unfold b64; exact TF.out⟩,_,rfl⟩
       case measure=>simp[RowKit.intOf]; omega
      ·have xq:¬((hi:Int)<(hi:Int)):=by omega
       have hc2:¬((lo:Int)<=(un2:Int)):=by omega
       go_wp2_with (first|(go_at_call 73; refine(eJ gs v2 HI.out.2.2.1 FU.out.2.2.2.2 _).mono ?_; rintro e w' ⟨rfl,rfl⟩; rw[hhi,hlo])|((with_reducible refine gb 74 rfl rfl ?_); refine lS rfl rfl rfl ?_))
       go_roundw
       case rel=>exact⟨gs-1,adLo hi v1,by congr 1; omega,rfl,bx ⟨by have h:=mR (by omega) HI.out.1; have h2:=HA.out; rw[TM.out]at h2; rw[h]; omega,by have:=HG.out; omega,by have:=HI.out.2.2.1; omega,by unfold b64; exact TF.out⟩,_,rfl⟩
       case measure=>simp[RowKit.intOf]; omega
     ·have SC:(0:Int)<(((adHi r v1:Nat)):Int):=by omega
      clear SB
      rcases hcmp with hc|⟨rfl,hc⟩
      ·have xq:¬((hi:Int)<(r:Int)):=by omega
       have hc2:((hi:Int)==(r:Int))=false:=beq_eq_false_iff_ne.2 (by omega)
       go_wp2_with (first|(go_at_call 73; refine(eJ gs v2 HI.out.2.2.1 FU.out.2.2.2.2 _).mono ?_; rintro e w' ⟨rfl,rfl⟩; rw[hhi,hlo])|((with_reducible refine gb 74 rfl rfl ?_); refine lS rfl rfl rfl ?_))
       go_meet
       case rel=>exact⟨gs-1,by congr 1; omega,bx ⟨by have:=HG.out; omega,by have:=HI.out.2.2.1; omega⟩,_,rfl⟩
      ·have xq:¬((hi:Int)<(hi:Int)):=by omega
       have hc2:¬((lo:Int)<=(un2:Int)):=by omega
       go_wp2_with (first|(go_at_call 73; refine(eJ gs v2 HI.out.2.2.1 FU.out.2.2.2.2 _).mono ?_; rintro e w' ⟨rfl,rfl⟩; rw[hhi,hlo])|((with_reducible refine gb 74 rfl rfl ?_); refine lS rfl rfl rfl ?_))
       go_meet
       case rel=>exact⟨gs-1,by congr 1; omega,bx ⟨by have:=HG.out; omega,by have:=HI.out.2.2.1; omega⟩,_,rfl⟩
  ·have Pq:¬((un:Int)<(v1:Int)):=by omega
   go_wp2
   go_meet
   case rel=>exact⟨18446744073709551615,rfl,bx ⟨by have:=F3.out; unfold b64 at this; omega,by unfold b64; omega⟩,_,rfl⟩
 case rest=>
  obtain⟨VE,rfl,TG,m0,rfl⟩:=hcut
  have Ug:=hR.drewN m0
  have hv0:BW (w.drewN m0) B .u64 (some ⟨bv,ov,none⟩) cv v:=hv
  have Pf:=qu w m0 (some g)
  have SS:w.heap.size=(w.drewN m0).heap.size:=rfl
  clear R6 O8 O9 R7 R8 hR hv F1 F2 FU Q5 Ln Lo Q6 Q7
  go_wp2_with fail
  go_loopw [6] (λv6 wr=>∃gs:Nat,v6=.int .u64 (gs:Int)/\Bx (q<=gs/\gs<b64)/\Row wr .u64 86 g L/\BW wr B .u64 (some ⟨bv,ov,none⟩) cv v/\w.grownBy wr (some g)) (λv6 _=>(RowKit.intOf v6).toNat)
  case atStart=>exact⟨VE,rfl,TG,Ug,hv0,Pf⟩
  case round=>
   clear Ug hv0 Pf TG SS
   obtain⟨gs,rfl,HG,RL,HO,hgr⟩:=hrel
   go_wp2_with fail
   have AO:=G7 wr B g j cu L v _ cv gs RL FJ (by have:=Qj.out; omega) (by have:=Qj.out; omega) hcm HO hB EB HG.out.2 (by have:=Qj.out; have:=Vd.out; omega)
   rw[Qj.out]at AO
   refine AO.mono ?_
   clear AO
   rintro e w2 (⟨sH,rfl,hb2⟩|⟨Pc,rfl,hg2,M,m1,m2,m3,m4,m5,m6⟩)
   ·have FD:q<gs:=by
     rw[HQ.out,Nat.div_lt_iff_lt_mul,Nat.mul_comm]
     ·exact sH
     ·rcases Nat.eq_zero_or_pos (val b64 v)with h|h
      ·rw[h,Nat.zero_mul]at sH; omega
      ·exact h
    have Vi:=bx FD
    have Sg:(1:Int)<=(gs:Int):=by omega
    have Si:(gs:Int)<=18446744073709551615:=by have:=HG.out.2; unfold b64 at this; omega
    have OM:=RL.keep hb2
    have hv2:=HO.grown (bT hb2 (some g)) hB
    have Sl:=iP hgr (bT hb2 (some g))
    clear sH FD RL HO hgr hb2
    go_wp2
    go_roundw
    case rel=>exact⟨gs-1,by congr 1; omega,bx ⟨by have:=Vi.out; omega,by have:=HG.out.2; omega⟩,OM,hv2,Sl⟩
    case measure=>simp[RowKit.intOf]; omega
   ·have hge:=HG.out.1
    have SE:gs=val b64 (win L j (n+2+1))/val b64 v:=by
     refine Nat.le_antisymm ?_ (by rw[HQ.out]at hge; exact hge)
     rcases Nat.eq_zero_or_pos (val b64 v)with h|h
     ·have:=Nq.out; rw[h,Nat.zero_mul]at this; omega
     ·rw[Nat.le_div_iff_mul_le h,Nat.mul_comm]; exact Pc
    have qN:val b64 (win M j (n+2+1))=val b64 (win L j (n+2+1))%val b64 v:=by
     have h:=Nat.div_add_mod (val b64 (win L j (n+2+1))) (val b64 v)
     rw[<-SE]at h
     omega
    have Vh:=bx SE
    have QW:=bx qN
    clear Pc SE qN m6 hge
    have M1:=bx m1
    have M4:=bx m4
    have M5:=bx m5
    clear m1 m4 m5
    go_wp2
    go_ret
    exact⟨mh (by rw[Vh.out]),iP hgr hg2,M,M1.out,m2,m3,M4.out,M5.out,QW.out⟩
variable {M:List Nat} {K V:Nat}
theorem DM {M' qs:List Nat} {A:Nat} (hl:M'.length=M.length) (hj:j+(K+1)<=M.length) (hV:V<b64^K) (WJ:j<qs.length)
  (AO:M'.take j=M.take j) (hdr:M'.drop (j+(K+1))=M.drop (j+(K+1))) (qN:val b64 (win M' j (K+1))=val b64 (win M j (K+1))%V) (hlt:val b64 (M.drop (j+1))<V)
  (hval:val b64 M+val b64 (qs.drop (j+1))*b64^(j+1)*V=A):
  val b64 M'+val b64 ((qs.set j (val b64 (win M j (K+1))/V)).drop j)*b64^j*V=A/\val b64 (M'.drop j)<V:=by
 have hz:val b64 (M.drop (j+(K+1)))=0:=by
  have h:=bQ b64 (M.drop (j+1)) K (by simp; omega)
  rw[List.drop_drop,show j+1+K=j+(K+1) by omega]at h
  rcases Nat.eq_zero_or_pos (val b64 (M.drop (j+(K+1))))with h0|h0
  ·exact h0
  ·have:b64^K*1<=b64^K*val b64 (M.drop (j+(K+1))):=Nat.mul_le_mul_left _ h0
   omega
 have e1:val b64 (M.drop j)=val b64 (win M j (K+1)):=by
  have h:=bQ b64 (M.drop j) (K+1) (by simp; omega)
  rw[List.drop_drop,hz,Nat.mul_zero,Nat.add_zero]at h
  exact h
 have e2:val b64 (M'.drop j)=val b64 (win M j (K+1))%V:=by
  have h:=bQ b64 (M'.drop j) (K+1) (by simp; omega)
  rw[List.drop_drop,hdr,hz,Nat.mul_zero,Nat.add_zero]at h
  rw[<-qN]; exact h
 refine⟨?_,by rw[e2]; exact Nat.mod_lt _ (by omega)⟩
 have m1:=bQ b64 M j (by omega)
 have m2:=bQ b64 M' j (by omega)
 rw[e1]at m1
 rw[e2,AO]at m2
 have hd:(qs.set j (val b64 (win M j (K+1))/V)).drop j=val b64 (win M j (K+1))/V::qs.drop (j+1):=by
  rw[List.drop_eq_getElem_cons (by simpa using WJ),List.getElem_set_self,kR (by omega)]
 rw[hd,tR,m2,<-hval,m1]
 generalize val b64 (win M j (K+1))=W at *
 generalize val b64 (qs.drop (j+1))=Y at *
 have Nz:=Nat.div_add_mod W V
 rw[Nat.add_mul,Nat.add_mul,Nat.pow_succ]
 have t1:b64*Y*b64^j*V=Y*(b64^j*b64)*V:=by
  congr 1
  rw[Nat.mul_comm b64 Y,Nat.mul_assoc,Nat.mul_comm b64]
 have t2:W/V*b64^j*V+b64^j*(W%V)=b64^j*W:=by
  have:b64^j*W=b64^j*(V*(W/V)+W%V):=by rw[Nz]
  rw[this,Nat.mul_add]
  congr 1
  rw[Nat.mul_comm (W/V),Nat.mul_assoc,Nat.mul_comm (W/V)]
 omega
theorem qz (hj:j+(K+1)<=M.length) (wM:Wf b64 M) (hlt:val b64 (M.drop (j+1))<V):val b64 (win M j (K+1))<V*b64:=by
 have h:val b64 (win M j (K+1))<=val b64 (M.drop j):=by
  have h:=bQ b64 (M.drop j) (K+1) (by simp; omega)
  unfold win
  omega
 have h2:=tS b64 M j (by omega)
 have h3:=wM.get (i:=j) (by omega)
 have h4:b64*(val b64 (M.drop (j+1))+1)<=b64*V:=Nat.mul_le_mul_left _ hlt
 rw[Nat.mul_add,Nat.mul_one,Nat.mul_comm b64 V]at h4
 omega
end Wx
