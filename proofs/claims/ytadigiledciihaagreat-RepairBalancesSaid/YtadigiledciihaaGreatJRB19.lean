import Derived.Test.YtadigiledciihaaGreatJRB18
import Derived.Deep.AppendSrc
import Derived.Deep.Upon
import Derived.Test.YtadigiledciihaaGreatCRBSemRow
namespace Wx
set_option maxRecDepth 100000
set_option maxHeartbeats 1000000
open Go Go.RowKit Go.Proofs
def cG (w:World) (v:Value) (q:Rat):Prop:=∃vn vd,v=.agg #[.bool (decide (q.num<0)),vn,vd]/\aZ .u32 ah w vn q.num.natAbs/\aZ .u32 ah w vd q.den
def jS (w:World) (q:Rat) (e:Ending) (w':World):Prop:=∃v,e=.returned v/\cG w' v q/\Below w.heap.size w w'
variable {w w':World} {v:Value} {q:Rat}
theorem cG.below (h:cG w v q) (hb:Below w.heap.size w w'):cG w' v q:=by
 obtain⟨vn,vd,rfl,h1,h2⟩:=h
 exact⟨vn,vd,rfl,h1.below hb,h2.below hb⟩
theorem cG.into (h:cG w v q) (hn:∀(kd:IntKind) (b:Nat) (v:Value) (m:Nat),aZ kd b w v m->aZ kd b w' v m):cG w' v q:=by
 obtain⟨vn,vd,rfl,h1,h2⟩:=h
 exact⟨vn,vd,rfl,hn _ _ _ _ h1,hn _ _ _ _ h2⟩
theorem cG.drew (h:cG w v q):cG w.drew v q:=by
 obtain⟨vn,vd,rfl,h1,h2⟩:=h
 exact⟨vn,vd,rfl,h1,h2⟩
theorem yO {p:Rat} (h:cG w v p) (e:q=p):cG w v q:=e▸h
theorem cM (w:World) (v:Value) (x:Rat) (hx:cG w v x):Calls Tryz.prog 80 #[v] w (dS .u32 ah w x.den):=by
 obtain⟨tU,tV,rfl,cC,dm⟩:=id hx
 obtain⟨cQ,cS,rfl,_⟩:=id cC
 obtain⟨cR,cT,rfl,_⟩:=id dm
 have hl:(((ae ah x.den).length:Int)==0)=false:=beq_eq_false_iff_ne.2 (by have:=(aq (n:=x.den) aj).2 x.den_pos; omega)
 have SF:=dm
 generalize (ae ah x.den).length=L2 at *
 go_enter Tryz.func80,Tryz.ntmps80
 go_wp2_with fail
 go_ret
 exact⟨_,rfl,SF.below (Below.alloc (Below.refl _ _) (Nat.le_refl _) _),Below.alloc (Below.refl _ _) (Nat.le_refl _) _⟩
theorem DT (w:World) (A:Option Addr) (c:Nat) (hc:c<=maxLen):aZ .u32 ah w (.slice A 0 c) 0:=by
 have:=aZ.of (k:=.u32) (b:=ah) (w:=w) (A:=A) (n:=0) (c:=c) aj (l:=[]) ⟨Nat.zero_le _,hc,λh=>absurd rfl h⟩ rfl (Wf.nil _) nI.nil
 simpa [val] using this
theorem DJ (w:World) (neg:Bool) (v1 v2:Value) (h1:aZ .u32 ah w v1 0):Calls Tryz.prog 67 #[.bool neg,v1,v2] w (jS w 0):=by
 obtain⟨A,c,rfl,hr⟩:=id h1
 rw[aW]
 clear hr
 go_enter Tryz.func67,Tryz.ntmps67
 go_wp2_with fail
 obtain⟨w1,e1,oR,b1,s1⟩:=en w [.bool false,.slice none 0 0,.slice none 0 0] 61
 rw[e1]
 clear e1
 replace h1:=h1.below b1
 have B:=b1
 clear b1
 obtain⟨w2,e2,oE,b2,s2⟩:=en w1 [] 146
 rw[e2]
 rw[s1]at oE
 clear e2
 replace h1:=h1.below b2
 replace oR:=oR.gone b2
 replace B:=B.trans (b2.mono B.size)
 clear b2
 clear oE h1
 refine Calls.mono (eP _ 1 (by unfold b64; omega)) ?_
 rintro e w3 ⟨v3,rfl,h3,b3⟩
 replace oR:=oR.gone b3
 replace B:=B.trans (b3.mono B.size)
 clear b3
 obtain⟨A3,c3,rfl,_⟩:=id h3
 have k1:=oR.cell (i:=0) rfl
 have k2:=oR.fz 0
 have k3:=oR.cell (i:=1) rfl
 have k4:=oR.fz 1
 have k5:=oR.cell (i:=2) rfl
 have k6:=oR.fz 2
 go_wp2
 obtain⟨wf,HW,ho,_,hN,Av,_⟩:=oR.put fh [.bool false,.slice (some ⟨w.heap.size+1,0,none⟩) 0 0,.slice A3 (ae ah 1).length c3] rfl cZ
 simp only[cF,Nat.reduceAdd]at HW
 (try rw[HW])
 (try simp only[Exit.inBlock,Exit.then])
 have f0:=ho.cell (i:=0) rfl
 have f1:=ho.cell (i:=1) rfl
 have f2:=ho.cell (i:=2) rfl
 refine bodyPost_ret (by simp[results,Tryz.results67,go_sem,f0,f1,f2]; try rfl) rfl ?_
 have HB:=Av _ (by omega) B
 exact⟨_,rfl,⟨_,_,rfl,hN _ _ _ _ (DT _ _ _ (Nat.zero_le _)),hN _ _ _ _ h3⟩,HB⟩
theorem F6 (w:World) (neg:Bool) (v1 v2:Value) (n d:Nat) (h1:aZ .u32 ah w v1 n) (h2:aZ .u32 ah w v2 d) (hn:0<n) (hd:0<d) {j:Nat} (hj:Bd j n) (hk:Bd j d) (ct:j<=10000000) (Ex:n.gcd d=1):Calls Tryz.prog 67 #[.bool neg,v1,v2] w (jS w (cI neg n d)):=by
 obtain⟨A1,c1,rfl,hr1⟩:=id h1
 obtain⟨A2,c2,rfl,hr2⟩:=id h2
 have hl:(((ae ah n).length:Int)==0)=false:=beq_eq_false_iff_ne.2 (by have:=(aq (n:=n) aj).2 hn; omega)
 have hlen:=hr1.len
 obtain⟨g,hg⟩:∃g,g=n.gcd d:=⟨_,rfl⟩
 obtain⟨q,hq⟩:∃q,q=cI neg n d:=⟨_,rfl⟩
 have hg0:0<g:=by rw[hg]; exact Nat.gcd_pos_of_pos_left _ hn
 have q1:=iU (neg:=neg) (n:=n) hd
 have q2:=oC (neg:=neg) (n:=n) hd
 have q3:=tv (neg:=neg) hd hn
 rw[<-hq,<-hg]at q1 q2
 rw[<-hq]at q3
 rw[<-hq]
 have HQ:=bx (And.intro q1 (And.intro q2 q3))
 have HJ:=bx (And.intro hj hk)
 have HG:=bx hg
 have K7:=bx hg0
 have HC:∀w v,Calls Tryz.prog 104 #[.slice A1 (ae ah n).length c1,.slice A2 (ae ah d).length c2] w v->True:=λ_ _ _=>trivial
 clear HC q1 q2 q3 hq hg hn hr1 hr2 hg0
 have hc:bf g 1=0:=by rw[HG.out,Ex]; rfl
 have HC:=bx hc
 have H1:=bx Ex
 clear hc Ex hj hk
 go_enter Tryz.func67,Tryz.ntmps67
 go_wp2_with fail
 obtain⟨w1,e1,oR,b1,s1⟩:=en w [.bool false,.slice none 0 0,.slice none 0 0] 61
 rw[e1]
 clear e1
 replace h1:=h1.below b1
 replace h2:=h2.below b1
 have B:=b1
 clear b1
 refine Calls.mono (qg _ _ _ n d h1 h2 HJ.out.1 HJ.out.2 ct) ?_
 rintro e w2 ⟨vg,rfl,hg,b2⟩
 replace h1:=h1.below b2
 replace h2:=h2.below b2
 replace oR:=oR.gone b2
 replace B:=B.trans (b2.mono B.size)
 clear b2
 rw[<-HG.out]at hg
 go_wp2_with fail
 refine Calls.mono (eP _ 1 (by unfold b64; omega)) ?_
 rintro e w3 ⟨vo,rfl,ho,b3⟩
 replace h1:=h1.below b3
 replace h2:=h2.below b3
 replace oR:=oR.gone b3
 replace hg:=hg.below b3
 replace B:=B.trans (b3.mono B.size)
 clear b3
 go_wp2_with fail
 have hc:=er _ _ _ g 1 hg ho
 rw[HC.out]at hc
 refine Calls.mono (hc) ?_
 rintro e w4 ⟨rfl,b4⟩
 replace h1:=h1.below b4
 replace h2:=h2.below b4
 replace oR:=oR.gone b4
 replace hg:=hg.below b4
 replace ho:=ho.below b4
 replace B:=B.trans (b4.mono B.size)
 clear b4
 clear hc ho
 rw[HG.out,H1.out,Nat.div_one,Nat.div_one]at HQ
 have k1:=oR.cell (i:=0) rfl
 have k2:=oR.fz 0
 have k3:=oR.cell (i:=1) rfl
 have k4:=oR.fz 1
 have k5:=oR.cell (i:=2) rfl
 have k6:=oR.fz 2
 go_wp2
 obtain⟨wf,HW,ho,_,hN,Av,_⟩:=oR.put fh [.bool neg,.slice A1 (ae ah n).length c1,.slice A2 (ae ah d).length c2] rfl cZ
 simp only[cF,Nat.reduceAdd]at HW
 (try rw[HW])
 (try simp only[Exit.inBlock,Exit.then])
 have f0:=ho.cell (i:=0) rfl
 have f1:=ho.cell (i:=1) rfl
 have f2:=ho.cell (i:=2) rfl
 refine bodyPost_ret (by simp[results,Tryz.results67,go_sem,f0,f1,f2]; try rfl) rfl ?_
 have HB:=Av _ (by omega) B
 exact⟨_,rfl,⟨_,_,by rw[HQ.out.2.2],by rw[HQ.out.1]; exact hN _ _ _ _ h1,by rw[HQ.out.2.1]; exact hN _ _ _ _ h2⟩,HB⟩
theorem DI (w:World) (neg:Bool) (v1 v2:Value) (n d:Nat) (h1:aZ .u32 ah w v1 n) (h2:aZ .u32 ah w v2 d) (hn:0<n) (hd:0<d) {j:Nat} (hj:Bd j n) (hk:Bd j d) (ct:j<=10000000) (Ex:n.gcd d≠1):Calls Tryz.prog 67 #[.bool neg,v1,v2] w (jS w (cI neg n d)):=by
 obtain⟨A1,c1,rfl,hr1⟩:=id h1
 obtain⟨A2,c2,rfl,hr2⟩:=id h2
 have hl:(((ae ah n).length:Int)==0)=false:=beq_eq_false_iff_ne.2 (by have:=(aq (n:=n) aj).2 hn; omega)
 have hlen:=hr1.len
 obtain⟨g,hg⟩:∃g,g=n.gcd d:=⟨_,rfl⟩
 obtain⟨q,hq⟩:∃q,q=cI neg n d:=⟨_,rfl⟩
 have hg0:0<g:=by rw[hg]; exact Nat.gcd_pos_of_pos_left _ hn
 have q1:=iU (neg:=neg) (n:=n) hd
 have q2:=oC (neg:=neg) (n:=n) hd
 have q3:=tv (neg:=neg) hd hn
 rw[<-hq,<-hg]at q1 q2
 rw[<-hq]at q3
 rw[<-hq]
 have HQ:=bx (And.intro q1 (And.intro q2 q3))
 have HJ:=bx (And.intro hj hk)
 have HG:=bx hg
 have K7:=bx hg0
 have HC:∀w v,Calls Tryz.prog 104 #[.slice A1 (ae ah n).length c1,.slice A2 (ae ah d).length c2] w v->True:=λ_ _ _=>trivial
 clear HC q1 q2 q3 hq hg hn hr1 hr2 hg0
 have hc:bf g 1=1:=by unfold bf; have:=K7.out; have:=HG.out; rw[if_neg (by omega),if_pos (by omega)]
 have HC:=bx hc
 have H1:=bx Ex
 clear hc Ex hj hk
 go_enter Tryz.func67,Tryz.ntmps67
 go_wp2_with fail
 obtain⟨w1,e1,oR,b1,s1⟩:=en w [.bool false,.slice none 0 0,.slice none 0 0] 61
 rw[e1]
 clear e1
 replace h1:=h1.below b1
 replace h2:=h2.below b1
 have B:=b1
 clear b1
 refine Calls.mono (qg _ _ _ n d h1 h2 HJ.out.1 HJ.out.2 ct) ?_
 rintro e w2 ⟨vg,rfl,hg,b2⟩
 replace h1:=h1.below b2
 replace h2:=h2.below b2
 replace oR:=oR.gone b2
 replace B:=B.trans (b2.mono B.size)
 clear b2
 rw[<-HG.out]at hg
 go_wp2_with fail
 refine Calls.mono (eP _ 1 (by unfold b64; omega)) ?_
 rintro e w3 ⟨vo,rfl,ho,b3⟩
 replace h1:=h1.below b3
 replace h2:=h2.below b3
 replace oR:=oR.gone b3
 replace hg:=hg.below b3
 replace B:=B.trans (b3.mono B.size)
 clear b3
 go_wp2_with fail
 have hc:=er _ _ _ g 1 hg ho
 rw[HC.out]at hc
 refine Calls.mono (hc) ?_
 rintro e w4 ⟨rfl,b4⟩
 replace h1:=h1.below b4
 replace h2:=h2.below b4
 replace oR:=oR.gone b4
 replace hg:=hg.below b4
 replace ho:=ho.below b4
 replace B:=B.trans (b4.mono B.size)
 clear b4
 clear hc ho
 go_wp2_with fail
 refine Calls.mono (kA _ _ _ n g h1 hg K7.out HJ.out.1 (HG.out▸HJ.out.2.le (Nat.gcd_le_right _ hd)) ct) ?_
 rintro e w5 ⟨vq,vr,rfl,hq,_,b5⟩
 replace h1:=h1.below b5
 replace h2:=h2.below b5
 replace oR:=oR.gone b5
 replace hg:=hg.below b5
 replace B:=B.trans (b5.mono B.size)
 clear b5
 go_wp2_with fail
 refine Calls.mono (kA _ _ _ d g h2 hg K7.out HJ.out.2 (HG.out▸HJ.out.2.le (Nat.gcd_le_right _ hd)) ct) ?_
 rintro e w6 ⟨vp,vs,rfl,hp,_,b6⟩
 replace h1:=h1.below b6
 replace h2:=h2.below b6
 replace oR:=oR.gone b6
 replace hg:=hg.below b6
 replace hq:=hq.below b6
 replace B:=B.trans (b6.mono B.size)
 clear b6
 obtain⟨A3,c3,rfl,_⟩:=id hq
 obtain⟨A4,c4,rfl,_⟩:=id hp
 have k1:=oR.cell (i:=0) rfl
 have k2:=oR.fz 0
 have k3:=oR.cell (i:=1) rfl
 have k4:=oR.fz 1
 have k5:=oR.cell (i:=2) rfl
 have k6:=oR.fz 2
 go_wp2
 obtain⟨wf,HW,ho,_,hN,Av,_⟩:=oR.put fh [.bool neg,.slice A3 (ae ah (n/g)).length c3,.slice A4 (ae ah (d/g)).length c4] rfl cZ
 simp only[cF,Nat.reduceAdd]at HW
 (try rw[HW])
 (try simp only[Exit.inBlock,Exit.then])
 have f0:=ho.cell (i:=0) rfl
 have f1:=ho.cell (i:=1) rfl
 have f2:=ho.cell (i:=2) rfl
 refine bodyPost_ret (by simp[results,Tryz.results67,go_sem,f0,f1,f2]; try rfl) rfl ?_
 have HB:=Av _ (by omega) B
 exact⟨_,rfl,⟨_,_,by rw[HQ.out.2.2],by rw[HQ.out.1]; exact hN _ _ _ _ hq,by rw[HQ.out.2.1]; exact hN _ _ _ _ hp⟩,HB⟩
theorem lG (w:World) (neg:Bool) (v1 v2:Value) (n d:Nat) (h1:aZ .u32 ah w v1 n) (h2:aZ .u32 ah w v2 d) (hd:0<d) {j:Nat} (hj:Bd j n) (hk:Bd j d) (ct:j<=10000000):Calls Tryz.prog 67 #[.bool neg,v1,v2] w (jS w (cI neg n d)):=by
 rcases Nat.eq_zero_or_pos n with rfl|hn
 ·rw[vF]; exact DJ w neg v1 v2 h1
 ·by_cases h:n.gcd d=1
  ·exact F6 w neg v1 v2 n d h1 h2 hn hd hj hk ct h
  ·exact DI w neg v1 v2 n d h1 h2 hn hd hj hk ct h
end Wx

namespace Wx
open Go Go.RowKit Go.Proofs
def bW (q:Rat):Pred:=λw v=>cG w v q
theorem dA (q:Rat):au (bW q):=by
 rintro M w v hM ⟨vn,vd,rfl,h1,h2⟩ w' he
 exact⟨vn,vd,rfl,mz hM (.inr rfl) h1 w' he,mz hM (.inr rfl) h2 w' he⟩
theorem lq (q:Rat):Fits 3 true (bW q):=by
 rintro w v ⟨vn,vd,rfl,h1,h2⟩
 obtain⟨A,c,rfl,_⟩:=h1
 obtain⟨B,d,rfl,_⟩:=h2
 refine⟨[_,_,_],rfl,rfl,rfl,?_⟩
 intro u hu
 simp at hu
 rcases hu with rfl|rfl|rfl
 ·exact⟨sS _,rfl⟩
 ·exact⟨fg _ _ _,rfl⟩
 ·exact⟨fg _ _ _,rfl⟩
def aG (n:Nat):Pred:=λw v=>aZ .u32 ah w v n
theorem bZ (n:Nat):au (aG n):=λ_ _ _ hM h=>mz hM (.inr rfl) h
theorem uN (n:Nat):Fits 1 false (aG n):=by
 rintro w v ⟨A,c,rfl,_⟩
 refine⟨[_],rfl,rfl,rfl,?_⟩
 intro u hu
 simp at hu
 subst hu
 exact⟨fg _ _ _,rfl⟩
def bF (q:Rat):List Fd:=[⟨false,1,pB (decide (q.num<0))⟩,⟨false,1,aG q.num.natAbs⟩,⟨false,1,aG q.den⟩]
theorem KS (q:Rat):∀w v,bW q w v->pS (bF q) w v:=by
 rintro w v ⟨vn,vd,rfl,h1,h2⟩
 exact Gy (cs:=[.bool (decide (q.num<0)),vn,vd]) ⟨by simp,rfl,by simp,h1,by simp,h2,rfl⟩
theorem BO (q:Rat):∀w v,pS (bF q) w v->bW q w v:=by
 rintro w v ⟨cs,rfl,hc⟩
 have hl:=fO hc
 match cs,hl,hc with
 |[x,y,z],_,hc=>
  obtain⟨_,h1,_,h2,_,h3,_⟩:=hc
  have e1:x=.bool (decide (q.num<0)):=h1
  subst e1
  exact⟨y,z,rfl,h2,h3⟩
theorem uP (q:Rat):Fits 3 true (pS (bF q)):=lz (fs:=bF q) ⟨fits_bool _,uN _,uN _,trivial⟩ rfl
end Wx

namespace Wx
open Go Go.RowKit
section
variable {P:Program} {ops:Array Oper} {ms:List Nat} {c:dg} {V:List Vr} {A:List Al} {G:List aX} {i:Nat} {L:Nat->Bool} {β:Nat->Nat->Prop} {a:Act} {w:World} {o:Oper}{d:Nat} {x y z:Operand} {ty:TypeId} {pos:String} {aI:Array Edge}
theorem aY.xh (h:aY c V A G L β a w) (hd:lZ ms i L) (hwf:kL c.N ops V A G i o) {y:Vr} (hy:y∈V) (gw:y.born=some i) (hst:ek o.op=false) (IM:gC o.op=false) (eu:(A.all λp=>p.var != y.id||p.tag.any λj=>(ms.getD j 0).testBit i)=true)
  {v':Value} {w':World} {B':Nat->Prop} (e0:w'.os=w.os/\w'.tape=w.tape/\w'.output=w.output/\w.heap.size<=w'.heap.size)
  (e1:∀k,k<c.w0.heap.size->¬c.gM k->w'.heap[k]?=w.heap[k]?)
  (e2:∀z,z∈V->live L z=true->z.dead≠some i->∀k,β z.id k->w'.heap[k]?=w.heap[k]?/\¬B' k)
  (e3:Ext (own c V L β) w w') (e4:∀z,z∈V->live L z=true->z.dead≠some i->Ext (minus (own c V L β) (β z.id)) w w')
  (e5:∀k j,k<w.heap.size->B' k->y.lo<=j->own c V L β k j)
  (Vn:∀β',β' y.id=B'->(∀k j,k<w.heap.size->own c V (upd L i) β' k j->own c V L β k j)->(∀k j,own c V (upd L i) β' k j->(B' k/\y.lo<=j)\/c.M0 k j\/∃z,z∈V/\live L z=true/\z.dead≠some i/\β z.id k)->kR (own c V (upd L i) β') c (upd L i) β' (a.put o.dst v') w' y)
  (hG:∀β',β' y.id=B'->(∀k j,k<w.heap.size->own c V (upd L i) β' k j->own c V L β k j)->(∀k j,own c V (upd L i) β' k j->(B' k/\y.lo<=j)\/c.M0 k j\/∃z,z∈V/\live L z=true/\z.dead≠some i/\β z.id k)->∀e,e∈G->e.tag=some i->aQ (own c V (upd L i) β') (λw=>e.p w v') w'):
  Inv c V A G (upd L i) (a.put o.dst v') w':=by
 have nj:=hwf.v2 y hy gw
 have nV:∀z,z∈V->z.id≠y.id->z.born≠some i:=λz hz hne hb=>hne (by rw[hwf.vo z y hz hy hb gw])
 -- who Ul on
 have lv:∀z,z∈V->z.id≠y.id->live (upd L i) z=true->live L z=true/\z.dead≠some i:=by
  intro z hz hne hl
  unfold live at hl ⊢
  rw[cV (nV z hz hne),Bool.and_eq_true]at hl
  obtain⟨h1,h2⟩:=mB hl.2
  exact⟨by rw[hl.1,h1]; rfl,h2⟩
 have nS:∀z,z∈V->z.id≠y.id->z.dead≠some i->o.dst≠some z.slot:=λz hz hne yF hd'=>(hwf.v1 z hz hd').elim (nV z hz hne) yF
 have CK:∀z,z∈V->∀q,q∈z.st->q.1≠i:=λz hz q hq OW=>by have:=hwf.vs z hz q hq OW; rw[hst]at this; cases this
 let β':Nat->Nat->Prop:=λs=>if s=y.id then B' else β s
 have hβ:∀z,z∈V->z.id≠y.id->β' z.id=β z.id:=λz _ hne=>if_neg hne
 have Nt:β' y.id=B':=if_pos rfl
 have gQ:∀k j,k<w.heap.size->own c V (upd L i) β' k j->own c V L β k j:=by
  rintro k j hk (h1|⟨z,hz,h1,h2,h3⟩)
  ·exact .inl h1
  ·by_cases yM:z.id=y.id
   ·have:=hwf.vu z y hz hy yM
    subst this
    rw[Nt]at h2
    exact e5 k j hk h2 h3
   ·rw[hβ z hz yM]at h2
    exact .inr ⟨z,hz,(lv z hz yM h1).1,h2,h3⟩
 have Pv:∀k j,own c V (upd L i) β' k j->(B' k/\y.lo<=j)\/c.M0 k j\/∃z,z∈V/\live L z=true/\z.dead≠some i/\β z.id k:=by
  rintro k j (h1|⟨z,hz,h1,h2,h3⟩)
  ·exact .inr (.inl h1)
  ·by_cases yM:z.id=y.id
   ·have:=hwf.vu z y hz hy yM
    subst this
    rw[Nt]at h2
    exact .inl ⟨h2,h3⟩
   ·rw[hβ z hz yM]at h2
    obtain⟨k1,k2⟩:=lv z hz yM h1
    exact .inr (.inr ⟨z,hz,k1,k2,h2⟩)
 have lift:∀F:World->Prop,aQ (own c V L β) F w->aQ (own c V (upd L i) β') F w':=λF hF w'' he=>by
  refine hF w'' ⟨Nat.le_trans e0.2.2.2 he.size,λk hk hno=>?_,λk j v hno hv=>?_⟩
  ·rw[he.block k (Nat.lt_of_lt_of_le hk e0.2.2.2) λj h'=>hno j (gQ k j hk h')]
   exact e3.block k hk hno
  ·have hk:=World.block_lt_of_cell? w _ hv
   exact he.cell k j v (λh'=>hno (gQ k j hk h')) (e3.cell k j v hno hv)
 have F0:∀z,z∈V->live L z=true->z.dead≠some i->∀F:World->Prop,aQ (minus (own c V L β) (β z.id)) F w->aQ (minus (own c V (upd L i) β') (β z.id)) F w':=λz hz hl yF F hF w'' he=>by
  have e:=e4 z hz hl yF
  refine hF w'' ⟨Nat.le_trans e0.2.2.2 he.size,λk hk hno=>?_,λk j v hno hv=>?_⟩
  ·rw[he.block k (Nat.lt_of_lt_of_le hk e0.2.2.2) λj h'=>hno j ⟨gQ k j hk h'.1,h'.2⟩]
   exact e.block k hk hno
  ·have hk:=World.block_lt_of_cell? w _ hv
   exact he.cell k j v (λh'=>hno ⟨gQ k j hk h'.1,h'.2⟩) (e.cell k j v hno hv)
 refine⟨β',by rw[jD]; exact h.size,by rw[put_defers]; exact h.defers,⟨e0.1.trans h.below.os,e0.2.1.trans h.below.tape,e0.2.2.1.trans h.below.output,Nat.le_trans h.below.size e0.2.2.2,λk hk hn=>(e1 k hk hn).trans (h.below.block k hk hn)⟩,h.sY e1,?_,?_,?_,?_⟩
 ·intro z hz hl
  by_cases yM:z.id=y.id
  ·have:=hwf.vu z y hz hy yM
   subst this
   exact Vn β' Nt gQ Pv
  ·obtain⟨hl,yF⟩:=lv z hz yM hl
   exact(h.var z hz hl).keep (cw (nS z hz yM yF)) (hβ z hz yM) (λg hg=>(e2 z hz hl yF g hg).1) e0.2.2.2 lift (F0 z hz hl yF) (kU (CK z hz))
 ·intro z z' g hz IW h1 h2 hne
  by_cases yM:z.id=y.id
  ·have Du:z'.id≠y.id:=λe=>hne (yM.trans e.symm)
   obtain⟨h2,LY⟩:=lv z' IW Du h2
   rw[yM,Nt,hβ z' IW Du]
   exactλk1 k2=>(e2 z' IW h2 LY g k2).2 k1
  ·obtain⟨h1,tT⟩:=lv z hz yM h1
   rw[hβ z hz yM]
   by_cases Du:z'.id=y.id
   ·rw[Du,Nt]
    exactλk1 k2=>(e2 z hz h1 tT g k1).2 k2
   ·rw[hβ z' IW Du]
    exact h.apart z z' g hz IW h1 (lv z' IW Du h2).1 hne
 ·intro p hp hl hcd
  have hpt:p.tag≠some i:=λe=>by have:=hwf.aa p hp e; rw[IM]at this; cases this
  rw[cV hpt]at hl
  obtain⟨g,hg,hp1⟩:=h.al p hp hl hcd
  rw[cw λe=>hpt (hwf.a1 p hp e),hp1]
  have hne:p.var≠y.id:=by
   intro e
   rw[List.all_eq_true]at eu
   have h1:=eu p hp
   rw[e]at h1
   simp only[bne_self_eq_false,Bool.false_or]at h1
   cases ht:p.tag with
   |none=>rw[ht]at h1; simp at h1
   |some j=>
    rw[ht]at h1 hl
    have:=hd.behind j (by simpa using h1)
    simp only[on,this]at hl
    cases hl
  exact⟨g,by simpa [β',hne] using hg,rfl⟩
 ·intro e he hl hf
  obtain⟨hf,Kj⟩:=mB hf
  by_cases ht:e.tag=some i
  ·have hd':=hwf.g2 e he ht
   rw[hd',gE (by rw[h.size]; exact hwf.sz _ hd')]
   exact hG β' Nt gQ Pv e he ht
  ·rw[cV ht]at hl
   rw[cw λhd'=>(hwf.g1 e he hd').elim ht Kj]
   exact lift _ (h.jl e he hl hf)
end
end Wx
