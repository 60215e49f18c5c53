import Derived.Test.YtocboimkilkklaaGreatJRC17
import Derived.Deep.AppendSrc
import Derived.Deep.Upon
import Derived.Test.YtocboimkilkklaaGreatCRCSemRow
namespace Wx
set_option maxRecDepth 100000
set_option maxHeartbeats 1000000
open Go Go.RowKit Go.Proofs
def cB (w:World) (v:Value) (q:Rat):Prop:=∃vn vd,v=.agg #[.bool (decide (q.num<0)),vn,vd]/\bt .u32 ah w vn q.num.natAbs/\bt .u32 ah w vd q.den
def iz (w:World) (q:Rat) (e:Ending) (w':World):Prop:=∃v,e=.returned v/\cB w' v q/\Below w.heap.size w w'
variable {w w':World} {v:Value} {q:Rat}
theorem cB.below (h:cB w v q) (hb:Below w.heap.size w w'):cB w' v q:=by
 obtain⟨vn,vd,rfl,h1,h2⟩:=h
 exact⟨vn,vd,rfl,h1.below hb,h2.below hb⟩
theorem cB.into (h:cB w v q) (hn:∀(kd:IntKind) (b:Nat) (v:Value) (m:Nat),bt kd b w v m->bt kd b w' v m):cB w' v q:=by
 obtain⟨vn,vd,rfl,h1,h2⟩:=h
 exact⟨vn,vd,rfl,hn _ _ _ _ h1,hn _ _ _ _ h2⟩
theorem cB.drew (h:cB w v q):cB w.drew v q:=by
 obtain⟨vn,vd,rfl,h1,h2⟩:=h
 exact⟨vn,vd,rfl,h1,h2⟩
theorem Av {p:Rat} (h:cB w v p) (e:q=p):cB w v q:=e▸h
theorem dx (w:World) (v:Value) (x:Rat) (hx:cB w v x):Calls Tryz.prog 50 #[v] w (eR .u32 ah w x.den):=by
 obtain⟨sP,sQ,rfl,cN,dH⟩:=id hx
 obtain⟨bN,bP,rfl,_⟩:=id cN
 obtain⟨bO,bQ,rfl,_⟩:=id dH
 have hl:(((ae ah x.den).length:Int)==0)=false:=beq_eq_false_iff_ne.2 (by have:=(av (n:=x.den) aj).2 x.den_pos; omega)
 have Vh:=dH
 generalize (ae ah x.den).length=L2 at *
 go_enter Tryz.func50,Tryz.ntmps50
 go_wp2_with fail
 go_ret
 exact⟨_,rfl,Vh.below (Below.alloc (Below.refl _ _) (Nat.le_refl _) _),Below.alloc (Below.refl _ _) (Nat.le_refl _) _⟩
theorem FL (w:World) (A:Option Addr) (c:Nat) (hc:c<=maxLen):bt .u32 ah w (.slice A 0 c) 0:=by
 have:=bt.of (k:=.u32) (b:=ah) (w:=w) (A:=A) (n:=0) (c:=c) aj (l:=[]) ⟨Nat.zero_le _,hc,λh=>absurd rfl h⟩ rfl (Wf.nil _) oT.nil
 simpa [val] using this
theorem FB (w:World) (neg:Bool) (v1 v2:Value) (h1:bt .u32 ah w v1 0):Calls Tryz.prog 48 #[.bool neg,v1,v2] w (iz w 0):=by
 obtain⟨A,c,rfl,hr⟩:=id h1
 rw[bk]
 clear hr
 go_enter Tryz.func48,Tryz.ntmps48
 go_wp2_with fail
 obtain⟨w1,e1,oR,b1,s1⟩:=dP w [.bool false,.slice none 0 0,.slice none 0 0] 38
 rw[e1]
 clear e1
 replace h1:=h1.below b1
 have B:=b1
 clear b1
 obtain⟨w2,e2,oE,b2,s2⟩:=dP w1 [] 128
 rw[e2]
 rw[s1]at oE
 clear e2
 replace h1:=h1.below b2
 replace oR:=oR.gone b2
 replace B:=B.trans (b2.mono B.size)
 clear b2
 clear oE h1
 refine Calls.mono (fL _ 1 (by unfold b64; omega)) ?_
 rintro e w3 ⟨v3,rfl,h3,b3⟩
 replace oR:=oR.gone b3
 replace B:=B.trans (b3.mono B.size)
 clear b3
 obtain⟨A3,c3,rfl,_⟩:=id h3
 have k1:=oR.cell (i:=0) rfl
 have k2:=oR.fz 0
 have k3:=oR.cell (i:=1) rfl
 have k4:=oR.fz 1
 have k5:=oR.cell (i:=2) rfl
 have k6:=oR.fz 2
 go_wp2
 obtain⟨wf,HW,ho,_,hN,B7,_⟩:=oR.put gb [.bool false,.slice (some ⟨w.heap.size+1,0,none⟩) 0 0,.slice A3 (ae ah 1).length c3] rfl cq
 simp only[cF,Nat.reduceAdd]at HW
 (try rw[HW])
 (try simp only[Exit.inBlock,Exit.then])
 have f0:=ho.cell (i:=0) rfl
 have f1:=ho.cell (i:=1) rfl
 have f2:=ho.cell (i:=2) rfl
 refine bodyPost_ret (by simp[results,Tryz.results48,go_sem,f0,f1,f2]; try rfl) rfl ?_
 have HB:=B7 _ (by omega) B
 exact⟨_,rfl,⟨_,_,rfl,hN _ _ _ _ (FL _ _ _ (Nat.zero_le _)),hN _ _ _ _ h3⟩,HB⟩
theorem IE (w:World) (neg:Bool) (v1 v2:Value) (n d:Nat) (h1:bt .u32 ah w v1 n) (h2:bt .u32 ah w v2 d) (hn:0<n) (hd:0<d) {j:Nat} (hj:Bd j n) (hk:Bd j d) (cM:j<=10000000) (Gu:n.gcd d=1):Calls Tryz.prog 48 #[.bool neg,v1,v2] w (iz w (dm neg n d)):=by
 obtain⟨A1,c1,rfl,hr1⟩:=id h1
 obtain⟨A2,c2,rfl,hr2⟩:=id h2
 have hl:(((ae ah n).length:Int)==0)=false:=beq_eq_false_iff_ne.2 (by have:=(av (n:=n) aj).2 hn; omega)
 have hlen:=hr1.len
 obtain⟨g,hg⟩:∃g,g=n.gcd d:=⟨_,rfl⟩
 obtain⟨q,hq⟩:∃q,q=dm neg n d:=⟨_,rfl⟩
 have hg0:0<g:=by rw[hg]; exact Nat.gcd_pos_of_pos_left _ hn
 have q1:=jP (neg:=neg) (n:=n) hd
 have q2:=qg (neg:=neg) (n:=n) hd
 have q3:=uH (neg:=neg) hd hn
 rw[<-hq,<-hg]at q1 q2
 rw[<-hq]at q3
 rw[<-hq]
 have HQ:=bx (And.intro q1 (And.intro q2 q3))
 have HJ:=bx (And.intro hj hk)
 have HG:=bx hg
 have Nn:=bx hg0
 have HC:∀w v,Calls Tryz.prog 83 #[.slice A1 (ae ah n).length c1,.slice A2 (ae ah d).length c2] w v->True:=λ_ _ _=>trivial
 clear HC q1 q2 q3 hq hg hn hr1 hr2 hg0
 have hc:bp g 1=0:=by rw[HG.out,Gu]; rfl
 have HC:=bx hc
 have H1:=bx Gu
 clear hc Gu hj hk
 go_enter Tryz.func48,Tryz.ntmps48
 go_wp2_with fail
 obtain⟨w1,e1,oR,b1,s1⟩:=dP w [.bool false,.slice none 0 0,.slice none 0 0] 38
 rw[e1]
 clear e1
 replace h1:=h1.below b1
 replace h2:=h2.below b1
 have B:=b1
 clear b1
 refine Calls.mono (rf _ _ _ n d h1 h2 HJ.out.1 HJ.out.2 cM) ?_
 rintro e w2 ⟨vg,rfl,hg,b2⟩
 replace h1:=h1.below b2
 replace h2:=h2.below b2
 replace oR:=oR.gone b2
 replace B:=B.trans (b2.mono B.size)
 clear b2
 rw[<-HG.out]at hg
 go_wp2_with fail
 refine Calls.mono (fL _ 1 (by unfold b64; omega)) ?_
 rintro e w3 ⟨vo,rfl,ho,b3⟩
 replace h1:=h1.below b3
 replace h2:=h2.below b3
 replace oR:=oR.gone b3
 replace hg:=hg.below b3
 replace B:=B.trans (b3.mono B.size)
 clear b3
 go_wp2_with fail
 have hc:=fk _ _ _ g 1 hg ho
 rw[HC.out]at hc
 refine Calls.mono (hc) ?_
 rintro e w4 ⟨rfl,b4⟩
 replace h1:=h1.below b4
 replace h2:=h2.below b4
 replace oR:=oR.gone b4
 replace hg:=hg.below b4
 replace ho:=ho.below b4
 replace B:=B.trans (b4.mono B.size)
 clear b4
 clear hc ho
 rw[HG.out,H1.out,Nat.div_one,Nat.div_one]at HQ
 have k1:=oR.cell (i:=0) rfl
 have k2:=oR.fz 0
 have k3:=oR.cell (i:=1) rfl
 have k4:=oR.fz 1
 have k5:=oR.cell (i:=2) rfl
 have k6:=oR.fz 2
 go_wp2
 obtain⟨wf,HW,ho,_,hN,B7,_⟩:=oR.put gb [.bool neg,.slice A1 (ae ah n).length c1,.slice A2 (ae ah d).length c2] rfl cq
 simp only[cF,Nat.reduceAdd]at HW
 (try rw[HW])
 (try simp only[Exit.inBlock,Exit.then])
 have f0:=ho.cell (i:=0) rfl
 have f1:=ho.cell (i:=1) rfl
 have f2:=ho.cell (i:=2) rfl
 refine bodyPost_ret (by simp[results,Tryz.results48,go_sem,f0,f1,f2]; try rfl) rfl ?_
 have HB:=B7 _ (by omega) B
 exact⟨_,rfl,⟨_,_,by rw[HQ.out.2.2],by rw[HQ.out.1]; exact hN _ _ _ _ h1,by rw[HQ.out.2.1]; exact hN _ _ _ _ h2⟩,HB⟩
theorem FA (w:World) (neg:Bool) (v1 v2:Value) (n d:Nat) (h1:bt .u32 ah w v1 n) (h2:bt .u32 ah w v2 d) (hn:0<n) (hd:0<d) {j:Nat} (hj:Bd j n) (hk:Bd j d) (cM:j<=10000000) (Gu:n.gcd d≠1):Calls Tryz.prog 48 #[.bool neg,v1,v2] w (iz w (dm neg n d)):=by
 obtain⟨A1,c1,rfl,hr1⟩:=id h1
 obtain⟨A2,c2,rfl,hr2⟩:=id h2
 have hl:(((ae ah n).length:Int)==0)=false:=beq_eq_false_iff_ne.2 (by have:=(av (n:=n) aj).2 hn; omega)
 have hlen:=hr1.len
 obtain⟨g,hg⟩:∃g,g=n.gcd d:=⟨_,rfl⟩
 obtain⟨q,hq⟩:∃q,q=dm neg n d:=⟨_,rfl⟩
 have hg0:0<g:=by rw[hg]; exact Nat.gcd_pos_of_pos_left _ hn
 have q1:=jP (neg:=neg) (n:=n) hd
 have q2:=qg (neg:=neg) (n:=n) hd
 have q3:=uH (neg:=neg) hd hn
 rw[<-hq,<-hg]at q1 q2
 rw[<-hq]at q3
 rw[<-hq]
 have HQ:=bx (And.intro q1 (And.intro q2 q3))
 have HJ:=bx (And.intro hj hk)
 have HG:=bx hg
 have Nn:=bx hg0
 have HC:∀w v,Calls Tryz.prog 83 #[.slice A1 (ae ah n).length c1,.slice A2 (ae ah d).length c2] w v->True:=λ_ _ _=>trivial
 clear HC q1 q2 q3 hq hg hn hr1 hr2 hg0
 have hc:bp g 1=1:=by unfold bp; have:=Nn.out; have:=HG.out; rw[if_neg (by omega),if_pos (by omega)]
 have HC:=bx hc
 have H1:=bx Gu
 clear hc Gu hj hk
 go_enter Tryz.func48,Tryz.ntmps48
 go_wp2_with fail
 obtain⟨w1,e1,oR,b1,s1⟩:=dP w [.bool false,.slice none 0 0,.slice none 0 0] 38
 rw[e1]
 clear e1
 replace h1:=h1.below b1
 replace h2:=h2.below b1
 have B:=b1
 clear b1
 refine Calls.mono (rf _ _ _ n d h1 h2 HJ.out.1 HJ.out.2 cM) ?_
 rintro e w2 ⟨vg,rfl,hg,b2⟩
 replace h1:=h1.below b2
 replace h2:=h2.below b2
 replace oR:=oR.gone b2
 replace B:=B.trans (b2.mono B.size)
 clear b2
 rw[<-HG.out]at hg
 go_wp2_with fail
 refine Calls.mono (fL _ 1 (by unfold b64; omega)) ?_
 rintro e w3 ⟨vo,rfl,ho,b3⟩
 replace h1:=h1.below b3
 replace h2:=h2.below b3
 replace oR:=oR.gone b3
 replace hg:=hg.below b3
 replace B:=B.trans (b3.mono B.size)
 clear b3
 go_wp2_with fail
 have hc:=fk _ _ _ g 1 hg ho
 rw[HC.out]at hc
 refine Calls.mono (hc) ?_
 rintro e w4 ⟨rfl,b4⟩
 replace h1:=h1.below b4
 replace h2:=h2.below b4
 replace oR:=oR.gone b4
 replace hg:=hg.below b4
 replace ho:=ho.below b4
 replace B:=B.trans (b4.mono B.size)
 clear b4
 clear hc ho
 go_wp2_with fail
 refine Calls.mono (lP _ _ _ n g h1 hg Nn.out HJ.out.1 (HG.out▸HJ.out.2.le (Nat.gcd_le_right _ hd)) cM) ?_
 rintro e w5 ⟨vq,vr,rfl,hq,_,b5⟩
 replace h1:=h1.below b5
 replace h2:=h2.below b5
 replace oR:=oR.gone b5
 replace hg:=hg.below b5
 replace B:=B.trans (b5.mono B.size)
 clear b5
 go_wp2_with fail
 refine Calls.mono (lP _ _ _ d g h2 hg Nn.out HJ.out.2 (HG.out▸HJ.out.2.le (Nat.gcd_le_right _ hd)) cM) ?_
 rintro e w6 ⟨vp,vs,rfl,hp,_,b6⟩
 replace h1:=h1.below b6
 replace h2:=h2.below b6
 replace oR:=oR.gone b6
 replace hg:=hg.below b6
 replace hq:=hq.below b6
 replace B:=B.trans (b6.mono B.size)
 clear b6
 obtain⟨A3,c3,rfl,_⟩:=id hq
 obtain⟨A4,c4,rfl,_⟩:=id hp
 have k1:=oR.cell (i:=0) rfl
 have k2:=oR.fz 0
 have k3:=oR.cell (i:=1) rfl
 have k4:=oR.fz 1
 have k5:=oR.cell (i:=2) rfl
 have k6:=oR.fz 2
 go_wp2
 obtain⟨wf,HW,ho,_,hN,B7,_⟩:=oR.put gb [.bool neg,.slice A3 (ae ah (n/g)).length c3,.slice A4 (ae ah (d/g)).length c4] rfl cq
 simp only[cF,Nat.reduceAdd]at HW
 (try rw[HW])
 (try simp only[Exit.inBlock,Exit.then])
 have f0:=ho.cell (i:=0) rfl
 have f1:=ho.cell (i:=1) rfl
 have f2:=ho.cell (i:=2) rfl
 refine bodyPost_ret (by simp[results,Tryz.results48,go_sem,f0,f1,f2]; try rfl) rfl ?_
 have HB:=B7 _ (by omega) B
 exact⟨_,rfl,⟨_,_,by rw[HQ.out.2.2],by rw[HQ.out.1]; exact hN _ _ _ _ hq,by rw[HQ.out.2.1]; exact hN _ _ _ _ hp⟩,HB⟩
theorem mQ (w:World) (neg:Bool) (v1 v2:Value) (n d:Nat) (h1:bt .u32 ah w v1 n) (h2:bt .u32 ah w v2 d) (hd:0<d) {j:Nat} (hj:Bd j n) (hk:Bd j d) (cM:j<=10000000):Calls Tryz.prog 48 #[.bool neg,v1,v2] w (iz w (dm neg n d)):=by
 rcases Nat.eq_zero_or_pos n with rfl|hn
 ·rw[xu]; exact FB w neg v1 v2 h1
 ·by_cases h:n.gcd d=1
  ·exact IE w neg v1 v2 n d h1 h2 hn hd hj hk cM h
  ·exact FA w neg v1 v2 n d h1 h2 hn hd hj hk cM h
end Wx

namespace Wx
open Go Go.RowKit Go.Proofs
def aS (q:Rat):Pred:=λw v=>cB w v q
theorem eD (q:Rat):au (aS q):=by
 rintro M w v hM ⟨vn,vd,rfl,h1,h2⟩ w' he
 exact⟨vn,vd,rfl,nK hM (.inr rfl) h1 w' he,nK hM (.inr rfl) h2 w' he⟩
theorem cg (q:Rat):Fits 3 true (aS q):=by
 rintro w v ⟨vn,vd,rfl,h1,h2⟩
 obtain⟨A,c,rfl,_⟩:=h1
 obtain⟨B,d,rfl,_⟩:=h2
 refine⟨[_,_,_],rfl,rfl,rfl,?_⟩
 intro u hu
 simp at hu
 rcases hu with rfl|rfl|rfl
 ·exact⟨uh _,rfl⟩
 ·exact⟨fZ _ _ _,rfl⟩
 ·exact⟨fZ _ _ _,rfl⟩
theorem sK {x y:Rat} (h:x=y):∀w v,aS x w v->aS y w v:=λ_ _ k=>h▸k
def fB (a b:Rat):Pred:=pS [⟨true,3,aS a⟩,⟨true,3,aS b⟩]
theorem jf (a b:Rat):Fits 6 true (fB a b):=jZ (fs:=[⟨true,3,aS a⟩,⟨true,3,aS b⟩]) ⟨cg a,cg b,trivial⟩ rfl
def aN (n:Nat):Pred:=λw v=>bt .u32 ah w v n
theorem cJ (n:Nat):au (aN n):=λ_ _ _ hM h=>nK hM (.inr rfl) h
theorem wL (n:Nat):Fits 1 false (aN n):=by
 rintro w v ⟨A,c,rfl,_⟩
 refine⟨[_],rfl,rfl,rfl,?_⟩
 intro u hu
 simp at hu
 subst hu
 exact⟨fZ _ _ _,rfl⟩
def bU (q:Rat):List Fd:=[⟨false,1,pB (decide (q.num<0))⟩,⟨false,1,aN q.num.natAbs⟩,⟨false,1,aN q.den⟩]
theorem Na (q:Rat):∀w v,aS q w v->pS (bU q) w v:=by
 rintro w v ⟨vn,vd,rfl,h1,h2⟩
 exact Jh (cs:=[.bool (decide (q.num<0)),vn,vd]) ⟨by simp,rfl,by simp,h1,by simp,h2,rfl⟩
theorem Dd (q:Rat):∀w v,pS (bU q) w v->aS q w v:=by
 rintro w v ⟨cs,rfl,hc⟩
 have hl:=gK hc
 match cs,hl,hc with
 |[x,y,z],_,hc=>
  obtain⟨_,h1,_,h2,_,h3,_⟩:=hc
  have e1:x=.bool (decide (q.num<0)):=h1
  subst e1
  exact⟨y,z,rfl,h2,h3⟩
theorem wO (q:Rat):Fits 3 true (pS (bU q)):=jZ (fs:=bU q) ⟨fits_bool _,wL _,wL _,trivial⟩ rfl
end Wx

namespace Wx
open Go Go.RowKit
section
variable {P:Program} {ops:Array Oper} {ms:List Nat} {c:dS} {V:List Vr} {A:List Al} {G:List bf} {i:Nat} {L:Nat->Bool} {β:Nat->Nat->Prop} {a:Act} {w:World} {o:Oper}{d:Nat} {x y z:Operand} {ty:TypeId} {pos:String} {aJ:Array Edge}
theorem bq.yQ (h:bq c V A G L β a w) (hd:nw ms i L) (hwf:lZ c.N ops V A G i o) {y:Vr} (hy:y∈V) (gI:y.born=some i) (hst:fh o.op=false) (KT:iD o.op=false) (fo:(A.all λp=>p.var != y.id||p.tag.any λj=>(ms.getD j 0).testBit i)=true)
  {v':Value} {w':World} {B':Nat->Prop} (e0:w'.os=w.os/\w'.tape=w.tape/\w'.output=w.output/\w.heap.size<=w'.heap.size)
  (e1:∀k,k<c.w0.heap.size->¬c.iQ k->w'.heap[k]?=w.heap[k]?)
  (e2:∀z,z∈V->live L z=true->z.dead≠some i->∀k,β z.id k->w'.heap[k]?=w.heap[k]?/\¬B' k)
  (e3:Ext (own c V L β) w w') (e4:∀z,z∈V->live L z=true->z.dead≠some i->Ext (minus (own c V L β) (β z.id)) w w')
  (e5:∀k j,k<w.heap.size->B' k->y.lo<=j->own c V L β k j)
  (Ye:∀β',β' y.id=B'->(∀k j,k<w.heap.size->own c V (upd L i) β' k j->own c V L β k j)->(∀k j,own c V (upd L i) β' k j->(B' k/\y.lo<=j)\/c.M0 k j\/∃z,z∈V/\live L z=true/\z.dead≠some i/\β z.id k)->mz (own c V (upd L i) β') c (upd L i) β' (a.put o.dst v') w' y)
  (hG:∀β',β' y.id=B'->(∀k j,k<w.heap.size->own c V (upd L i) β' k j->own c V L β k j)->(∀k j,own c V (upd L i) β' k j->(B' k/\y.lo<=j)\/c.M0 k j\/∃z,z∈V/\live L z=true/\z.dead≠some i/\β z.id k)->∀e,e∈G->e.tag=some i->aP (own c V (upd L i) β') (λw=>e.p w v') w'):
  Inv c V A G (upd L i) (a.put o.dst v') w':=by
 have oC:=hwf.v2 y hy gI
 have nV:∀z,z∈V->z.id≠y.id->z.born≠some i:=λz hz hne hb=>hne (by rw[hwf.vo z y hz hy hb gI])
 -- who Xd on
 have lv:∀z,z∈V->z.id≠y.id->live (upd L i) z=true->live L z=true/\z.dead≠some i:=by
  intro z hz hne hl
  unfold live at hl ⊢
  rw[dI (nV z hz hne),Bool.and_eq_true]at hl
  obtain⟨h1,h2⟩:=nM hl.2
  exact⟨by rw[hl.1,h1]; rfl,h2⟩
 have nS:∀z,z∈V->z.id≠y.id->z.dead≠some i->o.dst≠some z.slot:=λz hz hne Ai hd'=>(hwf.v1 z hz hd').elim (nV z hz hne) Ai
 have Er:∀z,z∈V->∀q,q∈z.st->q.1≠i:=λz hz q hq Rh=>by have:=hwf.vs z hz q hq Rh; rw[hst]at this; cases this
 let β':Nat->Nat->Prop:=λs=>if s=y.id then B' else β s
 have hβ:∀z,z∈V->z.id≠y.id->β' z.id=β z.id:=λz _ hne=>if_neg hne
 have PC:β' y.id=B':=if_pos rfl
 have iV:∀k j,k<w.heap.size->own c V (upd L i) β' k j->own c V L β k j:=by
  rintro k j hk (h1|⟨z,hz,h1,h2,h3⟩)
  ·exact .inl h1
  ·by_cases Ar:z.id=y.id
   ·have:=hwf.vu z y hz hy Ar
    subst this
    rw[PC]at h2
    exact e5 k j hk h2 h3
   ·rw[hβ z hz Ar]at h2
    exact .inr ⟨z,hz,(lv z hz Ar h1).1,h2,h3⟩
 have RR:∀k j,own c V (upd L i) β' k j->(B' k/\y.lo<=j)\/c.M0 k j\/∃z,z∈V/\live L z=true/\z.dead≠some i/\β z.id k:=by
  rintro k j (h1|⟨z,hz,h1,h2,h3⟩)
  ·exact .inr (.inl h1)
  ·by_cases Ar:z.id=y.id
   ·have:=hwf.vu z y hz hy Ar
    subst this
    rw[PC]at h2
    exact .inl ⟨h2,h3⟩
   ·rw[hβ z hz Ar]at h2
    obtain⟨k1,k2⟩:=lv z hz Ar h1
    exact .inr (.inr ⟨z,hz,k1,k2,h2⟩)
 have lift:∀F:World->Prop,aP (own c V L β) F w->aP (own c V (upd L i) β') F w':=λF hF w'' he=>by
  refine hF w'' ⟨Nat.le_trans e0.2.2.2 he.size,λk hk hno=>?_,λk j v hno hv=>?_⟩
  ·rw[he.block k (Nat.lt_of_lt_of_le hk e0.2.2.2) λj h'=>hno j (iV k j hk h')]
   exact e3.block k hk hno
  ·have hk:=World.block_lt_of_cell? w _ hv
   exact he.cell k j v (λh'=>hno (iV k j hk h')) (e3.cell k j v hno hv)
 have IC:∀z,z∈V->live L z=true->z.dead≠some i->∀F:World->Prop,aP (minus (own c V L β) (β z.id)) F w->aP (minus (own c V (upd L i) β') (β z.id)) F w':=λz hz hl Ai F hF w'' he=>by
  have e:=e4 z hz hl Ai
  refine hF w'' ⟨Nat.le_trans e0.2.2.2 he.size,λk hk hno=>?_,λk j v hno hv=>?_⟩
  ·rw[he.block k (Nat.lt_of_lt_of_le hk e0.2.2.2) λj h'=>hno j ⟨iV k j hk h'.1,h'.2⟩]
   exact e.block k hk hno
  ·have hk:=World.block_lt_of_cell? w _ hv
   exact he.cell k j v (λh'=>hno ⟨iV k j hk h'.1,h'.2⟩) (e.cell k j v hno hv)
 refine⟨β',by rw[kP]; exact h.size,by rw[put_defers]; exact h.defers,⟨e0.1.trans h.below.os,e0.2.1.trans h.below.tape,e0.2.2.1.trans h.below.output,Nat.le_trans h.below.size e0.2.2.2,λk hk hn=>(e1 k hk hn).trans (h.below.block k hk hn)⟩,h.uo e1,?_,?_,?_,?_⟩
 ·intro z hz hl
  by_cases Ar:z.id=y.id
  ·have:=hwf.vu z y hz hy Ar
   subst this
   exact Ye β' PC iV RR
  ·obtain⟨hl,Ai⟩:=lv z hz Ar hl
   exact(h.var z hz hl).keep (cR (nS z hz Ar Ai)) (hβ z hz Ar) (λg hg=>(e2 z hz hl Ai g hg).1) e0.2.2.2 lift (IC z hz hl Ai) (mB (Er z hz))
 ·intro z z' g hz KY h1 h2 hne
  by_cases Ar:z.id=y.id
  ·have Fi:z'.id≠y.id:=λe=>hne (Ar.trans e.symm)
   obtain⟨h2,Og⟩:=lv z' KY Fi h2
   rw[Ar,PC,hβ z' KY Fi]
   exactλk1 k2=>(e2 z' KY h2 Og g k2).2 k1
  ·obtain⟨h1,vm⟩:=lv z hz Ar h1
   rw[hβ z hz Ar]
   by_cases Fi:z'.id=y.id
   ·rw[Fi,PC]
    exactλk1 k2=>(e2 z hz h1 vm g k1).2 k2
   ·rw[hβ z' KY Fi]
    exact h.apart z z' g hz KY h1 (lv z' KY Fi h2).1 hne
 ·intro p hp hl hcd
  have hpt:p.tag≠some i:=λe=>by have:=hwf.aa p hp e; rw[KT]at this; cases this
  rw[dI hpt]at hl
  obtain⟨g,hg,hp1⟩:=h.al p hp hl hcd
  rw[cR λe=>hpt (hwf.a1 p hp e),hp1]
  have hne:p.var≠y.id:=by
   intro e
   rw[List.all_eq_true]at fo
   have h1:=fo p hp
   rw[e]at h1
   simp only[bne_self_eq_false,Bool.false_or]at h1
   cases ht:p.tag with
   |none=>rw[ht]at h1; simp at h1
   |some j=>
    rw[ht]at h1 hl
    have:=hd.behind j (by simpa using h1)
    simp only[on,this]at hl
    cases hl
  exact⟨g,by simpa [β',hne] using hg,rfl⟩
 ·intro e he hl hf
  obtain⟨hf,MD⟩:=nM hf
  by_cases ht:e.tag=some i
  ·have hd':=hwf.g2 e he ht
   rw[hd',iG (by rw[h.size]; exact hwf.sz _ hd')]
   exact hG β' PC iV RR e he ht
  ·rw[dI ht]at hl
   rw[cR λhd'=>(hwf.g1 e he hd').elim ht MD]
   exact lift _ (h.ku e he hl hf)
end
end Wx
