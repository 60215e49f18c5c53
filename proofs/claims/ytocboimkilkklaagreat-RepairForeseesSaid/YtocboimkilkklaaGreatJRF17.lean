import Derived.Test.YtocboimkilkklaaGreatJRF16
import Derived.Deep.AppendSrc
import Derived.Deep.Upon
namespace Wx
set_option maxRecDepth 100000
set_option maxHeartbeats 1000000
open Go Go.RowKit Go.Proofs
def cH (w:World) (v:Value) (q:Rat):Prop:=∃vn vd,v=.agg #[.bool (decide (q.num<0)),vn,vd]/\bq .u32 af w vn q.num.natAbs/\bq .u32 af w vd q.den
def eD (w:World) (q:Rat) (e:Ending) (w':World):Prop:=∃v,e=.returned v/\cH w' v q/\Below w.heap.size w w'
variable {w w':World} {v:Value} {q:Rat}
theorem cH.below (h:cH w v q) (hb:Below w.heap.size w w'):cH w' v q:=by
 obtain⟨vn,vd,rfl,h1,h2⟩:=h
 exact⟨vn,vd,rfl,h1.below hb,h2.below hb⟩
theorem cH.into (h:cH w v q) (hn:∀(kd:IntKind) (b:Nat) (v:Value) (m:Nat),bq kd b w v m->bq kd b w' v m):cH w' v q:=by
 obtain⟨vn,vd,rfl,h1,h2⟩:=h
 exact⟨vn,vd,rfl,hn _ _ _ _ h1,hn _ _ _ _ h2⟩
theorem cH.drew (h:cH w v q):cH w.drew v q:=by
 obtain⟨vn,vd,rfl,h1,h2⟩:=h
 exact⟨vn,vd,rfl,h1,h2⟩
theorem AJ {p:Rat} (h:cH w v p) (e:q=p):cH w v q:=e▸h
theorem cN (w:World) (v:Value) (x:Rat) (hx:cH w v x):Calls Tryz.prog 50 #[v] w (eW .u32 af w x.den):=by
 obtain⟨oz,oA,rfl,cw,cT⟩:=id hx
 obtain⟨aV,aX,rfl,_⟩:=id cw
 obtain⟨aW,aY,rfl,_⟩:=id cT
 have hl:(((ae af x.den).length:Int)==0)=false:=beq_eq_false_iff_ne.2 (by have:=(az (n:=x.den) ak).2 x.den_pos; omega)
 have Vy:=cT
 generalize (ae af x.den).length=L2 at *
 go_enter Tryz.func50,Tryz.ntmps50
 go_wp2_with fail
 go_ret
 exact⟨_,rfl,Vy.below (Below.alloc (Below.refl _ _) (Nat.le_refl _) _),Below.alloc (Below.refl _ _) (Nat.le_refl _) _⟩
theorem F9 (w:World) (A:Option Addr) (c:Nat) (hc:c<=maxLen):bq .u32 af w (.slice A 0 c) 0:=by
 have:=bq.of (k:=.u32) (b:=af) (w:=w) (A:=A) (n:=0) (c:=c) ak (l:=[]) ⟨Nat.zero_le _,hc,λh=>absurd rfl h⟩ rfl (Wf.nil _) pE.nil
 simpa [val] using this
theorem FR (w:World) (neg:Bool) (v1 v2:Value) (h1:bq .u32 af w v1 0):Calls Tryz.prog 48 #[.bool neg,v1,v2] w (eD w 0):=by
 obtain⟨A,c,rfl,hr⟩:=id h1
 rw[bE]
 clear hr
 go_enter Tryz.func48,Tryz.ntmps48
 go_wp2_with fail
 obtain⟨w1,e1,oR,b1,s1⟩:=dy w [.bool false,.slice none 0 0,.slice none 0 0] 38
 rw[e1]
 clear e1
 replace h1:=h1.below b1
 have B:=b1
 clear b1
 obtain⟨w2,e2,oE,b2,s2⟩:=dy w1 [] 128
 rw[e2]
 rw[s1]at oE
 clear e2
 replace h1:=h1.below b2
 replace oR:=oR.gone b2
 replace B:=B.trans (b2.mono B.size)
 clear b2
 clear oE h1
 refine Calls.mono (dA _ 1 (by unfold b64; omega)) ?_
 rintro e w3 ⟨v3,rfl,h3,b3⟩
 replace oR:=oR.gone b3
 replace B:=B.trans (b3.mono B.size)
 clear b3
 obtain⟨A3,c3,rfl,_⟩:=id h3
 have k1:=oR.cell (i:=0) rfl
 have k2:=oR.fz 0
 have k3:=oR.cell (i:=1) rfl
 have k4:=oR.fz 1
 have k5:=oR.cell (i:=2) rfl
 have k6:=oR.fz 2
 go_wp2
 obtain⟨wf,HW,ho,_,hN,yG,_⟩:=oR.put fA [.bool false,.slice (some ⟨w.heap.size+1,0,none⟩) 0 0,.slice A3 (ae af 1).length c3] rfl bP
 simp only[ct,Nat.reduceAdd]at HW
 (try rw[HW])
 (try simp only[Exit.inBlock,Exit.then])
 have f0:=ho.cell (i:=0) rfl
 have f1:=ho.cell (i:=1) rfl
 have f2:=ho.cell (i:=2) rfl
 refine bodyPost_ret (by simp[results,Tryz.results48,go_sem,f0,f1,f2]; try rfl) rfl ?_
 have HB:=yG _ (by omega) B
 exact⟨_,rfl,⟨_,_,rfl,hN _ _ _ _ (F9 _ _ _ (Nat.zero_le _)),hN _ _ _ _ h3⟩,HB⟩
theorem Ja (w:World) (neg:Bool) (v1 v2:Value) (n d:Nat) (h1:bq .u32 af w v1 n) (h2:bq .u32 af w v2 d) (hn:0<n) (hd:0<d) {j:Nat} (hj:Bd j n) (hk:Bd j d) (de:j<=10000000) (GL:n.gcd d=1):Calls Tryz.prog 48 #[.bool neg,v1,v2] w (eD w (cL neg n d)):=by
 obtain⟨A1,c1,rfl,hr1⟩:=id h1
 obtain⟨A2,c2,rfl,hr2⟩:=id h2
 have hl:(((ae af n).length:Int)==0)=false:=beq_eq_false_iff_ne.2 (by have:=(az (n:=n) ak).2 hn; omega)
 have hlen:=hr1.len
 obtain⟨g,hg⟩:∃g,g=n.gcd d:=⟨_,rfl⟩
 obtain⟨q,hq⟩:∃q,q=cL neg n d:=⟨_,rfl⟩
 have hg0:0<g:=by rw[hg]; exact Nat.gcd_pos_of_pos_left _ hn
 have q1:=jZ (neg:=neg) (n:=n) hd
 have q2:=qA (neg:=neg) (n:=n) hd
 have q3:=uY (neg:=neg) hd hn
 rw[<-hq,<-hg]at q1 q2
 rw[<-hq]at q3
 rw[<-hq]
 have HQ:=bx (And.intro q1 (And.intro q2 q3))
 have HJ:=bx (And.intro hj hk)
 have HG:=bx hg
 have NL:=bx hg0
 have HC:∀w v,Calls Tryz.prog 83 #[.slice A1 (ae af n).length c1,.slice A2 (ae af d).length c2] w v->True:=λ_ _ _=>trivial
 clear HC q1 q2 q3 hq hg hn hr1 hr2 hg0
 have hc:bK g 1=0:=by rw[HG.out,GL]; rfl
 have HC:=bx hc
 have H1:=bx GL
 clear hc GL hj hk
 go_enter Tryz.func48,Tryz.ntmps48
 go_wp2_with fail
 obtain⟨w1,e1,oR,b1,s1⟩:=dy w [.bool false,.slice none 0 0,.slice none 0 0] 38
 rw[e1]
 clear e1
 replace h1:=h1.below b1
 replace h2:=h2.below b1
 have B:=b1
 clear b1
 refine Calls.mono (rP _ _ _ n d h1 h2 HJ.out.1 HJ.out.2 de) ?_
 rintro e w2 ⟨vg,rfl,hg,b2⟩
 replace h1:=h1.below b2
 replace h2:=h2.below b2
 replace oR:=oR.gone b2
 replace B:=B.trans (b2.mono B.size)
 clear b2
 rw[<-HG.out]at hg
 go_wp2_with fail
 refine Calls.mono (dA _ 1 (by unfold b64; omega)) ?_
 rintro e w3 ⟨vo,rfl,ho,b3⟩
 replace h1:=h1.below b3
 replace h2:=h2.below b3
 replace oR:=oR.gone b3
 replace hg:=hg.below b3
 replace B:=B.trans (b3.mono B.size)
 clear b3
 go_wp2_with fail
 have hc:=fU _ _ _ g 1 hg ho
 rw[HC.out]at hc
 refine Calls.mono (hc) ?_
 rintro e w4 ⟨rfl,b4⟩
 replace h1:=h1.below b4
 replace h2:=h2.below b4
 replace oR:=oR.gone b4
 replace hg:=hg.below b4
 replace ho:=ho.below b4
 replace B:=B.trans (b4.mono B.size)
 clear b4
 clear hc ho
 rw[HG.out,H1.out,Nat.div_one,Nat.div_one]at HQ
 have k1:=oR.cell (i:=0) rfl
 have k2:=oR.fz 0
 have k3:=oR.cell (i:=1) rfl
 have k4:=oR.fz 1
 have k5:=oR.cell (i:=2) rfl
 have k6:=oR.fz 2
 go_wp2
 obtain⟨wf,HW,ho,_,hN,yG,_⟩:=oR.put fA [.bool neg,.slice A1 (ae af n).length c1,.slice A2 (ae af d).length c2] rfl bP
 simp only[ct,Nat.reduceAdd]at HW
 (try rw[HW])
 (try simp only[Exit.inBlock,Exit.then])
 have f0:=ho.cell (i:=0) rfl
 have f1:=ho.cell (i:=1) rfl
 have f2:=ho.cell (i:=2) rfl
 refine bodyPost_ret (by simp[results,Tryz.results48,go_sem,f0,f1,f2]; try rfl) rfl ?_
 have HB:=yG _ (by omega) B
 exact⟨_,rfl,⟨_,_,by rw[HQ.out.2.2],by rw[HQ.out.1]; exact hN _ _ _ _ h1,by rw[HQ.out.2.1]; exact hN _ _ _ _ h2⟩,HB⟩
theorem FQ (w:World) (neg:Bool) (v1 v2:Value) (n d:Nat) (h1:bq .u32 af w v1 n) (h2:bq .u32 af w v2 d) (hn:0<n) (hd:0<d) {j:Nat} (hj:Bd j n) (hk:Bd j d) (de:j<=10000000) (GL:n.gcd d≠1):Calls Tryz.prog 48 #[.bool neg,v1,v2] w (eD w (cL neg n d)):=by
 obtain⟨A1,c1,rfl,hr1⟩:=id h1
 obtain⟨A2,c2,rfl,hr2⟩:=id h2
 have hl:(((ae af n).length:Int)==0)=false:=beq_eq_false_iff_ne.2 (by have:=(az (n:=n) ak).2 hn; omega)
 have hlen:=hr1.len
 obtain⟨g,hg⟩:∃g,g=n.gcd d:=⟨_,rfl⟩
 obtain⟨q,hq⟩:∃q,q=cL neg n d:=⟨_,rfl⟩
 have hg0:0<g:=by rw[hg]; exact Nat.gcd_pos_of_pos_left _ hn
 have q1:=jZ (neg:=neg) (n:=n) hd
 have q2:=qA (neg:=neg) (n:=n) hd
 have q3:=uY (neg:=neg) hd hn
 rw[<-hq,<-hg]at q1 q2
 rw[<-hq]at q3
 rw[<-hq]
 have HQ:=bx (And.intro q1 (And.intro q2 q3))
 have HJ:=bx (And.intro hj hk)
 have HG:=bx hg
 have NL:=bx hg0
 have HC:∀w v,Calls Tryz.prog 83 #[.slice A1 (ae af n).length c1,.slice A2 (ae af d).length c2] w v->True:=λ_ _ _=>trivial
 clear HC q1 q2 q3 hq hg hn hr1 hr2 hg0
 have hc:bK g 1=1:=by unfold bK; have:=NL.out; have:=HG.out; rw[if_neg (by omega),if_pos (by omega)]
 have HC:=bx hc
 have H1:=bx GL
 clear hc GL hj hk
 go_enter Tryz.func48,Tryz.ntmps48
 go_wp2_with fail
 obtain⟨w1,e1,oR,b1,s1⟩:=dy w [.bool false,.slice none 0 0,.slice none 0 0] 38
 rw[e1]
 clear e1
 replace h1:=h1.below b1
 replace h2:=h2.below b1
 have B:=b1
 clear b1
 refine Calls.mono (rP _ _ _ n d h1 h2 HJ.out.1 HJ.out.2 de) ?_
 rintro e w2 ⟨vg,rfl,hg,b2⟩
 replace h1:=h1.below b2
 replace h2:=h2.below b2
 replace oR:=oR.gone b2
 replace B:=B.trans (b2.mono B.size)
 clear b2
 rw[<-HG.out]at hg
 go_wp2_with fail
 refine Calls.mono (dA _ 1 (by unfold b64; omega)) ?_
 rintro e w3 ⟨vo,rfl,ho,b3⟩
 replace h1:=h1.below b3
 replace h2:=h2.below b3
 replace oR:=oR.gone b3
 replace hg:=hg.below b3
 replace B:=B.trans (b3.mono B.size)
 clear b3
 go_wp2_with fail
 have hc:=fU _ _ _ g 1 hg ho
 rw[HC.out]at hc
 refine Calls.mono (hc) ?_
 rintro e w4 ⟨rfl,b4⟩
 replace h1:=h1.below b4
 replace h2:=h2.below b4
 replace oR:=oR.gone b4
 replace hg:=hg.below b4
 replace ho:=ho.below b4
 replace B:=B.trans (b4.mono B.size)
 clear b4
 clear hc ho
 go_wp2_with fail
 refine Calls.mono (fZ _ _ _ n g h1 hg NL.out HJ.out.1 (HG.out▸HJ.out.2.le (Nat.gcd_le_right _ hd)) de) ?_
 rintro e w5 ⟨vq,vr,rfl,hq,_,b5⟩
 replace h1:=h1.below b5
 replace h2:=h2.below b5
 replace oR:=oR.gone b5
 replace hg:=hg.below b5
 replace B:=B.trans (b5.mono B.size)
 clear b5
 go_wp2_with fail
 refine Calls.mono (fZ _ _ _ d g h2 hg NL.out HJ.out.2 (HG.out▸HJ.out.2.le (Nat.gcd_le_right _ hd)) de) ?_
 rintro e w6 ⟨vp,vs,rfl,hp,_,b6⟩
 replace h1:=h1.below b6
 replace h2:=h2.below b6
 replace oR:=oR.gone b6
 replace hg:=hg.below b6
 replace hq:=hq.below b6
 replace B:=B.trans (b6.mono B.size)
 clear b6
 obtain⟨A3,c3,rfl,_⟩:=id hq
 obtain⟨A4,c4,rfl,_⟩:=id hp
 have k1:=oR.cell (i:=0) rfl
 have k2:=oR.fz 0
 have k3:=oR.cell (i:=1) rfl
 have k4:=oR.fz 1
 have k5:=oR.cell (i:=2) rfl
 have k6:=oR.fz 2
 go_wp2
 obtain⟨wf,HW,ho,_,hN,yG,_⟩:=oR.put fA [.bool neg,.slice A3 (ae af (n/g)).length c3,.slice A4 (ae af (d/g)).length c4] rfl bP
 simp only[ct,Nat.reduceAdd]at HW
 (try rw[HW])
 (try simp only[Exit.inBlock,Exit.then])
 have f0:=ho.cell (i:=0) rfl
 have f1:=ho.cell (i:=1) rfl
 have f2:=ho.cell (i:=2) rfl
 refine bodyPost_ret (by simp[results,Tryz.results48,go_sem,f0,f1,f2]; try rfl) rfl ?_
 have HB:=yG _ (by omega) B
 exact⟨_,rfl,⟨_,_,by rw[HQ.out.2.2],by rw[HQ.out.1]; exact hN _ _ _ _ hq,by rw[HQ.out.2.1]; exact hN _ _ _ _ hp⟩,HB⟩
theorem iz (w:World) (neg:Bool) (v1 v2:Value) (n d:Nat) (h1:bq .u32 af w v1 n) (h2:bq .u32 af w v2 d) (hd:0<d) {j:Nat} (hj:Bd j n) (hk:Bd j d) (de:j<=10000000):Calls Tryz.prog 48 #[.bool neg,v1,v2] w (eD w (cL neg n d)):=by
 rcases Nat.eq_zero_or_pos n with rfl|hn
 ·rw[xO]; exact FR w neg v1 v2 h1
 ·by_cases h:n.gcd d=1
  ·exact Ja w neg v1 v2 n d h1 h2 hn hd hj hk de h
  ·exact FQ w neg v1 v2 n d h1 h2 hn hd hj hk de h
end Wx

namespace Wx
open Go Go.RowKit Go.Proofs
def aR (q:Rat):Pred:=λw v=>cH w v q
theorem bk (q:Rat):aB (aR q):=by
 rintro M w v hM ⟨vn,vd,rfl,h1,h2⟩ w' he
 exact⟨vn,vd,rfl,nU hM (.inr rfl) h1 w' he,nU hM (.inr rfl) h2 w' he⟩
theorem bJ (q:Rat):Fits 3 true (aR q):=by
 rintro w v ⟨vn,vd,rfl,h1,h2⟩
 obtain⟨A,c,rfl,_⟩:=h1
 obtain⟨B,d,rfl,_⟩:=h2
 refine⟨[_,_,_],rfl,rfl,rfl,?_⟩
 intro u hu
 simp at hu
 rcases hu with rfl|rfl|rfl
 ·exact⟨uD _,rfl⟩
 ·exact⟨gH _ _ _,rfl⟩
 ·exact⟨gH _ _ _,rfl⟩
theorem td {x y:Rat} (h:x=y):∀w v,aR x w v->aR y w v:=λ_ _ k=>h▸k
def aO (a b:Rat):Pred:=pS [⟨true,3,aR a⟩,⟨true,3,aR b⟩]
theorem bH (a b:Rat):Fits 6 true (aO a b):=iO (fs:=[⟨true,3,aR a⟩,⟨true,3,aR b⟩]) ⟨bJ a,bJ b,trivial⟩ rfl
def aT (n:Nat):Pred:=λw v=>bq .u32 af w v n
theorem dg (n:Nat):aB (aT n):=λ_ _ _ hM h=>nU hM (.inr rfl) h
theorem xd (n:Nat):Fits 1 false (aT n):=by
 rintro w v ⟨A,c,rfl,_⟩
 refine⟨[_],rfl,rfl,rfl,?_⟩
 intro u hu
 simp at hu
 subst hu
 exact⟨gH _ _ _,rfl⟩
def cA (q:Rat):List Fd:=[⟨false,1,pB (decide (q.num<0))⟩,⟨false,1,aT q.num.natAbs⟩,⟨false,1,aT q.den⟩]
theorem Ny (q:Rat):∀w v,aR q w v->pS (cA q) w v:=by
 rintro w v ⟨vn,vd,rfl,h1,h2⟩
 exact JL (cs:=[.bool (decide (q.num<0)),vn,vd]) ⟨by simp,rfl,by simp,h1,by simp,h2,rfl⟩
theorem Dt (q:Rat):∀w v,pS (cA q) w v->aR q w v:=by
 rintro w v ⟨cs,rfl,hc⟩
 have hl:=gZ hc
 match cs,hl,hc with
 |[x,y,z],_,hc=>
  obtain⟨_,h1,_,h2,_,h3,_⟩:=hc
  have e1:x=.bool (decide (q.num<0)):=h1
  subst e1
  exact⟨y,z,rfl,h2,h3⟩
theorem xg (q:Rat):Fits 3 true (pS (cA q)):=iO (fs:=cA q) ⟨fits_bool _,xd _,xd _,trivial⟩ rfl
end Wx

namespace Wx
open Go Go.RowKit
section
variable {P:Program} {ops:Array Oper} {ms:List Nat} {c:eL} {V:List Vr} {A:List Al} {G:List bI} {i:Nat} {L:Nat->Bool} {β:Nat->Nat->Prop} {a:Act} {w:World} {o:Oper}{d:Nat} {x y z:Operand} {ty:TypeId} {pos:String} {aZ:Array Edge}
theorem bO.JU (h:bO c V A G L β a w) (hd:oB ms i L) (hwf:mC c.N ops V A G i o) {y:Vr} (hy:y∈V) (iJ:y.born=some i) (hst:gv o.op=false) (OV:jq o.op=false) (iI:(A.all λp=>p.var != y.id||p.tag.any λj=>(ms.getD j 0).testBit i)=true)
  {v':Value} {w':World} {B':Nat->Prop} (e0:w'.os=w.os/\w'.tape=w.tape/\w'.output=w.output/\w.heap.size<=w'.heap.size)
  (e1:∀k,k<c.w0.heap.size->¬c.jt k->w'.heap[k]?=w.heap[k]?)
  (e2:∀z,z∈V->live L z=true->z.dead≠some i->∀k,β z.id k->w'.heap[k]?=w.heap[k]?/\¬B' k)
  (e3:Ext (own c V L β) w w') (e4:∀z,z∈V->live L z=true->z.dead≠some i->Ext (minus (own c V L β) (β z.id)) w w')
  (e5:∀k j,k<w.heap.size->B' k->y.lo<=j->own c V L β k j)
  (Yx:∀β',β' y.id=B'->(∀k j,k<w.heap.size->own c V (upd L i) β' k j->own c V L β k j)->(∀k j,own c V (upd L i) β' k j->(B' k/\y.lo<=j)\/c.M0 k j\/∃z,z∈V/\live L z=true/\z.dead≠some i/\β z.id k)->mB (own c V (upd L i) β') c (upd L i) β' (a.put o.dst v') w' y)
  (hG:∀β',β' y.id=B'->(∀k j,k<w.heap.size->own c V (upd L i) β' k j->own c V L β k j)->(∀k j,own c V (upd L i) β' k j->(B' k/\y.lo<=j)\/c.M0 k j\/∃z,z∈V/\live L z=true/\z.dead≠some i/\β z.id k)->∀e,e∈G->e.tag=some i->aL (own c V (upd L i) β') (λw=>e.p w v') w'):
  Inv c V A G (upd L i) (a.put o.dst v') w':=by
 have yK:=hwf.v2 y hy iJ
 have nV:∀z,z∈V->z.id≠y.id->z.born≠some i:=λz hz hne hb=>hne (by rw[hwf.vo z y hz hy hb iJ])
 -- who Xt on
 have lv:∀z,z∈V->z.id≠y.id->live (upd L i) z=true->live L z=true/\z.dead≠some i:=by
  intro z hz hne hl
  unfold live at hl ⊢
  rw[dZ (nV z hz hne),Bool.and_eq_true]at hl
  obtain⟨h1,h2⟩:=nX hl.2
  exact⟨by rw[hl.1,h1]; rfl,h2⟩
 have nS:∀z,z∈V->z.id≠y.id->z.dead≠some i->o.dst≠some z.slot:=λz hz hne Iz hd'=>(hwf.v1 z hz hd').elim (nV z hz hne) Iz
 have EC:∀z,z∈V->∀q,q∈z.st->q.1≠i:=λz hz q hq RT=>by have:=hwf.vs z hz q hq RT; rw[hst]at this; cases this
 let β':Nat->Nat->Prop:=λs=>if s=y.id then B' else β s
 have hβ:∀z,z∈V->z.id≠y.id->β' z.id=β z.id:=λz _ hne=>if_neg hne
 have Qb:β' y.id=B':=if_pos rfl
 have iZ:∀k j,k<w.heap.size->own c V (upd L i) β' k j->own c V L β k j:=by
  rintro k j hk (h1|⟨z,hz,h1,h2,h3⟩)
  ·exact .inl h1
  ·by_cases AH:z.id=y.id
   ·have:=hwf.vu z y hz hy AH
    subst this
    rw[Qb]at h2
    exact e5 k j hk h2 h3
   ·rw[hβ z hz AH]at h2
    exact .inr ⟨z,hz,(lv z hz AH h1).1,h2,h3⟩
 have Sr:∀k j,own c V (upd L i) β' k j->(B' k/\y.lo<=j)\/c.M0 k j\/∃z,z∈V/\live L z=true/\z.dead≠some i/\β z.id k:=by
  rintro k j (h1|⟨z,hz,h1,h2,h3⟩)
  ·exact .inr (.inl h1)
  ·by_cases AH:z.id=y.id
   ·have:=hwf.vu z y hz hy AH
    subst this
    rw[Qb]at h2
    exact .inl ⟨h2,h3⟩
   ·rw[hβ z hz AH]at h2
    obtain⟨k1,k2⟩:=lv z hz AH h1
    exact .inr (.inr ⟨z,hz,k1,k2,h2⟩)
 have lift:∀F:World->Prop,aL (own c V L β) F w->aL (own c V (upd L i) β') F w':=λF hF w'' he=>by
  refine hF w'' ⟨Nat.le_trans e0.2.2.2 he.size,λk hk hno=>?_,λk j v hno hv=>?_⟩
  ·rw[he.block k (Nat.lt_of_lt_of_le hk e0.2.2.2) λj h'=>hno j (iZ k j hk h')]
   exact e3.block k hk hno
  ·have hk:=World.block_lt_of_cell? w _ hv
   exact he.cell k j v (λh'=>hno (iZ k j hk h')) (e3.cell k j v hno hv)
 have I8:∀z,z∈V->live L z=true->z.dead≠some i->∀F:World->Prop,aL (minus (own c V L β) (β z.id)) F w->aL (minus (own c V (upd L i) β') (β z.id)) F w':=λz hz hl Iz F hF w'' he=>by
  have e:=e4 z hz hl Iz
  refine hF w'' ⟨Nat.le_trans e0.2.2.2 he.size,λk hk hno=>?_,λk j v hno hv=>?_⟩
  ·rw[he.block k (Nat.lt_of_lt_of_le hk e0.2.2.2) λj h'=>hno j ⟨iZ k j hk h'.1,h'.2⟩]
   exact e.block k hk hno
  ·have hk:=World.block_lt_of_cell? w _ hv
   exact he.cell k j v (λh'=>hno ⟨iZ k j hk h'.1,h'.2⟩) (e.cell k j v hno hv)
 refine⟨β',by rw[lq]; exact h.size,by rw[put_defers]; exact h.defers,⟨e0.1.trans h.below.os,e0.2.1.trans h.below.tape,e0.2.2.1.trans h.below.output,Nat.le_trans h.below.size e0.2.2.2,λk hk hn=>(e1 k hk hn).trans (h.below.block k hk hn)⟩,h.uH e1,?_,?_,?_,?_⟩
 ·intro z hz hl
  by_cases AH:z.id=y.id
  ·have:=hwf.vu z y hz hy AH
   subst this
   exact Yx β' Qb iZ Sr
  ·obtain⟨hl,Iz⟩:=lv z hz AH hl
   exact(h.var z hz hl).keep (dB (nS z hz AH Iz)) (hβ z hz AH) (λg hg=>(e2 z hz hl Iz g hg).1) e0.2.2.2 lift (I8 z hz hl Iz) (mF (EC z hz))
 ·intro z z' g hz Lr h1 h2 hne
  by_cases AH:z.id=y.id
  ·have FA:z'.id≠y.id:=λe=>hne (AH.trans e.symm)
   obtain⟨h2,OI⟩:=lv z' Lr FA h2
   rw[AH,Qb,hβ z' Lr FA]
   exactλk1 k2=>(e2 z' Lr h2 OI g k2).2 k1
  ·obtain⟨h1,vV⟩:=lv z hz AH h1
   rw[hβ z hz AH]
   by_cases FA:z'.id=y.id
   ·rw[FA,Qb]
    exactλk1 k2=>(e2 z hz h1 vV g k1).2 k2
   ·rw[hβ z' Lr FA]
    exact h.apart z z' g hz Lr h1 (lv z' Lr FA h2).1 hne
 ·intro p hp hl hcd
  have hpt:p.tag≠some i:=λe=>by have:=hwf.aa p hp e; rw[OV]at this; cases this
  rw[dZ hpt]at hl
  obtain⟨g,hg,hp1⟩:=h.al p hp hl hcd
  rw[dB λe=>hpt (hwf.a1 p hp e),hp1]
  have hne:p.var≠y.id:=by
   intro e
   rw[List.all_eq_true]at iI
   have h1:=iI p hp
   rw[e]at h1
   simp only[bne_self_eq_false,Bool.false_or]at h1
   cases ht:p.tag with
   |none=>rw[ht]at h1; simp at h1
   |some j=>
    rw[ht]at h1 hl
    have:=hd.behind j (by simpa using h1)
    simp only[on,this]at hl
    cases hl
  exact⟨g,by simpa [β',hne] using hg,rfl⟩
 ·intro e he hl hf
  obtain⟨hf,M3⟩:=nX hf
  by_cases ht:e.tag=some i
  ·have hd':=hwf.g2 e he ht
   rw[hd',kD (by rw[h.size]; exact hwf.sz _ hd')]
   exact hG β' Qb iZ Sr e he ht
  ·rw[dZ ht]at hl
   rw[dB λhd'=>(hwf.g1 e he hd').elim ht M3]
   exact lift _ (h.kH e he hl hf)
end
end Wx
