import Derived.Deep.RegionHeld3
import Derived.Test.YtkcceahelokheaaGreatJLT10
import Derived.Laws.Tables
import Derived.IntWalk
namespace Wx
set_option maxHeartbeats 1000000
open Go Go.RowKit Go.Proofs
variable {w w':World} {g:Nat} {x y z:Value} {e:TypeId}
theorem dO.gone (h:dO w g x y z e) (hb:Below w.heap.size w w'):dO w' g x y z e:=by
 refine h.below hb ?_
 unfold dO at h
 rcases Nat.lt_or_ge g w.heap.size with h1|h1
 ·exact h1
 ·rw[Array.getElem?_eq_none h1]at h; cases h
theorem eL (w:World) (x y z:Value) (e:TypeId):∃w',w.alloc (.cells #[x,y,z] e)=w'/\dO w' w.heap.size x y z e/\Below w.heap.size w w'/\w'.heap.size=w.heap.size+1:=
 ⟨_,rfl,dO.new _ _ _ _ _,Below.alloc (Below.refl _ _) (Nat.le_refl _) _,by simp⟩
theorem pK (q:Rat):q.num.natAbs=0↔q=0:=by
 rw[Int.natAbs_eq_zero]
 exact Rat.num_eq_zero
theorem zero_num (w:World) (v:Value) (q:Rat) (h:bL w v q):Calls Tryz.prog 42 #[v] w (fU w (.bool (decide (q=0)))):=by
 obtain⟨vn,vd,rfl,h1,h2⟩:=h
 obtain⟨A1,c1,rfl,_⟩:=id h1
 obtain⟨A2,c2,rfl,_⟩:=id h2
 have hz:(((af b64 q.num.natAbs).length:Int)==0)=decide (q=0):=by
  by_cases hq:q=0
  ·rw[hq,decide_eq_true rfl]; rfl
  ·rw[decide_eq_false hq,beq_eq_false_iff_ne]
   have:=(aQ (n:=q.num.natAbs) av).2 (by have:=mt (pK q).1 hq; omega)
   omega
 generalize (af b64 q.num.natAbs).length=L1 at *
 go_enter Tryz.func42,Tryz.ntmps42
 go_wp2
 go_ret
 exact⟨rfl,Below.alloc (Below.refl _ _) (Nat.le_refl _) _⟩
theorem Px (q:Rat):decide ((-q).num<0)=(!decide (q.num<0)&&!decide (q=0)):=by
 rw[Rat.neg_num]
 have:=Rat.num_eq_zero (q:=q)
 by_cases h:q=0
 ·simp[h]
 ·have h1:=mt this.1 h
  rw[decide_eq_false h]
  by_cases h2:q.num<0
  ·simp[h2]; omega
  ·simp[h2]; omega
variable {q:Rat}
theorem ig.drew {e:Ending} (h:ig w q e w'):ig w q e w'.drew:=by
 obtain⟨v,h1,⟨vn,vd,h2,h3,h4⟩,h5⟩:=h
 exact⟨v,h1,⟨vn,vd,h2,h3,h4⟩,h5.drew⟩
@[irreducible] def cv (w : World) (a : Addr) : Value := (w.cell? a).getD (.bool false)
theorem JZ {a:Addr} {v:Value} (h:w.cell? a=some v):w.cell? a=some (cv w a):=by unfold cv; rw[h]; rfl
def fL (v:Value):Prop:=∀k n,v≠.int k n
theorem cT (b:Bool):fL (.bool b):=by intro k n h; cases h
theorem aU (A:Option Addr) (l c:Nat):fL (.slice A l c):=by intro k n h; cases h
def bp (w:World) (r:Nat) (e:TypeId) (ps:List (Nat×Value×Value×Value)) (w':World):Prop:=
 Below w.heap.size w w'/\w.heap.size<=r/\(∀p∈ps,p.1≠r/\dO w' p.1 p.2.1 p.2.2.1 p.2.2.2 e)/\∃a b c,dO w' r a b c e/\fL a/\fL b/\fL c
variable {r:Nat} {ps:List (Nat×Value×Value×Value)} {p:Prop}
theorem bp.call {w'':World} (h:bp w r e ps w'/\p) (hb:Below w'.heap.size w' w''):bp w r e ps w'':=by
 obtain⟨⟨h1,h2,h3,a,b,c,h4,h5⟩,_⟩:=h
 exact⟨h1.trans (hb.mono h1.size),h2,λp hp=>⟨(h3 p hp).1,(h3 p hp).2.gone hb⟩,a,b,c,h4.gone hb,h5⟩
theorem bp.drew (h:bp w r e ps w'):bp w r e ps w'.drew:=by
 obtain⟨h1,h2,h3,h4⟩:=h
 exact⟨h1.drew,h2,h3,h4⟩
theorem dO.Ry (h:dO w g x y z e) (hr:g≠r) (i:Nat) (u:Value):dO (w.setCell ⟨r,i,none⟩ u) g x y z e:=(Below.heap_setCell w ⟨r,i,none⟩ u g hr).trans h
theorem bp.SU (h:bp w r e ps w') {u:Value} (hu:fL u):bp w r e ps (w'.setCell ⟨r,0,none⟩ u):=by
 obtain⟨h1,h2,h3,a,b,c,h4,h5,h6,h7⟩:=h
 exact⟨h1.setCell h2 _,h2,λp hp=>⟨(h3 p hp).1,(h3 p hp).2.Ry (h3 p hp).1 _ _⟩,u,b,c,h4.SU u,hu,h6,h7⟩
theorem bp.SV (h:bp w r e ps w') {u:Value} (hu:fL u):bp w r e ps (w'.setCell ⟨r,1,none⟩ u):=by
 obtain⟨h1,h2,h3,a,b,c,h4,h5,h6,h7⟩:=h
 exact⟨h1.setCell h2 _,h2,λp hp=>⟨(h3 p hp).1,(h3 p hp).2.Ry (h3 p hp).1 _ _⟩,a,u,c,h4.SV u,h5,hu,h7⟩
theorem bp.SW (h:bp w r e ps w') {u:Value} (hu:fL u):bp w r e ps (w'.setCell ⟨r,2,none⟩ u):=by
 obtain⟨h1,h2,h3,a,b,c,h4,h5,h6,h7⟩:=h
 exact⟨h1.setCell h2 _,h2,λp hp=>⟨(h3 p hp).1,(h3 p hp).2.Ry (h3 p hp).1 _ _⟩,a,b,u,h4.SW u,h5,h6,hu⟩
theorem bp.sets (h:bp w r e ps w'/\p) (b:Bool) (A1 A2:Option Addr) (l1 l2 c1 c2:Nat):
  bp w r e ps (((w'.setCell ⟨r,0,none⟩ (.bool b)).setCell ⟨r,1,none⟩ (.slice A1 l1 c1)).setCell ⟨r,2,none⟩ (.slice A2 l2 c2)):=
 ((h.1.SU (cT _)).SV (aU _ _ _)).SW (aU _ _ _)
theorem bp.cells (h:bp w r e ps w'):
  w'.cell? ⟨r,0,none⟩=some (cv w' ⟨r,0,none⟩)/\w'.cell? ⟨r,1,none⟩=some (cv w' ⟨r,1,none⟩)/\w'.cell? ⟨r,2,none⟩=some (cv w' ⟨r,2,none⟩)/\w'.frozen? ⟨r,0,none⟩=false/\w'.frozen? ⟨r,1,none⟩=false/\w'.frozen? ⟨r,2,none⟩=false:=by
 obtain⟨_,_,_,a,b,c,h4,_⟩:=h
 exact⟨JZ h4.c0,JZ h4.c1,JZ h4.c2,h4.fz 0,h4.fz 1,h4.fz 2⟩
theorem bp.fin {neg:Bool} {A1 A2:Option Addr} {l1 l2 c1 c2:Nat} (h:bp w r e ps w') (hn:decide (q.num<0)=neg) (h1:bQ .u64 b64 w' (.slice A1 l1 c1) q.num.natAbs) (h2:bQ .u64 b64 w' (.slice A2 l2 c2) (aq q.den)):
  ∃wf,((w'.setCell ⟨r,0,none⟩ (.bool neg)).setCell ⟨r,1,none⟩ (.slice A1 l1 c1)).setCell ⟨r,2,none⟩ (.slice A2 l2 c2)=wf/\wf.cell? ⟨r,0,none⟩=some (.bool neg)/\wf.cell? ⟨r,1,none⟩=some (.slice A1 l1 c1)/\wf.cell? ⟨r,2,none⟩=some (.slice A2 l2 c2) /\
   ig w q (.returned (.agg #[.bool neg,.slice A1 l1 c1,.slice A2 l2 c2])) wf:=by
 obtain⟨g1,g2,_,a,b,c,h4,h5,h6,h7⟩:=h
 exact uW g2 g1 h4 h5 h6 h7 hn h1 h2
theorem neg_num (w:World) (v:Value) (q:Rat) (hx:bL w v q):Calls Tryz.prog 39 #[v] w (ig w (-q)):=by
 obtain⟨Ea,Eb,rfl,lu,jO⟩:=id hx
 obtain⟨da,de,rfl,_⟩:=id lu
 obtain⟨dc,dg,rfl,_⟩:=id jO
 have hf:=Px q
 have hn:(-q).num.natAbs=q.num.natAbs:=by rw[Rat.neg_num,Int.natAbs_neg]
 have hd:(-q).den=q.den:=rfl
 generalize decide (q.num<0)=neg at *
 cases neg
 ·simp only[Bool.not_false,Bool.true_and]at hf
  go_enter Tryz.func39,Tryz.ntmps39
  go_wp2_with fail
  obtain⟨w1,e1,o1,b1,s1⟩:=eL w (.bool false) (.slice da (af b64 q.num.natAbs).length de) (.slice dc (af b64 (aq q.den)).length dg) 40
  obtain⟨w2,e2,o2,b2,s2⟩:=eL w1 (.bool false) (.slice none 0 0) (.slice none 0 0) 40
  rw[e1,e2]
  rw[s1]at o2
  have p1:=(o1.gone b2)
  have p2:=o2
  have B0:=(b1.trans (b2.mono b1.size))
  have hS:∀w',bp w (w.heap.size+1) 40 [(w.heap.size,.bool false,.slice da (af b64 q.num.natAbs).length de,.slice dc (af b64 (aq q.den)).length dg)] w'->bp w (w.heap.size+1) 40 [(w.heap.size,.bool false,.slice da (af b64 q.num.natAbs).length de,.slice dc (af b64 (aq q.den)).length dg)] w'/\w'.cell? ⟨w.heap.size,0,none⟩=some (.bool false)/\w'.cell? ⟨w.heap.size,1,none⟩=some (.slice da (af b64 q.num.natAbs).length de)/\w'.cell? ⟨w.heap.size,2,none⟩=some (.slice dc (af b64 (aq q.den)).length dg)/\w'.cell? ⟨w.heap.size+1,0,none⟩=some (cv w' ⟨w.heap.size+1,0,none⟩)/\w'.cell? ⟨w.heap.size+1,1,none⟩=some (cv w' ⟨w.heap.size+1,1,none⟩)/\w'.cell? ⟨w.heap.size+1,2,none⟩=some (cv w' ⟨w.heap.size+1,2,none⟩)/\w'.frozen? ⟨w.heap.size+1,0,none⟩=false/\w'.frozen? ⟨w.heap.size+1,1,none⟩=false/\w'.frozen? ⟨w.heap.size+1,2,none⟩=false:=λw' hh=>by
   obtain⟨f0,f1,f2,f3,f4,f5⟩:=hh.cells
   have q1:=(hh.2.2.1 (w.heap.size,.bool false,.slice da (af b64 q.num.natAbs).length de,.slice dc (af b64 (aq q.den)).length dg) (by simp)).2
   exact⟨hh,q1.c0,q1.c1,q1.c2,f0,f1,f2,f3,f4,f5⟩
  have H0:bp w (w.heap.size+1) 40 [(w.heap.size,.bool false,.slice da (af b64 q.num.natAbs).length de,.slice dc (af b64 (aq q.den)).length dg)] w2:=⟨B0,by omega,by intro p hp; simp at hp; subst hp; exact⟨by simp,p1⟩,_,_,_,p2,cT _,aU _ _ _,aU _ _ _⟩
  clear e1 e2
  have hz:=H0.drew
  go_region_held3 (λw'=>bp w (w.heap.size+1) 40 [(w.heap.size,.bool false,.slice da (af b64 q.num.natAbs).length de,.slice dc (af b64 (aq q.den)).length dg)] w'/\w'.cell? ⟨w.heap.size,0,none⟩=some (.bool false)/\w'.cell? ⟨w.heap.size,1,none⟩=some (.slice da (af b64 q.num.natAbs).length de)/\w'.cell? ⟨w.heap.size,2,none⟩=some (.slice dc (af b64 (aq q.den)).length dg)/\w'.cell? ⟨w.heap.size+1,0,none⟩=some (cv w' ⟨w.heap.size+1,0,none⟩)/\w'.cell? ⟨w.heap.size+1,1,none⟩=some (cv w' ⟨w.heap.size+1,1,none⟩)/\w'.cell? ⟨w.heap.size+1,2,none⟩=some (cv w' ⟨w.heap.size+1,2,none⟩)/\w'.frozen? ⟨w.heap.size+1,0,none⟩=false/\w'.frozen? ⟨w.heap.size+1,1,none⟩=false/\w'.frozen? ⟨w.heap.size+1,2,none⟩=false)
   (first|exact hS _ hz|exact hS _ (bp.sets (by assumption) _ _ _ _ _ _ _))
   (first
    |((go_at_call 42; refine(zero_num _ _ q (hx.below (And.left (And.left (by assumption))))).mono ?_; rintro e wz ⟨rfl,hb⟩); have hz:=bp.call (by assumption) hb))
  all_goals (
   go_wp2
   obtain⟨wf,HW,f0,f1,f2,dR⟩:=hz.fin (q :=-q) hf (by rw[hn]; exact lu.below hz.1) (by rw[hd]; exact jO.below hz.1)
   (try rw[HW])
   (try simp only[Exit.inBlock,Exit.then])
   refine bodyPost_ret (by simp[results,Tryz.results39,go_sem,f0,f1,f2]; try rfl) rfl ?_
   first|exact dR|exact dR.drew)
 ·simp only[Bool.not_true,Bool.false_and]at hf
  go_enter Tryz.func39,Tryz.ntmps39
  go_wp2_with fail
  obtain⟨w1,e1,o1,b1,s1⟩:=eL w (.bool true) (.slice da (af b64 q.num.natAbs).length de) (.slice dc (af b64 (aq q.den)).length dg) 40
  obtain⟨w2,e2,o2,b2,s2⟩:=eL w1 (.bool false) (.slice none 0 0) (.slice none 0 0) 40
  rw[e1,e2]
  rw[s1]at o2
  have p1:=(o1.gone b2)
  have p2:=o2
  have B0:=(b1.trans (b2.mono b1.size))
  have hS:∀w',bp w (w.heap.size+1) 40 [(w.heap.size,.bool true,.slice da (af b64 q.num.natAbs).length de,.slice dc (af b64 (aq q.den)).length dg)] w'->bp w (w.heap.size+1) 40 [(w.heap.size,.bool true,.slice da (af b64 q.num.natAbs).length de,.slice dc (af b64 (aq q.den)).length dg)] w'/\w'.cell? ⟨w.heap.size,0,none⟩=some (.bool true)/\w'.cell? ⟨w.heap.size,1,none⟩=some (.slice da (af b64 q.num.natAbs).length de)/\w'.cell? ⟨w.heap.size,2,none⟩=some (.slice dc (af b64 (aq q.den)).length dg)/\w'.cell? ⟨w.heap.size+1,0,none⟩=some (cv w' ⟨w.heap.size+1,0,none⟩)/\w'.cell? ⟨w.heap.size+1,1,none⟩=some (cv w' ⟨w.heap.size+1,1,none⟩)/\w'.cell? ⟨w.heap.size+1,2,none⟩=some (cv w' ⟨w.heap.size+1,2,none⟩)/\w'.frozen? ⟨w.heap.size+1,0,none⟩=false/\w'.frozen? ⟨w.heap.size+1,1,none⟩=false/\w'.frozen? ⟨w.heap.size+1,2,none⟩=false:=λw' hh=>by
   obtain⟨f0,f1,f2,f3,f4,f5⟩:=hh.cells
   have q1:=(hh.2.2.1 (w.heap.size,.bool true,.slice da (af b64 q.num.natAbs).length de,.slice dc (af b64 (aq q.den)).length dg) (by simp)).2
   exact⟨hh,q1.c0,q1.c1,q1.c2,f0,f1,f2,f3,f4,f5⟩
  have H0:bp w (w.heap.size+1) 40 [(w.heap.size,.bool true,.slice da (af b64 q.num.natAbs).length de,.slice dc (af b64 (aq q.den)).length dg)] w2:=⟨B0,by omega,by intro p hp; simp at hp; subst hp; exact⟨by simp,p1⟩,_,_,_,p2,cT _,aU _ _ _,aU _ _ _⟩
  clear e1 e2
  have hz:=H0
  obtain⟨_,k0,k1,k2,k3,k4,k5,k6,k7,k8⟩:=hS _ H0
  go_region
  all_goals (
   go_wp2
   obtain⟨wf,HW,f0,f1,f2,dR⟩:=hz.fin (q :=-q) hf (by rw[hn]; exact lu.below hz.1) (by rw[hd]; exact jO.below hz.1)
   (try rw[HW])
   (try simp only[Exit.inBlock,Exit.then])
   refine bodyPost_ret (by simp[results,Tryz.results39,go_sem,f0,f1,f2]; try rfl) rfl ?_
   first|exact dR|exact dR.drew)
end Wx

namespace Wx
open Go Go.RowKit
variable {M:Nat->Nat->Prop} {w:World} {k:IntKind}
theorem Wm {A:Option Addr} {c:Nat} {l:List Nat} (hM:cL M w) (hk:k=.u64\/k=.u32) (h:Rd w k A c l):aO M (λw=>Rd w k A c l) w:=by
 intro w' he
 obtain⟨h1,h2,h3⟩:=h
 refine⟨h1,h2,λhne=>?_⟩
 obtain⟨b,o,e,hc⟩:=h3 hne
 refine⟨b,o,e,λi hi=>he.cell b (o+i) _ (λhm=>?_) (hc i hi)⟩
 have:=(hM b (o+i) hm).2 _ (hc i hi)
 rcases hk with rfl|rfl
 ·exact(this _).1 rfl
 ·exact(this _).2 rfl
variable {v:Value}
theorem uN {b n:Nat} (hM:cL M w) (hk:k=.u64\/k=.u32) (h:bQ k b w v n):aO M (λw=>bQ k b w v n) w:=by
 obtain⟨A,c,rfl,hr⟩:=h
 exactλw' he=>⟨A,c,rfl,Wm hM hk hr w' he⟩
def au (q:Rat):Pred:=λw v=>bL w v q
theorem cH (q:Rat):aK (au q):=by
 rintro M w v hM ⟨vn,vd,rfl,h1,h2⟩ w' he
 exact⟨vn,vd,rfl,uN hM (.inl rfl) h1 w' he,uN hM (.inl rfl) h2 w' he⟩
theorem uL (b:Bool):iw (.bool b):=λ_=>⟨(by simp),by simp⟩
theorem ee (A:Option Addr) (l c:Nat):iw (.slice A l c):=λ_=>⟨(by simp),by simp⟩
theorem Se (n:Int):iw (.int .i64 n):=λ_=>⟨(by simp),by simp⟩
theorem II (s:ByteArray):iw (.string s):=λ_=>⟨(by simp),by simp⟩
theorem cV (q:Rat):Fits 3 true (au q):=by
 rintro w v ⟨vn,vd,rfl,h1,h2⟩
 obtain⟨A,c,rfl,_⟩:=h1
 obtain⟨B,d,rfl,_⟩:=h2
 refine⟨[_,_,_],rfl,rfl,rfl,?_⟩
 intro u hu
 simp at hu
 rcases hu with rfl|rfl|rfl
 ·exact⟨uL _,rfl⟩
 ·exact⟨ee _ _ _,rfl⟩
 ·exact⟨ee _ _ _,rfl⟩
theorem x8 (hn:iw v) (h1:v.oneCell'=true) (hc:v.cells=#[v]):Fits 1 false (bg v):=by
 intro w u hu
 have hu:u=v:=hu
 subst hu
 refine⟨[u],rfl,rfl,hc,?_⟩
 intro x hx
 simp at hx
 subst hx
 exact⟨hn,h1⟩
theorem fits_int (n:Int):Fits 1 false (pI n):=x8 (Se n) rfl rfl
theorem fits_bool (b:Bool):Fits 1 false (pB b):=x8 (uL b) rfl rfl
theorem E8 (s:ByteArray):Fits 1 false (bg (.string s)):=x8 (II s) rfl rfl
structure Fd where
 agg:Bool
 n:Nat
 p:Pred
def aM:List Fd->World->List Value->Prop
 |[],_,cs=>cs=[]
 |f::fs,w,cs=>f.n<=cs.length/\f.p w (aj f.agg (cs.take f.n))/\aM fs w (cs.drop f.n)
def pS (fs:List Fd):Pred:=λw v=>∃cs:List Value,v=.agg cs.toArray/\aM fs w cs
def bX:List Fd->Nat->Nat
 |[],_=>0
 |_::_,0=>0
 |f::fs,k+1=>f.n+bX fs k
def oY:List Fd->Nat
 |[]=>0
 |f::fs=>f.n+oY fs
theorem mL:∀{fs:List Fd} {w:World} {cs:List Value},aM fs w cs->cs.length=oY fs:=by
 intro fs
 induction fs with
 |nil=>intro w cs h; rw[show cs=[]from h]; rfl
 |cons f fs ih=>
  intro w cs h
  obtain⟨h1,_,h3⟩:=h
  have:=ih h3
  rw[List.length_drop]at this
  simp only[oY]
  omega
theorem zT:∀{fs:List Fd} {w:World} {cs:List Value} {k:Nat} {f:Fd},aM fs w cs->fs[k]?=some f->f.p w (aj f.agg ((cs.drop (bX fs k)).take f.n)):=by
 intro fs
 induction fs with
 |nil=>intro w cs k f _ hk; simp at hk
 |cons g fs ih=>
  intro w cs k f h hk
  obtain⟨h1,h2,h3⟩:=h
  cases k with
  |zero=>simp at hk; subst hk; exact h2
  |succ k=>
   have:=ih h3 (by simpa using hk)
   rw[List.drop_drop]at this
   exact this
variable {cs:List Value}
theorem bG {ds:List Value} (h:aj true cs=aj true ds):cs=ds:=by
 simp only[aj,if_true]at h
 injection h with h
 have:=congrArg Array.toList h
 simpa using this
variable {fs:List Fd}
theorem pE {N:Nat} (k:Nat) {f:Fd} (hk:fs[k]?=some f) {off:Nat} (ho:bX fs k=off):∀w cs,cs.length=N->pS fs w (aj true cs)->f.p w (aj f.agg ((cs.drop off).take f.n)):=by
 rintro w cs _ ⟨ds,e,h⟩
 have:=bG (show aj true cs=aj true ds from e)
 subst this
 rw[<-ho]
 exact zT h hk
theorem IZ:∀{fs:List Fd} {w:World} {cs ds:List Value} {k:Nat} {f:Fd} {q:Pred},aM fs w cs->fs[k]?=some f->ds.length=f.n->q w (aj f.agg ds)->aM (fs.set k ⟨f.agg,f.n,q⟩) w (cs.take (bX fs k)++ds++cs.drop (bX fs k+f.n)):=by
 intro fs
 induction fs with
 |nil=>intro w cs ds k f q _ hk; simp at hk
 |cons g fs ih=>
  intro w cs ds k f q h hk hl hq
  obtain⟨h1,h2,h3⟩:=h
  cases k with
  |zero=>
   simp at hk
   subst hk
   refine⟨by simp[bX,hl],?_,?_⟩
   ·simp[bX,<-hl]; exact hq
   ·simp[bX,<-hl]
    rw[hl]
    exact h3
  |succ k=>
   have:=ih h3 (by simpa using hk) hl hq
   have hlen:=mL h3
   refine⟨?_,?_,?_⟩
   ·show g.n<=(cs.take (g.n+bX fs k)++ds++cs.drop (g.n+bX fs k+f.n)).length
    simp only[List.length_append,List.length_take,List.length_drop]
    omega
   ·have e:((cs.take (g.n+bX fs k)++ds++cs.drop (g.n+bX fs k+f.n)).take g.n)=cs.take g.n:=by
     rw[List.append_assoc,List.take_append_of_le_length (by simp; omega),List.take_take]
     congr 1; omega
    show g.p w (aj g.agg ((cs.take (g.n+bX fs k)++ds++cs.drop (g.n+bX fs k+f.n)).take g.n))
    rw[e]; exact h2
   ·show aM _ w ((cs.take (g.n+bX fs k)++ds++cs.drop (g.n+bX fs k+f.n)).drop g.n)
    have e:((cs.take (g.n+bX fs k)++ds++cs.drop (g.n+bX fs k+f.n)).drop g.n)=(cs.drop g.n).take (bX fs k)++ds++(cs.drop g.n).drop (bX fs k+f.n):=by
     have e1:g.n+bX fs k-g.n=bX fs k:=by omega
     have e2:g.n+(bX fs k+f.n)=g.n+bX fs k+f.n:=by omega
     rw[List.append_assoc,List.drop_append_of_le_length (by simp; omega),List.drop_take,e1,List.append_assoc,List.drop_drop,e2]
    rw[e]; exact this
theorem Mv (h:∀f∈fs,aK f.p):aK (pS fs):=by
 rintro M w v hM ⟨cs,rfl,hc⟩
 have key:∀(fs:List Fd),(∀f∈fs,aK f.p)->∀cs,aM fs w cs->aO M (λw=>aM fs w cs) w:=by
  intro fs
  induction fs with
  |nil=>intro _ cs h w' _; exact h
  |cons f fs ih=>
   rintro hf cs ⟨h1,h2,h3⟩ w' he
   exact⟨h1,hf f (by simp) M w _ hM h2 w' he,ih (λg hg=>hf g (List.mem_cons_of_mem _ hg)) _ h3 w' he⟩
 exactλw' he=>⟨cs,rfl,key fs h cs hc w' he⟩
def po:List Fd->Prop
 |[]=>True
 |f::fs=>aK f.p/\po fs
theorem po.get:∀{fs:List Fd},po fs->∀f∈fs,aK f.p:=by
 intro fs
 induction fs with
 |nil=>intro _ f hf; cases hf
 |cons g fs ih=>
  intro h f hf
  rcases List.mem_cons.1 hf with rfl|hf
  ·exact h.1
  ·exact ih h.2 f hf
theorem Mw (h:po fs):aK (pS fs):=Mv h.get
def tV:List Fd->Prop
 |[]=>True
 |f::fs=>Fits f.n f.agg f.p/\tV fs
theorem vY (h:tV fs) {n:Nat} (hn:oY fs=n):Fits n true (pS fs):=by
 rintro w v ⟨cs,rfl,hc⟩
 refine⟨cs,rfl,by rw[<-hn]; exact mL hc,rfl,?_⟩
 have key:∀(fs:List Fd),tV fs->∀cs,aM fs w cs->∀u∈cs,iw u/\u.oneCell'=true:=by
  intro fs
  induction fs with
  |nil=>intro _ cs h u hu; rw[show cs=[]from h]at hu; cases hu
  |cons f fs ih=>
   rintro⟨h0,h0'⟩ cs ⟨h1,h2,h3⟩ u hu
   rw[<-List.take_append_drop f.n cs,List.mem_append]at hu
   rcases hu with hu|hu
   ·obtain⟨ds,e,hl,hcells,h4⟩:=h0 w _ h2
    have:cs.take f.n=ds:=by
     cases hagg:f.agg with
     |true=>rw[hagg]at e; exact bG e
     |false=>
      rw[hagg]at e hcells
      have uw:=hcells
      rw[e]at uw
      match ds,hl,h4 with
      |[x],hl,h4=>
       have hl':(cs.take f.n).length=1:=by rw[List.length_take]; simp at hl; omega
       match hct:cs.take f.n,hl' with
       |[y],_=>
        rw[hct]at e
        simp only[aj,Bool.false_eq_true,if_false,List.headD_cons]at e
        rw[e]
      |[],hl,_=>
       exfalso
       simp only[aj,Bool.false_eq_true,if_false,List.headD_nil,undef,Value.cells]at uw
       exact absurd (congrArg Array.size uw) (by simp)
      |x::y::ds,hl,h4=>
       exfalso
       have:=h4 x (by simp)
       simp only[aj,Bool.false_eq_true,if_false,List.headD_cons]at uw
       cases x<;>simp[Value.oneCell',Value.cells]at this uw
    rw[this]at hu
    exact h4 u hu
   ·exact ih h0' _ h3 u hu
 exact key fs h cs hc
theorem Wd (h:aM fs w cs):pS fs w (.agg cs.toArray):=⟨cs,rfl,h⟩
def PY (n d:Int):Pred:=pS [⟨false,1,pI n⟩,⟨false,1,pI d⟩]
theorem LI (n d:Int):Fits 2 true (PY n d):=vY (fs:=[⟨false,1,pI n⟩,⟨false,1,pI d⟩]) ⟨fits_int n,fits_int d,trivial⟩ rfl
theorem FP {n d:Int} (h:PY n d w v):v=.agg #[.int .i64 n,.int .i64 d]:=by
 obtain⟨cs,rfl,hc⟩:=h
 have hl:=mL hc
 match cs,hl,hc with
 |[x,y],_,hc=>
  obtain⟨_,h1,_,h2,_⟩:=hc
  have e1:x=.int .i64 n:=h1
  have e2:y=.int .i64 d:=h2
  rw[e1,e2]
theorem ZL (h:aM fs w cs):pS fs w (.agg cs.toArray):=⟨cs,rfl,h⟩
end Wx

namespace Wx
open Go Go.RowKit
theorem LJ (ds:List Value):∀(k:Nat) (cs:List Value) (off:Nat),off+k+ds.length<=cs.length ->
  ((ds.zipIdx k).foldl (λ(cs:Array Value) (q:Value×Nat)=>cs.setIfInBounds (off+q.2) q.1) cs.toArray)=(cs.take (off+k)++ds++cs.drop (off+k+ds.length)).toArray:=by
 induction ds with
 |nil=>intro k cs off _; simp
 |cons d ds ih=>
  intro k cs off h
  simp only[List.zipIdx_cons,List.foldl_cons]
  have e:cs.toArray.setIfInBounds (off+k) d=(cs.set (off+k) d).toArray:=by simp
  rw[e,ih (k+1) (cs.set (off+k) d) off (by simp at h ⊢; omega)]
  congr 1
  have:=list_seg_step cs (off+k) d ds (by simp at h; omega)
  simpa [Nat.add_assoc,Nat.add_comm 1,Nat.add_left_comm 1] using this
def Fd.form (g:Fd):Bool×Nat:=(g.agg,g.n)
def Ag (fs:List Fd) (k:Nat) (p:Pred):List Fd:=match fs[k]? with
 |some f=>fs.set k ⟨f.agg,f.n,p⟩
 |none=>fs
def rq:List Fd->List (Nat×Pred)->List Fd
 |fs,[]=>fs
 |fs,(k,p)::r=>rq (Ag fs k p) r
def wY (fs:List Fd) (w:World):List (Nat×Value)->List (Nat×Pred)->Prop
 |[],[]=>True
 |(i,v)::vs,(k,p)::ps=>(i=k/\p w v/\∃f,fs[k]?=some f/\Fits f.n f.agg p)/\wY fs w vs ps
 |_,_=>False
variable {fs:List Fd} {k:Nat} {f:Fd} {p:Pred}
theorem MY (hk:fs[k]?=some f):∀j:Nat,((fs.set k ⟨f.agg,f.n,p⟩)[j]?).map Fd.form=(fs[j]?).map Fd.form:=by
 intro j
 rw[List.getElem?_set]
 by_cases h:k=j
 ·subst h
  simp only[if_true]
  split
  ·rw[hk]; rfl
  ·rename_i hlt
   rw[hk]
   rw[List.getElem?_eq_none (by omega)]at hk
   cases hk
 ·rw[if_neg h]
theorem Sn (hk:fs[k]?=some f):∀j,bX (fs.set k ⟨f.agg,f.n,p⟩) j=bX fs j:=by
 induction fs generalizing k with
 |nil=>simp at hk
 |cons g fs ih=>
  intro j
  cases k with
  |zero=>
   simp at hk
   subst hk
   cases j<;>rfl
  |succ k=>
   cases j with
   |zero=>rfl
   |succ j=>simp only[List.set_cons_succ,bX]; rw[ih (by simpa using hk)]
variable {w:World}
theorem wY.shape:∀{vs:List (Nat×Value)} {ps:List (Nat×Pred)} {fs gs:List Fd},(∀j:Nat,(gs[j]?).map Fd.form=(fs[j]?).map Fd.form)->wY fs w vs ps->wY gs w vs ps:=by
 intro vs
 induction vs with
 |nil=>intro ps fs gs h hp; cases ps<;>exact hp
 |cons v vs ih=>
  intro ps fs gs h hp
  cases ps with
  |nil=>exact hp
  |cons q ps=>
   obtain⟨i,v⟩:=v
   obtain⟨k,p⟩:=q
   obtain⟨⟨e,hv,f,hf,hfit⟩,hr⟩:=hp
   refine⟨⟨e,hv,?_⟩,ih h hr⟩
   have:=h k
   rw[hf]at this
   cases hg:gs[k]? with
   |none=>rw[hg]at this; cases this
   |some g=>
    rw[hg]at this
    simp only[Option.map_some,Option.some.injEq,Fd.form,Prod.mk.injEq]at this
    exact⟨g,rfl,by rw[this.1,this.2]; exact hfit⟩
theorem Hy {n:Nat} {agg:Bool} (hf:Fits n agg p) {w:World} {v:Value} (h:p w v):∃cs:List Value,v=aj agg cs/\cs.length=n/\v.cells=cs.toArray:=by
 obtain⟨cs,h1,h2,h3,_⟩:=hf w v h
 exact⟨cs,h1,h2,h3⟩
theorem J8 {pl:Nat->Option (Nat×Nat)}:∀(vs:List (Nat×Value)) (ps:List (Nat×Pred)) (fs:List Fd) (cs:List Value),(∀(k:Nat) (f:Fd),fs[k]?=some f->pl k=some (bX fs k,f.n))->aM fs w cs->wY fs w vs ps ->
  ∃cs':List Value,Instr.fill pl cs.toArray vs=some cs'.toArray/\aM (rq fs ps) w cs'/\∀w',aM fs w' cs->wY fs w' vs ps->aM (rq fs ps) w' cs':=by
 intro vs
 induction vs with
 |nil=>
  intro ps fs cs Ig hc hp
  cases ps with
  |nil=>exact⟨cs,rfl,hc,λ_ h _=>h⟩
  |cons q ps=>exact hp.elim
 |cons v vs ih=>
  intro ps fs cs Ig hc hp
  cases ps with
  |nil=>exact hp.elim
  |cons q ps=>
   obtain⟨i,v⟩:=v
   obtain⟨k,p⟩:=q
   obtain⟨⟨rfl,hv,f,hf,hfit⟩,hr⟩:=hp
   obtain⟨ds,e,hl,hcells⟩:=Hy hfit hv
   have gH:∀w',aM fs w' cs->p w' v->aM (Ag fs i p) w' (cs.take (bX fs i)++ds++cs.drop (bX fs i+f.n)):=λw' h1 h2=>by
    unfold Ag
    rw[hf]
    exact IZ h1 hf hl (by rw[<-e]; exact h2)
   have hlen:=mL hc
   have hoff:bX fs i+f.n<=oY fs:=by
    clear Ig hr gH hlen ih hc
    induction fs generalizing i with
    |nil=>simp at hf
    |cons g fs ih2=>
     cases i with
     |zero=>simp at hf; subst hf; simp[bX,oY]
     |succ i=>have:=ih2 i (by simpa using hf); simp only[bX,oY]; omega
   have hsh:∀j:Nat,((Ag fs i p)[j]?).map Fd.form=(fs[j]?).map Fd.form:=by
    unfold Ag; rw[hf]; exact MY hf
   obtain⟨cs',h1,h2,h3⟩:=ih ps (Ag fs i p) (cs.take (bX fs i)++ds++cs.drop (bX fs i+f.n)) (λk g hg=>by
     have h4:=hsh k
     rw[hg]at h4
     cases hk:fs[k]? with
     |none=>rw[hk]at h4; cases h4
     |some g'=>
      rw[hk]at h4
      simp only[Option.map_some,Option.some.injEq,Fd.form,Prod.mk.injEq]at h4
      rw[Ig k g' hk,h4.2]
      have:bX (Ag fs i p) k=bX fs k:=by unfold Ag; rw[hf]; exact Sn hf k
      rw[this]) (gH w hc hv) (hr.shape hsh)
   refine⟨cs',?_,h2,λw' k1 k2=>h3 w' (gH w' k1 k2.1.2.1) (k2.2.shape hsh)⟩
   have hsz:v.cells.size=f.n:=by rw[hcells]; simpa using hl
   have:=LJ ds 0 cs (bX fs i) (by omega)
   simp only[Nat.add_zero,hl]at this
   unfold Instr.fill
   simp only[Ig i f hf,hsz,ne_eq,not_true_eq_false,decide_false,Bool.false_or]
   rw[if_neg (by simp; omega),hcells,show ds.toArray.zipIdx=(ds.zipIdx 0).toArray by simp]
   rw[<-h1,<-this]
   congr 1
   simp
section
variable {P:Program} {ops:Array Oper} {ms:List Nat} {c:fT} {V:List Vr} {A:List Al} {G:List bz} {i:Nat}{d:Nat} {x y:Operand} {ty:TypeId} {pos:String} {aft:Array Edge}
def dy (ms:List Nat) (G:List bz) (i:Nat) (fs:List Fd):List (Nat×Operand)->List (Nat×Pred)->Prop
 |[],[]=>True
 |(j,x)::xs,(k,p)::ps=>(j=k/\Has ms G i x p/\∃f,fs[k]?=some f/\Fits f.n f.agg p)/\dy ms G i fs xs ps
 |_,_=>False
end
end Wx

namespace Wx
open Go Go.RowKit
def cZ (sz:Nat) (agg:Bool) (p:Pred):Pred:=λw v=>∃(b o:Nat) (cs:List Value),v=.pointer (some ⟨b,o,none⟩)/\cs.length=sz/\(∀j u,cs[j]?=some u->w.cell? ⟨b,o+j,none⟩=some u)/\p w (aj agg cs)
def aA (sz:Nat) (agg:Bool) (n:Nat) (f:Nat->Pred):Pred:=λw v=>∃(A:Option Addr) (cap:Nat),v=.slice A n cap/\n<=cap/\cap<=maxLen /\
 (0<n->∃b o:Nat,A=some ⟨b,o,none⟩/\∀i,i<n->∃cs:List Value,cs.length=sz/\(∀j u,cs[j]?=some u->w.cell? ⟨b,o+i*sz+j,none⟩=some u)/\f i w (aj agg cs))
def aD (l:List Rat):Pred:=aA 3 true l.length λi=>au (l.getD i 0)
variable {M:Nat->Nat->Prop} {w:World} {b o:Nat}
theorem EA {F:World->Prop} {u:Value} (h:aO M F w) (hc:w.cell? ⟨b,o,none⟩=some u) (hno:∀w':World,w'.cell? ⟨b,o,none⟩=some (.int .u64 0)->¬F w'):¬M b o:=by
 intro hm
 have hb:=World.block_lt_of_cell? w _ hc
 simp only[World.cell?]at hc
 cases hbl:w.heap[b]? with
 |none=>rw[hbl]at hc; simp at hc
 |some bl=>
  rw[hbl]at hc
  cases bl with
  |cells cs t fz=>
   simp only at hc
   have ho:o<cs.size:=by
    rcases Nat.lt_or_ge o cs.size with h'|h'
    ·exact h'
    ·rw[Array.getElem?_eq_none h']at hc; simp at hc
   have e:w.heap.setIfInBounds b (.cells (cs.setIfInBounds o (.int .u64 0)) t fz)=w.heap.setIfInBounds b (.cells (cs.setIfInBounds o (.int .u64 0)) t fz):=rfl
   refine hno { w with heap:=w.heap.setIfInBounds b (.cells (cs.setIfInBounds o (.int .u64 0)) t fz) } ?_ (h _ ⟨?_,?_,?_⟩)
   ·simp[World.cell?,hb,ho]
   ·simp
   ·intro k hk hnm
    have hne:b≠k:=λe=>hnm o (e▸hm)
    simp[Array.getElem?_setIfInBounds_ne hne]
   ·intro k j v hnm hv
    by_cases hk:k=b
    ·subst hk
     have hne:o≠j:=λe=>hnm (e▸hm)
     simp only[World.cell?,hbl]at hv
     simp only[World.cell?,Array.getElem?_setIfInBounds_self_of_lt hb]
     simpa [Array.getElem?_setIfInBounds_ne hne] using hv
    ·rw[World.cell?_of_block (w:=w) (by simp[Array.getElem?_setIfInBounds_ne (λe=>hk e.symm)])]
     exact hv
  |_=>simp at hc
theorem Of {w':World} (he:Ext M w w') {b o:Nat} {u:Value} (h:w.cell? ⟨b,o,none⟩=some u) (hm:¬M b o):w'.cell? ⟨b,o,none⟩=some u:=he.cell b o u hm h
theorem lK {cs ds:List Value} (hl:cs.length=ds.length) (h1:∀j u,cs[j]?=some u->w.cell? ⟨b,o+j,none⟩=some u) (h2:∀j u,ds[j]?=some u->w.cell? ⟨b,o+j,none⟩=some u):cs=ds:=by
 apply List.ext_getElem hl
 intro i hi hi'
 have e1:=h1 i _ (List.getElem?_eq_getElem hi)
 have e2:=h2 i _ (List.getElem?_eq_getElem hi')
 rw[e1]at e2
 injection e2
theorem FY {sz:Nat} {agg:Bool} {p:Pred} {v:Value} (h1:agg=false->sz=1) (hf:Fits sz agg p) (h:aO M (λw=>cZ sz agg p w v) w):
  ∃(b o:Nat) (cs:List Value),v=.pointer (some ⟨b,o,none⟩)/\cs.length=sz/\(∀j u,cs[j]?=some u->w.cell? ⟨b,o+j,none⟩=some u)/\aO M (λw=>p w (aj agg cs)) w:=by
 obtain⟨b,o,cs,rfl,hl,hc,hp⟩:=h.out
 have Lf:∀{cs ds:List Value},cs.length=sz->ds.length=sz->aj agg cs=aj agg ds->cs=ds:=by
  intro cs ds e1 e2 e
  cases agg with
  |true=>exact bG e
  |false=>
   have:=h1 rfl
   match cs,ds,e1,e2 with
   |[x],[y],_,_=>simp only[aj,Bool.false_eq_true,if_false,List.headD_cons]at e; rw[e]
   |[],_,e1,_=>simp at e1; omega
   |_::_::_,_,e1,_=>simp at e1; omega
   |[_],[],_,e2=>simp at e2; omega
   |[_],_::_::_,_,e2=>simp at e2; omega
 have hm:∀j u,cs[j]?=some u->¬M b (o+j):=λj u hj=>EA h (hc j u hj) (by
  rintro w' hw' ⟨b',o',cs',e,hl',hc',hp'⟩
  injection e with e
  injection e with e
  injection e with e2 e3
  subst e2 e3
  obtain⟨ds,e4,hl4,_,h4⟩:=hf w' _ hp'
  have e5:=Lf hl' hl4 e4
  subst e5
  have hj':j<cs'.length:=by
   rcases Nat.lt_or_ge j cs.length with h'|h'
   ·omega
   ·rw[List.getElem?_eq_none h']at hj; cases hj
  have h6:=hc' j _ (List.getElem?_eq_getElem hj')
  rw[hw']at h6
  injection h6 with h6
  exact((h4 _ (List.getElem_mem hj')).1 0).1 h6.symm)
 refine⟨b,o,cs,rfl,hl,hc,λw' he=>?_⟩
 obtain⟨b',o',cs',e,hl',hc',hp'⟩:=h w' he
 injection e with e
 injection e with e
 injection e with e1 e2
 subst e1 e2
 have:cs=cs':=lK (by omega) (λj u hj=>Of he (hc j u hj) (hm j u hj)) hc'
 rw[this]; exact hp'
structure mV (P:Program) (T:TypeId) (E:TypeId) (sz:Nat):Prop where
 under:P.underlying T=some (.slice E)
 size:∀w,(Go.sizeOf E).run P w=.ok sz w
section
variable {P:Program} {ops:Array Oper} {ms:List Nat} {c:fT} {V:List Vr} {A:List Al} {G:List bz} {i:Nat} {L:Nat->Bool} {β:Nat->Nat->Prop} {a:Act} {w:World} {o:Oper}{d:Nat} {x y z:Operand} {ty:TypeId} {pos:String} {aft:Array Edge}{T:TypeId} {sz:Nat} {agg:Bool} {p:Pred}
theorem dQ (h:Has ms G i x (cZ sz agg p)) (ht:Ty P T agg sz) (hfit:Fits sz agg p) (hp:Post G i p):OpOk P ops ms c V A G i ⟨some d,.load T x,ty,pos,aft,none⟩:=
 cC rfl rfl rfl (.inl rfl) hp λL β a w hI hd=>by
  obtain⟨b,o,cs,e,hl,hc,hb⟩:=FY ht.one hfit (h.spec hI hd)
  refine⟨_,w,?_,Below.refl _ _,hb⟩
  show(do pure (Next.value (<-Instr.loadAt T (a.eval x)))).run P w=_
  rw[e,Sem.run_bind,fJ ht hc hl]
  rfl
variable {E:TypeId} {n:Nat} {m:Int}
theorem xB {b off cap:Nat} (ht:mV P T E sz) (h0:0<=m) (h1:m<n):(Instr.indexAt T (.slice (some ⟨b,off,none⟩) n cap) (.int .i64 m)).run P w=.ok (.pointer (some ⟨b,off+m.toNat*sz,none⟩)) w:=by
 have hu:(underlying T).run P w=.ok (.slice E) w:=run_underlying ht.under w
 simp only[Instr.indexAt,asIntOf,pure_bind,Sem.run_bind,hu,Result.andThen_ok]
 rw[if_pos ⟨h0,h1⟩]
 simp only[Sem.run_bind,ht.size,Result.andThen_ok,Sem.run_pure,Addr.add_mid]
variable {f:Nat->Pred}
theorem jk (h:Has ms G i x (aA sz agg n f)) (hy:Has ms G i y (pI m)) (ht:mV P T E sz) (h0:0<=m) (h1:m<n) (hA:(A.all λq=>q.tag != some i)=true) (hp:Post G i (cZ sz agg (f m.toNat))):
  OpOk P ops ms c V A G i ⟨some d,.indexAddr T x y,ty,pos,aft,none⟩:=
 cC rfl rfl rfl (.inr hA) hp λL β a w hI hd=>by
  have hr:=h.spec hI hd
  have hi:a.eval y=.int .i64 m:=(hy.spec hI hd).out
  obtain⟨A',cap,e,hn,hcap,hel⟩:=hr.out
  obtain⟨b,off,rfl,_⟩:=hel (by omega)
  refine⟨.pointer (some ⟨b,off+m.toNat*sz,none⟩),w,?_,Below.refl _ _,λw' he=>?_⟩
  ·show(do pure (Next.value (<-Instr.indexAt T (a.eval x) (a.eval y)))).run P w=_
   rw[e,hi,Sem.run_bind,xB ht h0 h1]
   rfl
  ·obtain⟨A2,yS,e2,_,_,acm⟩:=hr w' he
   rw[e]at e2
   injection e2 with e2
   obtain⟨b2,off2,e3,acn⟩:=acm (by omega)
   rw[<-e2]at e3
   injection e3 with e3
   injection e3 with e4 e5
   subst e4 e5
   obtain⟨cs,h2,h3,h4⟩:=acn m.toNat (by omega)
   exact⟨_,_,cs,rfl,h2,h3,h4⟩
theorem fl (h:Has ms G i x (aA sz agg n f)) (ht:P.underlying T=some (.slice E)) (hp:Post G i (pI (n:Int))):
  OpOk P ops ms c V A G i ⟨some d,.call ⟨.builtin .len,#[x],#[T]⟩,ty,pos,aft,none⟩:=
 iO rfl rfl rfl rfl h hp λρ w h=>⟨.int .i64 n,by
  obtain⟨A',cap,e,_⟩:=h
  have hr:(Builtin.len_ #[T] ty #[ρ x]).run P w=.ok (.int .i64 n) w:=by
   rw[e]
   unfold Builtin.len_
   simp[run_underlying ht,goInt]
  show(do let d <-resolve ρ ⟨.builtin .len,#[x],#[T]⟩ ty; invoke d.target d.args).run P w=_
  simp only[resolve,invoke,pure_bind,builtin]
  rw[show(#[x]:Array Operand).map ρ=#[ρ x] by simp,Sem.run_bind,hr]
  rfl,λ_ _=>rfl⟩
variable {fs:List Fd}
theorem MT {w:World} {g:Nat} {fz:Nat×Nat} {cs:List Value} (hg:w.heap[g]?=some (.cells cs.toArray T fz)) (hc:aM fs w cs) (hf:∀f∈fs,f.agg=agg/\f.n=sz) (hlen:fs.length<=maxLen) (p:Nat->Pred) (hp:∀(k:Nat) (f:Fd),fs[k]?=some f->f.p=p k):
  aA sz agg fs.length p w (.slice (some ⟨g,0,none⟩) fs.length fs.length):=by
 have hoff:∀(fs:List Fd),(∀f∈fs,f.agg=agg/\f.n=sz)->∀k,k<=fs.length->bX fs k=k*sz:=by
  intro fs
  induction fs with
  |nil=>intro _ k hk; simp at hk; subst hk; simp[bX]
  |cons f fs ih=>
   intro h k hk
   cases k with
   |zero=>simp[bX]
   |succ k=>
    have h1:=(h f (by simp)).2
    have h2:=ih (λg hg=>h g (List.mem_cons_of_mem _ hg)) k (by simp at hk; omega)
    simp only[bX,h1,h2]
    rw[Nat.add_mul,Nat.one_mul,Nat.add_comm]
 refine⟨_,_,rfl,Nat.le_refl _,hlen,λ_=>⟨g,0,rfl,λi hi=>?_⟩⟩
 have hk:=List.getElem?_eq_getElem hi
 obtain⟨e1,e2⟩:=hf _ (List.getElem_mem hi)
 have YS:=zT hc hk
 have htot:=mL hc
 have hsz:∀(fs:List Fd),(∀f∈fs,f.agg=agg/\f.n=sz)->oY fs=fs.length*sz:=by
  intro fs
  induction fs with
  |nil=>intro _; simp[oY]
  |cons f fs ih=>intro h; simp only[oY,(h f (by simp)).2,ih (λg hg=>h g (List.mem_cons_of_mem _ hg)),List.length_cons,Nat.add_mul,Nat.one_mul]; omega
 have hs:=hsz fs hf
 have OV:=hoff fs hf i (by omega)
 have hle:i*sz+sz<=fs.length*sz:=by
  have:(i+1)*sz<=fs.length*sz:=Nat.mul_le_mul_right _ hi
  rw[Nat.add_mul,Nat.one_mul]at this; exact this
 refine⟨(cs.drop (i*sz)).take sz,by simp; omega,λj u hj=>?_,?_⟩
 ·have:=fY hg (i*sz) sz j u hj
  rwa [Nat.zero_add]
 ·rw[OV,e1,e2]at YS
  rw[<-hp i _ hk]
  exact YS
def PZ (sz:Nat) (agg:Bool) (n:Nat) (f:Nat->Pred):Pred:=λw v=>(∃A:Option Addr,v=.slice A n n)/\aA sz agg n f w v
variable {parts:Array (Nat×Operand)} {zv:Value} {gs:List Fd} {ps:List (Nat×Pred)}
theorem qZ {z:List Value} (ht:mV P T E sz) (Dq:∀w,(zeroValue E).run P w=.ok zv w) (zB:zv.cells=z.toArray)
  (Q4:fs=List.replicate n ⟨agg,sz,p⟩) (hsz:decide (0<sz/\0<n/\n*sz<=16777216)=true) (hz:∀w,p w (aj agg z)) (we:z.length=sz) (hps:dy ms G i fs parts.toList ps) (hg:rq fs ps=gs) (q:Nat->Pred) (hq:∀(k:Nat) (f:Fd),gs[k]?=some f->f.p=q k) (hp:Post G i (PZ sz agg n q)):
  OpOk P ops ms c V A G i ⟨some d,.buildSlice T n parts,ty,pos,aft,none⟩:=
 cC rfl rfl rfl (.inl rfl) hp λL β a w hI hd=>by
  obtain⟨hs0,Fh,acI⟩:=of_decide_eq_true hsz
  have key:∀(xs:List (Nat×Operand)) (ps:List (Nat×Pred)),dy ms G i fs xs ps->aO (own c V L β) (λw=>wY fs w (xs.map λq=>(q.1,a.eval q.2)) ps) w:=by
   intro xs
   induction xs with
   |nil=>intro ps h; cases ps<;>exactλ_ _=>h
   |cons q xs ih=>
    intro ps h
    obtain⟨j,x⟩:=q
    cases ps with
    |nil=>exact h.elim
    |cons r ps=>
     obtain⟨k,p⟩:=r
     obtain⟨⟨e,h1,h2⟩,h3⟩:=h
     exactλw' he=>⟨⟨e,h1.spec hI hd w' he,h2⟩,ih ps h3 w' he⟩
  have hb:=key _ _ hps
  have Df:∀(n:Nat) (w:World),aM (List.replicate n ⟨agg,sz,p⟩) w ((List.replicate n z).flatten):=by
   intro n
   induction n with
   |zero=>intro w; rfl
   |succ n ih=>
    intro w
    rw[List.replicate_succ,List.replicate_succ,List.flatten_cons]
    refine⟨by simp[we],?_,?_⟩
    ·rw[List.take_append_of_le_length (by rw[we]; exact Nat.le_refl _),List.take_of_length_le (by rw[we]; exact Nat.le_refl _)]; exact hz w
    ·have e:List.drop sz (z++(List.replicate n z).flatten)=(List.replicate n z).flatten:=by rw[<-we]; simp
     show aM _ w (List.drop sz (z++(List.replicate n z).flatten))
     rw[e]; exact ih w
  have hoff:∀k,k<=n->bX fs k=k*sz:=by
   rw[Q4]
   clear Q4 hz hps hg hb key Df acI Fh hsz hp hq
   induction n with
   |zero=>intro k hk; simp at hk; subst hk; simp[bX]
   |succ n ih=>
    intro k hk
    rw[List.replicate_succ]
    cases k with
    |zero=>simp[bX]
    |succ k=>
     simp only[bX,ih k (by omega)]
     rw[Nat.add_mul,Nat.one_mul,Nat.add_comm]
  have RK:fs.length=n:=by rw[Q4]; simp
  have eG:∀f∈fs,f.agg=agg/\f.n=sz:=by
   intro f hf
   rw[Q4]at hf
   have:=List.eq_of_mem_replicate hf
   rw[this]; exact⟨rfl,rfl⟩
  obtain⟨cs',h1,h2,h3⟩:=J8 (pl:=λi=>some (i*sz,sz)) _ _ fs ((List.replicate n z).flatten) (λk f hk=>by
   have hk':k<n:=by
    rw[<-RK]
    rcases Nat.lt_or_ge k fs.length with h|h
    ·exact h
    ·rw[List.getElem?_eq_none h]at hk; cases hk
   rw[hoff k (by omega),(eG f (List.mem_of_getElem? hk)).2]) (by rw[Q4]; exact Df n w) hb.out
  have TL:∀f∈gs,f.agg=agg/\f.n=sz:=by
   rw[<-hg]
   clear hg h1 h2 h3 hb key hps hq hoff Q4 RK
   induction ps generalizing fs with
   |nil=>exact eG
   |cons r ps ih=>
    obtain⟨k,r⟩:=r
    refine ih λf hf=>?_
    unfold Ag at hf
    split at hf
    ·rename_i g hgk
     rcases List.mem_or_eq_of_mem_set hf with h|h
     ·exact eG f h
     ·rw[h]; exact eG g (List.mem_of_getElem? hgk)
    ·exact eG f hf
  have Vj:gs.length=n:=by
   rw[<-hg,<-RK]
   clear hg h1 h2 h3 hb key hps hq hoff Q4 RK TL eG
   induction ps generalizing fs with
   |nil=>rfl
   |cons r ps ih=>
    obtain⟨k,r⟩:=r
    show(rq (Ag fs k r) ps).length=fs.length
    rw[ih]
    unfold Ag
    split<;>simp
  rw[hg]at h2 h3
  refine⟨.slice (some ⟨w.heap.size,0,none⟩) n n,w.alloc (.cells cs'.toArray E),?_,Below.alloc (Below.refl _ _) (Nat.le_refl _) _,λw' he=>?_⟩
  ·show(do pure (Next.value (<-Instr.buildSlice T n (parts.map λ(i,x)=>(i,a.eval x))))).run P w=_
   have hu:(underlying T).run P w=.ok (.slice E) w:=run_underlying ht.under w
   have e:(parts.map λ(i,x)=>(i,a.eval x)).toList=parts.toList.map λq=>(q.1,a.eval q.2):=by simp
   have AP:(Array.range (n*sz)).map (λk=>z.toArray[k%z.toArray.size]!)=((List.replicate n z).flatten).toArray:=by
    apply Array.ext
    ·simp[we]
    ·intro k ot hk2
     simp only[Array.getElem_map,Array.getElem_range,List.size_toArray,we]
     simp only[List.getElem_toArray]
     have hlt:k%sz<z.length:=by rw[we]; exact Nat.mod_lt _ hs0
     rw[getElem!_pos z.toArray (k%sz) (by simpa using hlt)]
     have adk:∀(n k:Nat) (h:k<((List.replicate n z).flatten).length),((List.replicate n z).flatten)[k]=z[k%sz]'(by rw[we]; exact Nat.mod_lt _ hs0):=by
      intro n
      induction n with
      |zero=>intro k h; simp at h
      |succ n ih=>
       intro k h
       simp only[List.replicate_succ,List.flatten_cons]
       by_cases hks:k<sz
       ·rw[List.getElem_append_left (by rw[we]; exact hks)]
        congr 1
        exact(Nat.mod_eq_of_lt hks).symm
       ·rw[List.getElem_append_right (by rw[we]; omega)]
        have hk3:k-z.length<((List.replicate n z).flatten).length:=by
         simp only[List.replicate_succ,List.flatten_cons,List.length_append]at h
         omega
        rw[ih (k-z.length) hk3]
        congr 1
        rw[we]
        exact(Nat.mod_eq_sub_mod (by omega)).symm
     rw[adk n k (by simpa using hk2)]
     simp
   rw[Sem.run_bind]
   have hrun:(Instr.buildSlice T n (parts.map λ(i,x)=>(i,a.eval x))).run P w=.ok (.slice (some ⟨w.heap.size,0,none⟩) n n) (w.alloc (.cells cs'.toArray E)):=by
    simp only[Instr.buildSlice,Sem.run_bind,hu,Result.andThen_ok,ht.size]
    rw[if_neg (by omega),if_neg (by have:=Nat.mul_pos Fh hs0; omega)]
    simp only[Sem.run_bind,Dq,Result.andThen_ok,Sem.run_pure,zB]
    rw[AP,e,h1]
    simp only[Sem.run_bind,newRow,Sem.run_pure]
    rfl
   rw[hrun]
   rfl
  ·have hgt:w'.heap[w.heap.size]?=some (.cells cs'.toArray E (0,0)):=by
    rw[he.block w.heap.size (by simp) (λo h=>by have:=tC hI h; omega)]
    exact heap_alloc_new _ _
   have he':Ext (own c V L β) w w':=(Ext.bC (Below.alloc (Below.refl _ _) (Nat.le_refl _) _)).trans he
   have hc':=h3 w' (by rw[Q4]; exact Df n w') (hb w' he')
   have:=MT hgt hc' TL (by rw[Vj]; unfold maxLen; have:n<=n*sz:=Nat.le_mul_of_pos_right n hs0; omega) q hq
   rw[Vj]at this
   exact⟨⟨_,rfl⟩,this⟩
theorem iF {z:List Value} (ht:mV P T E sz) (Dq:∀w,(zeroValue E).run P w=.ok zv w) (zB:zv.cells=z.toArray)
  (Q4:fs=List.replicate n ⟨agg,sz,p⟩) (hsz:decide (0<sz/\0<n/\n*sz<=16777216)=true) (hz:∀w,p w (aj agg z)) (we:z.length=sz) (hps:dy ms G i fs parts.toList ps) (hg:rq fs ps=gs) (q:Nat->Pred) (hq:∀(k:Nat) (f:Fd),gs[k]?=some f->f.p=q k) (hp:Post G i (aA sz agg n q)):
  OpOk P ops ms c V A G i ⟨some d,.buildSlice T n parts,ty,pos,aft,none⟩:=qZ ht Dq zB Q4 hsz hz we hps hg q hq (by
 cases hp with
 |at_ k s r h hr=>exact .at_ k s r h λw v hp=>hr w v hp.2
 |none h=>exact .none h)
theorem PR {f:FuncId} {fx:Operand} {args:Array Operand} {ts:Array TypeId} (hf:aR P f) (hx:Has ms G i fx (bg (.func (.func f) #[] #[]))) (hp:Post G i p)
  (hc:∀L β a w,bu c V A G L β a w->qc ms i L->Calls P f (args.map a.eval) w (bH (own c V L β) p w)):
  OpOk P ops ms c V A G i ⟨some d,.call ⟨.value fx,args,ts⟩,ty,pos,aft,none⟩:=by
 refine gI (λL β a w hI hd hwf=>?_) rfl
 have W9:a.eval fx=.func (.func f) #[] #[]:=(hx.spec hI hd).out
 have hr:(execOp a.eval ⟨some d,.call ⟨.value fx,args,ts⟩,ty,pos,aft,none⟩).run P w=.ok (.enter f (args.map a.eval)) w:=by
  have:=hf (args.map a.eval++#[]) w
  simp only[execOp,resolve,W9,Deferred.ofValue,pure_bind,invoke]
  rw[Array.append_empty]at this
  first|exact this|simpa using this
 unfold Does
 rw[hr]
 refine(hc L β a w hI hd).mono ?_
 rintro e w' ⟨v,rfl,hv,hb⟩
 exact⟨v,rfl,β,hI.value hwf (xp hwf rfl) rfl hb (λd q _ hq NC _=>by have:=hwf.aa q hq NC; cases this) λe he ht=>hv.imp λw=>hp.spec hwf he ht w v⟩
theorem aaJ {n:Int} (h:-9223372036854775808<=n/\n<=9223372036854775807):∀w v,bg (.int .i64 (IntKind.i64.wrap n)) w v->pI n w v:=λ_ _ e=>by rw[IntWalk.i64_in n h]at e; exact e
end
theorem KP (l:List Rat):∀(k:Nat) (f:Fd),(l.map λq=>(⟨true,3,au q⟩:Fd))[k]?=some f->f.p=au (l.getD k 0):=by
 intro k f hk
 rw[List.getElem?_map]at hk
 cases h:l[k]? with
 |none=>rw[h]at hk; cases hk
 |some q=>
  rw[h]at hk
  simp only[Option.map_some,Option.some.injEq]at hk
  rw[<-hk,List.getD_eq_getElem?_getD,h]
  rfl
def Bo (G:List bz):List bz->Prop
 |[]=>True
 |e::es=>(e.tag=none/\e.till=none/\∃(k:Nat) (p:Pred),G[k]?=some ⟨none,none,e.slot,p⟩/\∀w v,p w v->e.p w v)/\Bo G es
def Br (V:List Vr):List Vr->Prop
 |[]=>True
 |x::xs=>(∃(k:Nat) (kd:Kd) (p:Rel),V[k]?=some ⟨x.id,x.slot,none,none,kd,x.T,x.n,x.agg,p,[]⟩/\(x.born=none/\x.dead=none/\x.st=[])/\kd=x.kd/\∀F w v,p F w v->x.c0 F w v)/\Br V xs
variable {G:List bz}
theorem Bo.get:∀{G':List bz},Bo G G'->∀e,e∈G'->e.tag=none/\e.till=none/\∃(k:Nat) (p:Pred),G[k]?=some ⟨none,none,e.slot,p⟩/\∀w v,p w v->e.p w v:=by
 intro G'
 induction G' with
 |nil=>intro _ e he; cases he
 |cons f G' ih=>
  intro h e he
  rcases List.mem_cons.1 he with rfl|he
  ·exact h.1
  ·exact ih h.2 e he
variable {V:List Vr}
theorem Br.get:∀{V':List Vr},Br V V'->∀x,x∈V'->∃(k:Nat) (kd:Kd) (p:Rel),V[k]?=some ⟨x.id,x.slot,none,none,kd,x.T,x.n,x.agg,p,[]⟩/\(x.born=none/\x.dead=none/\x.st=[])/\kd=x.kd/\∀F w v,p F w v->x.c0 F w v:=by
 intro V'
 induction V' with
 |nil=>intro _ x hx; cases hx
 |cons f V' ih=>
  intro h x hx
  rcases List.mem_cons.1 hx with rfl|hx
  ·exact h.1
  ·exact ih h.2 x hx
theorem Inv.conv {c:fT} {V':List Vr} {A:List Al} {G':List bz} {a:Act} {w:World} (h:Inv c V A G none_ a w) (hV:Br V V') (hG:Bo G G'):Inv c V' [] G' none_ a w:=by
 obtain⟨β,h⟩:=h
 have eo:∀k o,own c V' none_ β k o->own c V none_ β k o:=by
  rintro k o (h1|⟨x,hx,_,h2,h3⟩)
  ·exact .inl h1
  ·obtain⟨j,kd,p,hj,_,hk,_⟩:=hV.get x hx
   subst hk
   exact .inr ⟨_,List.mem_of_getElem? hj,rfl,h2,h3⟩
 refine⟨β,h.size,h.defers,h.below,h.old,?_,?_,(λp hp=>by cases hp),?_⟩
 ·intro x hx _
  obtain⟨j,kd,p,hj,⟨hb,hdd,hs⟩,bR,hp⟩:=hV.get x hx
  subst bR
  have hv:=h.var _ (List.mem_of_getElem? hj) rfl
  rcases mC x.kd with hk|⟨m,sz,hk⟩|hk
  ·obtain⟨g,h1,h2,h3⟩:=(bJ (x:=⟨x.id,x.slot,none,none,x.kd,x.T,x.n,x.agg,p,[]⟩) hk).1 hv
   obtain⟨cs,h4,h5,h6,h7⟩:=h3.held
   refine(bJ hk).2 ⟨g,h1,h2,h3.new,cs,h4,h5,h6,?_⟩
   rw[hs]
   exact(h7.sub λk o _ hk=>eo k o hk).imp λw=>hp _ w _
  ·exact(bT hk).2 ((bT (x:=⟨x.id,x.slot,none,none,x.kd,x.T,x.n,x.agg,p,[]⟩) hk).1 hv)
  ·obtain⟨h1,h2⟩:=(aN (x:=⟨x.id,x.slot,none,none,x.kd,x.T,x.n,x.agg,p,[]⟩) hk).1 hv
   refine(aN hk).2 ⟨h1,?_⟩
   rw[hs]
   exact(h2.sub λk o _ h=>⟨eo k o h.1,h.2⟩).imp λw=>hp _ w _
 ·intro x y g hx hy _ _ hne
  obtain⟨j,kd,p,hj,_⟩:=hV.get x hx
  obtain⟨j',kd',p',hj',_⟩:=hV.get y hy
  have:=h.apart _ _ g (List.mem_of_getElem? hj) (List.mem_of_getElem? hj') rfl rfl hne
  exact this
 ·intro e he _ _
  obtain⟨_,_,k,p,hk,hp⟩:=hG.get e he
  exact((h.jM _ (List.mem_of_getElem? hk) rfl rfl).sub λk o _ hk=>eo k o hk).imp λw=>hp w _
end Wx
