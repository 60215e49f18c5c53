import Derived.Deep.RegionHeld3
import Derived.Test.YtpiniclogfefjaaJSylvester11
import Derived.Laws.Tables
namespace Wx
open Go Go.RowKit Go.Proofs

theorem Obj3.gone {w w':World} {g:Nat} {x y z:Value} {e:TypeId} (h:Obj3 w g x y z e) (hb:Below w.heap.size w w'):Obj3 w' g x y z e:=by
 refine h.below hb ?_
 unfold Obj3 at h
 rcases Nat.lt_or_ge g w.heap.size with h1|h1
 ·exact h1
 ·rw[Array.getElem?_eq_none h1]at h; cases h
theorem Yz (w:World) (x y z:Value) (e:TypeId):∃w',w.alloc (.cells #[x,y,z] e)=w'∧Obj3 w' w.heap.size x y z e∧Below w.heap.size w w'∧w'.heap.size=w.heap.size+1:=
 ⟨_,rfl,Obj3.new _ _ _ _ _,Below.alloc (Below.refl _ _) (Nat.le_refl _) _,by simp⟩

theorem Qbs (q:Rat):q.num.natAbs=0↔q=0:=by
 rw[Int.natAbs_eq_zero]
 exact Rat.num_eq_zero

theorem Qdq (w:World) (v:Value) (q:Rat) (h:IsRat w v q):Calls Try.prog 13 #[v] w (Zv w (.bool (decide (q=0)))):=by
 obtain⟨vn,vd,rfl,h1,h2⟩:=h
 obtain⟨A1,c1,rfl,_⟩:=id h1
 obtain⟨A2,c2,rfl,_⟩:=id h2
 have hz:(((digs Qb q.num.natAbs).length:Int)==0)=decide (q=0):=by
  by_cases hq:q=0
  ·rw[hq,decide_eq_true rfl]; rfl
  ·rw[decide_eq_false hq,beq_eq_false_iff_ne]
   have:=(Yb (n:=q.num.natAbs) Qv).2 (by have:=mt (Qbs q).1 hq; omega)
   omega
 generalize (digs Qb q.num.natAbs).length=L1 at *
 go_enter Try.func13,Try.ntmps13
 go_wp2
 go_ret
 exact⟨rfl,Below.alloc (Below.refl _ _) (Nat.le_refl _) _⟩

theorem neg_flag (q:Rat):decide ((-q).num<0)=(!decide (q.num<0)&&!decide (q=0)):=by
 rw[Rat.neg_num]
 have:=Rat.num_eq_zero (q:=q)
 by_cases h:q=0
 ·simp[h]
 ·have h1:=mt this.1 h
  rw[decide_eq_false h]
  by_cases h2:q.num<0
  ·simp[h2]; omega
  ·simp[h2]; omega

theorem RetRat.drew {w:World} {q:Rat} {e:Ending} {w':World} (h:RetRat w q e w'):RetRat w q e w'.drew:=by
 obtain⟨v,h1,⟨vn,vd,h2,h3,h4⟩,h5⟩:=h
 exact⟨v,h1,⟨vn,vd,h2,h3,h4⟩,h5.drew⟩
@[irreducible] def cv (w : World) (a : Addr) : Value := (w.cell? a).getD (.bool false)
theorem cv_eq {w:World} {a:Addr} {v:Value} (h:w.cell? a=some v):w.cell? a=some (cv w a):=by unfold cv; rw[h]; rfl
def Qao (v:Value):Prop:=∀k n,v≠.int k n
theorem Yw (b:Bool):Qao (.bool b):=by intro k n h; cases h
theorem Q7 (A:Option Addr) (l c:Nat):Qao (.slice A l c):=by intro k n h; cases h
def HeldR (w:World) (r:Nat) (e:TypeId) (ps:List (Nat×Value×Value×Value)) (w':World):Prop:=
 Below w.heap.size w w'∧w.heap.size≤r∧(∀p∈ps,p.1≠r∧Obj3 w' p.1 p.2.1 p.2.2.1 p.2.2.2 e)∧∃a b c,Obj3 w' r a b c e∧Qao a∧Qao b∧Qao c
theorem HeldR.call {w:World} {r:Nat} {e:TypeId} {ps:List (Nat×Value×Value×Value)} {w' w'':World} {p:Prop} (h:HeldR w r e ps w'∧p) (hb:Below w'.heap.size w' w''):HeldR w r e ps w'':=by
 obtain⟨⟨h1,h2,h3,a,b,c,h4,h5⟩,_⟩:=h
 exact⟨h1.trans (hb.mono h1.size),h2,fun p hp=>⟨(h3 p hp).1,(h3 p hp).2.gone hb⟩,a,b,c,h4.gone hb,h5⟩
theorem HeldR.drew {w:World} {r:Nat} {e:TypeId} {ps:List (Nat×Value×Value×Value)} {w':World} (h:HeldR w r e ps w'):HeldR w r e ps w'.drew:=by
 obtain⟨h1,h2,h3,h4⟩:=h
 exact⟨h1.drew,h2,h3,h4⟩
theorem Obj3.far {w:World} {g r:Nat} {x y z:Value} {e:TypeId} (h:Obj3 w g x y z e) (hr:g≠r) (i:Nat) (u:Value):Obj3 (w.setCell ⟨r,i,none⟩ u) g x y z e:=(Below.heap_setCell w ⟨r,i,none⟩ u g hr).trans h
theorem HeldR.set0 {w:World} {r:Nat} {e:TypeId} {ps:List (Nat×Value×Value×Value)} {w':World} (h:HeldR w r e ps w') {u:Value} (hu:Qao u):HeldR w r e ps (w'.setCell ⟨r,0,none⟩ u):=by
 obtain⟨h1,h2,h3,a,b,c,h4,h5,h6,h7⟩:=h
 exact⟨h1.setCell h2 _,h2,fun p hp=>⟨(h3 p hp).1,(h3 p hp).2.far (h3 p hp).1 _ _⟩,u,b,c,h4.set0 u,hu,h6,h7⟩
theorem HeldR.set1 {w:World} {r:Nat} {e:TypeId} {ps:List (Nat×Value×Value×Value)} {w':World} (h:HeldR w r e ps w') {u:Value} (hu:Qao u):HeldR w r e ps (w'.setCell ⟨r,1,none⟩ u):=by
 obtain⟨h1,h2,h3,a,b,c,h4,h5,h6,h7⟩:=h
 exact⟨h1.setCell h2 _,h2,fun p hp=>⟨(h3 p hp).1,(h3 p hp).2.far (h3 p hp).1 _ _⟩,a,u,c,h4.set1 u,h5,hu,h7⟩
theorem HeldR.set2 {w:World} {r:Nat} {e:TypeId} {ps:List (Nat×Value×Value×Value)} {w':World} (h:HeldR w r e ps w') {u:Value} (hu:Qao u):HeldR w r e ps (w'.setCell ⟨r,2,none⟩ u):=by
 obtain⟨h1,h2,h3,a,b,c,h4,h5,h6,h7⟩:=h
 exact⟨h1.setCell h2 _,h2,fun p hp=>⟨(h3 p hp).1,(h3 p hp).2.far (h3 p hp).1 _ _⟩,a,b,u,h4.set2 u,h5,h6,hu⟩
theorem HeldR.sets {w:World} {r:Nat} {e:TypeId} {ps:List (Nat×Value×Value×Value)} {w':World} {p:Prop} (h:HeldR w r e ps w'∧p) (b:Bool) (A1 A2:Option Addr) (l1 l2 c1 c2:Nat):
  HeldR w r e ps (((w'.setCell ⟨r,0,none⟩ (.bool b)).setCell ⟨r,1,none⟩ (.slice A1 l1 c1)).setCell ⟨r,2,none⟩ (.slice A2 l2 c2)):=
 ((h.1.set0 (Yw _)).set1 (Q7 _ _ _)).set2 (Q7 _ _ _)
theorem HeldR.cells {w:World} {r:Nat} {e:TypeId} {ps:List (Nat×Value×Value×Value)} {w':World} (h:HeldR w r e ps w'):
  w'.cell? ⟨r,0,none⟩=some (cv w' ⟨r,0,none⟩)∧w'.cell? ⟨r,1,none⟩=some (cv w' ⟨r,1,none⟩)∧w'.cell? ⟨r,2,none⟩=some (cv w' ⟨r,2,none⟩)∧w'.frozen? ⟨r,0,none⟩=false∧w'.frozen? ⟨r,1,none⟩=false∧w'.frozen? ⟨r,2,none⟩=false:=by
 obtain⟨_,_,_,a,b,c,h4,_⟩:=h
 exact⟨cv_eq h4.c0,cv_eq h4.c1,cv_eq h4.c2,h4.fz 0,h4.fz 1,h4.fz 2⟩
theorem HeldR.fin {w:World} {r:Nat} {e:TypeId} {ps:List (Nat×Value×Value×Value)} {w':World} {q:Rat} {neg:Bool} {A1 A2:Option Addr} {l1 l2 c1 c2:Nat} (h:HeldR w r e ps w') (hn:decide (q.num<0)=neg) (h1:Num .u64 Qb w' (.slice A1 l1 c1) q.num.natAbs) (h2:Num .u64 Qb w' (.slice A2 l2 c2) (Qm q.den)):
  ∃wf,((w'.setCell ⟨r,0,none⟩ (.bool neg)).setCell ⟨r,1,none⟩ (.slice A1 l1 c1)).setCell ⟨r,2,none⟩ (.slice A2 l2 c2)=wf∧wf.cell? ⟨r,0,none⟩=some (.bool neg)∧wf.cell? ⟨r,1,none⟩=some (.slice A1 l1 c1)∧wf.cell? ⟨r,2,none⟩=some (.slice A2 l2 c2) ∧
   RetRat w q (.returned (.agg #[.bool neg,.slice A1 l1 c1,.slice A2 l2 c2])) wf:=by
 obtain⟨g1,g2,_,a,b,c,h4,h5,h6,h7⟩:=h
 exact Qct g2 g1 h4 h5 h6 h7 hn h1 h2

set_option maxHeartbeats 1000000 in
theorem neg_num (w:World) (v:Value) (q:Rat) (hx:IsRat w v q):Calls Try.prog 22 #[v] w (RetRat w (-q)):=by
 obtain⟨vx1,vx2,rfl,hxa,hxb⟩:=id hx
 obtain⟨Ax1,cx1,rfl,_⟩:=id hxa
 obtain⟨Ax2,cx2,rfl,_⟩:=id hxb
 have hf:=neg_flag q
 have hn:(-q).num.natAbs=q.num.natAbs:=by rw[Rat.neg_num,Int.natAbs_neg]
 have hd:(-q).den=q.den:=rfl
 generalize decide (q.num<0)=neg at *
 cases neg
 ·simp only[Bool.not_false,Bool.true_and]at hf
  go_enter Try.func22,Try.ntmps22
  go_wp2_with fail
  obtain⟨w1,e1,o1,b1,s1⟩:=Yz w (.bool false) (.slice Ax1 (digs Qb q.num.natAbs).length cx1) (.slice Ax2 (digs Qb (Qm q.den)).length cx2) 32
  obtain⟨w2,e2,o2,b2,s2⟩:=Yz w1 (.bool false) (.slice none 0 0) (.slice none 0 0) 32
  rw[e1,e2]
  rw[s1]at o2
  have p1:=(o1.gone b2)
  have p2:=o2
  have B0:=(b1.trans (b2.mono b1.size))
  have hS:∀w',HeldR w (w.heap.size+1) 32 [(w.heap.size,.bool false,.slice Ax1 (digs Qb q.num.natAbs).length cx1,.slice Ax2 (digs Qb (Qm q.den)).length cx2)] w'→HeldR w (w.heap.size+1) 32 [(w.heap.size,.bool false,.slice Ax1 (digs Qb q.num.natAbs).length cx1,.slice Ax2 (digs Qb (Qm q.den)).length cx2)] w'∧w'.cell? ⟨w.heap.size,0,none⟩=some (.bool false)∧w'.cell? ⟨w.heap.size,1,none⟩=some (.slice Ax1 (digs Qb q.num.natAbs).length cx1)∧w'.cell? ⟨w.heap.size,2,none⟩=some (.slice Ax2 (digs Qb (Qm q.den)).length cx2)∧w'.cell? ⟨w.heap.size+1,0,none⟩=some (cv w' ⟨w.heap.size+1,0,none⟩)∧w'.cell? ⟨w.heap.size+1,1,none⟩=some (cv w' ⟨w.heap.size+1,1,none⟩)∧w'.cell? ⟨w.heap.size+1,2,none⟩=some (cv w' ⟨w.heap.size+1,2,none⟩)∧w'.frozen? ⟨w.heap.size+1,0,none⟩=false∧w'.frozen? ⟨w.heap.size+1,1,none⟩=false∧w'.frozen? ⟨w.heap.size+1,2,none⟩=false:=fun w' hh=>by
   obtain⟨f0,f1,f2,f3,f4,f5⟩:=hh.cells
   have q1:=(hh.2.2.1 (w.heap.size,.bool false,.slice Ax1 (digs Qb q.num.natAbs).length cx1,.slice Ax2 (digs Qb (Qm q.den)).length cx2) (by simp)).2
   exact⟨hh,q1.c0,q1.c1,q1.c2,f0,f1,f2,f3,f4,f5⟩
  have H0:HeldR w (w.heap.size+1) 32 [(w.heap.size,.bool false,.slice Ax1 (digs Qb q.num.natAbs).length cx1,.slice Ax2 (digs Qb (Qm q.den)).length cx2)] w2:=⟨B0,by omega,by intro p hp; simp at hp; subst hp; exact⟨by simp,p1⟩,_,_,_,p2,Yw _,Q7 _ _ _,Q7 _ _ _⟩
  clear e1 e2
  have hz:=H0.drew
  go_region_held3 (fun w'=>HeldR w (w.heap.size+1) 32 [(w.heap.size,.bool false,.slice Ax1 (digs Qb q.num.natAbs).length cx1,.slice Ax2 (digs Qb (Qm q.den)).length cx2)] w'∧w'.cell? ⟨w.heap.size,0,none⟩=some (.bool false)∧w'.cell? ⟨w.heap.size,1,none⟩=some (.slice Ax1 (digs Qb q.num.natAbs).length cx1)∧w'.cell? ⟨w.heap.size,2,none⟩=some (.slice Ax2 (digs Qb (Qm q.den)).length cx2)∧w'.cell? ⟨w.heap.size+1,0,none⟩=some (cv w' ⟨w.heap.size+1,0,none⟩)∧w'.cell? ⟨w.heap.size+1,1,none⟩=some (cv w' ⟨w.heap.size+1,1,none⟩)∧w'.cell? ⟨w.heap.size+1,2,none⟩=some (cv w' ⟨w.heap.size+1,2,none⟩)∧w'.frozen? ⟨w.heap.size+1,0,none⟩=false∧w'.frozen? ⟨w.heap.size+1,1,none⟩=false∧w'.frozen? ⟨w.heap.size+1,2,none⟩=false)
   (first|exact hS _ hz|exact hS _ (HeldR.sets (by assumption) _ _ _ _ _ _ _))
   (first
    |((go_at_call 13; refine(Qdq _ _ q (hx.below (And.left (And.left (by assumption))))).mono ?_; rintro e wz ⟨rfl,hb⟩); have hz:=HeldR.call (by assumption) hb))
  all_goals (
   go_wp2
   obtain⟨wf,HW,f0,f1,f2,hfin⟩:=hz.fin (q :=-q) hf (by rw[hn]; exact hxa.below hz.1) (by rw[hd]; exact hxb.below hz.1)
   (try rw[HW])
   (try simp only[Exit.inBlock,Exit.then])
   refine bodyPost_ret (by simp[results,Try.results22,go_sem,f0,f1,f2]; try rfl) rfl ?_
   first|exact hfin|exact hfin.drew)
 ·simp only[Bool.not_true,Bool.false_and]at hf
  go_enter Try.func22,Try.ntmps22
  go_wp2_with fail
  obtain⟨w1,e1,o1,b1,s1⟩:=Yz w (.bool true) (.slice Ax1 (digs Qb q.num.natAbs).length cx1) (.slice Ax2 (digs Qb (Qm q.den)).length cx2) 32
  obtain⟨w2,e2,o2,b2,s2⟩:=Yz w1 (.bool false) (.slice none 0 0) (.slice none 0 0) 32
  rw[e1,e2]
  rw[s1]at o2
  have p1:=(o1.gone b2)
  have p2:=o2
  have B0:=(b1.trans (b2.mono b1.size))
  have hS:∀w',HeldR w (w.heap.size+1) 32 [(w.heap.size,.bool true,.slice Ax1 (digs Qb q.num.natAbs).length cx1,.slice Ax2 (digs Qb (Qm q.den)).length cx2)] w'→HeldR w (w.heap.size+1) 32 [(w.heap.size,.bool true,.slice Ax1 (digs Qb q.num.natAbs).length cx1,.slice Ax2 (digs Qb (Qm q.den)).length cx2)] w'∧w'.cell? ⟨w.heap.size,0,none⟩=some (.bool true)∧w'.cell? ⟨w.heap.size,1,none⟩=some (.slice Ax1 (digs Qb q.num.natAbs).length cx1)∧w'.cell? ⟨w.heap.size,2,none⟩=some (.slice Ax2 (digs Qb (Qm q.den)).length cx2)∧w'.cell? ⟨w.heap.size+1,0,none⟩=some (cv w' ⟨w.heap.size+1,0,none⟩)∧w'.cell? ⟨w.heap.size+1,1,none⟩=some (cv w' ⟨w.heap.size+1,1,none⟩)∧w'.cell? ⟨w.heap.size+1,2,none⟩=some (cv w' ⟨w.heap.size+1,2,none⟩)∧w'.frozen? ⟨w.heap.size+1,0,none⟩=false∧w'.frozen? ⟨w.heap.size+1,1,none⟩=false∧w'.frozen? ⟨w.heap.size+1,2,none⟩=false:=fun w' hh=>by
   obtain⟨f0,f1,f2,f3,f4,f5⟩:=hh.cells
   have q1:=(hh.2.2.1 (w.heap.size,.bool true,.slice Ax1 (digs Qb q.num.natAbs).length cx1,.slice Ax2 (digs Qb (Qm q.den)).length cx2) (by simp)).2
   exact⟨hh,q1.c0,q1.c1,q1.c2,f0,f1,f2,f3,f4,f5⟩
  have H0:HeldR w (w.heap.size+1) 32 [(w.heap.size,.bool true,.slice Ax1 (digs Qb q.num.natAbs).length cx1,.slice Ax2 (digs Qb (Qm q.den)).length cx2)] w2:=⟨B0,by omega,by intro p hp; simp at hp; subst hp; exact⟨by simp,p1⟩,_,_,_,p2,Yw _,Q7 _ _ _,Q7 _ _ _⟩
  clear e1 e2
  have hz:=H0
  obtain⟨_,k0,k1,k2,k3,k4,k5,k6,k7,k8⟩:=hS _ H0
  go_region
  all_goals (
   go_wp2
   obtain⟨wf,HW,f0,f1,f2,hfin⟩:=hz.fin (q :=-q) hf (by rw[hn]; exact hxa.below hz.1) (by rw[hd]; exact hxb.below hz.1)
   (try rw[HW])
   (try simp only[Exit.inBlock,Exit.then])
   refine bodyPost_ret (by simp[results,Try.results22,go_sem,f0,f1,f2]; try rfl) rfl ?_
   first|exact hfin|exact hfin.drew)
end Wx

namespace Wx
open Go Go.RowKit

theorem rd_box {M:Nat→Nat→Prop} {w:World} {k:IntKind} {A:Option Addr} {c:Nat} {l:List Nat} (hM:Mid M w) (hk:k=.u64∨k=.u32) (h:Rd w k A c l):Box M (fun w=>Rd w k A c l) w:=by
 intro w' he
 obtain⟨h1,h2,h3⟩:=h
 refine⟨h1,h2,fun hne=>?_⟩
 obtain⟨b,o,e,hc⟩:=h3 hne
 refine⟨b,o,e,fun i hi=>he.cell b (o+i) _ (fun hm=>?_) (hc i hi)⟩
 have:=(hM b (o+i) hm).2 _ (hc i hi)
 rcases hk with rfl|rfl
 ·exact(this _).1 rfl
 ·exact(this _).2 rfl
theorem num_box {M:Nat→Nat→Prop} {w:World} {k:IntKind} {b:Nat} {v:Value} {n:Nat} (hM:Mid M w) (hk:k=.u64∨k=.u32) (h:Num k b w v n):Box M (fun w=>Num k b w v n) w:=by
 obtain⟨A,c,rfl,hr⟩:=h
 exact fun w' he=>⟨A,c,rfl,rd_box hM hk hr w' he⟩
def Qk (q:Rat):Qj:=fun w v=>IsRat w v q
theorem Xr (q:Rat):Zs (Qk q):=by
 rintro M w v hM ⟨vn,vd,rfl,h1,h2⟩ w' he
 exact⟨vn,vd,rfl,num_box hM (.inl rfl) h1 w' he,num_box hM (.inl rfl) h2 w' he⟩
theorem noU_bool (b:Bool):Yr (.bool b):=fun _=>⟨(by simp),by simp⟩
theorem Kp (A:Option Addr) (l c:Nat):Yr (.slice A l c):=fun _=>⟨(by simp),by simp⟩
theorem noU_i64 (n:Int):Yr (.int .i64 n):=fun _=>⟨(by simp),by simp⟩
theorem noU_i8 (n:Int):Yr (.int .i8 n):=fun _=>⟨(by simp),by simp⟩
theorem Xb (q:Rat):Jn 3 true (Qk q):=by
 rintro w v ⟨vn,vd,rfl,h1,h2⟩
 obtain⟨A,c,rfl,_⟩:=h1
 obtain⟨B,d,rfl,_⟩:=h2
 refine⟨[_,_,_],rfl,rfl,rfl,?_⟩
 intro u hu
 simp at hu
 rcases hu with rfl|rfl|rfl
 ·exact⟨noU_bool _,rfl⟩
 ·exact⟨Kp _ _ _,rfl⟩
 ·exact⟨Kp _ _ _,rfl⟩
theorem fits_eq {v:Value} (hn:Yr v) (h1:v.oneCell'=true) (hc:v.cells=#[v]):Jn 1 false (Qe v):=by
 intro w u hu
 have hu:u=v:=hu
 subst hu
 refine⟨[u],rfl,rfl,hc,?_⟩
 intro x hx
 simp at hx
 subst hx
 exact⟨hn,h1⟩
theorem fits_int (n:Int):Jn 1 false (pI n):=fits_eq (noU_i64 n) rfl rfl
theorem fits_bool (b:Bool):Jn 1 false (pB b):=fits_eq (noU_bool b) rfl rfl
theorem fits_i8 (n:Int):Jn 1 false (Qe (.int .i8 n)):=fits_eq (noU_i8 n) rfl rfl
structure Fd where
 agg:Bool
 n:Nat
 p:Qj
def Jp:List Fd→World→List Value→Prop
 |[],_,cs=>cs=[]
 |f::fs,w,cs=>f.n≤cs.length∧f.p w (Q6 f.agg (cs.take f.n))∧Jp fs w (cs.drop f.n)
def pS (fs:List Fd):Qj:=fun w v=>∃cs:List Value,v=.agg cs.toArray∧Jp fs w cs
def Xy:List Fd→Nat→Nat
 |[],_=>0
 |_::_,0=>0
 |f::fs,k+1=>f.n+Xy fs k
def sizeS:List Fd→Nat
 |[]=>0
 |f::fs=>f.n+sizeS fs
theorem Qa7:∀{fs:List Fd} {w:World} {cs:List Value},Jp fs w cs→cs.length=sizeS fs:=by
 intro fs
 induction fs with
 |nil=>intro w cs h; rw[show cs=[]from h]; rfl
 |cons f fs ih=>
  intro w cs h
  obtain⟨h1,_,h3⟩:=h
  have:=ih h3
  rw[List.length_drop]at this
  simp only[sizeS]
  omega
theorem pCells_get:∀{fs:List Fd} {w:World} {cs:List Value} {k:Nat} {f:Fd},Jp fs w cs→fs[k]?=some f→f.p w (Q6 f.agg ((cs.drop (Xy fs k)).take f.n)):=by
 intro fs
 induction fs with
 |nil=>intro w cs k f _ hk; simp at hk
 |cons g fs ih=>
  intro w cs k f h hk
  obtain⟨h1,h2,h3⟩:=h
  cases k with
  |zero=>simp at hk; subst hk; exact h2
  |succ k=>
   have:=ih h3 (by simpa using hk)
   rw[List.drop_drop]at this
   exact this
theorem Qcf {cs ds:List Value} (h:Q6 true cs=Q6 true ds):cs=ds:=by
 simp only[Q6,if_true]at h
 injection h with h
 have:=congrArg Array.toList h
 simpa using this
theorem Us {fs:List Fd} {N:Nat} (k:Nat) {f:Fd} (hk:fs[k]?=some f) {off:Nat} (ho:Xy fs k=off):∀w cs,cs.length=N→pS fs w (Q6 true cs)→f.p w (Q6 f.agg ((cs.drop off).take f.n)):=by
 rintro w cs _ ⟨ds,e,h⟩
 have:=Qcf (show Q6 true cs=Q6 true ds from e)
 subst this
 rw[← ho]
 exact pCells_get h hk
theorem pCells_set:∀{fs:List Fd} {w:World} {cs ds:List Value} {k:Nat} {f:Fd} {q:Qj},Jp fs w cs→fs[k]?=some f→ds.length=f.n→q w (Q6 f.agg ds)→Jp (fs.set k ⟨f.agg,f.n,q⟩) w (cs.take (Xy fs k)++ds++cs.drop (Xy fs k+f.n)):=by
 intro fs
 induction fs with
 |nil=>intro w cs ds k f q _ hk; simp at hk
 |cons g fs ih=>
  intro w cs ds k f q h hk hl hq
  obtain⟨h1,h2,h3⟩:=h
  cases k with
  |zero=>
   simp at hk
   subst hk
   refine⟨by simp[Xy,hl],?_,?_⟩
   ·simp[Xy,← hl]; exact hq
   ·simp[Xy,← hl]
    rw[hl]
    exact h3
  |succ k=>
   have:=ih h3 (by simpa using hk) hl hq
   have hlen:=Qa7 h3
   refine⟨?_,?_,?_⟩
   ·show g.n≤(cs.take (g.n+Xy fs k)++ds++cs.drop (g.n+Xy fs k+f.n)).length
    simp only[List.length_append,List.length_take,List.length_drop]
    omega
   ·have e:((cs.take (g.n+Xy fs k)++ds++cs.drop (g.n+Xy fs k+f.n)).take g.n)=cs.take g.n:=by
     rw[List.append_assoc,List.take_append_of_le_length (by simp; omega),List.take_take]
     congr 1; omega
    show g.p w (Q6 g.agg ((cs.take (g.n+Xy fs k)++ds++cs.drop (g.n+Xy fs k+f.n)).take g.n))
    rw[e]; exact h2
   ·show Jp _ w ((cs.take (g.n+Xy fs k)++ds++cs.drop (g.n+Xy fs k+f.n)).drop g.n)
    have e:((cs.take (g.n+Xy fs k)++ds++cs.drop (g.n+Xy fs k+f.n)).drop g.n)=(cs.drop g.n).take (Xy fs k)++ds++(cs.drop g.n).drop (Xy fs k+f.n):=by
     have e1:g.n+Xy fs k-g.n=Xy fs k:=by omega
     have e2:g.n+(Xy fs k+f.n)=g.n+Xy fs k+f.n:=by omega
     rw[List.append_assoc,List.drop_append_of_le_length (by simp; omega),List.drop_take,e1,List.append_assoc,List.drop_drop,e2]
    rw[e]; exact this
def AllFits:List Fd→Prop
 |[]=>True
 |f::fs=>Jn f.n f.agg f.p∧AllFits fs
theorem fits_s {fs:List Fd} (h:AllFits fs) {n:Nat} (hn:sizeS fs=n):Jn n true (pS fs):=by
 rintro w v ⟨cs,rfl,hc⟩
 refine⟨cs,rfl,by rw[← hn]; exact Qa7 hc,rfl,?_⟩
 have key:∀(fs:List Fd),AllFits fs→∀cs,Jp fs w cs→∀u∈cs,Yr u∧u.oneCell'=true:=by
  intro fs
  induction fs with
  |nil=>intro _ cs h u hu; rw[show cs=[]from h]at hu; cases hu
  |cons f fs ih=>
   rintro⟨h0,h0'⟩ cs ⟨h1,h2,h3⟩ u hu
   rw[← List.take_append_drop f.n cs,List.mem_append]at hu
   rcases hu with hu|hu
   ·obtain⟨ds,e,hl,hcells,h4⟩:=h0 w _ h2
    have:cs.take f.n=ds:=by
     cases hagg:f.agg with
     |true=>rw[hagg]at e; exact Qcf e
     |false=>
      rw[hagg]at e hcells
      have hc1:=hcells
      rw[e]at hc1
      match ds,hl,h4 with
      |[x],hl,h4=>
       have hl':(cs.take f.n).length=1:=by rw[List.length_take]; simp at hl; omega
       match hct:cs.take f.n,hl' with
       |[y],_=>
        rw[hct]at e
        simp only[Q6,Bool.false_eq_true,if_false,List.headD_cons]at e
        rw[e]
      |[],hl,_=>
       exfalso
       simp only[Q6,Bool.false_eq_true,if_false,List.headD_nil,undef,Value.cells]at hc1
       exact absurd (congrArg Array.size hc1) (by simp)
      |x::y::ds,hl,h4=>
       exfalso
       have:=h4 x (by simp)
       simp only[Q6,Bool.false_eq_true,if_false,List.headD_cons]at hc1
       cases x<;>simp[Value.oneCell',Value.cells]at this hc1
    rw[this]at hu
    exact h4 u hu
   ·exact ih h0' _ h3 u hu
 exact key fs h cs hc
theorem pS_of' {fs:List Fd} {w:World} {cs:List Value} (h:Jp fs w cs):pS fs w (.agg cs.toArray):=⟨cs,rfl,h⟩
end Wx

namespace Wx
open Go Go.RowKit

def BuildTy (P:Program) (T:TypeId) (pl:Array (Nat×Nat)) (z:List Value):Prop:=
 ∀parts,P.built T parts=Instr.fill (fun i=>pl[i]?) z.toArray parts
theorem foldl_set (ds:List Value):∀(k:Nat) (cs:List Value) (off:Nat),off+k+ds.length≤cs.length →
  ((ds.zipIdx k).foldl (fun(cs:Array Value) (q:Value×Nat)=>cs.setIfInBounds (off+q.2) q.1) cs.toArray)=(cs.take (off+k)++ds++cs.drop (off+k+ds.length)).toArray:=by
 induction ds with
 |nil=>intro k cs off _; simp
 |cons d ds ih=>
  intro k cs off h
  simp only[List.zipIdx_cons,List.foldl_cons]
  have e:cs.toArray.setIfInBounds (off+k) d=(cs.set (off+k) d).toArray:=by simp
  rw[e,ih (k+1) (cs.set (off+k) d) off (by simp at h ⊢; omega)]
  congr 1
  have:=list_seg_step cs (off+k) d ds (by simp at h; omega)
  simpa [Nat.add_assoc,Nat.add_comm 1,Nat.add_left_comm 1] using this
def Fd.form (g:Fd):Bool×Nat:=(g.agg,g.n)
def setF (fs:List Fd) (k:Nat) (p:Qj):List Fd:=match fs[k]? with
 |some f=>fs.set k ⟨f.agg,f.n,p⟩
 |none=>fs
def setsF:List Fd→List (Nat×Qj)→List Fd
 |fs,[]=>fs
 |fs,(k,p)::r=>setsF (setF fs k p) r
def Parts (fs:List Fd) (w:World):List (Nat×Value)→List (Nat×Qj)→Prop
 |[],[]=>True
 |(i,v)::vs,(k,p)::ps=>(i=k∧p w v∧∃f,fs[k]?=some f∧Jn f.n f.agg p)∧Parts fs w vs ps
 |_,_=>False
theorem shape_set {fs:List Fd} {k:Nat} {f:Fd} {p:Qj} (hk:fs[k]?=some f):∀j:Nat,((fs.set k ⟨f.agg,f.n,p⟩)[j]?).map Fd.form=(fs[j]?).map Fd.form:=by
 intro j
 rw[List.getElem?_set]
 by_cases h:k=j
 ·subst h
  simp only[if_true]
  split
  ·rw[hk]; rfl
  ·rename_i hlt
   rw[hk]
   rw[List.getElem?_eq_none (by omega)]at hk
   cases hk
 ·rw[if_neg h]
theorem off_set {fs:List Fd} {k:Nat} {f:Fd} {p:Qj} (hk:fs[k]?=some f):∀j,Xy (fs.set k ⟨f.agg,f.n,p⟩) j=Xy fs j:=by
 induction fs generalizing k with
 |nil=>simp at hk
 |cons g fs ih=>
  intro j
  cases k with
  |zero=>
   simp at hk
   subst hk
   cases j<;>rfl
  |succ k=>
   cases j with
   |zero=>rfl
   |succ j=>simp only[List.set_cons_succ,Xy]; rw[ih (by simpa using hk)]
theorem Parts.shape {w:World}:∀{vs:List (Nat×Value)} {ps:List (Nat×Qj)} {fs gs:List Fd},(∀j:Nat,(gs[j]?).map Fd.form=(fs[j]?).map Fd.form)→Parts fs w vs ps→Parts gs w vs ps:=by
 intro vs
 induction vs with
 |nil=>intro ps fs gs h hp; cases ps<;>exact hp
 |cons v vs ih=>
  intro ps fs gs h hp
  cases ps with
  |nil=>exact hp
  |cons q ps=>
   obtain⟨i,v⟩:=v
   obtain⟨k,p⟩:=q
   obtain⟨⟨e,hv,f,hf,hfit⟩,hr⟩:=hp
   refine⟨⟨e,hv,?_⟩,ih h hr⟩
   have:=h k
   rw[hf]at this
   cases hg:gs[k]? with
   |none=>rw[hg]at this; cases this
   |some g=>
    rw[hg]at this
    simp only[Option.map_some,Option.some.injEq,Fd.form,Prod.mk.injEq]at this
    exact⟨g,rfl,by rw[this.1,this.2]; exact hfit⟩
theorem fits_cells {n:Nat} {agg:Bool} {p:Qj} (hf:Jn n agg p) {w:World} {v:Value} (h:p w v):∃cs:List Value,v=Q6 agg cs∧cs.length=n∧v.cells=cs.toArray:=by
 obtain⟨cs,h1,h2,h3,_⟩:=hf w v h
 exact⟨cs,h1,h2,h3⟩
theorem fill_ok {pl:Nat→Option (Nat×Nat)} {w:World}:∀(vs:List (Nat×Value)) (ps:List (Nat×Qj)) (fs:List Fd) (cs:List Value),(∀(k:Nat) (f:Fd),fs[k]?=some f→pl k=some (Xy fs k,f.n))→Jp fs w cs→Parts fs w vs ps →
  ∃cs':List Value,Instr.fill pl cs.toArray vs=some cs'.toArray∧Jp (setsF fs ps) w cs'∧∀w',Jp fs w' cs→Parts fs w' vs ps→Jp (setsF fs ps) w' cs':=by
 intro vs
 induction vs with
 |nil=>
  intro ps fs cs hpl hc hp
  cases ps with
  |nil=>exact⟨cs,rfl,hc,fun _ h _=>h⟩
  |cons q ps=>exact hp.elim
 |cons v vs ih=>
  intro ps fs cs hpl hc hp
  cases ps with
  |nil=>exact hp.elim
  |cons q ps=>
   obtain⟨i,v⟩:=v
   obtain⟨k,p⟩:=q
   obtain⟨⟨rfl,hv,f,hf,hfit⟩,hr⟩:=hp
   obtain⟨ds,e,hl,hcells⟩:=fits_cells hfit hv
   have Xs:∀w',Jp fs w' cs→p w' v→Jp (setF fs i p) w' (cs.take (Xy fs i)++ds++cs.drop (Xy fs i+f.n)):=fun w' h1 h2=>by
    unfold setF
    rw[hf]
    exact pCells_set h1 hf hl (by rw[← e]; exact h2)
   have hlen:=Qa7 hc
   have hoff:Xy fs i+f.n≤sizeS fs:=by
    clear hpl hr Xs hlen ih hc
    induction fs generalizing i with
    |nil=>simp at hf
    |cons g fs ih2=>
     cases i with
     |zero=>simp at hf; subst hf; simp[Xy,sizeS]
     |succ i=>have:=ih2 i (by simpa using hf); simp only[Xy,sizeS]; omega
   have hsh:∀j:Nat,((setF fs i p)[j]?).map Fd.form=(fs[j]?).map Fd.form:=by
    unfold setF; rw[hf]; exact shape_set hf
   obtain⟨cs',h1,h2,h3⟩:=ih ps (setF fs i p) (cs.take (Xy fs i)++ds++cs.drop (Xy fs i+f.n)) (fun k g hg=>by
     have h4:=hsh k
     rw[hg]at h4
     cases hk:fs[k]? with
     |none=>rw[hk]at h4; cases h4
     |some g'=>
      rw[hk]at h4
      simp only[Option.map_some,Option.some.injEq,Fd.form,Prod.mk.injEq]at h4
      rw[hpl k g' hk,h4.2]
      have:Xy (setF fs i p) k=Xy fs k:=by unfold setF; rw[hf]; exact off_set hf k
      rw[this]) (Xs w hc hv) (hr.shape hsh)
   refine⟨cs',?_,h2,fun w' k1 k2=>h3 w' (Xs w' k1 k2.1.2.1) (k2.2.shape hsh)⟩
   have hsz:v.cells.size=f.n:=by rw[hcells]; simpa using hl
   have:=foldl_set ds 0 cs (Xy fs i) (by omega)
   simp only[Nat.add_zero,hl]at this
   unfold Instr.fill
   simp only[hpl i f hf,hsz,ne_eq,not_true_eq_false,decide_false,Bool.false_or]
   rw[if_neg (by simp; omega),hcells,show ds.toArray.zipIdx=(ds.zipIdx 0).toArray by simp]
   rw[← h1,← this]
   congr 1
   simp
section
variable {P:Program} {ops:Array Oper} {ms:List Nat} {c:Cfg} {V:List Vr} {A:List Al} {G:List Ent} {i:Nat}
variable {d:Nat} {x y:Operand} {ty:TypeId} {pos:String} {aft:Array Edge}
def U3 (ms:List Nat) (G:List Ent) (i:Nat) (fs:List Fd):List (Nat×Operand)→List (Nat×Qj)→Prop
 |[],[]=>True
 |(j,x)::xs,(k,p)::ps=>(j=k∧Has ms G i x p∧∃f,fs[k]?=some f∧Jn f.n f.agg p)∧U3 ms G i fs xs ps
 |_,_=>False
theorem op_zero {T:TypeId} {pl:Array (Nat×Nat)} {z:List Value} {p:Qj} (ht:BuildTy P T pl z) (hz:∀w,p w (.agg z.toArray)) (hp:Post G i p):
  Xf P ops ms c V A G i ⟨some d,.build T #[],ty,pos,aft,none⟩:=
 op_val0 rfl rfl rfl rfl hp fun ρ w=>⟨.agg z.toArray,by
  show(do pure (Next.value (← Instr.build T ((#[]:Array (Nat×Operand)).map fun(i,x)=>(i,ρ x))))).run P w=_
  rw[Sem.run_bind,run_build w T _ z.toArray (by rw[ht]; simp[Instr.fill])]
  rfl,hz⟩
end
end Wx
