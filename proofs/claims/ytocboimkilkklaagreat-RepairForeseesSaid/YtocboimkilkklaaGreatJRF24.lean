import Derived.Test.YtocboimkilkklaaGreatJRF23
import Derived.Laws.Slices
import Derived.Test.YtocboimkilkklaaGreatJRF21
namespace Wx
set_option maxRecDepth 100000
open Go Go.RowKit Go.Proofs
set_option linter.unusedVariables false
def dV (w:World) (e:TypeId) (ps:List (Nat×Value×Value×Value)) (w':World):Prop:=Below w.heap.size w w'/\(∀p∈ps,dG w' p.1 p.2.1 p.2.2.1 p.2.2.2 e)
variable {w:World} {e:TypeId} {ps:List (Nat×Value×Value×Value)} {w':World}
theorem dV.call {w'':World} {p:Prop} (h:dV w e ps w'/\p) (hb:Below w'.heap.size w' w''):dV w e ps w'':=by
 obtain⟨⟨h1,h3⟩,_⟩:=h
 exact⟨h1.trans (hb.mono h1.size),λp hp=>(h3 p hp).gone hb⟩
theorem dV.drew (h:dV w e ps w'):dV w e ps w'.drew:=⟨h.1.drew,h.2⟩
def KU (x y:Rat):Int:=if dS x=dS y then bK (x.num.natAbs*y.den) (y.num.natAbs*x.den)*dS x else if dS x<dS y then -1 else 1
theorem Cf (m n:Nat):bK m n = -1\/bK m n=0\/bK m n=1:=by
 unfold bK
 split
 ·exact .inl rfl
 ·split
  ·exact .inr (.inr rfl)
  ·exact .inr (.inl rfl)
theorem C8 (x:Rat):dS x = -1\/dS x=0\/dS x=1:=by
 unfold dS
 split
 ·exact .inl rfl
 ·split
  ·exact .inr (.inl rfl)
  ·exact .inr (.inr rfl)
theorem CY {a b:Int} (h1:a = -1\/a=0\/a=1) (h2:b = -1\/b=0\/b=1):IntKind.i64.wrap (a*b)=a*b:=by
 rcases h1 with rfl|rfl|rfl<;>rcases h2 with rfl|rfl|rfl<;>rfl
set_option maxHeartbeats 8000000 in
theorem Qz (w:World) (vx vy:Value) (x y:Rat) (hx:cq w vx x) (hy:cq w vy y) (hs:¬dS x=dS y) (hl:dS x<dS y):Calls Tryz.prog 46 #[vx,vy] w (dY w (.int .i64 (-1))):=by
 obtain⟨oz,oA,rfl,cw,cT⟩:=id hx
 obtain⟨aV,aX,rfl,_⟩:=id cw
 obtain⟨aW,aY,rfl,_⟩:=id cT
 obtain⟨Kj,Kk,rfl,iS,iJ⟩:=id hy
 obtain⟨dL,dN,rfl,_⟩:=id iS
 obtain⟨dM,dO,rfl,_⟩:=id iJ
 obtain⟨sx,D3⟩:∃s,dS x=s:=⟨_,rfl⟩
 obtain⟨sy,Fw⟩:∃s,dS y=s:=⟨_,rfl⟩
 rw[D3,Fw]at hs
 rw[D3,Fw]at hl
 have PW:=bx D3
 have Ql:=bx Fw
 clear D3 Fw
 go_enter Tryz.func46,Tryz.ntmps46
 go_wp2_with fail
 obtain⟨w1,e1,o1,b1,s1⟩:=fh w (.bool (decide (x.num<0))) (.slice aV (ae b64 x.num.natAbs).length aX) (.slice aW (ae b64 (ah x.den)).length aY) 32
 obtain⟨w2,e2,o2,b2,s2⟩:=fh w1 (.bool (decide (y.num<0))) (.slice dL (ae b64 y.num.natAbs).length dN) (.slice dM (ae b64 (ah y.den)).length dO) 32
 rw[e1,e2]
 rw[s1]at o2
 have p1:=(o1.gone b2)
 have p2:=o2
 have B0:=(b1.trans (b2.mono b1.size))
 have hS:∀w',dV w 32 [(w.heap.size,.bool (decide (x.num<0)),.slice aV (ae b64 x.num.natAbs).length aX,.slice aW (ae b64 (ah x.den)).length aY),(w.heap.size+1,.bool (decide (y.num<0)),.slice dL (ae b64 y.num.natAbs).length dN,.slice dM (ae b64 (ah y.den)).length dO)] w'->dV w 32 [(w.heap.size,.bool (decide (x.num<0)),.slice aV (ae b64 x.num.natAbs).length aX,.slice aW (ae b64 (ah x.den)).length aY),(w.heap.size+1,.bool (decide (y.num<0)),.slice dL (ae b64 y.num.natAbs).length dN,.slice dM (ae b64 (ah y.den)).length dO)] w'/\w'.cell? ⟨w.heap.size,0,none⟩=some (.bool (decide (x.num<0)))/\w'.cell? ⟨w.heap.size,1,none⟩=some (.slice aV (ae b64 x.num.natAbs).length aX)/\w'.cell? ⟨w.heap.size,2,none⟩=some (.slice aW (ae b64 (ah x.den)).length aY)/\w'.cell? ⟨w.heap.size+1,0,none⟩=some (.bool (decide (y.num<0)))/\w'.cell? ⟨w.heap.size+1,1,none⟩=some (.slice dL (ae b64 y.num.natAbs).length dN)/\w'.cell? ⟨w.heap.size+1,2,none⟩=some (.slice dM (ae b64 (ah y.den)).length dO):=λw' hh=>by
  have q1:=(hh.2 (w.heap.size,.bool (decide (x.num<0)),.slice aV (ae b64 x.num.natAbs).length aX,.slice aW (ae b64 (ah x.den)).length aY) (by simp))
  have q2:=(hh.2 (w.heap.size+1,.bool (decide (y.num<0)),.slice dL (ae b64 y.num.natAbs).length dN,.slice dM (ae b64 (ah y.den)).length dO) (by simp))
  exact⟨hh,q1.c0,q1.c1,q1.c2,q2.c0,q2.c1,q2.c2⟩
 have H0:dV w 32 [(w.heap.size,.bool (decide (x.num<0)),.slice aV (ae b64 x.num.natAbs).length aX,.slice aW (ae b64 (ah x.den)).length aY),(w.heap.size+1,.bool (decide (y.num<0)),.slice dL (ae b64 y.num.natAbs).length dN,.slice dM (ae b64 (ah y.den)).length dO)] w2:=⟨B0,by intro p hp; simp at hp; rcases hp with rfl|rfl; exact p1; exact p2⟩
 clear e1 e2
 have hz:=H0.drew
 go_region_held3 (λw'=>dV w 32 [(w.heap.size,.bool (decide (x.num<0)),.slice aV (ae b64 x.num.natAbs).length aX,.slice aW (ae b64 (ah x.den)).length aY),(w.heap.size+1,.bool (decide (y.num<0)),.slice dL (ae b64 y.num.natAbs).length dN,.slice dM (ae b64 (ah y.den)).length dO)] w'/\w'.cell? ⟨w.heap.size,0,none⟩=some (.bool (decide (x.num<0)))/\w'.cell? ⟨w.heap.size,1,none⟩=some (.slice aV (ae b64 x.num.natAbs).length aX)/\w'.cell? ⟨w.heap.size,2,none⟩=some (.slice aW (ae b64 (ah x.den)).length aY)/\w'.cell? ⟨w.heap.size+1,0,none⟩=some (.bool (decide (y.num<0)))/\w'.cell? ⟨w.heap.size+1,1,none⟩=some (.slice dL (ae b64 y.num.natAbs).length dN)/\w'.cell? ⟨w.heap.size+1,2,none⟩=some (.slice dM (ae b64 (ah y.den)).length dO))
  (exact hS _ hz)
  (first
   |(go_at_call 31; have hc:=iE _ _ x (hx.below hz.1); (with_reducible refine Calls.mono hc ?_); clear hc; rintro e wz ⟨rfl,hb⟩; rw[PW.out]; (try have bV:=bV.below hb); (try have fK:=fK.below hb); (try have fJ:=fJ.below hb); (try have fI:=fI.below hb); have hz:=dV.call (by assumption) hb)
   |(go_at_call 31; have hc:=iE _ _ y (hy.below hz.1); (with_reducible refine Calls.mono hc ?_); clear hc; rintro e wz ⟨rfl,hb⟩; rw[Ql.out]; (try have bV:=bV.below hb); (try have fK:=fK.below hb); (try have fJ:=fJ.below hb); (try have fI:=fI.below hb); have hz:=dV.call (by assumption) hb))
 all_goals (
  go_wp2
  go_ret
  exact⟨rfl,hz.1⟩)
set_option maxHeartbeats 8000000 in
theorem QA (w:World) (vx vy:Value) (x y:Rat) (hx:cq w vx x) (hy:cq w vy y) (hs:¬dS x=dS y) (hl:¬dS x<dS y):Calls Tryz.prog 46 #[vx,vy] w (dY w (.int .i64 (1))):=by
 obtain⟨oz,oA,rfl,cw,cT⟩:=id hx
 obtain⟨aV,aX,rfl,_⟩:=id cw
 obtain⟨aW,aY,rfl,_⟩:=id cT
 obtain⟨Kj,Kk,rfl,iS,iJ⟩:=id hy
 obtain⟨dL,dN,rfl,_⟩:=id iS
 obtain⟨dM,dO,rfl,_⟩:=id iJ
 obtain⟨sx,D3⟩:∃s,dS x=s:=⟨_,rfl⟩
 obtain⟨sy,Fw⟩:∃s,dS y=s:=⟨_,rfl⟩
 rw[D3,Fw]at hs
 rw[D3,Fw]at hl
 have PW:=bx D3
 have Ql:=bx Fw
 clear D3 Fw
 go_enter Tryz.func46,Tryz.ntmps46
 go_wp2_with fail
 obtain⟨w1,e1,o1,b1,s1⟩:=fh w (.bool (decide (x.num<0))) (.slice aV (ae b64 x.num.natAbs).length aX) (.slice aW (ae b64 (ah x.den)).length aY) 32
 obtain⟨w2,e2,o2,b2,s2⟩:=fh w1 (.bool (decide (y.num<0))) (.slice dL (ae b64 y.num.natAbs).length dN) (.slice dM (ae b64 (ah y.den)).length dO) 32
 rw[e1,e2]
 rw[s1]at o2
 have p1:=(o1.gone b2)
 have p2:=o2
 have B0:=(b1.trans (b2.mono b1.size))
 have hS:∀w',dV w 32 [(w.heap.size,.bool (decide (x.num<0)),.slice aV (ae b64 x.num.natAbs).length aX,.slice aW (ae b64 (ah x.den)).length aY),(w.heap.size+1,.bool (decide (y.num<0)),.slice dL (ae b64 y.num.natAbs).length dN,.slice dM (ae b64 (ah y.den)).length dO)] w'->dV w 32 [(w.heap.size,.bool (decide (x.num<0)),.slice aV (ae b64 x.num.natAbs).length aX,.slice aW (ae b64 (ah x.den)).length aY),(w.heap.size+1,.bool (decide (y.num<0)),.slice dL (ae b64 y.num.natAbs).length dN,.slice dM (ae b64 (ah y.den)).length dO)] w'/\w'.cell? ⟨w.heap.size,0,none⟩=some (.bool (decide (x.num<0)))/\w'.cell? ⟨w.heap.size,1,none⟩=some (.slice aV (ae b64 x.num.natAbs).length aX)/\w'.cell? ⟨w.heap.size,2,none⟩=some (.slice aW (ae b64 (ah x.den)).length aY)/\w'.cell? ⟨w.heap.size+1,0,none⟩=some (.bool (decide (y.num<0)))/\w'.cell? ⟨w.heap.size+1,1,none⟩=some (.slice dL (ae b64 y.num.natAbs).length dN)/\w'.cell? ⟨w.heap.size+1,2,none⟩=some (.slice dM (ae b64 (ah y.den)).length dO):=λw' hh=>by
  have q1:=(hh.2 (w.heap.size,.bool (decide (x.num<0)),.slice aV (ae b64 x.num.natAbs).length aX,.slice aW (ae b64 (ah x.den)).length aY) (by simp))
  have q2:=(hh.2 (w.heap.size+1,.bool (decide (y.num<0)),.slice dL (ae b64 y.num.natAbs).length dN,.slice dM (ae b64 (ah y.den)).length dO) (by simp))
  exact⟨hh,q1.c0,q1.c1,q1.c2,q2.c0,q2.c1,q2.c2⟩
 have H0:dV w 32 [(w.heap.size,.bool (decide (x.num<0)),.slice aV (ae b64 x.num.natAbs).length aX,.slice aW (ae b64 (ah x.den)).length aY),(w.heap.size+1,.bool (decide (y.num<0)),.slice dL (ae b64 y.num.natAbs).length dN,.slice dM (ae b64 (ah y.den)).length dO)] w2:=⟨B0,by intro p hp; simp at hp; rcases hp with rfl|rfl; exact p1; exact p2⟩
 clear e1 e2
 have hz:=H0.drew
 go_region_held3 (λw'=>dV w 32 [(w.heap.size,.bool (decide (x.num<0)),.slice aV (ae b64 x.num.natAbs).length aX,.slice aW (ae b64 (ah x.den)).length aY),(w.heap.size+1,.bool (decide (y.num<0)),.slice dL (ae b64 y.num.natAbs).length dN,.slice dM (ae b64 (ah y.den)).length dO)] w'/\w'.cell? ⟨w.heap.size,0,none⟩=some (.bool (decide (x.num<0)))/\w'.cell? ⟨w.heap.size,1,none⟩=some (.slice aV (ae b64 x.num.natAbs).length aX)/\w'.cell? ⟨w.heap.size,2,none⟩=some (.slice aW (ae b64 (ah x.den)).length aY)/\w'.cell? ⟨w.heap.size+1,0,none⟩=some (.bool (decide (y.num<0)))/\w'.cell? ⟨w.heap.size+1,1,none⟩=some (.slice dL (ae b64 y.num.natAbs).length dN)/\w'.cell? ⟨w.heap.size+1,2,none⟩=some (.slice dM (ae b64 (ah y.den)).length dO))
  (exact hS _ hz)
  (first
   |(go_at_call 31; have hc:=iE _ _ x (hx.below hz.1); (with_reducible refine Calls.mono hc ?_); clear hc; rintro e wz ⟨rfl,hb⟩; rw[PW.out]; (try have bV:=bV.below hb); (try have fK:=fK.below hb); (try have fJ:=fJ.below hb); (try have fI:=fI.below hb); have hz:=dV.call (by assumption) hb)
   |(go_at_call 31; have hc:=iE _ _ y (hy.below hz.1); (with_reducible refine Calls.mono hc ?_); clear hc; rintro e wz ⟨rfl,hb⟩; rw[Ql.out]; (try have bV:=bV.below hb); (try have fK:=fK.below hb); (try have fJ:=fJ.below hb); (try have fI:=fI.below hb); have hz:=dV.call (by assumption) hb))
 all_goals (
  go_wp2
  go_ret
  exact⟨rfl,hz.1⟩)
set_option maxHeartbeats 8000000 in
theorem QB (w:World) (vx vy:Value) (x y:Rat) (hx:cq w vx x) (hy:cq w vy y) {j k:Nat} (hj:bg j x) (hk:bg k y) (kP:j+k<=100000000) (hs:dS x=dS y):Calls Tryz.prog 46 #[vx,vy] w (dY w (.int .i64 (bK (x.num.natAbs*y.den) (y.num.natAbs*x.den)*dS x))):=by
 obtain⟨oz,oA,rfl,cw,cT⟩:=id hx
 obtain⟨aV,aX,rfl,_⟩:=id cw
 obtain⟨aW,aY,rfl,_⟩:=id cT
 obtain⟨Kj,Kk,rfl,iS,iJ⟩:=id hy
 obtain⟨dL,dN,rfl,_⟩:=id iS
 obtain⟨dM,dO,rfl,_⟩:=id iJ
 have Xf:=CY (Cf (x.num.natAbs*y.den) (y.num.natAbs*x.den)) (C8 x)
 have rh:=x.den_pos
 have KB:=y.den_pos
 have HB:=bx (And.intro hj hk)
 have de:j<=1000000000:=by omega
 have jE:k<=1000000000:=by omega
 clear hj hk
 obtain⟨sx,D3⟩:∃s,dS x=s:=⟨_,rfl⟩
 obtain⟨sy,Fw⟩:∃s,dS y=s:=⟨_,rfl⟩
 rw[D3,Fw]at hs
 rw[D3]at Xf ⊢
 subst hs
 obtain⟨cc,hcc⟩:∃c,bK (x.num.natAbs*y.den) (y.num.natAbs*x.den)=c:=⟨_,rfl⟩
 rw[hcc]at Xf ⊢
 have XJ:=bx hcc
 clear hcc
 have PW:=bx D3
 have Ql:=bx Fw
 clear D3 Fw
 go_enter Tryz.func46,Tryz.ntmps46
 go_wp2_with fail
 obtain⟨w1,e1,o1,b1,s1⟩:=fh w (.bool (decide (x.num<0))) (.slice aV (ae b64 x.num.natAbs).length aX) (.slice aW (ae b64 (ah x.den)).length aY) 32
 obtain⟨w2,e2,o2,b2,s2⟩:=fh w1 (.bool (decide (y.num<0))) (.slice dL (ae b64 y.num.natAbs).length dN) (.slice dM (ae b64 (ah y.den)).length dO) 32
 rw[e1,e2]
 rw[s1]at o2
 have p1:=(o1.gone b2)
 have p2:=o2
 have B0:=(b1.trans (b2.mono b1.size))
 have hS:∀w',dV w 32 [(w.heap.size,.bool (decide (x.num<0)),.slice aV (ae b64 x.num.natAbs).length aX,.slice aW (ae b64 (ah x.den)).length aY),(w.heap.size+1,.bool (decide (y.num<0)),.slice dL (ae b64 y.num.natAbs).length dN,.slice dM (ae b64 (ah y.den)).length dO)] w'->dV w 32 [(w.heap.size,.bool (decide (x.num<0)),.slice aV (ae b64 x.num.natAbs).length aX,.slice aW (ae b64 (ah x.den)).length aY),(w.heap.size+1,.bool (decide (y.num<0)),.slice dL (ae b64 y.num.natAbs).length dN,.slice dM (ae b64 (ah y.den)).length dO)] w'/\w'.cell? ⟨w.heap.size,0,none⟩=some (.bool (decide (x.num<0)))/\w'.cell? ⟨w.heap.size,1,none⟩=some (.slice aV (ae b64 x.num.natAbs).length aX)/\w'.cell? ⟨w.heap.size,2,none⟩=some (.slice aW (ae b64 (ah x.den)).length aY)/\w'.cell? ⟨w.heap.size+1,0,none⟩=some (.bool (decide (y.num<0)))/\w'.cell? ⟨w.heap.size+1,1,none⟩=some (.slice dL (ae b64 y.num.natAbs).length dN)/\w'.cell? ⟨w.heap.size+1,2,none⟩=some (.slice dM (ae b64 (ah y.den)).length dO):=λw' hh=>by
  have q1:=(hh.2 (w.heap.size,.bool (decide (x.num<0)),.slice aV (ae b64 x.num.natAbs).length aX,.slice aW (ae b64 (ah x.den)).length aY) (by simp))
  have q2:=(hh.2 (w.heap.size+1,.bool (decide (y.num<0)),.slice dL (ae b64 y.num.natAbs).length dN,.slice dM (ae b64 (ah y.den)).length dO) (by simp))
  exact⟨hh,q1.c0,q1.c1,q1.c2,q2.c0,q2.c1,q2.c2⟩
 have H0:dV w 32 [(w.heap.size,.bool (decide (x.num<0)),.slice aV (ae b64 x.num.natAbs).length aX,.slice aW (ae b64 (ah x.den)).length aY),(w.heap.size+1,.bool (decide (y.num<0)),.slice dL (ae b64 y.num.natAbs).length dN,.slice dM (ae b64 (ah y.den)).length dO)] w2:=⟨B0,by intro p hp; simp at hp; rcases hp with rfl|rfl; exact p1; exact p2⟩
 clear e1 e2
 have hz:=H0.drew
 go_region_held3 (λw'=>dV w 32 [(w.heap.size,.bool (decide (x.num<0)),.slice aV (ae b64 x.num.natAbs).length aX,.slice aW (ae b64 (ah x.den)).length aY),(w.heap.size+1,.bool (decide (y.num<0)),.slice dL (ae b64 y.num.natAbs).length dN,.slice dM (ae b64 (ah y.den)).length dO)] w'/\w'.cell? ⟨w.heap.size,0,none⟩=some (.bool (decide (x.num<0)))/\w'.cell? ⟨w.heap.size,1,none⟩=some (.slice aV (ae b64 x.num.natAbs).length aX)/\w'.cell? ⟨w.heap.size,2,none⟩=some (.slice aW (ae b64 (ah x.den)).length aY)/\w'.cell? ⟨w.heap.size+1,0,none⟩=some (.bool (decide (y.num<0)))/\w'.cell? ⟨w.heap.size+1,1,none⟩=some (.slice dL (ae b64 y.num.natAbs).length dN)/\w'.cell? ⟨w.heap.size+1,2,none⟩=some (.slice dM (ae b64 (ah y.den)).length dO))
  (exact hS _ hz)
  (first
   |(go_at_call 31; have hc:=iE _ _ x (hx.below hz.1); (with_reducible refine Calls.mono hc ?_); clear hc; rintro e wz ⟨rfl,hb⟩; rw[PW.out]; (try have bV:=bV.below hb); (try have fK:=fK.below hb); (try have fJ:=fJ.below hb); (try have fI:=fI.below hb); have hz:=dV.call (by assumption) hb)
   |(go_at_call 31; have hc:=iE _ _ y (hy.below hz.1); (with_reducible refine Calls.mono hc ?_); clear hc; rintro e wz ⟨rfl,hb⟩; rw[Ql.out]; (try have bV:=bV.below hb); (try have fK:=fK.below hb); (try have fJ:=fJ.below hb); (try have fI:=fI.below hb); have hz:=dV.call (by assumption) hb))
 all_goals (
  go_wp2_with fail
  have hz:=hz.drew
  go_region_held3 (λw'=>dV w 32 [(w.heap.size,.bool (decide (x.num<0)),.slice aV (ae b64 x.num.natAbs).length aX,.slice aW (ae b64 (ah x.den)).length aY),(w.heap.size+1,.bool (decide (y.num<0)),.slice dL (ae b64 y.num.natAbs).length dN,.slice dM (ae b64 (ah y.den)).length dO)] w'/\w'.cell? ⟨w.heap.size,0,none⟩=some (.bool (decide (x.num<0)))/\w'.cell? ⟨w.heap.size,1,none⟩=some (.slice aV (ae b64 x.num.natAbs).length aX)/\w'.cell? ⟨w.heap.size,2,none⟩=some (.slice aW (ae b64 (ah x.den)).length aY)/\w'.cell? ⟨w.heap.size+1,0,none⟩=some (.bool (decide (y.num<0)))/\w'.cell? ⟨w.heap.size+1,1,none⟩=some (.slice dL (ae b64 y.num.natAbs).length dN)/\w'.cell? ⟨w.heap.size+1,2,none⟩=some (.slice dM (ae b64 (ah y.den)).length dO))
   (exact hS _ hz)
   (first
    |(go_at_call 70; have hc:=fC _ _ x.den (cT.below hz.1) rh; (with_reducible refine Calls.mono hc ?_); clear hc; rintro e wz ⟨PR,rfl,bV,hb⟩; (try have bV:=bV.below hb); (try have fK:=fK.below hb); (try have fJ:=fJ.below hb); (try have fI:=fI.below hb); have hz:=dV.call (by assumption) hb)
    |(go_at_call 70; have hc:=fC _ _ y.den (iJ.below hz.1) KB; (with_reducible refine Calls.mono hc ?_); clear hc; rintro e wz ⟨Tf,rfl,fK,hb⟩; (try have bV:=bV.below hb); (try have fK:=fK.below hb); (try have fJ:=fJ.below hb); (try have fI:=fI.below hb); have hz:=dV.call (by assumption) hb)
    |(go_at_call 71; have hc:=ia _ _ _ _ _ (cw.below hz.1) fK HB.out.1.1 HB.out.2.2 de jE; (with_reducible refine Calls.mono hc ?_); clear hc; rintro e wz ⟨Td,rfl,fJ,hb⟩; (try have bV:=bV.below hb); (try have fK:=fK.below hb); (try have fJ:=fJ.below hb); (try have fI:=fI.below hb); have hz:=dV.call (by assumption) hb)
    |(go_at_call 71; have hc:=ia _ _ _ _ _ (iS.below hz.1) bV HB.out.2.1 HB.out.1.2 jE de; (with_reducible refine Calls.mono hc ?_); clear hc; rintro e wz ⟨Te,rfl,fI,hb⟩; (try have bV:=bV.below hb); (try have fK:=fK.below hb); (try have fJ:=fJ.below hb); (try have fI:=fI.below hb); have hz:=dV.call (by assumption) hb)
    |(go_at_call 73; have hc:=nM _ _ _ _ _ fJ fI; (with_reducible refine Calls.mono hc ?_); clear hc; rintro e wz ⟨rfl,hb⟩; rw[XJ.out]; (try have bV:=bV.below hb); (try have fK:=fK.below hb); (try have fJ:=fJ.below hb); (try have fI:=fI.below hb); have hz:=dV.call (by assumption) hb)
    |(go_at_call 31; have hc:=iE _ _ x (hx.below hz.1); (with_reducible refine Calls.mono hc ?_); clear hc; rintro e wz ⟨rfl,hb⟩; rw[PW.out]; (try have bV:=bV.below hb); (try have fK:=fK.below hb); (try have fJ:=fJ.below hb); (try have fI:=fI.below hb); have hz:=dV.call (by assumption) hb))
  all_goals (
   go_wp2
   go_ret
   exact⟨rfl,hz.1⟩))
theorem KW (w:World) (vx vy:Value) (x y:Rat) (hx:cq w vx x) (hy:cq w vy y) {j k:Nat} (hj:bg j x) (hk:bg k y) (kP:j+k<=100000000):Calls Tryz.prog 46 #[vx,vy] w (dY w (.int .i64 (KU x y))):=by
 unfold KU
 by_cases hs:dS x=dS y
 ·rw[if_pos hs]; exact QB w vx vy x y hx hy hj hk kP hs
 ·rw[if_neg hs]
  by_cases hl:dS x<dS y
  ·rw[if_pos hl]; exact Qz w vx vy x y hx hy hs hl
  ·rw[if_neg hl]; exact QA w vx vy x y hx hy hs hl
end Wx

namespace Wx
open Go Go.RowKit Go.Proofs
def fR (x y:Rat):Int:=if x<y then -1 else if x=y then 0 else 1
theorem gI (q:Rat):q.num<0↔q<0:=by
 rw[Rat.lt_iff]
 simp
theorem tg (q:Rat):dS q=fR q 0:=by
 unfold dS fR
 by_cases h:q<0
 ·rw[if_pos ((gI q).2 h),if_pos h]
 ·rw[if_neg (λh'=>h ((gI q).1 h')),if_neg h]
variable {x y:Rat}
theorem ej (h:x<y):fR x y = -1:=if_pos h
theorem ez (h:x=y):fR x y=0:=by unfold fR; rw[if_neg (by grind),if_pos h]
theorem eB (h:y<x):fR x y=1:=by unfold fR; rw[if_neg (by grind),if_neg (by grind)]
theorem GD (x y:Rat):x<y\/x=y\/y<x:=by grind
theorem zX (h:x.num*y.den=y.num*x.den):x=y:=by
 rcases GD x y with h1|h1|h1
 ·rw[Rat.lt_iff]at h1; omega
 ·exact h1
 ·rw[Rat.lt_iff]at h1; omega
theorem zW (m n:Nat):(m<n/\bK m n = -1)\/(m=n/\bK m n=0)\/(n<m/\bK m n=1):=by
 unfold bK
 rcases Nat.lt_trichotomy m n with h|h|h
 ·left; exact⟨h,if_pos h⟩
 ·right; left; exact⟨h,by rw[if_neg (by omega),if_neg (by omega)]⟩
 ·right; right; exact⟨h,by rw[if_neg (by omega),if_pos h]⟩
theorem KV (x y:Rat):KU x y=fR x y:=by
 have rh:(0:Int)<x.den:=by have:=x.den_pos; omega
 have KB:(0:Int)<y.den:=by have:=y.den_pos; omega
 have ax:((x.num.natAbs*y.den:Nat):Int)=(x.num.natAbs:Int)*y.den:=by simp
 have ay:((y.num.natAbs*x.den:Nat):Int)=(y.num.natAbs:Int)*x.den:=by simp
 unfold KU
 rw[tg,tg]
 rcases GD x 0 with hx|hx|hx
 ·have nx:x.num<0:=(gI x).2 hx
  have TK:(x.num.natAbs:Int) = -x.num:=by omega
  rw[ej hx]
  rcases GD y 0 with hy|hy|hy
  ·have ny:y.num<0:=(gI y).2 hy
   have TL:(y.num.natAbs:Int) = -y.num:=by omega
   rw[ej hy,if_pos rfl]
   rw[TK,Int.neg_mul]at ax
   rw[TL,Int.neg_mul]at ay
   rcases zW (x.num.natAbs*y.den) (y.num.natAbs*x.den)with⟨h,e⟩|⟨h,e⟩|⟨h,e⟩
   ·rw[e,eB (by rw[Rat.lt_iff]; omega)]; rfl
   ·rw[e,ez (zX (by omega))]; rfl
   ·rw[e,ej (by rw[Rat.lt_iff]; omega)]; rfl
  ·rw[ez hy,if_neg (by omega),if_pos (by omega),ej (by grind)]
  ·rw[eB hy,if_neg (by omega),if_pos (by omega),ej (by grind)]
 ·rw[ez hx]
  rcases GD y 0 with hy|hy|hy
  ·rw[ej hy,if_neg (by omega),if_neg (by omega),eB (by grind)]
  ·rw[ez hy,if_pos rfl,ez (by grind),Int.mul_zero]
  ·rw[eB hy,if_neg (by omega),if_pos (by omega),ej (by grind)]
 ·have nx:0<x.num:=by
   have h1:=mt (gI x).1 (by grind)
   have h2:x.num≠0:=λh=>by have:=Rat.num_eq_zero.1 h; grind
   omega
  have TK:(x.num.natAbs:Int)=x.num:=by omega
  rw[eB hx]
  rcases GD y 0 with hy|hy|hy
  ·rw[ej hy,if_neg (by omega),if_neg (by omega),eB (by grind)]
  ·rw[ez hy,if_neg (by omega),if_neg (by omega),eB (by grind)]
  ·have ny:0<y.num:=by
    have h1:=mt (gI y).1 (by grind)
    have h2:y.num≠0:=λh=>by have:=Rat.num_eq_zero.1 h; grind
    omega
   have TL:(y.num.natAbs:Int)=y.num:=by omega
   rw[eB hy,if_pos rfl,Int.mul_one]
   rw[TK]at ax
   rw[TL]at ay
   rcases zW (x.num.natAbs*y.den) (y.num.natAbs*x.den)with⟨h,e⟩|⟨h,e⟩|⟨h,e⟩
   ·rw[e,ej (by rw[Rat.lt_iff]; omega)]
   ·rw[e,ez (zX (by omega))]
   ·rw[e,eB (by rw[Rat.lt_iff]; omega)]
theorem E7 (x y:Rat):fR y x = -fR x y:=by
 rcases GD x y with h|h|h
 ·rw[ej h,eB h]; rfl
 ·rw[ez h,ez h.symm]; rfl
 ·rw[eB h,ej h]
theorem sM:fR x y<=0↔x<=y:=by
 rcases GD x y with h|h|h
 ·rw[ej h]; constructor
  ·intro _; grind
  ·intro _; omega
 ·rw[ez h]; exact⟨λ_=>by grind,λ_=>by omega⟩
 ·rw[eB h]; constructor
  ·intro h'; omega
  ·intro h'; grind
theorem HO (x y:Rat):fR (x-y) 0=fR x y:=by
 rcases GD x y with h|h|h
 ·rw[ej h,ej (by grind)]
 ·rw[ez h,ez (by grind)]
 ·rw[eB h,eB (by grind)]
end Wx

namespace Wx
open Go Go.RowKit Go.Proofs
theorem DC {x y:Rat} {j k:Nat} (hx:bg j x) (hy:bg k y) (h:j+k<=100000000):∀w v1 v2,au x w v1->au y w v2->Calls Tryz.prog 46 #[v1,v2] w (fu (pI (fR x y)) w):=
 λw v1 v2 h1 h2=>(KW w v1 v2 x y h1 h2 hx hy h).mono λ_ _ h=>by rw[KV]at h; exact pq h
end Wx

namespace Wx
open Go Go.RowKit Go.Proofs
theorem bg.He {j k:Nat} {x y:Rat} (h:bg j x) (g:bg k y):bg (j+k+1) (x+y):=by
 have a:=h.1.mul g.2
 have b:=g.1.mul h.2
 have d:=h.2.mul g.2
 have hd:=Nat.mul_pos x.den_pos y.den_pos
 have ab:Bd (j+k+1) (x.num.natAbs*y.den+y.num.natAbs*x.den):=by
  unfold Bd at *
  rw[Nat.add_comm k j]at b
  rw[Nat.pow_succ]
  omega
 have d':Bd (j+k+1) (x.den*y.den):=d.mono (by omega)
 by_cases hs:decide (x.num<0)=decide (y.num<0)
 ·rw[add_same x y hs]; exact jY hd ab d'
 ·by_cases hge:y.num.natAbs*x.den<=x.num.natAbs*y.den
  ·rw[B7 x y hs hge]; exact jY hd (ab.le (by omega)) d'
  ·rw[B8 x y hs (by omega)]; exact jY hd (ab.le (by omega)) d'
theorem fu.map {p q:Pred} {w:World} (h:∀w v,p w v->q w v):∀{e:Ending} {w':World},fu p w e w'->fu q w e w':=λ⟨v,e,hp,hb⟩=>⟨v,e,h _ _ hp,hb⟩
variable {x y:Rat} {j k:Nat}
theorem Qp (h:j+k<=40000000):∀w v1 v2,pR j x w v1->pR k y w v2->Calls Tryz.prog 32 #[v1,v2] w (fu (pR (j+k+1) (x+y)) w):=λw v1 v2 h1 h2=>(Hq h1.1 h2.1 (by omega) w v1 v2 h1.2 h2.2).mono λ_ _=>fu.map (uQ (h1.1.He h2.1))
theorem ME (h:j+k<=100000000):∀w v1 v2,pR j x w v1->pR k y w v2->Calls Tryz.prog 33 #[v1,v2] w (fu (pR (j+k) (x*y)) w):=λw v1 v2 h1 h2=>(zQ h1.1 h2.1 h w v1 v2 h1.2 h2.2).mono λ_ _=>fu.map (uQ (h1.1.mul h2.1))
theorem Qq (h:j+k<=100000000):∀w v1 v2,pR j x w v1->pR k y w v2->Calls Tryz.prog 75 #[v1,v2] w (fu (fo (pR (j+k) (x/y)) (pI (if y=0 then 3 else 0))) w):=λw v1 v2 h1 h2=>(Qu h1.1 h2.1 h w v1 v2 h1.2 h2.2).mono λ_ _=>fu.map λ_ _ ⟨a,b,e,p,q⟩=>⟨a,b,e,⟨h1.1.quo h2.1,p⟩,q⟩
theorem NT (_:True):∀w v1,pR j x w v1->Calls Tryz.prog 15 #[v1] w (fu (pB (decide (x=0))) w):=λw v1 h1=>N7 x w v1 h1.2
theorem BX (_:True):∀w v1,pR j x w v1->Calls Tryz.prog 31 #[v1] w (fu (pI (dS x)) w):=λw v1 h1=>N6 x w v1 h1.2
theorem Dw {z:Int} (h1:-9223372036854775808<=z) (h2:z<=9223372036854775807):bg 64 (z:Rat):=⟨by unfold Bd; rw[Rat.num_intCast]; omega,by unfold Bd; rw[Rat.den_intCast]; omega⟩
theorem zI {n:Int} (h:-9223372036854775808<=n/\n<=9223372036854775807):∀w v1,pI n w v1->Calls Tryz.prog 25 #[v1] w (fu (pR 64 (n:Rat)) w):=λw v1 h1=>(Qv n h.1 h.2 w v1 h1).mono λ_ _=>fu.map (uQ (Dw h.1 h.2))
theorem BW {J:Nat} (hb:bg J (x+y)) (h:j+k<=40000000):∀w v1 v2,pR j x w v1->pR k y w v2->Calls Tryz.prog 32 #[v1,v2] w (fu (pR J (x+y)) w):=λw v1 v2 h1 h2=>(Qp h w v1 v2 h1 h2).mono λ_ _=>fu.map λ_ _ q=>⟨hb,q.2⟩
end Wx

namespace Wx
open Go Go.RowKit
def Gi (f:FuncId) (sz:Nat) (agg:Bool) (q:Pred):Pred:=λw v=>∃u,v=.func (.func f) #[] #[u]/\fL sz agg q w u
section
variable {P:Program} {ops:Array Oper} {ms:List Nat} {c:eL} {V:List Vr} {A:List Al} {G:List bI} {i:Nat} {L:Nat->Bool} {β:Nat->Nat->Prop} {a:Act} {w:World} {o:Oper}{d:Nat} {x y z:Operand} {ty:TypeId} {pos:String} {aZ:Array Edge}
theorem Ge {f:FuncId} {fx:Operand} {ts:Array TypeId} {sz:Nat} {agg:Bool} {p q p1:Pred} (hf:aM P f) (hx:Has ms G i fx (Gi f sz agg q)) (h1:Has ms G i x p1) (hp:Post G i p)
  (hc:∀(M:Nat->Nat->Prop) (w:World) (v1 v2:Value),dc M w->aL M (λw=>p1 w v1) w->aL M (λw=>fL sz agg q w v2) w->Calls P f #[v1,v2] w (bu M p w)):OpOk P ops ms c V A G i ⟨some d,.call ⟨.value fx,#[x],ts⟩,ty,pos,aZ,none⟩:=by
 refine mh (λL β a w hI hd hwf=>?_) rfl
 have hb:=hx.spec hI hd
 obtain⟨u,M6,_⟩:=hb.out
 have hu:aL (own c V L β) (λw=>fL sz agg q w u) w:=λw' he=>by
  obtain⟨u',e,h⟩:=hb w' he
  rw[M6]at e
  injection e with _ _ e
  have:u=u':=by simpa using e
  rw[this]
  exact h
 have hr:(execOp a.eval ⟨some d,.call ⟨.value fx,#[x],ts⟩,ty,pos,aZ,none⟩).run P w=.ok (.enter f #[a.eval x,u]) w:=by
  have:=hf #[a.eval x,u] w
  simp only[execOp,resolve,M6,Deferred.ofValue,pure_bind,invoke]
  rw[show(#[x]:Array Operand).map a.eval=#[a.eval x] by simp]
  first|exact this|simpa using this
 unfold Does
 rw[hr]
 refine(hc _ w _ _ (bX hI) (h1.spec hI hd) hu).mono ?_
 rintro e w' ⟨v,rfl,hv,hb⟩
 exact⟨v,rfl,β,hI.value hwf (uz hwf rfl) rfl hb (λd q _ hq GO _=>by have:=hwf.aa q hq GO; cases this) λe he ht=>hv.imp λw=>hp.spec hwf he ht w v⟩
end
end Wx

namespace Wx
open Go Go.RowKit
section
variable {P:Program} {ops:Array Oper} {ms:List Nat} {c:eL} {V:List Vr} {A:List Al} {G:List bI} {i:Nat}{d:Nat} {x y z:Operand} {ty:TypeId} {pos:String} {aZ:Array Edge}
end
section
variable {c:eL} {V:List Vr} {A:List Al} {G:List bI} {a:Act} {w:World}
end
section
variable {P:Program} {ops:Array Oper} {ms:List Nat} {c:eL} {V:List Vr} {A:List Al} {G:List bI} {i:Nat}{d:Nat} {x y z:Operand} {ty:TypeId} {pos:String} {aZ:Array Edge}
end
section
variable {F:Rat->Pred} {j k:Nat} {l:List Rat}
end
section
variable {P:Program} {ops:Array Oper} {ms:List Nat} {c:eL} {V:List Vr} {A:List Al} {G:List bI} {i:Nat}{d:Nat} {x y z:Operand} {ty:TypeId} {pos:String} {aZ:Array Edge}
end
section
variable {P:Program} {ops:Array Oper} {ms:List Nat} {c:eL} {V:List Vr} {A:List Al} {G:List bI} {i:Nat}{d:Nat} {ty:TypeId} {pos:String} {aZ:Array Edge}{f:FuncId} {fx x:Operand} {ts:Array TypeId} {p p1 q1:Pred} {φ:Prop}
theorem WB (jl:φ->∀M w v1,dc M w->aL M (λw=>p1 w v1) w->Calls P f #[v1] w (bu M p w)) (hx:Has ms G i fx (cI (.func (.func f) #[] #[])):=by exact hs) (h1:Has ms G i x q1:=by exact hs) (c1:∀w v,q1 w v->p1 w v:=by exact qW) (hp:Post G i p:=by exact pt rfl) (hφ:φ:=by first|omega|trivial) (hf:aM P f:=by exactλ_ _=>by kernel_rfl):
  OpOk P ops ms c V A G i ⟨some d,.call ⟨.value fx,#[x],ts⟩,ty,pos,aZ,none⟩:=
 uM hf hx hp λ_ _ a w hI hd=>(by
  rw[show(#[x]:Array Operand).map a.eval=#[a.eval x] by simp]
  exact jl hφ _ w _ (bX hI) ((h1.imp c1).spec hI hd))
theorem T1 {ψ:Prop} (hψ:ψ) (jl:φ->∀M w v1,dc M w->aL M (λw=>p1 w v1) w->Calls P f #[v1] w (bu M p w)) (hx:Has ms G i fx (cI (.func (.func f) #[] #[])):=by exact hg) (h1:Has ms G i x q1:=by exact hg) (c1:∀w v,q1 w v->p1 w v:=by exact qW) (hp:Post G i p:=by exact pg (by assumption) rfl) (hφ:φ:=by first|omega|trivial) (hf:aM P f:=by exactλ_ _=>by kernel_rfl):
  OpOk P ops ms c V A G i ⟨some d,.call ⟨.value fx,#[x],ts⟩,ty,pos,aZ,none⟩:=(λ_:ψ=>WB jl hx h1 c1 hp hφ hf) hψ
theorem VN {T:TypeId} {v:Vr} (J n:Nat) (hJ:1<=J:=by omega) (hv:GG i V=some v:=by exact rfl) (hT:v.T=T:=by exact rfl) (dI:v.kd=.ptr:=by exact rfl) (hc:v.c0=pv (pV au J (List.replicate n 0)):=by exact rfl) (AA:v.agg=true:=by exact rfl)
  (hz:∀w,(zeroValue T).run P w=.ok (.agg ((List.replicate n Zl.r).flatMap Zl.cs).toArray) w:=by exactλ_=>by kernel_rfl) (hl:((List.replicate n Zl.r).flatMap Zl.cs).length=v.n:=by kernel_rfl) (hst:((v.st.all λq=>(ms.getD q.1 0).testBit i)&&V.all λy=>y.dead != some i)=true:=by kernel_rfl) (hno:(G.all λe=>e.tag != some i)=true:=by kernel_rfl) (iI:(A.all λp=>p.var != v.id||p.tag.any λj=>(ms.getD j 0).testBit i)=true:=by kernel_rfl):
  OpOk P ops ms c V A G i ⟨some d,.alloc T,ty,pos,aZ,none⟩:=by
 obtain⟨⟨k,hk⟩,hb⟩:=mb hv
 refine bp k hk hb hst hno iI hT dI hz rfl hl (Dm _) hc λw=>?_
 rw[AA]
 have h:=Dl (List.replicate n Zl.r) w
 rw[List.map_replicate]at h
 refine Ev hJ _ _ ?_
 show pS ((List.replicate n (0:Rat)).map (Ap au 1)) w _
 rw[List.map_replicate]
 exact h
end
end Wx

namespace Wx
open Go Go.RowKit
structure TG where
 b:Nat
 n:Nat
 cap:Nat
end Wx

namespace Wx
open Go Go.RowKit
section
variable {P:Program} {Q:Exit->Act->World->Prop} {c:eL} {V:List Vr} {A:List Al} {G:List bI} {a:Act} {w:World} {o:Oper}{d:Nat} {x y z u:Operand} {ty:TypeId} {pos:String} {aZ:Array Edge}
theorem eC.mono {ops:Array Oper} {K K':Act->World->Prop} (h:eC P ops o a w K) (hK:∀a w,K a w->K' a w):eC P ops o a w K':=by
 unfold eC at *
 split at h
 ·rename_i hw
  rw[if_pos hw]
  exact h.mono hK
 ·rename_i hw
  rw[if_neg hw]
  exact hK _ _ h
end
end Wx
