import Derived.Test.YtadigiledciihaaGreatJRR26
namespace Wx
set_option maxRecDepth 100000
open Go Go.RowKit Go.Proofs
set_option linter.unusedVariables false
def cE (w:World) (e:TypeId) (ps:List (Nat×Value×Value×Value)) (w':World):Prop:=Below w.heap.size w w'/\(∀p∈ps,cq w' p.1 p.2.1 p.2.2.1 p.2.2.2 e)
variable {w:World} {e:TypeId} {ps:List (Nat×Value×Value×Value)} {w':World}
theorem cE.call {w'':World} {p:Prop} (h:cE w e ps w'/\p) (hb:Below w'.heap.size w' w''):cE w e ps w'':=by
 obtain⟨⟨h1,h3⟩,_⟩:=h
 exact⟨h1.trans (hb.mono h1.size),λp hp=>(h3 p hp).gone hb⟩
theorem cE.drew (h:cE w e ps w'):cE w e ps w'.drew:=⟨h.1.drew,h.2⟩
def FI (x y:Rat):Int:=if cP x=cP y then bf (x.num.natAbs*y.den) (y.num.natAbs*x.den)*cP x else if cP x<cP y then -1 else 1
theorem yz (m n:Nat):bf m n = -1\/bf m n=0\/bf m n=1:=by
 unfold bf
 split
 ·exact .inl rfl
 ·split
  ·exact .inr (.inr rfl)
  ·exact .inr (.inl rfl)
theorem zw (x:Rat):cP x = -1\/cP x=0\/cP x=1:=by
 unfold cP
 split
 ·exact .inl rfl
 ·split
  ·exact .inr (.inl rfl)
  ·exact .inr (.inr rfl)
theorem zl {a b:Int} (h1:a = -1\/a=0\/a=1) (h2:b = -1\/b=0\/b=1):IntKind.i64.wrap (a*b)=a*b:=by
 rcases h1 with rfl|rfl|rfl<;>rcases h2 with rfl|rfl|rfl<;>rfl
set_option maxHeartbeats 8000000 in
theorem Lq (w:World) (vx vy:Value) (x y:Rat) (hx:cg w vx x) (hy:cg w vy y) (hs:¬cP x=cP y) (hl:cP x<cP y):Calls Tryz.prog 121 #[vx,vy] w (dW w (.int .i64 (-1))):=by
 obtain⟨xY,xZ,rfl,gO,fO⟩:=id hx
 obtain⟨bO,bQ,rfl,_⟩:=id gO
 obtain⟨bP,bR,rfl,_⟩:=id fO
 obtain⟨G8,G9,rfl,pF,mP⟩:=id hy
 obtain⟨dc,di,rfl,_⟩:=id pF
 obtain⟨de,dm,rfl,_⟩:=id mP
 obtain⟨sx,Ap⟩:∃s,cP x=s:=⟨_,rfl⟩
 obtain⟨sy,BD⟩:∃s,cP y=s:=⟨_,rfl⟩
 rw[Ap,BD]at hs
 rw[Ap,BD]at hl
 have KO:=bx Ap
 have Le:=bx BD
 clear Ap BD
 go_enter Tryz.func121,Tryz.ntmps121
 go_wp2_with fail
 obtain⟨w1,e1,o1,b1,s1⟩:=gj w (.bool (decide (x.num<0))) (.slice bO (ae b64 x.num.natAbs).length bQ) (.slice bP (ae b64 (aq x.den)).length bR) 54
 obtain⟨w2,e2,o2,b2,s2⟩:=gj w1 (.bool (decide (y.num<0))) (.slice dc (ae b64 y.num.natAbs).length di) (.slice de (ae b64 (aq y.den)).length dm) 54
 rw[e1,e2]
 rw[s1]at o2
 have p1:=(o1.gone b2)
 have p2:=o2
 have B0:=(b1.trans (b2.mono b1.size))
 have hS:∀w',cE w 54 [(w.heap.size,.bool (decide (x.num<0)),.slice bO (ae b64 x.num.natAbs).length bQ,.slice bP (ae b64 (aq x.den)).length bR),(w.heap.size+1,.bool (decide (y.num<0)),.slice dc (ae b64 y.num.natAbs).length di,.slice de (ae b64 (aq y.den)).length dm)] w'->cE w 54 [(w.heap.size,.bool (decide (x.num<0)),.slice bO (ae b64 x.num.natAbs).length bQ,.slice bP (ae b64 (aq x.den)).length bR),(w.heap.size+1,.bool (decide (y.num<0)),.slice dc (ae b64 y.num.natAbs).length di,.slice de (ae b64 (aq y.den)).length dm)] w'/\w'.cell? ⟨w.heap.size,0,none⟩=some (.bool (decide (x.num<0)))/\w'.cell? ⟨w.heap.size,1,none⟩=some (.slice bO (ae b64 x.num.natAbs).length bQ)/\w'.cell? ⟨w.heap.size,2,none⟩=some (.slice bP (ae b64 (aq x.den)).length bR)/\w'.cell? ⟨w.heap.size+1,0,none⟩=some (.bool (decide (y.num<0)))/\w'.cell? ⟨w.heap.size+1,1,none⟩=some (.slice dc (ae b64 y.num.natAbs).length di)/\w'.cell? ⟨w.heap.size+1,2,none⟩=some (.slice de (ae b64 (aq y.den)).length dm):=λw' hh=>by
  have q1:=(hh.2 (w.heap.size,.bool (decide (x.num<0)),.slice bO (ae b64 x.num.natAbs).length bQ,.slice bP (ae b64 (aq x.den)).length bR) (by simp))
  have q2:=(hh.2 (w.heap.size+1,.bool (decide (y.num<0)),.slice dc (ae b64 y.num.natAbs).length di,.slice de (ae b64 (aq y.den)).length dm) (by simp))
  exact⟨hh,q1.c0,q1.c1,q1.c2,q2.c0,q2.c1,q2.c2⟩
 have H0:cE w 54 [(w.heap.size,.bool (decide (x.num<0)),.slice bO (ae b64 x.num.natAbs).length bQ,.slice bP (ae b64 (aq x.den)).length bR),(w.heap.size+1,.bool (decide (y.num<0)),.slice dc (ae b64 y.num.natAbs).length di,.slice de (ae b64 (aq y.den)).length dm)] w2:=⟨B0,by intro p hp; simp at hp; rcases hp with rfl|rfl; exact p1; exact p2⟩
 clear e1 e2
 have hz:=H0.drew
 go_region_held3 (λw'=>cE w 54 [(w.heap.size,.bool (decide (x.num<0)),.slice bO (ae b64 x.num.natAbs).length bQ,.slice bP (ae b64 (aq x.den)).length bR),(w.heap.size+1,.bool (decide (y.num<0)),.slice dc (ae b64 y.num.natAbs).length di,.slice de (ae b64 (aq y.den)).length dm)] w'/\w'.cell? ⟨w.heap.size,0,none⟩=some (.bool (decide (x.num<0)))/\w'.cell? ⟨w.heap.size,1,none⟩=some (.slice bO (ae b64 x.num.natAbs).length bQ)/\w'.cell? ⟨w.heap.size,2,none⟩=some (.slice bP (ae b64 (aq x.den)).length bR)/\w'.cell? ⟨w.heap.size+1,0,none⟩=some (.bool (decide (y.num<0)))/\w'.cell? ⟨w.heap.size+1,1,none⟩=some (.slice dc (ae b64 y.num.natAbs).length di)/\w'.cell? ⟨w.heap.size+1,2,none⟩=some (.slice de (ae b64 (aq y.den)).length dm))
  (exact hS _ hz)
  (first
   |(go_at_call 45; have hc:=fU _ _ x (hx.below hz.1); (with_reducible refine Calls.mono hc ?_); clear hc; rintro e wz ⟨rfl,hb⟩; rw[KO.out]; (try have eR:=eR.below hb); (try have eT:=eT.below hb); (try have eP:=eP.below hb); (try have eG:=eG.below hb); have hz:=cE.call (by assumption) hb)
   |(go_at_call 45; have hc:=fU _ _ y (hy.below hz.1); (with_reducible refine Calls.mono hc ?_); clear hc; rintro e wz ⟨rfl,hb⟩; rw[Le.out]; (try have eR:=eR.below hb); (try have eT:=eT.below hb); (try have eP:=eP.below hb); (try have eG:=eG.below hb); have hz:=cE.call (by assumption) hb))
 all_goals (
  go_wp2
  go_ret
  exact⟨rfl,hz.1⟩)
set_option maxHeartbeats 8000000 in
theorem Lr (w:World) (vx vy:Value) (x y:Rat) (hx:cg w vx x) (hy:cg w vy y) (hs:¬cP x=cP y) (hl:¬cP x<cP y):Calls Tryz.prog 121 #[vx,vy] w (dW w (.int .i64 (1))):=by
 obtain⟨xY,xZ,rfl,gO,fO⟩:=id hx
 obtain⟨bO,bQ,rfl,_⟩:=id gO
 obtain⟨bP,bR,rfl,_⟩:=id fO
 obtain⟨G8,G9,rfl,pF,mP⟩:=id hy
 obtain⟨dc,di,rfl,_⟩:=id pF
 obtain⟨de,dm,rfl,_⟩:=id mP
 obtain⟨sx,Ap⟩:∃s,cP x=s:=⟨_,rfl⟩
 obtain⟨sy,BD⟩:∃s,cP y=s:=⟨_,rfl⟩
 rw[Ap,BD]at hs
 rw[Ap,BD]at hl
 have KO:=bx Ap
 have Le:=bx BD
 clear Ap BD
 go_enter Tryz.func121,Tryz.ntmps121
 go_wp2_with fail
 obtain⟨w1,e1,o1,b1,s1⟩:=gj w (.bool (decide (x.num<0))) (.slice bO (ae b64 x.num.natAbs).length bQ) (.slice bP (ae b64 (aq x.den)).length bR) 54
 obtain⟨w2,e2,o2,b2,s2⟩:=gj w1 (.bool (decide (y.num<0))) (.slice dc (ae b64 y.num.natAbs).length di) (.slice de (ae b64 (aq y.den)).length dm) 54
 rw[e1,e2]
 rw[s1]at o2
 have p1:=(o1.gone b2)
 have p2:=o2
 have B0:=(b1.trans (b2.mono b1.size))
 have hS:∀w',cE w 54 [(w.heap.size,.bool (decide (x.num<0)),.slice bO (ae b64 x.num.natAbs).length bQ,.slice bP (ae b64 (aq x.den)).length bR),(w.heap.size+1,.bool (decide (y.num<0)),.slice dc (ae b64 y.num.natAbs).length di,.slice de (ae b64 (aq y.den)).length dm)] w'->cE w 54 [(w.heap.size,.bool (decide (x.num<0)),.slice bO (ae b64 x.num.natAbs).length bQ,.slice bP (ae b64 (aq x.den)).length bR),(w.heap.size+1,.bool (decide (y.num<0)),.slice dc (ae b64 y.num.natAbs).length di,.slice de (ae b64 (aq y.den)).length dm)] w'/\w'.cell? ⟨w.heap.size,0,none⟩=some (.bool (decide (x.num<0)))/\w'.cell? ⟨w.heap.size,1,none⟩=some (.slice bO (ae b64 x.num.natAbs).length bQ)/\w'.cell? ⟨w.heap.size,2,none⟩=some (.slice bP (ae b64 (aq x.den)).length bR)/\w'.cell? ⟨w.heap.size+1,0,none⟩=some (.bool (decide (y.num<0)))/\w'.cell? ⟨w.heap.size+1,1,none⟩=some (.slice dc (ae b64 y.num.natAbs).length di)/\w'.cell? ⟨w.heap.size+1,2,none⟩=some (.slice de (ae b64 (aq y.den)).length dm):=λw' hh=>by
  have q1:=(hh.2 (w.heap.size,.bool (decide (x.num<0)),.slice bO (ae b64 x.num.natAbs).length bQ,.slice bP (ae b64 (aq x.den)).length bR) (by simp))
  have q2:=(hh.2 (w.heap.size+1,.bool (decide (y.num<0)),.slice dc (ae b64 y.num.natAbs).length di,.slice de (ae b64 (aq y.den)).length dm) (by simp))
  exact⟨hh,q1.c0,q1.c1,q1.c2,q2.c0,q2.c1,q2.c2⟩
 have H0:cE w 54 [(w.heap.size,.bool (decide (x.num<0)),.slice bO (ae b64 x.num.natAbs).length bQ,.slice bP (ae b64 (aq x.den)).length bR),(w.heap.size+1,.bool (decide (y.num<0)),.slice dc (ae b64 y.num.natAbs).length di,.slice de (ae b64 (aq y.den)).length dm)] w2:=⟨B0,by intro p hp; simp at hp; rcases hp with rfl|rfl; exact p1; exact p2⟩
 clear e1 e2
 have hz:=H0.drew
 go_region_held3 (λw'=>cE w 54 [(w.heap.size,.bool (decide (x.num<0)),.slice bO (ae b64 x.num.natAbs).length bQ,.slice bP (ae b64 (aq x.den)).length bR),(w.heap.size+1,.bool (decide (y.num<0)),.slice dc (ae b64 y.num.natAbs).length di,.slice de (ae b64 (aq y.den)).length dm)] w'/\w'.cell? ⟨w.heap.size,0,none⟩=some (.bool (decide (x.num<0)))/\w'.cell? ⟨w.heap.size,1,none⟩=some (.slice bO (ae b64 x.num.natAbs).length bQ)/\w'.cell? ⟨w.heap.size,2,none⟩=some (.slice bP (ae b64 (aq x.den)).length bR)/\w'.cell? ⟨w.heap.size+1,0,none⟩=some (.bool (decide (y.num<0)))/\w'.cell? ⟨w.heap.size+1,1,none⟩=some (.slice dc (ae b64 y.num.natAbs).length di)/\w'.cell? ⟨w.heap.size+1,2,none⟩=some (.slice de (ae b64 (aq y.den)).length dm))
  (exact hS _ hz)
  (first
   |(go_at_call 45; have hc:=fU _ _ x (hx.below hz.1); (with_reducible refine Calls.mono hc ?_); clear hc; rintro e wz ⟨rfl,hb⟩; rw[KO.out]; (try have eR:=eR.below hb); (try have eT:=eT.below hb); (try have eP:=eP.below hb); (try have eG:=eG.below hb); have hz:=cE.call (by assumption) hb)
   |(go_at_call 45; have hc:=fU _ _ y (hy.below hz.1); (with_reducible refine Calls.mono hc ?_); clear hc; rintro e wz ⟨rfl,hb⟩; rw[Le.out]; (try have eR:=eR.below hb); (try have eT:=eT.below hb); (try have eP:=eP.below hb); (try have eG:=eG.below hb); have hz:=cE.call (by assumption) hb))
 all_goals (
  go_wp2
  go_ret
  exact⟨rfl,hz.1⟩)
set_option maxHeartbeats 8000000 in
theorem Ls (w:World) (vx vy:Value) (x y:Rat) (hx:cg w vx x) (hy:cg w vy y) {j k:Nat} (hj:dL j x) (hk:dL k y) (tC:j+k<=100000000) (hs:cP x=cP y):Calls Tryz.prog 121 #[vx,vy] w (dW w (.int .i64 (bf (x.num.natAbs*y.den) (y.num.natAbs*x.den)*cP x))):=by
 obtain⟨xY,xZ,rfl,gO,fO⟩:=id hx
 obtain⟨bO,bQ,rfl,_⟩:=id gO
 obtain⟨bP,bR,rfl,_⟩:=id fO
 obtain⟨G8,G9,rfl,pF,mP⟩:=id hy
 obtain⟨dc,di,rfl,_⟩:=id pF
 obtain⟨de,dm,rfl,_⟩:=id mP
 have RM:=zl (yz (x.num.natAbs*y.den) (y.num.natAbs*x.den)) (zw x)
 have Fm:=x.den_pos
 have F0:=y.den_pos
 have HB:=bx (And.intro hj hk)
 have cQ:j<=1000000000:=by omega
 have kT:k<=1000000000:=by omega
 clear hj hk
 obtain⟨sx,Ap⟩:∃s,cP x=s:=⟨_,rfl⟩
 obtain⟨sy,BD⟩:∃s,cP y=s:=⟨_,rfl⟩
 rw[Ap,BD]at hs
 rw[Ap]at RM ⊢
 subst hs
 obtain⟨cc,hcc⟩:∃c,bf (x.num.natAbs*y.den) (y.num.natAbs*x.den)=c:=⟨_,rfl⟩
 rw[hcc]at RM ⊢
 have Sg:=bx hcc
 clear hcc
 have KO:=bx Ap
 have Le:=bx BD
 clear Ap BD
 go_enter Tryz.func121,Tryz.ntmps121
 go_wp2_with fail
 obtain⟨w1,e1,o1,b1,s1⟩:=gj w (.bool (decide (x.num<0))) (.slice bO (ae b64 x.num.natAbs).length bQ) (.slice bP (ae b64 (aq x.den)).length bR) 54
 obtain⟨w2,e2,o2,b2,s2⟩:=gj w1 (.bool (decide (y.num<0))) (.slice dc (ae b64 y.num.natAbs).length di) (.slice de (ae b64 (aq y.den)).length dm) 54
 rw[e1,e2]
 rw[s1]at o2
 have p1:=(o1.gone b2)
 have p2:=o2
 have B0:=(b1.trans (b2.mono b1.size))
 have hS:∀w',cE w 54 [(w.heap.size,.bool (decide (x.num<0)),.slice bO (ae b64 x.num.natAbs).length bQ,.slice bP (ae b64 (aq x.den)).length bR),(w.heap.size+1,.bool (decide (y.num<0)),.slice dc (ae b64 y.num.natAbs).length di,.slice de (ae b64 (aq y.den)).length dm)] w'->cE w 54 [(w.heap.size,.bool (decide (x.num<0)),.slice bO (ae b64 x.num.natAbs).length bQ,.slice bP (ae b64 (aq x.den)).length bR),(w.heap.size+1,.bool (decide (y.num<0)),.slice dc (ae b64 y.num.natAbs).length di,.slice de (ae b64 (aq y.den)).length dm)] w'/\w'.cell? ⟨w.heap.size,0,none⟩=some (.bool (decide (x.num<0)))/\w'.cell? ⟨w.heap.size,1,none⟩=some (.slice bO (ae b64 x.num.natAbs).length bQ)/\w'.cell? ⟨w.heap.size,2,none⟩=some (.slice bP (ae b64 (aq x.den)).length bR)/\w'.cell? ⟨w.heap.size+1,0,none⟩=some (.bool (decide (y.num<0)))/\w'.cell? ⟨w.heap.size+1,1,none⟩=some (.slice dc (ae b64 y.num.natAbs).length di)/\w'.cell? ⟨w.heap.size+1,2,none⟩=some (.slice de (ae b64 (aq y.den)).length dm):=λw' hh=>by
  have q1:=(hh.2 (w.heap.size,.bool (decide (x.num<0)),.slice bO (ae b64 x.num.natAbs).length bQ,.slice bP (ae b64 (aq x.den)).length bR) (by simp))
  have q2:=(hh.2 (w.heap.size+1,.bool (decide (y.num<0)),.slice dc (ae b64 y.num.natAbs).length di,.slice de (ae b64 (aq y.den)).length dm) (by simp))
  exact⟨hh,q1.c0,q1.c1,q1.c2,q2.c0,q2.c1,q2.c2⟩
 have H0:cE w 54 [(w.heap.size,.bool (decide (x.num<0)),.slice bO (ae b64 x.num.natAbs).length bQ,.slice bP (ae b64 (aq x.den)).length bR),(w.heap.size+1,.bool (decide (y.num<0)),.slice dc (ae b64 y.num.natAbs).length di,.slice de (ae b64 (aq y.den)).length dm)] w2:=⟨B0,by intro p hp; simp at hp; rcases hp with rfl|rfl; exact p1; exact p2⟩
 clear e1 e2
 have hz:=H0.drew
 go_region_held3 (λw'=>cE w 54 [(w.heap.size,.bool (decide (x.num<0)),.slice bO (ae b64 x.num.natAbs).length bQ,.slice bP (ae b64 (aq x.den)).length bR),(w.heap.size+1,.bool (decide (y.num<0)),.slice dc (ae b64 y.num.natAbs).length di,.slice de (ae b64 (aq y.den)).length dm)] w'/\w'.cell? ⟨w.heap.size,0,none⟩=some (.bool (decide (x.num<0)))/\w'.cell? ⟨w.heap.size,1,none⟩=some (.slice bO (ae b64 x.num.natAbs).length bQ)/\w'.cell? ⟨w.heap.size,2,none⟩=some (.slice bP (ae b64 (aq x.den)).length bR)/\w'.cell? ⟨w.heap.size+1,0,none⟩=some (.bool (decide (y.num<0)))/\w'.cell? ⟨w.heap.size+1,1,none⟩=some (.slice dc (ae b64 y.num.natAbs).length di)/\w'.cell? ⟨w.heap.size+1,2,none⟩=some (.slice de (ae b64 (aq y.den)).length dm))
  (exact hS _ hz)
  (first
   |(go_at_call 45; have hc:=fU _ _ x (hx.below hz.1); (with_reducible refine Calls.mono hc ?_); clear hc; rintro e wz ⟨rfl,hb⟩; rw[KO.out]; (try have eR:=eR.below hb); (try have eT:=eT.below hb); (try have eP:=eP.below hb); (try have eG:=eG.below hb); have hz:=cE.call (by assumption) hb)
   |(go_at_call 45; have hc:=fU _ _ y (hy.below hz.1); (with_reducible refine Calls.mono hc ?_); clear hc; rintro e wz ⟨rfl,hb⟩; rw[Le.out]; (try have eR:=eR.below hb); (try have eT:=eT.below hb); (try have eP:=eP.below hb); (try have eG:=eG.below hb); have hz:=cE.call (by assumption) hb))
 all_goals (
  go_wp2_with fail
  have hz:=hz.drew
  go_region_held3 (λw'=>cE w 54 [(w.heap.size,.bool (decide (x.num<0)),.slice bO (ae b64 x.num.natAbs).length bQ,.slice bP (ae b64 (aq x.den)).length bR),(w.heap.size+1,.bool (decide (y.num<0)),.slice dc (ae b64 y.num.natAbs).length di,.slice de (ae b64 (aq y.den)).length dm)] w'/\w'.cell? ⟨w.heap.size,0,none⟩=some (.bool (decide (x.num<0)))/\w'.cell? ⟨w.heap.size,1,none⟩=some (.slice bO (ae b64 x.num.natAbs).length bQ)/\w'.cell? ⟨w.heap.size,2,none⟩=some (.slice bP (ae b64 (aq x.den)).length bR)/\w'.cell? ⟨w.heap.size+1,0,none⟩=some (.bool (decide (y.num<0)))/\w'.cell? ⟨w.heap.size+1,1,none⟩=some (.slice dc (ae b64 y.num.natAbs).length di)/\w'.cell? ⟨w.heap.size+1,2,none⟩=some (.slice de (ae b64 (aq y.den)).length dm))
   (exact hS _ hz)
   (first
    |(go_at_call 83; have hc:=fD _ _ x.den (fO.below hz.1) Fm; (with_reducible refine Calls.mono hc ?_); clear hc; rintro e wz ⟨QJ,rfl,eR,hb⟩; (try have eR:=eR.below hb); (try have eT:=eT.below hb); (try have eP:=eP.below hb); (try have eG:=eG.below hb); have hz:=cE.call (by assumption) hb)
    |(go_at_call 83; have hc:=fD _ _ y.den (mP.below hz.1) F0; (with_reducible refine Calls.mono hc ?_); clear hc; rintro e wz ⟨QK,rfl,eT,hb⟩; (try have eR:=eR.below hb); (try have eT:=eT.below hb); (try have eP:=eP.below hb); (try have eG:=eG.below hb); have hz:=cE.call (by assumption) hb)
    |(go_at_call 84; have hc:=fC _ _ _ _ _ (gO.below hz.1) eT HB.out.1.1 HB.out.2.2 cQ kT; (with_reducible refine Calls.mono hc ?_); clear hc; rintro e wz ⟨QH,rfl,eP,hb⟩; (try have eR:=eR.below hb); (try have eT:=eT.below hb); (try have eP:=eP.below hb); (try have eG:=eG.below hb); have hz:=cE.call (by assumption) hb)
    |(go_at_call 84; have hc:=fC _ _ _ _ _ (pF.below hz.1) eR HB.out.2.1 HB.out.1.2 kT cQ; (with_reducible refine Calls.mono hc ?_); clear hc; rintro e wz ⟨QI,rfl,eG,hb⟩; (try have eR:=eR.below hb); (try have eT:=eT.below hb); (try have eP:=eP.below hb); (try have eG:=eG.below hb); have hz:=cE.call (by assumption) hb)
    |(go_at_call 55; have hc:=lK _ _ _ _ _ eP eG; (with_reducible refine Calls.mono hc ?_); clear hc; rintro e wz ⟨rfl,hb⟩; rw[Sg.out]; (try have eR:=eR.below hb); (try have eT:=eT.below hb); (try have eP:=eP.below hb); (try have eG:=eG.below hb); have hz:=cE.call (by assumption) hb)
    |(go_at_call 45; have hc:=fU _ _ x (hx.below hz.1); (with_reducible refine Calls.mono hc ?_); clear hc; rintro e wz ⟨rfl,hb⟩; rw[KO.out]; (try have eR:=eR.below hb); (try have eT:=eT.below hb); (try have eP:=eP.below hb); (try have eG:=eG.below hb); have hz:=cE.call (by assumption) hb))
  all_goals (
   go_wp2
   go_ret
   exact⟨rfl,hz.1⟩))
theorem FK (w:World) (vx vy:Value) (x y:Rat) (hx:cg w vx x) (hy:cg w vy y) {j k:Nat} (hj:dL j x) (hk:dL k y) (tC:j+k<=100000000):Calls Tryz.prog 121 #[vx,vy] w (dW w (.int .i64 (FI x y))):=by
 unfold FI
 by_cases hs:cP x=cP y
 ·rw[if_pos hs]; exact Ls w vx vy x y hx hy hj hk tC hs
 ·rw[if_neg hs]
  by_cases hl:cP x<cP y
  ·rw[if_pos hl]; exact Lq w vx vy x y hx hy hs hl
  ·rw[if_neg hl]; exact Lr w vx vy x y hx hy hs hl
end Wx
