import Derived.Test.YtadigiledciihaaGreatJRA23
namespace Wx
set_option maxRecDepth 100000
open Go Go.RowKit Go.Proofs
set_option linter.unusedVariables false
def cR (w:World) (e:TypeId) (ps:List (Nat×Value×Value×Value)) (w':World):Prop:=Below w.heap.size w w'/\(∀p∈ps,cH w' p.1 p.2.1 p.2.2.1 p.2.2.2 e)
variable {w:World} {e:TypeId} {ps:List (Nat×Value×Value×Value)} {w':World}
theorem cR.call {w'':World} {p:Prop} (h:cR w e ps w'/\p) (hb:Below w'.heap.size w' w''):cR w e ps w'':=by
 obtain⟨⟨h1,h3⟩,_⟩:=h
 exact⟨h1.trans (hb.mono h1.size),λp hp=>(h3 p hp).gone hb⟩
theorem cR.drew (h:cR w e ps w'):cR w e ps w'.drew:=⟨h.1.drew,h.2⟩
def I8 (x y:Rat):Int:=if dD x=dD y then bq (x.num.natAbs*y.den) (y.num.natAbs*x.den)*dD x else if dD x<dD y then -1 else 1
theorem AO (m n:Nat):bq m n = -1\/bq m n=0\/bq m n=1:=by
 unfold bq
 split
 ·exact .inl rfl
 ·split
  ·exact .inr (.inr rfl)
  ·exact .inr (.inl rfl)
theorem BS (x:Rat):dD x = -1\/dD x=0\/dD x=1:=by
 unfold dD
 split
 ·exact .inl rfl
 ·split
  ·exact .inr (.inl rfl)
  ·exact .inr (.inr rfl)
theorem BL {a b:Int} (h1:a = -1\/a=0\/a=1) (h2:b = -1\/b=0\/b=1):IntKind.i64.wrap (a*b)=a*b:=by
 rcases h1 with rfl|rfl|rfl<;>rcases h2 with rfl|rfl|rfl<;>rfl
set_option maxHeartbeats 8000000 in
theorem Ov (w:World) (vx vy:Value) (x y:Rat) (hx:cB w vx x) (hy:cB w vy y) (hs:¬dD x=dD y) (hl:dD x<dD y):Calls Tryz.prog 121 #[vx,vy] w (eK w (.int .i64 (-1))):=by
 obtain⟨xK,xL,rfl,eF,dZ⟩:=id hx
 obtain⟨bO,bQ,rfl,_⟩:=id eF
 obtain⟨bP,bR,rfl,_⟩:=id dZ
 obtain⟨IB,IC,rfl,ia,gK⟩:=id hy
 obtain⟨da,de,rfl,_⟩:=id ia
 obtain⟨dc,dg,rfl,_⟩:=id gK
 obtain⟨sx,CJ⟩:∃s,dD x=s:=⟨_,rfl⟩
 obtain⟨sy,D6⟩:∃s,dD y=s:=⟨_,rfl⟩
 rw[CJ,D6]at hs
 rw[CJ,D6]at hl
 have NH:=bx CJ
 have N5:=bx D6
 clear CJ D6
 go_enter Tryz.func121,Tryz.ntmps121
 go_wp2_with fail
 obtain⟨w1,e1,o1,b1,s1⟩:=ic w (.bool (decide (x.num<0))) (.slice bO (ae b64 x.num.natAbs).length bQ) (.slice bP (ae b64 (az x.den)).length bR) 54
 obtain⟨w2,e2,o2,b2,s2⟩:=ic w1 (.bool (decide (y.num<0))) (.slice da (ae b64 y.num.natAbs).length de) (.slice dc (ae b64 (az y.den)).length dg) 54
 rw[e1,e2]
 rw[s1]at o2
 have p1:=(o1.gone b2)
 have p2:=o2
 have B0:=(b1.trans (b2.mono b1.size))
 have hS:∀w',cR w 54 [(w.heap.size,.bool (decide (x.num<0)),.slice bO (ae b64 x.num.natAbs).length bQ,.slice bP (ae b64 (az x.den)).length bR),(w.heap.size+1,.bool (decide (y.num<0)),.slice da (ae b64 y.num.natAbs).length de,.slice dc (ae b64 (az y.den)).length dg)] w'->cR w 54 [(w.heap.size,.bool (decide (x.num<0)),.slice bO (ae b64 x.num.natAbs).length bQ,.slice bP (ae b64 (az x.den)).length bR),(w.heap.size+1,.bool (decide (y.num<0)),.slice da (ae b64 y.num.natAbs).length de,.slice dc (ae b64 (az y.den)).length dg)] w'/\w'.cell? ⟨w.heap.size,0,none⟩=some (.bool (decide (x.num<0)))/\w'.cell? ⟨w.heap.size,1,none⟩=some (.slice bO (ae b64 x.num.natAbs).length bQ)/\w'.cell? ⟨w.heap.size,2,none⟩=some (.slice bP (ae b64 (az x.den)).length bR)/\w'.cell? ⟨w.heap.size+1,0,none⟩=some (.bool (decide (y.num<0)))/\w'.cell? ⟨w.heap.size+1,1,none⟩=some (.slice da (ae b64 y.num.natAbs).length de)/\w'.cell? ⟨w.heap.size+1,2,none⟩=some (.slice dc (ae b64 (az y.den)).length dg):=λw' hh=>by
  have q1:=(hh.2 (w.heap.size,.bool (decide (x.num<0)),.slice bO (ae b64 x.num.natAbs).length bQ,.slice bP (ae b64 (az x.den)).length bR) (by simp))
  have q2:=(hh.2 (w.heap.size+1,.bool (decide (y.num<0)),.slice da (ae b64 y.num.natAbs).length de,.slice dc (ae b64 (az y.den)).length dg) (by simp))
  exact⟨hh,q1.c0,q1.c1,q1.c2,q2.c0,q2.c1,q2.c2⟩
 have H0:cR w 54 [(w.heap.size,.bool (decide (x.num<0)),.slice bO (ae b64 x.num.natAbs).length bQ,.slice bP (ae b64 (az x.den)).length bR),(w.heap.size+1,.bool (decide (y.num<0)),.slice da (ae b64 y.num.natAbs).length de,.slice dc (ae b64 (az y.den)).length dg)] w2:=⟨B0,by intro p hp; simp at hp; rcases hp with rfl|rfl; exact p1; exact p2⟩
 clear e1 e2
 have hz:=H0.drew
 go_region_held3 (λw'=>cR w 54 [(w.heap.size,.bool (decide (x.num<0)),.slice bO (ae b64 x.num.natAbs).length bQ,.slice bP (ae b64 (az x.den)).length bR),(w.heap.size+1,.bool (decide (y.num<0)),.slice da (ae b64 y.num.natAbs).length de,.slice dc (ae b64 (az y.den)).length dg)] w'/\w'.cell? ⟨w.heap.size,0,none⟩=some (.bool (decide (x.num<0)))/\w'.cell? ⟨w.heap.size,1,none⟩=some (.slice bO (ae b64 x.num.natAbs).length bQ)/\w'.cell? ⟨w.heap.size,2,none⟩=some (.slice bP (ae b64 (az x.den)).length bR)/\w'.cell? ⟨w.heap.size+1,0,none⟩=some (.bool (decide (y.num<0)))/\w'.cell? ⟨w.heap.size+1,1,none⟩=some (.slice da (ae b64 y.num.natAbs).length de)/\w'.cell? ⟨w.heap.size+1,2,none⟩=some (.slice dc (ae b64 (az y.den)).length dg))
  (exact hS _ hz)
  (first
   |(go_at_call 45; have hc:=gT _ _ x (hx.below hz.1); (with_reducible refine Calls.mono hc ?_); clear hc; rintro e wz ⟨rfl,hb⟩; rw[NH.out]; (try have eD:=eD.below hb); (try have eE:=eE.below hb); (try have eC:=eC.below hb); (try have ez:=ez.below hb); have hz:=cR.call (by assumption) hb)
   |(go_at_call 45; have hc:=gT _ _ y (hy.below hz.1); (with_reducible refine Calls.mono hc ?_); clear hc; rintro e wz ⟨rfl,hb⟩; rw[N5.out]; (try have eD:=eD.below hb); (try have eE:=eE.below hb); (try have eC:=eC.below hb); (try have ez:=ez.below hb); have hz:=cR.call (by assumption) hb))
 all_goals (
  go_wp2
  go_ret
  exact⟨rfl,hz.1⟩)
set_option maxHeartbeats 8000000 in
theorem Ow (w:World) (vx vy:Value) (x y:Rat) (hx:cB w vx x) (hy:cB w vy y) (hs:¬dD x=dD y) (hl:¬dD x<dD y):Calls Tryz.prog 121 #[vx,vy] w (eK w (.int .i64 (1))):=by
 obtain⟨xK,xL,rfl,eF,dZ⟩:=id hx
 obtain⟨bO,bQ,rfl,_⟩:=id eF
 obtain⟨bP,bR,rfl,_⟩:=id dZ
 obtain⟨IB,IC,rfl,ia,gK⟩:=id hy
 obtain⟨da,de,rfl,_⟩:=id ia
 obtain⟨dc,dg,rfl,_⟩:=id gK
 obtain⟨sx,CJ⟩:∃s,dD x=s:=⟨_,rfl⟩
 obtain⟨sy,D6⟩:∃s,dD y=s:=⟨_,rfl⟩
 rw[CJ,D6]at hs
 rw[CJ,D6]at hl
 have NH:=bx CJ
 have N5:=bx D6
 clear CJ D6
 go_enter Tryz.func121,Tryz.ntmps121
 go_wp2_with fail
 obtain⟨w1,e1,o1,b1,s1⟩:=ic w (.bool (decide (x.num<0))) (.slice bO (ae b64 x.num.natAbs).length bQ) (.slice bP (ae b64 (az x.den)).length bR) 54
 obtain⟨w2,e2,o2,b2,s2⟩:=ic w1 (.bool (decide (y.num<0))) (.slice da (ae b64 y.num.natAbs).length de) (.slice dc (ae b64 (az y.den)).length dg) 54
 rw[e1,e2]
 rw[s1]at o2
 have p1:=(o1.gone b2)
 have p2:=o2
 have B0:=(b1.trans (b2.mono b1.size))
 have hS:∀w',cR w 54 [(w.heap.size,.bool (decide (x.num<0)),.slice bO (ae b64 x.num.natAbs).length bQ,.slice bP (ae b64 (az x.den)).length bR),(w.heap.size+1,.bool (decide (y.num<0)),.slice da (ae b64 y.num.natAbs).length de,.slice dc (ae b64 (az y.den)).length dg)] w'->cR w 54 [(w.heap.size,.bool (decide (x.num<0)),.slice bO (ae b64 x.num.natAbs).length bQ,.slice bP (ae b64 (az x.den)).length bR),(w.heap.size+1,.bool (decide (y.num<0)),.slice da (ae b64 y.num.natAbs).length de,.slice dc (ae b64 (az y.den)).length dg)] w'/\w'.cell? ⟨w.heap.size,0,none⟩=some (.bool (decide (x.num<0)))/\w'.cell? ⟨w.heap.size,1,none⟩=some (.slice bO (ae b64 x.num.natAbs).length bQ)/\w'.cell? ⟨w.heap.size,2,none⟩=some (.slice bP (ae b64 (az x.den)).length bR)/\w'.cell? ⟨w.heap.size+1,0,none⟩=some (.bool (decide (y.num<0)))/\w'.cell? ⟨w.heap.size+1,1,none⟩=some (.slice da (ae b64 y.num.natAbs).length de)/\w'.cell? ⟨w.heap.size+1,2,none⟩=some (.slice dc (ae b64 (az y.den)).length dg):=λw' hh=>by
  have q1:=(hh.2 (w.heap.size,.bool (decide (x.num<0)),.slice bO (ae b64 x.num.natAbs).length bQ,.slice bP (ae b64 (az x.den)).length bR) (by simp))
  have q2:=(hh.2 (w.heap.size+1,.bool (decide (y.num<0)),.slice da (ae b64 y.num.natAbs).length de,.slice dc (ae b64 (az y.den)).length dg) (by simp))
  exact⟨hh,q1.c0,q1.c1,q1.c2,q2.c0,q2.c1,q2.c2⟩
 have H0:cR w 54 [(w.heap.size,.bool (decide (x.num<0)),.slice bO (ae b64 x.num.natAbs).length bQ,.slice bP (ae b64 (az x.den)).length bR),(w.heap.size+1,.bool (decide (y.num<0)),.slice da (ae b64 y.num.natAbs).length de,.slice dc (ae b64 (az y.den)).length dg)] w2:=⟨B0,by intro p hp; simp at hp; rcases hp with rfl|rfl; exact p1; exact p2⟩
 clear e1 e2
 have hz:=H0.drew
 go_region_held3 (λw'=>cR w 54 [(w.heap.size,.bool (decide (x.num<0)),.slice bO (ae b64 x.num.natAbs).length bQ,.slice bP (ae b64 (az x.den)).length bR),(w.heap.size+1,.bool (decide (y.num<0)),.slice da (ae b64 y.num.natAbs).length de,.slice dc (ae b64 (az y.den)).length dg)] w'/\w'.cell? ⟨w.heap.size,0,none⟩=some (.bool (decide (x.num<0)))/\w'.cell? ⟨w.heap.size,1,none⟩=some (.slice bO (ae b64 x.num.natAbs).length bQ)/\w'.cell? ⟨w.heap.size,2,none⟩=some (.slice bP (ae b64 (az x.den)).length bR)/\w'.cell? ⟨w.heap.size+1,0,none⟩=some (.bool (decide (y.num<0)))/\w'.cell? ⟨w.heap.size+1,1,none⟩=some (.slice da (ae b64 y.num.natAbs).length de)/\w'.cell? ⟨w.heap.size+1,2,none⟩=some (.slice dc (ae b64 (az y.den)).length dg))
  (exact hS _ hz)
  (first
   |(go_at_call 45; have hc:=gT _ _ x (hx.below hz.1); (with_reducible refine Calls.mono hc ?_); clear hc; rintro e wz ⟨rfl,hb⟩; rw[NH.out]; (try have eD:=eD.below hb); (try have eE:=eE.below hb); (try have eC:=eC.below hb); (try have ez:=ez.below hb); have hz:=cR.call (by assumption) hb)
   |(go_at_call 45; have hc:=gT _ _ y (hy.below hz.1); (with_reducible refine Calls.mono hc ?_); clear hc; rintro e wz ⟨rfl,hb⟩; rw[N5.out]; (try have eD:=eD.below hb); (try have eE:=eE.below hb); (try have eC:=eC.below hb); (try have ez:=ez.below hb); have hz:=cR.call (by assumption) hb))
 all_goals (
  go_wp2
  go_ret
  exact⟨rfl,hz.1⟩)
set_option maxHeartbeats 8000000 in
theorem Ox (w:World) (vx vy:Value) (x y:Rat) (hx:cB w vx x) (hy:cB w vy y) {j k:Nat} (hj:dx j x) (hk:dx k y) (sJ:j+k<=100000000) (hs:dD x=dD y):Calls Tryz.prog 121 #[vx,vy] w (eK w (.int .i64 (bq (x.num.natAbs*y.den) (y.num.natAbs*x.den)*dD x))):=by
 obtain⟨xK,xL,rfl,eF,dZ⟩:=id hx
 obtain⟨bO,bQ,rfl,_⟩:=id eF
 obtain⟨bP,bR,rfl,_⟩:=id dZ
 obtain⟨IB,IC,rfl,ia,gK⟩:=id hy
 obtain⟨da,de,rfl,_⟩:=id ia
 obtain⟨dc,dg,rfl,_⟩:=id gK
 have Uv:=BL (AO (x.num.natAbs*y.den) (y.num.natAbs*x.den)) (BS x)
 have Fq:=x.den_pos
 have IM:=y.den_pos
 have HB:=bx (And.intro hj hk)
 have dz:j<=1000000000:=by omega
 have lE:k<=1000000000:=by omega
 clear hj hk
 obtain⟨sx,CJ⟩:∃s,dD x=s:=⟨_,rfl⟩
 obtain⟨sy,D6⟩:∃s,dD y=s:=⟨_,rfl⟩
 rw[CJ,D6]at hs
 rw[CJ]at Uv ⊢
 subst hs
 obtain⟨cc,hcc⟩:∃c,bq (x.num.natAbs*y.den) (y.num.natAbs*x.den)=c:=⟨_,rfl⟩
 rw[hcc]at Uv ⊢
 have U1:=bx hcc
 clear hcc
 have NH:=bx CJ
 have N5:=bx D6
 clear CJ D6
 go_enter Tryz.func121,Tryz.ntmps121
 go_wp2_with fail
 obtain⟨w1,e1,o1,b1,s1⟩:=ic w (.bool (decide (x.num<0))) (.slice bO (ae b64 x.num.natAbs).length bQ) (.slice bP (ae b64 (az x.den)).length bR) 54
 obtain⟨w2,e2,o2,b2,s2⟩:=ic w1 (.bool (decide (y.num<0))) (.slice da (ae b64 y.num.natAbs).length de) (.slice dc (ae b64 (az y.den)).length dg) 54
 rw[e1,e2]
 rw[s1]at o2
 have p1:=(o1.gone b2)
 have p2:=o2
 have B0:=(b1.trans (b2.mono b1.size))
 have hS:∀w',cR w 54 [(w.heap.size,.bool (decide (x.num<0)),.slice bO (ae b64 x.num.natAbs).length bQ,.slice bP (ae b64 (az x.den)).length bR),(w.heap.size+1,.bool (decide (y.num<0)),.slice da (ae b64 y.num.natAbs).length de,.slice dc (ae b64 (az y.den)).length dg)] w'->cR w 54 [(w.heap.size,.bool (decide (x.num<0)),.slice bO (ae b64 x.num.natAbs).length bQ,.slice bP (ae b64 (az x.den)).length bR),(w.heap.size+1,.bool (decide (y.num<0)),.slice da (ae b64 y.num.natAbs).length de,.slice dc (ae b64 (az y.den)).length dg)] w'/\w'.cell? ⟨w.heap.size,0,none⟩=some (.bool (decide (x.num<0)))/\w'.cell? ⟨w.heap.size,1,none⟩=some (.slice bO (ae b64 x.num.natAbs).length bQ)/\w'.cell? ⟨w.heap.size,2,none⟩=some (.slice bP (ae b64 (az x.den)).length bR)/\w'.cell? ⟨w.heap.size+1,0,none⟩=some (.bool (decide (y.num<0)))/\w'.cell? ⟨w.heap.size+1,1,none⟩=some (.slice da (ae b64 y.num.natAbs).length de)/\w'.cell? ⟨w.heap.size+1,2,none⟩=some (.slice dc (ae b64 (az y.den)).length dg):=λw' hh=>by
  have q1:=(hh.2 (w.heap.size,.bool (decide (x.num<0)),.slice bO (ae b64 x.num.natAbs).length bQ,.slice bP (ae b64 (az x.den)).length bR) (by simp))
  have q2:=(hh.2 (w.heap.size+1,.bool (decide (y.num<0)),.slice da (ae b64 y.num.natAbs).length de,.slice dc (ae b64 (az y.den)).length dg) (by simp))
  exact⟨hh,q1.c0,q1.c1,q1.c2,q2.c0,q2.c1,q2.c2⟩
 have H0:cR w 54 [(w.heap.size,.bool (decide (x.num<0)),.slice bO (ae b64 x.num.natAbs).length bQ,.slice bP (ae b64 (az x.den)).length bR),(w.heap.size+1,.bool (decide (y.num<0)),.slice da (ae b64 y.num.natAbs).length de,.slice dc (ae b64 (az y.den)).length dg)] w2:=⟨B0,by intro p hp; simp at hp; rcases hp with rfl|rfl; exact p1; exact p2⟩
 clear e1 e2
 have hz:=H0.drew
 go_region_held3 (λw'=>cR w 54 [(w.heap.size,.bool (decide (x.num<0)),.slice bO (ae b64 x.num.natAbs).length bQ,.slice bP (ae b64 (az x.den)).length bR),(w.heap.size+1,.bool (decide (y.num<0)),.slice da (ae b64 y.num.natAbs).length de,.slice dc (ae b64 (az y.den)).length dg)] w'/\w'.cell? ⟨w.heap.size,0,none⟩=some (.bool (decide (x.num<0)))/\w'.cell? ⟨w.heap.size,1,none⟩=some (.slice bO (ae b64 x.num.natAbs).length bQ)/\w'.cell? ⟨w.heap.size,2,none⟩=some (.slice bP (ae b64 (az x.den)).length bR)/\w'.cell? ⟨w.heap.size+1,0,none⟩=some (.bool (decide (y.num<0)))/\w'.cell? ⟨w.heap.size+1,1,none⟩=some (.slice da (ae b64 y.num.natAbs).length de)/\w'.cell? ⟨w.heap.size+1,2,none⟩=some (.slice dc (ae b64 (az y.den)).length dg))
  (exact hS _ hz)
  (first
   |(go_at_call 45; have hc:=gT _ _ x (hx.below hz.1); (with_reducible refine Calls.mono hc ?_); clear hc; rintro e wz ⟨rfl,hb⟩; rw[NH.out]; (try have eD:=eD.below hb); (try have eE:=eE.below hb); (try have eC:=eC.below hb); (try have ez:=ez.below hb); have hz:=cR.call (by assumption) hb)
   |(go_at_call 45; have hc:=gT _ _ y (hy.below hz.1); (with_reducible refine Calls.mono hc ?_); clear hc; rintro e wz ⟨rfl,hb⟩; rw[N5.out]; (try have eD:=eD.below hb); (try have eE:=eE.below hb); (try have eC:=eC.below hb); (try have ez:=ez.below hb); have hz:=cR.call (by assumption) hb))
 all_goals (
  go_wp2_with fail
  have hz:=hz.drew
  go_region_held3 (λw'=>cR w 54 [(w.heap.size,.bool (decide (x.num<0)),.slice bO (ae b64 x.num.natAbs).length bQ,.slice bP (ae b64 (az x.den)).length bR),(w.heap.size+1,.bool (decide (y.num<0)),.slice da (ae b64 y.num.natAbs).length de,.slice dc (ae b64 (az y.den)).length dg)] w'/\w'.cell? ⟨w.heap.size,0,none⟩=some (.bool (decide (x.num<0)))/\w'.cell? ⟨w.heap.size,1,none⟩=some (.slice bO (ae b64 x.num.natAbs).length bQ)/\w'.cell? ⟨w.heap.size,2,none⟩=some (.slice bP (ae b64 (az x.den)).length bR)/\w'.cell? ⟨w.heap.size+1,0,none⟩=some (.bool (decide (y.num<0)))/\w'.cell? ⟨w.heap.size+1,1,none⟩=some (.slice da (ae b64 y.num.natAbs).length de)/\w'.cell? ⟨w.heap.size+1,2,none⟩=some (.slice dc (ae b64 (az y.den)).length dg))
   (exact hS _ hz)
   (first
    |(go_at_call 83; have hc:=gA _ _ x.den (dZ.below hz.1) Fq; (with_reducible refine Calls.mono hc ?_); clear hc; rintro e wz ⟨QX,rfl,eD,hb⟩; (try have eD:=eD.below hb); (try have eE:=eE.below hb); (try have eC:=eC.below hb); (try have ez:=ez.below hb); have hz:=cR.call (by assumption) hb)
    |(go_at_call 83; have hc:=gA _ _ y.den (gK.below hz.1) IM; (with_reducible refine Calls.mono hc ?_); clear hc; rintro e wz ⟨QY,rfl,eE,hb⟩; (try have eD:=eD.below hb); (try have eE:=eE.below hb); (try have eC:=eC.below hb); (try have ez:=ez.below hb); have hz:=cR.call (by assumption) hb)
    |(go_at_call 84; have hc:=gz _ _ _ _ _ (eF.below hz.1) eE HB.out.1.1 HB.out.2.2 dz lE; (with_reducible refine Calls.mono hc ?_); clear hc; rintro e wz ⟨QV,rfl,eC,hb⟩; (try have eD:=eD.below hb); (try have eE:=eE.below hb); (try have eC:=eC.below hb); (try have ez:=ez.below hb); have hz:=cR.call (by assumption) hb)
    |(go_at_call 84; have hc:=gz _ _ _ _ _ (ia.below hz.1) eD HB.out.2.1 HB.out.1.2 lE dz; (with_reducible refine Calls.mono hc ?_); clear hc; rintro e wz ⟨QW,rfl,ez,hb⟩; (try have eD:=eD.below hb); (try have eE:=eE.below hb); (try have eC:=eC.below hb); (try have ez:=ez.below hb); have hz:=cR.call (by assumption) hb)
    |(go_at_call 55; have hc:=mM _ _ _ _ _ eC ez; (with_reducible refine Calls.mono hc ?_); clear hc; rintro e wz ⟨rfl,hb⟩; rw[U1.out]; (try have eD:=eD.below hb); (try have eE:=eE.below hb); (try have eC:=eC.below hb); (try have ez:=ez.below hb); have hz:=cR.call (by assumption) hb)
    |(go_at_call 45; have hc:=gT _ _ x (hx.below hz.1); (with_reducible refine Calls.mono hc ?_); clear hc; rintro e wz ⟨rfl,hb⟩; rw[NH.out]; (try have eD:=eD.below hb); (try have eE:=eE.below hb); (try have eC:=eC.below hb); (try have ez:=ez.below hb); have hz:=cR.call (by assumption) hb))
  all_goals (
   go_wp2
   go_ret
   exact⟨rfl,hz.1⟩))
theorem Ja (w:World) (vx vy:Value) (x y:Rat) (hx:cB w vx x) (hy:cB w vy y) {j k:Nat} (hj:dx j x) (hk:dx k y) (sJ:j+k<=100000000):Calls Tryz.prog 121 #[vx,vy] w (eK w (.int .i64 (I8 x y))):=by
 unfold I8
 by_cases hs:dD x=dD y
 ·rw[if_pos hs]; exact Ox w vx vy x y hx hy hj hk sJ hs
 ·rw[if_neg hs]
  by_cases hl:dD x<dD y
  ·rw[if_pos hl]; exact Ov w vx vy x y hx hy hs hl
  ·rw[if_neg hl]; exact Ow w vx vy x y hx hy hs hl
end Wx
