import Derived.Test.YtikkgpljpglnbaaGreatJRM22
namespace Wx
set_option maxRecDepth 100000
open Go Go.RowKit Go.Proofs
set_option linter.unusedVariables false
def cC (w:World) (e:TypeId) (ps:List (Nat×Value×Value×Value)) (w':World):Prop:=Below w.heap.size w w'/\(∀p∈ps,ck w' p.1 p.2.1 p.2.2.1 p.2.2.2 e)
variable {w:World} {e:TypeId} {ps:List (Nat×Value×Value×Value)} {w':World}
theorem cC.call {w'':World} {p:Prop} (h:cC w e ps w'/\p) (hb:Below w'.heap.size w' w''):cC w e ps w'':=by
 obtain⟨⟨h1,h3⟩,_⟩:=h
 exact⟨h1.trans (hb.mono h1.size),λp hp=>(h3 p hp).gone hb⟩
theorem cC.drew (h:cC w e ps w'):cC w e ps w'.drew:=⟨h.1.drew,h.2⟩
def Ir (x y:Rat):Int:=if dr x=dr y then cD (x.num.natAbs*y.den) (y.num.natAbs*x.den)*dr x else if dr x<dr y then -1 else 1
theorem Aq (m n:Nat):cD m n = -1\/cD m n=0\/cD m n=1:=by
 unfold cD
 split
 ·exact .inl rfl
 ·split
  ·exact .inr (.inr rfl)
  ·exact .inr (.inl rfl)
theorem BC (x:Rat):dr x = -1\/dr x=0\/dr x=1:=by
 unfold dr
 split
 ·exact .inl rfl
 ·split
  ·exact .inr (.inl rfl)
  ·exact .inr (.inr rfl)
theorem Bt {a b:Int} (h1:a = -1\/a=0\/a=1) (h2:b = -1\/b=0\/b=1):IntKind.i64.wrap (a*b)=a*b:=by
 rcases h1 with rfl|rfl|rfl<;>rcases h2 with rfl|rfl|rfl<;>rfl
set_option maxHeartbeats 8000000 in
theorem Oi (w:World) (vx vy:Value) (x y:Rat) (hx:bW w vx x) (hy:bW w vy y) (hs:¬dr x=dr y) (hl:dr x<dr y):Calls Tryz.prog 71 #[vx,vy] w (eZ w (.int .i64 (-1))):=by
 obtain⟨Hh,Hi,rfl,nE,kF⟩:=id hx
 obtain⟨dF,dJ,rfl,_⟩:=id nE
 obtain⟨dG,dK,rfl,_⟩:=id kF
 obtain⟨NP,NQ,rfl,zX,tZ⟩:=id hy
 obtain⟨eT,eW,rfl,_⟩:=id zX
 obtain⟨eU,eX,rfl,_⟩:=id tZ
 obtain⟨sx,Cq⟩:∃s,dr x=s:=⟨_,rfl⟩
 obtain⟨sy,Dz⟩:∃s,dr y=s:=⟨_,rfl⟩
 rw[Cq,Dz]at hs
 rw[Cq,Dz]at hl
 have Nr:=bx Cq
 have NU:=bx Dz
 clear Cq Dz
 go_enter Tryz.func71,Tryz.ntmps71
 go_wp2_with fail
 obtain⟨w1,e1,o1,b1,s1⟩:=gI w (.bool (decide (x.num<0))) (.slice dF (af b64 x.num.natAbs).length dJ) (.slice dG (af b64 (az x.den)).length dK) 47
 obtain⟨w2,e2,o2,b2,s2⟩:=gI w1 (.bool (decide (y.num<0))) (.slice eT (af b64 y.num.natAbs).length eW) (.slice eU (af b64 (az y.den)).length eX) 47
 rw[e1,e2]
 rw[s1]at o2
 have p1:=(o1.gone b2)
 have p2:=o2
 have B0:=(b1.trans (b2.mono b1.size))
 have hS:∀w',cC w 47 [(w.heap.size,.bool (decide (x.num<0)),.slice dF (af b64 x.num.natAbs).length dJ,.slice dG (af b64 (az x.den)).length dK),(w.heap.size+1,.bool (decide (y.num<0)),.slice eT (af b64 y.num.natAbs).length eW,.slice eU (af b64 (az y.den)).length eX)] w'->cC w 47 [(w.heap.size,.bool (decide (x.num<0)),.slice dF (af b64 x.num.natAbs).length dJ,.slice dG (af b64 (az x.den)).length dK),(w.heap.size+1,.bool (decide (y.num<0)),.slice eT (af b64 y.num.natAbs).length eW,.slice eU (af b64 (az y.den)).length eX)] w'/\w'.cell? ⟨w.heap.size,0,none⟩=some (.bool (decide (x.num<0)))/\w'.cell? ⟨w.heap.size,1,none⟩=some (.slice dF (af b64 x.num.natAbs).length dJ)/\w'.cell? ⟨w.heap.size,2,none⟩=some (.slice dG (af b64 (az x.den)).length dK)/\w'.cell? ⟨w.heap.size+1,0,none⟩=some (.bool (decide (y.num<0)))/\w'.cell? ⟨w.heap.size+1,1,none⟩=some (.slice eT (af b64 y.num.natAbs).length eW)/\w'.cell? ⟨w.heap.size+1,2,none⟩=some (.slice eU (af b64 (az y.den)).length eX):=λw' hh=>by
  have q1:=(hh.2 (w.heap.size,.bool (decide (x.num<0)),.slice dF (af b64 x.num.natAbs).length dJ,.slice dG (af b64 (az x.den)).length dK) (by simp))
  have q2:=(hh.2 (w.heap.size+1,.bool (decide (y.num<0)),.slice eT (af b64 y.num.natAbs).length eW,.slice eU (af b64 (az y.den)).length eX) (by simp))
  exact⟨hh,q1.c0,q1.c1,q1.c2,q2.c0,q2.c1,q2.c2⟩
 have H0:cC w 47 [(w.heap.size,.bool (decide (x.num<0)),.slice dF (af b64 x.num.natAbs).length dJ,.slice dG (af b64 (az x.den)).length dK),(w.heap.size+1,.bool (decide (y.num<0)),.slice eT (af b64 y.num.natAbs).length eW,.slice eU (af b64 (az y.den)).length eX)] w2:=⟨B0,by intro p hp; simp at hp; rcases hp with rfl|rfl; exact p1; exact p2⟩
 clear e1 e2
 have hz:=H0.drew
 go_region_held3 (λw'=>cC w 47 [(w.heap.size,.bool (decide (x.num<0)),.slice dF (af b64 x.num.natAbs).length dJ,.slice dG (af b64 (az x.den)).length dK),(w.heap.size+1,.bool (decide (y.num<0)),.slice eT (af b64 y.num.natAbs).length eW,.slice eU (af b64 (az y.den)).length eX)] w'/\w'.cell? ⟨w.heap.size,0,none⟩=some (.bool (decide (x.num<0)))/\w'.cell? ⟨w.heap.size,1,none⟩=some (.slice dF (af b64 x.num.natAbs).length dJ)/\w'.cell? ⟨w.heap.size,2,none⟩=some (.slice dG (af b64 (az x.den)).length dK)/\w'.cell? ⟨w.heap.size+1,0,none⟩=some (.bool (decide (y.num<0)))/\w'.cell? ⟨w.heap.size+1,1,none⟩=some (.slice eT (af b64 y.num.natAbs).length eW)/\w'.cell? ⟨w.heap.size+1,2,none⟩=some (.slice eU (af b64 (az y.den)).length eX))
  (exact hS _ hz)
  (first
   |(go_at_call 26; have hc:=gE _ _ x (hx.below hz.1); (with_reducible refine Calls.mono hc ?_); clear hc; rintro e wz ⟨rfl,hb⟩; rw[Nr.out]; (try have gT:=gT.below hb); (try have gU:=gU.below hb); (try have gQ:=gQ.below hb); (try have gR:=gR.below hb); have hz:=cC.call (by assumption) hb)
   |(go_at_call 26; have hc:=gE _ _ y (hy.below hz.1); (with_reducible refine Calls.mono hc ?_); clear hc; rintro e wz ⟨rfl,hb⟩; rw[NU.out]; (try have gT:=gT.below hb); (try have gU:=gU.below hb); (try have gQ:=gQ.below hb); (try have gR:=gR.below hb); have hz:=cC.call (by assumption) hb))
 all_goals (
  go_wp2
  go_ret
  exact⟨rfl,hz.1⟩)
set_option maxHeartbeats 8000000 in
theorem Oj (w:World) (vx vy:Value) (x y:Rat) (hx:bW w vx x) (hy:bW w vy y) (hs:¬dr x=dr y) (hl:¬dr x<dr y):Calls Tryz.prog 71 #[vx,vy] w (eZ w (.int .i64 (1))):=by
 obtain⟨Hh,Hi,rfl,nE,kF⟩:=id hx
 obtain⟨dF,dJ,rfl,_⟩:=id nE
 obtain⟨dG,dK,rfl,_⟩:=id kF
 obtain⟨NP,NQ,rfl,zX,tZ⟩:=id hy
 obtain⟨eT,eW,rfl,_⟩:=id zX
 obtain⟨eU,eX,rfl,_⟩:=id tZ
 obtain⟨sx,Cq⟩:∃s,dr x=s:=⟨_,rfl⟩
 obtain⟨sy,Dz⟩:∃s,dr y=s:=⟨_,rfl⟩
 rw[Cq,Dz]at hs
 rw[Cq,Dz]at hl
 have Nr:=bx Cq
 have NU:=bx Dz
 clear Cq Dz
 go_enter Tryz.func71,Tryz.ntmps71
 go_wp2_with fail
 obtain⟨w1,e1,o1,b1,s1⟩:=gI w (.bool (decide (x.num<0))) (.slice dF (af b64 x.num.natAbs).length dJ) (.slice dG (af b64 (az x.den)).length dK) 47
 obtain⟨w2,e2,o2,b2,s2⟩:=gI w1 (.bool (decide (y.num<0))) (.slice eT (af b64 y.num.natAbs).length eW) (.slice eU (af b64 (az y.den)).length eX) 47
 rw[e1,e2]
 rw[s1]at o2
 have p1:=(o1.gone b2)
 have p2:=o2
 have B0:=(b1.trans (b2.mono b1.size))
 have hS:∀w',cC w 47 [(w.heap.size,.bool (decide (x.num<0)),.slice dF (af b64 x.num.natAbs).length dJ,.slice dG (af b64 (az x.den)).length dK),(w.heap.size+1,.bool (decide (y.num<0)),.slice eT (af b64 y.num.natAbs).length eW,.slice eU (af b64 (az y.den)).length eX)] w'->cC w 47 [(w.heap.size,.bool (decide (x.num<0)),.slice dF (af b64 x.num.natAbs).length dJ,.slice dG (af b64 (az x.den)).length dK),(w.heap.size+1,.bool (decide (y.num<0)),.slice eT (af b64 y.num.natAbs).length eW,.slice eU (af b64 (az y.den)).length eX)] w'/\w'.cell? ⟨w.heap.size,0,none⟩=some (.bool (decide (x.num<0)))/\w'.cell? ⟨w.heap.size,1,none⟩=some (.slice dF (af b64 x.num.natAbs).length dJ)/\w'.cell? ⟨w.heap.size,2,none⟩=some (.slice dG (af b64 (az x.den)).length dK)/\w'.cell? ⟨w.heap.size+1,0,none⟩=some (.bool (decide (y.num<0)))/\w'.cell? ⟨w.heap.size+1,1,none⟩=some (.slice eT (af b64 y.num.natAbs).length eW)/\w'.cell? ⟨w.heap.size+1,2,none⟩=some (.slice eU (af b64 (az y.den)).length eX):=λw' hh=>by
  have q1:=(hh.2 (w.heap.size,.bool (decide (x.num<0)),.slice dF (af b64 x.num.natAbs).length dJ,.slice dG (af b64 (az x.den)).length dK) (by simp))
  have q2:=(hh.2 (w.heap.size+1,.bool (decide (y.num<0)),.slice eT (af b64 y.num.natAbs).length eW,.slice eU (af b64 (az y.den)).length eX) (by simp))
  exact⟨hh,q1.c0,q1.c1,q1.c2,q2.c0,q2.c1,q2.c2⟩
 have H0:cC w 47 [(w.heap.size,.bool (decide (x.num<0)),.slice dF (af b64 x.num.natAbs).length dJ,.slice dG (af b64 (az x.den)).length dK),(w.heap.size+1,.bool (decide (y.num<0)),.slice eT (af b64 y.num.natAbs).length eW,.slice eU (af b64 (az y.den)).length eX)] w2:=⟨B0,by intro p hp; simp at hp; rcases hp with rfl|rfl; exact p1; exact p2⟩
 clear e1 e2
 have hz:=H0.drew
 go_region_held3 (λw'=>cC w 47 [(w.heap.size,.bool (decide (x.num<0)),.slice dF (af b64 x.num.natAbs).length dJ,.slice dG (af b64 (az x.den)).length dK),(w.heap.size+1,.bool (decide (y.num<0)),.slice eT (af b64 y.num.natAbs).length eW,.slice eU (af b64 (az y.den)).length eX)] w'/\w'.cell? ⟨w.heap.size,0,none⟩=some (.bool (decide (x.num<0)))/\w'.cell? ⟨w.heap.size,1,none⟩=some (.slice dF (af b64 x.num.natAbs).length dJ)/\w'.cell? ⟨w.heap.size,2,none⟩=some (.slice dG (af b64 (az x.den)).length dK)/\w'.cell? ⟨w.heap.size+1,0,none⟩=some (.bool (decide (y.num<0)))/\w'.cell? ⟨w.heap.size+1,1,none⟩=some (.slice eT (af b64 y.num.natAbs).length eW)/\w'.cell? ⟨w.heap.size+1,2,none⟩=some (.slice eU (af b64 (az y.den)).length eX))
  (exact hS _ hz)
  (first
   |(go_at_call 26; have hc:=gE _ _ x (hx.below hz.1); (with_reducible refine Calls.mono hc ?_); clear hc; rintro e wz ⟨rfl,hb⟩; rw[Nr.out]; (try have gT:=gT.below hb); (try have gU:=gU.below hb); (try have gQ:=gQ.below hb); (try have gR:=gR.below hb); have hz:=cC.call (by assumption) hb)
   |(go_at_call 26; have hc:=gE _ _ y (hy.below hz.1); (with_reducible refine Calls.mono hc ?_); clear hc; rintro e wz ⟨rfl,hb⟩; rw[NU.out]; (try have gT:=gT.below hb); (try have gU:=gU.below hb); (try have gQ:=gQ.below hb); (try have gR:=gR.below hb); have hz:=cC.call (by assumption) hb))
 all_goals (
  go_wp2
  go_ret
  exact⟨rfl,hz.1⟩)
set_option maxHeartbeats 8000000 in
theorem Ol (w:World) (vx vy:Value) (x y:Rat) (hx:bW w vx x) (hy:bW w vy y) {j k:Nat} (hj:fB j x) (hk:fB k y) (FB:j+k<=100000000) (hs:dr x=dr y):Calls Tryz.prog 71 #[vx,vy] w (eZ w (.int .i64 (cD (x.num.natAbs*y.den) (y.num.natAbs*x.den)*dr x))):=by
 obtain⟨Hh,Hi,rfl,nE,kF⟩:=id hx
 obtain⟨dF,dJ,rfl,_⟩:=id nE
 obtain⟨dG,dK,rfl,_⟩:=id kF
 obtain⟨NP,NQ,rfl,zX,tZ⟩:=id hy
 obtain⟨eT,eW,rfl,_⟩:=id zX
 obtain⟨eU,eX,rfl,_⟩:=id tZ
 have Uw:=Bt (Aq (x.num.natAbs*y.den) (y.num.natAbs*x.den)) (BC x)
 have Kw:=x.den_pos
 have Me:=y.den_pos
 have HB:=bx (And.intro hj hk)
 have gg:j<=1000000000:=by omega
 have nD:k<=1000000000:=by omega
 clear hj hk
 obtain⟨sx,Cq⟩:∃s,dr x=s:=⟨_,rfl⟩
 obtain⟨sy,Dz⟩:∃s,dr y=s:=⟨_,rfl⟩
 rw[Cq,Dz]at hs
 rw[Cq]at Uw ⊢
 subst hs
 obtain⟨cc,hcc⟩:∃c,cD (x.num.natAbs*y.den) (y.num.natAbs*x.den)=c:=⟨_,rfl⟩
 rw[hcc]at Uw ⊢
 have U6:=bx hcc
 clear hcc
 have Nr:=bx Cq
 have NU:=bx Dz
 clear Cq Dz
 go_enter Tryz.func71,Tryz.ntmps71
 go_wp2_with fail
 obtain⟨w1,e1,o1,b1,s1⟩:=gI w (.bool (decide (x.num<0))) (.slice dF (af b64 x.num.natAbs).length dJ) (.slice dG (af b64 (az x.den)).length dK) 47
 obtain⟨w2,e2,o2,b2,s2⟩:=gI w1 (.bool (decide (y.num<0))) (.slice eT (af b64 y.num.natAbs).length eW) (.slice eU (af b64 (az y.den)).length eX) 47
 rw[e1,e2]
 rw[s1]at o2
 have p1:=(o1.gone b2)
 have p2:=o2
 have B0:=(b1.trans (b2.mono b1.size))
 have hS:∀w',cC w 47 [(w.heap.size,.bool (decide (x.num<0)),.slice dF (af b64 x.num.natAbs).length dJ,.slice dG (af b64 (az x.den)).length dK),(w.heap.size+1,.bool (decide (y.num<0)),.slice eT (af b64 y.num.natAbs).length eW,.slice eU (af b64 (az y.den)).length eX)] w'->cC w 47 [(w.heap.size,.bool (decide (x.num<0)),.slice dF (af b64 x.num.natAbs).length dJ,.slice dG (af b64 (az x.den)).length dK),(w.heap.size+1,.bool (decide (y.num<0)),.slice eT (af b64 y.num.natAbs).length eW,.slice eU (af b64 (az y.den)).length eX)] w'/\w'.cell? ⟨w.heap.size,0,none⟩=some (.bool (decide (x.num<0)))/\w'.cell? ⟨w.heap.size,1,none⟩=some (.slice dF (af b64 x.num.natAbs).length dJ)/\w'.cell? ⟨w.heap.size,2,none⟩=some (.slice dG (af b64 (az x.den)).length dK)/\w'.cell? ⟨w.heap.size+1,0,none⟩=some (.bool (decide (y.num<0)))/\w'.cell? ⟨w.heap.size+1,1,none⟩=some (.slice eT (af b64 y.num.natAbs).length eW)/\w'.cell? ⟨w.heap.size+1,2,none⟩=some (.slice eU (af b64 (az y.den)).length eX):=λw' hh=>by
  have q1:=(hh.2 (w.heap.size,.bool (decide (x.num<0)),.slice dF (af b64 x.num.natAbs).length dJ,.slice dG (af b64 (az x.den)).length dK) (by simp))
  have q2:=(hh.2 (w.heap.size+1,.bool (decide (y.num<0)),.slice eT (af b64 y.num.natAbs).length eW,.slice eU (af b64 (az y.den)).length eX) (by simp))
  exact⟨hh,q1.c0,q1.c1,q1.c2,q2.c0,q2.c1,q2.c2⟩
 have H0:cC w 47 [(w.heap.size,.bool (decide (x.num<0)),.slice dF (af b64 x.num.natAbs).length dJ,.slice dG (af b64 (az x.den)).length dK),(w.heap.size+1,.bool (decide (y.num<0)),.slice eT (af b64 y.num.natAbs).length eW,.slice eU (af b64 (az y.den)).length eX)] w2:=⟨B0,by intro p hp; simp at hp; rcases hp with rfl|rfl; exact p1; exact p2⟩
 clear e1 e2
 have hz:=H0.drew
 go_region_held3 (λw'=>cC w 47 [(w.heap.size,.bool (decide (x.num<0)),.slice dF (af b64 x.num.natAbs).length dJ,.slice dG (af b64 (az x.den)).length dK),(w.heap.size+1,.bool (decide (y.num<0)),.slice eT (af b64 y.num.natAbs).length eW,.slice eU (af b64 (az y.den)).length eX)] w'/\w'.cell? ⟨w.heap.size,0,none⟩=some (.bool (decide (x.num<0)))/\w'.cell? ⟨w.heap.size,1,none⟩=some (.slice dF (af b64 x.num.natAbs).length dJ)/\w'.cell? ⟨w.heap.size,2,none⟩=some (.slice dG (af b64 (az x.den)).length dK)/\w'.cell? ⟨w.heap.size+1,0,none⟩=some (.bool (decide (y.num<0)))/\w'.cell? ⟨w.heap.size+1,1,none⟩=some (.slice eT (af b64 y.num.natAbs).length eW)/\w'.cell? ⟨w.heap.size+1,2,none⟩=some (.slice eU (af b64 (az y.den)).length eX))
  (exact hS _ hz)
  (first
   |(go_at_call 26; have hc:=gE _ _ x (hx.below hz.1); (with_reducible refine Calls.mono hc ?_); clear hc; rintro e wz ⟨rfl,hb⟩; rw[Nr.out]; (try have gT:=gT.below hb); (try have gU:=gU.below hb); (try have gQ:=gQ.below hb); (try have gR:=gR.below hb); have hz:=cC.call (by assumption) hb)
   |(go_at_call 26; have hc:=gE _ _ y (hy.below hz.1); (with_reducible refine Calls.mono hc ?_); clear hc; rintro e wz ⟨rfl,hb⟩; rw[NU.out]; (try have gT:=gT.below hb); (try have gU:=gU.below hb); (try have gQ:=gQ.below hb); (try have gR:=gR.below hb); have hz:=cC.call (by assumption) hb))
 all_goals (
  go_wp2_with fail
  have hz:=hz.drew
  go_region_held3 (λw'=>cC w 47 [(w.heap.size,.bool (decide (x.num<0)),.slice dF (af b64 x.num.natAbs).length dJ,.slice dG (af b64 (az x.den)).length dK),(w.heap.size+1,.bool (decide (y.num<0)),.slice eT (af b64 y.num.natAbs).length eW,.slice eU (af b64 (az y.den)).length eX)] w'/\w'.cell? ⟨w.heap.size,0,none⟩=some (.bool (decide (x.num<0)))/\w'.cell? ⟨w.heap.size,1,none⟩=some (.slice dF (af b64 x.num.natAbs).length dJ)/\w'.cell? ⟨w.heap.size,2,none⟩=some (.slice dG (af b64 (az x.den)).length dK)/\w'.cell? ⟨w.heap.size+1,0,none⟩=some (.bool (decide (y.num<0)))/\w'.cell? ⟨w.heap.size+1,1,none⟩=some (.slice eT (af b64 y.num.natAbs).length eW)/\w'.cell? ⟨w.heap.size+1,2,none⟩=some (.slice eU (af b64 (az y.den)).length eX))
   (exact hS _ hz)
   (first
    |(go_at_call 51; have hc:=fU _ _ x.den (kF.below hz.1) Kw; (with_reducible refine Calls.mono hc ?_); clear hc; rintro e wz ⟨U3,rfl,gT,hb⟩; (try have gT:=gT.below hb); (try have gU:=gU.below hb); (try have gQ:=gQ.below hb); (try have gR:=gR.below hb); have hz:=cC.call (by assumption) hb)
    |(go_at_call 51; have hc:=fU _ _ y.den (tZ.below hz.1) Me; (with_reducible refine Calls.mono hc ?_); clear hc; rintro e wz ⟨U5,rfl,gU,hb⟩; (try have gT:=gT.below hb); (try have gU:=gU.below hb); (try have gQ:=gQ.below hb); (try have gR:=gR.below hb); have hz:=cC.call (by assumption) hb)
    |(go_at_call 52; have hc:=fT _ _ _ _ _ (nE.below hz.1) gU HB.out.1.1 HB.out.2.2 gg nD; (with_reducible refine Calls.mono hc ?_); clear hc; rintro e wz ⟨U1,rfl,gQ,hb⟩; (try have gT:=gT.below hb); (try have gU:=gU.below hb); (try have gQ:=gQ.below hb); (try have gR:=gR.below hb); have hz:=cC.call (by assumption) hb)
    |(go_at_call 52; have hc:=fT _ _ _ _ _ (zX.below hz.1) gT HB.out.2.1 HB.out.1.2 nD gg; (with_reducible refine Calls.mono hc ?_); clear hc; rintro e wz ⟨U2,rfl,gR,hb⟩; (try have gT:=gT.below hb); (try have gU:=gU.below hb); (try have gQ:=gQ.below hb); (try have gR:=gR.below hb); have hz:=cC.call (by assumption) hb)
    |(go_at_call 55; have hc:=lU _ _ _ _ _ gQ gR; (with_reducible refine Calls.mono hc ?_); clear hc; rintro e wz ⟨rfl,hb⟩; rw[U6.out]; (try have gT:=gT.below hb); (try have gU:=gU.below hb); (try have gQ:=gQ.below hb); (try have gR:=gR.below hb); have hz:=cC.call (by assumption) hb)
    |(go_at_call 26; have hc:=gE _ _ x (hx.below hz.1); (with_reducible refine Calls.mono hc ?_); clear hc; rintro e wz ⟨rfl,hb⟩; rw[Nr.out]; (try have gT:=gT.below hb); (try have gU:=gU.below hb); (try have gQ:=gQ.below hb); (try have gR:=gR.below hb); have hz:=cC.call (by assumption) hb))
  all_goals (
   go_wp2
   go_ret
   exact⟨rfl,hz.1⟩))
theorem Iv (w:World) (vx vy:Value) (x y:Rat) (hx:bW w vx x) (hy:bW w vy y) {j k:Nat} (hj:fB j x) (hk:fB k y) (FB:j+k<=100000000):Calls Tryz.prog 71 #[vx,vy] w (eZ w (.int .i64 (Ir x y))):=by
 unfold Ir
 by_cases hs:dr x=dr y
 ·rw[if_pos hs]; exact Ol w vx vy x y hx hy hj hk FB hs
 ·rw[if_neg hs]
  by_cases hl:dr x<dr y
  ·rw[if_pos hl]; exact Oi w vx vy x y hx hy hs hl
  ·rw[if_neg hl]; exact Oj w vx vy x y hx hy hs hl
end Wx
