import Derived.Test.YtocboimkilkklaaGreatJRC25
import Derived.Laws.Slices
namespace Wx
set_option maxRecDepth 100000
open Go Go.RowKit Go.Proofs
set_option linter.unusedVariables false
def dw (w:World) (e:TypeId) (ps:List (Nat×Value×Value×Value)) (w':World):Prop:=Below w.heap.size w w'/\(∀p∈ps,cW w' p.1 p.2.1 p.2.2.1 p.2.2.2 e)
variable {w:World} {e:TypeId} {ps:List (Nat×Value×Value×Value)} {w':World}
theorem dw.call {w'':World} {p:Prop} (h:dw w e ps w'/\p) (hb:Below w'.heap.size w' w''):dw w e ps w'':=by
 obtain⟨⟨h1,h3⟩,_⟩:=h
 exact⟨h1.trans (hb.mono h1.size),λp hp=>(h3 p hp).gone hb⟩
theorem dw.drew (h:dw w e ps w'):dw w e ps w'.drew:=⟨h.1.drew,h.2⟩
def Kr (x y:Rat):Int:=if cP x=cP y then bp (x.num.natAbs*y.den) (y.num.natAbs*x.den)*cP x else if cP x<cP y then -1 else 1
theorem BN (m n:Nat):bp m n = -1\/bp m n=0\/bp m n=1:=by
 unfold bp
 split
 ·exact .inl rfl
 ·split
  ·exact .inr (.inr rfl)
  ·exact .inr (.inl rfl)
theorem CQ (x:Rat):cP x = -1\/cP x=0\/cP x=1:=by
 unfold cP
 split
 ·exact .inl rfl
 ·split
  ·exact .inr (.inl rfl)
  ·exact .inr (.inr rfl)
theorem CJ {a b:Int} (h1:a = -1\/a=0\/a=1) (h2:b = -1\/b=0\/b=1):IntKind.i64.wrap (a*b)=a*b:=by
 rcases h1 with rfl|rfl|rfl<;>rcases h2 with rfl|rfl|rfl<;>rfl
set_option maxHeartbeats 8000000 in
theorem P3 (w:World) (vx vy:Value) (x y:Rat) (hx:cm w vx x) (hy:cm w vy y) (hs:¬cP x=cP y) (hl:cP x<cP y):Calls Tryz.prog 46 #[vx,vy] w (dA w (.int .i64 (-1))):=by
 obtain⟨sP,sQ,rfl,cN,dH⟩:=id hx
 obtain⟨bN,bP,rfl,_⟩:=id cN
 obtain⟨bO,bQ,rfl,_⟩:=id dH
 obtain⟨GC,GD,rfl,gZ,gI⟩:=id hy
 obtain⟨cZ,dc,rfl,_⟩:=id gZ
 obtain⟨da,de,rfl,_⟩:=id gI
 obtain⟨sx,DO⟩:∃s,cP x=s:=⟨_,rfl⟩
 obtain⟨sy,Fc⟩:∃s,cP y=s:=⟨_,rfl⟩
 rw[DO,Fc]at hs
 rw[DO,Fc]at hl
 have Ps:=bx DO
 have PK:=bx Fc
 clear DO Fc
 go_enter Tryz.func46,Tryz.ntmps46
 go_wp2_with fail
 obtain⟨w1,e1,o1,b1,s1⟩:=ia w (.bool (decide (x.num<0))) (.slice bN (ae b64 x.num.natAbs).length bP) (.slice bO (ae b64 (ak x.den)).length bQ) 32
 obtain⟨w2,e2,o2,b2,s2⟩:=ia w1 (.bool (decide (y.num<0))) (.slice cZ (ae b64 y.num.natAbs).length dc) (.slice da (ae b64 (ak y.den)).length de) 32
 rw[e1,e2]
 rw[s1]at o2
 have p1:=(o1.gone b2)
 have p2:=o2
 have B0:=(b1.trans (b2.mono b1.size))
 have hS:∀w',dw w 32 [(w.heap.size,.bool (decide (x.num<0)),.slice bN (ae b64 x.num.natAbs).length bP,.slice bO (ae b64 (ak x.den)).length bQ),(w.heap.size+1,.bool (decide (y.num<0)),.slice cZ (ae b64 y.num.natAbs).length dc,.slice da (ae b64 (ak y.den)).length de)] w'->dw w 32 [(w.heap.size,.bool (decide (x.num<0)),.slice bN (ae b64 x.num.natAbs).length bP,.slice bO (ae b64 (ak x.den)).length bQ),(w.heap.size+1,.bool (decide (y.num<0)),.slice cZ (ae b64 y.num.natAbs).length dc,.slice da (ae b64 (ak y.den)).length de)] w'/\w'.cell? ⟨w.heap.size,0,none⟩=some (.bool (decide (x.num<0)))/\w'.cell? ⟨w.heap.size,1,none⟩=some (.slice bN (ae b64 x.num.natAbs).length bP)/\w'.cell? ⟨w.heap.size,2,none⟩=some (.slice bO (ae b64 (ak x.den)).length bQ)/\w'.cell? ⟨w.heap.size+1,0,none⟩=some (.bool (decide (y.num<0)))/\w'.cell? ⟨w.heap.size+1,1,none⟩=some (.slice cZ (ae b64 y.num.natAbs).length dc)/\w'.cell? ⟨w.heap.size+1,2,none⟩=some (.slice da (ae b64 (ak y.den)).length de):=λw' hh=>by
  have q1:=(hh.2 (w.heap.size,.bool (decide (x.num<0)),.slice bN (ae b64 x.num.natAbs).length bP,.slice bO (ae b64 (ak x.den)).length bQ) (by simp))
  have q2:=(hh.2 (w.heap.size+1,.bool (decide (y.num<0)),.slice cZ (ae b64 y.num.natAbs).length dc,.slice da (ae b64 (ak y.den)).length de) (by simp))
  exact⟨hh,q1.c0,q1.c1,q1.c2,q2.c0,q2.c1,q2.c2⟩
 have H0:dw w 32 [(w.heap.size,.bool (decide (x.num<0)),.slice bN (ae b64 x.num.natAbs).length bP,.slice bO (ae b64 (ak x.den)).length bQ),(w.heap.size+1,.bool (decide (y.num<0)),.slice cZ (ae b64 y.num.natAbs).length dc,.slice da (ae b64 (ak y.den)).length de)] w2:=⟨B0,by intro p hp; simp at hp; rcases hp with rfl|rfl; exact p1; exact p2⟩
 clear e1 e2
 have hz:=H0.drew
 go_region_held3 (λw'=>dw w 32 [(w.heap.size,.bool (decide (x.num<0)),.slice bN (ae b64 x.num.natAbs).length bP,.slice bO (ae b64 (ak x.den)).length bQ),(w.heap.size+1,.bool (decide (y.num<0)),.slice cZ (ae b64 y.num.natAbs).length dc,.slice da (ae b64 (ak y.den)).length de)] w'/\w'.cell? ⟨w.heap.size,0,none⟩=some (.bool (decide (x.num<0)))/\w'.cell? ⟨w.heap.size,1,none⟩=some (.slice bN (ae b64 x.num.natAbs).length bP)/\w'.cell? ⟨w.heap.size,2,none⟩=some (.slice bO (ae b64 (ak x.den)).length bQ)/\w'.cell? ⟨w.heap.size+1,0,none⟩=some (.bool (decide (y.num<0)))/\w'.cell? ⟨w.heap.size+1,1,none⟩=some (.slice cZ (ae b64 y.num.natAbs).length dc)/\w'.cell? ⟨w.heap.size+1,2,none⟩=some (.slice da (ae b64 (ak y.den)).length de))
  (exact hS _ hz)
  (first
   |(go_at_call 31; have hc:=iq _ _ x (hx.below hz.1); (with_reducible refine Calls.mono hc ?_); clear hc; rintro e wz ⟨rfl,hb⟩; rw[Ps.out]; (try have eY:=eY.below hb); (try have eZ:=eZ.below hb); (try have eX:=eX.below hb); (try have eW:=eW.below hb); have hz:=dw.call (by assumption) hb)
   |(go_at_call 31; have hc:=iq _ _ y (hy.below hz.1); (with_reducible refine Calls.mono hc ?_); clear hc; rintro e wz ⟨rfl,hb⟩; rw[PK.out]; (try have eY:=eY.below hb); (try have eZ:=eZ.below hb); (try have eX:=eX.below hb); (try have eW:=eW.below hb); have hz:=dw.call (by assumption) hb))
 all_goals (
  go_wp2
  go_ret
  exact⟨rfl,hz.1⟩)
set_option maxHeartbeats 8000000 in
theorem P4 (w:World) (vx vy:Value) (x y:Rat) (hx:cm w vx x) (hy:cm w vy y) (hs:¬cP x=cP y) (hl:¬cP x<cP y):Calls Tryz.prog 46 #[vx,vy] w (dA w (.int .i64 (1))):=by
 obtain⟨sP,sQ,rfl,cN,dH⟩:=id hx
 obtain⟨bN,bP,rfl,_⟩:=id cN
 obtain⟨bO,bQ,rfl,_⟩:=id dH
 obtain⟨GC,GD,rfl,gZ,gI⟩:=id hy
 obtain⟨cZ,dc,rfl,_⟩:=id gZ
 obtain⟨da,de,rfl,_⟩:=id gI
 obtain⟨sx,DO⟩:∃s,cP x=s:=⟨_,rfl⟩
 obtain⟨sy,Fc⟩:∃s,cP y=s:=⟨_,rfl⟩
 rw[DO,Fc]at hs
 rw[DO,Fc]at hl
 have Ps:=bx DO
 have PK:=bx Fc
 clear DO Fc
 go_enter Tryz.func46,Tryz.ntmps46
 go_wp2_with fail
 obtain⟨w1,e1,o1,b1,s1⟩:=ia w (.bool (decide (x.num<0))) (.slice bN (ae b64 x.num.natAbs).length bP) (.slice bO (ae b64 (ak x.den)).length bQ) 32
 obtain⟨w2,e2,o2,b2,s2⟩:=ia w1 (.bool (decide (y.num<0))) (.slice cZ (ae b64 y.num.natAbs).length dc) (.slice da (ae b64 (ak y.den)).length de) 32
 rw[e1,e2]
 rw[s1]at o2
 have p1:=(o1.gone b2)
 have p2:=o2
 have B0:=(b1.trans (b2.mono b1.size))
 have hS:∀w',dw w 32 [(w.heap.size,.bool (decide (x.num<0)),.slice bN (ae b64 x.num.natAbs).length bP,.slice bO (ae b64 (ak x.den)).length bQ),(w.heap.size+1,.bool (decide (y.num<0)),.slice cZ (ae b64 y.num.natAbs).length dc,.slice da (ae b64 (ak y.den)).length de)] w'->dw w 32 [(w.heap.size,.bool (decide (x.num<0)),.slice bN (ae b64 x.num.natAbs).length bP,.slice bO (ae b64 (ak x.den)).length bQ),(w.heap.size+1,.bool (decide (y.num<0)),.slice cZ (ae b64 y.num.natAbs).length dc,.slice da (ae b64 (ak y.den)).length de)] w'/\w'.cell? ⟨w.heap.size,0,none⟩=some (.bool (decide (x.num<0)))/\w'.cell? ⟨w.heap.size,1,none⟩=some (.slice bN (ae b64 x.num.natAbs).length bP)/\w'.cell? ⟨w.heap.size,2,none⟩=some (.slice bO (ae b64 (ak x.den)).length bQ)/\w'.cell? ⟨w.heap.size+1,0,none⟩=some (.bool (decide (y.num<0)))/\w'.cell? ⟨w.heap.size+1,1,none⟩=some (.slice cZ (ae b64 y.num.natAbs).length dc)/\w'.cell? ⟨w.heap.size+1,2,none⟩=some (.slice da (ae b64 (ak y.den)).length de):=λw' hh=>by
  have q1:=(hh.2 (w.heap.size,.bool (decide (x.num<0)),.slice bN (ae b64 x.num.natAbs).length bP,.slice bO (ae b64 (ak x.den)).length bQ) (by simp))
  have q2:=(hh.2 (w.heap.size+1,.bool (decide (y.num<0)),.slice cZ (ae b64 y.num.natAbs).length dc,.slice da (ae b64 (ak y.den)).length de) (by simp))
  exact⟨hh,q1.c0,q1.c1,q1.c2,q2.c0,q2.c1,q2.c2⟩
 have H0:dw w 32 [(w.heap.size,.bool (decide (x.num<0)),.slice bN (ae b64 x.num.natAbs).length bP,.slice bO (ae b64 (ak x.den)).length bQ),(w.heap.size+1,.bool (decide (y.num<0)),.slice cZ (ae b64 y.num.natAbs).length dc,.slice da (ae b64 (ak y.den)).length de)] w2:=⟨B0,by intro p hp; simp at hp; rcases hp with rfl|rfl; exact p1; exact p2⟩
 clear e1 e2
 have hz:=H0.drew
 go_region_held3 (λw'=>dw w 32 [(w.heap.size,.bool (decide (x.num<0)),.slice bN (ae b64 x.num.natAbs).length bP,.slice bO (ae b64 (ak x.den)).length bQ),(w.heap.size+1,.bool (decide (y.num<0)),.slice cZ (ae b64 y.num.natAbs).length dc,.slice da (ae b64 (ak y.den)).length de)] w'/\w'.cell? ⟨w.heap.size,0,none⟩=some (.bool (decide (x.num<0)))/\w'.cell? ⟨w.heap.size,1,none⟩=some (.slice bN (ae b64 x.num.natAbs).length bP)/\w'.cell? ⟨w.heap.size,2,none⟩=some (.slice bO (ae b64 (ak x.den)).length bQ)/\w'.cell? ⟨w.heap.size+1,0,none⟩=some (.bool (decide (y.num<0)))/\w'.cell? ⟨w.heap.size+1,1,none⟩=some (.slice cZ (ae b64 y.num.natAbs).length dc)/\w'.cell? ⟨w.heap.size+1,2,none⟩=some (.slice da (ae b64 (ak y.den)).length de))
  (exact hS _ hz)
  (first
   |(go_at_call 31; have hc:=iq _ _ x (hx.below hz.1); (with_reducible refine Calls.mono hc ?_); clear hc; rintro e wz ⟨rfl,hb⟩; rw[Ps.out]; (try have eY:=eY.below hb); (try have eZ:=eZ.below hb); (try have eX:=eX.below hb); (try have eW:=eW.below hb); have hz:=dw.call (by assumption) hb)
   |(go_at_call 31; have hc:=iq _ _ y (hy.below hz.1); (with_reducible refine Calls.mono hc ?_); clear hc; rintro e wz ⟨rfl,hb⟩; rw[PK.out]; (try have eY:=eY.below hb); (try have eZ:=eZ.below hb); (try have eX:=eX.below hb); (try have eW:=eW.below hb); have hz:=dw.call (by assumption) hb))
 all_goals (
  go_wp2
  go_ret
  exact⟨rfl,hz.1⟩)
set_option maxHeartbeats 8000000 in
theorem P5 (w:World) (vx vy:Value) (x y:Rat) (hx:cm w vx x) (hy:cm w vy y) {j k:Nat} (hj:bB j x) (hk:bB k y) (vv:j+k<=100000000) (hs:cP x=cP y):Calls Tryz.prog 46 #[vx,vy] w (dA w (.int .i64 (bp (x.num.natAbs*y.den) (y.num.natAbs*x.den)*cP x))):=by
 obtain⟨sP,sQ,rfl,cN,dH⟩:=id hx
 obtain⟨bN,bP,rfl,_⟩:=id cN
 obtain⟨bO,bQ,rfl,_⟩:=id dH
 obtain⟨GC,GD,rfl,gZ,gI⟩:=id hy
 obtain⟨cZ,dc,rfl,_⟩:=id gZ
 obtain⟨da,de,rfl,_⟩:=id gI
 have WV:=CJ (BN (x.num.natAbs*y.den) (y.num.natAbs*x.den)) (CQ x)
 have Gw:=x.den_pos
 have J0:=y.den_pos
 have HB:=bx (And.intro hj hk)
 have cM:j<=1000000000:=by omega
 have kX:k<=1000000000:=by omega
 clear hj hk
 obtain⟨sx,DO⟩:∃s,cP x=s:=⟨_,rfl⟩
 obtain⟨sy,Fc⟩:∃s,cP y=s:=⟨_,rfl⟩
 rw[DO,Fc]at hs
 rw[DO]at WV ⊢
 subst hs
 obtain⟨cc,hcc⟩:∃c,bp (x.num.natAbs*y.den) (y.num.natAbs*x.den)=c:=⟨_,rfl⟩
 rw[hcc]at WV ⊢
 have Xq:=bx hcc
 clear hcc
 have Ps:=bx DO
 have PK:=bx Fc
 clear DO Fc
 go_enter Tryz.func46,Tryz.ntmps46
 go_wp2_with fail
 obtain⟨w1,e1,o1,b1,s1⟩:=ia w (.bool (decide (x.num<0))) (.slice bN (ae b64 x.num.natAbs).length bP) (.slice bO (ae b64 (ak x.den)).length bQ) 32
 obtain⟨w2,e2,o2,b2,s2⟩:=ia w1 (.bool (decide (y.num<0))) (.slice cZ (ae b64 y.num.natAbs).length dc) (.slice da (ae b64 (ak y.den)).length de) 32
 rw[e1,e2]
 rw[s1]at o2
 have p1:=(o1.gone b2)
 have p2:=o2
 have B0:=(b1.trans (b2.mono b1.size))
 have hS:∀w',dw w 32 [(w.heap.size,.bool (decide (x.num<0)),.slice bN (ae b64 x.num.natAbs).length bP,.slice bO (ae b64 (ak x.den)).length bQ),(w.heap.size+1,.bool (decide (y.num<0)),.slice cZ (ae b64 y.num.natAbs).length dc,.slice da (ae b64 (ak y.den)).length de)] w'->dw w 32 [(w.heap.size,.bool (decide (x.num<0)),.slice bN (ae b64 x.num.natAbs).length bP,.slice bO (ae b64 (ak x.den)).length bQ),(w.heap.size+1,.bool (decide (y.num<0)),.slice cZ (ae b64 y.num.natAbs).length dc,.slice da (ae b64 (ak y.den)).length de)] w'/\w'.cell? ⟨w.heap.size,0,none⟩=some (.bool (decide (x.num<0)))/\w'.cell? ⟨w.heap.size,1,none⟩=some (.slice bN (ae b64 x.num.natAbs).length bP)/\w'.cell? ⟨w.heap.size,2,none⟩=some (.slice bO (ae b64 (ak x.den)).length bQ)/\w'.cell? ⟨w.heap.size+1,0,none⟩=some (.bool (decide (y.num<0)))/\w'.cell? ⟨w.heap.size+1,1,none⟩=some (.slice cZ (ae b64 y.num.natAbs).length dc)/\w'.cell? ⟨w.heap.size+1,2,none⟩=some (.slice da (ae b64 (ak y.den)).length de):=λw' hh=>by
  have q1:=(hh.2 (w.heap.size,.bool (decide (x.num<0)),.slice bN (ae b64 x.num.natAbs).length bP,.slice bO (ae b64 (ak x.den)).length bQ) (by simp))
  have q2:=(hh.2 (w.heap.size+1,.bool (decide (y.num<0)),.slice cZ (ae b64 y.num.natAbs).length dc,.slice da (ae b64 (ak y.den)).length de) (by simp))
  exact⟨hh,q1.c0,q1.c1,q1.c2,q2.c0,q2.c1,q2.c2⟩
 have H0:dw w 32 [(w.heap.size,.bool (decide (x.num<0)),.slice bN (ae b64 x.num.natAbs).length bP,.slice bO (ae b64 (ak x.den)).length bQ),(w.heap.size+1,.bool (decide (y.num<0)),.slice cZ (ae b64 y.num.natAbs).length dc,.slice da (ae b64 (ak y.den)).length de)] w2:=⟨B0,by intro p hp; simp at hp; rcases hp with rfl|rfl; exact p1; exact p2⟩
 clear e1 e2
 have hz:=H0.drew
 go_region_held3 (λw'=>dw w 32 [(w.heap.size,.bool (decide (x.num<0)),.slice bN (ae b64 x.num.natAbs).length bP,.slice bO (ae b64 (ak x.den)).length bQ),(w.heap.size+1,.bool (decide (y.num<0)),.slice cZ (ae b64 y.num.natAbs).length dc,.slice da (ae b64 (ak y.den)).length de)] w'/\w'.cell? ⟨w.heap.size,0,none⟩=some (.bool (decide (x.num<0)))/\w'.cell? ⟨w.heap.size,1,none⟩=some (.slice bN (ae b64 x.num.natAbs).length bP)/\w'.cell? ⟨w.heap.size,2,none⟩=some (.slice bO (ae b64 (ak x.den)).length bQ)/\w'.cell? ⟨w.heap.size+1,0,none⟩=some (.bool (decide (y.num<0)))/\w'.cell? ⟨w.heap.size+1,1,none⟩=some (.slice cZ (ae b64 y.num.natAbs).length dc)/\w'.cell? ⟨w.heap.size+1,2,none⟩=some (.slice da (ae b64 (ak y.den)).length de))
  (exact hS _ hz)
  (first
   |(go_at_call 31; have hc:=iq _ _ x (hx.below hz.1); (with_reducible refine Calls.mono hc ?_); clear hc; rintro e wz ⟨rfl,hb⟩; rw[Ps.out]; (try have eY:=eY.below hb); (try have eZ:=eZ.below hb); (try have eX:=eX.below hb); (try have eW:=eW.below hb); have hz:=dw.call (by assumption) hb)
   |(go_at_call 31; have hc:=iq _ _ y (hy.below hz.1); (with_reducible refine Calls.mono hc ?_); clear hc; rintro e wz ⟨rfl,hb⟩; rw[PK.out]; (try have eY:=eY.below hb); (try have eZ:=eZ.below hb); (try have eX:=eX.below hb); (try have eW:=eW.below hb); have hz:=dw.call (by assumption) hb))
 all_goals (
  go_wp2_with fail
  have hz:=hz.drew
  go_region_held3 (λw'=>dw w 32 [(w.heap.size,.bool (decide (x.num<0)),.slice bN (ae b64 x.num.natAbs).length bP,.slice bO (ae b64 (ak x.den)).length bQ),(w.heap.size+1,.bool (decide (y.num<0)),.slice cZ (ae b64 y.num.natAbs).length dc,.slice da (ae b64 (ak y.den)).length de)] w'/\w'.cell? ⟨w.heap.size,0,none⟩=some (.bool (decide (x.num<0)))/\w'.cell? ⟨w.heap.size,1,none⟩=some (.slice bN (ae b64 x.num.natAbs).length bP)/\w'.cell? ⟨w.heap.size,2,none⟩=some (.slice bO (ae b64 (ak x.den)).length bQ)/\w'.cell? ⟨w.heap.size+1,0,none⟩=some (.bool (decide (y.num<0)))/\w'.cell? ⟨w.heap.size+1,1,none⟩=some (.slice cZ (ae b64 y.num.natAbs).length dc)/\w'.cell? ⟨w.heap.size+1,2,none⟩=some (.slice da (ae b64 (ak y.den)).length de))
   (exact hS _ hz)
   (first
    |(go_at_call 70; have hc:=gM _ _ x.den (dH.below hz.1) Gw; (with_reducible refine Calls.mono hc ?_); clear hc; rintro e wz ⟨SX,rfl,eY,hb⟩; (try have eY:=eY.below hb); (try have eZ:=eZ.below hb); (try have eX:=eX.below hb); (try have eW:=eW.below hb); have hz:=dw.call (by assumption) hb)
    |(go_at_call 70; have hc:=gM _ _ y.den (gI.below hz.1) J0; (with_reducible refine Calls.mono hc ?_); clear hc; rintro e wz ⟨SY,rfl,eZ,hb⟩; (try have eY:=eY.below hb); (try have eZ:=eZ.below hb); (try have eX:=eX.below hb); (try have eW:=eW.below hb); have hz:=dw.call (by assumption) hb)
    |(go_at_call 71; have hc:=gL _ _ _ _ _ (cN.below hz.1) eZ HB.out.1.1 HB.out.2.2 cM kX; (with_reducible refine Calls.mono hc ?_); clear hc; rintro e wz ⟨SU,rfl,eX,hb⟩; (try have eY:=eY.below hb); (try have eZ:=eZ.below hb); (try have eX:=eX.below hb); (try have eW:=eW.below hb); have hz:=dw.call (by assumption) hb)
    |(go_at_call 71; have hc:=gL _ _ _ _ _ (gZ.below hz.1) eY HB.out.2.1 HB.out.1.2 kX cM; (with_reducible refine Calls.mono hc ?_); clear hc; rintro e wz ⟨SV,rfl,eW,hb⟩; (try have eY:=eY.below hb); (try have eZ:=eZ.below hb); (try have eX:=eX.below hb); (try have eW:=eW.below hb); have hz:=dw.call (by assumption) hb)
    |(go_at_call 73; have hc:=nE _ _ _ _ _ eX eW; (with_reducible refine Calls.mono hc ?_); clear hc; rintro e wz ⟨rfl,hb⟩; rw[Xq.out]; (try have eY:=eY.below hb); (try have eZ:=eZ.below hb); (try have eX:=eX.below hb); (try have eW:=eW.below hb); have hz:=dw.call (by assumption) hb)
    |(go_at_call 31; have hc:=iq _ _ x (hx.below hz.1); (with_reducible refine Calls.mono hc ?_); clear hc; rintro e wz ⟨rfl,hb⟩; rw[Ps.out]; (try have eY:=eY.below hb); (try have eZ:=eZ.below hb); (try have eX:=eX.below hb); (try have eW:=eW.below hb); have hz:=dw.call (by assumption) hb))
  all_goals (
   go_wp2
   go_ret
   exact⟨rfl,hz.1⟩))
theorem Kt (w:World) (vx vy:Value) (x y:Rat) (hx:cm w vx x) (hy:cm w vy y) {j k:Nat} (hj:bB j x) (hk:bB k y) (vv:j+k<=100000000):Calls Tryz.prog 46 #[vx,vy] w (dA w (.int .i64 (Kr x y))):=by
 unfold Kr
 by_cases hs:cP x=cP y
 ·rw[if_pos hs]; exact P5 w vx vy x y hx hy hj hk vv hs
 ·rw[if_neg hs]
  by_cases hl:cP x<cP y
  ·rw[if_pos hl]; exact P3 w vx vy x y hx hy hs hl
  ·rw[if_neg hl]; exact P4 w vx vy x y hx hy hs hl
end Wx

namespace Wx
open Go Go.RowKit Go.Proofs
def fD (x y:Rat):Int:=if x<y then -1 else if x=y then 0 else 1
theorem gg (q:Rat):q.num<0↔q<0:=by
 rw[Rat.lt_iff]
 simp
theorem sN (q:Rat):cP q=fD q 0:=by
 unfold cP fD
 by_cases h:q<0
 ·rw[if_pos ((gg q).2 h),if_pos h]
 ·rw[if_neg (λh'=>h ((gg q).1 h')),if_neg h]
variable {x y:Rat}
theorem dK (h:x<y):fD x y = -1:=if_pos h
theorem dV (h:x=y):fD x y=0:=by unfold fD; rw[if_neg (by grind),if_pos h]
theorem dW (h:y<x):fD x y=1:=by unfold fD; rw[if_neg (by grind),if_neg (by grind)]
theorem Gm (x y:Rat):x<y\/x=y\/y<x:=by grind
theorem zK (h:x.num*y.den=y.num*x.den):x=y:=by
 rcases Gm x y with h1|h1|h1
 ·rw[Rat.lt_iff]at h1; omega
 ·exact h1
 ·rw[Rat.lt_iff]at h1; omega
theorem zJ (m n:Nat):(m<n/\bp m n = -1)\/(m=n/\bp m n=0)\/(n<m/\bp m n=1):=by
 unfold bp
 rcases Nat.lt_trichotomy m n with h|h|h
 ·left; exact⟨h,if_pos h⟩
 ·right; left; exact⟨h,by rw[if_neg (by omega),if_neg (by omega)]⟩
 ·right; right; exact⟨h,by rw[if_neg (by omega),if_pos h]⟩
theorem Ks (x y:Rat):Kr x y=fD x y:=by
 have Gw:(0:Int)<x.den:=by have:=x.den_pos; omega
 have J0:(0:Int)<y.den:=by have:=y.den_pos; omega
 have ax:((x.num.natAbs*y.den:Nat):Int)=(x.num.natAbs:Int)*y.den:=by simp
 have ay:((y.num.natAbs*x.den:Nat):Int)=(y.num.natAbs:Int)*x.den:=by simp
 unfold Kr
 rw[sN,sN]
 rcases Gm x 0 with hx|hx|hx
 ·have nx:x.num<0:=(gg x).2 hx
  have Tx:(x.num.natAbs:Int) = -x.num:=by omega
  rw[dK hx]
  rcases Gm y 0 with hy|hy|hy
  ·have ny:y.num<0:=(gg y).2 hy
   have Tz:(y.num.natAbs:Int) = -y.num:=by omega
   rw[dK hy,if_pos rfl]
   rw[Tx,Int.neg_mul]at ax
   rw[Tz,Int.neg_mul]at ay
   rcases zJ (x.num.natAbs*y.den) (y.num.natAbs*x.den)with⟨h,e⟩|⟨h,e⟩|⟨h,e⟩
   ·rw[e,dW (by rw[Rat.lt_iff]; omega)]; rfl
   ·rw[e,dV (zK (by omega))]; rfl
   ·rw[e,dK (by rw[Rat.lt_iff]; omega)]; rfl
  ·rw[dV hy,if_neg (by omega),if_pos (by omega),dK (by grind)]
  ·rw[dW hy,if_neg (by omega),if_pos (by omega),dK (by grind)]
 ·rw[dV hx]
  rcases Gm y 0 with hy|hy|hy
  ·rw[dK hy,if_neg (by omega),if_neg (by omega),dW (by grind)]
  ·rw[dV hy,if_pos rfl,dV (by grind),Int.mul_zero]
  ·rw[dW hy,if_neg (by omega),if_pos (by omega),dK (by grind)]
 ·have nx:0<x.num:=by
   have h1:=mt (gg x).1 (by grind)
   have h2:x.num≠0:=λh=>by have:=Rat.num_eq_zero.1 h; grind
   omega
  have Tx:(x.num.natAbs:Int)=x.num:=by omega
  rw[dW hx]
  rcases Gm y 0 with hy|hy|hy
  ·rw[dK hy,if_neg (by omega),if_neg (by omega),dW (by grind)]
  ·rw[dV hy,if_neg (by omega),if_neg (by omega),dW (by grind)]
  ·have ny:0<y.num:=by
    have h1:=mt (gg y).1 (by grind)
    have h2:y.num≠0:=λh=>by have:=Rat.num_eq_zero.1 h; grind
    omega
   have Tz:(y.num.natAbs:Int)=y.num:=by omega
   rw[dW hy,if_pos rfl,Int.mul_one]
   rw[Tx]at ax
   rw[Tz]at ay
   rcases zJ (x.num.natAbs*y.den) (y.num.natAbs*x.den)with⟨h,e⟩|⟨h,e⟩|⟨h,e⟩
   ·rw[e,dK (by rw[Rat.lt_iff]; omega)]
   ·rw[e,dV (zK (by omega))]
   ·rw[e,dW (by rw[Rat.lt_iff]; omega)]
theorem EN (x y:Rat):fD y x = -fD x y:=by
 rcases Gm x y with h|h|h
 ·rw[dK h,dW h]; rfl
 ·rw[dV h,dV h.symm]; rfl
 ·rw[dW h,dK h]
theorem sw:fD x y<=0↔x<=y:=by
 rcases Gm x y with h|h|h
 ·rw[dK h]; constructor
  ·intro _; grind
  ·intro _; omega
 ·rw[dV h]; exact⟨λ_=>by grind,λ_=>by omega⟩
 ·rw[dW h]; constructor
  ·intro h'; omega
  ·intro h'; grind
theorem G5 (x y:Rat):fD (x-y) 0=fD x y:=by
 rcases Gm x y with h|h|h
 ·rw[dK h,dK (by grind)]
 ·rw[dV h,dV (by grind)]
 ·rw[dW h,dW (by grind)]
end Wx

namespace Wx
open Go Go.RowKit Go.Proofs
theorem Dm {x y:Rat} {j k:Nat} (hx:bB j x) (hy:bB k y) (h:j+k<=100000000):∀w v1 v2,aD x w v1->aD y w v2->Calls Tryz.prog 46 #[v1,v2] w (ew (pI (fD x y)) w):=
 λw v1 v2 h1 h2=>(Kt w v1 v2 x y h1 h2 hx hy h).mono λ_ _ h=>by rw[Ks]at h; exact oM h
end Wx

namespace Wx
open Go Go.RowKit Go.Proofs
theorem bB.Kf {j k:Nat} {x y:Rat} (h:bB j x) (g:bB k y):bB (j+k+1) (x+y):=by
 have a:=h.1.mul g.2
 have b:=g.1.mul h.2
 have d:=h.2.mul g.2
 have hd:=Nat.mul_pos x.den_pos y.den_pos
 have ab:Bd (j+k+1) (x.num.natAbs*y.den+y.num.natAbs*x.den):=by
  unfold Bd at *
  rw[Nat.add_comm k j]at b
  rw[Nat.pow_succ]
  omega
 have d':Bd (j+k+1) (x.den*y.den):=d.mono (by omega)
 by_cases hs:decide (x.num<0)=decide (y.num<0)
 ·rw[add_same x y hs]; exact nQ hd ab d'
 ·by_cases hge:y.num.natAbs*x.den<=x.num.natAbs*y.den
  ·rw[BH x y hs hge]; exact nQ hd (ab.le (by omega)) d'
  ·rw[BI x y hs (by omega)]; exact nQ hd (ab.le (by omega)) d'
theorem ew.map {p q:Pred} {w:World} (h:∀w v,p w v->q w v):∀{e:Ending} {w':World},ew p w e w'->ew q w e w':=λ⟨v,e,hp,hb⟩=>⟨v,e,h _ _ hp,hb⟩
variable {x y:Rat} {j k:Nat}
theorem PN (h:j+k<=40000000):∀w v1 v2,pR j x w v1->pR k y w v2->Calls Tryz.prog 32 #[v1,v2] w (ew (pR (j+k+1) (x+y)) w):=λw v1 v2 h1 h2=>(PW h1.1 h2.1 (by omega) w v1 v2 h1.2 h2.2).mono λ_ _=>ew.map (rF (h1.1.Kf h2.1))
theorem Dg (h:j+k<=100000000):∀w v1 v2,pR j x w v1->pR k y w v2->Calls Tryz.prog 33 #[v1,v2] w (ew (pR (j+k) (x*y)) w):=λw v1 v2 h1 h2=>(PZ h1.1 h2.1 h w v1 v2 h1.2 h2.2).mono λ_ _=>ew.map (rF (h1.1.mul h2.1))
theorem PO (h:j+k<=100000000):∀w v1 v2,pR j x w v1->pR k y w v2->Calls Tryz.prog 75 #[v1,v2] w (ew (gh (pR (j+k) (x/y)) (pI (if y=0 then 3 else 0))) w):=λw v1 v2 h1 h2=>(PX h1.1 h2.1 h w v1 v2 h1.2 h2.2).mono λ_ _=>ew.map λ_ _ ⟨a,b,e,p,q⟩=>⟨a,b,e,⟨h1.1.quo h2.1,p⟩,q⟩
theorem GN (_:True):∀w v1,pR j x w v1->Calls Tryz.prog 15 #[v1] w (ew (pB (decide (x=0))) w):=λw v1 h1=>NI x w v1 h1.2
theorem xO (_:True):∀w v1,pR j x w v1->Calls Tryz.prog 31 #[v1] w (ew (pI (cP x)) w):=λw v1 h1=>NH x w v1 h1.2
theorem Di {z:Int} (h1:-9223372036854775808<=z) (h2:z<=9223372036854775807):bB 64 (z:Rat):=⟨by unfold Bd; rw[Rat.num_intCast]; omega,by unfold Bd; rw[Rat.den_intCast]; omega⟩
theorem Df {n:Int} (h:-9223372036854775808<=n/\n<=9223372036854775807):∀w v1,pI n w v1->Calls Tryz.prog 25 #[v1] w (ew (pR 64 (n:Rat)) w):=λw v1 h1=>(PY n h.1 h.2 w v1 h1).mono λ_ _=>ew.map (rF (Di h.1 h.2))
theorem sZ {J:Nat} (hb:bB J (x+y)) (h:j+k<=40000000):∀w v1 v2,pR j x w v1->pR k y w v2->Calls Tryz.prog 32 #[v1,v2] w (ew (pR J (x+y)) w):=λw v1 v2 h1 h2=>(PN h w v1 v2 h1 h2).mono λ_ _=>ew.map λ_ _ q=>⟨hb,q.2⟩
end Wx

namespace Wx
open Go Go.RowKit
def FY (f:FuncId) (sz:Nat) (agg:Bool) (q:Pred):Pred:=λw v=>∃u,v=.func (.func f) #[] #[u]/\dU sz agg q w u
section
variable {P:Program} {ops:Array Oper} {ms:List Nat} {c:dS} {V:List Vr} {A:List Al} {G:List bf} {i:Nat} {L:Nat->Bool} {β:Nat->Nat->Prop} {a:Act} {w:World} {o:Oper}{d:Nat} {x y z:Operand} {ty:TypeId} {pos:String} {aJ:Array Edge}
theorem FR {f:FuncId} {fx:Operand} {ts:Array TypeId} {sz:Nat} {agg:Bool} {p q p1:Pred} (hf:aI P f) (hx:Has ms G i fx (FY f sz agg q)) (h1:Has ms G i x p1) (hp:Post G i p)
  (hc:∀(M:Nat->Nat->Prop) (w:World) (v1 v2:Value),dz M w->aP M (λw=>p1 w v1) w->aP M (λw=>dU sz agg q w v2) w->Calls P f #[v1,v2] w (bE M p w)):OpOk P ops ms c V A G i ⟨some d,.call ⟨.value fx,#[x],ts⟩,ty,pos,aJ,none⟩:=by
 refine jr (λL β a w hI hd hwf=>?_) rfl
 have hb:=hx.spec hI hd
 obtain⟨u,ME,_⟩:=hb.out
 have hu:aP (own c V L β) (λw=>dU sz agg q w u) w:=λw' he=>by
  obtain⟨u',e,h⟩:=hb w' he
  rw[ME]at e
  injection e with _ _ e
  have:u=u':=by simpa using e
  rw[this]
  exact h
 have hr:(execOp a.eval ⟨some d,.call ⟨.value fx,#[x],ts⟩,ty,pos,aJ,none⟩).run P w=.ok (.enter f #[a.eval x,u]) w:=by
  have:=hf #[a.eval x,u] w
  simp only[execOp,resolve,ME,Deferred.ofValue,pure_bind,invoke]
  rw[show(#[x]:Array Operand).map a.eval=#[a.eval x] by simp]
  first|exact this|simpa using this
 unfold Does
 rw[hr]
 refine(hc _ w _ _ (bK hI) (h1.spec hI hd) hu).mono ?_
 rintro e w' ⟨v,rfl,hv,hb⟩
 exact⟨v,rfl,β,hI.value hwf (ue hwf rfl) rfl hb (λd q _ hq Gy _=>by have:=hwf.aa q hq Gy; cases this) λe he ht=>hv.imp λw=>hp.spec hwf he ht w v⟩
end
end Wx
