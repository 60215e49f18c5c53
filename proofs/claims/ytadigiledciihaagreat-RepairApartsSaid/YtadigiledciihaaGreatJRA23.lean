import Derived.Test.YtadigiledciihaaGreatCRAAddS
namespace Wx
set_option maxRecDepth 100000
open Go Go.RowKit Go.Proofs
theorem zh {w:World} {v:Value} {p q:Rat} (h:cB w v p) (e:q=p):cB w v q:=e▸h
set_option maxHeartbeats 8000000 in
theorem JW (w:World) (vx vy:Value) (x y:Rat) (hx:cB w vx x) (hy:cB w vy y) {j k:Nat} (hj:dx j x) (hk:dx k y) (sJ:j+k<=100000000):Calls Tryz.prog 47 #[vx,vy] w (lH w (x*y)):=by
 obtain⟨xK,xL,rfl,eF,dZ⟩:=id hx
 obtain⟨bO,bQ,rfl,_⟩:=id eF
 obtain⟨bP,bR,rfl,_⟩:=id dZ
 obtain⟨IB,IC,rfl,ia,gK⟩:=id hy
 obtain⟨da,de,rfl,_⟩:=id ia
 obtain⟨dc,dg,rfl,_⟩:=id gK
 have Fq:=x.den_pos
 have IM:=y.den_pos
 have HB:=bx (And.intro hj hk)
 have dz:j<=1000000000:=by omega
 have lE:k<=1000000000:=by omega
 clear hj hk
 go_enter Tryz.func47,Tryz.ntmps47
 go_wp2_with fail
 obtain⟨w1,e1,o1,b1,s1⟩:=ic w (.bool (decide (x.num<0))) (.slice bO (ae b64 x.num.natAbs).length bQ) (.slice bP (ae b64 (az x.den)).length bR) 54
 obtain⟨w2,e2,o2,b2,s2⟩:=ic w1 (.bool (decide (y.num<0))) (.slice da (ae b64 y.num.natAbs).length de) (.slice dc (ae b64 (az y.den)).length dg) 54
 obtain⟨w3,e3,o3,b3,s3⟩:=ic w2 (.bool false) (.slice none 0 0) (.slice none 0 0) 54
 rw[e1,e2,e3]
 rw[s1]at o2
 rw[s2,s1]at o3
 have p1:=((o1.gone b2).gone b3)
 have p2:=(o2.gone b3)
 have p3:=o3
 have B0:=((b1.trans (b2.mono b1.size)).trans (b3.mono (b1.trans (b2.mono b1.size)).size))
 have hS:∀w',bt w (w.heap.size+2) 54 [(w.heap.size,.bool (decide (x.num<0)),.slice bO (ae b64 x.num.natAbs).length bQ,.slice bP (ae b64 (az x.den)).length bR),(w.heap.size+1,.bool (decide (y.num<0)),.slice da (ae b64 y.num.natAbs).length de,.slice dc (ae b64 (az y.den)).length dg)] w'->bt w (w.heap.size+2) 54 [(w.heap.size,.bool (decide (x.num<0)),.slice bO (ae b64 x.num.natAbs).length bQ,.slice bP (ae b64 (az x.den)).length bR),(w.heap.size+1,.bool (decide (y.num<0)),.slice da (ae b64 y.num.natAbs).length de,.slice dc (ae b64 (az y.den)).length dg)] w'/\w'.cell? ⟨w.heap.size,0,none⟩=some (.bool (decide (x.num<0)))/\w'.cell? ⟨w.heap.size,1,none⟩=some (.slice bO (ae b64 x.num.natAbs).length bQ)/\w'.cell? ⟨w.heap.size,2,none⟩=some (.slice bP (ae b64 (az x.den)).length bR)/\w'.cell? ⟨w.heap.size+1,0,none⟩=some (.bool (decide (y.num<0)))/\w'.cell? ⟨w.heap.size+1,1,none⟩=some (.slice da (ae b64 y.num.natAbs).length de)/\w'.cell? ⟨w.heap.size+1,2,none⟩=some (.slice dc (ae b64 (az y.den)).length dg)/\w'.cell? ⟨w.heap.size+2,0,none⟩=some (cv w' ⟨w.heap.size+2,0,none⟩)/\w'.cell? ⟨w.heap.size+2,1,none⟩=some (cv w' ⟨w.heap.size+2,1,none⟩)/\w'.cell? ⟨w.heap.size+2,2,none⟩=some (cv w' ⟨w.heap.size+2,2,none⟩)/\w'.frozen? ⟨w.heap.size+2,0,none⟩=false/\w'.frozen? ⟨w.heap.size+2,1,none⟩=false/\w'.frozen? ⟨w.heap.size+2,2,none⟩=false:=λw' hh=>by
  obtain⟨f0,f1,f2,f3,f4,f5⟩:=hh.cells
  have q1:=(hh.2.2.1 (w.heap.size,.bool (decide (x.num<0)),.slice bO (ae b64 x.num.natAbs).length bQ,.slice bP (ae b64 (az x.den)).length bR) (by simp)).2
  have q2:=(hh.2.2.1 (w.heap.size+1,.bool (decide (y.num<0)),.slice da (ae b64 y.num.natAbs).length de,.slice dc (ae b64 (az y.den)).length dg) (by simp)).2
  exact⟨hh,q1.c0,q1.c1,q1.c2,q2.c0,q2.c1,q2.c2,f0,f1,f2,f3,f4,f5⟩
 have H0:bt w (w.heap.size+2) 54 [(w.heap.size,.bool (decide (x.num<0)),.slice bO (ae b64 x.num.natAbs).length bQ,.slice bP (ae b64 (az x.den)).length bR),(w.heap.size+1,.bool (decide (y.num<0)),.slice da (ae b64 y.num.natAbs).length de,.slice dc (ae b64 (az y.den)).length dg)] w3:=⟨B0,by omega,by intro p hp; simp at hp; rcases hp with rfl|rfl; exact⟨by simp,p1⟩; exact⟨by simp,p2⟩,_,_,_,p3,dQ _,bh _ _ _,bh _ _ _⟩
 clear e1 e2 e3
 have hz:=H0.drew
 go_region_held3 (λw'=>bt w (w.heap.size+2) 54 [(w.heap.size,.bool (decide (x.num<0)),.slice bO (ae b64 x.num.natAbs).length bQ,.slice bP (ae b64 (az x.den)).length bR),(w.heap.size+1,.bool (decide (y.num<0)),.slice da (ae b64 y.num.natAbs).length de,.slice dc (ae b64 (az y.den)).length dg)] w'/\w'.cell? ⟨w.heap.size,0,none⟩=some (.bool (decide (x.num<0)))/\w'.cell? ⟨w.heap.size,1,none⟩=some (.slice bO (ae b64 x.num.natAbs).length bQ)/\w'.cell? ⟨w.heap.size,2,none⟩=some (.slice bP (ae b64 (az x.den)).length bR)/\w'.cell? ⟨w.heap.size+1,0,none⟩=some (.bool (decide (y.num<0)))/\w'.cell? ⟨w.heap.size+1,1,none⟩=some (.slice da (ae b64 y.num.natAbs).length de)/\w'.cell? ⟨w.heap.size+1,2,none⟩=some (.slice dc (ae b64 (az y.den)).length dg)/\w'.cell? ⟨w.heap.size+2,0,none⟩=some (cv w' ⟨w.heap.size+2,0,none⟩)/\w'.cell? ⟨w.heap.size+2,1,none⟩=some (cv w' ⟨w.heap.size+2,1,none⟩)/\w'.cell? ⟨w.heap.size+2,2,none⟩=some (cv w' ⟨w.heap.size+2,2,none⟩)/\w'.frozen? ⟨w.heap.size+2,0,none⟩=false/\w'.frozen? ⟨w.heap.size+2,1,none⟩=false/\w'.frozen? ⟨w.heap.size+2,2,none⟩=false)
  (first|exact hS _ hz|exact hS _ (bt.sets (by assumption) _ _ _ _ _ _ _))
  (first
   |(go_at_call 83; have hc:=gA _ _ x.den (dZ.below hz.1) Fq; (with_reducible refine Calls.mono hc ?_); clear hc; rintro e wz ⟨QX,rfl,eD,hb⟩; (try have eD:=eD.below hb); (try have eE:=eE.below hb); (try have eC:=eC.below hb); (try have ez:=ez.below hb); (try have oC:=oC.below hb); (try have hs1:=hs1.below hb); have hz:=bt.call (by assumption) hb)
   |(go_at_call 83; have hc:=gA _ _ y.den (gK.below hz.1) IM; (with_reducible refine Calls.mono hc ?_); clear hc; rintro e wz ⟨QY,rfl,eE,hb⟩; (try have eD:=eD.below hb); (try have eE:=eE.below hb); (try have eC:=eC.below hb); (try have ez:=ez.below hb); (try have oC:=oC.below hb); (try have hs1:=hs1.below hb); have hz:=bt.call (by assumption) hb)
   |(go_at_call 84; have hc:=gz _ _ _ _ _ (eF.below hz.1) (ia.below hz.1) HB.out.1.1 HB.out.2.1 dz lE; (with_reducible refine Calls.mono hc ?_); clear hc; rintro e wz ⟨QV,rfl,eC,hb⟩; (try have eD:=eD.below hb); (try have eE:=eE.below hb); (try have eC:=eC.below hb); (try have ez:=ez.below hb); (try have oC:=oC.below hb); (try have hs1:=hs1.below hb); have hz:=bt.call (by assumption) hb)
   |(go_at_call 84; have hc:=gz _ _ _ _ _ eD eE HB.out.1.2 HB.out.2.2 dz lE; (with_reducible refine Calls.mono hc ?_); clear hc; rintro e wz ⟨QW,rfl,ez,hb⟩; (try have eD:=eD.below hb); (try have eE:=eE.below hb); (try have eC:=eC.below hb); (try have ez:=ez.below hb); (try have oC:=oC.below hb); (try have hs1:=hs1.below hb); have hz:=bt.call (by assumption) hb)
   |(go_at_call 85; have hc:=mC _ (!(decide (x.num<0)==decide (y.num<0))) _ _ (x.num.natAbs*y.num.natAbs) (x.den*y.den) eC ez (Nat.mul_pos Fq IM) (HB.out.1.1.mul HB.out.2.1) (HB.out.1.2.mul HB.out.2.2) sJ; (with_reducible refine Calls.mono hc ?_); clear hc; rintro e wz ⟨vr,rfl,JE,hb⟩; replace JE:=zh JE (xd x y); obtain⟨U0,UZ,rfl,IU,hrd⟩:=JE; obtain⟨Fg,Fk,rfl,_⟩:=id IU; obtain⟨Fh,Fl,rfl,_⟩:=id hrd; (try have eD:=eD.below hb); (try have eE:=eE.below hb); (try have eC:=eC.below hb); (try have ez:=ez.below hb); (try have oC:=oC.below hb); (try have hs1:=hs1.below hb); have hz:=bt.call (by assumption) hb))
 all_goals (
  go_wp2
  obtain⟨wf,HW,f0,f1,f2,eB⟩:=hz.fin rfl IU hrd
  (try rw[HW])
  (try simp only[Exit.inBlock,Exit.then])
  refine bodyPost_ret (by simp[results,Tryz.results47,go_sem,f0,f1,f2]; try rfl) rfl ?_
  first|exact eB|exact eB.drew)
set_option maxHeartbeats 8000000 in
theorem LW (w:World) (vx vy:Value) (x y:Rat) (hx:cB w vx x) (hy:cB w vy y) (hy0:y.num≠0) {j k:Nat} (hj:dx j x) (hk:dx k y) (sJ:j+k<=100000000):Calls Tryz.prog 118 #[vx,vy] w (lH w (x/y)):=by
 have HY:=bx hy0
 clear hy0
 obtain⟨xK,xL,rfl,eF,dZ⟩:=id hx
 obtain⟨bO,bQ,rfl,_⟩:=id eF
 obtain⟨bP,bR,rfl,_⟩:=id dZ
 obtain⟨IB,IC,rfl,ia,gK⟩:=id hy
 obtain⟨da,de,rfl,_⟩:=id ia
 obtain⟨dc,dg,rfl,_⟩:=id gK
 have Fq:=x.den_pos
 have IM:=y.den_pos
 have HB:=bx (And.intro hj hk)
 have dz:j<=1000000000:=by omega
 have lE:k<=1000000000:=by omega
 clear hj hk
 go_enter Tryz.func118,Tryz.ntmps118
 go_wp2_with fail
 obtain⟨w1,e1,o1,b1,s1⟩:=ic w (.bool (decide (x.num<0))) (.slice bO (ae b64 x.num.natAbs).length bQ) (.slice bP (ae b64 (az x.den)).length bR) 54
 obtain⟨w2,e2,o2,b2,s2⟩:=ic w1 (.bool (decide (y.num<0))) (.slice da (ae b64 y.num.natAbs).length de) (.slice dc (ae b64 (az y.den)).length dg) 54
 obtain⟨w3,e3,o3,b3,s3⟩:=ic w2 (.bool false) (.slice none 0 0) (.slice none 0 0) 54
 rw[e1,e2,e3]
 rw[s1]at o2
 rw[s2,s1]at o3
 have p1:=((o1.gone b2).gone b3)
 have p2:=(o2.gone b3)
 have p3:=o3
 have B0:=((b1.trans (b2.mono b1.size)).trans (b3.mono (b1.trans (b2.mono b1.size)).size))
 have hS:∀w',bt w (w.heap.size+2) 54 [(w.heap.size,.bool (decide (x.num<0)),.slice bO (ae b64 x.num.natAbs).length bQ,.slice bP (ae b64 (az x.den)).length bR),(w.heap.size+1,.bool (decide (y.num<0)),.slice da (ae b64 y.num.natAbs).length de,.slice dc (ae b64 (az y.den)).length dg)] w'->bt w (w.heap.size+2) 54 [(w.heap.size,.bool (decide (x.num<0)),.slice bO (ae b64 x.num.natAbs).length bQ,.slice bP (ae b64 (az x.den)).length bR),(w.heap.size+1,.bool (decide (y.num<0)),.slice da (ae b64 y.num.natAbs).length de,.slice dc (ae b64 (az y.den)).length dg)] w'/\w'.cell? ⟨w.heap.size,0,none⟩=some (.bool (decide (x.num<0)))/\w'.cell? ⟨w.heap.size,1,none⟩=some (.slice bO (ae b64 x.num.natAbs).length bQ)/\w'.cell? ⟨w.heap.size,2,none⟩=some (.slice bP (ae b64 (az x.den)).length bR)/\w'.cell? ⟨w.heap.size+1,0,none⟩=some (.bool (decide (y.num<0)))/\w'.cell? ⟨w.heap.size+1,1,none⟩=some (.slice da (ae b64 y.num.natAbs).length de)/\w'.cell? ⟨w.heap.size+1,2,none⟩=some (.slice dc (ae b64 (az y.den)).length dg)/\w'.cell? ⟨w.heap.size+2,0,none⟩=some (cv w' ⟨w.heap.size+2,0,none⟩)/\w'.cell? ⟨w.heap.size+2,1,none⟩=some (cv w' ⟨w.heap.size+2,1,none⟩)/\w'.cell? ⟨w.heap.size+2,2,none⟩=some (cv w' ⟨w.heap.size+2,2,none⟩)/\w'.frozen? ⟨w.heap.size+2,0,none⟩=false/\w'.frozen? ⟨w.heap.size+2,1,none⟩=false/\w'.frozen? ⟨w.heap.size+2,2,none⟩=false:=λw' hh=>by
  obtain⟨f0,f1,f2,f3,f4,f5⟩:=hh.cells
  have q1:=(hh.2.2.1 (w.heap.size,.bool (decide (x.num<0)),.slice bO (ae b64 x.num.natAbs).length bQ,.slice bP (ae b64 (az x.den)).length bR) (by simp)).2
  have q2:=(hh.2.2.1 (w.heap.size+1,.bool (decide (y.num<0)),.slice da (ae b64 y.num.natAbs).length de,.slice dc (ae b64 (az y.den)).length dg) (by simp)).2
  exact⟨hh,q1.c0,q1.c1,q1.c2,q2.c0,q2.c1,q2.c2,f0,f1,f2,f3,f4,f5⟩
 have H0:bt w (w.heap.size+2) 54 [(w.heap.size,.bool (decide (x.num<0)),.slice bO (ae b64 x.num.natAbs).length bQ,.slice bP (ae b64 (az x.den)).length bR),(w.heap.size+1,.bool (decide (y.num<0)),.slice da (ae b64 y.num.natAbs).length de,.slice dc (ae b64 (az y.den)).length dg)] w3:=⟨B0,by omega,by intro p hp; simp at hp; rcases hp with rfl|rfl; exact⟨by simp,p1⟩; exact⟨by simp,p2⟩,_,_,_,p3,dQ _,bh _ _ _,bh _ _ _⟩
 clear e1 e2 e3
 have hz:=H0.drew
 go_region_held3 (λw'=>bt w (w.heap.size+2) 54 [(w.heap.size,.bool (decide (x.num<0)),.slice bO (ae b64 x.num.natAbs).length bQ,.slice bP (ae b64 (az x.den)).length bR),(w.heap.size+1,.bool (decide (y.num<0)),.slice da (ae b64 y.num.natAbs).length de,.slice dc (ae b64 (az y.den)).length dg)] w'/\w'.cell? ⟨w.heap.size,0,none⟩=some (.bool (decide (x.num<0)))/\w'.cell? ⟨w.heap.size,1,none⟩=some (.slice bO (ae b64 x.num.natAbs).length bQ)/\w'.cell? ⟨w.heap.size,2,none⟩=some (.slice bP (ae b64 (az x.den)).length bR)/\w'.cell? ⟨w.heap.size+1,0,none⟩=some (.bool (decide (y.num<0)))/\w'.cell? ⟨w.heap.size+1,1,none⟩=some (.slice da (ae b64 y.num.natAbs).length de)/\w'.cell? ⟨w.heap.size+1,2,none⟩=some (.slice dc (ae b64 (az y.den)).length dg)/\w'.cell? ⟨w.heap.size+2,0,none⟩=some (cv w' ⟨w.heap.size+2,0,none⟩)/\w'.cell? ⟨w.heap.size+2,1,none⟩=some (cv w' ⟨w.heap.size+2,1,none⟩)/\w'.cell? ⟨w.heap.size+2,2,none⟩=some (cv w' ⟨w.heap.size+2,2,none⟩)/\w'.frozen? ⟨w.heap.size+2,0,none⟩=false/\w'.frozen? ⟨w.heap.size+2,1,none⟩=false/\w'.frozen? ⟨w.heap.size+2,2,none⟩=false)
  (first|exact hS _ hz|exact hS _ (bt.sets (by assumption) _ _ _ _ _ _ _))
  (first
   |(go_at_call 83; have hc:=gA _ _ x.den (dZ.below hz.1) Fq; (with_reducible refine Calls.mono hc ?_); clear hc; rintro e wz ⟨QX,rfl,eD,hb⟩; (try have eD:=eD.below hb); (try have eE:=eE.below hb); (try have eC:=eC.below hb); (try have ez:=ez.below hb); (try have oC:=oC.below hb); (try have hs1:=hs1.below hb); have hz:=bt.call (by assumption) hb)
   |(go_at_call 83; have hc:=gA _ _ y.den (gK.below hz.1) IM; (with_reducible refine Calls.mono hc ?_); clear hc; rintro e wz ⟨QY,rfl,eE,hb⟩; (try have eD:=eD.below hb); (try have eE:=eE.below hb); (try have eC:=eC.below hb); (try have ez:=ez.below hb); (try have oC:=oC.below hb); (try have hs1:=hs1.below hb); have hz:=bt.call (by assumption) hb)
   |(go_at_call 84; have hc:=gz _ _ _ _ _ (eF.below hz.1) eE HB.out.1.1 HB.out.2.2 dz lE; (with_reducible refine Calls.mono hc ?_); clear hc; rintro e wz ⟨QV,rfl,eC,hb⟩; (try have eD:=eD.below hb); (try have eE:=eE.below hb); (try have eC:=eC.below hb); (try have ez:=ez.below hb); (try have oC:=oC.below hb); (try have hs1:=hs1.below hb); have hz:=bt.call (by assumption) hb)
   |(go_at_call 84; have hc:=gz _ _ _ _ _ eD (ia.below hz.1) HB.out.1.2 HB.out.2.1 dz lE; (with_reducible refine Calls.mono hc ?_); clear hc; rintro e wz ⟨QW,rfl,ez,hb⟩; (try have eD:=eD.below hb); (try have eE:=eE.below hb); (try have eC:=eC.below hb); (try have ez:=ez.below hb); (try have oC:=oC.below hb); (try have hs1:=hs1.below hb); have hz:=bt.call (by assumption) hb)
   |(go_at_call 85; have hc:=mC _ (!(decide (x.num<0)==decide (y.num<0))) _ _ (x.num.natAbs*y.den) (x.den*y.num.natAbs) eC ez (Nat.mul_pos Fq (by have:=HY.out; omega)) (HB.out.1.1.mul HB.out.2.2) (HB.out.1.2.mul HB.out.2.1) sJ; (with_reducible refine Calls.mono hc ?_); clear hc; rintro e wz ⟨vr,rfl,JE,hb⟩; replace JE:=zh JE (wG x y HY.out); obtain⟨U0,UZ,rfl,IU,hrd⟩:=JE; obtain⟨Fg,Fk,rfl,_⟩:=id IU; obtain⟨Fh,Fl,rfl,_⟩:=id hrd; (try have eD:=eD.below hb); (try have eE:=eE.below hb); (try have eC:=eC.below hb); (try have ez:=ez.below hb); (try have oC:=oC.below hb); (try have hs1:=hs1.below hb); have hz:=bt.call (by assumption) hb))
 all_goals (
  go_wp2
  obtain⟨wf,HW,f0,f1,f2,eB⟩:=hz.fin rfl IU hrd
  (try rw[HW])
  (try simp only[Exit.inBlock,Exit.then])
  refine bodyPost_ret (by simp[results,Tryz.results118,go_sem,f0,f1,f2]; try rfl) rfl ?_
  first|exact eB|exact eB.drew)
end Wx

namespace Wx
open Go Go.RowKit Go.Proofs
def dD (x:Rat):Int:=if x.num<0 then -1 else if x=0 then 0 else 1
theorem gT (w:World) (vx:Value) (x:Rat) (hx:cB w vx x):Calls Tryz.prog 45 #[vx] w (eK w (.int .i64 (dD x))):=by
 obtain⟨xK,xL,rfl,eF,dZ⟩:=id hx
 obtain⟨bO,bQ,rfl,_⟩:=id eF
 obtain⟨bP,bR,rfl,_⟩:=id dZ
 have hS:dD x=if x.num<0 then -1 else if x=0 then 0 else 1:=rfl
 generalize dD x=z at *
 by_cases h1:x.num<0
 ·rw[if_pos h1]at hS
  subst hS
  rw[decide_eq_true h1]at *
  go_enter Tryz.func45,Tryz.ntmps45
  go_wp2
  go_ret
  exact⟨rfl,Below.alloc (Below.refl _ _) (Nat.le_refl _) _⟩
 ·rw[if_neg h1]at hS
  rw[decide_eq_false h1]at *
  by_cases h2:x=0
  ·rw[if_pos h2]at hS
   subst hS
   have HD:=bx (decide_eq_true h2)
   clear h2
   go_enter Tryz.func45,Tryz.ntmps45
   go_wp2_with fail
   obtain⟨w1,e1,o1,b1,s1⟩:=ic w (.bool false) (.slice bO (ae b64 x.num.natAbs).length bQ) (.slice bP (ae b64 (az x.den)).length bR) 54
   rw[e1]
   have hc:=zero_num w1 _ x (hx.below b1)
   rw[HD.out]at hc
   refine hc.mono ?_
   rintro e w2 ⟨rfl,hb⟩
   go_wp2
   go_ret
   exact⟨rfl,b1.trans (hb.mono b1.size)⟩
  ·rw[if_neg h2]at hS
   subst hS
   have HD:=bx (decide_eq_false h2)
   clear h2
   go_enter Tryz.func45,Tryz.ntmps45
   go_wp2_with fail
   obtain⟨w1,e1,o1,b1,s1⟩:=ic w (.bool false) (.slice bO (ae b64 x.num.natAbs).length bQ) (.slice bP (ae b64 (az x.den)).length bR) 54
   rw[e1]
   have hc:=zero_num w1 _ x (hx.below b1)
   rw[HD.out]at hc
   refine hc.mono ?_
   rintro e w2 ⟨rfl,hb⟩
   go_wp2
   go_ret
   exact⟨rfl,b1.trans (hb.mono b1.size)⟩
end Wx

namespace Wx
open Go Go.RowKit Go.Proofs
end Wx

namespace Wx
open Go Go.RowKit Go.Proofs
theorem Ik (w:World) (z:Int) (h1:-9223372036854775808<=z) (h2:z<=9223372036854775807):Calls Tryz.prog 59 #[.int .i64 z] w (er .u64 b64 w z.natAbs):=by
 have IY:Bx (z.natAbs<b64):=bx (by unfold b64; omega)
 by_cases hz:z<0
 ·have e1:IntKind.u64.wrap (-IntKind.u64.wrap z)=((z.natAbs:Nat):Int):=by
   simp[IntKind.wrap,IntKind.bits,IntKind.signed]; omega
  have E1:=bx e1
  clear e1
  go_enter Tryz.func59,Tryz.ntmps59
  go_wp2_with fail
  rw[E1.out]
  refine(mI w _ IY.out).mono ?_
  rintro e w3 ⟨vr,rfl,hr3,hb3⟩
  go_wp2
  go_ret
  exact⟨_,rfl,hr3,hb3⟩
 ·have e1:z=((z.natAbs:Nat):Int):=by omega
  have E1:=bx e1
  clear e1
  go_enter Tryz.func59,Tryz.ntmps59
  go_wp2_with fail
  have hc:=mI w _ IY.out
  rw[<-E1.out]at hc
  refine hc.mono ?_
  rintro e w3 ⟨vr,rfl,hr3,hb3⟩
  go_wp2
  go_ret
  exact⟨_,rfl,hr3,hb3⟩
theorem JI (w:World) (z:Int) (h1:-9223372036854775808<=z) (h2:z<=9223372036854775807):Calls Tryz.prog 29 #[.int .i64 z] w (lH w (z:Rat)):=by
 have H:=bx (And.intro h1 h2)
 clear h1 h2
 go_enter Tryz.func29,Tryz.ntmps29
 go_wp2_with fail
 obtain⟨w1,e1,o1,b1,s1⟩:=ic w (.bool false) (.slice none 0 0) (.slice none 0 0) 54
 rw[e1]
 refine(Ik w1 z H.out.1 H.out.2).mono ?_
 rintro e w2 ⟨v,rfl,hv,hb⟩
 obtain⟨A1,c1,rfl,_⟩:=id hv
 have hz:bt w w.heap.size 54 [] w2:=⟨b1.trans (hb.mono b1.size),Nat.le_refl _,by simp,_,_,_,o1.gone hb,dQ _,bh _ _ _,bh _ _ _⟩
 obtain⟨k0,k1,k2,k3,k4,k5⟩:=hz.cells
 clear e1
 go_wp2
 obtain⟨wf,HW,f0,f1,f2,eB⟩:=hz.fin (q:=(z:Rat)) (A2:=none) (l2:=0) (c2:=0) rfl (by rw[Rat.num_intCast]; exact hv) (by rw[Rat.den_intCast]; exact bj.zero _ _ _)
 rw[Rat.num_intCast]at HW f0 eB
 rw[HW]
 (try simp only[Exit.inBlock,Exit.then])
 refine bodyPost_ret (by simp[results,Tryz.results29,go_sem,f0,f1,f2]; try rfl) rfl ?_
 exact eB
def rN (w:World) (q:Rat) (err:Int) (e:Ending) (w':World):Prop:=∃v,e=.returned (.tuple #[v,.int .i64 err])/\cB w' v q/\Below w.heap.size w w'
theorem rN.of {w:World} {q:Rat} {v:Value} {w':World} (h:lH w q (.returned v) w') (err:Int):rN w q err (.returned (.tuple #[v,.int .i64 err])) w':=by
 obtain⟨v',e,h1,h2⟩:=h
 injection e with e
 subst e
 exact⟨_,rfl,h1,h2⟩
end Wx

namespace Wx
open Go Go.RowKit Go.Proofs
set_option maxHeartbeats 2000000 in
theorem div_zero (w:World) (vx vy:Value) (x y:Rat) (hx:cB w vx x) (hy:cB w vy y) (hy0:y=0):Calls Tryz.prog 88 #[vx,vy] w (rN w (0) 3):=by
 obtain⟨xK,xL,rfl,eF,dZ⟩:=id hx
 obtain⟨bO,bQ,rfl,_⟩:=id eF
 obtain⟨bP,bR,rfl,_⟩:=id dZ
 obtain⟨IB,IC,rfl,ia,gK⟩:=id hy
 obtain⟨da,de,rfl,_⟩:=id ia
 obtain⟨dc,dg,rfl,_⟩:=id gK
 have HY:=bx hy0
 clear hy0
 go_enter Tryz.func88,Tryz.ntmps88
 go_wp2_with fail
 obtain⟨w1,e1,o1,b1,s1⟩:=ic w (.bool (decide (x.num<0))) (.slice bO (ae b64 x.num.natAbs).length bQ) (.slice bP (ae b64 (az x.den)).length bR) 54
 obtain⟨w2,e2,o2,b2,s2⟩:=ic w1 (.bool (decide (y.num<0))) (.slice da (ae b64 y.num.natAbs).length de) (.slice dc (ae b64 (az y.den)).length dg) 54
 obtain⟨w3,e3,o3,b3,s3⟩:=ic w2 (.bool false) (.slice none 0 0) (.slice none 0 0) 54
 rw[e1,e2,e3]
 rw[s1]at o2
 rw[s2,s1]at o3
 have p1:=((o1.gone b2).gone b3)
 have p2:=(o2.gone b3)
 have p3:=o3
 have B0:=((b1.trans (b2.mono b1.size)).trans (b3.mono (b1.trans (b2.mono b1.size)).size))
 have hS:∀w',bt w (w.heap.size+2) 54 [(w.heap.size,.bool (decide (x.num<0)),.slice bO (ae b64 x.num.natAbs).length bQ,.slice bP (ae b64 (az x.den)).length bR),(w.heap.size+1,.bool (decide (y.num<0)),.slice da (ae b64 y.num.natAbs).length de,.slice dc (ae b64 (az y.den)).length dg)] w'->bt w (w.heap.size+2) 54 [(w.heap.size,.bool (decide (x.num<0)),.slice bO (ae b64 x.num.natAbs).length bQ,.slice bP (ae b64 (az x.den)).length bR),(w.heap.size+1,.bool (decide (y.num<0)),.slice da (ae b64 y.num.natAbs).length de,.slice dc (ae b64 (az y.den)).length dg)] w'/\w'.cell? ⟨w.heap.size,0,none⟩=some (.bool (decide (x.num<0)))/\w'.cell? ⟨w.heap.size,1,none⟩=some (.slice bO (ae b64 x.num.natAbs).length bQ)/\w'.cell? ⟨w.heap.size,2,none⟩=some (.slice bP (ae b64 (az x.den)).length bR)/\w'.cell? ⟨w.heap.size+1,0,none⟩=some (.bool (decide (y.num<0)))/\w'.cell? ⟨w.heap.size+1,1,none⟩=some (.slice da (ae b64 y.num.natAbs).length de)/\w'.cell? ⟨w.heap.size+1,2,none⟩=some (.slice dc (ae b64 (az y.den)).length dg)/\w'.cell? ⟨w.heap.size+2,0,none⟩=some (cv w' ⟨w.heap.size+2,0,none⟩)/\w'.cell? ⟨w.heap.size+2,1,none⟩=some (cv w' ⟨w.heap.size+2,1,none⟩)/\w'.cell? ⟨w.heap.size+2,2,none⟩=some (cv w' ⟨w.heap.size+2,2,none⟩)/\w'.frozen? ⟨w.heap.size+2,0,none⟩=false/\w'.frozen? ⟨w.heap.size+2,1,none⟩=false/\w'.frozen? ⟨w.heap.size+2,2,none⟩=false:=λw' hh=>by
  obtain⟨f0,f1,f2,f3,f4,f5⟩:=hh.cells
  have q1:=(hh.2.2.1 (w.heap.size,.bool (decide (x.num<0)),.slice bO (ae b64 x.num.natAbs).length bQ,.slice bP (ae b64 (az x.den)).length bR) (by simp)).2
  have q2:=(hh.2.2.1 (w.heap.size+1,.bool (decide (y.num<0)),.slice da (ae b64 y.num.natAbs).length de,.slice dc (ae b64 (az y.den)).length dg) (by simp)).2
  exact⟨hh,q1.c0,q1.c1,q1.c2,q2.c0,q2.c1,q2.c2,f0,f1,f2,f3,f4,f5⟩
 have H0:bt w (w.heap.size+2) 54 [(w.heap.size,.bool (decide (x.num<0)),.slice bO (ae b64 x.num.natAbs).length bQ,.slice bP (ae b64 (az x.den)).length bR),(w.heap.size+1,.bool (decide (y.num<0)),.slice da (ae b64 y.num.natAbs).length de,.slice dc (ae b64 (az y.den)).length dg)] w3:=⟨B0,by omega,by intro p hp; simp at hp; rcases hp with rfl|rfl; exact⟨by simp,p1⟩; exact⟨by simp,p2⟩,_,_,_,p3,dQ _,bh _ _ _,bh _ _ _⟩
 clear e1 e2 e3
 have hz:=H0
 obtain⟨_,k0,k1,k2,k3,k4,k5,_⟩:=hS _ hz
 have hc:=zero_num _ _ y (hy.below hz.1)
 rw[decide_eq_true HY.out]at hc
 refine hc.mono ?_
 clear hc
 rintro e wz ⟨rfl,hb⟩
 have hz:=bt.call (And.intro hz trivial) hb
 clear k0 k1 k2 k3 k4 k5
 obtain⟨_,k0,k1,k2,k3,k4,k5,k6,k7,k8,k9,WX,WY⟩:=hS _ hz
 go_wp2
 obtain⟨wf,HW,f0,f1,f2,eB⟩:=hz.fin (q:=0) (A1:=none) (l1:=0) (c1:=0) (A2:=none) (l2:=0) (c2:=0) (show _=false from rfl) (bj.zero _ _ _) (bj.zero _ _ _)
 rw[HW]
 (try simp only[Exit.inBlock,Exit.then])
 refine bodyPost_ret (by simp[results,Tryz.results88,go_sem,f0,f1,f2]; try rfl) rfl ?_
 exact rN.of eB 3
set_option maxHeartbeats 2000000 in
theorem Mh (w:World) (vx vy:Value) (x y:Rat) (hx:cB w vx x) (hy:cB w vy y) {j k:Nat} (hj:dx j x) (hk:dx k y) (sJ:j+k<=100000000) (hy0:y≠0):Calls Tryz.prog 88 #[vx,vy] w (rN w (x/y) 0):=by
 obtain⟨xK,xL,rfl,eF,dZ⟩:=id hx
 obtain⟨bO,bQ,rfl,_⟩:=id eF
 obtain⟨bP,bR,rfl,_⟩:=id dZ
 obtain⟨IB,IC,rfl,ia,gK⟩:=id hy
 obtain⟨da,de,rfl,_⟩:=id ia
 obtain⟨dc,dg,rfl,_⟩:=id gK
 have HY:=bx hy0
 clear hy0
 go_enter Tryz.func88,Tryz.ntmps88
 go_wp2_with fail
 obtain⟨w1,e1,o1,b1,s1⟩:=ic w (.bool (decide (x.num<0))) (.slice bO (ae b64 x.num.natAbs).length bQ) (.slice bP (ae b64 (az x.den)).length bR) 54
 obtain⟨w2,e2,o2,b2,s2⟩:=ic w1 (.bool (decide (y.num<0))) (.slice da (ae b64 y.num.natAbs).length de) (.slice dc (ae b64 (az y.den)).length dg) 54
 obtain⟨w3,e3,o3,b3,s3⟩:=ic w2 (.bool false) (.slice none 0 0) (.slice none 0 0) 54
 rw[e1,e2,e3]
 rw[s1]at o2
 rw[s2,s1]at o3
 have p1:=((o1.gone b2).gone b3)
 have p2:=(o2.gone b3)
 have p3:=o3
 have B0:=((b1.trans (b2.mono b1.size)).trans (b3.mono (b1.trans (b2.mono b1.size)).size))
 have hS:∀w',bt w (w.heap.size+2) 54 [(w.heap.size,.bool (decide (x.num<0)),.slice bO (ae b64 x.num.natAbs).length bQ,.slice bP (ae b64 (az x.den)).length bR),(w.heap.size+1,.bool (decide (y.num<0)),.slice da (ae b64 y.num.natAbs).length de,.slice dc (ae b64 (az y.den)).length dg)] w'->bt w (w.heap.size+2) 54 [(w.heap.size,.bool (decide (x.num<0)),.slice bO (ae b64 x.num.natAbs).length bQ,.slice bP (ae b64 (az x.den)).length bR),(w.heap.size+1,.bool (decide (y.num<0)),.slice da (ae b64 y.num.natAbs).length de,.slice dc (ae b64 (az y.den)).length dg)] w'/\w'.cell? ⟨w.heap.size,0,none⟩=some (.bool (decide (x.num<0)))/\w'.cell? ⟨w.heap.size,1,none⟩=some (.slice bO (ae b64 x.num.natAbs).length bQ)/\w'.cell? ⟨w.heap.size,2,none⟩=some (.slice bP (ae b64 (az x.den)).length bR)/\w'.cell? ⟨w.heap.size+1,0,none⟩=some (.bool (decide (y.num<0)))/\w'.cell? ⟨w.heap.size+1,1,none⟩=some (.slice da (ae b64 y.num.natAbs).length de)/\w'.cell? ⟨w.heap.size+1,2,none⟩=some (.slice dc (ae b64 (az y.den)).length dg)/\w'.cell? ⟨w.heap.size+2,0,none⟩=some (cv w' ⟨w.heap.size+2,0,none⟩)/\w'.cell? ⟨w.heap.size+2,1,none⟩=some (cv w' ⟨w.heap.size+2,1,none⟩)/\w'.cell? ⟨w.heap.size+2,2,none⟩=some (cv w' ⟨w.heap.size+2,2,none⟩)/\w'.frozen? ⟨w.heap.size+2,0,none⟩=false/\w'.frozen? ⟨w.heap.size+2,1,none⟩=false/\w'.frozen? ⟨w.heap.size+2,2,none⟩=false:=λw' hh=>by
  obtain⟨f0,f1,f2,f3,f4,f5⟩:=hh.cells
  have q1:=(hh.2.2.1 (w.heap.size,.bool (decide (x.num<0)),.slice bO (ae b64 x.num.natAbs).length bQ,.slice bP (ae b64 (az x.den)).length bR) (by simp)).2
  have q2:=(hh.2.2.1 (w.heap.size+1,.bool (decide (y.num<0)),.slice da (ae b64 y.num.natAbs).length de,.slice dc (ae b64 (az y.den)).length dg) (by simp)).2
  exact⟨hh,q1.c0,q1.c1,q1.c2,q2.c0,q2.c1,q2.c2,f0,f1,f2,f3,f4,f5⟩
 have H0:bt w (w.heap.size+2) 54 [(w.heap.size,.bool (decide (x.num<0)),.slice bO (ae b64 x.num.natAbs).length bQ,.slice bP (ae b64 (az x.den)).length bR),(w.heap.size+1,.bool (decide (y.num<0)),.slice da (ae b64 y.num.natAbs).length de,.slice dc (ae b64 (az y.den)).length dg)] w3:=⟨B0,by omega,by intro p hp; simp at hp; rcases hp with rfl|rfl; exact⟨by simp,p1⟩; exact⟨by simp,p2⟩,_,_,_,p3,dQ _,bh _ _ _,bh _ _ _⟩
 clear e1 e2 e3
 have hz:=H0
 obtain⟨_,k0,k1,k2,k3,k4,k5,_⟩:=hS _ hz
 have hc:=zero_num _ _ y (hy.below hz.1)
 rw[decide_eq_false HY.out]at hc
 refine hc.mono ?_
 clear hc
 rintro e wz ⟨rfl,hb⟩
 have hz:=bt.call (And.intro hz trivial) hb
 clear k0 k1 k2 k3 k4 k5
 obtain⟨_,k0,k1,k2,k3,k4,k5,_⟩:=hS _ hz
 go_wp2_with fail
 refine(LW _ _ _ x y (hx.below hz.1) (hy.below hz.1) (mt Rat.num_eq_zero.1 HY.out) hj hk sJ).mono ?_
 rintro e wy ⟨vr,rfl,JE,hb⟩
 obtain⟨U0,UZ,rfl,IU,hrd⟩:=JE
 obtain⟨Fg,Fk,rfl,_⟩:=id IU
 obtain⟨Fh,Fl,rfl,_⟩:=id hrd
 have hz:=bt.call (And.intro hz trivial) hb
 clear k0 k1 k2 k3 k4 k5
 obtain⟨_,k0,k1,k2,k3,k4,k5,k6,k7,k8,k9,WX,WY⟩:=hS _ hz
 go_wp2
 obtain⟨wf,HW,f0,f1,f2,eB⟩:=hz.fin rfl IU hrd
 rw[HW]
 (try simp only[Exit.inBlock,Exit.then])
 refine bodyPost_ret (by simp[results,Tryz.results88,go_sem,f0,f1,f2]; try rfl) rfl ?_
 exact rN.of eB 0
end Wx

namespace Wx
open Go Go.RowKit Go.Proofs
end Wx

namespace Wx
open Go Go.RowKit Go.Proofs
variable {j k:Nat} {x y:Rat}
theorem dx.quo (h:dx j x) (g:dx k y):dx (j+k) (x/y):=by
 by_cases hy:y=0
 ·rw[hy,Rat.div_def,Rat.inv_zero,Rat.mul_zero]
  have h2:x.den<2^j:=h.2
  have h3:=x.den_pos
  have hj:j≠0:=by rintro rfl; simp at h2; omega
  refine⟨?_,?_⟩
  ·show(0:Rat).num.natAbs<2^(j+k)
   exact Nat.two_pow_pos _
  ·show(0:Rat).den<2^(j+k)
   show 1<2^(j+k)
   exact Nat.one_lt_two_pow (by omega)
 ·exact h.div g (λh=>hy ((iw y).1 (by omega)))
variable {w:World} {e:Ending} {w':World}
theorem qm {v:Value} (h:eK w v e w'):eR (bW v) w e w':=⟨v,h.1,rfl,h.2⟩
theorem H9 {q:Rat} {n:Int} (h:rN w q n e w'):eR (fH (bG q) (pI n)) w e w':=by
 obtain⟨v,rfl,h1,h2⟩:=h
 exact⟨_,rfl,⟨v,_,rfl,h1,rfl⟩,h2⟩
theorem Om (hx:dx j x) (hy:dx k y) (h:j+k+j+k+1<=100000000):∀w v1 v2,bG x w v1->bG y w v2->Calls Tryz.prog 46 #[v1,v2] w (eR (bG (x+y)) w):=
 λw v1 v2 h1 h2=>I4 w v1 v2 x y h1 h2 hx hy h
theorem Ou (hx:dx j x) (hy:dx k y) (h:j+k<=100000000):∀w v1 v2,bG x w v1->bG y w v2->Calls Tryz.prog 47 #[v1,v2] w (eR (bG (x*y)) w):=
 λw v1 v2 h1 h2=>JW w v1 v2 x y h1 h2 hx hy h
theorem L5 (x:Rat):∀w v1,bG x w v1->Calls Tryz.prog 48 #[v1] w (eR (pB (decide (x=0))) w):=λw v1 h1=>(zero_num w v1 x h1).mono λ_ _=>qm
theorem L3 (x:Rat):∀w v1,bG x w v1->Calls Tryz.prog 45 #[v1] w (eR (pI (dD x)) w):=λw v1 h1=>(gT w v1 x h1).mono λ_ _=>qm
theorem Ot (n:Int) (h1:-9223372036854775808<=n) (h2:n<=9223372036854775807):∀w v1,pI n w v1->Calls Tryz.prog 29 #[v1] w (eR (bG (n:Rat)) w):=λw v1 h=>by
 have h:v1=.int .i64 n:=h
 rw[h]
 exact JI w n h1 h2
theorem FL (hx:dx j x) (hy:dx k y) (h:j+k<=100000000) (h0:y≠0):∀w v1 v2,bG x w v1->bG y w v2->Calls Tryz.prog 88 #[v1,v2] w (eR (fH (bG (x/y)) (pI 0)) w):=
 λw v1 v2 h1 h2=>(Mh w v1 v2 x y h1 h2 hx hy h h0).mono λ_ _=>H9
theorem AK (x:Rat) {y:Rat} (h0:y=0):∀w v1 v2,bG x w v1->bG y w v2->Calls Tryz.prog 88 #[v1,v2] w (eR (fH (bG 0) (pI 3)) w):=
 λw v1 v2 h1 h2=>(div_zero w v1 v2 x y h1 h2 h0).mono λ_ _=>H9
theorem Oq (hx:dx j x) (hy:dx k y) (h:j+k<=100000000):∀w v1 v2,bG x w v1->bG y w v2->Calls Tryz.prog 88 #[v1,v2] w (eR (fH (bG (x/y)) (pI (if y=0 then 3 else 0))) w):=by
 by_cases h0:y=0
 ·rw[if_pos h0,show x/y=0 by rw[h0,Rat.div_def,Rat.inv_zero,Rat.mul_zero]]; exact AK x h0
 ·rw[if_neg h0]; exact FL hx hy h h0
end Wx
