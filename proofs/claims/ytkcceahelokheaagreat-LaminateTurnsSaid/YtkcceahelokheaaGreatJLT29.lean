import Derived.Test.YtkcceahelokheaaGreatJLT28
namespace Wx
set_option maxRecDepth 100000
open Go Go.RowKit Go.Proofs
theorem zC {w:World} {v:Value} {p q:Rat} (h:bL w v p) (e:q=p):bL w v q:=e▸h
set_option maxHeartbeats 8000000 in
theorem Sc (w:World) (vx vy:Value) (x y:Rat) (hx:bL w vx x) (hy:bL w vy y) {j k:Nat} (hj:aZ j x) (hk:aZ k y) (yh:j+k<=100000000):Calls Tryz.prog 21 #[vx,vy] w (ig w (x*y)):=by
 obtain⟨Ea,Eb,rfl,lu,jO⟩:=id hx
 obtain⟨da,de,rfl,_⟩:=id lu
 obtain⟨dc,dg,rfl,_⟩:=id jO
 obtain⟨NH,NI,rfl,tq,qp⟩:=id hy
 obtain⟨eZ,fg,rfl,_⟩:=id tq
 obtain⟨fc,fh,rfl,_⟩:=id qp
 have TK:=x.den_pos
 have Vi:=y.den_pos
 have HB:=bx (And.intro hj hk)
 have fA:j<=1000000000:=by omega
 have ot:k<=1000000000:=by omega
 clear hj hk
 go_enter Tryz.func21,Tryz.ntmps21
 go_wp2_with fail
 obtain⟨w1,e1,o1,b1,s1⟩:=eL w (.bool (decide (x.num<0))) (.slice da (af b64 x.num.natAbs).length de) (.slice dc (af b64 (aq x.den)).length dg) 40
 obtain⟨w2,e2,o2,b2,s2⟩:=eL w1 (.bool (decide (y.num<0))) (.slice eZ (af b64 y.num.natAbs).length fg) (.slice fc (af b64 (aq y.den)).length fh) 40
 obtain⟨w3,e3,o3,b3,s3⟩:=eL w2 (.bool false) (.slice none 0 0) (.slice none 0 0) 40
 rw[e1,e2,e3]
 rw[s1]at o2
 rw[s2,s1]at o3
 have p1:=((o1.gone b2).gone b3)
 have p2:=(o2.gone b3)
 have p3:=o3
 have B0:=((b1.trans (b2.mono b1.size)).trans (b3.mono (b1.trans (b2.mono b1.size)).size))
 have hS:∀w',bp w (w.heap.size+2) 40 [(w.heap.size,.bool (decide (x.num<0)),.slice da (af b64 x.num.natAbs).length de,.slice dc (af b64 (aq x.den)).length dg),(w.heap.size+1,.bool (decide (y.num<0)),.slice eZ (af b64 y.num.natAbs).length fg,.slice fc (af b64 (aq y.den)).length fh)] w'->bp w (w.heap.size+2) 40 [(w.heap.size,.bool (decide (x.num<0)),.slice da (af b64 x.num.natAbs).length de,.slice dc (af b64 (aq x.den)).length dg),(w.heap.size+1,.bool (decide (y.num<0)),.slice eZ (af b64 y.num.natAbs).length fg,.slice fc (af b64 (aq y.den)).length fh)] w'/\w'.cell? ⟨w.heap.size,0,none⟩=some (.bool (decide (x.num<0)))/\w'.cell? ⟨w.heap.size,1,none⟩=some (.slice da (af b64 x.num.natAbs).length de)/\w'.cell? ⟨w.heap.size,2,none⟩=some (.slice dc (af b64 (aq x.den)).length dg)/\w'.cell? ⟨w.heap.size+1,0,none⟩=some (.bool (decide (y.num<0)))/\w'.cell? ⟨w.heap.size+1,1,none⟩=some (.slice eZ (af b64 y.num.natAbs).length fg)/\w'.cell? ⟨w.heap.size+1,2,none⟩=some (.slice fc (af b64 (aq y.den)).length fh)/\w'.cell? ⟨w.heap.size+2,0,none⟩=some (cv w' ⟨w.heap.size+2,0,none⟩)/\w'.cell? ⟨w.heap.size+2,1,none⟩=some (cv w' ⟨w.heap.size+2,1,none⟩)/\w'.cell? ⟨w.heap.size+2,2,none⟩=some (cv w' ⟨w.heap.size+2,2,none⟩)/\w'.frozen? ⟨w.heap.size+2,0,none⟩=false/\w'.frozen? ⟨w.heap.size+2,1,none⟩=false/\w'.frozen? ⟨w.heap.size+2,2,none⟩=false:=λw' hh=>by
  obtain⟨f0,f1,f2,f3,f4,f5⟩:=hh.cells
  have q1:=(hh.2.2.1 (w.heap.size,.bool (decide (x.num<0)),.slice da (af b64 x.num.natAbs).length de,.slice dc (af b64 (aq x.den)).length dg) (by simp)).2
  have q2:=(hh.2.2.1 (w.heap.size+1,.bool (decide (y.num<0)),.slice eZ (af b64 y.num.natAbs).length fg,.slice fc (af b64 (aq y.den)).length fh) (by simp)).2
  exact⟨hh,q1.c0,q1.c1,q1.c2,q2.c0,q2.c1,q2.c2,f0,f1,f2,f3,f4,f5⟩
 have H0:bp w (w.heap.size+2) 40 [(w.heap.size,.bool (decide (x.num<0)),.slice da (af b64 x.num.natAbs).length de,.slice dc (af b64 (aq x.den)).length dg),(w.heap.size+1,.bool (decide (y.num<0)),.slice eZ (af b64 y.num.natAbs).length fg,.slice fc (af b64 (aq y.den)).length fh)] w3:=⟨B0,by omega,by intro p hp; simp at hp; rcases hp with rfl|rfl; exact⟨by simp,p1⟩; exact⟨by simp,p2⟩,_,_,_,p3,cT _,aU _ _ _,aU _ _ _⟩
 clear e1 e2 e3
 have hz:=H0.drew
 go_region_held3 (λw'=>bp w (w.heap.size+2) 40 [(w.heap.size,.bool (decide (x.num<0)),.slice da (af b64 x.num.natAbs).length de,.slice dc (af b64 (aq x.den)).length dg),(w.heap.size+1,.bool (decide (y.num<0)),.slice eZ (af b64 y.num.natAbs).length fg,.slice fc (af b64 (aq y.den)).length fh)] w'/\w'.cell? ⟨w.heap.size,0,none⟩=some (.bool (decide (x.num<0)))/\w'.cell? ⟨w.heap.size,1,none⟩=some (.slice da (af b64 x.num.natAbs).length de)/\w'.cell? ⟨w.heap.size,2,none⟩=some (.slice dc (af b64 (aq x.den)).length dg)/\w'.cell? ⟨w.heap.size+1,0,none⟩=some (.bool (decide (y.num<0)))/\w'.cell? ⟨w.heap.size+1,1,none⟩=some (.slice eZ (af b64 y.num.natAbs).length fg)/\w'.cell? ⟨w.heap.size+1,2,none⟩=some (.slice fc (af b64 (aq y.den)).length fh)/\w'.cell? ⟨w.heap.size+2,0,none⟩=some (cv w' ⟨w.heap.size+2,0,none⟩)/\w'.cell? ⟨w.heap.size+2,1,none⟩=some (cv w' ⟨w.heap.size+2,1,none⟩)/\w'.cell? ⟨w.heap.size+2,2,none⟩=some (cv w' ⟨w.heap.size+2,2,none⟩)/\w'.frozen? ⟨w.heap.size+2,0,none⟩=false/\w'.frozen? ⟨w.heap.size+2,1,none⟩=false/\w'.frozen? ⟨w.heap.size+2,2,none⟩=false)
  (first|exact hS _ hz|exact hS _ (bp.sets (by assumption) _ _ _ _ _ _ _))
  (first
   |(go_at_call 65; have hc:=kF _ _ x.den (jO.below hz.1) TK; (with_reducible refine Calls.mono hc ?_); clear hc; rintro e wz ⟨vux,rfl,lT,hb⟩; (try have lT:=lT.below hb); (try have lU:=lU.below hb); (try have lS:=lS.below hb); (try have kj:=kj.below hb); (try have Dn:=Dn.below hb); (try have hs1:=hs1.below hb); have hz:=bp.call (by assumption) hb)
   |(go_at_call 65; have hc:=kF _ _ y.den (qp.below hz.1) Vi; (with_reducible refine Calls.mono hc ?_); clear hc; rintro e wz ⟨vuy,rfl,lU,hb⟩; (try have lT:=lT.below hb); (try have lU:=lU.below hb); (try have lS:=lS.below hb); (try have kj:=kj.below hb); (try have Dn:=Dn.below hb); (try have hs1:=hs1.below hb); have hz:=bp.call (by assumption) hb)
   |(go_at_call 66; have hc:=kE _ _ _ _ _ (lu.below hz.1) (tq.below hz.1) HB.out.1.1 HB.out.2.1 fA ot; (with_reducible refine Calls.mono hc ?_); clear hc; rintro e wz ⟨vt1,rfl,lS,hb⟩; (try have lT:=lT.below hb); (try have lU:=lU.below hb); (try have lS:=lS.below hb); (try have kj:=kj.below hb); (try have Dn:=Dn.below hb); (try have hs1:=hs1.below hb); have hz:=bp.call (by assumption) hb)
   |(go_at_call 66; have hc:=kE _ _ _ _ _ lT lU HB.out.1.2 HB.out.2.2 fA ot; (with_reducible refine Calls.mono hc ?_); clear hc; rintro e wz ⟨vt2,rfl,kj,hb⟩; (try have lT:=lT.below hb); (try have lU:=lU.below hb); (try have lS:=lS.below hb); (try have kj:=kj.below hb); (try have Dn:=Dn.below hb); (try have hs1:=hs1.below hb); have hz:=bp.call (by assumption) hb)
   |(go_at_call 67; have hc:=nM _ (!(decide (x.num<0)==decide (y.num<0))) _ _ (x.num.natAbs*y.num.natAbs) (x.den*y.den) lS kj (Nat.mul_pos TK Vi) (HB.out.1.1.mul HB.out.2.1) (HB.out.1.2.mul HB.out.2.2) yh; (with_reducible refine Calls.mono hc ?_); clear hc; rintro e wz ⟨vr,rfl,El,hb⟩; replace El:=zC El (Ku x y); obtain⟨WI,WH,rfl,vF,hrd⟩:=El; obtain⟨CB,C4,rfl,_⟩:=id vF; obtain⟨CC,C5,rfl,_⟩:=id hrd; (try have lT:=lT.below hb); (try have lU:=lU.below hb); (try have lS:=lS.below hb); (try have kj:=kj.below hb); (try have Dn:=Dn.below hb); (try have hs1:=hs1.below hb); have hz:=bp.call (by assumption) hb))
 all_goals (
  go_wp2
  obtain⟨wf,HW,f0,f1,f2,dR⟩:=hz.fin rfl vF hrd
  (try rw[HW])
  (try simp only[Exit.inBlock,Exit.then])
  refine bodyPost_ret (by simp[results,Tryz.results21,go_sem,f0,f1,f2]; try rfl) rfl ?_
  first|exact dR|exact dR.drew)
set_option maxHeartbeats 8000000 in
theorem N6 (w:World) (vx vy:Value) (x y:Rat) (hx:bL w vx x) (hy:bL w vy y) (hy0:y.num≠0) {j k:Nat} (hj:aZ j x) (hk:aZ k y) (yh:j+k<=100000000):Calls Tryz.prog 72 #[vx,vy] w (ig w (x/y)):=by
 have HY:=bx hy0
 clear hy0
 obtain⟨Ea,Eb,rfl,lu,jO⟩:=id hx
 obtain⟨da,de,rfl,_⟩:=id lu
 obtain⟨dc,dg,rfl,_⟩:=id jO
 obtain⟨NH,NI,rfl,tq,qp⟩:=id hy
 obtain⟨eZ,fg,rfl,_⟩:=id tq
 obtain⟨fc,fh,rfl,_⟩:=id qp
 have TK:=x.den_pos
 have Vi:=y.den_pos
 have HB:=bx (And.intro hj hk)
 have fA:j<=1000000000:=by omega
 have ot:k<=1000000000:=by omega
 clear hj hk
 go_enter Tryz.func72,Tryz.ntmps72
 go_wp2_with fail
 obtain⟨w1,e1,o1,b1,s1⟩:=eL w (.bool (decide (x.num<0))) (.slice da (af b64 x.num.natAbs).length de) (.slice dc (af b64 (aq x.den)).length dg) 40
 obtain⟨w2,e2,o2,b2,s2⟩:=eL w1 (.bool (decide (y.num<0))) (.slice eZ (af b64 y.num.natAbs).length fg) (.slice fc (af b64 (aq y.den)).length fh) 40
 obtain⟨w3,e3,o3,b3,s3⟩:=eL w2 (.bool false) (.slice none 0 0) (.slice none 0 0) 40
 rw[e1,e2,e3]
 rw[s1]at o2
 rw[s2,s1]at o3
 have p1:=((o1.gone b2).gone b3)
 have p2:=(o2.gone b3)
 have p3:=o3
 have B0:=((b1.trans (b2.mono b1.size)).trans (b3.mono (b1.trans (b2.mono b1.size)).size))
 have hS:∀w',bp w (w.heap.size+2) 40 [(w.heap.size,.bool (decide (x.num<0)),.slice da (af b64 x.num.natAbs).length de,.slice dc (af b64 (aq x.den)).length dg),(w.heap.size+1,.bool (decide (y.num<0)),.slice eZ (af b64 y.num.natAbs).length fg,.slice fc (af b64 (aq y.den)).length fh)] w'->bp w (w.heap.size+2) 40 [(w.heap.size,.bool (decide (x.num<0)),.slice da (af b64 x.num.natAbs).length de,.slice dc (af b64 (aq x.den)).length dg),(w.heap.size+1,.bool (decide (y.num<0)),.slice eZ (af b64 y.num.natAbs).length fg,.slice fc (af b64 (aq y.den)).length fh)] w'/\w'.cell? ⟨w.heap.size,0,none⟩=some (.bool (decide (x.num<0)))/\w'.cell? ⟨w.heap.size,1,none⟩=some (.slice da (af b64 x.num.natAbs).length de)/\w'.cell? ⟨w.heap.size,2,none⟩=some (.slice dc (af b64 (aq x.den)).length dg)/\w'.cell? ⟨w.heap.size+1,0,none⟩=some (.bool (decide (y.num<0)))/\w'.cell? ⟨w.heap.size+1,1,none⟩=some (.slice eZ (af b64 y.num.natAbs).length fg)/\w'.cell? ⟨w.heap.size+1,2,none⟩=some (.slice fc (af b64 (aq y.den)).length fh)/\w'.cell? ⟨w.heap.size+2,0,none⟩=some (cv w' ⟨w.heap.size+2,0,none⟩)/\w'.cell? ⟨w.heap.size+2,1,none⟩=some (cv w' ⟨w.heap.size+2,1,none⟩)/\w'.cell? ⟨w.heap.size+2,2,none⟩=some (cv w' ⟨w.heap.size+2,2,none⟩)/\w'.frozen? ⟨w.heap.size+2,0,none⟩=false/\w'.frozen? ⟨w.heap.size+2,1,none⟩=false/\w'.frozen? ⟨w.heap.size+2,2,none⟩=false:=λw' hh=>by
  obtain⟨f0,f1,f2,f3,f4,f5⟩:=hh.cells
  have q1:=(hh.2.2.1 (w.heap.size,.bool (decide (x.num<0)),.slice da (af b64 x.num.natAbs).length de,.slice dc (af b64 (aq x.den)).length dg) (by simp)).2
  have q2:=(hh.2.2.1 (w.heap.size+1,.bool (decide (y.num<0)),.slice eZ (af b64 y.num.natAbs).length fg,.slice fc (af b64 (aq y.den)).length fh) (by simp)).2
  exact⟨hh,q1.c0,q1.c1,q1.c2,q2.c0,q2.c1,q2.c2,f0,f1,f2,f3,f4,f5⟩
 have H0:bp w (w.heap.size+2) 40 [(w.heap.size,.bool (decide (x.num<0)),.slice da (af b64 x.num.natAbs).length de,.slice dc (af b64 (aq x.den)).length dg),(w.heap.size+1,.bool (decide (y.num<0)),.slice eZ (af b64 y.num.natAbs).length fg,.slice fc (af b64 (aq y.den)).length fh)] w3:=⟨B0,by omega,by intro p hp; simp at hp; rcases hp with rfl|rfl; exact⟨by simp,p1⟩; exact⟨by simp,p2⟩,_,_,_,p3,cT _,aU _ _ _,aU _ _ _⟩
 clear e1 e2 e3
 have hz:=H0.drew
 go_region_held3 (λw'=>bp w (w.heap.size+2) 40 [(w.heap.size,.bool (decide (x.num<0)),.slice da (af b64 x.num.natAbs).length de,.slice dc (af b64 (aq x.den)).length dg),(w.heap.size+1,.bool (decide (y.num<0)),.slice eZ (af b64 y.num.natAbs).length fg,.slice fc (af b64 (aq y.den)).length fh)] w'/\w'.cell? ⟨w.heap.size,0,none⟩=some (.bool (decide (x.num<0)))/\w'.cell? ⟨w.heap.size,1,none⟩=some (.slice da (af b64 x.num.natAbs).length de)/\w'.cell? ⟨w.heap.size,2,none⟩=some (.slice dc (af b64 (aq x.den)).length dg)/\w'.cell? ⟨w.heap.size+1,0,none⟩=some (.bool (decide (y.num<0)))/\w'.cell? ⟨w.heap.size+1,1,none⟩=some (.slice eZ (af b64 y.num.natAbs).length fg)/\w'.cell? ⟨w.heap.size+1,2,none⟩=some (.slice fc (af b64 (aq y.den)).length fh)/\w'.cell? ⟨w.heap.size+2,0,none⟩=some (cv w' ⟨w.heap.size+2,0,none⟩)/\w'.cell? ⟨w.heap.size+2,1,none⟩=some (cv w' ⟨w.heap.size+2,1,none⟩)/\w'.cell? ⟨w.heap.size+2,2,none⟩=some (cv w' ⟨w.heap.size+2,2,none⟩)/\w'.frozen? ⟨w.heap.size+2,0,none⟩=false/\w'.frozen? ⟨w.heap.size+2,1,none⟩=false/\w'.frozen? ⟨w.heap.size+2,2,none⟩=false)
  (first|exact hS _ hz|exact hS _ (bp.sets (by assumption) _ _ _ _ _ _ _))
  (first
   |(go_at_call 65; have hc:=kF _ _ x.den (jO.below hz.1) TK; (with_reducible refine Calls.mono hc ?_); clear hc; rintro e wz ⟨vux,rfl,lT,hb⟩; (try have lT:=lT.below hb); (try have lU:=lU.below hb); (try have lS:=lS.below hb); (try have kj:=kj.below hb); (try have Dn:=Dn.below hb); (try have hs1:=hs1.below hb); have hz:=bp.call (by assumption) hb)
   |(go_at_call 65; have hc:=kF _ _ y.den (qp.below hz.1) Vi; (with_reducible refine Calls.mono hc ?_); clear hc; rintro e wz ⟨vuy,rfl,lU,hb⟩; (try have lT:=lT.below hb); (try have lU:=lU.below hb); (try have lS:=lS.below hb); (try have kj:=kj.below hb); (try have Dn:=Dn.below hb); (try have hs1:=hs1.below hb); have hz:=bp.call (by assumption) hb)
   |(go_at_call 66; have hc:=kE _ _ _ _ _ (lu.below hz.1) lU HB.out.1.1 HB.out.2.2 fA ot; (with_reducible refine Calls.mono hc ?_); clear hc; rintro e wz ⟨vt1,rfl,lS,hb⟩; (try have lT:=lT.below hb); (try have lU:=lU.below hb); (try have lS:=lS.below hb); (try have kj:=kj.below hb); (try have Dn:=Dn.below hb); (try have hs1:=hs1.below hb); have hz:=bp.call (by assumption) hb)
   |(go_at_call 66; have hc:=kE _ _ _ _ _ lT (tq.below hz.1) HB.out.1.2 HB.out.2.1 fA ot; (with_reducible refine Calls.mono hc ?_); clear hc; rintro e wz ⟨vt2,rfl,kj,hb⟩; (try have lT:=lT.below hb); (try have lU:=lU.below hb); (try have lS:=lS.below hb); (try have kj:=kj.below hb); (try have Dn:=Dn.below hb); (try have hs1:=hs1.below hb); have hz:=bp.call (by assumption) hb)
   |(go_at_call 67; have hc:=nM _ (!(decide (x.num<0)==decide (y.num<0))) _ _ (x.num.natAbs*y.den) (x.den*y.num.natAbs) lS kj (Nat.mul_pos TK (by have:=HY.out; omega)) (HB.out.1.1.mul HB.out.2.2) (HB.out.1.2.mul HB.out.2.1) yh; (with_reducible refine Calls.mono hc ?_); clear hc; rintro e wz ⟨vr,rfl,El,hb⟩; replace El:=zC El (J1 x y HY.out); obtain⟨WI,WH,rfl,vF,hrd⟩:=El; obtain⟨CB,C4,rfl,_⟩:=id vF; obtain⟨CC,C5,rfl,_⟩:=id hrd; (try have lT:=lT.below hb); (try have lU:=lU.below hb); (try have lS:=lS.below hb); (try have kj:=kj.below hb); (try have Dn:=Dn.below hb); (try have hs1:=hs1.below hb); have hz:=bp.call (by assumption) hb))
 all_goals (
  go_wp2
  obtain⟨wf,HW,f0,f1,f2,dR⟩:=hz.fin rfl vF hrd
  (try rw[HW])
  (try simp only[Exit.inBlock,Exit.then])
  refine bodyPost_ret (by simp[results,Tryz.results72,go_sem,f0,f1,f2]; try rfl) rfl ?_
  first|exact dR|exact dR.drew)
end Wx

namespace Wx
open Go Go.RowKit Go.Proofs
def dK (x:Rat):Int:=if x.num<0 then -1 else if x=0 then 0 else 1
theorem lp (w:World) (vx:Value) (x:Rat) (hx:bL w vx x):Calls Tryz.prog 81 #[vx] w (fU w (.int .i64 (dK x))):=by
 obtain⟨Ea,Eb,rfl,lu,jO⟩:=id hx
 obtain⟨da,de,rfl,_⟩:=id lu
 obtain⟨dc,dg,rfl,_⟩:=id jO
 have hS:dK x=if x.num<0 then -1 else if x=0 then 0 else 1:=rfl
 generalize dK x=z at *
 by_cases h1:x.num<0
 ·rw[if_pos h1]at hS
  subst hS
  rw[decide_eq_true h1]at *
  go_enter Tryz.func81,Tryz.ntmps81
  go_wp2
  go_ret
  exact⟨rfl,Below.alloc (Below.refl _ _) (Nat.le_refl _) _⟩
 ·rw[if_neg h1]at hS
  rw[decide_eq_false h1]at *
  by_cases h2:x=0
  ·rw[if_pos h2]at hS
   subst hS
   have HD:=bx (decide_eq_true h2)
   clear h2
   go_enter Tryz.func81,Tryz.ntmps81
   go_wp2_with fail
   obtain⟨w1,e1,o1,b1,s1⟩:=eL w (.bool false) (.slice da (af b64 x.num.natAbs).length de) (.slice dc (af b64 (aq x.den)).length dg) 40
   rw[e1]
   have hc:=zero_num w1 _ x (hx.below b1)
   rw[HD.out]at hc
   refine hc.mono ?_
   rintro e w2 ⟨rfl,hb⟩
   go_wp2
   go_ret
   exact⟨rfl,b1.trans (hb.mono b1.size)⟩
  ·rw[if_neg h2]at hS
   subst hS
   have HD:=bx (decide_eq_false h2)
   clear h2
   go_enter Tryz.func81,Tryz.ntmps81
   go_wp2_with fail
   obtain⟨w1,e1,o1,b1,s1⟩:=eL w (.bool false) (.slice da (af b64 x.num.natAbs).length de) (.slice dc (af b64 (aq x.den)).length dg) 40
   rw[e1]
   have hc:=zero_num w1 _ x (hx.below b1)
   rw[HD.out]at hc
   refine hc.mono ?_
   rintro e w2 ⟨rfl,hb⟩
   go_wp2
   go_ret
   exact⟨rfl,b1.trans (hb.mono b1.size)⟩
end Wx

namespace Wx
set_option maxRecDepth 100000
open Go Go.RowKit Go.Proofs
set_option maxHeartbeats 8000000 in
theorem Pm (w:World) (vx vy:Value) (x y:Rat) (hx:bL w vx x) (hy:bL w vy y) {j k:Nat} (hj:aZ j x) (hk:aZ k y) (yh:j+k+j+k+1<=100000000):Calls Tryz.prog 73 #[vx,vy] w (ig w (x-y)):=by
 obtain⟨Ea,Eb,rfl,lu,jO⟩:=id hx
 obtain⟨da,de,rfl,_⟩:=id lu
 obtain⟨dc,dg,rfl,_⟩:=id jO
 obtain⟨NH,NI,rfl,tq,qp⟩:=id hy
 obtain⟨eZ,fg,rfl,_⟩:=id tq
 obtain⟨fc,fh,rfl,_⟩:=id qp
 have HB:=bx (And.intro hj hk)
 have HS:=bx (Rat.sub_eq_add_neg x y)
 clear hj hk
 go_enter Tryz.func73,Tryz.ntmps73
 go_wp2_with fail
 obtain⟨w1,e1,o1,b1,s1⟩:=eL w (.bool (decide (x.num<0))) (.slice da (af b64 x.num.natAbs).length de) (.slice dc (af b64 (aq x.den)).length dg) 40
 obtain⟨w2,e2,o2,b2,s2⟩:=eL w1 (.bool (decide (y.num<0))) (.slice eZ (af b64 y.num.natAbs).length fg) (.slice fc (af b64 (aq y.den)).length fh) 40
 obtain⟨w3,e3,o3,b3,s3⟩:=eL w2 (.bool false) (.slice none 0 0) (.slice none 0 0) 40
 rw[e1,e2,e3]
 rw[s1]at o2
 rw[s2,s1]at o3
 have p1:=((o1.gone b2).gone b3)
 have p2:=(o2.gone b3)
 have p3:=o3
 have B0:=((b1.trans (b2.mono b1.size)).trans (b3.mono (b1.trans (b2.mono b1.size)).size))
 have hS:∀w',bp w (w.heap.size+2) 40 [(w.heap.size,.bool (decide (x.num<0)),.slice da (af b64 x.num.natAbs).length de,.slice dc (af b64 (aq x.den)).length dg),(w.heap.size+1,.bool (decide (y.num<0)),.slice eZ (af b64 y.num.natAbs).length fg,.slice fc (af b64 (aq y.den)).length fh)] w'->bp w (w.heap.size+2) 40 [(w.heap.size,.bool (decide (x.num<0)),.slice da (af b64 x.num.natAbs).length de,.slice dc (af b64 (aq x.den)).length dg),(w.heap.size+1,.bool (decide (y.num<0)),.slice eZ (af b64 y.num.natAbs).length fg,.slice fc (af b64 (aq y.den)).length fh)] w'/\w'.cell? ⟨w.heap.size,0,none⟩=some (.bool (decide (x.num<0)))/\w'.cell? ⟨w.heap.size,1,none⟩=some (.slice da (af b64 x.num.natAbs).length de)/\w'.cell? ⟨w.heap.size,2,none⟩=some (.slice dc (af b64 (aq x.den)).length dg)/\w'.cell? ⟨w.heap.size+1,0,none⟩=some (.bool (decide (y.num<0)))/\w'.cell? ⟨w.heap.size+1,1,none⟩=some (.slice eZ (af b64 y.num.natAbs).length fg)/\w'.cell? ⟨w.heap.size+1,2,none⟩=some (.slice fc (af b64 (aq y.den)).length fh)/\w'.cell? ⟨w.heap.size+2,0,none⟩=some (cv w' ⟨w.heap.size+2,0,none⟩)/\w'.cell? ⟨w.heap.size+2,1,none⟩=some (cv w' ⟨w.heap.size+2,1,none⟩)/\w'.cell? ⟨w.heap.size+2,2,none⟩=some (cv w' ⟨w.heap.size+2,2,none⟩)/\w'.frozen? ⟨w.heap.size+2,0,none⟩=false/\w'.frozen? ⟨w.heap.size+2,1,none⟩=false/\w'.frozen? ⟨w.heap.size+2,2,none⟩=false:=λw' hh=>by
  obtain⟨f0,f1,f2,f3,f4,f5⟩:=hh.cells
  have q1:=(hh.2.2.1 (w.heap.size,.bool (decide (x.num<0)),.slice da (af b64 x.num.natAbs).length de,.slice dc (af b64 (aq x.den)).length dg) (by simp)).2
  have q2:=(hh.2.2.1 (w.heap.size+1,.bool (decide (y.num<0)),.slice eZ (af b64 y.num.natAbs).length fg,.slice fc (af b64 (aq y.den)).length fh) (by simp)).2
  exact⟨hh,q1.c0,q1.c1,q1.c2,q2.c0,q2.c1,q2.c2,f0,f1,f2,f3,f4,f5⟩
 have H0:bp w (w.heap.size+2) 40 [(w.heap.size,.bool (decide (x.num<0)),.slice da (af b64 x.num.natAbs).length de,.slice dc (af b64 (aq x.den)).length dg),(w.heap.size+1,.bool (decide (y.num<0)),.slice eZ (af b64 y.num.natAbs).length fg,.slice fc (af b64 (aq y.den)).length fh)] w3:=⟨B0,by omega,by intro p hp; simp at hp; rcases hp with rfl|rfl; exact⟨by simp,p1⟩; exact⟨by simp,p2⟩,_,_,_,p3,cT _,aU _ _ _,aU _ _ _⟩
 clear e1 e2 e3
 have hz:=H0.drew
 go_region_held3 (λw'=>bp w (w.heap.size+2) 40 [(w.heap.size,.bool (decide (x.num<0)),.slice da (af b64 x.num.natAbs).length de,.slice dc (af b64 (aq x.den)).length dg),(w.heap.size+1,.bool (decide (y.num<0)),.slice eZ (af b64 y.num.natAbs).length fg,.slice fc (af b64 (aq y.den)).length fh)] w'/\w'.cell? ⟨w.heap.size,0,none⟩=some (.bool (decide (x.num<0)))/\w'.cell? ⟨w.heap.size,1,none⟩=some (.slice da (af b64 x.num.natAbs).length de)/\w'.cell? ⟨w.heap.size,2,none⟩=some (.slice dc (af b64 (aq x.den)).length dg)/\w'.cell? ⟨w.heap.size+1,0,none⟩=some (.bool (decide (y.num<0)))/\w'.cell? ⟨w.heap.size+1,1,none⟩=some (.slice eZ (af b64 y.num.natAbs).length fg)/\w'.cell? ⟨w.heap.size+1,2,none⟩=some (.slice fc (af b64 (aq y.den)).length fh)/\w'.cell? ⟨w.heap.size+2,0,none⟩=some (cv w' ⟨w.heap.size+2,0,none⟩)/\w'.cell? ⟨w.heap.size+2,1,none⟩=some (cv w' ⟨w.heap.size+2,1,none⟩)/\w'.cell? ⟨w.heap.size+2,2,none⟩=some (cv w' ⟨w.heap.size+2,2,none⟩)/\w'.frozen? ⟨w.heap.size+2,0,none⟩=false/\w'.frozen? ⟨w.heap.size+2,1,none⟩=false/\w'.frozen? ⟨w.heap.size+2,2,none⟩=false)
  (first|exact hS _ hz|exact hS _ (bp.sets (by assumption) _ _ _ _ _ _ _))
  (first
   |(go_at_call 39; have hc:=neg_num _ _ y (hy.below hz.1); (with_reducible refine Calls.mono hc ?_); clear hc; rintro e wz ⟨vm,rfl,hm,hb⟩; have hz:=bp.call (by assumption) hb)
   |(go_at_call 17; have hc:=JL _ _ _ x (-y) (hx.below hz.1) hm HB.out.1 HB.out.2.neg yh; (with_reducible refine Calls.mono hc ?_); clear hc; rintro e wz ⟨vr,rfl,El,hb⟩; replace El:=zC El HS.out; obtain⟨WI,WH,rfl,vF,hrd⟩:=El; obtain⟨CB,C4,rfl,_⟩:=id vF; obtain⟨CC,C5,rfl,_⟩:=id hrd; have hz:=bp.call (by assumption) hb))
 all_goals (
  go_wp2
  obtain⟨wf,HW,f0,f1,f2,dR⟩:=hz.fin rfl vF hrd
  (try rw[HW])
  (try simp only[Exit.inBlock,Exit.then])
  refine bodyPost_ret (by simp[results,Tryz.results73,go_sem,f0,f1,f2]; try rfl) rfl ?_
  first|exact dR|exact dR.drew)
theorem S6 (w:World) (vx vy:Value) (x y:Rat) (hx:bL w vx x) (hy:bL w vy y) {j k:Nat} (hj:aZ j x) (hk:aZ k y) (yh:j+k+j+k+1<=100000000):Calls Tryz.prog 23 #[vx,vy] w (ig w (x-y)):=by
 obtain⟨Ea,Eb,rfl,lu,jO⟩:=id hx
 obtain⟨da,de,rfl,_⟩:=id lu
 obtain⟨dc,dg,rfl,_⟩:=id jO
 obtain⟨NH,NI,rfl,tq,qp⟩:=id hy
 obtain⟨eZ,fg,rfl,_⟩:=id tq
 obtain⟨fc,fh,rfl,_⟩:=id qp
 go_enter Tryz.func23,Tryz.ntmps23
 go_wp2_with fail
 obtain⟨w1,e1,o1,b1,s1⟩:=eL w (.bool (decide (x.num<0))) (.slice da (af b64 x.num.natAbs).length de) (.slice dc (af b64 (aq x.den)).length dg) 40
 obtain⟨w2,e2,o2,b2,s2⟩:=eL w1 (.bool (decide (y.num<0))) (.slice eZ (af b64 y.num.natAbs).length fg) (.slice fc (af b64 (aq y.den)).length fh) 40
 obtain⟨w3,e3,o3,b3,s3⟩:=eL w2 (.bool false) (.slice none 0 0) (.slice none 0 0) 40
 rw[e1,e2,e3]
 rw[s1]at o2
 rw[s2,s1]at o3
 have p1:=((o1.gone b2).gone b3)
 have p2:=(o2.gone b3)
 have p3:=o3
 have B0:=((b1.trans (b2.mono b1.size)).trans (b3.mono (b1.trans (b2.mono b1.size)).size))
 have hS:∀w',bp w (w.heap.size+2) 40 [(w.heap.size,.bool (decide (x.num<0)),.slice da (af b64 x.num.natAbs).length de,.slice dc (af b64 (aq x.den)).length dg),(w.heap.size+1,.bool (decide (y.num<0)),.slice eZ (af b64 y.num.natAbs).length fg,.slice fc (af b64 (aq y.den)).length fh)] w'->bp w (w.heap.size+2) 40 [(w.heap.size,.bool (decide (x.num<0)),.slice da (af b64 x.num.natAbs).length de,.slice dc (af b64 (aq x.den)).length dg),(w.heap.size+1,.bool (decide (y.num<0)),.slice eZ (af b64 y.num.natAbs).length fg,.slice fc (af b64 (aq y.den)).length fh)] w'/\w'.cell? ⟨w.heap.size,0,none⟩=some (.bool (decide (x.num<0)))/\w'.cell? ⟨w.heap.size,1,none⟩=some (.slice da (af b64 x.num.natAbs).length de)/\w'.cell? ⟨w.heap.size,2,none⟩=some (.slice dc (af b64 (aq x.den)).length dg)/\w'.cell? ⟨w.heap.size+1,0,none⟩=some (.bool (decide (y.num<0)))/\w'.cell? ⟨w.heap.size+1,1,none⟩=some (.slice eZ (af b64 y.num.natAbs).length fg)/\w'.cell? ⟨w.heap.size+1,2,none⟩=some (.slice fc (af b64 (aq y.den)).length fh)/\w'.cell? ⟨w.heap.size+2,0,none⟩=some (cv w' ⟨w.heap.size+2,0,none⟩)/\w'.cell? ⟨w.heap.size+2,1,none⟩=some (cv w' ⟨w.heap.size+2,1,none⟩)/\w'.cell? ⟨w.heap.size+2,2,none⟩=some (cv w' ⟨w.heap.size+2,2,none⟩)/\w'.frozen? ⟨w.heap.size+2,0,none⟩=false/\w'.frozen? ⟨w.heap.size+2,1,none⟩=false/\w'.frozen? ⟨w.heap.size+2,2,none⟩=false:=λw' hh=>by
  obtain⟨f0,f1,f2,f3,f4,f5⟩:=hh.cells
  have q1:=(hh.2.2.1 (w.heap.size,.bool (decide (x.num<0)),.slice da (af b64 x.num.natAbs).length de,.slice dc (af b64 (aq x.den)).length dg) (by simp)).2
  have q2:=(hh.2.2.1 (w.heap.size+1,.bool (decide (y.num<0)),.slice eZ (af b64 y.num.natAbs).length fg,.slice fc (af b64 (aq y.den)).length fh) (by simp)).2
  exact⟨hh,q1.c0,q1.c1,q1.c2,q2.c0,q2.c1,q2.c2,f0,f1,f2,f3,f4,f5⟩
 have H0:bp w (w.heap.size+2) 40 [(w.heap.size,.bool (decide (x.num<0)),.slice da (af b64 x.num.natAbs).length de,.slice dc (af b64 (aq x.den)).length dg),(w.heap.size+1,.bool (decide (y.num<0)),.slice eZ (af b64 y.num.natAbs).length fg,.slice fc (af b64 (aq y.den)).length fh)] w3:=⟨B0,by omega,by intro p hp; simp at hp; rcases hp with rfl|rfl; exact⟨by simp,p1⟩; exact⟨by simp,p2⟩,_,_,_,p3,cT _,aU _ _ _,aU _ _ _⟩
 clear e1 e2 e3
 have hz:=H0
 obtain⟨_,k0,k1,k2,k3,k4,k5,_⟩:=hS _ hz
 refine(Pm _ _ _ x y (hx.below hz.1) (hy.below hz.1) hj hk yh).mono ?_
 rintro e wz ⟨vr,rfl,El,hb⟩
 obtain⟨WI,WH,rfl,vF,hrd⟩:=El
 obtain⟨CB,C4,rfl,_⟩:=id vF
 obtain⟨CC,C5,rfl,_⟩:=id hrd
 have hz:=bp.call (And.intro hz trivial) hb
 clear k0 k1 k2 k3 k4 k5
 obtain⟨_,k0,k1,k2,k3,k4,k5,k6,k7,k8,k9,k10,k11⟩:=hS _ hz
 go_wp2
 obtain⟨wf,HW,f0,f1,f2,dR⟩:=hz.fin rfl vF hrd
 (try rw[HW])
 (try simp only[Exit.inBlock,Exit.then])
 refine bodyPost_ret (by simp[results,Tryz.results23,go_sem,f0,f1,f2]; try rfl) rfl ?_
 exact dR
end Wx

namespace Wx
open Go Go.RowKit Go.Proofs
theorem Aj (w:World) (z:Int) (h1:-9223372036854775808<=z) (h2:z<=9223372036854775807):Calls Tryz.prog 64 #[.int .i64 z] w (jR .u64 b64 w z.natAbs):=by
 have Ra:Bx (z.natAbs<b64):=bx (by unfold b64; omega)
 by_cases hz:z<0
 ·have e1:IntKind.u64.wrap (-IntKind.u64.wrap z)=((z.natAbs:Nat):Int):=by
   simp[IntKind.wrap,IntKind.bits,IntKind.signed]; omega
  have E1:=bx e1
  clear e1
  go_enter Tryz.func64,Tryz.ntmps64
  go_wp2_with fail
  rw[E1.out]
  refine(rF w _ Ra.out).mono ?_
  rintro e w3 ⟨vr,rfl,hr3,hb3⟩
  go_wp2
  go_ret
  exact⟨_,rfl,hr3,hb3⟩
 ·have e1:z=((z.natAbs:Nat):Int):=by omega
  have E1:=bx e1
  clear e1
  go_enter Tryz.func64,Tryz.ntmps64
  go_wp2_with fail
  have hc:=rF w _ Ra.out
  rw[<-E1.out]at hc
  refine hc.mono ?_
  rintro e w3 ⟨vr,rfl,hr3,hb3⟩
  go_wp2
  go_ret
  exact⟨_,rfl,hr3,hb3⟩
theorem Kj (w:World) (z:Int) (h1:-9223372036854775808<=z) (h2:z<=9223372036854775807):Calls Tryz.prog 15 #[.int .i64 z] w (ig w (z:Rat)):=by
 have H:=bx (And.intro h1 h2)
 clear h1 h2
 go_enter Tryz.func15,Tryz.ntmps15
 go_wp2_with fail
 obtain⟨w1,e1,o1,b1,s1⟩:=eL w (.bool false) (.slice none 0 0) (.slice none 0 0) 40
 rw[e1]
 refine(Aj w1 z H.out.1 H.out.2).mono ?_
 rintro e w2 ⟨v,rfl,hv,hb⟩
 obtain⟨A1,c1,rfl,_⟩:=id hv
 have hz:bp w w.heap.size 40 [] w2:=⟨b1.trans (hb.mono b1.size),Nat.le_refl _,by simp,_,_,_,o1.gone hb,cT _,aU _ _ _,aU _ _ _⟩
 obtain⟨k0,k1,k2,k3,k4,k5⟩:=hz.cells
 clear e1
 go_wp2
 obtain⟨wf,HW,f0,f1,f2,dR⟩:=hz.fin (q:=(z:Rat)) (A2:=none) (l2:=0) (c2:=0) rfl (by rw[Rat.num_intCast]; exact hv) (by rw[Rat.den_intCast]; exact bQ.zero _ _ _)
 rw[Rat.num_intCast]at HW f0 dR
 rw[HW]
 (try simp only[Exit.inBlock,Exit.then])
 refine bodyPost_ret (by simp[results,Tryz.results15,go_sem,f0,f1,f2]; try rfl) rfl ?_
 exact dR
def tX (w:World) (q:Rat) (err:Int) (e:Ending) (w':World):Prop:=∃v,e=.returned (.tuple #[v,.int .i64 err])/\bL w' v q/\Below w.heap.size w w'
theorem tX.of {w:World} {q:Rat} {v:Value} {w':World} (h:ig w q (.returned v) w') (err:Int):tX w q err (.returned (.tuple #[v,.int .i64 err])) w':=by
 obtain⟨v',e,h1,h2⟩:=h
 injection e with e
 subst e
 exact⟨_,rfl,h1,h2⟩
def pJ (n d:Int):Rat:=gh (!(decide (n<0)==decide (d<0))) n.natAbs d.natAbs
theorem Kv (w:World) (n d:Int) (h1:-9223372036854775808<=n) (h2:n<=9223372036854775807) (h3:-9223372036854775808<=d) (h4:d<=9223372036854775807) (hd:d≠0):
  Calls Tryz.prog 20 #[.int .i64 n,.int .i64 d] w (tX w (pJ n d) 0):=by
 have H:=bx (And.intro (And.intro h1 h2) (And.intro h3 h4))
 have HD:=bx hd
 have Q3:(d==0)=false:=beq_eq_false_iff_ne.2 hd
 have B1:Bx (Bd 64 n.natAbs):=bx (by unfold Bd; omega)
 have B2:Bx (Bd 64 d.natAbs):=bx (by unfold Bd; omega)
 clear h1 h2 h3 h4 hd
 go_enter Tryz.func20,Tryz.ntmps20
 go_wp2_with fail
 obtain⟨w1,e1,o1,b1,s1⟩:=eL w (.bool false) (.slice none 0 0) (.slice none 0 0) 40
 rw[e1]
 refine(Aj w1 n H.out.1.1 H.out.1.2).mono ?_
 rintro e w2 ⟨vn,rfl,hn,hb⟩
 go_wp2_with fail
 refine(Aj w2 d H.out.2.1 H.out.2.2).mono ?_
 rintro e w3 ⟨vd,rfl,hd,hb3⟩
 have hn3:=hn.below hb3
 go_wp2_with fail
 refine(nM w3 _ _ _ _ _ hn3 hd (by have:=HD.out; omega) B1.out B2.out (by omega)).mono ?_
 rintro e w4 ⟨vr,rfl,El,hb4⟩
 change bL w4 vr (pJ n d)at El
 obtain⟨WI,WH,rfl,vF,hrd⟩:=El
 obtain⟨CB,C4,rfl,_⟩:=id vF
 obtain⟨CC,C5,rfl,_⟩:=id hrd
 have o4:=((o1.gone hb).gone hb3).gone hb4
 have hz:bp w w.heap.size 40 [] w4:=⟨((b1.trans (hb.mono b1.size)).trans (hb3.mono (Nat.le_trans b1.size hb.size))).trans (hb4.mono (Nat.le_trans (Nat.le_trans b1.size hb.size) hb3.size)),Nat.le_refl _,by simp,_,_,_,o4,cT _,aU _ _ _,aU _ _ _⟩
 obtain⟨k0,k1,k2,k3,k4,k5⟩:=hz.cells
 clear e1
 go_wp2
 obtain⟨wf,HW,f0,f1,f2,dR⟩:=hz.fin rfl vF hrd
 rw[HW]
 (try simp only[Exit.inBlock,Exit.then])
 refine bodyPost_ret (by simp[results,Tryz.results20,go_sem,f0,f1,f2]; try rfl) rfl ?_
 exact tX.of dR 0
end Wx
