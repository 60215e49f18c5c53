import Derived.Test.YtikkgpljpglnbaaGreatCRMAddS
namespace Wx
set_option maxRecDepth 100000
open Go Go.RowKit Go.Proofs
theorem wj {w:World} {v:Value} {p q:Rat} (h:cM w v p) (e:q=p):cM w v q:=e▸h
set_option maxHeartbeats 8000000 in
theorem Gk (w:World) (vx vy:Value) (x y:Rat) (hx:cM w vx x) (hy:cM w vy y) {j k:Nat} (hj:fo j x) (hk:fo k y) (HE:j+k<=100000000):Calls Tryz.prog 28 #[vx,vy] w (jy w (x*y)):=by
 obtain⟨IW,IX,rfl,qP,nr⟩:=id hx
 obtain⟨ij,iq,rfl,_⟩:=id qP
 obtain⟨ik,ir,rfl,_⟩:=id nr
 obtain⟨Qs,Qt,rfl,FX,yy⟩:=id hy
 obtain⟨kY,lu,rfl,_⟩:=id FX
 obtain⟨kZ,lA,rfl,_⟩:=id yy
 have Ma:=x.den_pos
 have NF:=y.den_pos
 have HB:=bx (And.intro hj hk)
 have fD:j<=1000000000:=by omega
 have nk:k<=1000000000:=by omega
 clear hj hk
 go_enter Tryz.func28,Tryz.ntmps28
 go_wp2_with fail
 obtain⟨w1,e1,o1,b1,s1⟩:=iY w (.bool (decide (x.num<0))) (.slice ij (ak b64 x.num.natAbs).length iq) (.slice ik (ak b64 (aK x.den)).length ir) 47
 obtain⟨w2,e2,o2,b2,s2⟩:=iY w1 (.bool (decide (y.num<0))) (.slice kY (ak b64 y.num.natAbs).length lu) (.slice kZ (ak b64 (aK y.den)).length lA) 47
 obtain⟨w3,e3,o3,b3,s3⟩:=iY w2 (.bool false) (.slice none 0 0) (.slice none 0 0) 47
 rw[e1,e2,e3]
 rw[s1]at o2
 rw[s2,s1]at o3
 have p1:=((o1.gone b2).gone b3)
 have p2:=(o2.gone b3)
 have p3:=o3
 have B0:=((b1.trans (b2.mono b1.size)).trans (b3.mono (b1.trans (b2.mono b1.size)).size))
 have hS:∀w',aV w (w.heap.size+2) 47 [(w.heap.size,.bool (decide (x.num<0)),.slice ij (ak b64 x.num.natAbs).length iq,.slice ik (ak b64 (aK x.den)).length ir),(w.heap.size+1,.bool (decide (y.num<0)),.slice kY (ak b64 y.num.natAbs).length lu,.slice kZ (ak b64 (aK y.den)).length lA)] w'->aV w (w.heap.size+2) 47 [(w.heap.size,.bool (decide (x.num<0)),.slice ij (ak b64 x.num.natAbs).length iq,.slice ik (ak b64 (aK x.den)).length ir),(w.heap.size+1,.bool (decide (y.num<0)),.slice kY (ak b64 y.num.natAbs).length lu,.slice kZ (ak b64 (aK y.den)).length lA)] w'/\w'.cell? ⟨w.heap.size,0,none⟩=some (.bool (decide (x.num<0)))/\w'.cell? ⟨w.heap.size,1,none⟩=some (.slice ij (ak b64 x.num.natAbs).length iq)/\w'.cell? ⟨w.heap.size,2,none⟩=some (.slice ik (ak b64 (aK x.den)).length ir)/\w'.cell? ⟨w.heap.size+1,0,none⟩=some (.bool (decide (y.num<0)))/\w'.cell? ⟨w.heap.size+1,1,none⟩=some (.slice kY (ak b64 y.num.natAbs).length lu)/\w'.cell? ⟨w.heap.size+1,2,none⟩=some (.slice kZ (ak b64 (aK y.den)).length lA)/\w'.cell? ⟨w.heap.size+2,0,none⟩=some (cv w' ⟨w.heap.size+2,0,none⟩)/\w'.cell? ⟨w.heap.size+2,1,none⟩=some (cv w' ⟨w.heap.size+2,1,none⟩)/\w'.cell? ⟨w.heap.size+2,2,none⟩=some (cv w' ⟨w.heap.size+2,2,none⟩)/\w'.frozen? ⟨w.heap.size+2,0,none⟩=false/\w'.frozen? ⟨w.heap.size+2,1,none⟩=false/\w'.frozen? ⟨w.heap.size+2,2,none⟩=false:=λw' hh=>by
  obtain⟨f0,f1,f2,f3,f4,f5⟩:=hh.cells
  have q1:=(hh.2.2.1 (w.heap.size,.bool (decide (x.num<0)),.slice ij (ak b64 x.num.natAbs).length iq,.slice ik (ak b64 (aK x.den)).length ir) (by simp)).2
  have q2:=(hh.2.2.1 (w.heap.size+1,.bool (decide (y.num<0)),.slice kY (ak b64 y.num.natAbs).length lu,.slice kZ (ak b64 (aK y.den)).length lA) (by simp)).2
  exact⟨hh,q1.c0,q1.c1,q1.c2,q2.c0,q2.c1,q2.c2,f0,f1,f2,f3,f4,f5⟩
 have H0:aV w (w.heap.size+2) 47 [(w.heap.size,.bool (decide (x.num<0)),.slice ij (ak b64 x.num.natAbs).length iq,.slice ik (ak b64 (aK x.den)).length ir),(w.heap.size+1,.bool (decide (y.num<0)),.slice kY (ak b64 y.num.natAbs).length lu,.slice kZ (ak b64 (aK y.den)).length lA)] w3:=⟨B0,by omega,by intro p hp; simp at hp; rcases hp with rfl|rfl; exact⟨by simp,p1⟩; exact⟨by simp,p2⟩,_,_,_,p3,dR _,bt _ _ _,bt _ _ _⟩
 clear e1 e2 e3
 have hz:=H0.drew
 go_region_held3 (λw'=>aV w (w.heap.size+2) 47 [(w.heap.size,.bool (decide (x.num<0)),.slice ij (ak b64 x.num.natAbs).length iq,.slice ik (ak b64 (aK x.den)).length ir),(w.heap.size+1,.bool (decide (y.num<0)),.slice kY (ak b64 y.num.natAbs).length lu,.slice kZ (ak b64 (aK y.den)).length lA)] w'/\w'.cell? ⟨w.heap.size,0,none⟩=some (.bool (decide (x.num<0)))/\w'.cell? ⟨w.heap.size,1,none⟩=some (.slice ij (ak b64 x.num.natAbs).length iq)/\w'.cell? ⟨w.heap.size,2,none⟩=some (.slice ik (ak b64 (aK x.den)).length ir)/\w'.cell? ⟨w.heap.size+1,0,none⟩=some (.bool (decide (y.num<0)))/\w'.cell? ⟨w.heap.size+1,1,none⟩=some (.slice kY (ak b64 y.num.natAbs).length lu)/\w'.cell? ⟨w.heap.size+1,2,none⟩=some (.slice kZ (ak b64 (aK y.den)).length lA)/\w'.cell? ⟨w.heap.size+2,0,none⟩=some (cv w' ⟨w.heap.size+2,0,none⟩)/\w'.cell? ⟨w.heap.size+2,1,none⟩=some (cv w' ⟨w.heap.size+2,1,none⟩)/\w'.cell? ⟨w.heap.size+2,2,none⟩=some (cv w' ⟨w.heap.size+2,2,none⟩)/\w'.frozen? ⟨w.heap.size+2,0,none⟩=false/\w'.frozen? ⟨w.heap.size+2,1,none⟩=false/\w'.frozen? ⟨w.heap.size+2,2,none⟩=false)
  (first|exact hS _ hz|exact hS _ (aV.sets (by assumption) _ _ _ _ _ _ _))
  (first
   |(go_at_call 51; have hc:=iJ _ _ x.den (nr.below hz.1) Ma; (with_reducible refine Calls.mono hc ?_); clear hc; rintro e wz ⟨T5,rfl,qN,hb⟩; (try have qN:=qN.below hb); (try have qO:=qO.below hb); (try have qK:=qK.below hb); (try have qL:=qL.below hb); (try have um:=um.below hb); (try have hs1:=hs1.below hb); have hz:=aV.call (by assumption) hb)
   |(go_at_call 51; have hc:=iJ _ _ y.den (yy.below hz.1) NF; (with_reducible refine Calls.mono hc ?_); clear hc; rintro e wz ⟨T6,rfl,qO,hb⟩; (try have qN:=qN.below hb); (try have qO:=qO.below hb); (try have qK:=qK.below hb); (try have qL:=qL.below hb); (try have um:=um.below hb); (try have hs1:=hs1.below hb); have hz:=aV.call (by assumption) hb)
   |(go_at_call 52; have hc:=iH _ _ _ _ _ (qP.below hz.1) (FX.below hz.1) HB.out.1.1 HB.out.2.1 fD nk; (with_reducible refine Calls.mono hc ?_); clear hc; rintro e wz ⟨T3,rfl,qK,hb⟩; (try have qN:=qN.below hb); (try have qO:=qO.below hb); (try have qK:=qK.below hb); (try have qL:=qL.below hb); (try have um:=um.below hb); (try have hs1:=hs1.below hb); have hz:=aV.call (by assumption) hb)
   |(go_at_call 52; have hc:=iH _ _ _ _ _ qN qO HB.out.1.2 HB.out.2.2 fD nk; (with_reducible refine Calls.mono hc ?_); clear hc; rintro e wz ⟨T4,rfl,qL,hb⟩; (try have qN:=qN.below hb); (try have qO:=qO.below hb); (try have qK:=qK.below hb); (try have qL:=qL.below hb); (try have um:=um.below hb); (try have hs1:=hs1.below hb); have hz:=aV.call (by assumption) hb)
   |(go_at_call 53; have hc:=jW _ (!(decide (x.num<0)==decide (y.num<0))) _ _ (x.num.natAbs*y.num.natAbs) (x.den*y.den) qK qL (Nat.mul_pos Ma NF) (HB.out.1.1.mul HB.out.2.1) (HB.out.1.2.mul HB.out.2.2) HE; (with_reducible refine Calls.mono hc ?_); clear hc; rintro e wz ⟨vr,rfl,FQ,hb⟩; replace FQ:=wj FQ (Aq x y); obtain⟨RY,RX,rfl,Cs,hrd⟩:=FQ; obtain⟨Qy,Q3,rfl,_⟩:=id Cs; obtain⟨Qz,Q4,rfl,_⟩:=id hrd; (try have qN:=qN.below hb); (try have qO:=qO.below hb); (try have qK:=qK.below hb); (try have qL:=qL.below hb); (try have um:=um.below hb); (try have hs1:=hs1.below hb); have hz:=aV.call (by assumption) hb))
 all_goals (
  go_wp2
  obtain⟨wf,HW,f0,f1,f2,dD⟩:=hz.fin rfl Cs hrd
  (try rw[HW])
  (try simp only[Exit.inBlock,Exit.then])
  refine bodyPost_ret (by simp[results,Tryz.results28,go_sem,f0,f1,f2]; try rfl) rfl ?_
  first|exact dD|exact dD.drew)
set_option maxHeartbeats 8000000 in
theorem Jc (w:World) (vx vy:Value) (x y:Rat) (hx:cM w vx x) (hy:cM w vy y) (hy0:y.num≠0) {j k:Nat} (hj:fo j x) (hk:fo k y) (HE:j+k<=100000000):Calls Tryz.prog 79 #[vx,vy] w (jy w (x/y)):=by
 have HY:=bx hy0
 clear hy0
 obtain⟨IW,IX,rfl,qP,nr⟩:=id hx
 obtain⟨ij,iq,rfl,_⟩:=id qP
 obtain⟨ik,ir,rfl,_⟩:=id nr
 obtain⟨Qs,Qt,rfl,FX,yy⟩:=id hy
 obtain⟨kY,lu,rfl,_⟩:=id FX
 obtain⟨kZ,lA,rfl,_⟩:=id yy
 have Ma:=x.den_pos
 have NF:=y.den_pos
 have HB:=bx (And.intro hj hk)
 have fD:j<=1000000000:=by omega
 have nk:k<=1000000000:=by omega
 clear hj hk
 go_enter Tryz.func79,Tryz.ntmps79
 go_wp2_with fail
 obtain⟨w1,e1,o1,b1,s1⟩:=iY w (.bool (decide (x.num<0))) (.slice ij (ak b64 x.num.natAbs).length iq) (.slice ik (ak b64 (aK x.den)).length ir) 47
 obtain⟨w2,e2,o2,b2,s2⟩:=iY w1 (.bool (decide (y.num<0))) (.slice kY (ak b64 y.num.natAbs).length lu) (.slice kZ (ak b64 (aK y.den)).length lA) 47
 obtain⟨w3,e3,o3,b3,s3⟩:=iY w2 (.bool false) (.slice none 0 0) (.slice none 0 0) 47
 rw[e1,e2,e3]
 rw[s1]at o2
 rw[s2,s1]at o3
 have p1:=((o1.gone b2).gone b3)
 have p2:=(o2.gone b3)
 have p3:=o3
 have B0:=((b1.trans (b2.mono b1.size)).trans (b3.mono (b1.trans (b2.mono b1.size)).size))
 have hS:∀w',aV w (w.heap.size+2) 47 [(w.heap.size,.bool (decide (x.num<0)),.slice ij (ak b64 x.num.natAbs).length iq,.slice ik (ak b64 (aK x.den)).length ir),(w.heap.size+1,.bool (decide (y.num<0)),.slice kY (ak b64 y.num.natAbs).length lu,.slice kZ (ak b64 (aK y.den)).length lA)] w'->aV w (w.heap.size+2) 47 [(w.heap.size,.bool (decide (x.num<0)),.slice ij (ak b64 x.num.natAbs).length iq,.slice ik (ak b64 (aK x.den)).length ir),(w.heap.size+1,.bool (decide (y.num<0)),.slice kY (ak b64 y.num.natAbs).length lu,.slice kZ (ak b64 (aK y.den)).length lA)] w'/\w'.cell? ⟨w.heap.size,0,none⟩=some (.bool (decide (x.num<0)))/\w'.cell? ⟨w.heap.size,1,none⟩=some (.slice ij (ak b64 x.num.natAbs).length iq)/\w'.cell? ⟨w.heap.size,2,none⟩=some (.slice ik (ak b64 (aK x.den)).length ir)/\w'.cell? ⟨w.heap.size+1,0,none⟩=some (.bool (decide (y.num<0)))/\w'.cell? ⟨w.heap.size+1,1,none⟩=some (.slice kY (ak b64 y.num.natAbs).length lu)/\w'.cell? ⟨w.heap.size+1,2,none⟩=some (.slice kZ (ak b64 (aK y.den)).length lA)/\w'.cell? ⟨w.heap.size+2,0,none⟩=some (cv w' ⟨w.heap.size+2,0,none⟩)/\w'.cell? ⟨w.heap.size+2,1,none⟩=some (cv w' ⟨w.heap.size+2,1,none⟩)/\w'.cell? ⟨w.heap.size+2,2,none⟩=some (cv w' ⟨w.heap.size+2,2,none⟩)/\w'.frozen? ⟨w.heap.size+2,0,none⟩=false/\w'.frozen? ⟨w.heap.size+2,1,none⟩=false/\w'.frozen? ⟨w.heap.size+2,2,none⟩=false:=λw' hh=>by
  obtain⟨f0,f1,f2,f3,f4,f5⟩:=hh.cells
  have q1:=(hh.2.2.1 (w.heap.size,.bool (decide (x.num<0)),.slice ij (ak b64 x.num.natAbs).length iq,.slice ik (ak b64 (aK x.den)).length ir) (by simp)).2
  have q2:=(hh.2.2.1 (w.heap.size+1,.bool (decide (y.num<0)),.slice kY (ak b64 y.num.natAbs).length lu,.slice kZ (ak b64 (aK y.den)).length lA) (by simp)).2
  exact⟨hh,q1.c0,q1.c1,q1.c2,q2.c0,q2.c1,q2.c2,f0,f1,f2,f3,f4,f5⟩
 have H0:aV w (w.heap.size+2) 47 [(w.heap.size,.bool (decide (x.num<0)),.slice ij (ak b64 x.num.natAbs).length iq,.slice ik (ak b64 (aK x.den)).length ir),(w.heap.size+1,.bool (decide (y.num<0)),.slice kY (ak b64 y.num.natAbs).length lu,.slice kZ (ak b64 (aK y.den)).length lA)] w3:=⟨B0,by omega,by intro p hp; simp at hp; rcases hp with rfl|rfl; exact⟨by simp,p1⟩; exact⟨by simp,p2⟩,_,_,_,p3,dR _,bt _ _ _,bt _ _ _⟩
 clear e1 e2 e3
 have hz:=H0.drew
 go_region_held3 (λw'=>aV w (w.heap.size+2) 47 [(w.heap.size,.bool (decide (x.num<0)),.slice ij (ak b64 x.num.natAbs).length iq,.slice ik (ak b64 (aK x.den)).length ir),(w.heap.size+1,.bool (decide (y.num<0)),.slice kY (ak b64 y.num.natAbs).length lu,.slice kZ (ak b64 (aK y.den)).length lA)] w'/\w'.cell? ⟨w.heap.size,0,none⟩=some (.bool (decide (x.num<0)))/\w'.cell? ⟨w.heap.size,1,none⟩=some (.slice ij (ak b64 x.num.natAbs).length iq)/\w'.cell? ⟨w.heap.size,2,none⟩=some (.slice ik (ak b64 (aK x.den)).length ir)/\w'.cell? ⟨w.heap.size+1,0,none⟩=some (.bool (decide (y.num<0)))/\w'.cell? ⟨w.heap.size+1,1,none⟩=some (.slice kY (ak b64 y.num.natAbs).length lu)/\w'.cell? ⟨w.heap.size+1,2,none⟩=some (.slice kZ (ak b64 (aK y.den)).length lA)/\w'.cell? ⟨w.heap.size+2,0,none⟩=some (cv w' ⟨w.heap.size+2,0,none⟩)/\w'.cell? ⟨w.heap.size+2,1,none⟩=some (cv w' ⟨w.heap.size+2,1,none⟩)/\w'.cell? ⟨w.heap.size+2,2,none⟩=some (cv w' ⟨w.heap.size+2,2,none⟩)/\w'.frozen? ⟨w.heap.size+2,0,none⟩=false/\w'.frozen? ⟨w.heap.size+2,1,none⟩=false/\w'.frozen? ⟨w.heap.size+2,2,none⟩=false)
  (first|exact hS _ hz|exact hS _ (aV.sets (by assumption) _ _ _ _ _ _ _))
  (first
   |(go_at_call 51; have hc:=iJ _ _ x.den (nr.below hz.1) Ma; (with_reducible refine Calls.mono hc ?_); clear hc; rintro e wz ⟨T5,rfl,qN,hb⟩; (try have qN:=qN.below hb); (try have qO:=qO.below hb); (try have qK:=qK.below hb); (try have qL:=qL.below hb); (try have um:=um.below hb); (try have hs1:=hs1.below hb); have hz:=aV.call (by assumption) hb)
   |(go_at_call 51; have hc:=iJ _ _ y.den (yy.below hz.1) NF; (with_reducible refine Calls.mono hc ?_); clear hc; rintro e wz ⟨T6,rfl,qO,hb⟩; (try have qN:=qN.below hb); (try have qO:=qO.below hb); (try have qK:=qK.below hb); (try have qL:=qL.below hb); (try have um:=um.below hb); (try have hs1:=hs1.below hb); have hz:=aV.call (by assumption) hb)
   |(go_at_call 52; have hc:=iH _ _ _ _ _ (qP.below hz.1) qO HB.out.1.1 HB.out.2.2 fD nk; (with_reducible refine Calls.mono hc ?_); clear hc; rintro e wz ⟨T3,rfl,qK,hb⟩; (try have qN:=qN.below hb); (try have qO:=qO.below hb); (try have qK:=qK.below hb); (try have qL:=qL.below hb); (try have um:=um.below hb); (try have hs1:=hs1.below hb); have hz:=aV.call (by assumption) hb)
   |(go_at_call 52; have hc:=iH _ _ _ _ _ qN (FX.below hz.1) HB.out.1.2 HB.out.2.1 fD nk; (with_reducible refine Calls.mono hc ?_); clear hc; rintro e wz ⟨T4,rfl,qL,hb⟩; (try have qN:=qN.below hb); (try have qO:=qO.below hb); (try have qK:=qK.below hb); (try have qL:=qL.below hb); (try have um:=um.below hb); (try have hs1:=hs1.below hb); have hz:=aV.call (by assumption) hb)
   |(go_at_call 53; have hc:=jW _ (!(decide (x.num<0)==decide (y.num<0))) _ _ (x.num.natAbs*y.den) (x.den*y.num.natAbs) qK qL (Nat.mul_pos Ma (by have:=HY.out; omega)) (HB.out.1.1.mul HB.out.2.2) (HB.out.1.2.mul HB.out.2.1) HE; (with_reducible refine Calls.mono hc ?_); clear hc; rintro e wz ⟨vr,rfl,FQ,hb⟩; replace FQ:=wj FQ (zQ x y HY.out); obtain⟨RY,RX,rfl,Cs,hrd⟩:=FQ; obtain⟨Qy,Q3,rfl,_⟩:=id Cs; obtain⟨Qz,Q4,rfl,_⟩:=id hrd; (try have qN:=qN.below hb); (try have qO:=qO.below hb); (try have qK:=qK.below hb); (try have qL:=qL.below hb); (try have um:=um.below hb); (try have hs1:=hs1.below hb); have hz:=aV.call (by assumption) hb))
 all_goals (
  go_wp2
  obtain⟨wf,HW,f0,f1,f2,dD⟩:=hz.fin rfl Cs hrd
  (try rw[HW])
  (try simp only[Exit.inBlock,Exit.then])
  refine bodyPost_ret (by simp[results,Tryz.results79,go_sem,f0,f1,f2]; try rfl) rfl ?_
  first|exact dD|exact dD.drew)
end Wx

namespace Wx
open Go Go.RowKit Go.Proofs
def B9 (x:Rat):Int:=if x.num<0 then -1 else if x=0 then 0 else 1
theorem Er (w:World) (vx:Value) (x:Rat) (hx:cM w vx x):Calls Tryz.prog 26 #[vx] w (fW w (.int .i64 (B9 x))):=by
 obtain⟨IW,IX,rfl,qP,nr⟩:=id hx
 obtain⟨ij,iq,rfl,_⟩:=id qP
 obtain⟨ik,ir,rfl,_⟩:=id nr
 have hS:B9 x=if x.num<0 then -1 else if x=0 then 0 else 1:=rfl
 generalize B9 x=z at *
 by_cases h1:x.num<0
 ·rw[if_pos h1]at hS
  subst hS
  rw[decide_eq_true h1]at *
  go_enter Tryz.func26,Tryz.ntmps26
  go_wp2
  go_ret
  exact⟨rfl,Below.alloc (Below.refl _ _) (Nat.le_refl _) _⟩
 ·rw[if_neg h1]at hS
  rw[decide_eq_false h1]at *
  by_cases h2:x=0
  ·rw[if_pos h2]at hS
   subst hS
   have HD:=bx (decide_eq_true h2)
   clear h2
   go_enter Tryz.func26,Tryz.ntmps26
   go_wp2_with fail
   obtain⟨w1,e1,o1,b1,s1⟩:=iY w (.bool false) (.slice ij (ak b64 x.num.natAbs).length iq) (.slice ik (ak b64 (aK x.den)).length ir) 47
   rw[e1]
   have hc:=zero_num w1 _ x (hx.below b1)
   rw[HD.out]at hc
   refine hc.mono ?_
   rintro e w2 ⟨rfl,hb⟩
   go_wp2
   go_ret
   exact⟨rfl,b1.trans (hb.mono b1.size)⟩
  ·rw[if_neg h2]at hS
   subst hS
   have HD:=bx (decide_eq_false h2)
   clear h2
   go_enter Tryz.func26,Tryz.ntmps26
   go_wp2_with fail
   obtain⟨w1,e1,o1,b1,s1⟩:=iY w (.bool false) (.slice ij (ak b64 x.num.natAbs).length iq) (.slice ik (ak b64 (aK x.den)).length ir) 47
   rw[e1]
   have hc:=zero_num w1 _ x (hx.below b1)
   rw[HD.out]at hc
   refine hc.mono ?_
   rintro e w2 ⟨rfl,hb⟩
   go_wp2
   go_ret
   exact⟨rfl,b1.trans (hb.mono b1.size)⟩
end Wx

namespace Wx
open Go Go.RowKit Go.Proofs
end Wx

namespace Wx
open Go Go.RowKit Go.Proofs
theorem Es (w:World) (z:Int) (h1:-9223372036854775808<=z) (h2:z<=9223372036854775807):Calls Tryz.prog 31 #[.int .i64 z] w (gQ .u64 b64 w z.natAbs):=by
 have KC:Bx (z.natAbs<b64):=bx (by unfold b64; omega)
 by_cases hz:z<0
 ·have e1:IntKind.u64.wrap (-IntKind.u64.wrap z)=((z.natAbs:Nat):Int):=by
   simp[IntKind.wrap,IntKind.bits,IntKind.signed]; omega
  have E1:=bx e1
  clear e1
  go_enter Tryz.func31,Tryz.ntmps31
  go_wp2_with fail
  rw[E1.out]
  refine(kr w _ KC.out).mono ?_
  rintro e w3 ⟨vr,rfl,hr3,hb3⟩
  go_wp2
  go_ret
  exact⟨_,rfl,hr3,hb3⟩
 ·have e1:z=((z.natAbs:Nat):Int):=by omega
  have E1:=bx e1
  clear e1
  go_enter Tryz.func31,Tryz.ntmps31
  go_wp2_with fail
  have hc:=kr w _ KC.out
  rw[<-E1.out]at hc
  refine hc.mono ?_
  rintro e w3 ⟨vr,rfl,hr3,hb3⟩
  go_wp2
  go_ret
  exact⟨_,rfl,hr3,hb3⟩
theorem FZ (w:World) (z:Int) (h1:-9223372036854775808<=z) (h2:z<=9223372036854775807):Calls Tryz.prog 16 #[.int .i64 z] w (jy w (z:Rat)):=by
 have H:=bx (And.intro h1 h2)
 clear h1 h2
 go_enter Tryz.func16,Tryz.ntmps16
 go_wp2_with fail
 obtain⟨w1,e1,o1,b1,s1⟩:=iY w (.bool false) (.slice none 0 0) (.slice none 0 0) 47
 rw[e1]
 refine(Es w1 z H.out.1 H.out.2).mono ?_
 rintro e w2 ⟨v,rfl,hv,hb⟩
 obtain⟨A1,c1,rfl,_⟩:=id hv
 have hz:aV w w.heap.size 47 [] w2:=⟨b1.trans (hb.mono b1.size),Nat.le_refl _,by simp,_,_,_,o1.gone hb,dR _,bt _ _ _,bt _ _ _⟩
 obtain⟨k0,k1,k2,k3,k4,k5⟩:=hz.cells
 clear e1
 go_wp2
 obtain⟨wf,HW,f0,f1,f2,dD⟩:=hz.fin (q:=(z:Rat)) (A2:=none) (l2:=0) (c2:=0) rfl (by rw[Rat.num_intCast]; exact hv) (by rw[Rat.den_intCast]; exact cz.zero _ _ _)
 rw[Rat.num_intCast]at HW f0 dD
 rw[HW]
 (try simp only[Exit.inBlock,Exit.then])
 refine bodyPost_ret (by simp[results,Tryz.results16,go_sem,f0,f1,f2]; try rfl) rfl ?_
 exact dD
def pW (w:World) (q:Rat) (err:Int) (e:Ending) (w':World):Prop:=∃v,e=.returned (.tuple #[v,.int .i64 err])/\cM w' v q/\Below w.heap.size w w'
theorem pW.of {w:World} {q:Rat} {v:Value} {w':World} (h:jy w q (.returned v) w') (err:Int):pW w q err (.returned (.tuple #[v,.int .i64 err])) w':=by
 obtain⟨v',e,h1,h2⟩:=h
 injection e with e
 subst e
 exact⟨_,rfl,h1,h2⟩
end Wx

namespace Wx
open Go Go.RowKit Go.Proofs
set_option maxHeartbeats 2000000 in
theorem div_zero (w:World) (vx vy:Value) (x y:Rat) (hx:cM w vx x) (hy:cM w vy y) (hy0:y=0):Calls Tryz.prog 57 #[vx,vy] w (pW w (0) 3):=by
 obtain⟨IW,IX,rfl,qP,nr⟩:=id hx
 obtain⟨ij,iq,rfl,_⟩:=id qP
 obtain⟨ik,ir,rfl,_⟩:=id nr
 obtain⟨Qs,Qt,rfl,FX,yy⟩:=id hy
 obtain⟨kY,lu,rfl,_⟩:=id FX
 obtain⟨kZ,lA,rfl,_⟩:=id yy
 have HY:=bx hy0
 clear hy0
 go_enter Tryz.func57,Tryz.ntmps57
 go_wp2_with fail
 obtain⟨w1,e1,o1,b1,s1⟩:=iY w (.bool (decide (x.num<0))) (.slice ij (ak b64 x.num.natAbs).length iq) (.slice ik (ak b64 (aK x.den)).length ir) 47
 obtain⟨w2,e2,o2,b2,s2⟩:=iY w1 (.bool (decide (y.num<0))) (.slice kY (ak b64 y.num.natAbs).length lu) (.slice kZ (ak b64 (aK y.den)).length lA) 47
 obtain⟨w3,e3,o3,b3,s3⟩:=iY w2 (.bool false) (.slice none 0 0) (.slice none 0 0) 47
 rw[e1,e2,e3]
 rw[s1]at o2
 rw[s2,s1]at o3
 have p1:=((o1.gone b2).gone b3)
 have p2:=(o2.gone b3)
 have p3:=o3
 have B0:=((b1.trans (b2.mono b1.size)).trans (b3.mono (b1.trans (b2.mono b1.size)).size))
 have hS:∀w',aV w (w.heap.size+2) 47 [(w.heap.size,.bool (decide (x.num<0)),.slice ij (ak b64 x.num.natAbs).length iq,.slice ik (ak b64 (aK x.den)).length ir),(w.heap.size+1,.bool (decide (y.num<0)),.slice kY (ak b64 y.num.natAbs).length lu,.slice kZ (ak b64 (aK y.den)).length lA)] w'->aV w (w.heap.size+2) 47 [(w.heap.size,.bool (decide (x.num<0)),.slice ij (ak b64 x.num.natAbs).length iq,.slice ik (ak b64 (aK x.den)).length ir),(w.heap.size+1,.bool (decide (y.num<0)),.slice kY (ak b64 y.num.natAbs).length lu,.slice kZ (ak b64 (aK y.den)).length lA)] w'/\w'.cell? ⟨w.heap.size,0,none⟩=some (.bool (decide (x.num<0)))/\w'.cell? ⟨w.heap.size,1,none⟩=some (.slice ij (ak b64 x.num.natAbs).length iq)/\w'.cell? ⟨w.heap.size,2,none⟩=some (.slice ik (ak b64 (aK x.den)).length ir)/\w'.cell? ⟨w.heap.size+1,0,none⟩=some (.bool (decide (y.num<0)))/\w'.cell? ⟨w.heap.size+1,1,none⟩=some (.slice kY (ak b64 y.num.natAbs).length lu)/\w'.cell? ⟨w.heap.size+1,2,none⟩=some (.slice kZ (ak b64 (aK y.den)).length lA)/\w'.cell? ⟨w.heap.size+2,0,none⟩=some (cv w' ⟨w.heap.size+2,0,none⟩)/\w'.cell? ⟨w.heap.size+2,1,none⟩=some (cv w' ⟨w.heap.size+2,1,none⟩)/\w'.cell? ⟨w.heap.size+2,2,none⟩=some (cv w' ⟨w.heap.size+2,2,none⟩)/\w'.frozen? ⟨w.heap.size+2,0,none⟩=false/\w'.frozen? ⟨w.heap.size+2,1,none⟩=false/\w'.frozen? ⟨w.heap.size+2,2,none⟩=false:=λw' hh=>by
  obtain⟨f0,f1,f2,f3,f4,f5⟩:=hh.cells
  have q1:=(hh.2.2.1 (w.heap.size,.bool (decide (x.num<0)),.slice ij (ak b64 x.num.natAbs).length iq,.slice ik (ak b64 (aK x.den)).length ir) (by simp)).2
  have q2:=(hh.2.2.1 (w.heap.size+1,.bool (decide (y.num<0)),.slice kY (ak b64 y.num.natAbs).length lu,.slice kZ (ak b64 (aK y.den)).length lA) (by simp)).2
  exact⟨hh,q1.c0,q1.c1,q1.c2,q2.c0,q2.c1,q2.c2,f0,f1,f2,f3,f4,f5⟩
 have H0:aV w (w.heap.size+2) 47 [(w.heap.size,.bool (decide (x.num<0)),.slice ij (ak b64 x.num.natAbs).length iq,.slice ik (ak b64 (aK x.den)).length ir),(w.heap.size+1,.bool (decide (y.num<0)),.slice kY (ak b64 y.num.natAbs).length lu,.slice kZ (ak b64 (aK y.den)).length lA)] w3:=⟨B0,by omega,by intro p hp; simp at hp; rcases hp with rfl|rfl; exact⟨by simp,p1⟩; exact⟨by simp,p2⟩,_,_,_,p3,dR _,bt _ _ _,bt _ _ _⟩
 clear e1 e2 e3
 have hz:=H0
 obtain⟨_,k0,k1,k2,k3,k4,k5,_⟩:=hS _ hz
 have hc:=zero_num _ _ y (hy.below hz.1)
 rw[decide_eq_true HY.out]at hc
 refine hc.mono ?_
 clear hc
 rintro e wz ⟨rfl,hb⟩
 have hz:=aV.call (And.intro hz trivial) hb
 clear k0 k1 k2 k3 k4 k5
 obtain⟨_,k0,k1,k2,k3,k4,k5,k6,k7,k8,k9,TJ,TK⟩:=hS _ hz
 go_wp2
 obtain⟨wf,HW,f0,f1,f2,dD⟩:=hz.fin (q:=0) (A1:=none) (l1:=0) (c1:=0) (A2:=none) (l2:=0) (c2:=0) (show _=false from rfl) (cz.zero _ _ _) (cz.zero _ _ _)
 rw[HW]
 (try simp only[Exit.inBlock,Exit.then])
 refine bodyPost_ret (by simp[results,Tryz.results57,go_sem,f0,f1,f2]; try rfl) rfl ?_
 exact pW.of dD 3
set_option maxHeartbeats 2000000 in
theorem Jl (w:World) (vx vy:Value) (x y:Rat) (hx:cM w vx x) (hy:cM w vy y) {j k:Nat} (hj:fo j x) (hk:fo k y) (HE:j+k<=100000000) (hy0:y≠0):Calls Tryz.prog 57 #[vx,vy] w (pW w (x/y) 0):=by
 obtain⟨IW,IX,rfl,qP,nr⟩:=id hx
 obtain⟨ij,iq,rfl,_⟩:=id qP
 obtain⟨ik,ir,rfl,_⟩:=id nr
 obtain⟨Qs,Qt,rfl,FX,yy⟩:=id hy
 obtain⟨kY,lu,rfl,_⟩:=id FX
 obtain⟨kZ,lA,rfl,_⟩:=id yy
 have HY:=bx hy0
 clear hy0
 go_enter Tryz.func57,Tryz.ntmps57
 go_wp2_with fail
 obtain⟨w1,e1,o1,b1,s1⟩:=iY w (.bool (decide (x.num<0))) (.slice ij (ak b64 x.num.natAbs).length iq) (.slice ik (ak b64 (aK x.den)).length ir) 47
 obtain⟨w2,e2,o2,b2,s2⟩:=iY w1 (.bool (decide (y.num<0))) (.slice kY (ak b64 y.num.natAbs).length lu) (.slice kZ (ak b64 (aK y.den)).length lA) 47
 obtain⟨w3,e3,o3,b3,s3⟩:=iY w2 (.bool false) (.slice none 0 0) (.slice none 0 0) 47
 rw[e1,e2,e3]
 rw[s1]at o2
 rw[s2,s1]at o3
 have p1:=((o1.gone b2).gone b3)
 have p2:=(o2.gone b3)
 have p3:=o3
 have B0:=((b1.trans (b2.mono b1.size)).trans (b3.mono (b1.trans (b2.mono b1.size)).size))
 have hS:∀w',aV w (w.heap.size+2) 47 [(w.heap.size,.bool (decide (x.num<0)),.slice ij (ak b64 x.num.natAbs).length iq,.slice ik (ak b64 (aK x.den)).length ir),(w.heap.size+1,.bool (decide (y.num<0)),.slice kY (ak b64 y.num.natAbs).length lu,.slice kZ (ak b64 (aK y.den)).length lA)] w'->aV w (w.heap.size+2) 47 [(w.heap.size,.bool (decide (x.num<0)),.slice ij (ak b64 x.num.natAbs).length iq,.slice ik (ak b64 (aK x.den)).length ir),(w.heap.size+1,.bool (decide (y.num<0)),.slice kY (ak b64 y.num.natAbs).length lu,.slice kZ (ak b64 (aK y.den)).length lA)] w'/\w'.cell? ⟨w.heap.size,0,none⟩=some (.bool (decide (x.num<0)))/\w'.cell? ⟨w.heap.size,1,none⟩=some (.slice ij (ak b64 x.num.natAbs).length iq)/\w'.cell? ⟨w.heap.size,2,none⟩=some (.slice ik (ak b64 (aK x.den)).length ir)/\w'.cell? ⟨w.heap.size+1,0,none⟩=some (.bool (decide (y.num<0)))/\w'.cell? ⟨w.heap.size+1,1,none⟩=some (.slice kY (ak b64 y.num.natAbs).length lu)/\w'.cell? ⟨w.heap.size+1,2,none⟩=some (.slice kZ (ak b64 (aK y.den)).length lA)/\w'.cell? ⟨w.heap.size+2,0,none⟩=some (cv w' ⟨w.heap.size+2,0,none⟩)/\w'.cell? ⟨w.heap.size+2,1,none⟩=some (cv w' ⟨w.heap.size+2,1,none⟩)/\w'.cell? ⟨w.heap.size+2,2,none⟩=some (cv w' ⟨w.heap.size+2,2,none⟩)/\w'.frozen? ⟨w.heap.size+2,0,none⟩=false/\w'.frozen? ⟨w.heap.size+2,1,none⟩=false/\w'.frozen? ⟨w.heap.size+2,2,none⟩=false:=λw' hh=>by
  obtain⟨f0,f1,f2,f3,f4,f5⟩:=hh.cells
  have q1:=(hh.2.2.1 (w.heap.size,.bool (decide (x.num<0)),.slice ij (ak b64 x.num.natAbs).length iq,.slice ik (ak b64 (aK x.den)).length ir) (by simp)).2
  have q2:=(hh.2.2.1 (w.heap.size+1,.bool (decide (y.num<0)),.slice kY (ak b64 y.num.natAbs).length lu,.slice kZ (ak b64 (aK y.den)).length lA) (by simp)).2
  exact⟨hh,q1.c0,q1.c1,q1.c2,q2.c0,q2.c1,q2.c2,f0,f1,f2,f3,f4,f5⟩
 have H0:aV w (w.heap.size+2) 47 [(w.heap.size,.bool (decide (x.num<0)),.slice ij (ak b64 x.num.natAbs).length iq,.slice ik (ak b64 (aK x.den)).length ir),(w.heap.size+1,.bool (decide (y.num<0)),.slice kY (ak b64 y.num.natAbs).length lu,.slice kZ (ak b64 (aK y.den)).length lA)] w3:=⟨B0,by omega,by intro p hp; simp at hp; rcases hp with rfl|rfl; exact⟨by simp,p1⟩; exact⟨by simp,p2⟩,_,_,_,p3,dR _,bt _ _ _,bt _ _ _⟩
 clear e1 e2 e3
 have hz:=H0
 obtain⟨_,k0,k1,k2,k3,k4,k5,_⟩:=hS _ hz
 have hc:=zero_num _ _ y (hy.below hz.1)
 rw[decide_eq_false HY.out]at hc
 refine hc.mono ?_
 clear hc
 rintro e wz ⟨rfl,hb⟩
 have hz:=aV.call (And.intro hz trivial) hb
 clear k0 k1 k2 k3 k4 k5
 obtain⟨_,k0,k1,k2,k3,k4,k5,_⟩:=hS _ hz
 go_wp2_with fail
 refine(Jc _ _ _ x y (hx.below hz.1) (hy.below hz.1) (mt Rat.num_eq_zero.1 HY.out) hj hk HE).mono ?_
 rintro e wy ⟨vr,rfl,FQ,hb⟩
 obtain⟨RY,RX,rfl,Cs,hrd⟩:=FQ
 obtain⟨Qy,Q3,rfl,_⟩:=id Cs
 obtain⟨Qz,Q4,rfl,_⟩:=id hrd
 have hz:=aV.call (And.intro hz trivial) hb
 clear k0 k1 k2 k3 k4 k5
 obtain⟨_,k0,k1,k2,k3,k4,k5,k6,k7,k8,k9,TJ,TK⟩:=hS _ hz
 go_wp2
 obtain⟨wf,HW,f0,f1,f2,dD⟩:=hz.fin rfl Cs hrd
 rw[HW]
 (try simp only[Exit.inBlock,Exit.then])
 refine bodyPost_ret (by simp[results,Tryz.results57,go_sem,f0,f1,f2]; try rfl) rfl ?_
 exact pW.of dD 0
end Wx
