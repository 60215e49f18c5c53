import Derived.Test.YtocboimkilkklaaGreatJRF22
namespace Wx
set_option maxRecDepth 100000
open Go Go.RowKit Go.Proofs
variable {w:World} {v:Value}
theorem AI {p q:Rat} (h:cq w v p) (e:q=p):cq w v q:=e▸h
set_option maxHeartbeats 8000000 in
theorem LK (w:World) (vx vy:Value) (x y:Rat) (hx:cq w vx x) (hy:cq w vy y) {j k:Nat} (hj:bg j x) (hk:bg k y) (kP:j+k<=100000000):Calls Tryz.prog 33 #[vx,vy] w (fD w (x*y)):=by
 obtain⟨oz,oA,rfl,cw,cT⟩:=id hx
 obtain⟨aV,aX,rfl,_⟩:=id cw
 obtain⟨aW,aY,rfl,_⟩:=id cT
 obtain⟨Kj,Kk,rfl,iS,iJ⟩:=id hy
 obtain⟨dL,dN,rfl,_⟩:=id iS
 obtain⟨dM,dO,rfl,_⟩:=id iJ
 have rh:=x.den_pos
 have KB:=y.den_pos
 have HB:=bx (And.intro hj hk)
 have de:j<=1000000000:=by omega
 have jE:k<=1000000000:=by omega
 clear hj hk
 go_enter Tryz.func33,Tryz.ntmps33
 go_wp2_with fail
 obtain⟨w1,e1,o1,b1,s1⟩:=fh w (.bool (decide (x.num<0))) (.slice aV (ae b64 x.num.natAbs).length aX) (.slice aW (ae b64 (ah x.den)).length aY) 32
 obtain⟨w2,e2,o2,b2,s2⟩:=fh w1 (.bool (decide (y.num<0))) (.slice dL (ae b64 y.num.natAbs).length dN) (.slice dM (ae b64 (ah y.den)).length dO) 32
 obtain⟨w3,e3,o3,b3,s3⟩:=fh w2 (.bool false) (.slice none 0 0) (.slice none 0 0) 32
 rw[e1,e2,e3]
 rw[s1]at o2
 rw[s2,s1]at o3
 have p1:=((o1.gone b2).gone b3)
 have p2:=(o2.gone b3)
 have p3:=o3
 have B0:=((b1.trans (b2.mono b1.size)).trans (b3.mono (b1.trans (b2.mono b1.size)).size))
 have hS:∀w',aD w (w.heap.size+2) 32 [(w.heap.size,.bool (decide (x.num<0)),.slice aV (ae b64 x.num.natAbs).length aX,.slice aW (ae b64 (ah x.den)).length aY),(w.heap.size+1,.bool (decide (y.num<0)),.slice dL (ae b64 y.num.natAbs).length dN,.slice dM (ae b64 (ah y.den)).length dO)] w'->aD w (w.heap.size+2) 32 [(w.heap.size,.bool (decide (x.num<0)),.slice aV (ae b64 x.num.natAbs).length aX,.slice aW (ae b64 (ah x.den)).length aY),(w.heap.size+1,.bool (decide (y.num<0)),.slice dL (ae b64 y.num.natAbs).length dN,.slice dM (ae b64 (ah y.den)).length dO)] w'/\w'.cell? ⟨w.heap.size,0,none⟩=some (.bool (decide (x.num<0)))/\w'.cell? ⟨w.heap.size,1,none⟩=some (.slice aV (ae b64 x.num.natAbs).length aX)/\w'.cell? ⟨w.heap.size,2,none⟩=some (.slice aW (ae b64 (ah x.den)).length aY)/\w'.cell? ⟨w.heap.size+1,0,none⟩=some (.bool (decide (y.num<0)))/\w'.cell? ⟨w.heap.size+1,1,none⟩=some (.slice dL (ae b64 y.num.natAbs).length dN)/\w'.cell? ⟨w.heap.size+1,2,none⟩=some (.slice dM (ae b64 (ah y.den)).length dO)/\w'.cell? ⟨w.heap.size+2,0,none⟩=some (cv w' ⟨w.heap.size+2,0,none⟩)/\w'.cell? ⟨w.heap.size+2,1,none⟩=some (cv w' ⟨w.heap.size+2,1,none⟩)/\w'.cell? ⟨w.heap.size+2,2,none⟩=some (cv w' ⟨w.heap.size+2,2,none⟩)/\w'.frozen? ⟨w.heap.size+2,0,none⟩=false/\w'.frozen? ⟨w.heap.size+2,1,none⟩=false/\w'.frozen? ⟨w.heap.size+2,2,none⟩=false:=λw' hh=>by
  obtain⟨f0,f1,f2,f3,f4,f5⟩:=hh.cells
  have q1:=(hh.2.2.1 (w.heap.size,.bool (decide (x.num<0)),.slice aV (ae b64 x.num.natAbs).length aX,.slice aW (ae b64 (ah x.den)).length aY) (by simp)).2
  have q2:=(hh.2.2.1 (w.heap.size+1,.bool (decide (y.num<0)),.slice dL (ae b64 y.num.natAbs).length dN,.slice dM (ae b64 (ah y.den)).length dO) (by simp)).2
  exact⟨hh,q1.c0,q1.c1,q1.c2,q2.c0,q2.c1,q2.c2,f0,f1,f2,f3,f4,f5⟩
 have H0:aD w (w.heap.size+2) 32 [(w.heap.size,.bool (decide (x.num<0)),.slice aV (ae b64 x.num.natAbs).length aX,.slice aW (ae b64 (ah x.den)).length aY),(w.heap.size+1,.bool (decide (y.num<0)),.slice dL (ae b64 y.num.natAbs).length dN,.slice dM (ae b64 (ah y.den)).length dO)] w3:=⟨B0,by omega,by intro p hp; simp at hp; rcases hp with rfl|rfl; exact⟨by simp,p1⟩; exact⟨by simp,p2⟩,_,_,_,p3,cj _,aG _ _ _,aG _ _ _⟩
 clear e1 e2 e3
 have hz:=H0.drew
 go_region_held3 (λw'=>aD w (w.heap.size+2) 32 [(w.heap.size,.bool (decide (x.num<0)),.slice aV (ae b64 x.num.natAbs).length aX,.slice aW (ae b64 (ah x.den)).length aY),(w.heap.size+1,.bool (decide (y.num<0)),.slice dL (ae b64 y.num.natAbs).length dN,.slice dM (ae b64 (ah y.den)).length dO)] w'/\w'.cell? ⟨w.heap.size,0,none⟩=some (.bool (decide (x.num<0)))/\w'.cell? ⟨w.heap.size,1,none⟩=some (.slice aV (ae b64 x.num.natAbs).length aX)/\w'.cell? ⟨w.heap.size,2,none⟩=some (.slice aW (ae b64 (ah x.den)).length aY)/\w'.cell? ⟨w.heap.size+1,0,none⟩=some (.bool (decide (y.num<0)))/\w'.cell? ⟨w.heap.size+1,1,none⟩=some (.slice dL (ae b64 y.num.natAbs).length dN)/\w'.cell? ⟨w.heap.size+1,2,none⟩=some (.slice dM (ae b64 (ah y.den)).length dO)/\w'.cell? ⟨w.heap.size+2,0,none⟩=some (cv w' ⟨w.heap.size+2,0,none⟩)/\w'.cell? ⟨w.heap.size+2,1,none⟩=some (cv w' ⟨w.heap.size+2,1,none⟩)/\w'.cell? ⟨w.heap.size+2,2,none⟩=some (cv w' ⟨w.heap.size+2,2,none⟩)/\w'.frozen? ⟨w.heap.size+2,0,none⟩=false/\w'.frozen? ⟨w.heap.size+2,1,none⟩=false/\w'.frozen? ⟨w.heap.size+2,2,none⟩=false)
  (first|exact hS _ hz|exact hS _ (aD.sets (by assumption) _ _ _ _ _ _ _))
  (first
   |(go_at_call 70; have hc:=fC _ _ x.den (cT.below hz.1) rh; (with_reducible refine Calls.mono hc ?_); clear hc; rintro e wz ⟨PR,rfl,bV,hb⟩; (try have bV:=bV.below hb); (try have fK:=fK.below hb); (try have fJ:=fJ.below hb); (try have fI:=fI.below hb); (try have qa:=qa.below hb); (try have hs1:=hs1.below hb); have hz:=aD.call (by assumption) hb)
   |(go_at_call 70; have hc:=fC _ _ y.den (iJ.below hz.1) KB; (with_reducible refine Calls.mono hc ?_); clear hc; rintro e wz ⟨Tf,rfl,fK,hb⟩; (try have bV:=bV.below hb); (try have fK:=fK.below hb); (try have fJ:=fJ.below hb); (try have fI:=fI.below hb); (try have qa:=qa.below hb); (try have hs1:=hs1.below hb); have hz:=aD.call (by assumption) hb)
   |(go_at_call 71; have hc:=ia _ _ _ _ _ (cw.below hz.1) (iS.below hz.1) HB.out.1.1 HB.out.2.1 de jE; (with_reducible refine Calls.mono hc ?_); clear hc; rintro e wz ⟨Td,rfl,fJ,hb⟩; (try have bV:=bV.below hb); (try have fK:=fK.below hb); (try have fJ:=fJ.below hb); (try have fI:=fI.below hb); (try have qa:=qa.below hb); (try have hs1:=hs1.below hb); have hz:=aD.call (by assumption) hb)
   |(go_at_call 71; have hc:=ia _ _ _ _ _ bV fK HB.out.1.2 HB.out.2.2 de jE; (with_reducible refine Calls.mono hc ?_); clear hc; rintro e wz ⟨Te,rfl,fI,hb⟩; (try have bV:=bV.below hb); (try have fK:=fK.below hb); (try have fJ:=fJ.below hb); (try have fI:=fI.below hb); (try have qa:=qa.below hb); (try have hs1:=hs1.below hb); have hz:=aD.call (by assumption) hb)
   |(go_at_call 67; have hc:=fO _ (!(decide (x.num<0)==decide (y.num<0))) _ _ (x.num.natAbs*y.num.natAbs) (x.den*y.den) fJ fI (Nat.mul_pos rh KB) (HB.out.1.1.mul HB.out.2.1) (HB.out.1.2.mul HB.out.2.2) kP; (with_reducible refine Calls.mono hc ?_); clear hc; rintro e wz ⟨vr,rfl,pZ,hb⟩; replace pZ:=AI pZ (yX x y); obtain⟨Mr,Mq,rfl,pY,hrd⟩:=pZ; obtain⟨mo,my,rfl,_⟩:=id pY; obtain⟨mw,mz,rfl,_⟩:=id hrd; (try have bV:=bV.below hb); (try have fK:=fK.below hb); (try have fJ:=fJ.below hb); (try have fI:=fI.below hb); (try have qa:=qa.below hb); (try have hs1:=hs1.below hb); have hz:=aD.call (by assumption) hb))
 all_goals (
  go_wp2
  obtain⟨wf,HW,f0,f1,f2,cW⟩:=hz.fin rfl pY hrd
  (try rw[HW])
  (try simp only[Exit.inBlock,Exit.then])
  refine bodyPost_ret (by simp[results,Tryz.results33,go_sem,f0,f1,f2]; try rfl) rfl ?_
  first|exact cW|exact cW.drew)
set_option maxHeartbeats 8000000 in
theorem Hp (w:World) (vx vy:Value) (x y:Rat) (hx:cq w vx x) (hy:cq w vy y) (hy0:y.num≠0) {j k:Nat} (hj:bg j x) (hk:bg k y) (kP:j+k<=100000000):Calls Tryz.prog 86 #[vx,vy] w (fD w (x/y)):=by
 have HY:=bx hy0
 clear hy0
 obtain⟨oz,oA,rfl,cw,cT⟩:=id hx
 obtain⟨aV,aX,rfl,_⟩:=id cw
 obtain⟨aW,aY,rfl,_⟩:=id cT
 obtain⟨Kj,Kk,rfl,iS,iJ⟩:=id hy
 obtain⟨dL,dN,rfl,_⟩:=id iS
 obtain⟨dM,dO,rfl,_⟩:=id iJ
 have rh:=x.den_pos
 have KB:=y.den_pos
 have HB:=bx (And.intro hj hk)
 have de:j<=1000000000:=by omega
 have jE:k<=1000000000:=by omega
 clear hj hk
 go_enter Tryz.func86,Tryz.ntmps86
 go_wp2_with fail
 obtain⟨w1,e1,o1,b1,s1⟩:=fh w (.bool (decide (x.num<0))) (.slice aV (ae b64 x.num.natAbs).length aX) (.slice aW (ae b64 (ah x.den)).length aY) 32
 obtain⟨w2,e2,o2,b2,s2⟩:=fh w1 (.bool (decide (y.num<0))) (.slice dL (ae b64 y.num.natAbs).length dN) (.slice dM (ae b64 (ah y.den)).length dO) 32
 obtain⟨w3,e3,o3,b3,s3⟩:=fh w2 (.bool false) (.slice none 0 0) (.slice none 0 0) 32
 rw[e1,e2,e3]
 rw[s1]at o2
 rw[s2,s1]at o3
 have p1:=((o1.gone b2).gone b3)
 have p2:=(o2.gone b3)
 have p3:=o3
 have B0:=((b1.trans (b2.mono b1.size)).trans (b3.mono (b1.trans (b2.mono b1.size)).size))
 have hS:∀w',aD w (w.heap.size+2) 32 [(w.heap.size,.bool (decide (x.num<0)),.slice aV (ae b64 x.num.natAbs).length aX,.slice aW (ae b64 (ah x.den)).length aY),(w.heap.size+1,.bool (decide (y.num<0)),.slice dL (ae b64 y.num.natAbs).length dN,.slice dM (ae b64 (ah y.den)).length dO)] w'->aD w (w.heap.size+2) 32 [(w.heap.size,.bool (decide (x.num<0)),.slice aV (ae b64 x.num.natAbs).length aX,.slice aW (ae b64 (ah x.den)).length aY),(w.heap.size+1,.bool (decide (y.num<0)),.slice dL (ae b64 y.num.natAbs).length dN,.slice dM (ae b64 (ah y.den)).length dO)] w'/\w'.cell? ⟨w.heap.size,0,none⟩=some (.bool (decide (x.num<0)))/\w'.cell? ⟨w.heap.size,1,none⟩=some (.slice aV (ae b64 x.num.natAbs).length aX)/\w'.cell? ⟨w.heap.size,2,none⟩=some (.slice aW (ae b64 (ah x.den)).length aY)/\w'.cell? ⟨w.heap.size+1,0,none⟩=some (.bool (decide (y.num<0)))/\w'.cell? ⟨w.heap.size+1,1,none⟩=some (.slice dL (ae b64 y.num.natAbs).length dN)/\w'.cell? ⟨w.heap.size+1,2,none⟩=some (.slice dM (ae b64 (ah y.den)).length dO)/\w'.cell? ⟨w.heap.size+2,0,none⟩=some (cv w' ⟨w.heap.size+2,0,none⟩)/\w'.cell? ⟨w.heap.size+2,1,none⟩=some (cv w' ⟨w.heap.size+2,1,none⟩)/\w'.cell? ⟨w.heap.size+2,2,none⟩=some (cv w' ⟨w.heap.size+2,2,none⟩)/\w'.frozen? ⟨w.heap.size+2,0,none⟩=false/\w'.frozen? ⟨w.heap.size+2,1,none⟩=false/\w'.frozen? ⟨w.heap.size+2,2,none⟩=false:=λw' hh=>by
  obtain⟨f0,f1,f2,f3,f4,f5⟩:=hh.cells
  have q1:=(hh.2.2.1 (w.heap.size,.bool (decide (x.num<0)),.slice aV (ae b64 x.num.natAbs).length aX,.slice aW (ae b64 (ah x.den)).length aY) (by simp)).2
  have q2:=(hh.2.2.1 (w.heap.size+1,.bool (decide (y.num<0)),.slice dL (ae b64 y.num.natAbs).length dN,.slice dM (ae b64 (ah y.den)).length dO) (by simp)).2
  exact⟨hh,q1.c0,q1.c1,q1.c2,q2.c0,q2.c1,q2.c2,f0,f1,f2,f3,f4,f5⟩
 have H0:aD w (w.heap.size+2) 32 [(w.heap.size,.bool (decide (x.num<0)),.slice aV (ae b64 x.num.natAbs).length aX,.slice aW (ae b64 (ah x.den)).length aY),(w.heap.size+1,.bool (decide (y.num<0)),.slice dL (ae b64 y.num.natAbs).length dN,.slice dM (ae b64 (ah y.den)).length dO)] w3:=⟨B0,by omega,by intro p hp; simp at hp; rcases hp with rfl|rfl; exact⟨by simp,p1⟩; exact⟨by simp,p2⟩,_,_,_,p3,cj _,aG _ _ _,aG _ _ _⟩
 clear e1 e2 e3
 have hz:=H0.drew
 go_region_held3 (λw'=>aD w (w.heap.size+2) 32 [(w.heap.size,.bool (decide (x.num<0)),.slice aV (ae b64 x.num.natAbs).length aX,.slice aW (ae b64 (ah x.den)).length aY),(w.heap.size+1,.bool (decide (y.num<0)),.slice dL (ae b64 y.num.natAbs).length dN,.slice dM (ae b64 (ah y.den)).length dO)] w'/\w'.cell? ⟨w.heap.size,0,none⟩=some (.bool (decide (x.num<0)))/\w'.cell? ⟨w.heap.size,1,none⟩=some (.slice aV (ae b64 x.num.natAbs).length aX)/\w'.cell? ⟨w.heap.size,2,none⟩=some (.slice aW (ae b64 (ah x.den)).length aY)/\w'.cell? ⟨w.heap.size+1,0,none⟩=some (.bool (decide (y.num<0)))/\w'.cell? ⟨w.heap.size+1,1,none⟩=some (.slice dL (ae b64 y.num.natAbs).length dN)/\w'.cell? ⟨w.heap.size+1,2,none⟩=some (.slice dM (ae b64 (ah y.den)).length dO)/\w'.cell? ⟨w.heap.size+2,0,none⟩=some (cv w' ⟨w.heap.size+2,0,none⟩)/\w'.cell? ⟨w.heap.size+2,1,none⟩=some (cv w' ⟨w.heap.size+2,1,none⟩)/\w'.cell? ⟨w.heap.size+2,2,none⟩=some (cv w' ⟨w.heap.size+2,2,none⟩)/\w'.frozen? ⟨w.heap.size+2,0,none⟩=false/\w'.frozen? ⟨w.heap.size+2,1,none⟩=false/\w'.frozen? ⟨w.heap.size+2,2,none⟩=false)
  (first|exact hS _ hz|exact hS _ (aD.sets (by assumption) _ _ _ _ _ _ _))
  (first
   |(go_at_call 70; have hc:=fC _ _ x.den (cT.below hz.1) rh; (with_reducible refine Calls.mono hc ?_); clear hc; rintro e wz ⟨PR,rfl,bV,hb⟩; (try have bV:=bV.below hb); (try have fK:=fK.below hb); (try have fJ:=fJ.below hb); (try have fI:=fI.below hb); (try have qa:=qa.below hb); (try have hs1:=hs1.below hb); have hz:=aD.call (by assumption) hb)
   |(go_at_call 70; have hc:=fC _ _ y.den (iJ.below hz.1) KB; (with_reducible refine Calls.mono hc ?_); clear hc; rintro e wz ⟨Tf,rfl,fK,hb⟩; (try have bV:=bV.below hb); (try have fK:=fK.below hb); (try have fJ:=fJ.below hb); (try have fI:=fI.below hb); (try have qa:=qa.below hb); (try have hs1:=hs1.below hb); have hz:=aD.call (by assumption) hb)
   |(go_at_call 71; have hc:=ia _ _ _ _ _ (cw.below hz.1) fK HB.out.1.1 HB.out.2.2 de jE; (with_reducible refine Calls.mono hc ?_); clear hc; rintro e wz ⟨Td,rfl,fJ,hb⟩; (try have bV:=bV.below hb); (try have fK:=fK.below hb); (try have fJ:=fJ.below hb); (try have fI:=fI.below hb); (try have qa:=qa.below hb); (try have hs1:=hs1.below hb); have hz:=aD.call (by assumption) hb)
   |(go_at_call 71; have hc:=ia _ _ _ _ _ bV (iS.below hz.1) HB.out.1.2 HB.out.2.1 de jE; (with_reducible refine Calls.mono hc ?_); clear hc; rintro e wz ⟨Te,rfl,fI,hb⟩; (try have bV:=bV.below hb); (try have fK:=fK.below hb); (try have fJ:=fJ.below hb); (try have fI:=fI.below hb); (try have qa:=qa.below hb); (try have hs1:=hs1.below hb); have hz:=aD.call (by assumption) hb)
   |(go_at_call 67; have hc:=fO _ (!(decide (x.num<0)==decide (y.num<0))) _ _ (x.num.natAbs*y.den) (x.den*y.num.natAbs) fJ fI (Nat.mul_pos rh (by have:=HY.out; omega)) (HB.out.1.1.mul HB.out.2.2) (HB.out.1.2.mul HB.out.2.1) kP; (with_reducible refine Calls.mono hc ?_); clear hc; rintro e wz ⟨vr,rfl,pZ,hb⟩; replace pZ:=AI pZ (yB x y HY.out); obtain⟨Mr,Mq,rfl,pY,hrd⟩:=pZ; obtain⟨mo,my,rfl,_⟩:=id pY; obtain⟨mw,mz,rfl,_⟩:=id hrd; (try have bV:=bV.below hb); (try have fK:=fK.below hb); (try have fJ:=fJ.below hb); (try have fI:=fI.below hb); (try have qa:=qa.below hb); (try have hs1:=hs1.below hb); have hz:=aD.call (by assumption) hb))
 all_goals (
  go_wp2
  obtain⟨wf,HW,f0,f1,f2,cW⟩:=hz.fin rfl pY hrd
  (try rw[HW])
  (try simp only[Exit.inBlock,Exit.then])
  refine bodyPost_ret (by simp[results,Tryz.results86,go_sem,f0,f1,f2]; try rfl) rfl ?_
  first|exact cW|exact cW.drew)
theorem bq.drew {k:IntKind} {b n:Nat} (h:bq k b w v n):bq k b w.drew v n:=h
end Wx

namespace Wx
open Go Go.RowKit Go.Proofs
def dS (x:Rat):Int:=if x.num<0 then -1 else if x=0 then 0 else 1
theorem iE (w:World) (vx:Value) (x:Rat) (hx:cq w vx x):Calls Tryz.prog 31 #[vx] w (dY w (.int .i64 (dS x))):=by
 obtain⟨oz,oA,rfl,cw,cT⟩:=id hx
 obtain⟨aV,aX,rfl,_⟩:=id cw
 obtain⟨aW,aY,rfl,_⟩:=id cT
 have hS:dS x=if x.num<0 then -1 else if x=0 then 0 else 1:=rfl
 generalize dS x=z at *
 by_cases h1:x.num<0
 ·rw[if_pos h1]at hS
  subst hS
  rw[decide_eq_true h1]at *
  go_enter Tryz.func31,Tryz.ntmps31
  go_wp2
  go_ret
  exact⟨rfl,Below.alloc (Below.refl _ _) (Nat.le_refl _) _⟩
 ·rw[if_neg h1]at hS
  rw[decide_eq_false h1]at *
  by_cases h2:x=0
  ·rw[if_pos h2]at hS
   subst hS
   have HD:=bx (decide_eq_true h2)
   clear h2
   go_enter Tryz.func31,Tryz.ntmps31
   go_wp2_with fail
   obtain⟨w1,e1,o1,b1,s1⟩:=fh w (.bool false) (.slice aV (ae b64 x.num.natAbs).length aX) (.slice aW (ae b64 (ah x.den)).length aY) 32
   rw[e1]
   have hc:=zero_num w1 _ x (hx.below b1)
   rw[HD.out]at hc
   refine hc.mono ?_
   rintro e w2 ⟨rfl,hb⟩
   go_wp2
   go_ret
   exact⟨rfl,b1.trans (hb.mono b1.size)⟩
  ·rw[if_neg h2]at hS
   subst hS
   have HD:=bx (decide_eq_false h2)
   clear h2
   go_enter Tryz.func31,Tryz.ntmps31
   go_wp2_with fail
   obtain⟨w1,e1,o1,b1,s1⟩:=fh w (.bool false) (.slice aV (ae b64 x.num.natAbs).length aX) (.slice aW (ae b64 (ah x.den)).length aY) 32
   rw[e1]
   have hc:=zero_num w1 _ x (hx.below b1)
   rw[HD.out]at hc
   refine hc.mono ?_
   rintro e w2 ⟨rfl,hb⟩
   go_wp2
   go_ret
   exact⟨rfl,b1.trans (hb.mono b1.size)⟩
end Wx

namespace Wx
open Go Go.RowKit Go.Proofs
end Wx

namespace Wx
open Go Go.RowKit Go.Proofs
theorem vG (w:World) (z:Int) (h1:-9223372036854775808<=z) (h2:z<=9223372036854775807):Calls Tryz.prog 65 #[.int .i64 z] w (eW .u64 b64 w z.natAbs):=by
 have KJ:Bx (z.natAbs<b64):=bx (by unfold b64; omega)
 by_cases hz:z<0
 ·have e1:IntKind.u64.wrap (-IntKind.u64.wrap z)=((z.natAbs:Nat):Int):=by
   simp[IntKind.wrap,IntKind.bits,IntKind.signed]; omega
  have E1:=bx e1
  clear e1
  go_enter Tryz.func65,Tryz.ntmps65
  go_wp2_with fail
  rw[E1.out]
  refine(gR w _ KJ.out).mono ?_
  rintro e w3 ⟨vr,rfl,hr3,hb3⟩
  go_wp2
  go_ret
  exact⟨_,rfl,hr3,hb3⟩
 ·have e1:z=((z.natAbs:Nat):Int):=by omega
  have E1:=bx e1
  clear e1
  go_enter Tryz.func65,Tryz.ntmps65
  go_wp2_with fail
  have hc:=gR w _ KJ.out
  rw[<-E1.out]at hc
  refine hc.mono ?_
  rintro e w3 ⟨vr,rfl,hr3,hb3⟩
  go_wp2
  go_ret
  exact⟨_,rfl,hr3,hb3⟩
theorem D5 (w:World) (z:Int) (h1:-9223372036854775808<=z) (h2:z<=9223372036854775807):Calls Tryz.prog 25 #[.int .i64 z] w (fD w (z:Rat)):=by
 have H:=bx (And.intro h1 h2)
 clear h1 h2
 go_enter Tryz.func25,Tryz.ntmps25
 go_wp2_with fail
 obtain⟨w1,e1,o1,b1,s1⟩:=fh w (.bool false) (.slice none 0 0) (.slice none 0 0) 32
 rw[e1]
 refine(vG w1 z H.out.1 H.out.2).mono ?_
 rintro e w2 ⟨v,rfl,hv,hb⟩
 obtain⟨A1,c1,rfl,_⟩:=id hv
 have hz:aD w w.heap.size 32 [] w2:=⟨b1.trans (hb.mono b1.size),Nat.le_refl _,by simp,_,_,_,o1.gone hb,cj _,aG _ _ _,aG _ _ _⟩
 obtain⟨k0,k1,k2,k3,k4,k5⟩:=hz.cells
 clear e1
 go_wp2
 obtain⟨wf,HW,f0,f1,f2,cW⟩:=hz.fin (q:=(z:Rat)) (A2:=none) (l2:=0) (c2:=0) rfl (by rw[Rat.num_intCast]; exact hv) (by rw[Rat.den_intCast]; exact bq.zero _ _ _)
 rw[Rat.num_intCast]at HW f0 cW
 rw[HW]
 (try simp only[Exit.inBlock,Exit.then])
 refine bodyPost_ret (by simp[results,Tryz.results25,go_sem,f0,f1,f2]; try rfl) rfl ?_
 exact cW
def pJ (w:World) (q:Rat) (err:Int) (e:Ending) (w':World):Prop:=∃v,e=.returned (.tuple #[v,.int .i64 err])/\cq w' v q/\Below w.heap.size w w'
theorem pJ.of {w:World} {q:Rat} {v:Value} {w':World} (h:fD w q (.returned v) w') (err:Int):pJ w q err (.returned (.tuple #[v,.int .i64 err])) w':=by
 obtain⟨v',e,h1,h2⟩:=h
 injection e with e
 subst e
 exact⟨_,rfl,h1,h2⟩
def uA (n d:Int):Rat:=cL (!(decide (n<0)==decide (d<0))) n.natAbs d.natAbs
theorem LL (w:World) (n d:Int) (h1:-9223372036854775808<=n) (h2:n<=9223372036854775807) (h3:-9223372036854775808<=d) (h4:d<=9223372036854775807) (hd:d≠0):
  Calls Tryz.prog 28 #[.int .i64 n,.int .i64 d] w (pJ w (uA n d) 0):=by
 have H:=bx (And.intro (And.intro h1 h2) (And.intro h3 h4))
 have HD:=bx hd
 have GM:(d==0)=false:=beq_eq_false_iff_ne.2 hd
 have B1:Bx (Bd 64 n.natAbs):=bx (by unfold Bd; omega)
 have B2:Bx (Bd 64 d.natAbs):=bx (by unfold Bd; omega)
 clear h1 h2 h3 h4 hd
 go_enter Tryz.func28,Tryz.ntmps28
 go_wp2_with fail
 obtain⟨w1,e1,o1,b1,s1⟩:=fh w (.bool false) (.slice none 0 0) (.slice none 0 0) 32
 rw[e1]
 refine(vG w1 n H.out.1.1 H.out.1.2).mono ?_
 rintro e w2 ⟨vn,rfl,hn,hb⟩
 go_wp2_with fail
 refine(vG w2 d H.out.2.1 H.out.2.2).mono ?_
 rintro e w3 ⟨vd,rfl,hd,hb3⟩
 have Y6:=hn.below hb3
 go_wp2_with fail
 refine(fO w3 _ _ _ _ _ Y6 hd (by have:=HD.out; omega) B1.out B2.out (by omega)).mono ?_
 rintro e w4 ⟨vr,rfl,pZ,hb4⟩
 change cq w4 vr (uA n d)at pZ
 obtain⟨Mr,Mq,rfl,pY,hrd⟩:=pZ
 obtain⟨mo,my,rfl,_⟩:=id pY
 obtain⟨mw,mz,rfl,_⟩:=id hrd
 have o4:=((o1.gone hb).gone hb3).gone hb4
 have hz:aD w w.heap.size 32 [] w4:=⟨((b1.trans (hb.mono b1.size)).trans (hb3.mono (Nat.le_trans b1.size hb.size))).trans (hb4.mono (Nat.le_trans (Nat.le_trans b1.size hb.size) hb3.size)),Nat.le_refl _,by simp,_,_,_,o4,cj _,aG _ _ _,aG _ _ _⟩
 obtain⟨k0,k1,k2,k3,k4,k5⟩:=hz.cells
 clear e1
 go_wp2
 obtain⟨wf,HW,f0,f1,f2,cW⟩:=hz.fin rfl pY hrd
 rw[HW]
 (try simp only[Exit.inBlock,Exit.then])
 refine bodyPost_ret (by simp[results,Tryz.results28,go_sem,f0,f1,f2]; try rfl) rfl ?_
 exact pJ.of cW 0
end Wx

namespace Wx
open Go Go.RowKit Go.Proofs
set_option maxHeartbeats 2000000 in
theorem div_zero (w:World) (vx vy:Value) (x y:Rat) (hx:cq w vx x) (hy:cq w vy y) (hy0:y=0):Calls Tryz.prog 75 #[vx,vy] w (pJ w (0) 3):=by
 obtain⟨oz,oA,rfl,cw,cT⟩:=id hx
 obtain⟨aV,aX,rfl,_⟩:=id cw
 obtain⟨aW,aY,rfl,_⟩:=id cT
 obtain⟨Kj,Kk,rfl,iS,iJ⟩:=id hy
 obtain⟨dL,dN,rfl,_⟩:=id iS
 obtain⟨dM,dO,rfl,_⟩:=id iJ
 have HY:=bx hy0
 clear hy0
 go_enter Tryz.func75,Tryz.ntmps75
 go_wp2_with fail
 obtain⟨w1,e1,o1,b1,s1⟩:=fh w (.bool (decide (x.num<0))) (.slice aV (ae b64 x.num.natAbs).length aX) (.slice aW (ae b64 (ah x.den)).length aY) 32
 obtain⟨w2,e2,o2,b2,s2⟩:=fh w1 (.bool (decide (y.num<0))) (.slice dL (ae b64 y.num.natAbs).length dN) (.slice dM (ae b64 (ah y.den)).length dO) 32
 obtain⟨w3,e3,o3,b3,s3⟩:=fh w2 (.bool false) (.slice none 0 0) (.slice none 0 0) 32
 rw[e1,e2,e3]
 rw[s1]at o2
 rw[s2,s1]at o3
 have p1:=((o1.gone b2).gone b3)
 have p2:=(o2.gone b3)
 have p3:=o3
 have B0:=((b1.trans (b2.mono b1.size)).trans (b3.mono (b1.trans (b2.mono b1.size)).size))
 have hS:∀w',aD w (w.heap.size+2) 32 [(w.heap.size,.bool (decide (x.num<0)),.slice aV (ae b64 x.num.natAbs).length aX,.slice aW (ae b64 (ah x.den)).length aY),(w.heap.size+1,.bool (decide (y.num<0)),.slice dL (ae b64 y.num.natAbs).length dN,.slice dM (ae b64 (ah y.den)).length dO)] w'->aD w (w.heap.size+2) 32 [(w.heap.size,.bool (decide (x.num<0)),.slice aV (ae b64 x.num.natAbs).length aX,.slice aW (ae b64 (ah x.den)).length aY),(w.heap.size+1,.bool (decide (y.num<0)),.slice dL (ae b64 y.num.natAbs).length dN,.slice dM (ae b64 (ah y.den)).length dO)] w'/\w'.cell? ⟨w.heap.size,0,none⟩=some (.bool (decide (x.num<0)))/\w'.cell? ⟨w.heap.size,1,none⟩=some (.slice aV (ae b64 x.num.natAbs).length aX)/\w'.cell? ⟨w.heap.size,2,none⟩=some (.slice aW (ae b64 (ah x.den)).length aY)/\w'.cell? ⟨w.heap.size+1,0,none⟩=some (.bool (decide (y.num<0)))/\w'.cell? ⟨w.heap.size+1,1,none⟩=some (.slice dL (ae b64 y.num.natAbs).length dN)/\w'.cell? ⟨w.heap.size+1,2,none⟩=some (.slice dM (ae b64 (ah y.den)).length dO)/\w'.cell? ⟨w.heap.size+2,0,none⟩=some (cv w' ⟨w.heap.size+2,0,none⟩)/\w'.cell? ⟨w.heap.size+2,1,none⟩=some (cv w' ⟨w.heap.size+2,1,none⟩)/\w'.cell? ⟨w.heap.size+2,2,none⟩=some (cv w' ⟨w.heap.size+2,2,none⟩)/\w'.frozen? ⟨w.heap.size+2,0,none⟩=false/\w'.frozen? ⟨w.heap.size+2,1,none⟩=false/\w'.frozen? ⟨w.heap.size+2,2,none⟩=false:=λw' hh=>by
  obtain⟨f0,f1,f2,f3,f4,f5⟩:=hh.cells
  have q1:=(hh.2.2.1 (w.heap.size,.bool (decide (x.num<0)),.slice aV (ae b64 x.num.natAbs).length aX,.slice aW (ae b64 (ah x.den)).length aY) (by simp)).2
  have q2:=(hh.2.2.1 (w.heap.size+1,.bool (decide (y.num<0)),.slice dL (ae b64 y.num.natAbs).length dN,.slice dM (ae b64 (ah y.den)).length dO) (by simp)).2
  exact⟨hh,q1.c0,q1.c1,q1.c2,q2.c0,q2.c1,q2.c2,f0,f1,f2,f3,f4,f5⟩
 have H0:aD w (w.heap.size+2) 32 [(w.heap.size,.bool (decide (x.num<0)),.slice aV (ae b64 x.num.natAbs).length aX,.slice aW (ae b64 (ah x.den)).length aY),(w.heap.size+1,.bool (decide (y.num<0)),.slice dL (ae b64 y.num.natAbs).length dN,.slice dM (ae b64 (ah y.den)).length dO)] w3:=⟨B0,by omega,by intro p hp; simp at hp; rcases hp with rfl|rfl; exact⟨by simp,p1⟩; exact⟨by simp,p2⟩,_,_,_,p3,cj _,aG _ _ _,aG _ _ _⟩
 clear e1 e2 e3
 have hz:=H0
 obtain⟨_,k0,k1,k2,k3,k4,k5,_⟩:=hS _ hz
 have hc:=zero_num _ _ y (hy.below hz.1)
 rw[decide_eq_true HY.out]at hc
 refine hc.mono ?_
 clear hc
 rintro e wz ⟨rfl,hb⟩
 have hz:=aD.call (And.intro hz trivial) hb
 clear k0 k1 k2 k3 k4 k5
 obtain⟨_,k0,k1,k2,k3,k4,k5,k6,k7,k8,k9,Zz,ZA⟩:=hS _ hz
 go_wp2
 obtain⟨wf,HW,f0,f1,f2,cW⟩:=hz.fin (q:=0) (A1:=none) (l1:=0) (c1:=0) (A2:=none) (l2:=0) (c2:=0) (show _=false from rfl) (bq.zero _ _ _) (bq.zero _ _ _)
 rw[HW]
 (try simp only[Exit.inBlock,Exit.then])
 refine bodyPost_ret (by simp[results,Tryz.results75,go_sem,f0,f1,f2]; try rfl) rfl ?_
 exact pJ.of cW 3
set_option maxHeartbeats 2000000 in
theorem Oj (w:World) (vx vy:Value) (x y:Rat) (hx:cq w vx x) (hy:cq w vy y) {j k:Nat} (hj:bg j x) (hk:bg k y) (kP:j+k<=100000000) (hy0:y≠0):Calls Tryz.prog 75 #[vx,vy] w (pJ w (x/y) 0):=by
 obtain⟨oz,oA,rfl,cw,cT⟩:=id hx
 obtain⟨aV,aX,rfl,_⟩:=id cw
 obtain⟨aW,aY,rfl,_⟩:=id cT
 obtain⟨Kj,Kk,rfl,iS,iJ⟩:=id hy
 obtain⟨dL,dN,rfl,_⟩:=id iS
 obtain⟨dM,dO,rfl,_⟩:=id iJ
 have HY:=bx hy0
 clear hy0
 go_enter Tryz.func75,Tryz.ntmps75
 go_wp2_with fail
 obtain⟨w1,e1,o1,b1,s1⟩:=fh w (.bool (decide (x.num<0))) (.slice aV (ae b64 x.num.natAbs).length aX) (.slice aW (ae b64 (ah x.den)).length aY) 32
 obtain⟨w2,e2,o2,b2,s2⟩:=fh w1 (.bool (decide (y.num<0))) (.slice dL (ae b64 y.num.natAbs).length dN) (.slice dM (ae b64 (ah y.den)).length dO) 32
 obtain⟨w3,e3,o3,b3,s3⟩:=fh w2 (.bool false) (.slice none 0 0) (.slice none 0 0) 32
 rw[e1,e2,e3]
 rw[s1]at o2
 rw[s2,s1]at o3
 have p1:=((o1.gone b2).gone b3)
 have p2:=(o2.gone b3)
 have p3:=o3
 have B0:=((b1.trans (b2.mono b1.size)).trans (b3.mono (b1.trans (b2.mono b1.size)).size))
 have hS:∀w',aD w (w.heap.size+2) 32 [(w.heap.size,.bool (decide (x.num<0)),.slice aV (ae b64 x.num.natAbs).length aX,.slice aW (ae b64 (ah x.den)).length aY),(w.heap.size+1,.bool (decide (y.num<0)),.slice dL (ae b64 y.num.natAbs).length dN,.slice dM (ae b64 (ah y.den)).length dO)] w'->aD w (w.heap.size+2) 32 [(w.heap.size,.bool (decide (x.num<0)),.slice aV (ae b64 x.num.natAbs).length aX,.slice aW (ae b64 (ah x.den)).length aY),(w.heap.size+1,.bool (decide (y.num<0)),.slice dL (ae b64 y.num.natAbs).length dN,.slice dM (ae b64 (ah y.den)).length dO)] w'/\w'.cell? ⟨w.heap.size,0,none⟩=some (.bool (decide (x.num<0)))/\w'.cell? ⟨w.heap.size,1,none⟩=some (.slice aV (ae b64 x.num.natAbs).length aX)/\w'.cell? ⟨w.heap.size,2,none⟩=some (.slice aW (ae b64 (ah x.den)).length aY)/\w'.cell? ⟨w.heap.size+1,0,none⟩=some (.bool (decide (y.num<0)))/\w'.cell? ⟨w.heap.size+1,1,none⟩=some (.slice dL (ae b64 y.num.natAbs).length dN)/\w'.cell? ⟨w.heap.size+1,2,none⟩=some (.slice dM (ae b64 (ah y.den)).length dO)/\w'.cell? ⟨w.heap.size+2,0,none⟩=some (cv w' ⟨w.heap.size+2,0,none⟩)/\w'.cell? ⟨w.heap.size+2,1,none⟩=some (cv w' ⟨w.heap.size+2,1,none⟩)/\w'.cell? ⟨w.heap.size+2,2,none⟩=some (cv w' ⟨w.heap.size+2,2,none⟩)/\w'.frozen? ⟨w.heap.size+2,0,none⟩=false/\w'.frozen? ⟨w.heap.size+2,1,none⟩=false/\w'.frozen? ⟨w.heap.size+2,2,none⟩=false:=λw' hh=>by
  obtain⟨f0,f1,f2,f3,f4,f5⟩:=hh.cells
  have q1:=(hh.2.2.1 (w.heap.size,.bool (decide (x.num<0)),.slice aV (ae b64 x.num.natAbs).length aX,.slice aW (ae b64 (ah x.den)).length aY) (by simp)).2
  have q2:=(hh.2.2.1 (w.heap.size+1,.bool (decide (y.num<0)),.slice dL (ae b64 y.num.natAbs).length dN,.slice dM (ae b64 (ah y.den)).length dO) (by simp)).2
  exact⟨hh,q1.c0,q1.c1,q1.c2,q2.c0,q2.c1,q2.c2,f0,f1,f2,f3,f4,f5⟩
 have H0:aD w (w.heap.size+2) 32 [(w.heap.size,.bool (decide (x.num<0)),.slice aV (ae b64 x.num.natAbs).length aX,.slice aW (ae b64 (ah x.den)).length aY),(w.heap.size+1,.bool (decide (y.num<0)),.slice dL (ae b64 y.num.natAbs).length dN,.slice dM (ae b64 (ah y.den)).length dO)] w3:=⟨B0,by omega,by intro p hp; simp at hp; rcases hp with rfl|rfl; exact⟨by simp,p1⟩; exact⟨by simp,p2⟩,_,_,_,p3,cj _,aG _ _ _,aG _ _ _⟩
 clear e1 e2 e3
 have hz:=H0
 obtain⟨_,k0,k1,k2,k3,k4,k5,_⟩:=hS _ hz
 have hc:=zero_num _ _ y (hy.below hz.1)
 rw[decide_eq_false HY.out]at hc
 refine hc.mono ?_
 clear hc
 rintro e wz ⟨rfl,hb⟩
 have hz:=aD.call (And.intro hz trivial) hb
 clear k0 k1 k2 k3 k4 k5
 obtain⟨_,k0,k1,k2,k3,k4,k5,_⟩:=hS _ hz
 go_wp2_with fail
 refine(Hp _ _ _ x y (hx.below hz.1) (hy.below hz.1) (mt Rat.num_eq_zero.1 HY.out) hj hk kP).mono ?_
 rintro e wy ⟨vr,rfl,pZ,hb⟩
 obtain⟨Mr,Mq,rfl,pY,hrd⟩:=pZ
 obtain⟨mo,my,rfl,_⟩:=id pY
 obtain⟨mw,mz,rfl,_⟩:=id hrd
 have hz:=aD.call (And.intro hz trivial) hb
 clear k0 k1 k2 k3 k4 k5
 obtain⟨_,k0,k1,k2,k3,k4,k5,k6,k7,k8,k9,Zz,ZA⟩:=hS _ hz
 go_wp2
 obtain⟨wf,HW,f0,f1,f2,cW⟩:=hz.fin rfl pY hrd
 rw[HW]
 (try simp only[Exit.inBlock,Exit.then])
 refine bodyPost_ret (by simp[results,Tryz.results75,go_sem,f0,f1,f2]; try rfl) rfl ?_
 exact pJ.of cW 0
end Wx

namespace Wx
open Go Go.RowKit Go.Proofs
end Wx

namespace Wx
open Go Go.RowKit Go.Proofs
theorem KR:bg 1 (0:Rat):=⟨by show(0:Rat).num.natAbs<2^1; decide,by show(0:Rat).den<2^1; decide⟩
variable {j k:Nat} {x y:Rat}
theorem bg.quo (h:bg j x) (g:bg k y):bg (j+k) (x/y):=by
 by_cases hy:y=0
 ·rw[hy,Rat.div_def,Rat.inv_zero,Rat.mul_zero]
  have h2:x.den<2^j:=h.2
  have h3:=x.den_pos
  have hj:j≠0:=by rintro rfl; simp at h2; omega
  refine⟨?_,?_⟩
  ·show(0:Rat).num.natAbs<2^(j+k)
   exact Nat.two_pow_pos _
  ·show(0:Rat).den<2^(j+k)
   show 1<2^(j+k)
   exact Nat.one_lt_two_pow (by omega)
 ·exact h.div g (λh=>hy ((gP y).1 (by omega)))
variable {w:World} {e:Ending} {w':World}
theorem pq {v:Value} (h:dY w v e w'):fu (cI v) w e w':=⟨v,h.1,rfl,h.2⟩
theorem JW {q:Rat} {n:Int} (h:pJ w q n e w'):fu (fo (au q) (pI n)) w e w':=by
 obtain⟨v,rfl,h1,h2⟩:=h
 exact⟨_,rfl,⟨v,_,rfl,h1,rfl⟩,h2⟩
theorem Hq (hx:bg j x) (hy:bg k y) (h:j+k+j+k+1<=100000000):∀w v1 v2,au x w v1->au y w v2->Calls Tryz.prog 32 #[v1,v2] w (fu (au (x+y)) w):=
 λw v1 v2 h1 h2=>KO w v1 v2 x y h1 h2 hx hy h
theorem zQ (hx:bg j x) (hy:bg k y) (h:j+k<=100000000):∀w v1 v2,au x w v1->au y w v2->Calls Tryz.prog 33 #[v1,v2] w (fu (au (x*y)) w):=
 λw v1 v2 h1 h2=>LK w v1 v2 x y h1 h2 hx hy h
theorem KS (hx:bg j x) (hy:bg k y) (h:j+k<=100000000) (h0:y≠0):∀w v1 v2,au x w v1->au y w v2->Calls Tryz.prog 86 #[v1,v2] w (fu (au (x/y)) w):=
 λw v1 v2 h1 h2=>Hp w v1 v2 x y h1 h2 (λh=>h0 ((gP y).1 (by omega))) hx hy h
theorem N7 (x:Rat):∀w v1,au x w v1->Calls Tryz.prog 15 #[v1] w (fu (pB (decide (x=0))) w):=λw v1 h1=>(zero_num w v1 x h1).mono λ_ _=>pq
theorem N6 (x:Rat):∀w v1,au x w v1->Calls Tryz.prog 31 #[v1] w (fu (pI (dS x)) w):=λw v1 h1=>(iE w v1 x h1).mono λ_ _=>pq
theorem Qv (n:Int) (h1:-9223372036854775808<=n) (h2:n<=9223372036854775807):∀w v1,pI n w v1->Calls Tryz.prog 25 #[v1] w (fu (au (n:Rat)) w):=λw v1 h=>by
 have h:v1=.int .i64 n:=h
 rw[h]
 exact D5 w n h1 h2
theorem Hr (hx:bg j x) (hy:bg k y) (h:j+k<=100000000) (h0:y≠0):∀w v1 v2,au x w v1->au y w v2->Calls Tryz.prog 75 #[v1,v2] w (fu (fo (au (x/y)) (pI 0)) w):=
 λw v1 v2 h1 h2=>(Oj w v1 v2 x y h1 h2 hx hy h h0).mono λ_ _=>JW
theorem Cb (x:Rat) {y:Rat} (h0:y=0):∀w v1 v2,au x w v1->au y w v2->Calls Tryz.prog 75 #[v1,v2] w (fu (fo (au 0) (pI 3)) w):=
 λw v1 v2 h1 h2=>(div_zero w v1 v2 x y h1 h2 h0).mono λ_ _=>JW
theorem Qu (hx:bg j x) (hy:bg k y) (h:j+k<=100000000):∀w v1 v2,au x w v1->au y w v2->Calls Tryz.prog 75 #[v1,v2] w (fu (fo (au (x/y)) (pI (if y=0 then 3 else 0))) w):=by
 by_cases h0:y=0
 ·rw[if_pos h0,show x/y=0 by rw[h0,Rat.div_def,Rat.inv_zero,Rat.mul_zero]]; exact Cb x h0
 ·rw[if_neg h0]; exact Hr hx hy h h0
variable {f:FuncId} {P:Program} {p1 p2:Pred}
theorem wQ {a b:Bool} (h:∀(M:Nat->Nat->Prop) (w:World) (v1 v2:Value),dc M w->aL M (λw=>p1 w v1) w->aL M (λw=>p2 w v2) w->Calls P f #[v1,v2] w (bu M (pB a) w)) (e:a=b):∀(M:Nat->Nat->Prop) (w:World) (v1 v2:Value),dc M w->aL M (λw=>p1 w v1) w->aL M (λw=>p2 w v2) w->Calls P f #[v1,v2] w (bu M (pB b) w):=e▸h
theorem Qs {p:Pred} (hn:aB p) (h:∀w v1 v2,p1 w v1->p2 w v2->Calls P f #[v1,v2] w (fu p w)):∀(M:Nat->Nat->Prop) (w:World) (v1 v2:Value),dc M w->aL M (λw=>p1 w v1) w->aL M (λw=>p2 w v2) w->Calls P f #[v1,v2] w (bu M p w):=
 λ_ w v1 v2 hM h1 h2=>(h w v1 v2 h1.out h2.out).mono λ_ _ h=>tf hn hM h
end Wx
