import Derived.Test.YtadigiledciihaaGreatCRBAddS
namespace Wx
set_option maxRecDepth 100000
open Go Go.RowKit Go.Proofs
theorem yN {w:World} {v:Value} {p q:Rat} (h:bJ w v p) (e:q=p):bJ w v q:=e▸h
set_option maxHeartbeats 8000000 in
theorem Jb (w:World) (vx vy:Value) (x y:Rat) (hx:bJ w vx x) (hy:bJ w vy y) {j k:Nat} (hj:cN j x) (hk:cN k y) (AB:j+k<=100000000):Calls Tryz.prog 47 #[vx,vy] w (jR w (x*y)):=by
 obtain⟨tU,tV,rfl,cC,dm⟩:=id hx
 obtain⟨cQ,cS,rfl,_⟩:=id cC
 obtain⟨cR,cT,rfl,_⟩:=id dm
 obtain⟨Hl,Ho,rfl,gB,gw⟩:=id hy
 obtain⟨ez,eC,rfl,_⟩:=id gB
 obtain⟨eB,eD,rfl,_⟩:=id gw
 have IG:=x.den_pos
 have LZ:=y.den_pos
 have HB:=bx (And.intro hj hk)
 have ct:j<=1000000000:=by omega
 have kN:k<=1000000000:=by omega
 clear hj hk
 go_enter Tryz.func47,Tryz.ntmps47
 go_wp2_with fail
 obtain⟨w1,e1,o1,b1,s1⟩:=gj w (.bool (decide (x.num<0))) (.slice cQ (ae b64 x.num.natAbs).length cS) (.slice cR (ae b64 (ay x.den)).length cT) 54
 obtain⟨w2,e2,o2,b2,s2⟩:=gj w1 (.bool (decide (y.num<0))) (.slice ez (ae b64 y.num.natAbs).length eC) (.slice eB (ae b64 (ay y.den)).length eD) 54
 obtain⟨w3,e3,o3,b3,s3⟩:=gj w2 (.bool false) (.slice none 0 0) (.slice none 0 0) 54
 rw[e1,e2,e3]
 rw[s1]at o2
 rw[s2,s1]at o3
 have p1:=((o1.gone b2).gone b3)
 have p2:=(o2.gone b3)
 have p3:=o3
 have B0:=((b1.trans (b2.mono b1.size)).trans (b3.mono (b1.trans (b2.mono b1.size)).size))
 have hS:∀w',bh w (w.heap.size+2) 54 [(w.heap.size,.bool (decide (x.num<0)),.slice cQ (ae b64 x.num.natAbs).length cS,.slice cR (ae b64 (ay x.den)).length cT),(w.heap.size+1,.bool (decide (y.num<0)),.slice ez (ae b64 y.num.natAbs).length eC,.slice eB (ae b64 (ay y.den)).length eD)] w'->bh w (w.heap.size+2) 54 [(w.heap.size,.bool (decide (x.num<0)),.slice cQ (ae b64 x.num.natAbs).length cS,.slice cR (ae b64 (ay x.den)).length cT),(w.heap.size+1,.bool (decide (y.num<0)),.slice ez (ae b64 y.num.natAbs).length eC,.slice eB (ae b64 (ay y.den)).length eD)] w'/\w'.cell? ⟨w.heap.size,0,none⟩=some (.bool (decide (x.num<0)))/\w'.cell? ⟨w.heap.size,1,none⟩=some (.slice cQ (ae b64 x.num.natAbs).length cS)/\w'.cell? ⟨w.heap.size,2,none⟩=some (.slice cR (ae b64 (ay x.den)).length cT)/\w'.cell? ⟨w.heap.size+1,0,none⟩=some (.bool (decide (y.num<0)))/\w'.cell? ⟨w.heap.size+1,1,none⟩=some (.slice ez (ae b64 y.num.natAbs).length eC)/\w'.cell? ⟨w.heap.size+1,2,none⟩=some (.slice eB (ae b64 (ay y.den)).length eD)/\w'.cell? ⟨w.heap.size+2,0,none⟩=some (cv w' ⟨w.heap.size+2,0,none⟩)/\w'.cell? ⟨w.heap.size+2,1,none⟩=some (cv w' ⟨w.heap.size+2,1,none⟩)/\w'.cell? ⟨w.heap.size+2,2,none⟩=some (cv w' ⟨w.heap.size+2,2,none⟩)/\w'.frozen? ⟨w.heap.size+2,0,none⟩=false/\w'.frozen? ⟨w.heap.size+2,1,none⟩=false/\w'.frozen? ⟨w.heap.size+2,2,none⟩=false:=λw' hh=>by
  obtain⟨f0,f1,f2,f3,f4,f5⟩:=hh.cells
  have q1:=(hh.2.2.1 (w.heap.size,.bool (decide (x.num<0)),.slice cQ (ae b64 x.num.natAbs).length cS,.slice cR (ae b64 (ay x.den)).length cT) (by simp)).2
  have q2:=(hh.2.2.1 (w.heap.size+1,.bool (decide (y.num<0)),.slice ez (ae b64 y.num.natAbs).length eC,.slice eB (ae b64 (ay y.den)).length eD) (by simp)).2
  exact⟨hh,q1.c0,q1.c1,q1.c2,q2.c0,q2.c1,q2.c2,f0,f1,f2,f3,f4,f5⟩
 have H0:bh w (w.heap.size+2) 54 [(w.heap.size,.bool (decide (x.num<0)),.slice cQ (ae b64 x.num.natAbs).length cS,.slice cR (ae b64 (ay x.den)).length cT),(w.heap.size+1,.bool (decide (y.num<0)),.slice ez (ae b64 y.num.natAbs).length eC,.slice eB (ae b64 (ay y.den)).length eD)] w3:=⟨B0,by omega,by intro p hp; simp at hp; rcases hp with rfl|rfl; exact⟨by simp,p1⟩; exact⟨by simp,p2⟩,_,_,_,p3,da _,aU _ _ _,aU _ _ _⟩
 clear e1 e2 e3
 have hz:=H0.drew
 go_region_held3 (λw'=>bh w (w.heap.size+2) 54 [(w.heap.size,.bool (decide (x.num<0)),.slice cQ (ae b64 x.num.natAbs).length cS,.slice cR (ae b64 (ay x.den)).length cT),(w.heap.size+1,.bool (decide (y.num<0)),.slice ez (ae b64 y.num.natAbs).length eC,.slice eB (ae b64 (ay y.den)).length eD)] w'/\w'.cell? ⟨w.heap.size,0,none⟩=some (.bool (decide (x.num<0)))/\w'.cell? ⟨w.heap.size,1,none⟩=some (.slice cQ (ae b64 x.num.natAbs).length cS)/\w'.cell? ⟨w.heap.size,2,none⟩=some (.slice cR (ae b64 (ay x.den)).length cT)/\w'.cell? ⟨w.heap.size+1,0,none⟩=some (.bool (decide (y.num<0)))/\w'.cell? ⟨w.heap.size+1,1,none⟩=some (.slice ez (ae b64 y.num.natAbs).length eC)/\w'.cell? ⟨w.heap.size+1,2,none⟩=some (.slice eB (ae b64 (ay y.den)).length eD)/\w'.cell? ⟨w.heap.size+2,0,none⟩=some (cv w' ⟨w.heap.size+2,0,none⟩)/\w'.cell? ⟨w.heap.size+2,1,none⟩=some (cv w' ⟨w.heap.size+2,1,none⟩)/\w'.cell? ⟨w.heap.size+2,2,none⟩=some (cv w' ⟨w.heap.size+2,2,none⟩)/\w'.frozen? ⟨w.heap.size+2,0,none⟩=false/\w'.frozen? ⟨w.heap.size+2,1,none⟩=false/\w'.frozen? ⟨w.heap.size+2,2,none⟩=false)
  (first|exact hS _ hz|exact hS _ (bh.sets (by assumption) _ _ _ _ _ _ _))
  (first
   |(go_at_call 83; have hc:=jK _ _ x.den (dm.below hz.1) IG; (with_reducible refine Calls.mono hc ?_); clear hc; rintro e wz ⟨S8,rfl,iq,hb⟩; (try have iq:=iq.below hb); (try have ir:=ir.below hb); (try have ik:=ik.below hb); (try have gW:=gW.below hb); (try have nX:=nX.below hb); (try have hs1:=hs1.below hb); have hz:=bh.call (by assumption) hb)
   |(go_at_call 83; have hc:=jK _ _ y.den (gw.below hz.1) LZ; (with_reducible refine Calls.mono hc ?_); clear hc; rintro e wz ⟨S9,rfl,ir,hb⟩; (try have iq:=iq.below hb); (try have ir:=ir.below hb); (try have ik:=ik.below hb); (try have gW:=gW.below hb); (try have nX:=nX.below hb); (try have hs1:=hs1.below hb); have hz:=bh.call (by assumption) hb)
   |(go_at_call 84; have hc:=jH _ _ _ _ _ (cC.below hz.1) (gB.below hz.1) HB.out.1.1 HB.out.2.1 ct kN; (with_reducible refine Calls.mono hc ?_); clear hc; rintro e wz ⟨S6,rfl,ik,hb⟩; (try have iq:=iq.below hb); (try have ir:=ir.below hb); (try have ik:=ik.below hb); (try have gW:=gW.below hb); (try have nX:=nX.below hb); (try have hs1:=hs1.below hb); have hz:=bh.call (by assumption) hb)
   |(go_at_call 84; have hc:=jH _ _ _ _ _ iq ir HB.out.1.2 HB.out.2.2 ct kN; (with_reducible refine Calls.mono hc ?_); clear hc; rintro e wz ⟨S7,rfl,gW,hb⟩; (try have iq:=iq.below hb); (try have ir:=ir.below hb); (try have ik:=ik.below hb); (try have gW:=gW.below hb); (try have nX:=nX.below hb); (try have hs1:=hs1.below hb); have hz:=bh.call (by assumption) hb)
   |(go_at_call 85; have hc:=iV _ (!(decide (x.num<0)==decide (y.num<0))) _ _ (x.num.natAbs*y.num.natAbs) (x.den*y.den) ik gW (Nat.mul_pos IG LZ) (HB.out.1.1.mul HB.out.2.1) (HB.out.1.2.mul HB.out.2.2) AB; (with_reducible refine Calls.mono hc ?_); clear hc; rintro e wz ⟨vr,rfl,Cn,hb⟩; replace Cn:=yN Cn (wS x y); obtain⟨PJ,PI,rfl,yI,hrd⟩:=Cn; obtain⟨rA,rU,rfl,_⟩:=id yI; obtain⟨rB,rV,rfl,_⟩:=id hrd; (try have iq:=iq.below hb); (try have ir:=ir.below hb); (try have ik:=ik.below hb); (try have gW:=gW.below hb); (try have nX:=nX.below hb); (try have hs1:=hs1.below hb); have hz:=bh.call (by assumption) hb))
 all_goals (
  go_wp2
  obtain⟨wf,HW,f0,f1,f2,dM⟩:=hz.fin rfl yI hrd
  (try rw[HW])
  (try simp only[Exit.inBlock,Exit.then])
  refine bodyPost_ret (by simp[results,Tryz.results47,go_sem,f0,f1,f2]; try rfl) rfl ?_
  first|exact dM|exact dM.drew)
set_option maxHeartbeats 8000000 in
theorem Lo (w:World) (vx vy:Value) (x y:Rat) (hx:bJ w vx x) (hy:bJ w vy y) (hy0:y.num≠0) {j k:Nat} (hj:cN j x) (hk:cN k y) (AB:j+k<=100000000):Calls Tryz.prog 118 #[vx,vy] w (jR w (x/y)):=by
 have HY:=bx hy0
 clear hy0
 obtain⟨tU,tV,rfl,cC,dm⟩:=id hx
 obtain⟨cQ,cS,rfl,_⟩:=id cC
 obtain⟨cR,cT,rfl,_⟩:=id dm
 obtain⟨Hl,Ho,rfl,gB,gw⟩:=id hy
 obtain⟨ez,eC,rfl,_⟩:=id gB
 obtain⟨eB,eD,rfl,_⟩:=id gw
 have IG:=x.den_pos
 have LZ:=y.den_pos
 have HB:=bx (And.intro hj hk)
 have ct:j<=1000000000:=by omega
 have kN:k<=1000000000:=by omega
 clear hj hk
 go_enter Tryz.func118,Tryz.ntmps118
 go_wp2_with fail
 obtain⟨w1,e1,o1,b1,s1⟩:=gj w (.bool (decide (x.num<0))) (.slice cQ (ae b64 x.num.natAbs).length cS) (.slice cR (ae b64 (ay x.den)).length cT) 54
 obtain⟨w2,e2,o2,b2,s2⟩:=gj w1 (.bool (decide (y.num<0))) (.slice ez (ae b64 y.num.natAbs).length eC) (.slice eB (ae b64 (ay y.den)).length eD) 54
 obtain⟨w3,e3,o3,b3,s3⟩:=gj w2 (.bool false) (.slice none 0 0) (.slice none 0 0) 54
 rw[e1,e2,e3]
 rw[s1]at o2
 rw[s2,s1]at o3
 have p1:=((o1.gone b2).gone b3)
 have p2:=(o2.gone b3)
 have p3:=o3
 have B0:=((b1.trans (b2.mono b1.size)).trans (b3.mono (b1.trans (b2.mono b1.size)).size))
 have hS:∀w',bh w (w.heap.size+2) 54 [(w.heap.size,.bool (decide (x.num<0)),.slice cQ (ae b64 x.num.natAbs).length cS,.slice cR (ae b64 (ay x.den)).length cT),(w.heap.size+1,.bool (decide (y.num<0)),.slice ez (ae b64 y.num.natAbs).length eC,.slice eB (ae b64 (ay y.den)).length eD)] w'->bh w (w.heap.size+2) 54 [(w.heap.size,.bool (decide (x.num<0)),.slice cQ (ae b64 x.num.natAbs).length cS,.slice cR (ae b64 (ay x.den)).length cT),(w.heap.size+1,.bool (decide (y.num<0)),.slice ez (ae b64 y.num.natAbs).length eC,.slice eB (ae b64 (ay y.den)).length eD)] w'/\w'.cell? ⟨w.heap.size,0,none⟩=some (.bool (decide (x.num<0)))/\w'.cell? ⟨w.heap.size,1,none⟩=some (.slice cQ (ae b64 x.num.natAbs).length cS)/\w'.cell? ⟨w.heap.size,2,none⟩=some (.slice cR (ae b64 (ay x.den)).length cT)/\w'.cell? ⟨w.heap.size+1,0,none⟩=some (.bool (decide (y.num<0)))/\w'.cell? ⟨w.heap.size+1,1,none⟩=some (.slice ez (ae b64 y.num.natAbs).length eC)/\w'.cell? ⟨w.heap.size+1,2,none⟩=some (.slice eB (ae b64 (ay y.den)).length eD)/\w'.cell? ⟨w.heap.size+2,0,none⟩=some (cv w' ⟨w.heap.size+2,0,none⟩)/\w'.cell? ⟨w.heap.size+2,1,none⟩=some (cv w' ⟨w.heap.size+2,1,none⟩)/\w'.cell? ⟨w.heap.size+2,2,none⟩=some (cv w' ⟨w.heap.size+2,2,none⟩)/\w'.frozen? ⟨w.heap.size+2,0,none⟩=false/\w'.frozen? ⟨w.heap.size+2,1,none⟩=false/\w'.frozen? ⟨w.heap.size+2,2,none⟩=false:=λw' hh=>by
  obtain⟨f0,f1,f2,f3,f4,f5⟩:=hh.cells
  have q1:=(hh.2.2.1 (w.heap.size,.bool (decide (x.num<0)),.slice cQ (ae b64 x.num.natAbs).length cS,.slice cR (ae b64 (ay x.den)).length cT) (by simp)).2
  have q2:=(hh.2.2.1 (w.heap.size+1,.bool (decide (y.num<0)),.slice ez (ae b64 y.num.natAbs).length eC,.slice eB (ae b64 (ay y.den)).length eD) (by simp)).2
  exact⟨hh,q1.c0,q1.c1,q1.c2,q2.c0,q2.c1,q2.c2,f0,f1,f2,f3,f4,f5⟩
 have H0:bh w (w.heap.size+2) 54 [(w.heap.size,.bool (decide (x.num<0)),.slice cQ (ae b64 x.num.natAbs).length cS,.slice cR (ae b64 (ay x.den)).length cT),(w.heap.size+1,.bool (decide (y.num<0)),.slice ez (ae b64 y.num.natAbs).length eC,.slice eB (ae b64 (ay y.den)).length eD)] w3:=⟨B0,by omega,by intro p hp; simp at hp; rcases hp with rfl|rfl; exact⟨by simp,p1⟩; exact⟨by simp,p2⟩,_,_,_,p3,da _,aU _ _ _,aU _ _ _⟩
 clear e1 e2 e3
 have hz:=H0.drew
 go_region_held3 (λw'=>bh w (w.heap.size+2) 54 [(w.heap.size,.bool (decide (x.num<0)),.slice cQ (ae b64 x.num.natAbs).length cS,.slice cR (ae b64 (ay x.den)).length cT),(w.heap.size+1,.bool (decide (y.num<0)),.slice ez (ae b64 y.num.natAbs).length eC,.slice eB (ae b64 (ay y.den)).length eD)] w'/\w'.cell? ⟨w.heap.size,0,none⟩=some (.bool (decide (x.num<0)))/\w'.cell? ⟨w.heap.size,1,none⟩=some (.slice cQ (ae b64 x.num.natAbs).length cS)/\w'.cell? ⟨w.heap.size,2,none⟩=some (.slice cR (ae b64 (ay x.den)).length cT)/\w'.cell? ⟨w.heap.size+1,0,none⟩=some (.bool (decide (y.num<0)))/\w'.cell? ⟨w.heap.size+1,1,none⟩=some (.slice ez (ae b64 y.num.natAbs).length eC)/\w'.cell? ⟨w.heap.size+1,2,none⟩=some (.slice eB (ae b64 (ay y.den)).length eD)/\w'.cell? ⟨w.heap.size+2,0,none⟩=some (cv w' ⟨w.heap.size+2,0,none⟩)/\w'.cell? ⟨w.heap.size+2,1,none⟩=some (cv w' ⟨w.heap.size+2,1,none⟩)/\w'.cell? ⟨w.heap.size+2,2,none⟩=some (cv w' ⟨w.heap.size+2,2,none⟩)/\w'.frozen? ⟨w.heap.size+2,0,none⟩=false/\w'.frozen? ⟨w.heap.size+2,1,none⟩=false/\w'.frozen? ⟨w.heap.size+2,2,none⟩=false)
  (first|exact hS _ hz|exact hS _ (bh.sets (by assumption) _ _ _ _ _ _ _))
  (first
   |(go_at_call 83; have hc:=jK _ _ x.den (dm.below hz.1) IG; (with_reducible refine Calls.mono hc ?_); clear hc; rintro e wz ⟨S8,rfl,iq,hb⟩; (try have iq:=iq.below hb); (try have ir:=ir.below hb); (try have ik:=ik.below hb); (try have gW:=gW.below hb); (try have nX:=nX.below hb); (try have hs1:=hs1.below hb); have hz:=bh.call (by assumption) hb)
   |(go_at_call 83; have hc:=jK _ _ y.den (gw.below hz.1) LZ; (with_reducible refine Calls.mono hc ?_); clear hc; rintro e wz ⟨S9,rfl,ir,hb⟩; (try have iq:=iq.below hb); (try have ir:=ir.below hb); (try have ik:=ik.below hb); (try have gW:=gW.below hb); (try have nX:=nX.below hb); (try have hs1:=hs1.below hb); have hz:=bh.call (by assumption) hb)
   |(go_at_call 84; have hc:=jH _ _ _ _ _ (cC.below hz.1) ir HB.out.1.1 HB.out.2.2 ct kN; (with_reducible refine Calls.mono hc ?_); clear hc; rintro e wz ⟨S6,rfl,ik,hb⟩; (try have iq:=iq.below hb); (try have ir:=ir.below hb); (try have ik:=ik.below hb); (try have gW:=gW.below hb); (try have nX:=nX.below hb); (try have hs1:=hs1.below hb); have hz:=bh.call (by assumption) hb)
   |(go_at_call 84; have hc:=jH _ _ _ _ _ iq (gB.below hz.1) HB.out.1.2 HB.out.2.1 ct kN; (with_reducible refine Calls.mono hc ?_); clear hc; rintro e wz ⟨S7,rfl,gW,hb⟩; (try have iq:=iq.below hb); (try have ir:=ir.below hb); (try have ik:=ik.below hb); (try have gW:=gW.below hb); (try have nX:=nX.below hb); (try have hs1:=hs1.below hb); have hz:=bh.call (by assumption) hb)
   |(go_at_call 85; have hc:=iV _ (!(decide (x.num<0)==decide (y.num<0))) _ _ (x.num.natAbs*y.den) (x.den*y.num.natAbs) ik gW (Nat.mul_pos IG (by have:=HY.out; omega)) (HB.out.1.1.mul HB.out.2.2) (HB.out.1.2.mul HB.out.2.1) AB; (with_reducible refine Calls.mono hc ?_); clear hc; rintro e wz ⟨vr,rfl,Cn,hb⟩; replace Cn:=yN Cn (wE x y HY.out); obtain⟨PJ,PI,rfl,yI,hrd⟩:=Cn; obtain⟨rA,rU,rfl,_⟩:=id yI; obtain⟨rB,rV,rfl,_⟩:=id hrd; (try have iq:=iq.below hb); (try have ir:=ir.below hb); (try have ik:=ik.below hb); (try have gW:=gW.below hb); (try have nX:=nX.below hb); (try have hs1:=hs1.below hb); have hz:=bh.call (by assumption) hb))
 all_goals (
  go_wp2
  obtain⟨wf,HW,f0,f1,f2,dM⟩:=hz.fin rfl yI hrd
  (try rw[HW])
  (try simp only[Exit.inBlock,Exit.then])
  refine bodyPost_ret (by simp[results,Tryz.results118,go_sem,f0,f1,f2]; try rfl) rfl ?_
  first|exact dM|exact dM.drew)
end Wx

namespace Wx
open Go Go.RowKit Go.Proofs
def iI (x:Rat):Int:=if x.num<0 then -1 else if x=0 then 0 else 1
theorem G3 (w:World) (vx:Value) (x:Rat) (hx:bJ w vx x):Calls Tryz.prog 45 #[vx] w (cP w (.int .i64 (iI x))):=by
 obtain⟨tU,tV,rfl,cC,dm⟩:=id hx
 obtain⟨cQ,cS,rfl,_⟩:=id cC
 obtain⟨cR,cT,rfl,_⟩:=id dm
 have hS:iI x=if x.num<0 then -1 else if x=0 then 0 else 1:=rfl
 generalize iI x=z at *
 by_cases h1:x.num<0
 ·rw[if_pos h1]at hS
  subst hS
  rw[decide_eq_true h1]at *
  go_enter Tryz.func45,Tryz.ntmps45
  go_wp2
  go_ret
  exact⟨rfl,Below.alloc (Below.refl _ _) (Nat.le_refl _) _⟩
 ·rw[if_neg h1]at hS
  rw[decide_eq_false h1]at *
  by_cases h2:x=0
  ·rw[if_pos h2]at hS
   subst hS
   have HD:=bx (decide_eq_true h2)
   clear h2
   go_enter Tryz.func45,Tryz.ntmps45
   go_wp2_with fail
   obtain⟨w1,e1,o1,b1,s1⟩:=gj w (.bool false) (.slice cQ (ae b64 x.num.natAbs).length cS) (.slice cR (ae b64 (ay x.den)).length cT) 54
   rw[e1]
   have hc:=zero_num w1 _ x (hx.below b1)
   rw[HD.out]at hc
   refine hc.mono ?_
   rintro e w2 ⟨rfl,hb⟩
   go_wp2
   go_ret
   exact⟨rfl,b1.trans (hb.mono b1.size)⟩
  ·rw[if_neg h2]at hS
   subst hS
   have HD:=bx (decide_eq_false h2)
   clear h2
   go_enter Tryz.func45,Tryz.ntmps45
   go_wp2_with fail
   obtain⟨w1,e1,o1,b1,s1⟩:=gj w (.bool false) (.slice cQ (ae b64 x.num.natAbs).length cS) (.slice cR (ae b64 (ay x.den)).length cT) 54
   rw[e1]
   have hc:=zero_num w1 _ x (hx.below b1)
   rw[HD.out]at hc
   refine hc.mono ?_
   rintro e w2 ⟨rfl,hb⟩
   go_wp2
   go_ret
   exact⟨rfl,b1.trans (hb.mono b1.size)⟩
end Wx

namespace Wx
open Go Go.RowKit Go.Proofs
end Wx

namespace Wx
open Go Go.RowKit Go.Proofs
theorem tK (w:World) (z:Int) (h1:-9223372036854775808<=z) (h2:z<=9223372036854775807):Calls Tryz.prog 59 #[.int .i64 z] w (dS .u64 b64 w z.natAbs):=by
 have Ic:Bx (z.natAbs<b64):=bx (by unfold b64; omega)
 by_cases hz:z<0
 ·have e1:IntKind.u64.wrap (-IntKind.u64.wrap z)=((z.natAbs:Nat):Int):=by
   simp[IntKind.wrap,IntKind.bits,IntKind.signed]; omega
  have E1:=bx e1
  clear e1
  go_enter Tryz.func59,Tryz.ntmps59
  go_wp2_with fail
  rw[E1.out]
  refine(lY w _ Ic.out).mono ?_
  rintro e w3 ⟨vr,rfl,hr3,hb3⟩
  go_wp2
  go_ret
  exact⟨_,rfl,hr3,hb3⟩
 ·have e1:z=((z.natAbs:Nat):Int):=by omega
  have E1:=bx e1
  clear e1
  go_enter Tryz.func59,Tryz.ntmps59
  go_wp2_with fail
  have hc:=lY w _ Ic.out
  rw[<-E1.out]at hc
  refine hc.mono ?_
  rintro e w3 ⟨vr,rfl,hr3,hb3⟩
  go_wp2
  go_ret
  exact⟨_,rfl,hr3,hb3⟩
theorem Cp (w:World) (z:Int) (h1:-9223372036854775808<=z) (h2:z<=9223372036854775807):Calls Tryz.prog 29 #[.int .i64 z] w (jR w (z:Rat)):=by
 have H:=bx (And.intro h1 h2)
 clear h1 h2
 go_enter Tryz.func29,Tryz.ntmps29
 go_wp2_with fail
 obtain⟨w1,e1,o1,b1,s1⟩:=gj w (.bool false) (.slice none 0 0) (.slice none 0 0) 54
 rw[e1]
 refine(tK w1 z H.out.1 H.out.2).mono ?_
 rintro e w2 ⟨v,rfl,hv,hb⟩
 obtain⟨A1,c1,rfl,_⟩:=id hv
 have hz:bh w w.heap.size 54 [] w2:=⟨b1.trans (hb.mono b1.size),Nat.le_refl _,by simp,_,_,_,o1.gone hb,da _,aU _ _ _,aU _ _ _⟩
 obtain⟨k0,k1,k2,k3,k4,k5⟩:=hz.cells
 clear e1
 go_wp2
 obtain⟨wf,HW,f0,f1,f2,dM⟩:=hz.fin (q:=(z:Rat)) (A2:=none) (l2:=0) (c2:=0) rfl (by rw[Rat.num_intCast]; exact hv) (by rw[Rat.den_intCast]; exact aZ.zero _ _ _)
 rw[Rat.num_intCast]at HW f0 dM
 rw[HW]
 (try simp only[Exit.inBlock,Exit.then])
 refine bodyPost_ret (by simp[results,Tryz.results29,go_sem,f0,f1,f2]; try rfl) rfl ?_
 exact dM
def nK (w:World) (q:Rat) (err:Int) (e:Ending) (w':World):Prop:=∃v,e=.returned (.tuple #[v,.int .i64 err])/\bJ w' v q/\Below w.heap.size w w'
theorem nK.of {w:World} {q:Rat} {v:Value} {w':World} (h:jR w q (.returned v) w') (err:Int):nK w q err (.returned (.tuple #[v,.int .i64 err])) w':=by
 obtain⟨v',e,h1,h2⟩:=h
 injection e with e
 subst e
 exact⟨_,rfl,h1,h2⟩
def sQ (n d:Int):Rat:=cI (!(decide (n<0)==decide (d<0))) n.natAbs d.natAbs
theorem Jc (w:World) (n d:Int) (h1:-9223372036854775808<=n) (h2:n<=9223372036854775807) (h3:-9223372036854775808<=d) (h4:d<=9223372036854775807) (hd:d≠0):
  Calls Tryz.prog 81 #[.int .i64 n,.int .i64 d] w (nK w (sQ n d) 0):=by
 have H:=bx (And.intro (And.intro h1 h2) (And.intro h3 h4))
 have HD:=bx hd
 have Ey:(d==0)=false:=beq_eq_false_iff_ne.2 hd
 have B1:Bx (Bd 64 n.natAbs):=bx (by unfold Bd; omega)
 have B2:Bx (Bd 64 d.natAbs):=bx (by unfold Bd; omega)
 clear h1 h2 h3 h4 hd
 go_enter Tryz.func81,Tryz.ntmps81
 go_wp2_with fail
 obtain⟨w1,e1,o1,b1,s1⟩:=gj w (.bool false) (.slice none 0 0) (.slice none 0 0) 54
 rw[e1]
 refine(tK w1 n H.out.1.1 H.out.1.2).mono ?_
 rintro e w2 ⟨vn,rfl,hn,hb⟩
 go_wp2_with fail
 refine(tK w2 d H.out.2.1 H.out.2.2).mono ?_
 rintro e w3 ⟨vd,rfl,hd,hb3⟩
 have V4:=hn.below hb3
 go_wp2_with fail
 refine(iV w3 _ _ _ _ _ V4 hd (by have:=HD.out; omega) B1.out B2.out (by omega)).mono ?_
 rintro e w4 ⟨vr,rfl,Cn,hb4⟩
 change bJ w4 vr (sQ n d)at Cn
 obtain⟨PJ,PI,rfl,yI,hrd⟩:=Cn
 obtain⟨rA,rU,rfl,_⟩:=id yI
 obtain⟨rB,rV,rfl,_⟩:=id hrd
 have o4:=((o1.gone hb).gone hb3).gone hb4
 have hz:bh w w.heap.size 54 [] w4:=⟨((b1.trans (hb.mono b1.size)).trans (hb3.mono (Nat.le_trans b1.size hb.size))).trans (hb4.mono (Nat.le_trans (Nat.le_trans b1.size hb.size) hb3.size)),Nat.le_refl _,by simp,_,_,_,o4,da _,aU _ _ _,aU _ _ _⟩
 obtain⟨k0,k1,k2,k3,k4,k5⟩:=hz.cells
 clear e1
 go_wp2
 obtain⟨wf,HW,f0,f1,f2,dM⟩:=hz.fin rfl yI hrd
 rw[HW]
 (try simp only[Exit.inBlock,Exit.then])
 refine bodyPost_ret (by simp[results,Tryz.results81,go_sem,f0,f1,f2]; try rfl) rfl ?_
 exact nK.of dM 0
end Wx
