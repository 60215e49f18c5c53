import Derived.Test.YtadigiledciihaaGreatCRDAddS
namespace Wx
set_option maxRecDepth 100000
open Go Go.RowKit Go.Proofs
theorem xe {w:World} {v:Value} {p q:Rat} (h:cV w v p) (e:q=p):cV w v q:=e▸h
set_option maxHeartbeats 8000000 in
theorem G3 (w:World) (vx vy:Value) (x y:Rat) (hx:cV w vx x) (hy:cV w vy y) {j k:Nat} (hj:dB j x) (hk:dB k y) (vP:j+k<=100000000):Calls Tryz.prog 47 #[vx,vy] w (jR w (x*y)):=by
 obtain⟨BJ,BK,rfl,je,gH⟩:=id hx
 obtain⟨cH,cJ,rfl,_⟩:=id je
 obtain⟨cI,cK,rfl,_⟩:=id gH
 obtain⟨Lz,LA,rfl,vR,qT⟩:=id hy
 obtain⟨fq,fB,rfl,_⟩:=id vR
 obtain⟨fu,fC,rfl,_⟩:=id qT
 have Kf:=x.den_pos
 have Ln:=y.den_pos
 have HB:=bx (And.intro hj hk)
 have cQ:j<=1000000000:=by omega
 have lQ:k<=1000000000:=by omega
 clear hj hk
 go_enter Tryz.func47,Tryz.ntmps47
 go_wp2_with fail
 obtain⟨w1,e1,o1,b1,s1⟩:=jo w (.bool (decide (x.num<0))) (.slice cH (ae b64 x.num.natAbs).length cJ) (.slice cI (ae b64 (aL x.den)).length cK) 54
 obtain⟨w2,e2,o2,b2,s2⟩:=jo w1 (.bool (decide (y.num<0))) (.slice fq (ae b64 y.num.natAbs).length fB) (.slice fu (ae b64 (aL y.den)).length fC) 54
 obtain⟨w3,e3,o3,b3,s3⟩:=jo w2 (.bool false) (.slice none 0 0) (.slice none 0 0) 54
 rw[e1,e2,e3]
 rw[s1]at o2
 rw[s2,s1]at o3
 have p1:=((o1.gone b2).gone b3)
 have p2:=(o2.gone b3)
 have p3:=o3
 have B0:=((b1.trans (b2.mono b1.size)).trans (b3.mono (b1.trans (b2.mono b1.size)).size))
 have hS:∀w',aZ w (w.heap.size+2) 54 [(w.heap.size,.bool (decide (x.num<0)),.slice cH (ae b64 x.num.natAbs).length cJ,.slice cI (ae b64 (aL x.den)).length cK),(w.heap.size+1,.bool (decide (y.num<0)),.slice fq (ae b64 y.num.natAbs).length fB,.slice fu (ae b64 (aL y.den)).length fC)] w'->aZ w (w.heap.size+2) 54 [(w.heap.size,.bool (decide (x.num<0)),.slice cH (ae b64 x.num.natAbs).length cJ,.slice cI (ae b64 (aL x.den)).length cK),(w.heap.size+1,.bool (decide (y.num<0)),.slice fq (ae b64 y.num.natAbs).length fB,.slice fu (ae b64 (aL y.den)).length fC)] w'/\w'.cell? ⟨w.heap.size,0,none⟩=some (.bool (decide (x.num<0)))/\w'.cell? ⟨w.heap.size,1,none⟩=some (.slice cH (ae b64 x.num.natAbs).length cJ)/\w'.cell? ⟨w.heap.size,2,none⟩=some (.slice cI (ae b64 (aL x.den)).length cK)/\w'.cell? ⟨w.heap.size+1,0,none⟩=some (.bool (decide (y.num<0)))/\w'.cell? ⟨w.heap.size+1,1,none⟩=some (.slice fq (ae b64 y.num.natAbs).length fB)/\w'.cell? ⟨w.heap.size+1,2,none⟩=some (.slice fu (ae b64 (aL y.den)).length fC)/\w'.cell? ⟨w.heap.size+2,0,none⟩=some (cv w' ⟨w.heap.size+2,0,none⟩)/\w'.cell? ⟨w.heap.size+2,1,none⟩=some (cv w' ⟨w.heap.size+2,1,none⟩)/\w'.cell? ⟨w.heap.size+2,2,none⟩=some (cv w' ⟨w.heap.size+2,2,none⟩)/\w'.frozen? ⟨w.heap.size+2,0,none⟩=false/\w'.frozen? ⟨w.heap.size+2,1,none⟩=false/\w'.frozen? ⟨w.heap.size+2,2,none⟩=false:=λw' hh=>by
  obtain⟨f0,f1,f2,f3,f4,f5⟩:=hh.cells
  have q1:=(hh.2.2.1 (w.heap.size,.bool (decide (x.num<0)),.slice cH (ae b64 x.num.natAbs).length cJ,.slice cI (ae b64 (aL x.den)).length cK) (by simp)).2
  have q2:=(hh.2.2.1 (w.heap.size+1,.bool (decide (y.num<0)),.slice fq (ae b64 y.num.natAbs).length fB,.slice fu (ae b64 (aL y.den)).length fC) (by simp)).2
  exact⟨hh,q1.c0,q1.c1,q1.c2,q2.c0,q2.c1,q2.c2,f0,f1,f2,f3,f4,f5⟩
 have H0:aZ w (w.heap.size+2) 54 [(w.heap.size,.bool (decide (x.num<0)),.slice cH (ae b64 x.num.natAbs).length cJ,.slice cI (ae b64 (aL x.den)).length cK),(w.heap.size+1,.bool (decide (y.num<0)),.slice fq (ae b64 y.num.natAbs).length fB,.slice fu (ae b64 (aL y.den)).length fC)] w3:=⟨B0,by omega,by intro p hp; simp at hp; rcases hp with rfl|rfl; exact⟨by simp,p1⟩; exact⟨by simp,p2⟩,_,_,_,p3,da _,aU _ _ _,aU _ _ _⟩
 clear e1 e2 e3
 have hz:=H0.drew
 go_region_held3 (λw'=>aZ w (w.heap.size+2) 54 [(w.heap.size,.bool (decide (x.num<0)),.slice cH (ae b64 x.num.natAbs).length cJ,.slice cI (ae b64 (aL x.den)).length cK),(w.heap.size+1,.bool (decide (y.num<0)),.slice fq (ae b64 y.num.natAbs).length fB,.slice fu (ae b64 (aL y.den)).length fC)] w'/\w'.cell? ⟨w.heap.size,0,none⟩=some (.bool (decide (x.num<0)))/\w'.cell? ⟨w.heap.size,1,none⟩=some (.slice cH (ae b64 x.num.natAbs).length cJ)/\w'.cell? ⟨w.heap.size,2,none⟩=some (.slice cI (ae b64 (aL x.den)).length cK)/\w'.cell? ⟨w.heap.size+1,0,none⟩=some (.bool (decide (y.num<0)))/\w'.cell? ⟨w.heap.size+1,1,none⟩=some (.slice fq (ae b64 y.num.natAbs).length fB)/\w'.cell? ⟨w.heap.size+1,2,none⟩=some (.slice fu (ae b64 (aL y.den)).length fC)/\w'.cell? ⟨w.heap.size+2,0,none⟩=some (cv w' ⟨w.heap.size+2,0,none⟩)/\w'.cell? ⟨w.heap.size+2,1,none⟩=some (cv w' ⟨w.heap.size+2,1,none⟩)/\w'.cell? ⟨w.heap.size+2,2,none⟩=some (cv w' ⟨w.heap.size+2,2,none⟩)/\w'.frozen? ⟨w.heap.size+2,0,none⟩=false/\w'.frozen? ⟨w.heap.size+2,1,none⟩=false/\w'.frozen? ⟨w.heap.size+2,2,none⟩=false)
  (first|exact hS _ hz|exact hS _ (aZ.sets (by assumption) _ _ _ _ _ _ _))
  (first
   |(go_at_call 83; have hc:=ja _ _ x.den (gH.below hz.1) Kf; (with_reducible refine Calls.mono hc ?_); clear hc; rintro e wz ⟨Su,rfl,kE,hb⟩; (try have kE:=kE.below hb); (try have kF:=kF.below hb); (try have kC:=kC.below hb); (try have jO:=jO.below hb); (try have mU:=mU.below hb); (try have hs1:=hs1.below hb); have hz:=aZ.call (by assumption) hb)
   |(go_at_call 83; have hc:=ja _ _ y.den (qT.below hz.1) Ln; (with_reducible refine Calls.mono hc ?_); clear hc; rintro e wz ⟨Sv,rfl,kF,hb⟩; (try have kE:=kE.below hb); (try have kF:=kF.below hb); (try have kC:=kC.below hb); (try have jO:=jO.below hb); (try have mU:=mU.below hb); (try have hs1:=hs1.below hb); have hz:=aZ.call (by assumption) hb)
   |(go_at_call 84; have hc:=iY _ _ _ _ _ (je.below hz.1) (vR.below hz.1) HB.out.1.1 HB.out.2.1 cQ lQ; (with_reducible refine Calls.mono hc ?_); clear hc; rintro e wz ⟨Sr,rfl,kC,hb⟩; (try have kE:=kE.below hb); (try have kF:=kF.below hb); (try have kC:=kC.below hb); (try have jO:=jO.below hb); (try have mU:=mU.below hb); (try have hs1:=hs1.below hb); have hz:=aZ.call (by assumption) hb)
   |(go_at_call 84; have hc:=iY _ _ _ _ _ kE kF HB.out.1.2 HB.out.2.2 cQ lQ; (with_reducible refine Calls.mono hc ?_); clear hc; rintro e wz ⟨Ss,rfl,jO,hb⟩; (try have kE:=kE.below hb); (try have kF:=kF.below hb); (try have kC:=kC.below hb); (try have jO:=jO.below hb); (try have mU:=mU.below hb); (try have hs1:=hs1.below hb); have hz:=aZ.call (by assumption) hb)
   |(go_at_call 85; have hc:=kQ _ (!(decide (x.num<0)==decide (y.num<0))) _ _ (x.num.natAbs*y.num.natAbs) (x.den*y.den) kC jO (Nat.mul_pos Kf Ln) (HB.out.1.1.mul HB.out.2.1) (HB.out.1.2.mul HB.out.2.2) vP; (with_reducible refine Calls.mono hc ?_); clear hc; rintro e wz ⟨vr,rfl,GB,hb⟩; replace GB:=xe GB (uQ x y); obtain⟨Sq,Sn,rfl,F0,hrd⟩:=GB; obtain⟨Ie,Iu,rfl,_⟩:=id F0; obtain⟨Ig,Iv,rfl,_⟩:=id hrd; (try have kE:=kE.below hb); (try have kF:=kF.below hb); (try have kC:=kC.below hb); (try have jO:=jO.below hb); (try have mU:=mU.below hb); (try have hs1:=hs1.below hb); have hz:=aZ.call (by assumption) hb))
 all_goals (
  go_wp2
  obtain⟨wf,HW,f0,f1,f2,dJ⟩:=hz.fin rfl F0 hrd
  (try rw[HW])
  (try simp only[Exit.inBlock,Exit.then])
  refine bodyPost_ret (by simp[results,Tryz.results47,go_sem,f0,f1,f2]; try rfl) rfl ?_
  first|exact dJ|exact dJ.drew)
set_option maxHeartbeats 8000000 in
theorem JF (w:World) (vx vy:Value) (x y:Rat) (hx:cV w vx x) (hy:cV w vy y) (hy0:y.num≠0) {j k:Nat} (hj:dB j x) (hk:dB k y) (vP:j+k<=100000000):Calls Tryz.prog 118 #[vx,vy] w (jR w (x/y)):=by
 have HY:=bx hy0
 clear hy0
 obtain⟨BJ,BK,rfl,je,gH⟩:=id hx
 obtain⟨cH,cJ,rfl,_⟩:=id je
 obtain⟨cI,cK,rfl,_⟩:=id gH
 obtain⟨Lz,LA,rfl,vR,qT⟩:=id hy
 obtain⟨fq,fB,rfl,_⟩:=id vR
 obtain⟨fu,fC,rfl,_⟩:=id qT
 have Kf:=x.den_pos
 have Ln:=y.den_pos
 have HB:=bx (And.intro hj hk)
 have cQ:j<=1000000000:=by omega
 have lQ:k<=1000000000:=by omega
 clear hj hk
 go_enter Tryz.func118,Tryz.ntmps118
 go_wp2_with fail
 obtain⟨w1,e1,o1,b1,s1⟩:=jo w (.bool (decide (x.num<0))) (.slice cH (ae b64 x.num.natAbs).length cJ) (.slice cI (ae b64 (aL x.den)).length cK) 54
 obtain⟨w2,e2,o2,b2,s2⟩:=jo w1 (.bool (decide (y.num<0))) (.slice fq (ae b64 y.num.natAbs).length fB) (.slice fu (ae b64 (aL y.den)).length fC) 54
 obtain⟨w3,e3,o3,b3,s3⟩:=jo w2 (.bool false) (.slice none 0 0) (.slice none 0 0) 54
 rw[e1,e2,e3]
 rw[s1]at o2
 rw[s2,s1]at o3
 have p1:=((o1.gone b2).gone b3)
 have p2:=(o2.gone b3)
 have p3:=o3
 have B0:=((b1.trans (b2.mono b1.size)).trans (b3.mono (b1.trans (b2.mono b1.size)).size))
 have hS:∀w',aZ w (w.heap.size+2) 54 [(w.heap.size,.bool (decide (x.num<0)),.slice cH (ae b64 x.num.natAbs).length cJ,.slice cI (ae b64 (aL x.den)).length cK),(w.heap.size+1,.bool (decide (y.num<0)),.slice fq (ae b64 y.num.natAbs).length fB,.slice fu (ae b64 (aL y.den)).length fC)] w'->aZ w (w.heap.size+2) 54 [(w.heap.size,.bool (decide (x.num<0)),.slice cH (ae b64 x.num.natAbs).length cJ,.slice cI (ae b64 (aL x.den)).length cK),(w.heap.size+1,.bool (decide (y.num<0)),.slice fq (ae b64 y.num.natAbs).length fB,.slice fu (ae b64 (aL y.den)).length fC)] w'/\w'.cell? ⟨w.heap.size,0,none⟩=some (.bool (decide (x.num<0)))/\w'.cell? ⟨w.heap.size,1,none⟩=some (.slice cH (ae b64 x.num.natAbs).length cJ)/\w'.cell? ⟨w.heap.size,2,none⟩=some (.slice cI (ae b64 (aL x.den)).length cK)/\w'.cell? ⟨w.heap.size+1,0,none⟩=some (.bool (decide (y.num<0)))/\w'.cell? ⟨w.heap.size+1,1,none⟩=some (.slice fq (ae b64 y.num.natAbs).length fB)/\w'.cell? ⟨w.heap.size+1,2,none⟩=some (.slice fu (ae b64 (aL y.den)).length fC)/\w'.cell? ⟨w.heap.size+2,0,none⟩=some (cv w' ⟨w.heap.size+2,0,none⟩)/\w'.cell? ⟨w.heap.size+2,1,none⟩=some (cv w' ⟨w.heap.size+2,1,none⟩)/\w'.cell? ⟨w.heap.size+2,2,none⟩=some (cv w' ⟨w.heap.size+2,2,none⟩)/\w'.frozen? ⟨w.heap.size+2,0,none⟩=false/\w'.frozen? ⟨w.heap.size+2,1,none⟩=false/\w'.frozen? ⟨w.heap.size+2,2,none⟩=false:=λw' hh=>by
  obtain⟨f0,f1,f2,f3,f4,f5⟩:=hh.cells
  have q1:=(hh.2.2.1 (w.heap.size,.bool (decide (x.num<0)),.slice cH (ae b64 x.num.natAbs).length cJ,.slice cI (ae b64 (aL x.den)).length cK) (by simp)).2
  have q2:=(hh.2.2.1 (w.heap.size+1,.bool (decide (y.num<0)),.slice fq (ae b64 y.num.natAbs).length fB,.slice fu (ae b64 (aL y.den)).length fC) (by simp)).2
  exact⟨hh,q1.c0,q1.c1,q1.c2,q2.c0,q2.c1,q2.c2,f0,f1,f2,f3,f4,f5⟩
 have H0:aZ w (w.heap.size+2) 54 [(w.heap.size,.bool (decide (x.num<0)),.slice cH (ae b64 x.num.natAbs).length cJ,.slice cI (ae b64 (aL x.den)).length cK),(w.heap.size+1,.bool (decide (y.num<0)),.slice fq (ae b64 y.num.natAbs).length fB,.slice fu (ae b64 (aL y.den)).length fC)] w3:=⟨B0,by omega,by intro p hp; simp at hp; rcases hp with rfl|rfl; exact⟨by simp,p1⟩; exact⟨by simp,p2⟩,_,_,_,p3,da _,aU _ _ _,aU _ _ _⟩
 clear e1 e2 e3
 have hz:=H0.drew
 go_region_held3 (λw'=>aZ w (w.heap.size+2) 54 [(w.heap.size,.bool (decide (x.num<0)),.slice cH (ae b64 x.num.natAbs).length cJ,.slice cI (ae b64 (aL x.den)).length cK),(w.heap.size+1,.bool (decide (y.num<0)),.slice fq (ae b64 y.num.natAbs).length fB,.slice fu (ae b64 (aL y.den)).length fC)] w'/\w'.cell? ⟨w.heap.size,0,none⟩=some (.bool (decide (x.num<0)))/\w'.cell? ⟨w.heap.size,1,none⟩=some (.slice cH (ae b64 x.num.natAbs).length cJ)/\w'.cell? ⟨w.heap.size,2,none⟩=some (.slice cI (ae b64 (aL x.den)).length cK)/\w'.cell? ⟨w.heap.size+1,0,none⟩=some (.bool (decide (y.num<0)))/\w'.cell? ⟨w.heap.size+1,1,none⟩=some (.slice fq (ae b64 y.num.natAbs).length fB)/\w'.cell? ⟨w.heap.size+1,2,none⟩=some (.slice fu (ae b64 (aL y.den)).length fC)/\w'.cell? ⟨w.heap.size+2,0,none⟩=some (cv w' ⟨w.heap.size+2,0,none⟩)/\w'.cell? ⟨w.heap.size+2,1,none⟩=some (cv w' ⟨w.heap.size+2,1,none⟩)/\w'.cell? ⟨w.heap.size+2,2,none⟩=some (cv w' ⟨w.heap.size+2,2,none⟩)/\w'.frozen? ⟨w.heap.size+2,0,none⟩=false/\w'.frozen? ⟨w.heap.size+2,1,none⟩=false/\w'.frozen? ⟨w.heap.size+2,2,none⟩=false)
  (first|exact hS _ hz|exact hS _ (aZ.sets (by assumption) _ _ _ _ _ _ _))
  (first
   |(go_at_call 83; have hc:=ja _ _ x.den (gH.below hz.1) Kf; (with_reducible refine Calls.mono hc ?_); clear hc; rintro e wz ⟨Su,rfl,kE,hb⟩; (try have kE:=kE.below hb); (try have kF:=kF.below hb); (try have kC:=kC.below hb); (try have jO:=jO.below hb); (try have mU:=mU.below hb); (try have hs1:=hs1.below hb); have hz:=aZ.call (by assumption) hb)
   |(go_at_call 83; have hc:=ja _ _ y.den (qT.below hz.1) Ln; (with_reducible refine Calls.mono hc ?_); clear hc; rintro e wz ⟨Sv,rfl,kF,hb⟩; (try have kE:=kE.below hb); (try have kF:=kF.below hb); (try have kC:=kC.below hb); (try have jO:=jO.below hb); (try have mU:=mU.below hb); (try have hs1:=hs1.below hb); have hz:=aZ.call (by assumption) hb)
   |(go_at_call 84; have hc:=iY _ _ _ _ _ (je.below hz.1) kF HB.out.1.1 HB.out.2.2 cQ lQ; (with_reducible refine Calls.mono hc ?_); clear hc; rintro e wz ⟨Sr,rfl,kC,hb⟩; (try have kE:=kE.below hb); (try have kF:=kF.below hb); (try have kC:=kC.below hb); (try have jO:=jO.below hb); (try have mU:=mU.below hb); (try have hs1:=hs1.below hb); have hz:=aZ.call (by assumption) hb)
   |(go_at_call 84; have hc:=iY _ _ _ _ _ kE (vR.below hz.1) HB.out.1.2 HB.out.2.1 cQ lQ; (with_reducible refine Calls.mono hc ?_); clear hc; rintro e wz ⟨Ss,rfl,jO,hb⟩; (try have kE:=kE.below hb); (try have kF:=kF.below hb); (try have kC:=kC.below hb); (try have jO:=jO.below hb); (try have mU:=mU.below hb); (try have hs1:=hs1.below hb); have hz:=aZ.call (by assumption) hb)
   |(go_at_call 85; have hc:=kQ _ (!(decide (x.num<0)==decide (y.num<0))) _ _ (x.num.natAbs*y.den) (x.den*y.num.natAbs) kC jO (Nat.mul_pos Kf (by have:=HY.out; omega)) (HB.out.1.1.mul HB.out.2.2) (HB.out.1.2.mul HB.out.2.1) vP; (with_reducible refine Calls.mono hc ?_); clear hc; rintro e wz ⟨vr,rfl,GB,hb⟩; replace GB:=xe GB (AK x y HY.out); obtain⟨Sq,Sn,rfl,F0,hrd⟩:=GB; obtain⟨Ie,Iu,rfl,_⟩:=id F0; obtain⟨Ig,Iv,rfl,_⟩:=id hrd; (try have kE:=kE.below hb); (try have kF:=kF.below hb); (try have kC:=kC.below hb); (try have jO:=jO.below hb); (try have mU:=mU.below hb); (try have hs1:=hs1.below hb); have hz:=aZ.call (by assumption) hb))
 all_goals (
  go_wp2
  obtain⟨wf,HW,f0,f1,f2,dJ⟩:=hz.fin rfl F0 hrd
  (try rw[HW])
  (try simp only[Exit.inBlock,Exit.then])
  refine bodyPost_ret (by simp[results,Tryz.results118,go_sem,f0,f1,f2]; try rfl) rfl ?_
  first|exact dJ|exact dJ.drew)
end Wx

namespace Wx
open Go Go.RowKit Go.Proofs
def ou (x:Rat):Int:=if x.num<0 then -1 else if x=0 then 0 else 1
theorem Fx (w:World) (vx:Value) (x:Rat) (hx:cV w vx x):Calls Tryz.prog 45 #[vx] w (eC w (.int .i64 (ou x))):=by
 obtain⟨BJ,BK,rfl,je,gH⟩:=id hx
 obtain⟨cH,cJ,rfl,_⟩:=id je
 obtain⟨cI,cK,rfl,_⟩:=id gH
 have hS:ou x=if x.num<0 then -1 else if x=0 then 0 else 1:=rfl
 generalize ou x=z at *
 by_cases h1:x.num<0
 ·rw[if_pos h1]at hS
  subst hS
  rw[decide_eq_true h1]at *
  go_enter Tryz.func45,Tryz.ntmps45
  go_wp2
  go_ret
  exact⟨rfl,Below.alloc (Below.refl _ _) (Nat.le_refl _) _⟩
 ·rw[if_neg h1]at hS
  rw[decide_eq_false h1]at *
  by_cases h2:x=0
  ·rw[if_pos h2]at hS
   subst hS
   have HD:=bx (decide_eq_true h2)
   clear h2
   go_enter Tryz.func45,Tryz.ntmps45
   go_wp2_with fail
   obtain⟨w1,e1,o1,b1,s1⟩:=jo w (.bool false) (.slice cH (ae b64 x.num.natAbs).length cJ) (.slice cI (ae b64 (aL x.den)).length cK) 54
   rw[e1]
   have hc:=zero_num w1 _ x (hx.below b1)
   rw[HD.out]at hc
   refine hc.mono ?_
   rintro e w2 ⟨rfl,hb⟩
   go_wp2
   go_ret
   exact⟨rfl,b1.trans (hb.mono b1.size)⟩
  ·rw[if_neg h2]at hS
   subst hS
   have HD:=bx (decide_eq_false h2)
   clear h2
   go_enter Tryz.func45,Tryz.ntmps45
   go_wp2_with fail
   obtain⟨w1,e1,o1,b1,s1⟩:=jo w (.bool false) (.slice cH (ae b64 x.num.natAbs).length cJ) (.slice cI (ae b64 (aL x.den)).length cK) 54
   rw[e1]
   have hc:=zero_num w1 _ x (hx.below b1)
   rw[HD.out]at hc
   refine hc.mono ?_
   rintro e w2 ⟨rfl,hb⟩
   go_wp2
   go_ret
   exact⟨rfl,b1.trans (hb.mono b1.size)⟩
end Wx

namespace Wx
open Go Go.RowKit Go.Proofs
end Wx

namespace Wx
open Go Go.RowKit Go.Proofs
theorem Fy (w:World) (z:Int) (h1:-9223372036854775808<=z) (h2:z<=9223372036854775807):Calls Tryz.prog 59 #[.int .i64 z] w (dG .u64 b64 w z.natAbs):=by
 have Ga:Bx (z.natAbs<b64):=bx (by unfold b64; omega)
 by_cases hz:z<0
 ·have e1:IntKind.u64.wrap (-IntKind.u64.wrap z)=((z.natAbs:Nat):Int):=by
   simp[IntKind.wrap,IntKind.bits,IntKind.signed]; omega
  have E1:=bx e1
  clear e1
  go_enter Tryz.func59,Tryz.ntmps59
  go_wp2_with fail
  rw[E1.out]
  refine(kX w _ Ga.out).mono ?_
  rintro e w3 ⟨vr,rfl,hr3,hb3⟩
  go_wp2
  go_ret
  exact⟨_,rfl,hr3,hb3⟩
 ·have e1:z=((z.natAbs:Nat):Int):=by omega
  have E1:=bx e1
  clear e1
  go_enter Tryz.func59,Tryz.ntmps59
  go_wp2_with fail
  have hc:=kX w _ Ga.out
  rw[<-E1.out]at hc
  refine hc.mono ?_
  rintro e w3 ⟨vr,rfl,hr3,hb3⟩
  go_wp2
  go_ret
  exact⟨_,rfl,hr3,hb3⟩
theorem GH (w:World) (z:Int) (h1:-9223372036854775808<=z) (h2:z<=9223372036854775807):Calls Tryz.prog 29 #[.int .i64 z] w (jR w (z:Rat)):=by
 have H:=bx (And.intro h1 h2)
 clear h1 h2
 go_enter Tryz.func29,Tryz.ntmps29
 go_wp2_with fail
 obtain⟨w1,e1,o1,b1,s1⟩:=jo w (.bool false) (.slice none 0 0) (.slice none 0 0) 54
 rw[e1]
 refine(Fy w1 z H.out.1 H.out.2).mono ?_
 rintro e w2 ⟨v,rfl,hv,hb⟩
 obtain⟨A1,c1,rfl,_⟩:=id hv
 have hz:aZ w w.heap.size 54 [] w2:=⟨b1.trans (hb.mono b1.size),Nat.le_refl _,by simp,_,_,_,o1.gone hb,da _,aU _ _ _,aU _ _ _⟩
 obtain⟨k0,k1,k2,k3,k4,k5⟩:=hz.cells
 clear e1
 go_wp2
 obtain⟨wf,HW,f0,f1,f2,dJ⟩:=hz.fin (q:=(z:Rat)) (A2:=none) (l2:=0) (c2:=0) rfl (by rw[Rat.num_intCast]; exact hv) (by rw[Rat.den_intCast]; exact aV.zero _ _ _)
 rw[Rat.num_intCast]at HW f0 dJ
 rw[HW]
 (try simp only[Exit.inBlock,Exit.then])
 refine bodyPost_ret (by simp[results,Tryz.results29,go_sem,f0,f1,f2]; try rfl) rfl ?_
 exact dJ
def qh (w:World) (q:Rat) (err:Int) (e:Ending) (w':World):Prop:=∃v,e=.returned (.tuple #[v,.int .i64 err])/\cV w' v q/\Below w.heap.size w w'
theorem qh.of {w:World} {q:Rat} {v:Value} {w':World} (h:jR w q (.returned v) w') (err:Int):qh w q err (.returned (.tuple #[v,.int .i64 err])) w':=by
 obtain⟨v',e,h1,h2⟩:=h
 injection e with e
 subst e
 exact⟨_,rfl,h1,h2⟩
end Wx

namespace Wx
open Go Go.RowKit Go.Proofs
set_option maxHeartbeats 2000000 in
theorem div_zero (w:World) (vx vy:Value) (x y:Rat) (hx:cV w vx x) (hy:cV w vy y) (hy0:y=0):Calls Tryz.prog 88 #[vx,vy] w (qh w (0) 3):=by
 obtain⟨BJ,BK,rfl,je,gH⟩:=id hx
 obtain⟨cH,cJ,rfl,_⟩:=id je
 obtain⟨cI,cK,rfl,_⟩:=id gH
 obtain⟨Lz,LA,rfl,vR,qT⟩:=id hy
 obtain⟨fq,fB,rfl,_⟩:=id vR
 obtain⟨fu,fC,rfl,_⟩:=id qT
 have HY:=bx hy0
 clear hy0
 go_enter Tryz.func88,Tryz.ntmps88
 go_wp2_with fail
 obtain⟨w1,e1,o1,b1,s1⟩:=jo w (.bool (decide (x.num<0))) (.slice cH (ae b64 x.num.natAbs).length cJ) (.slice cI (ae b64 (aL x.den)).length cK) 54
 obtain⟨w2,e2,o2,b2,s2⟩:=jo w1 (.bool (decide (y.num<0))) (.slice fq (ae b64 y.num.natAbs).length fB) (.slice fu (ae b64 (aL y.den)).length fC) 54
 obtain⟨w3,e3,o3,b3,s3⟩:=jo w2 (.bool false) (.slice none 0 0) (.slice none 0 0) 54
 rw[e1,e2,e3]
 rw[s1]at o2
 rw[s2,s1]at o3
 have p1:=((o1.gone b2).gone b3)
 have p2:=(o2.gone b3)
 have p3:=o3
 have B0:=((b1.trans (b2.mono b1.size)).trans (b3.mono (b1.trans (b2.mono b1.size)).size))
 have hS:∀w',aZ w (w.heap.size+2) 54 [(w.heap.size,.bool (decide (x.num<0)),.slice cH (ae b64 x.num.natAbs).length cJ,.slice cI (ae b64 (aL x.den)).length cK),(w.heap.size+1,.bool (decide (y.num<0)),.slice fq (ae b64 y.num.natAbs).length fB,.slice fu (ae b64 (aL y.den)).length fC)] w'->aZ w (w.heap.size+2) 54 [(w.heap.size,.bool (decide (x.num<0)),.slice cH (ae b64 x.num.natAbs).length cJ,.slice cI (ae b64 (aL x.den)).length cK),(w.heap.size+1,.bool (decide (y.num<0)),.slice fq (ae b64 y.num.natAbs).length fB,.slice fu (ae b64 (aL y.den)).length fC)] w'/\w'.cell? ⟨w.heap.size,0,none⟩=some (.bool (decide (x.num<0)))/\w'.cell? ⟨w.heap.size,1,none⟩=some (.slice cH (ae b64 x.num.natAbs).length cJ)/\w'.cell? ⟨w.heap.size,2,none⟩=some (.slice cI (ae b64 (aL x.den)).length cK)/\w'.cell? ⟨w.heap.size+1,0,none⟩=some (.bool (decide (y.num<0)))/\w'.cell? ⟨w.heap.size+1,1,none⟩=some (.slice fq (ae b64 y.num.natAbs).length fB)/\w'.cell? ⟨w.heap.size+1,2,none⟩=some (.slice fu (ae b64 (aL y.den)).length fC)/\w'.cell? ⟨w.heap.size+2,0,none⟩=some (cv w' ⟨w.heap.size+2,0,none⟩)/\w'.cell? ⟨w.heap.size+2,1,none⟩=some (cv w' ⟨w.heap.size+2,1,none⟩)/\w'.cell? ⟨w.heap.size+2,2,none⟩=some (cv w' ⟨w.heap.size+2,2,none⟩)/\w'.frozen? ⟨w.heap.size+2,0,none⟩=false/\w'.frozen? ⟨w.heap.size+2,1,none⟩=false/\w'.frozen? ⟨w.heap.size+2,2,none⟩=false:=λw' hh=>by
  obtain⟨f0,f1,f2,f3,f4,f5⟩:=hh.cells
  have q1:=(hh.2.2.1 (w.heap.size,.bool (decide (x.num<0)),.slice cH (ae b64 x.num.natAbs).length cJ,.slice cI (ae b64 (aL x.den)).length cK) (by simp)).2
  have q2:=(hh.2.2.1 (w.heap.size+1,.bool (decide (y.num<0)),.slice fq (ae b64 y.num.natAbs).length fB,.slice fu (ae b64 (aL y.den)).length fC) (by simp)).2
  exact⟨hh,q1.c0,q1.c1,q1.c2,q2.c0,q2.c1,q2.c2,f0,f1,f2,f3,f4,f5⟩
 have H0:aZ w (w.heap.size+2) 54 [(w.heap.size,.bool (decide (x.num<0)),.slice cH (ae b64 x.num.natAbs).length cJ,.slice cI (ae b64 (aL x.den)).length cK),(w.heap.size+1,.bool (decide (y.num<0)),.slice fq (ae b64 y.num.natAbs).length fB,.slice fu (ae b64 (aL y.den)).length fC)] w3:=⟨B0,by omega,by intro p hp; simp at hp; rcases hp with rfl|rfl; exact⟨by simp,p1⟩; exact⟨by simp,p2⟩,_,_,_,p3,da _,aU _ _ _,aU _ _ _⟩
 clear e1 e2 e3
 have hz:=H0
 obtain⟨_,k0,k1,k2,k3,k4,k5,_⟩:=hS _ hz
 have hc:=zero_num _ _ y (hy.below hz.1)
 rw[decide_eq_true HY.out]at hc
 refine hc.mono ?_
 clear hc
 rintro e wz ⟨rfl,hb⟩
 have hz:=aZ.call (And.intro hz trivial) hb
 clear k0 k1 k2 k3 k4 k5
 obtain⟨_,k0,k1,k2,k3,k4,k5,k6,k7,k8,k9,Um,Un⟩:=hS _ hz
 go_wp2
 obtain⟨wf,HW,f0,f1,f2,dJ⟩:=hz.fin (q:=0) (A1:=none) (l1:=0) (c1:=0) (A2:=none) (l2:=0) (c2:=0) (show _=false from rfl) (aV.zero _ _ _) (aV.zero _ _ _)
 rw[HW]
 (try simp only[Exit.inBlock,Exit.then])
 refine bodyPost_ret (by simp[results,Tryz.results88,go_sem,f0,f1,f2]; try rfl) rfl ?_
 exact qh.of dJ 3
set_option maxHeartbeats 2000000 in
theorem JT (w:World) (vx vy:Value) (x y:Rat) (hx:cV w vx x) (hy:cV w vy y) {j k:Nat} (hj:dB j x) (hk:dB k y) (vP:j+k<=100000000) (hy0:y≠0):Calls Tryz.prog 88 #[vx,vy] w (qh w (x/y) 0):=by
 obtain⟨BJ,BK,rfl,je,gH⟩:=id hx
 obtain⟨cH,cJ,rfl,_⟩:=id je
 obtain⟨cI,cK,rfl,_⟩:=id gH
 obtain⟨Lz,LA,rfl,vR,qT⟩:=id hy
 obtain⟨fq,fB,rfl,_⟩:=id vR
 obtain⟨fu,fC,rfl,_⟩:=id qT
 have HY:=bx hy0
 clear hy0
 go_enter Tryz.func88,Tryz.ntmps88
 go_wp2_with fail
 obtain⟨w1,e1,o1,b1,s1⟩:=jo w (.bool (decide (x.num<0))) (.slice cH (ae b64 x.num.natAbs).length cJ) (.slice cI (ae b64 (aL x.den)).length cK) 54
 obtain⟨w2,e2,o2,b2,s2⟩:=jo w1 (.bool (decide (y.num<0))) (.slice fq (ae b64 y.num.natAbs).length fB) (.slice fu (ae b64 (aL y.den)).length fC) 54
 obtain⟨w3,e3,o3,b3,s3⟩:=jo w2 (.bool false) (.slice none 0 0) (.slice none 0 0) 54
 rw[e1,e2,e3]
 rw[s1]at o2
 rw[s2,s1]at o3
 have p1:=((o1.gone b2).gone b3)
 have p2:=(o2.gone b3)
 have p3:=o3
 have B0:=((b1.trans (b2.mono b1.size)).trans (b3.mono (b1.trans (b2.mono b1.size)).size))
 have hS:∀w',aZ w (w.heap.size+2) 54 [(w.heap.size,.bool (decide (x.num<0)),.slice cH (ae b64 x.num.natAbs).length cJ,.slice cI (ae b64 (aL x.den)).length cK),(w.heap.size+1,.bool (decide (y.num<0)),.slice fq (ae b64 y.num.natAbs).length fB,.slice fu (ae b64 (aL y.den)).length fC)] w'->aZ w (w.heap.size+2) 54 [(w.heap.size,.bool (decide (x.num<0)),.slice cH (ae b64 x.num.natAbs).length cJ,.slice cI (ae b64 (aL x.den)).length cK),(w.heap.size+1,.bool (decide (y.num<0)),.slice fq (ae b64 y.num.natAbs).length fB,.slice fu (ae b64 (aL y.den)).length fC)] w'/\w'.cell? ⟨w.heap.size,0,none⟩=some (.bool (decide (x.num<0)))/\w'.cell? ⟨w.heap.size,1,none⟩=some (.slice cH (ae b64 x.num.natAbs).length cJ)/\w'.cell? ⟨w.heap.size,2,none⟩=some (.slice cI (ae b64 (aL x.den)).length cK)/\w'.cell? ⟨w.heap.size+1,0,none⟩=some (.bool (decide (y.num<0)))/\w'.cell? ⟨w.heap.size+1,1,none⟩=some (.slice fq (ae b64 y.num.natAbs).length fB)/\w'.cell? ⟨w.heap.size+1,2,none⟩=some (.slice fu (ae b64 (aL y.den)).length fC)/\w'.cell? ⟨w.heap.size+2,0,none⟩=some (cv w' ⟨w.heap.size+2,0,none⟩)/\w'.cell? ⟨w.heap.size+2,1,none⟩=some (cv w' ⟨w.heap.size+2,1,none⟩)/\w'.cell? ⟨w.heap.size+2,2,none⟩=some (cv w' ⟨w.heap.size+2,2,none⟩)/\w'.frozen? ⟨w.heap.size+2,0,none⟩=false/\w'.frozen? ⟨w.heap.size+2,1,none⟩=false/\w'.frozen? ⟨w.heap.size+2,2,none⟩=false:=λw' hh=>by
  obtain⟨f0,f1,f2,f3,f4,f5⟩:=hh.cells
  have q1:=(hh.2.2.1 (w.heap.size,.bool (decide (x.num<0)),.slice cH (ae b64 x.num.natAbs).length cJ,.slice cI (ae b64 (aL x.den)).length cK) (by simp)).2
  have q2:=(hh.2.2.1 (w.heap.size+1,.bool (decide (y.num<0)),.slice fq (ae b64 y.num.natAbs).length fB,.slice fu (ae b64 (aL y.den)).length fC) (by simp)).2
  exact⟨hh,q1.c0,q1.c1,q1.c2,q2.c0,q2.c1,q2.c2,f0,f1,f2,f3,f4,f5⟩
 have H0:aZ w (w.heap.size+2) 54 [(w.heap.size,.bool (decide (x.num<0)),.slice cH (ae b64 x.num.natAbs).length cJ,.slice cI (ae b64 (aL x.den)).length cK),(w.heap.size+1,.bool (decide (y.num<0)),.slice fq (ae b64 y.num.natAbs).length fB,.slice fu (ae b64 (aL y.den)).length fC)] w3:=⟨B0,by omega,by intro p hp; simp at hp; rcases hp with rfl|rfl; exact⟨by simp,p1⟩; exact⟨by simp,p2⟩,_,_,_,p3,da _,aU _ _ _,aU _ _ _⟩
 clear e1 e2 e3
 have hz:=H0
 obtain⟨_,k0,k1,k2,k3,k4,k5,_⟩:=hS _ hz
 have hc:=zero_num _ _ y (hy.below hz.1)
 rw[decide_eq_false HY.out]at hc
 refine hc.mono ?_
 clear hc
 rintro e wz ⟨rfl,hb⟩
 have hz:=aZ.call (And.intro hz trivial) hb
 clear k0 k1 k2 k3 k4 k5
 obtain⟨_,k0,k1,k2,k3,k4,k5,_⟩:=hS _ hz
 go_wp2_with fail
 refine(JF _ _ _ x y (hx.below hz.1) (hy.below hz.1) (mt Rat.num_eq_zero.1 HY.out) hj hk vP).mono ?_
 rintro e wy ⟨vr,rfl,GB,hb⟩
 obtain⟨Sq,Sn,rfl,F0,hrd⟩:=GB
 obtain⟨Ie,Iu,rfl,_⟩:=id F0
 obtain⟨Ig,Iv,rfl,_⟩:=id hrd
 have hz:=aZ.call (And.intro hz trivial) hb
 clear k0 k1 k2 k3 k4 k5
 obtain⟨_,k0,k1,k2,k3,k4,k5,k6,k7,k8,k9,Um,Un⟩:=hS _ hz
 go_wp2
 obtain⟨wf,HW,f0,f1,f2,dJ⟩:=hz.fin rfl F0 hrd
 rw[HW]
 (try simp only[Exit.inBlock,Exit.then])
 refine bodyPost_ret (by simp[results,Tryz.results88,go_sem,f0,f1,f2]; try rfl) rfl ?_
 exact qh.of dJ 0
end Wx
