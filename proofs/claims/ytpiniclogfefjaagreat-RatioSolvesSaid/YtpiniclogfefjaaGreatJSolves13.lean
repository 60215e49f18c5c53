import Derived.Test.YtpiniclogfefjaaGreatJSolves12
namespace Wx
set_option maxRecDepth 100000
open Go Go.RowKit Go.Proofs

theorem isRat_of {w:World} {v:Value} {p q:Rat} (h:IsRat w v p) (e:q=p):IsRat w v q:=e▸h

set_option maxHeartbeats 8000000 in
theorem mul_num (w:World) (vx vy:Value) (x y:Rat) (hx:IsRat w vx x) (hy:IsRat w vy y) {j k:Nat} (hj:BdR j x) (hk:BdR k y) (hjk:j+k≤100000000):Calls Tryz.prog 57 #[vx,vy] w (RetRat w (x*y)):=by
 obtain⟨vx1,vx2,rfl,hxa,hxb⟩:=id hx
 obtain⟨Ax1,cx1,rfl,_⟩:=id hxa
 obtain⟨Ax2,cx2,rfl,_⟩:=id hxb
 obtain⟨vy1,vy2,rfl,hya,hyb⟩:=id hy
 obtain⟨Ay1,cy1,rfl,_⟩:=id hya
 obtain⟨Ay2,cy2,rfl,_⟩:=id hyb
 have hdx:=x.den_pos
 have hdy:=y.den_pos
 have HB:=bx (And.intro hj hk)
 have hj1:j≤1000000000:=by omega
 have hk1:k≤1000000000:=by omega
 clear hj hk
 go_enter Tryz.func57,Tryz.ntmps57
 go_wp2_with fail
 obtain⟨w1,e1,o1,b1,s1⟩:=Js w (.bool (decide (x.num<0))) (.slice Ax1 (digs Qa x.num.natAbs).length cx1) (.slice Ax2 (digs Qa (Qo x.den)).length cx2) 38
 obtain⟨w2,e2,o2,b2,s2⟩:=Js w1 (.bool (decide (y.num<0))) (.slice Ay1 (digs Qa y.num.natAbs).length cy1) (.slice Ay2 (digs Qa (Qo y.den)).length cy2) 38
 obtain⟨w3,e3,o3,b3,s3⟩:=Js w2 (.bool false) (.slice none 0 0) (.slice none 0 0) 38
 rw[e1,e2,e3]
 rw[s1]at o2
 rw[s2,s1]at o3
 have p1:=((o1.gone b2).gone b3)
 have p2:=(o2.gone b3)
 have p3:=o3
 have B0:=((b1.trans (b2.mono b1.size)).trans (b3.mono (b1.trans (b2.mono b1.size)).size))
 have hS:∀w',HeldR w (w.heap.size+2) 38 [(w.heap.size,.bool (decide (x.num<0)),.slice Ax1 (digs Qa x.num.natAbs).length cx1,.slice Ax2 (digs Qa (Qo x.den)).length cx2),(w.heap.size+1,.bool (decide (y.num<0)),.slice Ay1 (digs Qa y.num.natAbs).length cy1,.slice Ay2 (digs Qa (Qo y.den)).length cy2)] w'→HeldR w (w.heap.size+2) 38 [(w.heap.size,.bool (decide (x.num<0)),.slice Ax1 (digs Qa x.num.natAbs).length cx1,.slice Ax2 (digs Qa (Qo x.den)).length cx2),(w.heap.size+1,.bool (decide (y.num<0)),.slice Ay1 (digs Qa y.num.natAbs).length cy1,.slice Ay2 (digs Qa (Qo y.den)).length cy2)] w'∧w'.cell? ⟨w.heap.size,0,none⟩=some (.bool (decide (x.num<0)))∧w'.cell? ⟨w.heap.size,1,none⟩=some (.slice Ax1 (digs Qa x.num.natAbs).length cx1)∧w'.cell? ⟨w.heap.size,2,none⟩=some (.slice Ax2 (digs Qa (Qo x.den)).length cx2)∧w'.cell? ⟨w.heap.size+1,0,none⟩=some (.bool (decide (y.num<0)))∧w'.cell? ⟨w.heap.size+1,1,none⟩=some (.slice Ay1 (digs Qa y.num.natAbs).length cy1)∧w'.cell? ⟨w.heap.size+1,2,none⟩=some (.slice Ay2 (digs Qa (Qo y.den)).length cy2)∧w'.cell? ⟨w.heap.size+2,0,none⟩=some (cv w' ⟨w.heap.size+2,0,none⟩)∧w'.cell? ⟨w.heap.size+2,1,none⟩=some (cv w' ⟨w.heap.size+2,1,none⟩)∧w'.cell? ⟨w.heap.size+2,2,none⟩=some (cv w' ⟨w.heap.size+2,2,none⟩)∧w'.frozen? ⟨w.heap.size+2,0,none⟩=false∧w'.frozen? ⟨w.heap.size+2,1,none⟩=false∧w'.frozen? ⟨w.heap.size+2,2,none⟩=false:=fun w' hh=>by
  obtain⟨f0,f1,f2,f3,f4,f5⟩:=hh.cells
  have q1:=(hh.2.2.1 (w.heap.size,.bool (decide (x.num<0)),.slice Ax1 (digs Qa x.num.natAbs).length cx1,.slice Ax2 (digs Qa (Qo x.den)).length cx2) (by simp)).2
  have q2:=(hh.2.2.1 (w.heap.size+1,.bool (decide (y.num<0)),.slice Ay1 (digs Qa y.num.natAbs).length cy1,.slice Ay2 (digs Qa (Qo y.den)).length cy2) (by simp)).2
  exact⟨hh,q1.c0,q1.c1,q1.c2,q2.c0,q2.c1,q2.c2,f0,f1,f2,f3,f4,f5⟩
 have H0:HeldR w (w.heap.size+2) 38 [(w.heap.size,.bool (decide (x.num<0)),.slice Ax1 (digs Qa x.num.natAbs).length cx1,.slice Ax2 (digs Qa (Qo x.den)).length cx2),(w.heap.size+1,.bool (decide (y.num<0)),.slice Ay1 (digs Qa y.num.natAbs).length cy1,.slice Ay2 (digs Qa (Qo y.den)).length cy2)] w3:=⟨B0,by omega,by intro p hp; simp at hp; rcases hp with rfl|rfl; exact⟨by simp,p1⟩; exact⟨by simp,p2⟩,_,_,_,p3,Y3 _,Xi _ _ _,Xi _ _ _⟩
 clear e1 e2 e3
 have hz:=H0.drew
 go_region_held3 (fun w'=>HeldR w (w.heap.size+2) 38 [(w.heap.size,.bool (decide (x.num<0)),.slice Ax1 (digs Qa x.num.natAbs).length cx1,.slice Ax2 (digs Qa (Qo x.den)).length cx2),(w.heap.size+1,.bool (decide (y.num<0)),.slice Ay1 (digs Qa y.num.natAbs).length cy1,.slice Ay2 (digs Qa (Qo y.den)).length cy2)] w'∧w'.cell? ⟨w.heap.size,0,none⟩=some (.bool (decide (x.num<0)))∧w'.cell? ⟨w.heap.size,1,none⟩=some (.slice Ax1 (digs Qa x.num.natAbs).length cx1)∧w'.cell? ⟨w.heap.size,2,none⟩=some (.slice Ax2 (digs Qa (Qo x.den)).length cx2)∧w'.cell? ⟨w.heap.size+1,0,none⟩=some (.bool (decide (y.num<0)))∧w'.cell? ⟨w.heap.size+1,1,none⟩=some (.slice Ay1 (digs Qa y.num.natAbs).length cy1)∧w'.cell? ⟨w.heap.size+1,2,none⟩=some (.slice Ay2 (digs Qa (Qo y.den)).length cy2)∧w'.cell? ⟨w.heap.size+2,0,none⟩=some (cv w' ⟨w.heap.size+2,0,none⟩)∧w'.cell? ⟨w.heap.size+2,1,none⟩=some (cv w' ⟨w.heap.size+2,1,none⟩)∧w'.cell? ⟨w.heap.size+2,2,none⟩=some (cv w' ⟨w.heap.size+2,2,none⟩)∧w'.frozen? ⟨w.heap.size+2,0,none⟩=false∧w'.frozen? ⟨w.heap.size+2,1,none⟩=false∧w'.frozen? ⟨w.heap.size+2,2,none⟩=false)
  (first|exact hS _ hz|exact hS _ (HeldR.sets (by assumption) _ _ _ _ _ _ _))
  (first
   |(go_at_call 97; have hc:=Uv _ _ x.den (hxb.below hz.1) hdx; (with_reducible refine Calls.mono hc ?_); clear hc; rintro e wz ⟨vux,rfl,hux,hb⟩; (try have hux:=hux.below hb); (try have huy:=huy.below hb); (try have ht1:=ht1.below hb); (try have ht2:=ht2.below hb); (try have htd:=htd.below hb); (try have hs1:=hs1.below hb); have hz:=HeldR.call (by assumption) hb)
   |(go_at_call 97; have hc:=Uv _ _ y.den (hyb.below hz.1) hdy; (with_reducible refine Calls.mono hc ?_); clear hc; rintro e wz ⟨vuy,rfl,huy,hb⟩; (try have hux:=hux.below hb); (try have huy:=huy.below hb); (try have ht1:=ht1.below hb); (try have ht2:=ht2.below hb); (try have htd:=htd.below hb); (try have hs1:=hs1.below hb); have hz:=HeldR.call (by assumption) hb)
   |(go_at_call 96; have hc:=Qb7 _ _ _ _ _ (hxa.below hz.1) (hya.below hz.1) HB.out.1.1 HB.out.2.1 hj1 hk1; (with_reducible refine Calls.mono hc ?_); clear hc; rintro e wz ⟨vt1,rfl,ht1,hb⟩; (try have hux:=hux.below hb); (try have huy:=huy.below hb); (try have ht1:=ht1.below hb); (try have ht2:=ht2.below hb); (try have htd:=htd.below hb); (try have hs1:=hs1.below hb); have hz:=HeldR.call (by assumption) hb)
   |(go_at_call 96; have hc:=Qb7 _ _ _ _ _ hux huy HB.out.1.2 HB.out.2.2 hj1 hk1; (with_reducible refine Calls.mono hc ?_); clear hc; rintro e wz ⟨vt2,rfl,ht2,hb⟩; (try have hux:=hux.below hb); (try have huy:=huy.below hb); (try have ht1:=ht1.below hb); (try have ht2:=ht2.below hb); (try have htd:=htd.below hb); (try have hs1:=hs1.below hb); have hz:=HeldR.call (by assumption) hb)
   |(go_at_call 70; have hc:=Wa _ (!(decide (x.num<0)==decide (y.num<0))) _ _ (x.num.natAbs*y.num.natAbs) (x.den*y.den) ht1 ht2 (Nat.mul_pos hdx hdy) (HB.out.1.1.mul HB.out.2.1) (HB.out.1.2.mul HB.out.2.2) hjk; (with_reducible refine Calls.mono hc ?_); clear hc; rintro e wz ⟨vr,rfl,hrr,hb⟩; replace hrr:=isRat_of hrr (mul_red x y); obtain⟨vrn,vrd,rfl,hrn,hrd⟩:=hrr; obtain⟨Ar1,cr1,rfl,_⟩:=id hrn; obtain⟨Ar2,cr2,rfl,_⟩:=id hrd; (try have hux:=hux.below hb); (try have huy:=huy.below hb); (try have ht1:=ht1.below hb); (try have ht2:=ht2.below hb); (try have htd:=htd.below hb); (try have hs1:=hs1.below hb); have hz:=HeldR.call (by assumption) hb))
 all_goals (
  go_wp2
  obtain⟨wf,HW,f0,f1,f2,hfin⟩:=hz.fin rfl hrn hrd
  (try rw[HW])
  (try simp only[Exit.inBlock,Exit.then])
  refine bodyPost_ret (by simp[results,Tryz.results57,go_sem,f0,f1,f2]; try rfl) rfl ?_
  first|exact hfin|exact hfin.drew)
set_option maxHeartbeats 8000000 in
theorem by_num (w:World) (vx vy:Value) (x y:Rat) (hx:IsRat w vx x) (hy:IsRat w vy y) (hy0:y.num≠0) {j k:Nat} (hj:BdR j x) (hk:BdR k y) (hjk:j+k≤100000000):Calls Tryz.prog 59 #[vx,vy] w (RetRat w (x/y)):=by
 have HY:=bx hy0
 clear hy0
 obtain⟨vx1,vx2,rfl,hxa,hxb⟩:=id hx
 obtain⟨Ax1,cx1,rfl,_⟩:=id hxa
 obtain⟨Ax2,cx2,rfl,_⟩:=id hxb
 obtain⟨vy1,vy2,rfl,hya,hyb⟩:=id hy
 obtain⟨Ay1,cy1,rfl,_⟩:=id hya
 obtain⟨Ay2,cy2,rfl,_⟩:=id hyb
 have hdx:=x.den_pos
 have hdy:=y.den_pos
 have HB:=bx (And.intro hj hk)
 have hj1:j≤1000000000:=by omega
 have hk1:k≤1000000000:=by omega
 clear hj hk
 go_enter Tryz.func59,Tryz.ntmps59
 go_wp2_with fail
 obtain⟨w1,e1,o1,b1,s1⟩:=Js w (.bool (decide (x.num<0))) (.slice Ax1 (digs Qa x.num.natAbs).length cx1) (.slice Ax2 (digs Qa (Qo x.den)).length cx2) 38
 obtain⟨w2,e2,o2,b2,s2⟩:=Js w1 (.bool (decide (y.num<0))) (.slice Ay1 (digs Qa y.num.natAbs).length cy1) (.slice Ay2 (digs Qa (Qo y.den)).length cy2) 38
 obtain⟨w3,e3,o3,b3,s3⟩:=Js w2 (.bool false) (.slice none 0 0) (.slice none 0 0) 38
 rw[e1,e2,e3]
 rw[s1]at o2
 rw[s2,s1]at o3
 have p1:=((o1.gone b2).gone b3)
 have p2:=(o2.gone b3)
 have p3:=o3
 have B0:=((b1.trans (b2.mono b1.size)).trans (b3.mono (b1.trans (b2.mono b1.size)).size))
 have hS:∀w',HeldR w (w.heap.size+2) 38 [(w.heap.size,.bool (decide (x.num<0)),.slice Ax1 (digs Qa x.num.natAbs).length cx1,.slice Ax2 (digs Qa (Qo x.den)).length cx2),(w.heap.size+1,.bool (decide (y.num<0)),.slice Ay1 (digs Qa y.num.natAbs).length cy1,.slice Ay2 (digs Qa (Qo y.den)).length cy2)] w'→HeldR w (w.heap.size+2) 38 [(w.heap.size,.bool (decide (x.num<0)),.slice Ax1 (digs Qa x.num.natAbs).length cx1,.slice Ax2 (digs Qa (Qo x.den)).length cx2),(w.heap.size+1,.bool (decide (y.num<0)),.slice Ay1 (digs Qa y.num.natAbs).length cy1,.slice Ay2 (digs Qa (Qo y.den)).length cy2)] w'∧w'.cell? ⟨w.heap.size,0,none⟩=some (.bool (decide (x.num<0)))∧w'.cell? ⟨w.heap.size,1,none⟩=some (.slice Ax1 (digs Qa x.num.natAbs).length cx1)∧w'.cell? ⟨w.heap.size,2,none⟩=some (.slice Ax2 (digs Qa (Qo x.den)).length cx2)∧w'.cell? ⟨w.heap.size+1,0,none⟩=some (.bool (decide (y.num<0)))∧w'.cell? ⟨w.heap.size+1,1,none⟩=some (.slice Ay1 (digs Qa y.num.natAbs).length cy1)∧w'.cell? ⟨w.heap.size+1,2,none⟩=some (.slice Ay2 (digs Qa (Qo y.den)).length cy2)∧w'.cell? ⟨w.heap.size+2,0,none⟩=some (cv w' ⟨w.heap.size+2,0,none⟩)∧w'.cell? ⟨w.heap.size+2,1,none⟩=some (cv w' ⟨w.heap.size+2,1,none⟩)∧w'.cell? ⟨w.heap.size+2,2,none⟩=some (cv w' ⟨w.heap.size+2,2,none⟩)∧w'.frozen? ⟨w.heap.size+2,0,none⟩=false∧w'.frozen? ⟨w.heap.size+2,1,none⟩=false∧w'.frozen? ⟨w.heap.size+2,2,none⟩=false:=fun w' hh=>by
  obtain⟨f0,f1,f2,f3,f4,f5⟩:=hh.cells
  have q1:=(hh.2.2.1 (w.heap.size,.bool (decide (x.num<0)),.slice Ax1 (digs Qa x.num.natAbs).length cx1,.slice Ax2 (digs Qa (Qo x.den)).length cx2) (by simp)).2
  have q2:=(hh.2.2.1 (w.heap.size+1,.bool (decide (y.num<0)),.slice Ay1 (digs Qa y.num.natAbs).length cy1,.slice Ay2 (digs Qa (Qo y.den)).length cy2) (by simp)).2
  exact⟨hh,q1.c0,q1.c1,q1.c2,q2.c0,q2.c1,q2.c2,f0,f1,f2,f3,f4,f5⟩
 have H0:HeldR w (w.heap.size+2) 38 [(w.heap.size,.bool (decide (x.num<0)),.slice Ax1 (digs Qa x.num.natAbs).length cx1,.slice Ax2 (digs Qa (Qo x.den)).length cx2),(w.heap.size+1,.bool (decide (y.num<0)),.slice Ay1 (digs Qa y.num.natAbs).length cy1,.slice Ay2 (digs Qa (Qo y.den)).length cy2)] w3:=⟨B0,by omega,by intro p hp; simp at hp; rcases hp with rfl|rfl; exact⟨by simp,p1⟩; exact⟨by simp,p2⟩,_,_,_,p3,Y3 _,Xi _ _ _,Xi _ _ _⟩
 clear e1 e2 e3
 have hz:=H0.drew
 go_region_held3 (fun w'=>HeldR w (w.heap.size+2) 38 [(w.heap.size,.bool (decide (x.num<0)),.slice Ax1 (digs Qa x.num.natAbs).length cx1,.slice Ax2 (digs Qa (Qo x.den)).length cx2),(w.heap.size+1,.bool (decide (y.num<0)),.slice Ay1 (digs Qa y.num.natAbs).length cy1,.slice Ay2 (digs Qa (Qo y.den)).length cy2)] w'∧w'.cell? ⟨w.heap.size,0,none⟩=some (.bool (decide (x.num<0)))∧w'.cell? ⟨w.heap.size,1,none⟩=some (.slice Ax1 (digs Qa x.num.natAbs).length cx1)∧w'.cell? ⟨w.heap.size,2,none⟩=some (.slice Ax2 (digs Qa (Qo x.den)).length cx2)∧w'.cell? ⟨w.heap.size+1,0,none⟩=some (.bool (decide (y.num<0)))∧w'.cell? ⟨w.heap.size+1,1,none⟩=some (.slice Ay1 (digs Qa y.num.natAbs).length cy1)∧w'.cell? ⟨w.heap.size+1,2,none⟩=some (.slice Ay2 (digs Qa (Qo y.den)).length cy2)∧w'.cell? ⟨w.heap.size+2,0,none⟩=some (cv w' ⟨w.heap.size+2,0,none⟩)∧w'.cell? ⟨w.heap.size+2,1,none⟩=some (cv w' ⟨w.heap.size+2,1,none⟩)∧w'.cell? ⟨w.heap.size+2,2,none⟩=some (cv w' ⟨w.heap.size+2,2,none⟩)∧w'.frozen? ⟨w.heap.size+2,0,none⟩=false∧w'.frozen? ⟨w.heap.size+2,1,none⟩=false∧w'.frozen? ⟨w.heap.size+2,2,none⟩=false)
  (first|exact hS _ hz|exact hS _ (HeldR.sets (by assumption) _ _ _ _ _ _ _))
  (first
   |(go_at_call 97; have hc:=Uv _ _ x.den (hxb.below hz.1) hdx; (with_reducible refine Calls.mono hc ?_); clear hc; rintro e wz ⟨vux,rfl,hux,hb⟩; (try have hux:=hux.below hb); (try have huy:=huy.below hb); (try have ht1:=ht1.below hb); (try have ht2:=ht2.below hb); (try have htd:=htd.below hb); (try have hs1:=hs1.below hb); have hz:=HeldR.call (by assumption) hb)
   |(go_at_call 97; have hc:=Uv _ _ y.den (hyb.below hz.1) hdy; (with_reducible refine Calls.mono hc ?_); clear hc; rintro e wz ⟨vuy,rfl,huy,hb⟩; (try have hux:=hux.below hb); (try have huy:=huy.below hb); (try have ht1:=ht1.below hb); (try have ht2:=ht2.below hb); (try have htd:=htd.below hb); (try have hs1:=hs1.below hb); have hz:=HeldR.call (by assumption) hb)
   |(go_at_call 96; have hc:=Qb7 _ _ _ _ _ (hxa.below hz.1) huy HB.out.1.1 HB.out.2.2 hj1 hk1; (with_reducible refine Calls.mono hc ?_); clear hc; rintro e wz ⟨vt1,rfl,ht1,hb⟩; (try have hux:=hux.below hb); (try have huy:=huy.below hb); (try have ht1:=ht1.below hb); (try have ht2:=ht2.below hb); (try have htd:=htd.below hb); (try have hs1:=hs1.below hb); have hz:=HeldR.call (by assumption) hb)
   |(go_at_call 96; have hc:=Qb7 _ _ _ _ _ hux (hya.below hz.1) HB.out.1.2 HB.out.2.1 hj1 hk1; (with_reducible refine Calls.mono hc ?_); clear hc; rintro e wz ⟨vt2,rfl,ht2,hb⟩; (try have hux:=hux.below hb); (try have huy:=huy.below hb); (try have ht1:=ht1.below hb); (try have ht2:=ht2.below hb); (try have htd:=htd.below hb); (try have hs1:=hs1.below hb); have hz:=HeldR.call (by assumption) hb)
   |(go_at_call 70; have hc:=Wa _ (!(decide (x.num<0)==decide (y.num<0))) _ _ (x.num.natAbs*y.den) (x.den*y.num.natAbs) ht1 ht2 (Nat.mul_pos hdx (by have:=HY.out; omega)) (HB.out.1.1.mul HB.out.2.2) (HB.out.1.2.mul HB.out.2.1) hjk; (with_reducible refine Calls.mono hc ?_); clear hc; rintro e wz ⟨vr,rfl,hrr,hb⟩; replace hrr:=isRat_of hrr (div_red x y HY.out); obtain⟨vrn,vrd,rfl,hrn,hrd⟩:=hrr; obtain⟨Ar1,cr1,rfl,_⟩:=id hrn; obtain⟨Ar2,cr2,rfl,_⟩:=id hrd; (try have hux:=hux.below hb); (try have huy:=huy.below hb); (try have ht1:=ht1.below hb); (try have ht2:=ht2.below hb); (try have htd:=htd.below hb); (try have hs1:=hs1.below hb); have hz:=HeldR.call (by assumption) hb))
 all_goals (
  go_wp2
  obtain⟨wf,HW,f0,f1,f2,hfin⟩:=hz.fin rfl hrn hrd
  (try rw[HW])
  (try simp only[Exit.inBlock,Exit.then])
  refine bodyPost_ret (by simp[results,Tryz.results59,go_sem,f0,f1,f2]; try rfl) rfl ?_
  first|exact hfin|exact hfin.drew)
theorem Num.drew {k:IntKind} {b:Nat} {w:World} {v:Value} {n:Nat} (h:Num k b w v n):Num k b w.drew v n:=h
end Wx

namespace Wx
open Go Go.RowKit Go.Proofs

end Wx

namespace Wx
open Go Go.RowKit Go.Proofs

theorem size_num (w:World) (z:Int) (h1:-9223372036854775808≤z) (h2:z≤9223372036854775807):Calls Tryz.prog 71 #[.int .i64 z] w (J6 .u64 Qa w z.natAbs):=by
 have HLT:Bx (z.natAbs<Qa):=bx (by unfold Qa; omega)
 by_cases hz:z<0
 ·have e1:IntKind.u64.wrap (-IntKind.u64.wrap z)=((z.natAbs:Nat):Int):=by
   simp[IntKind.wrap,IntKind.bits,IntKind.signed]; omega
  have E1:=bx e1
  clear e1
  go_enter Tryz.func71,Tryz.ntmps71
  go_wp2_with fail
  rw[E1.out]
  refine(Vd w _ HLT.out).mono ?_
  rintro e w3 ⟨vr,rfl,hr3,hb3⟩
  go_wp2
  go_ret
  exact⟨_,rfl,hr3,hb3⟩
 ·have e1:z=((z.natAbs:Nat):Int):=by omega
  have E1:=bx e1
  clear e1
  go_enter Tryz.func71,Tryz.ntmps71
  go_wp2_with fail
  have hc:=Vd w _ HLT.out
  rw[← E1.out]at hc
  refine hc.mono ?_
  rintro e w3 ⟨vr,rfl,hr3,hb3⟩
  go_wp2
  go_ret
  exact⟨_,rfl,hr3,hb3⟩

theorem int_num (w:World) (z:Int) (h1:-9223372036854775808≤z) (h2:z≤9223372036854775807):Calls Tryz.prog 54 #[.int .i64 z] w (RetRat w (z:Rat)):=by
 have H:=bx (And.intro h1 h2)
 clear h1 h2
 go_enter Tryz.func54,Tryz.ntmps54
 go_wp2_with fail
 obtain⟨w1,e1,o1,b1,s1⟩:=Js w (.bool false) (.slice none 0 0) (.slice none 0 0) 38
 rw[e1]
 refine(size_num w1 z H.out.1 H.out.2).mono ?_
 rintro e w2 ⟨v,rfl,hv,hb⟩
 obtain⟨A1,c1,rfl,_⟩:=id hv
 have hz:HeldR w w.heap.size 38 [] w2:=⟨b1.trans (hb.mono b1.size),Nat.le_refl _,by simp,_,_,_,o1.gone hb,Y3 _,Xi _ _ _,Xi _ _ _⟩
 obtain⟨k0,k1,k2,k3,k4,k5⟩:=hz.cells
 clear e1
 go_wp2
 obtain⟨wf,HW,f0,f1,f2,hfin⟩:=hz.fin (q:=(z:Rat)) (A2:=none) (l2:=0) (c2:=0) rfl (by rw[Rat.num_intCast]; exact hv) (by rw[Rat.den_intCast]; exact Num.zero _ _ _)
 rw[Rat.num_intCast]at HW f0 hfin
 rw[HW]
 (try simp only[Exit.inBlock,Exit.then])
 refine bodyPost_ret (by simp[results,Tryz.results54,go_sem,f0,f1,f2]; try rfl) rfl ?_
 exact hfin

def RetRE (w:World) (q:Rat) (err:Int) (e:Ending) (w':World):Prop:=∃v,e=.returned (.tuple #[v,.int .i64 err])∧IsRat w' v q∧Below w.heap.size w w'
theorem RetRE.of {w:World} {q:Rat} {v:Value} {w':World} (h:RetRat w q (.returned v) w') (err:Int):RetRE w q err (.returned (.tuple #[v,.int .i64 err])) w':=by
 obtain⟨v',e,h1,h2⟩:=h
 injection e with e
 subst e
 exact⟨_,rfl,h1,h2⟩
def newR (n d:Int):Rat:=Yf (!(decide (n<0)==decide (d<0))) n.natAbs d.natAbs

theorem new_num (w:World) (n d:Int) (h1:-9223372036854775808≤n) (h2:n≤9223372036854775807) (h3:-9223372036854775808≤d) (h4:d≤9223372036854775807) (hd:d≠0):
  Calls Tryz.prog 31 #[.int .i64 n,.int .i64 d] w (RetRE w (newR n d) 0):=by
 have H:=bx (And.intro (And.intro h1 h2) (And.intro h3 h4))
 have HD:=bx hd
 have hde:(d==0)=false:=beq_eq_false_iff_ne.2 hd
 have B1:Bx (Bd 64 n.natAbs):=bx (by unfold Bd; omega)
 have B2:Bx (Bd 64 d.natAbs):=bx (by unfold Bd; omega)
 clear h1 h2 h3 h4 hd
 go_enter Tryz.func31,Tryz.ntmps31
 go_wp2_with fail
 obtain⟨w1,e1,o1,b1,s1⟩:=Js w (.bool false) (.slice none 0 0) (.slice none 0 0) 38
 rw[e1]
 refine(size_num w1 n H.out.1.1 H.out.1.2).mono ?_
 rintro e w2 ⟨vn,rfl,hn,hb⟩
 go_wp2_with fail
 refine(size_num w2 d H.out.2.1 H.out.2.2).mono ?_
 rintro e w3 ⟨vd,rfl,hd,hb3⟩
 have hn3:=hn.below hb3
 go_wp2_with fail
 refine(Wa w3 _ _ _ _ _ hn3 hd (by have:=HD.out; omega) B1.out B2.out (by omega)).mono ?_
 rintro e w4 ⟨vr,rfl,hrr,hb4⟩
 change IsRat w4 vr (newR n d)at hrr
 obtain⟨vrn,vrd,rfl,hrn,hrd⟩:=hrr
 obtain⟨Ar1,cr1,rfl,_⟩:=id hrn
 obtain⟨Ar2,cr2,rfl,_⟩:=id hrd
 have o4:=((o1.gone hb).gone hb3).gone hb4
 have hz:HeldR w w.heap.size 38 [] w4:=⟨((b1.trans (hb.mono b1.size)).trans (hb3.mono (Nat.le_trans b1.size hb.size))).trans (hb4.mono (Nat.le_trans (Nat.le_trans b1.size hb.size) hb3.size)),Nat.le_refl _,by simp,_,_,_,o4,Y3 _,Xi _ _ _,Xi _ _ _⟩
 obtain⟨k0,k1,k2,k3,k4,k5⟩:=hz.cells
 clear e1
 go_wp2
 obtain⟨wf,HW,f0,f1,f2,hfin⟩:=hz.fin rfl hrn hrd
 rw[HW]
 (try simp only[Exit.inBlock,Exit.then])
 refine bodyPost_ret (by simp[results,Tryz.results31,go_sem,f0,f1,f2]; try rfl) rfl ?_
 exact RetRE.of hfin 0
end Wx

namespace Wx
open Go Go.RowKit Go.Proofs

def ObjA (w:World) (g:Nat) (cs:List Value) (e:TypeId):Prop:=w.heap[g]?=some (.cells cs.toArray e (0,0))
theorem ObjA.cell {w:World} {g:Nat} {cs:List Value} {e:TypeId} (h:ObjA w g cs e) {i:Nat} {v:Value} (hi:cs[i]?=some v):w.cell? ⟨g,i,none⟩=some v:=by
 unfold ObjA at h; simp[World.cell?,h,hi]
theorem ObjA.fz {w:World} {g:Nat} {cs:List Value} {e:TypeId} (h:ObjA w g cs e) (i:Nat):w.frozen? ⟨g,i,none⟩=false:=by unfold ObjA at h; simp[World.frozen?,h]
theorem ObjA.lt {w:World} {g:Nat} {cs:List Value} {e:TypeId} (h:ObjA w g cs e):g<w.heap.size:=by
 unfold ObjA at h
 rcases Nat.lt_or_ge g w.heap.size with h'|h'
 ·exact h'
 ·rw[Array.getElem?_eq_none h']at h; cases h
theorem ObjA.gone {w w':World} {g:Nat} {cs:List Value} {e:TypeId} (h:ObjA w g cs e) (hb:Below w.heap.size w w'):ObjA w' g cs e:=(hb.block g h.lt).trans h
theorem ObjA.far {w:World} {g r:Nat} {cs:List Value} {e:TypeId} (h:ObjA w g cs e) (hr:g≠r) (i:Nat) (u:Value):ObjA (w.setCell ⟨r,i,none⟩ u) g cs e:=(Below.heap_setCell w ⟨r,i,none⟩ u g hr).trans h
theorem ObjA.set {w:World} {g:Nat} {cs:List Value} {e:TypeId} (h:ObjA w g cs e) (i:Nat) (u:Value):ObjA (w.setCell ⟨g,i,none⟩ u) g (cs.set i u) e:=by
 unfold ObjA at *; simp[World.setCell,Array.getElem?_modify,h]
theorem ObjA.noInt {w:World} {g:Nat} {cs:List Value} {e:TypeId} (h:ObjA w g cs e) (hv:∀v∈cs,Km v):NoInt w g:=by
 intro i k z hc
 unfold ObjA at h
 simp only[World.cell?,h]at hc
 have:cs[i]?=some (.int k z):=by simpa using hc
 exact hv _ (List.mem_of_getElem? this) k z rfl
theorem Jh (w:World) (cs:List Value) (e:TypeId):∃w',w.alloc (.cells cs.toArray e)=w'∧ObjA w' w.heap.size cs e∧Below w.heap.size w w'∧w'.heap.size=w.heap.size+1:=
 ⟨_,rfl,heap_alloc_new _ _,Below.alloc (Below.refl _ _) (Nat.le_refl _) _,by simp⟩
theorem Num.noIntK {w:World} {k:IntKind} {b:Nat} {v:Value} {n:Nat} (h:Num k b w v n) {g:Nat} (hg:NoInt w g) (i:Nat) (u:Value):Num k b (w.setCell ⟨g,i,none⟩ u) v n:=by
 obtain⟨A,c,rfl,hr⟩:=h
 exact⟨A,c,rfl,hr.noInt hg i u⟩

def HeldN (w:World) (r n:Nat) (e:TypeId) (ps:List (Nat×List Value×TypeId)) (w':World):Prop:=
 Below w.heap.size w w'∧w.heap.size≤r∧(∀p∈ps,p.1≠r∧ObjA w' p.1 p.2.1 p.2.2)∧∃cs,cs.length=n∧ObjA w' r cs e∧∀v∈cs,Km v
theorem HeldN.call {w:World} {r n:Nat} {e:TypeId} {ps:List (Nat×List Value×TypeId)} {w' w'':World} {p:Prop} (h:HeldN w r n e ps w'∧p) (hb:Below w'.heap.size w' w''):HeldN w r n e ps w'':=by
 obtain⟨⟨h1,h2,h3,cs,h4,h5,h6⟩,_⟩:=h
 exact⟨h1.trans (hb.mono h1.size),h2,fun p hp=>⟨(h3 p hp).1,(h3 p hp).2.gone hb⟩,cs,h4,h5.gone hb,h6⟩
theorem HeldN.drew {w:World} {r n:Nat} {e:TypeId} {ps:List (Nat×List Value×TypeId)} {w':World} (h:HeldN w r n e ps w'):HeldN w r n e ps w'.drew:=by
 obtain⟨h1,h2,h3,h4⟩:=h
 exact⟨h1.drew,h2,h3,h4⟩
theorem HeldN.set {w:World} {r n:Nat} {e:TypeId} {ps:List (Nat×List Value×TypeId)} {w':World} (h:HeldN w r n e ps w') (i:Nat) {u:Value} (hu:Km u):HeldN w r n e ps (w'.setCell ⟨r,i,none⟩ u):=by
 obtain⟨h1,h2,h3,cs,h4,h5,h6⟩:=h
 refine⟨h1.setCell h2 _,h2,fun p hp=>⟨(h3 p hp).1,(h3 p hp).2.far (h3 p hp).1 _ _⟩,cs.set i u,by rw[List.length_set,h4],h5.set i u,fun v hv=>?_⟩
 rcases List.mem_or_eq_of_mem_set hv with h|h
 ·exact h6 v h
 ·rw[h]; exact hu
theorem HeldN.cellR {w:World} {r n:Nat} {e:TypeId} {ps:List (Nat×List Value×TypeId)} {w':World} (h:HeldN w r n e ps w') {i:Nat} (hi:i<n):w'.cell? ⟨r,i,none⟩=some (cv w' ⟨r,i,none⟩):=by
 obtain⟨_,_,_,cs,h4,h5,_⟩:=h
 exact cv_eq (h5.cell (List.getElem?_eq_getElem (by omega)))
theorem HeldN.fzR {w:World} {r n:Nat} {e:TypeId} {ps:List (Nat×List Value×TypeId)} {w':World} (h:HeldN w r n e ps w') (i:Nat):w'.frozen? ⟨r,i,none⟩=false:=by
 obtain⟨_,_,_,cs,h4,h5,_⟩:=h
 exact h5.fz i
theorem HeldN.par {w:World} {r n:Nat} {e:TypeId} {ps:List (Nat×List Value×TypeId)} {w':World} (h:HeldN w r n e ps w') {p:Nat×List Value×TypeId} (hp:p∈ps):ObjA w' p.1 p.2.1 p.2.2:=(h.2.2.1 p hp).2
def setAll (w:World) (r k:Nat):List Value→World
 |[]=>w
 |v::vs=>setAll (w.setCell ⟨r,k,none⟩ v) r (k+1) vs
theorem HeldN.setAll {w:World} {r n:Nat} {e:TypeId} {ps:List (Nat×List Value×TypeId)} (vs:List Value):∀(k:Nat) {w':World},HeldN w r n e ps w'→(∀v∈vs,Km v)→HeldN w r n e ps (setAll w' r k vs):=by
 induction vs with
 |nil=>intro k w' h _; exact h
 |cons v vs ih=>intro k w' h hv; exact ih (k+1) (h.set k (hv v (by simp))) (fun u hu=>hv u (List.mem_cons_of_mem _ hu))
theorem setAll_obj {r:Nat} {e:TypeId} (vs:List Value):∀(k:Nat) {w:World} {cs:List Value},ObjA w r cs e→cs.length=k+vs.length→ObjA (setAll w r k vs) r (cs.take k++vs) e:=by
 induction vs with
 |nil=>intro k w cs h hl; rw[List.append_nil,List.take_of_length_le (by simp at hl; omega)]; exact h
 |cons v vs ih=>
  intro k w cs h hl
  have:=ih (k+1) (h.set k v) (by rw[List.length_set]; simp at hl; omega)
  have e1:(cs.set k v).take (k+1)++vs=cs.take k++v::vs:=by
   have hk:k<(cs.set k v).length:=by rw[List.length_set]; simp at hl; omega
   rw[List.take_add_one,List.getElem?_eq_getElem hk,List.getElem_set_self,List.take_set_of_le (Nat.le_refl k)]
   simp
  rw[e1]at this
  exact this
theorem setAll_num {r:Nat} {e:TypeId} (vs:List Value):∀(k:Nat) {w:World} {cs:List Value},ObjA w r cs e→(∀v∈cs,Km v)→(∀v∈vs,Km v)→∀(kd:IntKind) (b:Nat) (v:Value) (m:Nat),Num kd b w v m→Num kd b (setAll w r k vs) v m:=by
 induction vs with
 |nil=>intro k w cs _ _ _ kd b v m h; exact h
 |cons u vs ih=>
  intro k w cs h hc hv kd b v m hn
  refine ih (k+1) (h.set k u) (fun x hx=>?_) (fun x hx=>hv x (List.mem_cons_of_mem _ hx)) kd b v m (hn.noIntK (h.noInt hc) k u)
  rcases List.mem_or_eq_of_mem_set hx with h'|h'
  ·exact hc x h'
  ·rw[h']; exact hv u (by simp)
theorem HeldN.fin {w:World} {r n:Nat} {e:TypeId} {ps:List (Nat×List Value×TypeId)} {w':World} (h:HeldN w r n e ps w') (vs:List Value) (hl:vs.length=n) (hv:∀v∈vs,Km v):
  ∃wf,Wx.setAll w' r 0 vs=wf∧ObjA wf r vs e∧Below w.heap.size w wf∧(∀(kd:IntKind) (b:Nat) (v:Value) (m:Nat),Num kd b w' v m→Num kd b wf v m):=by
 have hs:=HeldN.setAll vs 0 h hv
 obtain⟨h1,h2,h3,cs,h4,h5,h6⟩:=h
 refine⟨_,rfl,?_,hs.1,setAll_num vs 0 h5 h6 hv⟩
 have:=setAll_obj vs 0 h5 (by omega)
 simpa using this
theorem Jf {b:Bool} {A1 A2:Option Addr} {l1 l2 c1 c2:Nat}:∀v∈[Value.bool b,.slice A1 l1 c1,.slice A2 l2 c2],Km v:=by
 intro v hv; simp at hv; rcases hv with rfl|rfl|rfl
 ·exact Y3 _
 ·exact Xi _ _ _
 ·exact Xi _ _ _
theorem HeldN.sets3 {w:World} {r n:Nat} {e:TypeId} {ps:List (Nat×List Value×TypeId)} {w':World} (h:HeldN w r n e ps w') {b:Bool} {A1 A2:Option Addr} {l1 l2 c1 c2:Nat}:
  HeldN w r n e ps (((w'.setCell ⟨r,0,none⟩ (.bool b)).setCell ⟨r,1,none⟩ (.slice A1 l1 c1)).setCell ⟨r,2,none⟩ (.slice A2 l2 c2)):=
 ((h.set 0 (Y3 _)).set 1 (Xi _ _ _)).set 2 (Xi _ _ _)
theorem IsRat.into {w w':World} {v:Value} {q:Rat} (h:IsRat w v q) (hn:∀(kd:IntKind) (b:Nat) (v:Value) (m:Nat),Num kd b w v m→Num kd b w' v m):IsRat w' v q:=by
 obtain⟨vn,vd,rfl,h1,h2⟩:=h
 exact⟨vn,vd,rfl,hn _ _ _ _ h1,hn _ _ _ _ h2⟩
end Wx

namespace Wx
set_option maxRecDepth 100000
open Go Go.RowKit Go.Proofs

def ofR (n d:Int):Rat:=if d≤0 then(n:Rat)else newR n d
theorem of_num (w:World) (n d:Int) (h1:-9223372036854775808≤n) (h2:n≤9223372036854775807) (h4:d≤9223372036854775807):
  Calls Tryz.prog 46 #[.agg #[.int .i64 n,.int .i64 d]] w (RetRat w (ofR n d)):=by
 have HH:=bx (And.intro h1 (And.intro h2 h4))
 by_cases hd:d≤0
 ·have hq:ofR n d=(n:Rat):=if_pos hd
  rw[hq]
  generalize hg:(n:Rat)=q
  have HG:=bx hg
  clear h1 h2 h4 hq hg
  go_enter Tryz.func46,Tryz.ntmps46
  go_wp2_with fail
  obtain⟨w1,e1,o1,b1,s1⟩:=Jh w [.int .i64 n,.int .i64 d] 82
  obtain⟨w2,e2,o2,b2,s2⟩:=Jh w1 [.bool false,.slice none 0 0,.slice none 0 0] 38
  rw[e1,e2]
  rw[s1]at o2
  have hz:HeldN w (w.heap.size+1) 3 38 [] w2:=⟨b1.trans (b2.mono b1.size),by omega,by simp,_,rfl,o2,Jf⟩
  clear e1 e2 s2
  have hc:=int_num w2 n HH.out.1 HH.out.2.1
  rw[HG.out]at hc
  refine Calls.mono hc ?_
  clear hc
  rintro e w3 ⟨vr,rfl,hr,hb⟩
  obtain⟨vrn,vrd,rfl,hrn,hrd⟩:=id hr
  obtain⟨Ar1,cr1,rfl,_⟩:=id hrn
  obtain⟨Ar2,cr2,rfl,_⟩:=id hrd
  have hz:=HeldN.call (And.intro hz trivial) hb
  have k0:=hz.cellR (i:=0) (by omega)
  have k1:=hz.cellR (i:=1) (by omega)
  have k2:=hz.cellR (i:=2) (by omega)
  have k3:=hz.fzR 0
  have k4:=hz.fzR 1
  have k5:=hz.fzR 2
  go_wp2
  obtain⟨wf,HW,ho,hB,hN⟩:=hz.fin [_,_,_] rfl (Jf (b:=decide (q.num<0)) (A1:=Ar1) (l1:=(digs Qa q.num.natAbs).length) (c1:=cr1) (A2:=Ar2) (l2:=(digs Qa (Qo q.den)).length) (c2:=cr2))
  simp only[setAll,Nat.reduceAdd]at HW
  rw[HW]
  (try simp only[Exit.inBlock,Exit.then])
  have f0:=ho.cell (i:=0) rfl
  have f1:=ho.cell (i:=1) rfl
  have f2:=ho.cell (i:=2) rfl
  refine bodyPost_ret (by simp[results,Tryz.results46,go_sem,f0,f1,f2]; try rfl) rfl ?_
  exact⟨_,rfl,hr.into hN,hB⟩
 ·have hq:ofR n d=newR n d:=if_neg hd
  rw[hq]
  generalize hg:newR n d=q
  have HG:=bx hg
  have hde:d≠0:=by omega
  have HD:=bx (And.intro hde (show -9223372036854775808≤d by omega))
  clear h1 h2 h4 hq hg hde
  go_enter Tryz.func46,Tryz.ntmps46
  go_wp2_with fail
  obtain⟨w1,e1,o1,b1,s1⟩:=Jh w [.int .i64 n,.int .i64 d] 82
  obtain⟨w2,e2,o2,b2,s2⟩:=Jh w1 [.bool false,.slice none 0 0,.slice none 0 0] 38
  rw[e1,e2]
  rw[s1]at o2
  have hz:HeldN w (w.heap.size+1) 3 38 [] w2:=⟨b1.trans (b2.mono b1.size),by omega,by simp,_,rfl,o2,Jf⟩
  clear e1 e2 s2
  have hc:=new_num w2 n d HH.out.1 HH.out.2.1 HD.out.2 HH.out.2.2 HD.out.1
  rw[HG.out]at hc
  refine Calls.mono hc ?_
  clear hc
  rintro e w3 ⟨vr,rfl,hr,hb⟩
  obtain⟨vrn,vrd,rfl,hrn,hrd⟩:=id hr
  obtain⟨Ar1,cr1,rfl,_⟩:=id hrn
  obtain⟨Ar2,cr2,rfl,_⟩:=id hrd
  have hz:=HeldN.call (And.intro hz trivial) hb
  obtain⟨w4,e4,o4,b4,s4⟩:=Jh w3 [.bool (decide (q.num<0)),.slice Ar1 (digs Qa q.num.natAbs).length cr1,.slice Ar2 (digs Qa (Qo q.den)).length cr2] 38
  have hr4:=hr.below b4
  have hz:=HeldN.call (And.intro hz trivial) b4
  have k0:=hz.cellR (i:=0) (by omega)
  have k1:=hz.cellR (i:=1) (by omega)
  have k2:=hz.cellR (i:=2) (by omega)
  have k3:=hz.fzR 0
  have k4:=hz.fzR 1
  have k5:=hz.fzR 2
  have k6:=o4.cell (i:=0) rfl
  have k7:=o4.cell (i:=1) rfl
  have k8:=o4.cell (i:=2) rfl
  go_wp2
  obtain⟨wf,HW,ho,hB,hN⟩:=hz.fin [_,_,_] rfl (Jf (b:=decide (q.num<0)) (A1:=Ar1) (l1:=(digs Qa q.num.natAbs).length) (c1:=cr1) (A2:=Ar2) (l2:=(digs Qa (Qo q.den)).length) (c2:=cr2))
  simp only[setAll,Nat.reduceAdd]at HW
  rw[HW]
  (try simp only[Exit.inBlock,Exit.then])
  have f0:=ho.cell (i:=0) rfl
  have f1:=ho.cell (i:=1) rfl
  have f2:=ho.cell (i:=2) rfl
  refine bodyPost_ret (by simp[results,Tryz.results46,go_sem,f0,f1,f2]; try rfl) rfl ?_
  exact⟨_,rfl,hr4.into hN,hB⟩
end Wx
