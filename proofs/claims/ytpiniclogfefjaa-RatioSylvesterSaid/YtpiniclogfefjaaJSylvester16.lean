import Derived.Test.YtpiniclogfefjaaCSylvesterAddS
namespace Wx
set_option maxRecDepth 100000
open Go Go.RowKit Go.Proofs

theorem isRat_of {w:World} {v:Value} {p q:Rat} (h:IsRat w v p) (e:q=p):IsRat w v q:=e▸h

set_option maxHeartbeats 8000000 in
theorem mul_num (w:World) (vx vy:Value) (x y:Rat) (hx:IsRat w vx x) (hy:IsRat w vy y) {j k:Nat} (hj:BdR j x) (hk:BdR k y) (hjk:j+k≤100000000):Calls Try.prog 11 #[vx,vy] w (RetRat w (x*y)):=by
 obtain⟨vx1,vx2,rfl,hxa,hxb⟩:=id hx
 obtain⟨Ax1,cx1,rfl,_⟩:=id hxa
 obtain⟨Ax2,cx2,rfl,_⟩:=id hxb
 obtain⟨vy1,vy2,rfl,hya,hyb⟩:=id hy
 obtain⟨Ay1,cy1,rfl,_⟩:=id hya
 obtain⟨Ay2,cy2,rfl,_⟩:=id hyb
 have hdx:=x.den_pos
 have hdy:=y.den_pos
 have HB:=bx (And.intro hj hk)
 have hj1:j≤1000000000:=by omega
 have hk1:k≤1000000000:=by omega
 clear hj hk
 go_enter Try.func11,Try.ntmps11
 go_wp2_with fail
 obtain⟨w1,e1,o1,b1,s1⟩:=Yz w (.bool (decide (x.num<0))) (.slice Ax1 (digs Qb x.num.natAbs).length cx1) (.slice Ax2 (digs Qb (Qm x.den)).length cx2) 32
 obtain⟨w2,e2,o2,b2,s2⟩:=Yz w1 (.bool (decide (y.num<0))) (.slice Ay1 (digs Qb y.num.natAbs).length cy1) (.slice Ay2 (digs Qb (Qm y.den)).length cy2) 32
 obtain⟨w3,e3,o3,b3,s3⟩:=Yz w2 (.bool false) (.slice none 0 0) (.slice none 0 0) 32
 rw[e1,e2,e3]
 rw[s1]at o2
 rw[s2,s1]at o3
 have p1:=((o1.gone b2).gone b3)
 have p2:=(o2.gone b3)
 have p3:=o3
 have B0:=((b1.trans (b2.mono b1.size)).trans (b3.mono (b1.trans (b2.mono b1.size)).size))
 have hS:∀w',HeldR w (w.heap.size+2) 32 [(w.heap.size,.bool (decide (x.num<0)),.slice Ax1 (digs Qb x.num.natAbs).length cx1,.slice Ax2 (digs Qb (Qm x.den)).length cx2),(w.heap.size+1,.bool (decide (y.num<0)),.slice Ay1 (digs Qb y.num.natAbs).length cy1,.slice Ay2 (digs Qb (Qm y.den)).length cy2)] w'→HeldR w (w.heap.size+2) 32 [(w.heap.size,.bool (decide (x.num<0)),.slice Ax1 (digs Qb x.num.natAbs).length cx1,.slice Ax2 (digs Qb (Qm x.den)).length cx2),(w.heap.size+1,.bool (decide (y.num<0)),.slice Ay1 (digs Qb y.num.natAbs).length cy1,.slice Ay2 (digs Qb (Qm y.den)).length cy2)] w'∧w'.cell? ⟨w.heap.size,0,none⟩=some (.bool (decide (x.num<0)))∧w'.cell? ⟨w.heap.size,1,none⟩=some (.slice Ax1 (digs Qb x.num.natAbs).length cx1)∧w'.cell? ⟨w.heap.size,2,none⟩=some (.slice Ax2 (digs Qb (Qm x.den)).length cx2)∧w'.cell? ⟨w.heap.size+1,0,none⟩=some (.bool (decide (y.num<0)))∧w'.cell? ⟨w.heap.size+1,1,none⟩=some (.slice Ay1 (digs Qb y.num.natAbs).length cy1)∧w'.cell? ⟨w.heap.size+1,2,none⟩=some (.slice Ay2 (digs Qb (Qm y.den)).length cy2)∧w'.cell? ⟨w.heap.size+2,0,none⟩=some (cv w' ⟨w.heap.size+2,0,none⟩)∧w'.cell? ⟨w.heap.size+2,1,none⟩=some (cv w' ⟨w.heap.size+2,1,none⟩)∧w'.cell? ⟨w.heap.size+2,2,none⟩=some (cv w' ⟨w.heap.size+2,2,none⟩)∧w'.frozen? ⟨w.heap.size+2,0,none⟩=false∧w'.frozen? ⟨w.heap.size+2,1,none⟩=false∧w'.frozen? ⟨w.heap.size+2,2,none⟩=false:=fun w' hh=>by
  obtain⟨f0,f1,f2,f3,f4,f5⟩:=hh.cells
  have q1:=(hh.2.2.1 (w.heap.size,.bool (decide (x.num<0)),.slice Ax1 (digs Qb x.num.natAbs).length cx1,.slice Ax2 (digs Qb (Qm x.den)).length cx2) (by simp)).2
  have q2:=(hh.2.2.1 (w.heap.size+1,.bool (decide (y.num<0)),.slice Ay1 (digs Qb y.num.natAbs).length cy1,.slice Ay2 (digs Qb (Qm y.den)).length cy2) (by simp)).2
  exact⟨hh,q1.c0,q1.c1,q1.c2,q2.c0,q2.c1,q2.c2,f0,f1,f2,f3,f4,f5⟩
 have H0:HeldR w (w.heap.size+2) 32 [(w.heap.size,.bool (decide (x.num<0)),.slice Ax1 (digs Qb x.num.natAbs).length cx1,.slice Ax2 (digs Qb (Qm x.den)).length cx2),(w.heap.size+1,.bool (decide (y.num<0)),.slice Ay1 (digs Qb y.num.natAbs).length cy1,.slice Ay2 (digs Qb (Qm y.den)).length cy2)] w3:=⟨B0,by omega,by intro p hp; simp at hp; rcases hp with rfl|rfl; exact⟨by simp,p1⟩; exact⟨by simp,p2⟩,_,_,_,p3,Yw _,Q7 _ _ _,Q7 _ _ _⟩
 clear e1 e2 e3
 have hz:=H0.drew
 go_region_held3 (fun w'=>HeldR w (w.heap.size+2) 32 [(w.heap.size,.bool (decide (x.num<0)),.slice Ax1 (digs Qb x.num.natAbs).length cx1,.slice Ax2 (digs Qb (Qm x.den)).length cx2),(w.heap.size+1,.bool (decide (y.num<0)),.slice Ay1 (digs Qb y.num.natAbs).length cy1,.slice Ay2 (digs Qb (Qm y.den)).length cy2)] w'∧w'.cell? ⟨w.heap.size,0,none⟩=some (.bool (decide (x.num<0)))∧w'.cell? ⟨w.heap.size,1,none⟩=some (.slice Ax1 (digs Qb x.num.natAbs).length cx1)∧w'.cell? ⟨w.heap.size,2,none⟩=some (.slice Ax2 (digs Qb (Qm x.den)).length cx2)∧w'.cell? ⟨w.heap.size+1,0,none⟩=some (.bool (decide (y.num<0)))∧w'.cell? ⟨w.heap.size+1,1,none⟩=some (.slice Ay1 (digs Qb y.num.natAbs).length cy1)∧w'.cell? ⟨w.heap.size+1,2,none⟩=some (.slice Ay2 (digs Qb (Qm y.den)).length cy2)∧w'.cell? ⟨w.heap.size+2,0,none⟩=some (cv w' ⟨w.heap.size+2,0,none⟩)∧w'.cell? ⟨w.heap.size+2,1,none⟩=some (cv w' ⟨w.heap.size+2,1,none⟩)∧w'.cell? ⟨w.heap.size+2,2,none⟩=some (cv w' ⟨w.heap.size+2,2,none⟩)∧w'.frozen? ⟨w.heap.size+2,0,none⟩=false∧w'.frozen? ⟨w.heap.size+2,1,none⟩=false∧w'.frozen? ⟨w.heap.size+2,2,none⟩=false)
  (first|exact hS _ hz|exact hS _ (HeldR.sets (by assumption) _ _ _ _ _ _ _))
  (first
   |(go_at_call 40; have hc:=Wc _ _ x.den (hxb.below hz.1) hdx; (with_reducible refine Calls.mono hc ?_); clear hc; rintro e wz ⟨vux,rfl,hux,hb⟩; (try have hux:=hux.below hb); (try have huy:=huy.below hb); (try have ht1:=ht1.below hb); (try have ht2:=ht2.below hb); (try have htd:=htd.below hb); (try have hs1:=hs1.below hb); have hz:=HeldR.call (by assumption) hb)
   |(go_at_call 40; have hc:=Wc _ _ y.den (hyb.below hz.1) hdy; (with_reducible refine Calls.mono hc ?_); clear hc; rintro e wz ⟨vuy,rfl,huy,hb⟩; (try have hux:=hux.below hb); (try have huy:=huy.below hb); (try have ht1:=ht1.below hb); (try have ht2:=ht2.below hb); (try have htd:=htd.below hb); (try have hs1:=hs1.below hb); have hz:=HeldR.call (by assumption) hb)
   |(go_at_call 39; have hc:=Uk _ _ _ _ _ (hxa.below hz.1) (hya.below hz.1) HB.out.1.1 HB.out.2.1 hj1 hk1; (with_reducible refine Calls.mono hc ?_); clear hc; rintro e wz ⟨vt1,rfl,ht1,hb⟩; (try have hux:=hux.below hb); (try have huy:=huy.below hb); (try have ht1:=ht1.below hb); (try have ht2:=ht2.below hb); (try have htd:=htd.below hb); (try have hs1:=hs1.below hb); have hz:=HeldR.call (by assumption) hb)
   |(go_at_call 39; have hc:=Uk _ _ _ _ _ hux huy HB.out.1.2 HB.out.2.2 hj1 hk1; (with_reducible refine Calls.mono hc ?_); clear hc; rintro e wz ⟨vt2,rfl,ht2,hb⟩; (try have hux:=hux.below hb); (try have huy:=huy.below hb); (try have ht1:=ht1.below hb); (try have ht2:=ht2.below hb); (try have htd:=htd.below hb); (try have hs1:=hs1.below hb); have hz:=HeldR.call (by assumption) hb)
   |(go_at_call 38; have hc:=Jx _ (!(decide (x.num<0)==decide (y.num<0))) _ _ (x.num.natAbs*y.num.natAbs) (x.den*y.den) ht1 ht2 (Nat.mul_pos hdx hdy) (HB.out.1.1.mul HB.out.2.1) (HB.out.1.2.mul HB.out.2.2) hjk; (with_reducible refine Calls.mono hc ?_); clear hc; rintro e wz ⟨vr,rfl,hrr,hb⟩; replace hrr:=isRat_of hrr (mul_red x y); obtain⟨vrn,vrd,rfl,hrn,hrd⟩:=hrr; obtain⟨Ar1,cr1,rfl,_⟩:=id hrn; obtain⟨Ar2,cr2,rfl,_⟩:=id hrd; (try have hux:=hux.below hb); (try have huy:=huy.below hb); (try have ht1:=ht1.below hb); (try have ht2:=ht2.below hb); (try have htd:=htd.below hb); (try have hs1:=hs1.below hb); have hz:=HeldR.call (by assumption) hb))
 all_goals (
  go_wp2
  obtain⟨wf,HW,f0,f1,f2,hfin⟩:=hz.fin rfl hrn hrd
  (try rw[HW])
  (try simp only[Exit.inBlock,Exit.then])
  refine bodyPost_ret (by simp[results,Try.results11,go_sem,f0,f1,f2]; try rfl) rfl ?_
  first|exact hfin|exact hfin.drew)
set_option maxHeartbeats 8000000 in
theorem by_num (w:World) (vx vy:Value) (x y:Rat) (hx:IsRat w vx x) (hy:IsRat w vy y) (hy0:y.num≠0) {j k:Nat} (hj:BdR j x) (hk:BdR k y) (hjk:j+k≤100000000):Calls Try.prog 48 #[vx,vy] w (RetRat w (x/y)):=by
 have HY:=bx hy0
 clear hy0
 obtain⟨vx1,vx2,rfl,hxa,hxb⟩:=id hx
 obtain⟨Ax1,cx1,rfl,_⟩:=id hxa
 obtain⟨Ax2,cx2,rfl,_⟩:=id hxb
 obtain⟨vy1,vy2,rfl,hya,hyb⟩:=id hy
 obtain⟨Ay1,cy1,rfl,_⟩:=id hya
 obtain⟨Ay2,cy2,rfl,_⟩:=id hyb
 have hdx:=x.den_pos
 have hdy:=y.den_pos
 have HB:=bx (And.intro hj hk)
 have hj1:j≤1000000000:=by omega
 have hk1:k≤1000000000:=by omega
 clear hj hk
 go_enter Try.func48,Try.ntmps48
 go_wp2_with fail
 obtain⟨w1,e1,o1,b1,s1⟩:=Yz w (.bool (decide (x.num<0))) (.slice Ax1 (digs Qb x.num.natAbs).length cx1) (.slice Ax2 (digs Qb (Qm x.den)).length cx2) 32
 obtain⟨w2,e2,o2,b2,s2⟩:=Yz w1 (.bool (decide (y.num<0))) (.slice Ay1 (digs Qb y.num.natAbs).length cy1) (.slice Ay2 (digs Qb (Qm y.den)).length cy2) 32
 obtain⟨w3,e3,o3,b3,s3⟩:=Yz w2 (.bool false) (.slice none 0 0) (.slice none 0 0) 32
 rw[e1,e2,e3]
 rw[s1]at o2
 rw[s2,s1]at o3
 have p1:=((o1.gone b2).gone b3)
 have p2:=(o2.gone b3)
 have p3:=o3
 have B0:=((b1.trans (b2.mono b1.size)).trans (b3.mono (b1.trans (b2.mono b1.size)).size))
 have hS:∀w',HeldR w (w.heap.size+2) 32 [(w.heap.size,.bool (decide (x.num<0)),.slice Ax1 (digs Qb x.num.natAbs).length cx1,.slice Ax2 (digs Qb (Qm x.den)).length cx2),(w.heap.size+1,.bool (decide (y.num<0)),.slice Ay1 (digs Qb y.num.natAbs).length cy1,.slice Ay2 (digs Qb (Qm y.den)).length cy2)] w'→HeldR w (w.heap.size+2) 32 [(w.heap.size,.bool (decide (x.num<0)),.slice Ax1 (digs Qb x.num.natAbs).length cx1,.slice Ax2 (digs Qb (Qm x.den)).length cx2),(w.heap.size+1,.bool (decide (y.num<0)),.slice Ay1 (digs Qb y.num.natAbs).length cy1,.slice Ay2 (digs Qb (Qm y.den)).length cy2)] w'∧w'.cell? ⟨w.heap.size,0,none⟩=some (.bool (decide (x.num<0)))∧w'.cell? ⟨w.heap.size,1,none⟩=some (.slice Ax1 (digs Qb x.num.natAbs).length cx1)∧w'.cell? ⟨w.heap.size,2,none⟩=some (.slice Ax2 (digs Qb (Qm x.den)).length cx2)∧w'.cell? ⟨w.heap.size+1,0,none⟩=some (.bool (decide (y.num<0)))∧w'.cell? ⟨w.heap.size+1,1,none⟩=some (.slice Ay1 (digs Qb y.num.natAbs).length cy1)∧w'.cell? ⟨w.heap.size+1,2,none⟩=some (.slice Ay2 (digs Qb (Qm y.den)).length cy2)∧w'.cell? ⟨w.heap.size+2,0,none⟩=some (cv w' ⟨w.heap.size+2,0,none⟩)∧w'.cell? ⟨w.heap.size+2,1,none⟩=some (cv w' ⟨w.heap.size+2,1,none⟩)∧w'.cell? ⟨w.heap.size+2,2,none⟩=some (cv w' ⟨w.heap.size+2,2,none⟩)∧w'.frozen? ⟨w.heap.size+2,0,none⟩=false∧w'.frozen? ⟨w.heap.size+2,1,none⟩=false∧w'.frozen? ⟨w.heap.size+2,2,none⟩=false:=fun w' hh=>by
  obtain⟨f0,f1,f2,f3,f4,f5⟩:=hh.cells
  have q1:=(hh.2.2.1 (w.heap.size,.bool (decide (x.num<0)),.slice Ax1 (digs Qb x.num.natAbs).length cx1,.slice Ax2 (digs Qb (Qm x.den)).length cx2) (by simp)).2
  have q2:=(hh.2.2.1 (w.heap.size+1,.bool (decide (y.num<0)),.slice Ay1 (digs Qb y.num.natAbs).length cy1,.slice Ay2 (digs Qb (Qm y.den)).length cy2) (by simp)).2
  exact⟨hh,q1.c0,q1.c1,q1.c2,q2.c0,q2.c1,q2.c2,f0,f1,f2,f3,f4,f5⟩
 have H0:HeldR w (w.heap.size+2) 32 [(w.heap.size,.bool (decide (x.num<0)),.slice Ax1 (digs Qb x.num.natAbs).length cx1,.slice Ax2 (digs Qb (Qm x.den)).length cx2),(w.heap.size+1,.bool (decide (y.num<0)),.slice Ay1 (digs Qb y.num.natAbs).length cy1,.slice Ay2 (digs Qb (Qm y.den)).length cy2)] w3:=⟨B0,by omega,by intro p hp; simp at hp; rcases hp with rfl|rfl; exact⟨by simp,p1⟩; exact⟨by simp,p2⟩,_,_,_,p3,Yw _,Q7 _ _ _,Q7 _ _ _⟩
 clear e1 e2 e3
 have hz:=H0.drew
 go_region_held3 (fun w'=>HeldR w (w.heap.size+2) 32 [(w.heap.size,.bool (decide (x.num<0)),.slice Ax1 (digs Qb x.num.natAbs).length cx1,.slice Ax2 (digs Qb (Qm x.den)).length cx2),(w.heap.size+1,.bool (decide (y.num<0)),.slice Ay1 (digs Qb y.num.natAbs).length cy1,.slice Ay2 (digs Qb (Qm y.den)).length cy2)] w'∧w'.cell? ⟨w.heap.size,0,none⟩=some (.bool (decide (x.num<0)))∧w'.cell? ⟨w.heap.size,1,none⟩=some (.slice Ax1 (digs Qb x.num.natAbs).length cx1)∧w'.cell? ⟨w.heap.size,2,none⟩=some (.slice Ax2 (digs Qb (Qm x.den)).length cx2)∧w'.cell? ⟨w.heap.size+1,0,none⟩=some (.bool (decide (y.num<0)))∧w'.cell? ⟨w.heap.size+1,1,none⟩=some (.slice Ay1 (digs Qb y.num.natAbs).length cy1)∧w'.cell? ⟨w.heap.size+1,2,none⟩=some (.slice Ay2 (digs Qb (Qm y.den)).length cy2)∧w'.cell? ⟨w.heap.size+2,0,none⟩=some (cv w' ⟨w.heap.size+2,0,none⟩)∧w'.cell? ⟨w.heap.size+2,1,none⟩=some (cv w' ⟨w.heap.size+2,1,none⟩)∧w'.cell? ⟨w.heap.size+2,2,none⟩=some (cv w' ⟨w.heap.size+2,2,none⟩)∧w'.frozen? ⟨w.heap.size+2,0,none⟩=false∧w'.frozen? ⟨w.heap.size+2,1,none⟩=false∧w'.frozen? ⟨w.heap.size+2,2,none⟩=false)
  (first|exact hS _ hz|exact hS _ (HeldR.sets (by assumption) _ _ _ _ _ _ _))
  (first
   |(go_at_call 40; have hc:=Wc _ _ x.den (hxb.below hz.1) hdx; (with_reducible refine Calls.mono hc ?_); clear hc; rintro e wz ⟨vux,rfl,hux,hb⟩; (try have hux:=hux.below hb); (try have huy:=huy.below hb); (try have ht1:=ht1.below hb); (try have ht2:=ht2.below hb); (try have htd:=htd.below hb); (try have hs1:=hs1.below hb); have hz:=HeldR.call (by assumption) hb)
   |(go_at_call 40; have hc:=Wc _ _ y.den (hyb.below hz.1) hdy; (with_reducible refine Calls.mono hc ?_); clear hc; rintro e wz ⟨vuy,rfl,huy,hb⟩; (try have hux:=hux.below hb); (try have huy:=huy.below hb); (try have ht1:=ht1.below hb); (try have ht2:=ht2.below hb); (try have htd:=htd.below hb); (try have hs1:=hs1.below hb); have hz:=HeldR.call (by assumption) hb)
   |(go_at_call 39; have hc:=Uk _ _ _ _ _ (hxa.below hz.1) huy HB.out.1.1 HB.out.2.2 hj1 hk1; (with_reducible refine Calls.mono hc ?_); clear hc; rintro e wz ⟨vt1,rfl,ht1,hb⟩; (try have hux:=hux.below hb); (try have huy:=huy.below hb); (try have ht1:=ht1.below hb); (try have ht2:=ht2.below hb); (try have htd:=htd.below hb); (try have hs1:=hs1.below hb); have hz:=HeldR.call (by assumption) hb)
   |(go_at_call 39; have hc:=Uk _ _ _ _ _ hux (hya.below hz.1) HB.out.1.2 HB.out.2.1 hj1 hk1; (with_reducible refine Calls.mono hc ?_); clear hc; rintro e wz ⟨vt2,rfl,ht2,hb⟩; (try have hux:=hux.below hb); (try have huy:=huy.below hb); (try have ht1:=ht1.below hb); (try have ht2:=ht2.below hb); (try have htd:=htd.below hb); (try have hs1:=hs1.below hb); have hz:=HeldR.call (by assumption) hb)
   |(go_at_call 38; have hc:=Jx _ (!(decide (x.num<0)==decide (y.num<0))) _ _ (x.num.natAbs*y.den) (x.den*y.num.natAbs) ht1 ht2 (Nat.mul_pos hdx (by have:=HY.out; omega)) (HB.out.1.1.mul HB.out.2.2) (HB.out.1.2.mul HB.out.2.1) hjk; (with_reducible refine Calls.mono hc ?_); clear hc; rintro e wz ⟨vr,rfl,hrr,hb⟩; replace hrr:=isRat_of hrr (div_red x y HY.out); obtain⟨vrn,vrd,rfl,hrn,hrd⟩:=hrr; obtain⟨Ar1,cr1,rfl,_⟩:=id hrn; obtain⟨Ar2,cr2,rfl,_⟩:=id hrd; (try have hux:=hux.below hb); (try have huy:=huy.below hb); (try have ht1:=ht1.below hb); (try have ht2:=ht2.below hb); (try have htd:=htd.below hb); (try have hs1:=hs1.below hb); have hz:=HeldR.call (by assumption) hb))
 all_goals (
  go_wp2
  obtain⟨wf,HW,f0,f1,f2,hfin⟩:=hz.fin rfl hrn hrd
  (try rw[HW])
  (try simp only[Exit.inBlock,Exit.then])
  refine bodyPost_ret (by simp[results,Try.results48,go_sem,f0,f1,f2]; try rfl) rfl ?_
  first|exact hfin|exact hfin.drew)
theorem Num.drew {k:IntKind} {b:Nat} {w:World} {v:Value} {n:Nat} (h:Num k b w v n):Num k b w.drew v n:=h
end Wx

namespace Wx
open Go Go.RowKit Go.Proofs

def Yj (x:Rat):Int:=if x.num<0 then -1 else if x=0 then 0 else 1
theorem sign_num (w:World) (vx:Value) (x:Rat) (hx:IsRat w vx x):Calls Try.prog 24 #[vx] w (Zv w (.int .i64 (Yj x))):=by
 obtain⟨vx1,vx2,rfl,hxa,hxb⟩:=id hx
 obtain⟨Ax1,cx1,rfl,_⟩:=id hxa
 obtain⟨Ax2,cx2,rfl,_⟩:=id hxb
 have hS:Yj x=if x.num<0 then -1 else if x=0 then 0 else 1:=rfl
 generalize Yj x=z at *
 by_cases h1:x.num<0
 ·rw[if_pos h1]at hS
  subst hS
  rw[decide_eq_true h1]at *
  go_enter Try.func24,Try.ntmps24
  go_wp2
  go_ret
  exact⟨rfl,Below.alloc (Below.refl _ _) (Nat.le_refl _) _⟩
 ·rw[if_neg h1]at hS
  rw[decide_eq_false h1]at *
  by_cases h2:x=0
  ·rw[if_pos h2]at hS
   subst hS
   have HD:=bx (decide_eq_true h2)
   clear h2
   go_enter Try.func24,Try.ntmps24
   go_wp2_with fail
   obtain⟨w1,e1,o1,b1,s1⟩:=Yz w (.bool false) (.slice Ax1 (digs Qb x.num.natAbs).length cx1) (.slice Ax2 (digs Qb (Qm x.den)).length cx2) 32
   rw[e1]
   have hc:=Qdq w1 _ x (hx.below b1)
   rw[HD.out]at hc
   refine hc.mono ?_
   rintro e w2 ⟨rfl,hb⟩
   go_wp2
   go_ret
   exact⟨rfl,b1.trans (hb.mono b1.size)⟩
  ·rw[if_neg h2]at hS
   subst hS
   have HD:=bx (decide_eq_false h2)
   clear h2
   go_enter Try.func24,Try.ntmps24
   go_wp2_with fail
   obtain⟨w1,e1,o1,b1,s1⟩:=Yz w (.bool false) (.slice Ax1 (digs Qb x.num.natAbs).length cx1) (.slice Ax2 (digs Qb (Qm x.den)).length cx2) 32
   rw[e1]
   have hc:=Qdq w1 _ x (hx.below b1)
   rw[HD.out]at hc
   refine hc.mono ?_
   rintro e w2 ⟨rfl,hb⟩
   go_wp2
   go_ret
   exact⟨rfl,b1.trans (hb.mono b1.size)⟩
end Wx

namespace Wx
open Go Go.RowKit Go.Proofs

theorem size_num (w:World) (z:Int) (h1:-9223372036854775808≤z) (h2:z≤9223372036854775807):Calls Try.prog 31 #[.int .i64 z] w (K4 .u64 Qb w z.natAbs):=by
 have HLT:Bx (z.natAbs<Qb):=bx (by unfold Qb; omega)
 by_cases hz:z<0
 ·have e1:IntKind.u64.wrap (-IntKind.u64.wrap z)=((z.natAbs:Nat):Int):=by
   simp[IntKind.wrap,IntKind.bits,IntKind.signed]; omega
  have E1:=bx e1
  clear e1
  go_enter Try.func31,Try.ntmps31
  go_wp2_with fail
  rw[E1.out]
  refine(Ki w _ HLT.out).mono ?_
  rintro e w3 ⟨vr,rfl,hr3,hb3⟩
  go_wp2
  go_ret
  exact⟨_,rfl,hr3,hb3⟩
 ·have e1:z=((z.natAbs:Nat):Int):=by omega
  have E1:=bx e1
  clear e1
  go_enter Try.func31,Try.ntmps31
  go_wp2_with fail
  have hc:=Ki w _ HLT.out
  rw[← E1.out]at hc
  refine hc.mono ?_
  rintro e w3 ⟨vr,rfl,hr3,hb3⟩
  go_wp2
  go_ret
  exact⟨_,rfl,hr3,hb3⟩

theorem int_num (w:World) (z:Int) (h1:-9223372036854775808≤z) (h2:z≤9223372036854775807):Calls Try.prog 7 #[.int .i64 z] w (RetRat w (z:Rat)):=by
 have H:=bx (And.intro h1 h2)
 clear h1 h2
 go_enter Try.func7,Try.ntmps7
 go_wp2_with fail
 obtain⟨w1,e1,o1,b1,s1⟩:=Yz w (.bool false) (.slice none 0 0) (.slice none 0 0) 32
 rw[e1]
 refine(size_num w1 z H.out.1 H.out.2).mono ?_
 rintro e w2 ⟨v,rfl,hv,hb⟩
 obtain⟨A1,c1,rfl,_⟩:=id hv
 have hz:HeldR w w.heap.size 32 [] w2:=⟨b1.trans (hb.mono b1.size),Nat.le_refl _,by simp,_,_,_,o1.gone hb,Yw _,Q7 _ _ _,Q7 _ _ _⟩
 obtain⟨k0,k1,k2,k3,k4,k5⟩:=hz.cells
 clear e1
 go_wp2
 obtain⟨wf,HW,f0,f1,f2,hfin⟩:=hz.fin (q:=(z:Rat)) (A2:=none) (l2:=0) (c2:=0) rfl (by rw[Rat.num_intCast]; exact hv) (by rw[Rat.den_intCast]; exact Num.zero _ _ _)
 rw[Rat.num_intCast]at HW f0 hfin
 rw[HW]
 (try simp only[Exit.inBlock,Exit.then])
 refine bodyPost_ret (by simp[results,Try.results7,go_sem,f0,f1,f2]; try rfl) rfl ?_
 exact hfin

def RetRE (w:World) (q:Rat) (err:Int) (e:Ending) (w':World):Prop:=∃v,e=.returned (.tuple #[v,.int .i64 err])∧IsRat w' v q∧Below w.heap.size w w'
theorem RetRE.of {w:World} {q:Rat} {v:Value} {w':World} (h:RetRat w q (.returned v) w') (err:Int):RetRE w q err (.returned (.tuple #[v,.int .i64 err])) w':=by
 obtain⟨v',e,h1,h2⟩:=h
 injection e with e
 subst e
 exact⟨_,rfl,h1,h2⟩
def newR (n d:Int):Rat:=Yn (!(decide (n<0)==decide (d<0))) n.natAbs d.natAbs

theorem new_num (w:World) (n d:Int) (h1:-9223372036854775808≤n) (h2:n≤9223372036854775807) (h3:-9223372036854775808≤d) (h4:d≤9223372036854775807) (hd:d≠0):
  Calls Try.prog 27 #[.int .i64 n,.int .i64 d] w (RetRE w (newR n d) 0):=by
 have H:=bx (And.intro (And.intro h1 h2) (And.intro h3 h4))
 have HD:=bx hd
 have hde:(d==0)=false:=beq_eq_false_iff_ne.2 hd
 have B1:Bx (Bd 64 n.natAbs):=bx (by unfold Bd; omega)
 have B2:Bx (Bd 64 d.natAbs):=bx (by unfold Bd; omega)
 clear h1 h2 h3 h4 hd
 go_enter Try.func27,Try.ntmps27
 go_wp2_with fail
 obtain⟨w1,e1,o1,b1,s1⟩:=Yz w (.bool false) (.slice none 0 0) (.slice none 0 0) 32
 rw[e1]
 refine(size_num w1 n H.out.1.1 H.out.1.2).mono ?_
 rintro e w2 ⟨vn,rfl,hn,hb⟩
 go_wp2_with fail
 refine(size_num w2 d H.out.2.1 H.out.2.2).mono ?_
 rintro e w3 ⟨vd,rfl,hd,hb3⟩
 have hn3:=hn.below hb3
 go_wp2_with fail
 refine(Jx w3 _ _ _ _ _ hn3 hd (by have:=HD.out; omega) B1.out B2.out (by omega)).mono ?_
 rintro e w4 ⟨vr,rfl,hrr,hb4⟩
 change IsRat w4 vr (newR n d)at hrr
 obtain⟨vrn,vrd,rfl,hrn,hrd⟩:=hrr
 obtain⟨Ar1,cr1,rfl,_⟩:=id hrn
 obtain⟨Ar2,cr2,rfl,_⟩:=id hrd
 have o4:=((o1.gone hb).gone hb3).gone hb4
 have hz:HeldR w w.heap.size 32 [] w4:=⟨((b1.trans (hb.mono b1.size)).trans (hb3.mono (Nat.le_trans b1.size hb.size))).trans (hb4.mono (Nat.le_trans (Nat.le_trans b1.size hb.size) hb3.size)),Nat.le_refl _,by simp,_,_,_,o4,Yw _,Q7 _ _ _,Q7 _ _ _⟩
 obtain⟨k0,k1,k2,k3,k4,k5⟩:=hz.cells
 clear e1
 go_wp2
 obtain⟨wf,HW,f0,f1,f2,hfin⟩:=hz.fin rfl hrn hrd
 rw[HW]
 (try simp only[Exit.inBlock,Exit.then])
 refine bodyPost_ret (by simp[results,Try.results27,go_sem,f0,f1,f2]; try rfl) rfl ?_
 exact RetRE.of hfin 0
end Wx

namespace Wx
open Go Go.RowKit Go.Proofs
set_option linter.unusedVariables false

end Wx

namespace Wx
open Go Go.RowKit Go.Proofs

def cmpT (x y:Rat):Int:=if x<y then -1 else if x=y then 0 else 1
theorem Qex (q:Rat):q.num<0↔q<0:=by
 rw[Rat.lt_iff]
 simp
theorem sgnI_eq (q:Rat):Yj q=cmpT q 0:=by
 unfold Yj cmpT
 by_cases h:q<0
 ·rw[if_pos ((Qex q).2 h),if_pos h]
 ·rw[if_neg (fun h'=>h ((Qex q).1 h')),if_neg h]
theorem cmpT_lt {x y:Rat} (h:x<y):cmpT x y = -1:=if_pos h
theorem cmpT_eq {x y:Rat} (h:x=y):cmpT x y=0:=by unfold cmpT; rw[if_neg (by grind),if_pos h]
theorem cmpT_gt {x y:Rat} (h:y<x):cmpT x y=1:=by unfold cmpT; rw[if_neg (by grind),if_neg (by grind)]
theorem tri (x y:Rat):x<y∨x=y∨y<x:=by grind
end Wx

namespace Wx
set_option maxRecDepth 100000
open Go Go.RowKit Go.Proofs

set_option maxHeartbeats 8000000 in
theorem less_num (w:World) (vx vy:Value) (x y:Rat) (hx:IsRat w vx x) (hy:IsRat w vy y) {j k:Nat} (hj:BdR j x) (hk:BdR k y) (hjk:j+k+j+k+1≤100000000):Calls Try.prog 37 #[vx,vy] w (RetRat w (x-y)):=by
 obtain⟨vx1,vx2,rfl,hxa,hxb⟩:=id hx
 obtain⟨Ax1,cx1,rfl,_⟩:=id hxa
 obtain⟨Ax2,cx2,rfl,_⟩:=id hxb
 obtain⟨vy1,vy2,rfl,hya,hyb⟩:=id hy
 obtain⟨Ay1,cy1,rfl,_⟩:=id hya
 obtain⟨Ay2,cy2,rfl,_⟩:=id hyb
 have HB:=bx (And.intro hj hk)
 have HS:=bx (Rat.sub_eq_add_neg x y)
 clear hj hk
 go_enter Try.func37,Try.ntmps37
 go_wp2_with fail
 obtain⟨w1,e1,o1,b1,s1⟩:=Yz w (.bool (decide (x.num<0))) (.slice Ax1 (digs Qb x.num.natAbs).length cx1) (.slice Ax2 (digs Qb (Qm x.den)).length cx2) 32
 obtain⟨w2,e2,o2,b2,s2⟩:=Yz w1 (.bool (decide (y.num<0))) (.slice Ay1 (digs Qb y.num.natAbs).length cy1) (.slice Ay2 (digs Qb (Qm y.den)).length cy2) 32
 obtain⟨w3,e3,o3,b3,s3⟩:=Yz w2 (.bool false) (.slice none 0 0) (.slice none 0 0) 32
 rw[e1,e2,e3]
 rw[s1]at o2
 rw[s2,s1]at o3
 have p1:=((o1.gone b2).gone b3)
 have p2:=(o2.gone b3)
 have p3:=o3
 have B0:=((b1.trans (b2.mono b1.size)).trans (b3.mono (b1.trans (b2.mono b1.size)).size))
 have hS:∀w',HeldR w (w.heap.size+2) 32 [(w.heap.size,.bool (decide (x.num<0)),.slice Ax1 (digs Qb x.num.natAbs).length cx1,.slice Ax2 (digs Qb (Qm x.den)).length cx2),(w.heap.size+1,.bool (decide (y.num<0)),.slice Ay1 (digs Qb y.num.natAbs).length cy1,.slice Ay2 (digs Qb (Qm y.den)).length cy2)] w'→HeldR w (w.heap.size+2) 32 [(w.heap.size,.bool (decide (x.num<0)),.slice Ax1 (digs Qb x.num.natAbs).length cx1,.slice Ax2 (digs Qb (Qm x.den)).length cx2),(w.heap.size+1,.bool (decide (y.num<0)),.slice Ay1 (digs Qb y.num.natAbs).length cy1,.slice Ay2 (digs Qb (Qm y.den)).length cy2)] w'∧w'.cell? ⟨w.heap.size,0,none⟩=some (.bool (decide (x.num<0)))∧w'.cell? ⟨w.heap.size,1,none⟩=some (.slice Ax1 (digs Qb x.num.natAbs).length cx1)∧w'.cell? ⟨w.heap.size,2,none⟩=some (.slice Ax2 (digs Qb (Qm x.den)).length cx2)∧w'.cell? ⟨w.heap.size+1,0,none⟩=some (.bool (decide (y.num<0)))∧w'.cell? ⟨w.heap.size+1,1,none⟩=some (.slice Ay1 (digs Qb y.num.natAbs).length cy1)∧w'.cell? ⟨w.heap.size+1,2,none⟩=some (.slice Ay2 (digs Qb (Qm y.den)).length cy2)∧w'.cell? ⟨w.heap.size+2,0,none⟩=some (cv w' ⟨w.heap.size+2,0,none⟩)∧w'.cell? ⟨w.heap.size+2,1,none⟩=some (cv w' ⟨w.heap.size+2,1,none⟩)∧w'.cell? ⟨w.heap.size+2,2,none⟩=some (cv w' ⟨w.heap.size+2,2,none⟩)∧w'.frozen? ⟨w.heap.size+2,0,none⟩=false∧w'.frozen? ⟨w.heap.size+2,1,none⟩=false∧w'.frozen? ⟨w.heap.size+2,2,none⟩=false:=fun w' hh=>by
  obtain⟨f0,f1,f2,f3,f4,f5⟩:=hh.cells
  have q1:=(hh.2.2.1 (w.heap.size,.bool (decide (x.num<0)),.slice Ax1 (digs Qb x.num.natAbs).length cx1,.slice Ax2 (digs Qb (Qm x.den)).length cx2) (by simp)).2
  have q2:=(hh.2.2.1 (w.heap.size+1,.bool (decide (y.num<0)),.slice Ay1 (digs Qb y.num.natAbs).length cy1,.slice Ay2 (digs Qb (Qm y.den)).length cy2) (by simp)).2
  exact⟨hh,q1.c0,q1.c1,q1.c2,q2.c0,q2.c1,q2.c2,f0,f1,f2,f3,f4,f5⟩
 have H0:HeldR w (w.heap.size+2) 32 [(w.heap.size,.bool (decide (x.num<0)),.slice Ax1 (digs Qb x.num.natAbs).length cx1,.slice Ax2 (digs Qb (Qm x.den)).length cx2),(w.heap.size+1,.bool (decide (y.num<0)),.slice Ay1 (digs Qb y.num.natAbs).length cy1,.slice Ay2 (digs Qb (Qm y.den)).length cy2)] w3:=⟨B0,by omega,by intro p hp; simp at hp; rcases hp with rfl|rfl; exact⟨by simp,p1⟩; exact⟨by simp,p2⟩,_,_,_,p3,Yw _,Q7 _ _ _,Q7 _ _ _⟩
 clear e1 e2 e3
 have hz:=H0.drew
 go_region_held3 (fun w'=>HeldR w (w.heap.size+2) 32 [(w.heap.size,.bool (decide (x.num<0)),.slice Ax1 (digs Qb x.num.natAbs).length cx1,.slice Ax2 (digs Qb (Qm x.den)).length cx2),(w.heap.size+1,.bool (decide (y.num<0)),.slice Ay1 (digs Qb y.num.natAbs).length cy1,.slice Ay2 (digs Qb (Qm y.den)).length cy2)] w'∧w'.cell? ⟨w.heap.size,0,none⟩=some (.bool (decide (x.num<0)))∧w'.cell? ⟨w.heap.size,1,none⟩=some (.slice Ax1 (digs Qb x.num.natAbs).length cx1)∧w'.cell? ⟨w.heap.size,2,none⟩=some (.slice Ax2 (digs Qb (Qm x.den)).length cx2)∧w'.cell? ⟨w.heap.size+1,0,none⟩=some (.bool (decide (y.num<0)))∧w'.cell? ⟨w.heap.size+1,1,none⟩=some (.slice Ay1 (digs Qb y.num.natAbs).length cy1)∧w'.cell? ⟨w.heap.size+1,2,none⟩=some (.slice Ay2 (digs Qb (Qm y.den)).length cy2)∧w'.cell? ⟨w.heap.size+2,0,none⟩=some (cv w' ⟨w.heap.size+2,0,none⟩)∧w'.cell? ⟨w.heap.size+2,1,none⟩=some (cv w' ⟨w.heap.size+2,1,none⟩)∧w'.cell? ⟨w.heap.size+2,2,none⟩=some (cv w' ⟨w.heap.size+2,2,none⟩)∧w'.frozen? ⟨w.heap.size+2,0,none⟩=false∧w'.frozen? ⟨w.heap.size+2,1,none⟩=false∧w'.frozen? ⟨w.heap.size+2,2,none⟩=false)
  (first|exact hS _ hz|exact hS _ (HeldR.sets (by assumption) _ _ _ _ _ _ _))
  (first
   |(go_at_call 22; have hc:=neg_num _ _ y (hy.below hz.1); (with_reducible refine Calls.mono hc ?_); clear hc; rintro e wz ⟨vm,rfl,hm,hb⟩; have hz:=HeldR.call (by assumption) hb)
   |(go_at_call 12; have hc:=add_num _ _ _ x (-y) (hx.below hz.1) hm HB.out.1 HB.out.2.neg hjk; (with_reducible refine Calls.mono hc ?_); clear hc; rintro e wz ⟨vr,rfl,hrr,hb⟩; replace hrr:=isRat_of hrr HS.out; obtain⟨vrn,vrd,rfl,hrn,hrd⟩:=hrr; obtain⟨Ar1,cr1,rfl,_⟩:=id hrn; obtain⟨Ar2,cr2,rfl,_⟩:=id hrd; have hz:=HeldR.call (by assumption) hb))
 all_goals (
  go_wp2
  obtain⟨wf,HW,f0,f1,f2,hfin⟩:=hz.fin rfl hrn hrd
  (try rw[HW])
  (try simp only[Exit.inBlock,Exit.then])
  refine bodyPost_ret (by simp[results,Try.results37,go_sem,f0,f1,f2]; try rfl) rfl ?_
  first|exact hfin|exact hfin.drew)

theorem sub_num (w:World) (vx vy:Value) (x y:Rat) (hx:IsRat w vx x) (hy:IsRat w vy y) {j k:Nat} (hj:BdR j x) (hk:BdR k y) (hjk:j+k+j+k+1≤100000000):Calls Try.prog 10 #[vx,vy] w (RetRat w (x-y)):=by
 obtain⟨vx1,vx2,rfl,hxa,hxb⟩:=id hx
 obtain⟨Ax1,cx1,rfl,_⟩:=id hxa
 obtain⟨Ax2,cx2,rfl,_⟩:=id hxb
 obtain⟨vy1,vy2,rfl,hya,hyb⟩:=id hy
 obtain⟨Ay1,cy1,rfl,_⟩:=id hya
 obtain⟨Ay2,cy2,rfl,_⟩:=id hyb
 go_enter Try.func10,Try.ntmps10
 go_wp2_with fail
 obtain⟨w1,e1,o1,b1,s1⟩:=Yz w (.bool (decide (x.num<0))) (.slice Ax1 (digs Qb x.num.natAbs).length cx1) (.slice Ax2 (digs Qb (Qm x.den)).length cx2) 32
 obtain⟨w2,e2,o2,b2,s2⟩:=Yz w1 (.bool (decide (y.num<0))) (.slice Ay1 (digs Qb y.num.natAbs).length cy1) (.slice Ay2 (digs Qb (Qm y.den)).length cy2) 32
 obtain⟨w3,e3,o3,b3,s3⟩:=Yz w2 (.bool false) (.slice none 0 0) (.slice none 0 0) 32
 rw[e1,e2,e3]
 rw[s1]at o2
 rw[s2,s1]at o3
 have p1:=((o1.gone b2).gone b3)
 have p2:=(o2.gone b3)
 have p3:=o3
 have B0:=((b1.trans (b2.mono b1.size)).trans (b3.mono (b1.trans (b2.mono b1.size)).size))
 have hS:∀w',HeldR w (w.heap.size+2) 32 [(w.heap.size,.bool (decide (x.num<0)),.slice Ax1 (digs Qb x.num.natAbs).length cx1,.slice Ax2 (digs Qb (Qm x.den)).length cx2),(w.heap.size+1,.bool (decide (y.num<0)),.slice Ay1 (digs Qb y.num.natAbs).length cy1,.slice Ay2 (digs Qb (Qm y.den)).length cy2)] w'→HeldR w (w.heap.size+2) 32 [(w.heap.size,.bool (decide (x.num<0)),.slice Ax1 (digs Qb x.num.natAbs).length cx1,.slice Ax2 (digs Qb (Qm x.den)).length cx2),(w.heap.size+1,.bool (decide (y.num<0)),.slice Ay1 (digs Qb y.num.natAbs).length cy1,.slice Ay2 (digs Qb (Qm y.den)).length cy2)] w'∧w'.cell? ⟨w.heap.size,0,none⟩=some (.bool (decide (x.num<0)))∧w'.cell? ⟨w.heap.size,1,none⟩=some (.slice Ax1 (digs Qb x.num.natAbs).length cx1)∧w'.cell? ⟨w.heap.size,2,none⟩=some (.slice Ax2 (digs Qb (Qm x.den)).length cx2)∧w'.cell? ⟨w.heap.size+1,0,none⟩=some (.bool (decide (y.num<0)))∧w'.cell? ⟨w.heap.size+1,1,none⟩=some (.slice Ay1 (digs Qb y.num.natAbs).length cy1)∧w'.cell? ⟨w.heap.size+1,2,none⟩=some (.slice Ay2 (digs Qb (Qm y.den)).length cy2)∧w'.cell? ⟨w.heap.size+2,0,none⟩=some (cv w' ⟨w.heap.size+2,0,none⟩)∧w'.cell? ⟨w.heap.size+2,1,none⟩=some (cv w' ⟨w.heap.size+2,1,none⟩)∧w'.cell? ⟨w.heap.size+2,2,none⟩=some (cv w' ⟨w.heap.size+2,2,none⟩)∧w'.frozen? ⟨w.heap.size+2,0,none⟩=false∧w'.frozen? ⟨w.heap.size+2,1,none⟩=false∧w'.frozen? ⟨w.heap.size+2,2,none⟩=false:=fun w' hh=>by
  obtain⟨f0,f1,f2,f3,f4,f5⟩:=hh.cells
  have q1:=(hh.2.2.1 (w.heap.size,.bool (decide (x.num<0)),.slice Ax1 (digs Qb x.num.natAbs).length cx1,.slice Ax2 (digs Qb (Qm x.den)).length cx2) (by simp)).2
  have q2:=(hh.2.2.1 (w.heap.size+1,.bool (decide (y.num<0)),.slice Ay1 (digs Qb y.num.natAbs).length cy1,.slice Ay2 (digs Qb (Qm y.den)).length cy2) (by simp)).2
  exact⟨hh,q1.c0,q1.c1,q1.c2,q2.c0,q2.c1,q2.c2,f0,f1,f2,f3,f4,f5⟩
 have H0:HeldR w (w.heap.size+2) 32 [(w.heap.size,.bool (decide (x.num<0)),.slice Ax1 (digs Qb x.num.natAbs).length cx1,.slice Ax2 (digs Qb (Qm x.den)).length cx2),(w.heap.size+1,.bool (decide (y.num<0)),.slice Ay1 (digs Qb y.num.natAbs).length cy1,.slice Ay2 (digs Qb (Qm y.den)).length cy2)] w3:=⟨B0,by omega,by intro p hp; simp at hp; rcases hp with rfl|rfl; exact⟨by simp,p1⟩; exact⟨by simp,p2⟩,_,_,_,p3,Yw _,Q7 _ _ _,Q7 _ _ _⟩
 clear e1 e2 e3
 have hz:=H0
 obtain⟨_,k0,k1,k2,k3,k4,k5,_⟩:=hS _ hz
 refine(less_num _ _ _ x y (hx.below hz.1) (hy.below hz.1) hj hk hjk).mono ?_
 rintro e wz ⟨vr,rfl,hrr,hb⟩
 obtain⟨vrn,vrd,rfl,hrn,hrd⟩:=hrr
 obtain⟨Ar1,cr1,rfl,_⟩:=id hrn
 obtain⟨Ar2,cr2,rfl,_⟩:=id hrd
 have hz:=HeldR.call (And.intro hz trivial) hb
 clear k0 k1 k2 k3 k4 k5
 obtain⟨_,k0,k1,k2,k3,k4,k5,k6,k7,k8,k9,k10,k11⟩:=hS _ hz
 go_wp2
 obtain⟨wf,HW,f0,f1,f2,hfin⟩:=hz.fin rfl hrn hrd
 (try rw[HW])
 (try simp only[Exit.inBlock,Exit.then])
 refine bodyPost_ret (by simp[results,Try.results10,go_sem,f0,f1,f2]; try rfl) rfl ?_
 exact hfin
end Wx
