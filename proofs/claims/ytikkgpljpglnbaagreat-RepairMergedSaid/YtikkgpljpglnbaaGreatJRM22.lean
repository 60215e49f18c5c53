import Derived.Test.YtikkgpljpglnbaaGreatCRMAddS
namespace Wx
set_option maxRecDepth 100000
open Go Go.RowKit Go.Proofs
theorem yJ {w:World} {v:Value} {p q:Rat} (h:bW w v p) (e:q=p):bW w v q:=e▸h
set_option maxHeartbeats 8000000 in
theorem Jr (w:World) (vx vy:Value) (x y:Rat) (hx:bW w vx x) (hy:bW w vy y) {j k:Nat} (hj:fB j x) (hk:fB k y) (FB:j+k<=100000000):Calls Tryz.prog 28 #[vx,vy] w (kK w (x*y)):=by
 obtain⟨Hh,Hi,rfl,nE,kF⟩:=id hx
 obtain⟨dF,dJ,rfl,_⟩:=id nE
 obtain⟨dG,dK,rfl,_⟩:=id kF
 obtain⟨NP,NQ,rfl,zX,tZ⟩:=id hy
 obtain⟨eT,eW,rfl,_⟩:=id zX
 obtain⟨eU,eX,rfl,_⟩:=id tZ
 have Kw:=x.den_pos
 have Me:=y.den_pos
 have HB:=bx (And.intro hj hk)
 have gg:j<=1000000000:=by omega
 have nD:k<=1000000000:=by omega
 clear hj hk
 go_enter Tryz.func28,Tryz.ntmps28
 go_wp2_with fail
 obtain⟨w1,e1,o1,b1,s1⟩:=gI w (.bool (decide (x.num<0))) (.slice dF (af b64 x.num.natAbs).length dJ) (.slice dG (af b64 (az x.den)).length dK) 47
 obtain⟨w2,e2,o2,b2,s2⟩:=gI w1 (.bool (decide (y.num<0))) (.slice eT (af b64 y.num.natAbs).length eW) (.slice eU (af b64 (az y.den)).length eX) 47
 obtain⟨w3,e3,o3,b3,s3⟩:=gI w2 (.bool false) (.slice none 0 0) (.slice none 0 0) 47
 rw[e1,e2,e3]
 rw[s1]at o2
 rw[s2,s1]at o3
 have p1:=((o1.gone b2).gone b3)
 have p2:=(o2.gone b3)
 have p3:=o3
 have B0:=((b1.trans (b2.mono b1.size)).trans (b3.mono (b1.trans (b2.mono b1.size)).size))
 have hS:∀w',bf w (w.heap.size+2) 47 [(w.heap.size,.bool (decide (x.num<0)),.slice dF (af b64 x.num.natAbs).length dJ,.slice dG (af b64 (az x.den)).length dK),(w.heap.size+1,.bool (decide (y.num<0)),.slice eT (af b64 y.num.natAbs).length eW,.slice eU (af b64 (az y.den)).length eX)] w'->bf w (w.heap.size+2) 47 [(w.heap.size,.bool (decide (x.num<0)),.slice dF (af b64 x.num.natAbs).length dJ,.slice dG (af b64 (az x.den)).length dK),(w.heap.size+1,.bool (decide (y.num<0)),.slice eT (af b64 y.num.natAbs).length eW,.slice eU (af b64 (az y.den)).length eX)] w'/\w'.cell? ⟨w.heap.size,0,none⟩=some (.bool (decide (x.num<0)))/\w'.cell? ⟨w.heap.size,1,none⟩=some (.slice dF (af b64 x.num.natAbs).length dJ)/\w'.cell? ⟨w.heap.size,2,none⟩=some (.slice dG (af b64 (az x.den)).length dK)/\w'.cell? ⟨w.heap.size+1,0,none⟩=some (.bool (decide (y.num<0)))/\w'.cell? ⟨w.heap.size+1,1,none⟩=some (.slice eT (af b64 y.num.natAbs).length eW)/\w'.cell? ⟨w.heap.size+1,2,none⟩=some (.slice eU (af b64 (az y.den)).length eX)/\w'.cell? ⟨w.heap.size+2,0,none⟩=some (cv w' ⟨w.heap.size+2,0,none⟩)/\w'.cell? ⟨w.heap.size+2,1,none⟩=some (cv w' ⟨w.heap.size+2,1,none⟩)/\w'.cell? ⟨w.heap.size+2,2,none⟩=some (cv w' ⟨w.heap.size+2,2,none⟩)/\w'.frozen? ⟨w.heap.size+2,0,none⟩=false/\w'.frozen? ⟨w.heap.size+2,1,none⟩=false/\w'.frozen? ⟨w.heap.size+2,2,none⟩=false:=λw' hh=>by
  obtain⟨f0,f1,f2,f3,f4,f5⟩:=hh.cells
  have q1:=(hh.2.2.1 (w.heap.size,.bool (decide (x.num<0)),.slice dF (af b64 x.num.natAbs).length dJ,.slice dG (af b64 (az x.den)).length dK) (by simp)).2
  have q2:=(hh.2.2.1 (w.heap.size+1,.bool (decide (y.num<0)),.slice eT (af b64 y.num.natAbs).length eW,.slice eU (af b64 (az y.den)).length eX) (by simp)).2
  exact⟨hh,q1.c0,q1.c1,q1.c2,q2.c0,q2.c1,q2.c2,f0,f1,f2,f3,f4,f5⟩
 have H0:bf w (w.heap.size+2) 47 [(w.heap.size,.bool (decide (x.num<0)),.slice dF (af b64 x.num.natAbs).length dJ,.slice dG (af b64 (az x.den)).length dK),(w.heap.size+1,.bool (decide (y.num<0)),.slice eT (af b64 y.num.natAbs).length eW,.slice eU (af b64 (az y.den)).length eX)] w3:=⟨B0,by omega,by intro p hp; simp at hp; rcases hp with rfl|rfl; exact⟨by simp,p1⟩; exact⟨by simp,p2⟩,_,_,_,p3,eK _,bC _ _ _,bC _ _ _⟩
 clear e1 e2 e3
 have hz:=H0.drew
 go_region_held3 (λw'=>bf w (w.heap.size+2) 47 [(w.heap.size,.bool (decide (x.num<0)),.slice dF (af b64 x.num.natAbs).length dJ,.slice dG (af b64 (az x.den)).length dK),(w.heap.size+1,.bool (decide (y.num<0)),.slice eT (af b64 y.num.natAbs).length eW,.slice eU (af b64 (az y.den)).length eX)] w'/\w'.cell? ⟨w.heap.size,0,none⟩=some (.bool (decide (x.num<0)))/\w'.cell? ⟨w.heap.size,1,none⟩=some (.slice dF (af b64 x.num.natAbs).length dJ)/\w'.cell? ⟨w.heap.size,2,none⟩=some (.slice dG (af b64 (az x.den)).length dK)/\w'.cell? ⟨w.heap.size+1,0,none⟩=some (.bool (decide (y.num<0)))/\w'.cell? ⟨w.heap.size+1,1,none⟩=some (.slice eT (af b64 y.num.natAbs).length eW)/\w'.cell? ⟨w.heap.size+1,2,none⟩=some (.slice eU (af b64 (az y.den)).length eX)/\w'.cell? ⟨w.heap.size+2,0,none⟩=some (cv w' ⟨w.heap.size+2,0,none⟩)/\w'.cell? ⟨w.heap.size+2,1,none⟩=some (cv w' ⟨w.heap.size+2,1,none⟩)/\w'.cell? ⟨w.heap.size+2,2,none⟩=some (cv w' ⟨w.heap.size+2,2,none⟩)/\w'.frozen? ⟨w.heap.size+2,0,none⟩=false/\w'.frozen? ⟨w.heap.size+2,1,none⟩=false/\w'.frozen? ⟨w.heap.size+2,2,none⟩=false)
  (first|exact hS _ hz|exact hS _ (bf.sets (by assumption) _ _ _ _ _ _ _))
  (first
   |(go_at_call 51; have hc:=fU _ _ x.den (kF.below hz.1) Kw; (with_reducible refine Calls.mono hc ?_); clear hc; rintro e wz ⟨U3,rfl,gT,hb⟩; (try have gT:=gT.below hb); (try have gU:=gU.below hb); (try have gQ:=gQ.below hb); (try have gR:=gR.below hb); (try have wG:=wG.below hb); (try have hs1:=hs1.below hb); have hz:=bf.call (by assumption) hb)
   |(go_at_call 51; have hc:=fU _ _ y.den (tZ.below hz.1) Me; (with_reducible refine Calls.mono hc ?_); clear hc; rintro e wz ⟨U5,rfl,gU,hb⟩; (try have gT:=gT.below hb); (try have gU:=gU.below hb); (try have gQ:=gQ.below hb); (try have gR:=gR.below hb); (try have wG:=wG.below hb); (try have hs1:=hs1.below hb); have hz:=bf.call (by assumption) hb)
   |(go_at_call 52; have hc:=fT _ _ _ _ _ (nE.below hz.1) (zX.below hz.1) HB.out.1.1 HB.out.2.1 gg nD; (with_reducible refine Calls.mono hc ?_); clear hc; rintro e wz ⟨U1,rfl,gQ,hb⟩; (try have gT:=gT.below hb); (try have gU:=gU.below hb); (try have gQ:=gQ.below hb); (try have gR:=gR.below hb); (try have wG:=wG.below hb); (try have hs1:=hs1.below hb); have hz:=bf.call (by assumption) hb)
   |(go_at_call 52; have hc:=fT _ _ _ _ _ gT gU HB.out.1.2 HB.out.2.2 gg nD; (with_reducible refine Calls.mono hc ?_); clear hc; rintro e wz ⟨U2,rfl,gR,hb⟩; (try have gT:=gT.below hb); (try have gU:=gU.below hb); (try have gQ:=gQ.below hb); (try have gR:=gR.below hb); (try have wG:=wG.below hb); (try have hs1:=hs1.below hb); have hz:=bf.call (by assumption) hb)
   |(go_at_call 53; have hc:=lF _ (!(decide (x.num<0)==decide (y.num<0))) _ _ (x.num.natAbs*y.num.natAbs) (x.den*y.den) gQ gR (Nat.mul_pos Kw Me) (HB.out.1.1.mul HB.out.2.1) (HB.out.1.2.mul HB.out.2.2) FB; (with_reducible refine Calls.mono hc ?_); clear hc; rintro e wz ⟨vr,rfl,I2,hb⟩; replace I2:=yJ I2 (CD x y); obtain⟨U0,UZ,rfl,EA,hrd⟩:=I2; obtain⟨TD,T5,rfl,_⟩:=id EA; obtain⟨TE,T6,rfl,_⟩:=id hrd; (try have gT:=gT.below hb); (try have gU:=gU.below hb); (try have gQ:=gQ.below hb); (try have gR:=gR.below hb); (try have wG:=wG.below hb); (try have hs1:=hs1.below hb); have hz:=bf.call (by assumption) hb))
 all_goals (
  go_wp2
  obtain⟨wf,HW,f0,f1,f2,ee⟩:=hz.fin rfl EA hrd
  (try rw[HW])
  (try simp only[Exit.inBlock,Exit.then])
  refine bodyPost_ret (by simp[results,Tryz.results28,go_sem,f0,f1,f2]; try rfl) rfl ?_
  first|exact ee|exact ee.drew)
set_option maxHeartbeats 8000000 in
theorem LA (w:World) (vx vy:Value) (x y:Rat) (hx:bW w vx x) (hy:bW w vy y) (hy0:y.num≠0) {j k:Nat} (hj:fB j x) (hk:fB k y) (FB:j+k<=100000000):Calls Tryz.prog 79 #[vx,vy] w (kK w (x/y)):=by
 have HY:=bx hy0
 clear hy0
 obtain⟨Hh,Hi,rfl,nE,kF⟩:=id hx
 obtain⟨dF,dJ,rfl,_⟩:=id nE
 obtain⟨dG,dK,rfl,_⟩:=id kF
 obtain⟨NP,NQ,rfl,zX,tZ⟩:=id hy
 obtain⟨eT,eW,rfl,_⟩:=id zX
 obtain⟨eU,eX,rfl,_⟩:=id tZ
 have Kw:=x.den_pos
 have Me:=y.den_pos
 have HB:=bx (And.intro hj hk)
 have gg:j<=1000000000:=by omega
 have nD:k<=1000000000:=by omega
 clear hj hk
 go_enter Tryz.func79,Tryz.ntmps79
 go_wp2_with fail
 obtain⟨w1,e1,o1,b1,s1⟩:=gI w (.bool (decide (x.num<0))) (.slice dF (af b64 x.num.natAbs).length dJ) (.slice dG (af b64 (az x.den)).length dK) 47
 obtain⟨w2,e2,o2,b2,s2⟩:=gI w1 (.bool (decide (y.num<0))) (.slice eT (af b64 y.num.natAbs).length eW) (.slice eU (af b64 (az y.den)).length eX) 47
 obtain⟨w3,e3,o3,b3,s3⟩:=gI w2 (.bool false) (.slice none 0 0) (.slice none 0 0) 47
 rw[e1,e2,e3]
 rw[s1]at o2
 rw[s2,s1]at o3
 have p1:=((o1.gone b2).gone b3)
 have p2:=(o2.gone b3)
 have p3:=o3
 have B0:=((b1.trans (b2.mono b1.size)).trans (b3.mono (b1.trans (b2.mono b1.size)).size))
 have hS:∀w',bf w (w.heap.size+2) 47 [(w.heap.size,.bool (decide (x.num<0)),.slice dF (af b64 x.num.natAbs).length dJ,.slice dG (af b64 (az x.den)).length dK),(w.heap.size+1,.bool (decide (y.num<0)),.slice eT (af b64 y.num.natAbs).length eW,.slice eU (af b64 (az y.den)).length eX)] w'->bf w (w.heap.size+2) 47 [(w.heap.size,.bool (decide (x.num<0)),.slice dF (af b64 x.num.natAbs).length dJ,.slice dG (af b64 (az x.den)).length dK),(w.heap.size+1,.bool (decide (y.num<0)),.slice eT (af b64 y.num.natAbs).length eW,.slice eU (af b64 (az y.den)).length eX)] w'/\w'.cell? ⟨w.heap.size,0,none⟩=some (.bool (decide (x.num<0)))/\w'.cell? ⟨w.heap.size,1,none⟩=some (.slice dF (af b64 x.num.natAbs).length dJ)/\w'.cell? ⟨w.heap.size,2,none⟩=some (.slice dG (af b64 (az x.den)).length dK)/\w'.cell? ⟨w.heap.size+1,0,none⟩=some (.bool (decide (y.num<0)))/\w'.cell? ⟨w.heap.size+1,1,none⟩=some (.slice eT (af b64 y.num.natAbs).length eW)/\w'.cell? ⟨w.heap.size+1,2,none⟩=some (.slice eU (af b64 (az y.den)).length eX)/\w'.cell? ⟨w.heap.size+2,0,none⟩=some (cv w' ⟨w.heap.size+2,0,none⟩)/\w'.cell? ⟨w.heap.size+2,1,none⟩=some (cv w' ⟨w.heap.size+2,1,none⟩)/\w'.cell? ⟨w.heap.size+2,2,none⟩=some (cv w' ⟨w.heap.size+2,2,none⟩)/\w'.frozen? ⟨w.heap.size+2,0,none⟩=false/\w'.frozen? ⟨w.heap.size+2,1,none⟩=false/\w'.frozen? ⟨w.heap.size+2,2,none⟩=false:=λw' hh=>by
  obtain⟨f0,f1,f2,f3,f4,f5⟩:=hh.cells
  have q1:=(hh.2.2.1 (w.heap.size,.bool (decide (x.num<0)),.slice dF (af b64 x.num.natAbs).length dJ,.slice dG (af b64 (az x.den)).length dK) (by simp)).2
  have q2:=(hh.2.2.1 (w.heap.size+1,.bool (decide (y.num<0)),.slice eT (af b64 y.num.natAbs).length eW,.slice eU (af b64 (az y.den)).length eX) (by simp)).2
  exact⟨hh,q1.c0,q1.c1,q1.c2,q2.c0,q2.c1,q2.c2,f0,f1,f2,f3,f4,f5⟩
 have H0:bf w (w.heap.size+2) 47 [(w.heap.size,.bool (decide (x.num<0)),.slice dF (af b64 x.num.natAbs).length dJ,.slice dG (af b64 (az x.den)).length dK),(w.heap.size+1,.bool (decide (y.num<0)),.slice eT (af b64 y.num.natAbs).length eW,.slice eU (af b64 (az y.den)).length eX)] w3:=⟨B0,by omega,by intro p hp; simp at hp; rcases hp with rfl|rfl; exact⟨by simp,p1⟩; exact⟨by simp,p2⟩,_,_,_,p3,eK _,bC _ _ _,bC _ _ _⟩
 clear e1 e2 e3
 have hz:=H0.drew
 go_region_held3 (λw'=>bf w (w.heap.size+2) 47 [(w.heap.size,.bool (decide (x.num<0)),.slice dF (af b64 x.num.natAbs).length dJ,.slice dG (af b64 (az x.den)).length dK),(w.heap.size+1,.bool (decide (y.num<0)),.slice eT (af b64 y.num.natAbs).length eW,.slice eU (af b64 (az y.den)).length eX)] w'/\w'.cell? ⟨w.heap.size,0,none⟩=some (.bool (decide (x.num<0)))/\w'.cell? ⟨w.heap.size,1,none⟩=some (.slice dF (af b64 x.num.natAbs).length dJ)/\w'.cell? ⟨w.heap.size,2,none⟩=some (.slice dG (af b64 (az x.den)).length dK)/\w'.cell? ⟨w.heap.size+1,0,none⟩=some (.bool (decide (y.num<0)))/\w'.cell? ⟨w.heap.size+1,1,none⟩=some (.slice eT (af b64 y.num.natAbs).length eW)/\w'.cell? ⟨w.heap.size+1,2,none⟩=some (.slice eU (af b64 (az y.den)).length eX)/\w'.cell? ⟨w.heap.size+2,0,none⟩=some (cv w' ⟨w.heap.size+2,0,none⟩)/\w'.cell? ⟨w.heap.size+2,1,none⟩=some (cv w' ⟨w.heap.size+2,1,none⟩)/\w'.cell? ⟨w.heap.size+2,2,none⟩=some (cv w' ⟨w.heap.size+2,2,none⟩)/\w'.frozen? ⟨w.heap.size+2,0,none⟩=false/\w'.frozen? ⟨w.heap.size+2,1,none⟩=false/\w'.frozen? ⟨w.heap.size+2,2,none⟩=false)
  (first|exact hS _ hz|exact hS _ (bf.sets (by assumption) _ _ _ _ _ _ _))
  (first
   |(go_at_call 51; have hc:=fU _ _ x.den (kF.below hz.1) Kw; (with_reducible refine Calls.mono hc ?_); clear hc; rintro e wz ⟨U3,rfl,gT,hb⟩; (try have gT:=gT.below hb); (try have gU:=gU.below hb); (try have gQ:=gQ.below hb); (try have gR:=gR.below hb); (try have wG:=wG.below hb); (try have hs1:=hs1.below hb); have hz:=bf.call (by assumption) hb)
   |(go_at_call 51; have hc:=fU _ _ y.den (tZ.below hz.1) Me; (with_reducible refine Calls.mono hc ?_); clear hc; rintro e wz ⟨U5,rfl,gU,hb⟩; (try have gT:=gT.below hb); (try have gU:=gU.below hb); (try have gQ:=gQ.below hb); (try have gR:=gR.below hb); (try have wG:=wG.below hb); (try have hs1:=hs1.below hb); have hz:=bf.call (by assumption) hb)
   |(go_at_call 52; have hc:=fT _ _ _ _ _ (nE.below hz.1) gU HB.out.1.1 HB.out.2.2 gg nD; (with_reducible refine Calls.mono hc ?_); clear hc; rintro e wz ⟨U1,rfl,gQ,hb⟩; (try have gT:=gT.below hb); (try have gU:=gU.below hb); (try have gQ:=gQ.below hb); (try have gR:=gR.below hb); (try have wG:=wG.below hb); (try have hs1:=hs1.below hb); have hz:=bf.call (by assumption) hb)
   |(go_at_call 52; have hc:=fT _ _ _ _ _ gT (zX.below hz.1) HB.out.1.2 HB.out.2.1 gg nD; (with_reducible refine Calls.mono hc ?_); clear hc; rintro e wz ⟨U2,rfl,gR,hb⟩; (try have gT:=gT.below hb); (try have gU:=gU.below hb); (try have gQ:=gQ.below hb); (try have gR:=gR.below hb); (try have wG:=wG.below hb); (try have hs1:=hs1.below hb); have hz:=bf.call (by assumption) hb)
   |(go_at_call 53; have hc:=lF _ (!(decide (x.num<0)==decide (y.num<0))) _ _ (x.num.natAbs*y.den) (x.den*y.num.natAbs) gQ gR (Nat.mul_pos Kw (by have:=HY.out; omega)) (HB.out.1.1.mul HB.out.2.2) (HB.out.1.2.mul HB.out.2.1) FB; (with_reducible refine Calls.mono hc ?_); clear hc; rintro e wz ⟨vr,rfl,I2,hb⟩; replace I2:=yJ I2 (Cf x y HY.out); obtain⟨U0,UZ,rfl,EA,hrd⟩:=I2; obtain⟨TD,T5,rfl,_⟩:=id EA; obtain⟨TE,T6,rfl,_⟩:=id hrd; (try have gT:=gT.below hb); (try have gU:=gU.below hb); (try have gQ:=gQ.below hb); (try have gR:=gR.below hb); (try have wG:=wG.below hb); (try have hs1:=hs1.below hb); have hz:=bf.call (by assumption) hb))
 all_goals (
  go_wp2
  obtain⟨wf,HW,f0,f1,f2,ee⟩:=hz.fin rfl EA hrd
  (try rw[HW])
  (try simp only[Exit.inBlock,Exit.then])
  refine bodyPost_ret (by simp[results,Tryz.results79,go_sem,f0,f1,f2]; try rfl) rfl ?_
  first|exact ee|exact ee.drew)
end Wx

namespace Wx
open Go Go.RowKit Go.Proofs
def dr (x:Rat):Int:=if x.num<0 then -1 else if x=0 then 0 else 1
theorem gE (w:World) (vx:Value) (x:Rat) (hx:bW w vx x):Calls Tryz.prog 26 #[vx] w (eZ w (.int .i64 (dr x))):=by
 obtain⟨Hh,Hi,rfl,nE,kF⟩:=id hx
 obtain⟨dF,dJ,rfl,_⟩:=id nE
 obtain⟨dG,dK,rfl,_⟩:=id kF
 have hS:dr x=if x.num<0 then -1 else if x=0 then 0 else 1:=rfl
 generalize dr x=z at *
 by_cases h1:x.num<0
 ·rw[if_pos h1]at hS
  subst hS
  rw[decide_eq_true h1]at *
  go_enter Tryz.func26,Tryz.ntmps26
  go_wp2
  go_ret
  exact⟨rfl,Below.alloc (Below.refl _ _) (Nat.le_refl _) _⟩
 ·rw[if_neg h1]at hS
  rw[decide_eq_false h1]at *
  by_cases h2:x=0
  ·rw[if_pos h2]at hS
   subst hS
   have HD:=bx (decide_eq_true h2)
   clear h2
   go_enter Tryz.func26,Tryz.ntmps26
   go_wp2_with fail
   obtain⟨w1,e1,o1,b1,s1⟩:=gI w (.bool false) (.slice dF (af b64 x.num.natAbs).length dJ) (.slice dG (af b64 (az x.den)).length dK) 47
   rw[e1]
   have hc:=zero_num w1 _ x (hx.below b1)
   rw[HD.out]at hc
   refine hc.mono ?_
   rintro e w2 ⟨rfl,hb⟩
   go_wp2
   go_ret
   exact⟨rfl,b1.trans (hb.mono b1.size)⟩
  ·rw[if_neg h2]at hS
   subst hS
   have HD:=bx (decide_eq_false h2)
   clear h2
   go_enter Tryz.func26,Tryz.ntmps26
   go_wp2_with fail
   obtain⟨w1,e1,o1,b1,s1⟩:=gI w (.bool false) (.slice dF (af b64 x.num.natAbs).length dJ) (.slice dG (af b64 (az x.den)).length dK) 47
   rw[e1]
   have hc:=zero_num w1 _ x (hx.below b1)
   rw[HD.out]at hc
   refine hc.mono ?_
   rintro e w2 ⟨rfl,hb⟩
   go_wp2
   go_ret
   exact⟨rfl,b1.trans (hb.mono b1.size)⟩
end Wx

namespace Wx
open Go Go.RowKit Go.Proofs
end Wx

namespace Wx
open Go Go.RowKit Go.Proofs
theorem GY (w:World) (z:Int) (h1:-9223372036854775808<=z) (h2:z<=9223372036854775807):Calls Tryz.prog 31 #[.int .i64 z] w (jc .u64 b64 w z.natAbs):=by
 have Nq:Bx (z.natAbs<b64):=bx (by unfold b64; omega)
 by_cases hz:z<0
 ·have e1:IntKind.u64.wrap (-IntKind.u64.wrap z)=((z.natAbs:Nat):Int):=by
   simp[IntKind.wrap,IntKind.bits,IntKind.signed]; omega
  have E1:=bx e1
  clear e1
  go_enter Tryz.func31,Tryz.ntmps31
  go_wp2_with fail
  rw[E1.out]
  refine(lQ w _ Nq.out).mono ?_
  rintro e w3 ⟨vr,rfl,hr3,hb3⟩
  go_wp2
  go_ret
  exact⟨_,rfl,hr3,hb3⟩
 ·have e1:z=((z.natAbs:Nat):Int):=by omega
  have E1:=bx e1
  clear e1
  go_enter Tryz.func31,Tryz.ntmps31
  go_wp2_with fail
  have hc:=lQ w _ Nq.out
  rw[<-E1.out]at hc
  refine hc.mono ?_
  rintro e w3 ⟨vr,rfl,hr3,hb3⟩
  go_wp2
  go_ret
  exact⟨_,rfl,hr3,hb3⟩
theorem I9 (w:World) (z:Int) (h1:-9223372036854775808<=z) (h2:z<=9223372036854775807):Calls Tryz.prog 16 #[.int .i64 z] w (kK w (z:Rat)):=by
 have H:=bx (And.intro h1 h2)
 clear h1 h2
 go_enter Tryz.func16,Tryz.ntmps16
 go_wp2_with fail
 obtain⟨w1,e1,o1,b1,s1⟩:=gI w (.bool false) (.slice none 0 0) (.slice none 0 0) 47
 rw[e1]
 refine(GY w1 z H.out.1 H.out.2).mono ?_
 rintro e w2 ⟨v,rfl,hv,hb⟩
 obtain⟨A1,c1,rfl,_⟩:=id hv
 have hz:bf w w.heap.size 47 [] w2:=⟨b1.trans (hb.mono b1.size),Nat.le_refl _,by simp,_,_,_,o1.gone hb,eK _,bC _ _ _,bC _ _ _⟩
 obtain⟨k0,k1,k2,k3,k4,k5⟩:=hz.cells
 clear e1
 go_wp2
 obtain⟨wf,HW,f0,f1,f2,ee⟩:=hz.fin (q:=(z:Rat)) (A2:=none) (l2:=0) (c2:=0) rfl (by rw[Rat.num_intCast]; exact hv) (by rw[Rat.den_intCast]; exact cI.zero _ _ _)
 rw[Rat.num_intCast]at HW f0 ee
 rw[HW]
 (try simp only[Exit.inBlock,Exit.then])
 refine bodyPost_ret (by simp[results,Tryz.results16,go_sem,f0,f1,f2]; try rfl) rfl ?_
 exact ee
def rN (w:World) (q:Rat) (err:Int) (e:Ending) (w':World):Prop:=∃v,e=.returned (.tuple #[v,.int .i64 err])/\bW w' v q/\Below w.heap.size w w'
theorem rN.of {w:World} {q:Rat} {v:Value} {w':World} (h:kK w q (.returned v) w') (err:Int):rN w q err (.returned (.tuple #[v,.int .i64 err])) w':=by
 obtain⟨v',e,h1,h2⟩:=h
 injection e with e
 subst e
 exact⟨_,rfl,h1,h2⟩
end Wx

namespace Wx
open Go Go.RowKit Go.Proofs
set_option maxHeartbeats 2000000 in
theorem div_zero (w:World) (vx vy:Value) (x y:Rat) (hx:bW w vx x) (hy:bW w vy y) (hy0:y=0):Calls Tryz.prog 57 #[vx,vy] w (rN w (0) 3):=by
 obtain⟨Hh,Hi,rfl,nE,kF⟩:=id hx
 obtain⟨dF,dJ,rfl,_⟩:=id nE
 obtain⟨dG,dK,rfl,_⟩:=id kF
 obtain⟨NP,NQ,rfl,zX,tZ⟩:=id hy
 obtain⟨eT,eW,rfl,_⟩:=id zX
 obtain⟨eU,eX,rfl,_⟩:=id tZ
 have HY:=bx hy0
 clear hy0
 go_enter Tryz.func57,Tryz.ntmps57
 go_wp2_with fail
 obtain⟨w1,e1,o1,b1,s1⟩:=gI w (.bool (decide (x.num<0))) (.slice dF (af b64 x.num.natAbs).length dJ) (.slice dG (af b64 (az x.den)).length dK) 47
 obtain⟨w2,e2,o2,b2,s2⟩:=gI w1 (.bool (decide (y.num<0))) (.slice eT (af b64 y.num.natAbs).length eW) (.slice eU (af b64 (az y.den)).length eX) 47
 obtain⟨w3,e3,o3,b3,s3⟩:=gI w2 (.bool false) (.slice none 0 0) (.slice none 0 0) 47
 rw[e1,e2,e3]
 rw[s1]at o2
 rw[s2,s1]at o3
 have p1:=((o1.gone b2).gone b3)
 have p2:=(o2.gone b3)
 have p3:=o3
 have B0:=((b1.trans (b2.mono b1.size)).trans (b3.mono (b1.trans (b2.mono b1.size)).size))
 have hS:∀w',bf w (w.heap.size+2) 47 [(w.heap.size,.bool (decide (x.num<0)),.slice dF (af b64 x.num.natAbs).length dJ,.slice dG (af b64 (az x.den)).length dK),(w.heap.size+1,.bool (decide (y.num<0)),.slice eT (af b64 y.num.natAbs).length eW,.slice eU (af b64 (az y.den)).length eX)] w'->bf w (w.heap.size+2) 47 [(w.heap.size,.bool (decide (x.num<0)),.slice dF (af b64 x.num.natAbs).length dJ,.slice dG (af b64 (az x.den)).length dK),(w.heap.size+1,.bool (decide (y.num<0)),.slice eT (af b64 y.num.natAbs).length eW,.slice eU (af b64 (az y.den)).length eX)] w'/\w'.cell? ⟨w.heap.size,0,none⟩=some (.bool (decide (x.num<0)))/\w'.cell? ⟨w.heap.size,1,none⟩=some (.slice dF (af b64 x.num.natAbs).length dJ)/\w'.cell? ⟨w.heap.size,2,none⟩=some (.slice dG (af b64 (az x.den)).length dK)/\w'.cell? ⟨w.heap.size+1,0,none⟩=some (.bool (decide (y.num<0)))/\w'.cell? ⟨w.heap.size+1,1,none⟩=some (.slice eT (af b64 y.num.natAbs).length eW)/\w'.cell? ⟨w.heap.size+1,2,none⟩=some (.slice eU (af b64 (az y.den)).length eX)/\w'.cell? ⟨w.heap.size+2,0,none⟩=some (cv w' ⟨w.heap.size+2,0,none⟩)/\w'.cell? ⟨w.heap.size+2,1,none⟩=some (cv w' ⟨w.heap.size+2,1,none⟩)/\w'.cell? ⟨w.heap.size+2,2,none⟩=some (cv w' ⟨w.heap.size+2,2,none⟩)/\w'.frozen? ⟨w.heap.size+2,0,none⟩=false/\w'.frozen? ⟨w.heap.size+2,1,none⟩=false/\w'.frozen? ⟨w.heap.size+2,2,none⟩=false:=λw' hh=>by
  obtain⟨f0,f1,f2,f3,f4,f5⟩:=hh.cells
  have q1:=(hh.2.2.1 (w.heap.size,.bool (decide (x.num<0)),.slice dF (af b64 x.num.natAbs).length dJ,.slice dG (af b64 (az x.den)).length dK) (by simp)).2
  have q2:=(hh.2.2.1 (w.heap.size+1,.bool (decide (y.num<0)),.slice eT (af b64 y.num.natAbs).length eW,.slice eU (af b64 (az y.den)).length eX) (by simp)).2
  exact⟨hh,q1.c0,q1.c1,q1.c2,q2.c0,q2.c1,q2.c2,f0,f1,f2,f3,f4,f5⟩
 have H0:bf w (w.heap.size+2) 47 [(w.heap.size,.bool (decide (x.num<0)),.slice dF (af b64 x.num.natAbs).length dJ,.slice dG (af b64 (az x.den)).length dK),(w.heap.size+1,.bool (decide (y.num<0)),.slice eT (af b64 y.num.natAbs).length eW,.slice eU (af b64 (az y.den)).length eX)] w3:=⟨B0,by omega,by intro p hp; simp at hp; rcases hp with rfl|rfl; exact⟨by simp,p1⟩; exact⟨by simp,p2⟩,_,_,_,p3,eK _,bC _ _ _,bC _ _ _⟩
 clear e1 e2 e3
 have hz:=H0
 obtain⟨_,k0,k1,k2,k3,k4,k5,_⟩:=hS _ hz
 have hc:=zero_num _ _ y (hy.below hz.1)
 rw[decide_eq_true HY.out]at hc
 refine hc.mono ?_
 clear hc
 rintro e wz ⟨rfl,hb⟩
 have hz:=bf.call (And.intro hz trivial) hb
 clear k0 k1 k2 k3 k4 k5
 obtain⟨_,k0,k1,k2,k3,k4,k5,k6,k7,k8,k9,WZ,W4⟩:=hS _ hz
 go_wp2
 obtain⟨wf,HW,f0,f1,f2,ee⟩:=hz.fin (q:=0) (A1:=none) (l1:=0) (c1:=0) (A2:=none) (l2:=0) (c2:=0) (show _=false from rfl) (cI.zero _ _ _) (cI.zero _ _ _)
 rw[HW]
 (try simp only[Exit.inBlock,Exit.then])
 refine bodyPost_ret (by simp[results,Tryz.results57,go_sem,f0,f1,f2]; try rfl) rfl ?_
 exact rN.of ee 3
set_option maxHeartbeats 2000000 in
theorem LM (w:World) (vx vy:Value) (x y:Rat) (hx:bW w vx x) (hy:bW w vy y) {j k:Nat} (hj:fB j x) (hk:fB k y) (FB:j+k<=100000000) (hy0:y≠0):Calls Tryz.prog 57 #[vx,vy] w (rN w (x/y) 0):=by
 obtain⟨Hh,Hi,rfl,nE,kF⟩:=id hx
 obtain⟨dF,dJ,rfl,_⟩:=id nE
 obtain⟨dG,dK,rfl,_⟩:=id kF
 obtain⟨NP,NQ,rfl,zX,tZ⟩:=id hy
 obtain⟨eT,eW,rfl,_⟩:=id zX
 obtain⟨eU,eX,rfl,_⟩:=id tZ
 have HY:=bx hy0
 clear hy0
 go_enter Tryz.func57,Tryz.ntmps57
 go_wp2_with fail
 obtain⟨w1,e1,o1,b1,s1⟩:=gI w (.bool (decide (x.num<0))) (.slice dF (af b64 x.num.natAbs).length dJ) (.slice dG (af b64 (az x.den)).length dK) 47
 obtain⟨w2,e2,o2,b2,s2⟩:=gI w1 (.bool (decide (y.num<0))) (.slice eT (af b64 y.num.natAbs).length eW) (.slice eU (af b64 (az y.den)).length eX) 47
 obtain⟨w3,e3,o3,b3,s3⟩:=gI w2 (.bool false) (.slice none 0 0) (.slice none 0 0) 47
 rw[e1,e2,e3]
 rw[s1]at o2
 rw[s2,s1]at o3
 have p1:=((o1.gone b2).gone b3)
 have p2:=(o2.gone b3)
 have p3:=o3
 have B0:=((b1.trans (b2.mono b1.size)).trans (b3.mono (b1.trans (b2.mono b1.size)).size))
 have hS:∀w',bf w (w.heap.size+2) 47 [(w.heap.size,.bool (decide (x.num<0)),.slice dF (af b64 x.num.natAbs).length dJ,.slice dG (af b64 (az x.den)).length dK),(w.heap.size+1,.bool (decide (y.num<0)),.slice eT (af b64 y.num.natAbs).length eW,.slice eU (af b64 (az y.den)).length eX)] w'->bf w (w.heap.size+2) 47 [(w.heap.size,.bool (decide (x.num<0)),.slice dF (af b64 x.num.natAbs).length dJ,.slice dG (af b64 (az x.den)).length dK),(w.heap.size+1,.bool (decide (y.num<0)),.slice eT (af b64 y.num.natAbs).length eW,.slice eU (af b64 (az y.den)).length eX)] w'/\w'.cell? ⟨w.heap.size,0,none⟩=some (.bool (decide (x.num<0)))/\w'.cell? ⟨w.heap.size,1,none⟩=some (.slice dF (af b64 x.num.natAbs).length dJ)/\w'.cell? ⟨w.heap.size,2,none⟩=some (.slice dG (af b64 (az x.den)).length dK)/\w'.cell? ⟨w.heap.size+1,0,none⟩=some (.bool (decide (y.num<0)))/\w'.cell? ⟨w.heap.size+1,1,none⟩=some (.slice eT (af b64 y.num.natAbs).length eW)/\w'.cell? ⟨w.heap.size+1,2,none⟩=some (.slice eU (af b64 (az y.den)).length eX)/\w'.cell? ⟨w.heap.size+2,0,none⟩=some (cv w' ⟨w.heap.size+2,0,none⟩)/\w'.cell? ⟨w.heap.size+2,1,none⟩=some (cv w' ⟨w.heap.size+2,1,none⟩)/\w'.cell? ⟨w.heap.size+2,2,none⟩=some (cv w' ⟨w.heap.size+2,2,none⟩)/\w'.frozen? ⟨w.heap.size+2,0,none⟩=false/\w'.frozen? ⟨w.heap.size+2,1,none⟩=false/\w'.frozen? ⟨w.heap.size+2,2,none⟩=false:=λw' hh=>by
  obtain⟨f0,f1,f2,f3,f4,f5⟩:=hh.cells
  have q1:=(hh.2.2.1 (w.heap.size,.bool (decide (x.num<0)),.slice dF (af b64 x.num.natAbs).length dJ,.slice dG (af b64 (az x.den)).length dK) (by simp)).2
  have q2:=(hh.2.2.1 (w.heap.size+1,.bool (decide (y.num<0)),.slice eT (af b64 y.num.natAbs).length eW,.slice eU (af b64 (az y.den)).length eX) (by simp)).2
  exact⟨hh,q1.c0,q1.c1,q1.c2,q2.c0,q2.c1,q2.c2,f0,f1,f2,f3,f4,f5⟩
 have H0:bf w (w.heap.size+2) 47 [(w.heap.size,.bool (decide (x.num<0)),.slice dF (af b64 x.num.natAbs).length dJ,.slice dG (af b64 (az x.den)).length dK),(w.heap.size+1,.bool (decide (y.num<0)),.slice eT (af b64 y.num.natAbs).length eW,.slice eU (af b64 (az y.den)).length eX)] w3:=⟨B0,by omega,by intro p hp; simp at hp; rcases hp with rfl|rfl; exact⟨by simp,p1⟩; exact⟨by simp,p2⟩,_,_,_,p3,eK _,bC _ _ _,bC _ _ _⟩
 clear e1 e2 e3
 have hz:=H0
 obtain⟨_,k0,k1,k2,k3,k4,k5,_⟩:=hS _ hz
 have hc:=zero_num _ _ y (hy.below hz.1)
 rw[decide_eq_false HY.out]at hc
 refine hc.mono ?_
 clear hc
 rintro e wz ⟨rfl,hb⟩
 have hz:=bf.call (And.intro hz trivial) hb
 clear k0 k1 k2 k3 k4 k5
 obtain⟨_,k0,k1,k2,k3,k4,k5,_⟩:=hS _ hz
 go_wp2_with fail
 refine(LA _ _ _ x y (hx.below hz.1) (hy.below hz.1) (mt Rat.num_eq_zero.1 HY.out) hj hk FB).mono ?_
 rintro e wy ⟨vr,rfl,I2,hb⟩
 obtain⟨U0,UZ,rfl,EA,hrd⟩:=I2
 obtain⟨TD,T5,rfl,_⟩:=id EA
 obtain⟨TE,T6,rfl,_⟩:=id hrd
 have hz:=bf.call (And.intro hz trivial) hb
 clear k0 k1 k2 k3 k4 k5
 obtain⟨_,k0,k1,k2,k3,k4,k5,k6,k7,k8,k9,WZ,W4⟩:=hS _ hz
 go_wp2
 obtain⟨wf,HW,f0,f1,f2,ee⟩:=hz.fin rfl EA hrd
 rw[HW]
 (try simp only[Exit.inBlock,Exit.then])
 refine bodyPost_ret (by simp[results,Tryz.results57,go_sem,f0,f1,f2]; try rfl) rfl ?_
 exact rN.of ee 0
end Wx

namespace Wx
open Go Go.RowKit Go.Proofs
end Wx

namespace Wx
open Go Go.RowKit Go.Proofs
variable {j k:Nat} {x y:Rat}
theorem fB.quo (h:fB j x) (g:fB k y):fB (j+k) (x/y):=by
 by_cases hy:y=0
 ·rw[hy,Rat.div_def,Rat.inv_zero,Rat.mul_zero]
  have h2:x.den<2^j:=h.2
  have h3:=x.den_pos
  have hj:j≠0:=by rintro rfl; simp at h2; omega
  refine⟨?_,?_⟩
  ·show(0:Rat).num.natAbs<2^(j+k)
   exact Nat.two_pow_pos _
  ·show(0:Rat).den<2^(j+k)
   show 1<2^(j+k)
   exact Nat.one_lt_two_pow (by omega)
 ·exact h.div g (λh=>hy ((oA y).1 (by omega)))
variable {w:World} {e:Ending} {w':World}
theorem wY {v:Value} (h:eZ w v e w'):jb (bp v) w e w':=⟨v,h.1,rfl,h.2⟩
theorem GN {q:Rat} {n:Int} (h:rN w q n e w'):jb (fJ (bu q) (pI n)) w e w':=by
 obtain⟨v,rfl,h1,h2⟩:=h
 exact⟨_,rfl,⟨v,_,rfl,h1,rfl⟩,h2⟩
theorem Oc (hx:fB j x) (hy:fB k y) (h:j+k+j+k+1<=100000000):∀w v1 v2,bu x w v1->bu y w v2->Calls Tryz.prog 27 #[v1,v2] w (jb (bu (x+y)) w):=
 λw v1 v2 h1 h2=>Ik w v1 v2 x y h1 h2 hx hy h
theorem Og (hx:fB j x) (hy:fB k y) (h:j+k<=100000000):∀w v1 v2,bu x w v1->bu y w v2->Calls Tryz.prog 28 #[v1,v2] w (jb (bu (x*y)) w):=
 λw v1 v2 h1 h2=>Jr w v1 v2 x y h1 h2 hx hy h
theorem LG (x:Rat):∀w v1,bu x w v1->Calls Tryz.prog 29 #[v1] w (jb (pB (decide (x=0))) w):=λw v1 h1=>(zero_num w v1 x h1).mono λ_ _=>wY
theorem LF (x:Rat):∀w v1,bu x w v1->Calls Tryz.prog 26 #[v1] w (jb (pI (dr x)) w):=λw v1 h1=>(gE w v1 x h1).mono λ_ _=>wY
theorem Of (n:Int) (h1:-9223372036854775808<=n) (h2:n<=9223372036854775807):∀w v1,pI n w v1->Calls Tryz.prog 16 #[v1] w (jb (bu (n:Rat)) w):=λw v1 h=>by
 have h:v1=.int .i64 n:=h
 rw[h]
 exact I9 w n h1 h2
theorem EV (hx:fB j x) (hy:fB k y) (h:j+k<=100000000) (h0:y≠0):∀w v1 v2,bu x w v1->bu y w v2->Calls Tryz.prog 57 #[v1,v2] w (jb (fJ (bu (x/y)) (pI 0)) w):=
 λw v1 v2 h1 h2=>(LM w v1 v2 x y h1 h2 hx hy h h0).mono λ_ _=>GN
theorem Aj (x:Rat) {y:Rat} (h0:y=0):∀w v1 v2,bu x w v1->bu y w v2->Calls Tryz.prog 57 #[v1,v2] w (jb (fJ (bu 0) (pI 3)) w):=
 λw v1 v2 h1 h2=>(div_zero w v1 v2 x y h1 h2 h0).mono λ_ _=>GN
theorem Oe (hx:fB j x) (hy:fB k y) (h:j+k<=100000000):∀w v1 v2,bu x w v1->bu y w v2->Calls Tryz.prog 57 #[v1,v2] w (jb (fJ (bu (x/y)) (pI (if y=0 then 3 else 0))) w):=by
 by_cases h0:y=0
 ·rw[if_pos h0,show x/y=0 by rw[h0,Rat.div_def,Rat.inv_zero,Rat.mul_zero]]; exact Aj x h0
 ·rw[if_neg h0]; exact EV hx hy h h0
end Wx
