import Derived.Test.YtadigiledciihaaGreatCRRAddS
namespace Wx
set_option maxRecDepth 100000
open Go Go.RowKit Go.Proofs
theorem w8 {w:World} {v:Value} {p q:Rat} (h:cg w v p) (e:q=p):cg w v q:=e▸h
set_option maxHeartbeats 8000000 in
theorem Gt (w:World) (vx vy:Value) (x y:Rat) (hx:cg w vx x) (hy:cg w vy y) {j k:Nat} (hj:dL j x) (hk:dL k y) (tC:j+k<=100000000):Calls Tryz.prog 47 #[vx,vy] w (kr w (x*y)):=by
 obtain⟨xY,xZ,rfl,gO,fO⟩:=id hx
 obtain⟨bO,bQ,rfl,_⟩:=id gO
 obtain⟨bP,bR,rfl,_⟩:=id fO
 obtain⟨G8,G9,rfl,pF,mP⟩:=id hy
 obtain⟨dc,di,rfl,_⟩:=id pF
 obtain⟨de,dm,rfl,_⟩:=id mP
 have Fm:=x.den_pos
 have F0:=y.den_pos
 have HB:=bx (And.intro hj hk)
 have cQ:j<=1000000000:=by omega
 have kT:k<=1000000000:=by omega
 clear hj hk
 go_enter Tryz.func47,Tryz.ntmps47
 go_wp2_with fail
 obtain⟨w1,e1,o1,b1,s1⟩:=gj w (.bool (decide (x.num<0))) (.slice bO (ae b64 x.num.natAbs).length bQ) (.slice bP (ae b64 (aq x.den)).length bR) 54
 obtain⟨w2,e2,o2,b2,s2⟩:=gj w1 (.bool (decide (y.num<0))) (.slice dc (ae b64 y.num.natAbs).length di) (.slice de (ae b64 (aq y.den)).length dm) 54
 obtain⟨w3,e3,o3,b3,s3⟩:=gj w2 (.bool false) (.slice none 0 0) (.slice none 0 0) 54
 rw[e1,e2,e3]
 rw[s1]at o2
 rw[s2,s1]at o3
 have p1:=((o1.gone b2).gone b3)
 have p2:=(o2.gone b3)
 have p3:=o3
 have B0:=((b1.trans (b2.mono b1.size)).trans (b3.mono (b1.trans (b2.mono b1.size)).size))
 have hS:∀w',bj w (w.heap.size+2) 54 [(w.heap.size,.bool (decide (x.num<0)),.slice bO (ae b64 x.num.natAbs).length bQ,.slice bP (ae b64 (aq x.den)).length bR),(w.heap.size+1,.bool (decide (y.num<0)),.slice dc (ae b64 y.num.natAbs).length di,.slice de (ae b64 (aq y.den)).length dm)] w'->bj w (w.heap.size+2) 54 [(w.heap.size,.bool (decide (x.num<0)),.slice bO (ae b64 x.num.natAbs).length bQ,.slice bP (ae b64 (aq x.den)).length bR),(w.heap.size+1,.bool (decide (y.num<0)),.slice dc (ae b64 y.num.natAbs).length di,.slice de (ae b64 (aq y.den)).length dm)] w'/\w'.cell? ⟨w.heap.size,0,none⟩=some (.bool (decide (x.num<0)))/\w'.cell? ⟨w.heap.size,1,none⟩=some (.slice bO (ae b64 x.num.natAbs).length bQ)/\w'.cell? ⟨w.heap.size,2,none⟩=some (.slice bP (ae b64 (aq x.den)).length bR)/\w'.cell? ⟨w.heap.size+1,0,none⟩=some (.bool (decide (y.num<0)))/\w'.cell? ⟨w.heap.size+1,1,none⟩=some (.slice dc (ae b64 y.num.natAbs).length di)/\w'.cell? ⟨w.heap.size+1,2,none⟩=some (.slice de (ae b64 (aq y.den)).length dm)/\w'.cell? ⟨w.heap.size+2,0,none⟩=some (cv w' ⟨w.heap.size+2,0,none⟩)/\w'.cell? ⟨w.heap.size+2,1,none⟩=some (cv w' ⟨w.heap.size+2,1,none⟩)/\w'.cell? ⟨w.heap.size+2,2,none⟩=some (cv w' ⟨w.heap.size+2,2,none⟩)/\w'.frozen? ⟨w.heap.size+2,0,none⟩=false/\w'.frozen? ⟨w.heap.size+2,1,none⟩=false/\w'.frozen? ⟨w.heap.size+2,2,none⟩=false:=λw' hh=>by
  obtain⟨f0,f1,f2,f3,f4,f5⟩:=hh.cells
  have q1:=(hh.2.2.1 (w.heap.size,.bool (decide (x.num<0)),.slice bO (ae b64 x.num.natAbs).length bQ,.slice bP (ae b64 (aq x.den)).length bR) (by simp)).2
  have q2:=(hh.2.2.1 (w.heap.size+1,.bool (decide (y.num<0)),.slice dc (ae b64 y.num.natAbs).length di,.slice de (ae b64 (aq y.den)).length dm) (by simp)).2
  exact⟨hh,q1.c0,q1.c1,q1.c2,q2.c0,q2.c1,q2.c2,f0,f1,f2,f3,f4,f5⟩
 have H0:bj w (w.heap.size+2) 54 [(w.heap.size,.bool (decide (x.num<0)),.slice bO (ae b64 x.num.natAbs).length bQ,.slice bP (ae b64 (aq x.den)).length bR),(w.heap.size+1,.bool (decide (y.num<0)),.slice dc (ae b64 y.num.natAbs).length di,.slice de (ae b64 (aq y.den)).length dm)] w3:=⟨B0,by omega,by intro p hp; simp at hp; rcases hp with rfl|rfl; exact⟨by simp,p1⟩; exact⟨by simp,p2⟩,_,_,_,p3,dw _,aX _ _ _,aX _ _ _⟩
 clear e1 e2 e3
 have hz:=H0.drew
 go_region_held3 (λw'=>bj w (w.heap.size+2) 54 [(w.heap.size,.bool (decide (x.num<0)),.slice bO (ae b64 x.num.natAbs).length bQ,.slice bP (ae b64 (aq x.den)).length bR),(w.heap.size+1,.bool (decide (y.num<0)),.slice dc (ae b64 y.num.natAbs).length di,.slice de (ae b64 (aq y.den)).length dm)] w'/\w'.cell? ⟨w.heap.size,0,none⟩=some (.bool (decide (x.num<0)))/\w'.cell? ⟨w.heap.size,1,none⟩=some (.slice bO (ae b64 x.num.natAbs).length bQ)/\w'.cell? ⟨w.heap.size,2,none⟩=some (.slice bP (ae b64 (aq x.den)).length bR)/\w'.cell? ⟨w.heap.size+1,0,none⟩=some (.bool (decide (y.num<0)))/\w'.cell? ⟨w.heap.size+1,1,none⟩=some (.slice dc (ae b64 y.num.natAbs).length di)/\w'.cell? ⟨w.heap.size+1,2,none⟩=some (.slice de (ae b64 (aq y.den)).length dm)/\w'.cell? ⟨w.heap.size+2,0,none⟩=some (cv w' ⟨w.heap.size+2,0,none⟩)/\w'.cell? ⟨w.heap.size+2,1,none⟩=some (cv w' ⟨w.heap.size+2,1,none⟩)/\w'.cell? ⟨w.heap.size+2,2,none⟩=some (cv w' ⟨w.heap.size+2,2,none⟩)/\w'.frozen? ⟨w.heap.size+2,0,none⟩=false/\w'.frozen? ⟨w.heap.size+2,1,none⟩=false/\w'.frozen? ⟨w.heap.size+2,2,none⟩=false)
  (first|exact hS _ hz|exact hS _ (bj.sets (by assumption) _ _ _ _ _ _ _))
  (first
   |(go_at_call 83; have hc:=fD _ _ x.den (fO.below hz.1) Fm; (with_reducible refine Calls.mono hc ?_); clear hc; rintro e wz ⟨QJ,rfl,eR,hb⟩; (try have eR:=eR.below hb); (try have eT:=eT.below hb); (try have eP:=eP.below hb); (try have eG:=eG.below hb); (try have nj:=nj.below hb); (try have hs1:=hs1.below hb); have hz:=bj.call (by assumption) hb)
   |(go_at_call 83; have hc:=fD _ _ y.den (mP.below hz.1) F0; (with_reducible refine Calls.mono hc ?_); clear hc; rintro e wz ⟨QK,rfl,eT,hb⟩; (try have eR:=eR.below hb); (try have eT:=eT.below hb); (try have eP:=eP.below hb); (try have eG:=eG.below hb); (try have nj:=nj.below hb); (try have hs1:=hs1.below hb); have hz:=bj.call (by assumption) hb)
   |(go_at_call 84; have hc:=fC _ _ _ _ _ (gO.below hz.1) (pF.below hz.1) HB.out.1.1 HB.out.2.1 cQ kT; (with_reducible refine Calls.mono hc ?_); clear hc; rintro e wz ⟨QH,rfl,eP,hb⟩; (try have eR:=eR.below hb); (try have eT:=eT.below hb); (try have eP:=eP.below hb); (try have eG:=eG.below hb); (try have nj:=nj.below hb); (try have hs1:=hs1.below hb); have hz:=bj.call (by assumption) hb)
   |(go_at_call 84; have hc:=fC _ _ _ _ _ eR eT HB.out.1.2 HB.out.2.2 cQ kT; (with_reducible refine Calls.mono hc ?_); clear hc; rintro e wz ⟨QI,rfl,eG,hb⟩; (try have eR:=eR.below hb); (try have eT:=eT.below hb); (try have eP:=eP.below hb); (try have eG:=eG.below hb); (try have nj:=nj.below hb); (try have hs1:=hs1.below hb); have hz:=bj.call (by assumption) hb)
   |(go_at_call 85; have hc:=lA _ (!(decide (x.num<0)==decide (y.num<0))) _ _ (x.num.natAbs*y.num.natAbs) (x.den*y.den) eP eG (Nat.mul_pos Fm F0) (HB.out.1.1.mul HB.out.2.1) (HB.out.1.2.mul HB.out.2.2) tC; (with_reducible refine Calls.mono hc ?_); clear hc; rintro e wz ⟨vr,rfl,F9,hb⟩; replace F9:=w8 F9 (uP x y); obtain⟨Sf,Se,rfl,Fq,hrd⟩:=F9; obtain⟨Hj,Hx,rfl,_⟩:=id Fq; obtain⟨Hl,Hy,rfl,_⟩:=id hrd; (try have eR:=eR.below hb); (try have eT:=eT.below hb); (try have eP:=eP.below hb); (try have eG:=eG.below hb); (try have nj:=nj.below hb); (try have hs1:=hs1.below hb); have hz:=bj.call (by assumption) hb))
 all_goals (
  go_wp2
  obtain⟨wf,HW,f0,f1,f2,dQ⟩:=hz.fin rfl Fq hrd
  (try rw[HW])
  (try simp only[Exit.inBlock,Exit.then])
  refine bodyPost_ret (by simp[results,Tryz.results47,go_sem,f0,f1,f2]; try rfl) rfl ?_
  first|exact dQ|exact dQ.drew)
set_option maxHeartbeats 8000000 in
theorem Jj (w:World) (vx vy:Value) (x y:Rat) (hx:cg w vx x) (hy:cg w vy y) (hy0:y.num≠0) {j k:Nat} (hj:dL j x) (hk:dL k y) (tC:j+k<=100000000):Calls Tryz.prog 118 #[vx,vy] w (kr w (x/y)):=by
 have HY:=bx hy0
 clear hy0
 obtain⟨xY,xZ,rfl,gO,fO⟩:=id hx
 obtain⟨bO,bQ,rfl,_⟩:=id gO
 obtain⟨bP,bR,rfl,_⟩:=id fO
 obtain⟨G8,G9,rfl,pF,mP⟩:=id hy
 obtain⟨dc,di,rfl,_⟩:=id pF
 obtain⟨de,dm,rfl,_⟩:=id mP
 have Fm:=x.den_pos
 have F0:=y.den_pos
 have HB:=bx (And.intro hj hk)
 have cQ:j<=1000000000:=by omega
 have kT:k<=1000000000:=by omega
 clear hj hk
 go_enter Tryz.func118,Tryz.ntmps118
 go_wp2_with fail
 obtain⟨w1,e1,o1,b1,s1⟩:=gj w (.bool (decide (x.num<0))) (.slice bO (ae b64 x.num.natAbs).length bQ) (.slice bP (ae b64 (aq x.den)).length bR) 54
 obtain⟨w2,e2,o2,b2,s2⟩:=gj w1 (.bool (decide (y.num<0))) (.slice dc (ae b64 y.num.natAbs).length di) (.slice de (ae b64 (aq y.den)).length dm) 54
 obtain⟨w3,e3,o3,b3,s3⟩:=gj w2 (.bool false) (.slice none 0 0) (.slice none 0 0) 54
 rw[e1,e2,e3]
 rw[s1]at o2
 rw[s2,s1]at o3
 have p1:=((o1.gone b2).gone b3)
 have p2:=(o2.gone b3)
 have p3:=o3
 have B0:=((b1.trans (b2.mono b1.size)).trans (b3.mono (b1.trans (b2.mono b1.size)).size))
 have hS:∀w',bj w (w.heap.size+2) 54 [(w.heap.size,.bool (decide (x.num<0)),.slice bO (ae b64 x.num.natAbs).length bQ,.slice bP (ae b64 (aq x.den)).length bR),(w.heap.size+1,.bool (decide (y.num<0)),.slice dc (ae b64 y.num.natAbs).length di,.slice de (ae b64 (aq y.den)).length dm)] w'->bj w (w.heap.size+2) 54 [(w.heap.size,.bool (decide (x.num<0)),.slice bO (ae b64 x.num.natAbs).length bQ,.slice bP (ae b64 (aq x.den)).length bR),(w.heap.size+1,.bool (decide (y.num<0)),.slice dc (ae b64 y.num.natAbs).length di,.slice de (ae b64 (aq y.den)).length dm)] w'/\w'.cell? ⟨w.heap.size,0,none⟩=some (.bool (decide (x.num<0)))/\w'.cell? ⟨w.heap.size,1,none⟩=some (.slice bO (ae b64 x.num.natAbs).length bQ)/\w'.cell? ⟨w.heap.size,2,none⟩=some (.slice bP (ae b64 (aq x.den)).length bR)/\w'.cell? ⟨w.heap.size+1,0,none⟩=some (.bool (decide (y.num<0)))/\w'.cell? ⟨w.heap.size+1,1,none⟩=some (.slice dc (ae b64 y.num.natAbs).length di)/\w'.cell? ⟨w.heap.size+1,2,none⟩=some (.slice de (ae b64 (aq y.den)).length dm)/\w'.cell? ⟨w.heap.size+2,0,none⟩=some (cv w' ⟨w.heap.size+2,0,none⟩)/\w'.cell? ⟨w.heap.size+2,1,none⟩=some (cv w' ⟨w.heap.size+2,1,none⟩)/\w'.cell? ⟨w.heap.size+2,2,none⟩=some (cv w' ⟨w.heap.size+2,2,none⟩)/\w'.frozen? ⟨w.heap.size+2,0,none⟩=false/\w'.frozen? ⟨w.heap.size+2,1,none⟩=false/\w'.frozen? ⟨w.heap.size+2,2,none⟩=false:=λw' hh=>by
  obtain⟨f0,f1,f2,f3,f4,f5⟩:=hh.cells
  have q1:=(hh.2.2.1 (w.heap.size,.bool (decide (x.num<0)),.slice bO (ae b64 x.num.natAbs).length bQ,.slice bP (ae b64 (aq x.den)).length bR) (by simp)).2
  have q2:=(hh.2.2.1 (w.heap.size+1,.bool (decide (y.num<0)),.slice dc (ae b64 y.num.natAbs).length di,.slice de (ae b64 (aq y.den)).length dm) (by simp)).2
  exact⟨hh,q1.c0,q1.c1,q1.c2,q2.c0,q2.c1,q2.c2,f0,f1,f2,f3,f4,f5⟩
 have H0:bj w (w.heap.size+2) 54 [(w.heap.size,.bool (decide (x.num<0)),.slice bO (ae b64 x.num.natAbs).length bQ,.slice bP (ae b64 (aq x.den)).length bR),(w.heap.size+1,.bool (decide (y.num<0)),.slice dc (ae b64 y.num.natAbs).length di,.slice de (ae b64 (aq y.den)).length dm)] w3:=⟨B0,by omega,by intro p hp; simp at hp; rcases hp with rfl|rfl; exact⟨by simp,p1⟩; exact⟨by simp,p2⟩,_,_,_,p3,dw _,aX _ _ _,aX _ _ _⟩
 clear e1 e2 e3
 have hz:=H0.drew
 go_region_held3 (λw'=>bj w (w.heap.size+2) 54 [(w.heap.size,.bool (decide (x.num<0)),.slice bO (ae b64 x.num.natAbs).length bQ,.slice bP (ae b64 (aq x.den)).length bR),(w.heap.size+1,.bool (decide (y.num<0)),.slice dc (ae b64 y.num.natAbs).length di,.slice de (ae b64 (aq y.den)).length dm)] w'/\w'.cell? ⟨w.heap.size,0,none⟩=some (.bool (decide (x.num<0)))/\w'.cell? ⟨w.heap.size,1,none⟩=some (.slice bO (ae b64 x.num.natAbs).length bQ)/\w'.cell? ⟨w.heap.size,2,none⟩=some (.slice bP (ae b64 (aq x.den)).length bR)/\w'.cell? ⟨w.heap.size+1,0,none⟩=some (.bool (decide (y.num<0)))/\w'.cell? ⟨w.heap.size+1,1,none⟩=some (.slice dc (ae b64 y.num.natAbs).length di)/\w'.cell? ⟨w.heap.size+1,2,none⟩=some (.slice de (ae b64 (aq y.den)).length dm)/\w'.cell? ⟨w.heap.size+2,0,none⟩=some (cv w' ⟨w.heap.size+2,0,none⟩)/\w'.cell? ⟨w.heap.size+2,1,none⟩=some (cv w' ⟨w.heap.size+2,1,none⟩)/\w'.cell? ⟨w.heap.size+2,2,none⟩=some (cv w' ⟨w.heap.size+2,2,none⟩)/\w'.frozen? ⟨w.heap.size+2,0,none⟩=false/\w'.frozen? ⟨w.heap.size+2,1,none⟩=false/\w'.frozen? ⟨w.heap.size+2,2,none⟩=false)
  (first|exact hS _ hz|exact hS _ (bj.sets (by assumption) _ _ _ _ _ _ _))
  (first
   |(go_at_call 83; have hc:=fD _ _ x.den (fO.below hz.1) Fm; (with_reducible refine Calls.mono hc ?_); clear hc; rintro e wz ⟨QJ,rfl,eR,hb⟩; (try have eR:=eR.below hb); (try have eT:=eT.below hb); (try have eP:=eP.below hb); (try have eG:=eG.below hb); (try have nj:=nj.below hb); (try have hs1:=hs1.below hb); have hz:=bj.call (by assumption) hb)
   |(go_at_call 83; have hc:=fD _ _ y.den (mP.below hz.1) F0; (with_reducible refine Calls.mono hc ?_); clear hc; rintro e wz ⟨QK,rfl,eT,hb⟩; (try have eR:=eR.below hb); (try have eT:=eT.below hb); (try have eP:=eP.below hb); (try have eG:=eG.below hb); (try have nj:=nj.below hb); (try have hs1:=hs1.below hb); have hz:=bj.call (by assumption) hb)
   |(go_at_call 84; have hc:=fC _ _ _ _ _ (gO.below hz.1) eT HB.out.1.1 HB.out.2.2 cQ kT; (with_reducible refine Calls.mono hc ?_); clear hc; rintro e wz ⟨QH,rfl,eP,hb⟩; (try have eR:=eR.below hb); (try have eT:=eT.below hb); (try have eP:=eP.below hb); (try have eG:=eG.below hb); (try have nj:=nj.below hb); (try have hs1:=hs1.below hb); have hz:=bj.call (by assumption) hb)
   |(go_at_call 84; have hc:=fC _ _ _ _ _ eR (pF.below hz.1) HB.out.1.2 HB.out.2.1 cQ kT; (with_reducible refine Calls.mono hc ?_); clear hc; rintro e wz ⟨QI,rfl,eG,hb⟩; (try have eR:=eR.below hb); (try have eT:=eT.below hb); (try have eP:=eP.below hb); (try have eG:=eG.below hb); (try have nj:=nj.below hb); (try have hs1:=hs1.below hb); have hz:=bj.call (by assumption) hb)
   |(go_at_call 85; have hc:=lA _ (!(decide (x.num<0)==decide (y.num<0))) _ _ (x.num.natAbs*y.den) (x.den*y.num.natAbs) eP eG (Nat.mul_pos Fm (by have:=HY.out; omega)) (HB.out.1.1.mul HB.out.2.2) (HB.out.1.2.mul HB.out.2.1) tC; (with_reducible refine Calls.mono hc ?_); clear hc; rintro e wz ⟨vr,rfl,F9,hb⟩; replace F9:=w8 F9 (Ab x y HY.out); obtain⟨Sf,Se,rfl,Fq,hrd⟩:=F9; obtain⟨Hj,Hx,rfl,_⟩:=id Fq; obtain⟨Hl,Hy,rfl,_⟩:=id hrd; (try have eR:=eR.below hb); (try have eT:=eT.below hb); (try have eP:=eP.below hb); (try have eG:=eG.below hb); (try have nj:=nj.below hb); (try have hs1:=hs1.below hb); have hz:=bj.call (by assumption) hb))
 all_goals (
  go_wp2
  obtain⟨wf,HW,f0,f1,f2,dQ⟩:=hz.fin rfl Fq hrd
  (try rw[HW])
  (try simp only[Exit.inBlock,Exit.then])
  refine bodyPost_ret (by simp[results,Tryz.results118,go_sem,f0,f1,f2]; try rfl) rfl ?_
  first|exact dQ|exact dQ.drew)
end Wx

namespace Wx
open Go Go.RowKit Go.Proofs
def cP (x:Rat):Int:=if x.num<0 then -1 else if x=0 then 0 else 1
theorem fU (w:World) (vx:Value) (x:Rat) (hx:cg w vx x):Calls Tryz.prog 45 #[vx] w (dW w (.int .i64 (cP x))):=by
 obtain⟨xY,xZ,rfl,gO,fO⟩:=id hx
 obtain⟨bO,bQ,rfl,_⟩:=id gO
 obtain⟨bP,bR,rfl,_⟩:=id fO
 have hS:cP x=if x.num<0 then -1 else if x=0 then 0 else 1:=rfl
 generalize cP x=z at *
 by_cases h1:x.num<0
 ·rw[if_pos h1]at hS
  subst hS
  rw[decide_eq_true h1]at *
  go_enter Tryz.func45,Tryz.ntmps45
  go_wp2
  go_ret
  exact⟨rfl,Below.alloc (Below.refl _ _) (Nat.le_refl _) _⟩
 ·rw[if_neg h1]at hS
  rw[decide_eq_false h1]at *
  by_cases h2:x=0
  ·rw[if_pos h2]at hS
   subst hS
   have HD:=bx (decide_eq_true h2)
   clear h2
   go_enter Tryz.func45,Tryz.ntmps45
   go_wp2_with fail
   obtain⟨w1,e1,o1,b1,s1⟩:=gj w (.bool false) (.slice bO (ae b64 x.num.natAbs).length bQ) (.slice bP (ae b64 (aq x.den)).length bR) 54
   rw[e1]
   have hc:=zero_num w1 _ x (hx.below b1)
   rw[HD.out]at hc
   refine hc.mono ?_
   rintro e w2 ⟨rfl,hb⟩
   go_wp2
   go_ret
   exact⟨rfl,b1.trans (hb.mono b1.size)⟩
  ·rw[if_neg h2]at hS
   subst hS
   have HD:=bx (decide_eq_false h2)
   clear h2
   go_enter Tryz.func45,Tryz.ntmps45
   go_wp2_with fail
   obtain⟨w1,e1,o1,b1,s1⟩:=gj w (.bool false) (.slice bO (ae b64 x.num.natAbs).length bQ) (.slice bP (ae b64 (aq x.den)).length bR) 54
   rw[e1]
   have hc:=zero_num w1 _ x (hx.below b1)
   rw[HD.out]at hc
   refine hc.mono ?_
   rintro e w2 ⟨rfl,hb⟩
   go_wp2
   go_ret
   exact⟨rfl,b1.trans (hb.mono b1.size)⟩
end Wx

namespace Wx
open Go Go.RowKit Go.Proofs
end Wx

namespace Wx
open Go Go.RowKit Go.Proofs
theorem ER (w:World) (z:Int) (h1:-9223372036854775808<=z) (h2:z<=9223372036854775807):Calls Tryz.prog 59 #[.int .i64 z] w (dN .u64 b64 w z.natAbs):=by
 have Fw:Bx (z.natAbs<b64):=bx (by unfold b64; omega)
 by_cases hz:z<0
 ·have e1:IntKind.u64.wrap (-IntKind.u64.wrap z)=((z.natAbs:Nat):Int):=by
   simp[IntKind.wrap,IntKind.bits,IntKind.signed]; omega
  have E1:=bx e1
  clear e1
  go_enter Tryz.func59,Tryz.ntmps59
  go_wp2_with fail
  rw[E1.out]
  refine(lG w _ Fw.out).mono ?_
  rintro e w3 ⟨vr,rfl,hr3,hb3⟩
  go_wp2
  go_ret
  exact⟨_,rfl,hr3,hb3⟩
 ·have e1:z=((z.natAbs:Nat):Int):=by omega
  have E1:=bx e1
  clear e1
  go_enter Tryz.func59,Tryz.ntmps59
  go_wp2_with fail
  have hc:=lG w _ Fw.out
  rw[<-E1.out]at hc
  refine hc.mono ?_
  rintro e w3 ⟨vr,rfl,hr3,hb3⟩
  go_wp2
  go_ret
  exact⟨_,rfl,hr3,hb3⟩
theorem Gd (w:World) (z:Int) (h1:-9223372036854775808<=z) (h2:z<=9223372036854775807):Calls Tryz.prog 29 #[.int .i64 z] w (kr w (z:Rat)):=by
 have H:=bx (And.intro h1 h2)
 clear h1 h2
 go_enter Tryz.func29,Tryz.ntmps29
 go_wp2_with fail
 obtain⟨w1,e1,o1,b1,s1⟩:=gj w (.bool false) (.slice none 0 0) (.slice none 0 0) 54
 rw[e1]
 refine(ER w1 z H.out.1 H.out.2).mono ?_
 rintro e w2 ⟨v,rfl,hv,hb⟩
 obtain⟨A1,c1,rfl,_⟩:=id hv
 have hz:bj w w.heap.size 54 [] w2:=⟨b1.trans (hb.mono b1.size),Nat.le_refl _,by simp,_,_,_,o1.gone hb,dw _,aX _ _ _,aX _ _ _⟩
 obtain⟨k0,k1,k2,k3,k4,k5⟩:=hz.cells
 clear e1
 go_wp2
 obtain⟨wf,HW,f0,f1,f2,dQ⟩:=hz.fin (q:=(z:Rat)) (A2:=none) (l2:=0) (c2:=0) rfl (by rw[Rat.num_intCast]; exact hv) (by rw[Rat.den_intCast]; exact aY.zero _ _ _)
 rw[Rat.num_intCast]at HW f0 dQ
 rw[HW]
 (try simp only[Exit.inBlock,Exit.then])
 refine bodyPost_ret (by simp[results,Tryz.results29,go_sem,f0,f1,f2]; try rfl) rfl ?_
 exact dQ
def qp (w:World) (q:Rat) (err:Int) (e:Ending) (w':World):Prop:=∃v,e=.returned (.tuple #[v,.int .i64 err])/\cg w' v q/\Below w.heap.size w w'
theorem qp.of {w:World} {q:Rat} {v:Value} {w':World} (h:kr w q (.returned v) w') (err:Int):qp w q err (.returned (.tuple #[v,.int .i64 err])) w':=by
 obtain⟨v',e,h1,h2⟩:=h
 injection e with e
 subst e
 exact⟨_,rfl,h1,h2⟩
end Wx

namespace Wx
open Go Go.RowKit Go.Proofs
set_option maxHeartbeats 2000000 in
theorem div_zero (w:World) (vx vy:Value) (x y:Rat) (hx:cg w vx x) (hy:cg w vy y) (hy0:y=0):Calls Tryz.prog 88 #[vx,vy] w (qp w (0) 3):=by
 obtain⟨xY,xZ,rfl,gO,fO⟩:=id hx
 obtain⟨bO,bQ,rfl,_⟩:=id gO
 obtain⟨bP,bR,rfl,_⟩:=id fO
 obtain⟨G8,G9,rfl,pF,mP⟩:=id hy
 obtain⟨dc,di,rfl,_⟩:=id pF
 obtain⟨de,dm,rfl,_⟩:=id mP
 have HY:=bx hy0
 clear hy0
 go_enter Tryz.func88,Tryz.ntmps88
 go_wp2_with fail
 obtain⟨w1,e1,o1,b1,s1⟩:=gj w (.bool (decide (x.num<0))) (.slice bO (ae b64 x.num.natAbs).length bQ) (.slice bP (ae b64 (aq x.den)).length bR) 54
 obtain⟨w2,e2,o2,b2,s2⟩:=gj w1 (.bool (decide (y.num<0))) (.slice dc (ae b64 y.num.natAbs).length di) (.slice de (ae b64 (aq y.den)).length dm) 54
 obtain⟨w3,e3,o3,b3,s3⟩:=gj w2 (.bool false) (.slice none 0 0) (.slice none 0 0) 54
 rw[e1,e2,e3]
 rw[s1]at o2
 rw[s2,s1]at o3
 have p1:=((o1.gone b2).gone b3)
 have p2:=(o2.gone b3)
 have p3:=o3
 have B0:=((b1.trans (b2.mono b1.size)).trans (b3.mono (b1.trans (b2.mono b1.size)).size))
 have hS:∀w',bj w (w.heap.size+2) 54 [(w.heap.size,.bool (decide (x.num<0)),.slice bO (ae b64 x.num.natAbs).length bQ,.slice bP (ae b64 (aq x.den)).length bR),(w.heap.size+1,.bool (decide (y.num<0)),.slice dc (ae b64 y.num.natAbs).length di,.slice de (ae b64 (aq y.den)).length dm)] w'->bj w (w.heap.size+2) 54 [(w.heap.size,.bool (decide (x.num<0)),.slice bO (ae b64 x.num.natAbs).length bQ,.slice bP (ae b64 (aq x.den)).length bR),(w.heap.size+1,.bool (decide (y.num<0)),.slice dc (ae b64 y.num.natAbs).length di,.slice de (ae b64 (aq y.den)).length dm)] w'/\w'.cell? ⟨w.heap.size,0,none⟩=some (.bool (decide (x.num<0)))/\w'.cell? ⟨w.heap.size,1,none⟩=some (.slice bO (ae b64 x.num.natAbs).length bQ)/\w'.cell? ⟨w.heap.size,2,none⟩=some (.slice bP (ae b64 (aq x.den)).length bR)/\w'.cell? ⟨w.heap.size+1,0,none⟩=some (.bool (decide (y.num<0)))/\w'.cell? ⟨w.heap.size+1,1,none⟩=some (.slice dc (ae b64 y.num.natAbs).length di)/\w'.cell? ⟨w.heap.size+1,2,none⟩=some (.slice de (ae b64 (aq y.den)).length dm)/\w'.cell? ⟨w.heap.size+2,0,none⟩=some (cv w' ⟨w.heap.size+2,0,none⟩)/\w'.cell? ⟨w.heap.size+2,1,none⟩=some (cv w' ⟨w.heap.size+2,1,none⟩)/\w'.cell? ⟨w.heap.size+2,2,none⟩=some (cv w' ⟨w.heap.size+2,2,none⟩)/\w'.frozen? ⟨w.heap.size+2,0,none⟩=false/\w'.frozen? ⟨w.heap.size+2,1,none⟩=false/\w'.frozen? ⟨w.heap.size+2,2,none⟩=false:=λw' hh=>by
  obtain⟨f0,f1,f2,f3,f4,f5⟩:=hh.cells
  have q1:=(hh.2.2.1 (w.heap.size,.bool (decide (x.num<0)),.slice bO (ae b64 x.num.natAbs).length bQ,.slice bP (ae b64 (aq x.den)).length bR) (by simp)).2
  have q2:=(hh.2.2.1 (w.heap.size+1,.bool (decide (y.num<0)),.slice dc (ae b64 y.num.natAbs).length di,.slice de (ae b64 (aq y.den)).length dm) (by simp)).2
  exact⟨hh,q1.c0,q1.c1,q1.c2,q2.c0,q2.c1,q2.c2,f0,f1,f2,f3,f4,f5⟩
 have H0:bj w (w.heap.size+2) 54 [(w.heap.size,.bool (decide (x.num<0)),.slice bO (ae b64 x.num.natAbs).length bQ,.slice bP (ae b64 (aq x.den)).length bR),(w.heap.size+1,.bool (decide (y.num<0)),.slice dc (ae b64 y.num.natAbs).length di,.slice de (ae b64 (aq y.den)).length dm)] w3:=⟨B0,by omega,by intro p hp; simp at hp; rcases hp with rfl|rfl; exact⟨by simp,p1⟩; exact⟨by simp,p2⟩,_,_,_,p3,dw _,aX _ _ _,aX _ _ _⟩
 clear e1 e2 e3
 have hz:=H0
 obtain⟨_,k0,k1,k2,k3,k4,k5,_⟩:=hS _ hz
 have hc:=zero_num _ _ y (hy.below hz.1)
 rw[decide_eq_true HY.out]at hc
 refine hc.mono ?_
 clear hc
 rintro e wz ⟨rfl,hb⟩
 have hz:=bj.call (And.intro hz trivial) hb
 clear k0 k1 k2 k3 k4 k5
 obtain⟨_,k0,k1,k2,k3,k4,k5,k6,k7,k8,k9,T7,T8⟩:=hS _ hz
 go_wp2
 obtain⟨wf,HW,f0,f1,f2,dQ⟩:=hz.fin (q:=0) (A1:=none) (l1:=0) (c1:=0) (A2:=none) (l2:=0) (c2:=0) (show _=false from rfl) (aY.zero _ _ _) (aY.zero _ _ _)
 rw[HW]
 (try simp only[Exit.inBlock,Exit.then])
 refine bodyPost_ret (by simp[results,Tryz.results88,go_sem,f0,f1,f2]; try rfl) rfl ?_
 exact qp.of dQ 3
set_option maxHeartbeats 2000000 in
theorem Jw (w:World) (vx vy:Value) (x y:Rat) (hx:cg w vx x) (hy:cg w vy y) {j k:Nat} (hj:dL j x) (hk:dL k y) (tC:j+k<=100000000) (hy0:y≠0):Calls Tryz.prog 88 #[vx,vy] w (qp w (x/y) 0):=by
 obtain⟨xY,xZ,rfl,gO,fO⟩:=id hx
 obtain⟨bO,bQ,rfl,_⟩:=id gO
 obtain⟨bP,bR,rfl,_⟩:=id fO
 obtain⟨G8,G9,rfl,pF,mP⟩:=id hy
 obtain⟨dc,di,rfl,_⟩:=id pF
 obtain⟨de,dm,rfl,_⟩:=id mP
 have HY:=bx hy0
 clear hy0
 go_enter Tryz.func88,Tryz.ntmps88
 go_wp2_with fail
 obtain⟨w1,e1,o1,b1,s1⟩:=gj w (.bool (decide (x.num<0))) (.slice bO (ae b64 x.num.natAbs).length bQ) (.slice bP (ae b64 (aq x.den)).length bR) 54
 obtain⟨w2,e2,o2,b2,s2⟩:=gj w1 (.bool (decide (y.num<0))) (.slice dc (ae b64 y.num.natAbs).length di) (.slice de (ae b64 (aq y.den)).length dm) 54
 obtain⟨w3,e3,o3,b3,s3⟩:=gj w2 (.bool false) (.slice none 0 0) (.slice none 0 0) 54
 rw[e1,e2,e3]
 rw[s1]at o2
 rw[s2,s1]at o3
 have p1:=((o1.gone b2).gone b3)
 have p2:=(o2.gone b3)
 have p3:=o3
 have B0:=((b1.trans (b2.mono b1.size)).trans (b3.mono (b1.trans (b2.mono b1.size)).size))
 have hS:∀w',bj w (w.heap.size+2) 54 [(w.heap.size,.bool (decide (x.num<0)),.slice bO (ae b64 x.num.natAbs).length bQ,.slice bP (ae b64 (aq x.den)).length bR),(w.heap.size+1,.bool (decide (y.num<0)),.slice dc (ae b64 y.num.natAbs).length di,.slice de (ae b64 (aq y.den)).length dm)] w'->bj w (w.heap.size+2) 54 [(w.heap.size,.bool (decide (x.num<0)),.slice bO (ae b64 x.num.natAbs).length bQ,.slice bP (ae b64 (aq x.den)).length bR),(w.heap.size+1,.bool (decide (y.num<0)),.slice dc (ae b64 y.num.natAbs).length di,.slice de (ae b64 (aq y.den)).length dm)] w'/\w'.cell? ⟨w.heap.size,0,none⟩=some (.bool (decide (x.num<0)))/\w'.cell? ⟨w.heap.size,1,none⟩=some (.slice bO (ae b64 x.num.natAbs).length bQ)/\w'.cell? ⟨w.heap.size,2,none⟩=some (.slice bP (ae b64 (aq x.den)).length bR)/\w'.cell? ⟨w.heap.size+1,0,none⟩=some (.bool (decide (y.num<0)))/\w'.cell? ⟨w.heap.size+1,1,none⟩=some (.slice dc (ae b64 y.num.natAbs).length di)/\w'.cell? ⟨w.heap.size+1,2,none⟩=some (.slice de (ae b64 (aq y.den)).length dm)/\w'.cell? ⟨w.heap.size+2,0,none⟩=some (cv w' ⟨w.heap.size+2,0,none⟩)/\w'.cell? ⟨w.heap.size+2,1,none⟩=some (cv w' ⟨w.heap.size+2,1,none⟩)/\w'.cell? ⟨w.heap.size+2,2,none⟩=some (cv w' ⟨w.heap.size+2,2,none⟩)/\w'.frozen? ⟨w.heap.size+2,0,none⟩=false/\w'.frozen? ⟨w.heap.size+2,1,none⟩=false/\w'.frozen? ⟨w.heap.size+2,2,none⟩=false:=λw' hh=>by
  obtain⟨f0,f1,f2,f3,f4,f5⟩:=hh.cells
  have q1:=(hh.2.2.1 (w.heap.size,.bool (decide (x.num<0)),.slice bO (ae b64 x.num.natAbs).length bQ,.slice bP (ae b64 (aq x.den)).length bR) (by simp)).2
  have q2:=(hh.2.2.1 (w.heap.size+1,.bool (decide (y.num<0)),.slice dc (ae b64 y.num.natAbs).length di,.slice de (ae b64 (aq y.den)).length dm) (by simp)).2
  exact⟨hh,q1.c0,q1.c1,q1.c2,q2.c0,q2.c1,q2.c2,f0,f1,f2,f3,f4,f5⟩
 have H0:bj w (w.heap.size+2) 54 [(w.heap.size,.bool (decide (x.num<0)),.slice bO (ae b64 x.num.natAbs).length bQ,.slice bP (ae b64 (aq x.den)).length bR),(w.heap.size+1,.bool (decide (y.num<0)),.slice dc (ae b64 y.num.natAbs).length di,.slice de (ae b64 (aq y.den)).length dm)] w3:=⟨B0,by omega,by intro p hp; simp at hp; rcases hp with rfl|rfl; exact⟨by simp,p1⟩; exact⟨by simp,p2⟩,_,_,_,p3,dw _,aX _ _ _,aX _ _ _⟩
 clear e1 e2 e3
 have hz:=H0
 obtain⟨_,k0,k1,k2,k3,k4,k5,_⟩:=hS _ hz
 have hc:=zero_num _ _ y (hy.below hz.1)
 rw[decide_eq_false HY.out]at hc
 refine hc.mono ?_
 clear hc
 rintro e wz ⟨rfl,hb⟩
 have hz:=bj.call (And.intro hz trivial) hb
 clear k0 k1 k2 k3 k4 k5
 obtain⟨_,k0,k1,k2,k3,k4,k5,_⟩:=hS _ hz
 go_wp2_with fail
 refine(Jj _ _ _ x y (hx.below hz.1) (hy.below hz.1) (mt Rat.num_eq_zero.1 HY.out) hj hk tC).mono ?_
 rintro e wy ⟨vr,rfl,F9,hb⟩
 obtain⟨Sf,Se,rfl,Fq,hrd⟩:=F9
 obtain⟨Hj,Hx,rfl,_⟩:=id Fq
 obtain⟨Hl,Hy,rfl,_⟩:=id hrd
 have hz:=bj.call (And.intro hz trivial) hb
 clear k0 k1 k2 k3 k4 k5
 obtain⟨_,k0,k1,k2,k3,k4,k5,k6,k7,k8,k9,T7,T8⟩:=hS _ hz
 go_wp2
 obtain⟨wf,HW,f0,f1,f2,dQ⟩:=hz.fin rfl Fq hrd
 rw[HW]
 (try simp only[Exit.inBlock,Exit.then])
 refine bodyPost_ret (by simp[results,Tryz.results88,go_sem,f0,f1,f2]; try rfl) rfl ?_
 exact qp.of dQ 0
end Wx

namespace Wx
open Go Go.RowKit Go.Proofs
end Wx

namespace Wx
open Go Go.RowKit Go.Proofs
variable {j k:Nat} {x y:Rat}
theorem dL.quo (h:dL j x) (g:dL k y):dL (j+k) (x/y):=by
 by_cases hy:y=0
 ·rw[hy,Rat.div_def,Rat.inv_zero,Rat.mul_zero]
  have h2:x.den<2^j:=h.2
  have h3:=x.den_pos
  have hj:j≠0:=by rintro rfl; simp at h2; omega
  refine⟨?_,?_⟩
  ·show(0:Rat).num.natAbs<2^(j+k)
   exact Nat.two_pow_pos _
  ·show(0:Rat).den<2^(j+k)
   show 1<2^(j+k)
   exact Nat.one_lt_two_pow (by omega)
 ·exact h.div g (λh=>hy ((jG y).1 (by omega)))
variable {w:World} {e:Ending} {w':World}
theorem rU {v:Value} (h:dW w v e w'):fk (bN v) w e w':=⟨v,h.1,rfl,h.2⟩
theorem EB {q:Rat} {n:Int} (h:qp w q n e w'):fk (gn (bA q) (pI n)) w e w':=by
 obtain⟨v,rfl,h1,h2⟩:=h
 exact⟨_,rfl,⟨v,_,rfl,h1,rfl⟩,h2⟩
theorem Ll (hx:dL j x) (hy:dL k y) (h:j+k+j+k+1<=100000000):∀w v1 v2,bA x w v1->bA y w v2->Calls Tryz.prog 46 #[v1,v2] w (fk (bA (x+y)) w):=
 λw v1 v2 h1 h2=>FA w v1 v2 x y h1 h2 hx hy h
theorem Lp (hx:dL j x) (hy:dL k y) (h:j+k<=100000000):∀w v1 v2,bA x w v1->bA y w v2->Calls Tryz.prog 47 #[v1,v2] w (fk (bA (x*y)) w):=
 λw v1 v2 h1 h2=>Gt w v1 v2 x y h1 h2 hx hy h
theorem Jo (x:Rat):∀w v1,bA x w v1->Calls Tryz.prog 48 #[v1] w (fk (pB (decide (x=0))) w):=λw v1 h1=>(zero_num w v1 x h1).mono λ_ _=>rU
theorem Jn (x:Rat):∀w v1,bA x w v1->Calls Tryz.prog 45 #[v1] w (fk (pI (cP x)) w):=λw v1 h1=>(fU w v1 x h1).mono λ_ _=>rU
theorem Lo (n:Int) (h1:-9223372036854775808<=n) (h2:n<=9223372036854775807):∀w v1,pI n w v1->Calls Tryz.prog 29 #[v1] w (fk (bA (n:Rat)) w):=λw v1 h=>by
 have h:v1=.int .i64 n:=h
 rw[h]
 exact Gd w n h1 h2
theorem CV (hx:dL j x) (hy:dL k y) (h:j+k<=100000000) (h0:y≠0):∀w v1 v2,bA x w v1->bA y w v2->Calls Tryz.prog 88 #[v1,v2] w (fk (gn (bA (x/y)) (pI 0)) w):=
 λw v1 v2 h1 h2=>(Jw w v1 v2 x y h1 h2 hx hy h h0).mono λ_ _=>EB
theorem yx (x:Rat) {y:Rat} (h0:y=0):∀w v1 v2,bA x w v1->bA y w v2->Calls Tryz.prog 88 #[v1,v2] w (fk (gn (bA 0) (pI 3)) w):=
 λw v1 v2 h1 h2=>(div_zero w v1 v2 x y h1 h2 h0).mono λ_ _=>EB
theorem Ln (hx:dL j x) (hy:dL k y) (h:j+k<=100000000):∀w v1 v2,bA x w v1->bA y w v2->Calls Tryz.prog 88 #[v1,v2] w (fk (gn (bA (x/y)) (pI (if y=0 then 3 else 0))) w):=by
 by_cases h0:y=0
 ·rw[if_pos h0,show x/y=0 by rw[h0,Rat.div_def,Rat.inv_zero,Rat.mul_zero]]; exact yx x h0
 ·rw[if_neg h0]; exact CV hx hy h h0
end Wx
