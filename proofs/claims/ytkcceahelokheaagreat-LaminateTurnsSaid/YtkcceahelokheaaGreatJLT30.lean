import Derived.Test.YtkcceahelokheaaGreatJLT29
namespace Wx
open Go Go.RowKit Go.Proofs
variable {m n:Nat}
theorem Lv (hm:0<m) (hn:0<n) (h:aq m=aq n):m=n:=by
 unfold aq at h
 split at h<;>split at h<;>omega
theorem pU (x y:Rat):x=y↔decide (x.num<0)=decide (y.num<0)/\x.num.natAbs=y.num.natAbs/\aq x.den=aq y.den:=by
 refine⟨λh=>by subst h; exact⟨rfl,rfl,rfl⟩,λ⟨h1,h2,h3⟩=>?_⟩
 have hd:=Lv x.den_pos y.den_pos h3
 refine Rat.ext ?_ hd
 rw[<-Ai x.num,<-Ai y.num,h1,h2]
theorem CY (m:Nat):bZ m m=0:=by unfold bZ; simp
theorem JW (h:m≠n):∃z,bZ m n=z/\(z==0)=false:=by
 refine⟨_,rfl,?_⟩
 unfold bZ
 rcases Nat.lt_or_gt_of_ne h with h1|h1
 ·rw[if_pos h1]; rfl
 ·rw[if_neg (by omega)]; split<;>first|rfl|omega
theorem Wu (w:World) (vx vy:Value) (x y:Rat) (hx:bL w vx x) (hy:bL w vy y) (h1:¬decide (x.num<0)=decide (y.num<0)):Calls Tryz.prog 19 #[vx,vy] w (fU w (.bool false)):=by
 obtain⟨Ea,Eb,rfl,lu,jO⟩:=id hx
 obtain⟨da,de,rfl,_⟩:=id lu
 obtain⟨dc,dg,rfl,_⟩:=id jO
 obtain⟨NH,NI,rfl,tq,qp⟩:=id hy
 obtain⟨eZ,fg,rfl,_⟩:=id tq
 obtain⟨fc,fh,rfl,_⟩:=id qp
 have hf:(decide (x.num<0)==decide (y.num<0))=false:=beq_eq_false_iff_ne.2 h1
 clear h1
 go_enter Tryz.func19,Tryz.ntmps19
 go_wp2
 go_ret
 exact⟨rfl,(Below.alloc (Below.refl _ _) (Nat.le_refl _) _).alloc (by simp) _⟩
theorem Wv (w:World) (vx vy:Value) (x y:Rat) (hx:bL w vx x) (hy:bL w vy y) (h1:decide (x.num<0)=decide (y.num<0)) (h2:¬x.num.natAbs=y.num.natAbs):Calls Tryz.prog 19 #[vx,vy] w (fU w (.bool false)):=by
 obtain⟨Ea,Eb,rfl,lu,jO⟩:=id hx
 obtain⟨da,de,rfl,_⟩:=id lu
 obtain⟨dc,dg,rfl,_⟩:=id jO
 obtain⟨NH,NI,rfl,tq,qp⟩:=id hy
 obtain⟨eZ,fg,rfl,_⟩:=id tq
 obtain⟨fc,fh,rfl,_⟩:=id qp
 have hf:(decide (x.num<0)==decide (y.num<0))=true:=beq_iff_eq.2 h1
 obtain⟨z,hz,hz0⟩:=JW h2
 have HZ:=bx hz
 clear h1 h2 hz
 go_enter Tryz.func19,Tryz.ntmps19
 go_wp2_with fail
 obtain⟨w1,e1,o1,b1,s1⟩:=eL w (.bool (decide (x.num<0))) (.slice da (af b64 x.num.natAbs).length de) (.slice dc (af b64 (aq x.den)).length dg) 40
 obtain⟨w2,e2,o2,b2,s2⟩:=eL w1 (.bool (decide (y.num<0))) (.slice eZ (af b64 y.num.natAbs).length fg) (.slice fc (af b64 (aq y.den)).length fh) 40
 rw[e1,e2]
 rw[s1]at o2
 have p1:=o1.gone b2
 have B:=b1.trans (b2.mono b1.size)
 have k0:=p1.c0
 have k1:=p1.c1
 have k2:=p1.c2
 have k3:=o2.c0
 have k4:=o2.c1
 have k5:=o2.c2
 have hc:=ju w2 _ _ _ _ (lu.below B) (tq.below B)
 rw[HZ.out]at hc
 refine hc.mono ?_
 clear hc
 rintro e w3 ⟨rfl,hb⟩
 have B3:=B.trans (hb.mono B.size)
 have Ua:=p1.gone hb
 have Ub:=o2.gone hb
 clear k0 k1 k2 k3 k4 k5
 go_wp2
 go_ret
 exact⟨rfl,B3⟩
theorem Ww (w:World) (vx vy:Value) (x y:Rat) (hx:bL w vx x) (hy:bL w vy y) (h1:decide (x.num<0)=decide (y.num<0)) (h2:x.num.natAbs=y.num.natAbs) (h3:¬aq x.den=aq y.den):Calls Tryz.prog 19 #[vx,vy] w (fU w (.bool false)):=by
 obtain⟨Ea,Eb,rfl,lu,jO⟩:=id hx
 obtain⟨da,de,rfl,_⟩:=id lu
 obtain⟨dc,dg,rfl,_⟩:=id jO
 obtain⟨NH,NI,rfl,tq,qp⟩:=id hy
 obtain⟨eZ,fg,rfl,_⟩:=id tq
 obtain⟨fc,fh,rfl,_⟩:=id qp
 have hf:(decide (x.num<0)==decide (y.num<0))=true:=beq_iff_eq.2 h1
 have H2:=bx (show bZ x.num.natAbs y.num.natAbs=0 by rw[h2]; exact CY _)
 obtain⟨z,hz,hz0⟩:=JW h3
 have HZ:=bx hz
 clear h1 h2 h3 hz
 go_enter Tryz.func19,Tryz.ntmps19
 go_wp2_with fail
 obtain⟨w1,e1,o1,b1,s1⟩:=eL w (.bool (decide (x.num<0))) (.slice da (af b64 x.num.natAbs).length de) (.slice dc (af b64 (aq x.den)).length dg) 40
 obtain⟨w2,e2,o2,b2,s2⟩:=eL w1 (.bool (decide (y.num<0))) (.slice eZ (af b64 y.num.natAbs).length fg) (.slice fc (af b64 (aq y.den)).length fh) 40
 rw[e1,e2]
 rw[s1]at o2
 have p1:=o1.gone b2
 have B:=b1.trans (b2.mono b1.size)
 have k0:=p1.c0
 have k1:=p1.c1
 have k2:=p1.c2
 have k3:=o2.c0
 have k4:=o2.c1
 have k5:=o2.c2
 have hc:=ju w2 _ _ _ _ (lu.below B) (tq.below B)
 rw[H2.out]at hc
 refine hc.mono ?_
 clear hc
 rintro e w3 ⟨rfl,hb⟩
 have B3:=B.trans (hb.mono B.size)
 have Ua:=p1.gone hb
 have Ub:=o2.gone hb
 clear k0 k1 k2 k3 k4 k5
 have k0:=Ua.c0
 have k1:=Ua.c1
 have k2:=Ua.c2
 have k3:=Ub.c0
 have k4:=Ub.c1
 have k5:=Ub.c2
 go_wp2_with fail
 have hc:=ju w3 _ _ _ _ (jO.below B3) (qp.below B3)
 rw[HZ.out]at hc
 refine hc.mono ?_
 clear hc
 rintro e w4 ⟨rfl,hb4⟩
 go_wp2
 go_ret
 exact⟨rfl,B3.trans (hb4.mono B3.size)⟩
theorem Wy (w:World) (vx vy:Value) (x y:Rat) (hx:bL w vx x) (hy:bL w vy y) (h1:decide (x.num<0)=decide (y.num<0)) (h2:x.num.natAbs=y.num.natAbs) (h3:aq x.den=aq y.den):Calls Tryz.prog 19 #[vx,vy] w (fU w (.bool true)):=by
 obtain⟨Ea,Eb,rfl,lu,jO⟩:=id hx
 obtain⟨da,de,rfl,_⟩:=id lu
 obtain⟨dc,dg,rfl,_⟩:=id jO
 obtain⟨NH,NI,rfl,tq,qp⟩:=id hy
 obtain⟨eZ,fg,rfl,_⟩:=id tq
 obtain⟨fc,fh,rfl,_⟩:=id qp
 have hf:(decide (x.num<0)==decide (y.num<0))=true:=beq_iff_eq.2 h1
 have H2:=bx (show bZ x.num.natAbs y.num.natAbs=0 by rw[h2]; exact CY _)
 have HZ:=bx (show bZ (aq x.den) (aq y.den)=0 by rw[h3]; exact CY _)
 clear h1 h2 h3
 go_enter Tryz.func19,Tryz.ntmps19
 go_wp2_with fail
 obtain⟨w1,e1,o1,b1,s1⟩:=eL w (.bool (decide (x.num<0))) (.slice da (af b64 x.num.natAbs).length de) (.slice dc (af b64 (aq x.den)).length dg) 40
 obtain⟨w2,e2,o2,b2,s2⟩:=eL w1 (.bool (decide (y.num<0))) (.slice eZ (af b64 y.num.natAbs).length fg) (.slice fc (af b64 (aq y.den)).length fh) 40
 rw[e1,e2]
 rw[s1]at o2
 have p1:=o1.gone b2
 have B:=b1.trans (b2.mono b1.size)
 have k0:=p1.c0
 have k1:=p1.c1
 have k2:=p1.c2
 have k3:=o2.c0
 have k4:=o2.c1
 have k5:=o2.c2
 have hc:=ju w2 _ _ _ _ (lu.below B) (tq.below B)
 rw[H2.out]at hc
 refine hc.mono ?_
 clear hc
 rintro e w3 ⟨rfl,hb⟩
 have B3:=B.trans (hb.mono B.size)
 have Ua:=p1.gone hb
 have Ub:=o2.gone hb
 clear k0 k1 k2 k3 k4 k5
 have k0:=Ua.c0
 have k1:=Ua.c1
 have k2:=Ua.c2
 have k3:=Ub.c0
 have k4:=Ub.c1
 have k5:=Ub.c2
 go_wp2_with fail
 have hc:=ju w3 _ _ _ _ (jO.below B3) (qp.below B3)
 rw[HZ.out]at hc
 refine hc.mono ?_
 clear hc
 rintro e w4 ⟨rfl,hb4⟩
 go_wp2
 go_ret
 exact⟨rfl,B3.trans (hb4.mono B3.size)⟩
theorem Qj (w:World) (vx vy:Value) (x y:Rat) (hx:bL w vx x) (hy:bL w vy y):Calls Tryz.prog 19 #[vx,vy] w (fU w (.bool (decide (x=y)))):=by
 by_cases h1:decide (x.num<0)=decide (y.num<0)
 ·by_cases h2:x.num.natAbs=y.num.natAbs
  ·by_cases h3:aq x.den=aq y.den
   ·rw[decide_eq_true ((pU x y).2 ⟨h1,h2,h3⟩)]
    exact Wy w vx vy x y hx hy h1 h2 h3
   ·rw[decide_eq_false (λh=>h3 ((pU x y).1 h).2.2)]
    exact Ww w vx vy x y hx hy h1 h2 h3
  ·rw[decide_eq_false (λh=>h2 ((pU x y).1 h).2.1)]
   exact Wv w vx vy x y hx hy h1 h2
 ·rw[decide_eq_false (λh=>h1 ((pU x y).1 h).1)]
  exact Wu w vx vy x y hx hy h1
set_option maxHeartbeats 2000000 in
theorem div_zero (w:World) (vx vy:Value) (x y:Rat) (hx:bL w vx x) (hy:bL w vy y) (hy0:y=0):Calls Tryz.prog 22 #[vx,vy] w (tX w (0) 3):=by
 obtain⟨Ea,Eb,rfl,lu,jO⟩:=id hx
 obtain⟨da,de,rfl,_⟩:=id lu
 obtain⟨dc,dg,rfl,_⟩:=id jO
 obtain⟨NH,NI,rfl,tq,qp⟩:=id hy
 obtain⟨eZ,fg,rfl,_⟩:=id tq
 obtain⟨fc,fh,rfl,_⟩:=id qp
 have HY:=bx hy0
 clear hy0
 go_enter Tryz.func22,Tryz.ntmps22
 go_wp2_with fail
 obtain⟨w1,e1,o1,b1,s1⟩:=eL w (.bool (decide (x.num<0))) (.slice da (af b64 x.num.natAbs).length de) (.slice dc (af b64 (aq x.den)).length dg) 40
 obtain⟨w2,e2,o2,b2,s2⟩:=eL w1 (.bool (decide (y.num<0))) (.slice eZ (af b64 y.num.natAbs).length fg) (.slice fc (af b64 (aq y.den)).length fh) 40
 obtain⟨w3,e3,o3,b3,s3⟩:=eL w2 (.bool false) (.slice none 0 0) (.slice none 0 0) 40
 rw[e1,e2,e3]
 rw[s1]at o2
 rw[s2,s1]at o3
 have p1:=((o1.gone b2).gone b3)
 have p2:=(o2.gone b3)
 have p3:=o3
 have B0:=((b1.trans (b2.mono b1.size)).trans (b3.mono (b1.trans (b2.mono b1.size)).size))
 have hS:∀w',bp w (w.heap.size+2) 40 [(w.heap.size,.bool (decide (x.num<0)),.slice da (af b64 x.num.natAbs).length de,.slice dc (af b64 (aq x.den)).length dg),(w.heap.size+1,.bool (decide (y.num<0)),.slice eZ (af b64 y.num.natAbs).length fg,.slice fc (af b64 (aq y.den)).length fh)] w'->bp w (w.heap.size+2) 40 [(w.heap.size,.bool (decide (x.num<0)),.slice da (af b64 x.num.natAbs).length de,.slice dc (af b64 (aq x.den)).length dg),(w.heap.size+1,.bool (decide (y.num<0)),.slice eZ (af b64 y.num.natAbs).length fg,.slice fc (af b64 (aq y.den)).length fh)] w'/\w'.cell? ⟨w.heap.size,0,none⟩=some (.bool (decide (x.num<0)))/\w'.cell? ⟨w.heap.size,1,none⟩=some (.slice da (af b64 x.num.natAbs).length de)/\w'.cell? ⟨w.heap.size,2,none⟩=some (.slice dc (af b64 (aq x.den)).length dg)/\w'.cell? ⟨w.heap.size+1,0,none⟩=some (.bool (decide (y.num<0)))/\w'.cell? ⟨w.heap.size+1,1,none⟩=some (.slice eZ (af b64 y.num.natAbs).length fg)/\w'.cell? ⟨w.heap.size+1,2,none⟩=some (.slice fc (af b64 (aq y.den)).length fh)/\w'.cell? ⟨w.heap.size+2,0,none⟩=some (cv w' ⟨w.heap.size+2,0,none⟩)/\w'.cell? ⟨w.heap.size+2,1,none⟩=some (cv w' ⟨w.heap.size+2,1,none⟩)/\w'.cell? ⟨w.heap.size+2,2,none⟩=some (cv w' ⟨w.heap.size+2,2,none⟩)/\w'.frozen? ⟨w.heap.size+2,0,none⟩=false/\w'.frozen? ⟨w.heap.size+2,1,none⟩=false/\w'.frozen? ⟨w.heap.size+2,2,none⟩=false:=λw' hh=>by
  obtain⟨f0,f1,f2,f3,f4,f5⟩:=hh.cells
  have q1:=(hh.2.2.1 (w.heap.size,.bool (decide (x.num<0)),.slice da (af b64 x.num.natAbs).length de,.slice dc (af b64 (aq x.den)).length dg) (by simp)).2
  have q2:=(hh.2.2.1 (w.heap.size+1,.bool (decide (y.num<0)),.slice eZ (af b64 y.num.natAbs).length fg,.slice fc (af b64 (aq y.den)).length fh) (by simp)).2
  exact⟨hh,q1.c0,q1.c1,q1.c2,q2.c0,q2.c1,q2.c2,f0,f1,f2,f3,f4,f5⟩
 have H0:bp w (w.heap.size+2) 40 [(w.heap.size,.bool (decide (x.num<0)),.slice da (af b64 x.num.natAbs).length de,.slice dc (af b64 (aq x.den)).length dg),(w.heap.size+1,.bool (decide (y.num<0)),.slice eZ (af b64 y.num.natAbs).length fg,.slice fc (af b64 (aq y.den)).length fh)] w3:=⟨B0,by omega,by intro p hp; simp at hp; rcases hp with rfl|rfl; exact⟨by simp,p1⟩; exact⟨by simp,p2⟩,_,_,_,p3,cT _,aU _ _ _,aU _ _ _⟩
 clear e1 e2 e3
 have hz:=H0
 obtain⟨_,k0,k1,k2,k3,k4,k5,_⟩:=hS _ hz
 have hc:=zero_num _ _ y (hy.below hz.1)
 rw[decide_eq_true HY.out]at hc
 refine hc.mono ?_
 clear hc
 rintro e wz ⟨rfl,hb⟩
 have hz:=bp.call (And.intro hz trivial) hb
 clear k0 k1 k2 k3 k4 k5
 obtain⟨_,k0,k1,k2,k3,k4,k5,k6,k7,k8,k9,k10,k11⟩:=hS _ hz
 go_wp2
 obtain⟨wf,HW,f0,f1,f2,dR⟩:=hz.fin (q:=0) (A1:=none) (l1:=0) (c1:=0) (A2:=none) (l2:=0) (c2:=0) (show _=false from rfl) (bQ.zero _ _ _) (bQ.zero _ _ _)
 rw[HW]
 (try simp only[Exit.inBlock,Exit.then])
 refine bodyPost_ret (by simp[results,Tryz.results22,go_sem,f0,f1,f2]; try rfl) rfl ?_
 exact tX.of dR 3
set_option maxHeartbeats 2000000 in
theorem UU (w:World) (vx vy:Value) (x y:Rat) (hx:bL w vx x) (hy:bL w vy y) {j k:Nat} (hj:aZ j x) (hk:aZ k y) (yh:j+k<=100000000) (hy0:y≠0):Calls Tryz.prog 22 #[vx,vy] w (tX w (x/y) 0):=by
 obtain⟨Ea,Eb,rfl,lu,jO⟩:=id hx
 obtain⟨da,de,rfl,_⟩:=id lu
 obtain⟨dc,dg,rfl,_⟩:=id jO
 obtain⟨NH,NI,rfl,tq,qp⟩:=id hy
 obtain⟨eZ,fg,rfl,_⟩:=id tq
 obtain⟨fc,fh,rfl,_⟩:=id qp
 have HY:=bx hy0
 clear hy0
 go_enter Tryz.func22,Tryz.ntmps22
 go_wp2_with fail
 obtain⟨w1,e1,o1,b1,s1⟩:=eL w (.bool (decide (x.num<0))) (.slice da (af b64 x.num.natAbs).length de) (.slice dc (af b64 (aq x.den)).length dg) 40
 obtain⟨w2,e2,o2,b2,s2⟩:=eL w1 (.bool (decide (y.num<0))) (.slice eZ (af b64 y.num.natAbs).length fg) (.slice fc (af b64 (aq y.den)).length fh) 40
 obtain⟨w3,e3,o3,b3,s3⟩:=eL w2 (.bool false) (.slice none 0 0) (.slice none 0 0) 40
 rw[e1,e2,e3]
 rw[s1]at o2
 rw[s2,s1]at o3
 have p1:=((o1.gone b2).gone b3)
 have p2:=(o2.gone b3)
 have p3:=o3
 have B0:=((b1.trans (b2.mono b1.size)).trans (b3.mono (b1.trans (b2.mono b1.size)).size))
 have hS:∀w',bp w (w.heap.size+2) 40 [(w.heap.size,.bool (decide (x.num<0)),.slice da (af b64 x.num.natAbs).length de,.slice dc (af b64 (aq x.den)).length dg),(w.heap.size+1,.bool (decide (y.num<0)),.slice eZ (af b64 y.num.natAbs).length fg,.slice fc (af b64 (aq y.den)).length fh)] w'->bp w (w.heap.size+2) 40 [(w.heap.size,.bool (decide (x.num<0)),.slice da (af b64 x.num.natAbs).length de,.slice dc (af b64 (aq x.den)).length dg),(w.heap.size+1,.bool (decide (y.num<0)),.slice eZ (af b64 y.num.natAbs).length fg,.slice fc (af b64 (aq y.den)).length fh)] w'/\w'.cell? ⟨w.heap.size,0,none⟩=some (.bool (decide (x.num<0)))/\w'.cell? ⟨w.heap.size,1,none⟩=some (.slice da (af b64 x.num.natAbs).length de)/\w'.cell? ⟨w.heap.size,2,none⟩=some (.slice dc (af b64 (aq x.den)).length dg)/\w'.cell? ⟨w.heap.size+1,0,none⟩=some (.bool (decide (y.num<0)))/\w'.cell? ⟨w.heap.size+1,1,none⟩=some (.slice eZ (af b64 y.num.natAbs).length fg)/\w'.cell? ⟨w.heap.size+1,2,none⟩=some (.slice fc (af b64 (aq y.den)).length fh)/\w'.cell? ⟨w.heap.size+2,0,none⟩=some (cv w' ⟨w.heap.size+2,0,none⟩)/\w'.cell? ⟨w.heap.size+2,1,none⟩=some (cv w' ⟨w.heap.size+2,1,none⟩)/\w'.cell? ⟨w.heap.size+2,2,none⟩=some (cv w' ⟨w.heap.size+2,2,none⟩)/\w'.frozen? ⟨w.heap.size+2,0,none⟩=false/\w'.frozen? ⟨w.heap.size+2,1,none⟩=false/\w'.frozen? ⟨w.heap.size+2,2,none⟩=false:=λw' hh=>by
  obtain⟨f0,f1,f2,f3,f4,f5⟩:=hh.cells
  have q1:=(hh.2.2.1 (w.heap.size,.bool (decide (x.num<0)),.slice da (af b64 x.num.natAbs).length de,.slice dc (af b64 (aq x.den)).length dg) (by simp)).2
  have q2:=(hh.2.2.1 (w.heap.size+1,.bool (decide (y.num<0)),.slice eZ (af b64 y.num.natAbs).length fg,.slice fc (af b64 (aq y.den)).length fh) (by simp)).2
  exact⟨hh,q1.c0,q1.c1,q1.c2,q2.c0,q2.c1,q2.c2,f0,f1,f2,f3,f4,f5⟩
 have H0:bp w (w.heap.size+2) 40 [(w.heap.size,.bool (decide (x.num<0)),.slice da (af b64 x.num.natAbs).length de,.slice dc (af b64 (aq x.den)).length dg),(w.heap.size+1,.bool (decide (y.num<0)),.slice eZ (af b64 y.num.natAbs).length fg,.slice fc (af b64 (aq y.den)).length fh)] w3:=⟨B0,by omega,by intro p hp; simp at hp; rcases hp with rfl|rfl; exact⟨by simp,p1⟩; exact⟨by simp,p2⟩,_,_,_,p3,cT _,aU _ _ _,aU _ _ _⟩
 clear e1 e2 e3
 have hz:=H0
 obtain⟨_,k0,k1,k2,k3,k4,k5,_⟩:=hS _ hz
 have hc:=zero_num _ _ y (hy.below hz.1)
 rw[decide_eq_false HY.out]at hc
 refine hc.mono ?_
 clear hc
 rintro e wz ⟨rfl,hb⟩
 have hz:=bp.call (And.intro hz trivial) hb
 clear k0 k1 k2 k3 k4 k5
 obtain⟨_,k0,k1,k2,k3,k4,k5,_⟩:=hS _ hz
 go_wp2_with fail
 refine(N6 _ _ _ x y (hx.below hz.1) (hy.below hz.1) (mt Rat.num_eq_zero.1 HY.out) hj hk yh).mono ?_
 rintro e wy ⟨vr,rfl,El,hb⟩
 obtain⟨WI,WH,rfl,vF,hrd⟩:=El
 obtain⟨CB,C4,rfl,_⟩:=id vF
 obtain⟨CC,C5,rfl,_⟩:=id hrd
 have hz:=bp.call (And.intro hz trivial) hb
 clear k0 k1 k2 k3 k4 k5
 obtain⟨_,k0,k1,k2,k3,k4,k5,k6,k7,k8,k9,k10,k11⟩:=hS _ hz
 go_wp2
 obtain⟨wf,HW,f0,f1,f2,dR⟩:=hz.fin rfl vF hrd
 rw[HW]
 (try simp only[Exit.inBlock,Exit.then])
 refine bodyPost_ret (by simp[results,Tryz.results22,go_sem,f0,f1,f2]; try rfl) rfl ?_
 exact tX.of dR 0
end Wx

namespace Wx
open Go Go.RowKit Go.Proofs
theorem nr:aZ 1 (0:Rat):=⟨by show(0:Rat).num.natAbs<2^1; decide,by show(0:Rat).den<2^1; decide⟩
variable {j k:Nat} {x y:Rat}
theorem aZ.adH (h:aZ j x) (g:aZ k y):aZ (j+k+j+k+1) (x-y):=by rw[Rat.sub_eq_add_neg]; exact h.add g.neg
theorem aZ.quo (h:aZ j x) (g:aZ k y):aZ (j+k) (x/y):=by
 by_cases hy:y=0
 ·rw[hy,Rat.div_def,Rat.inv_zero,Rat.mul_zero]
  have h2:x.den<2^j:=h.2
  have h3:=x.den_pos
  have hj:j≠0:=by rintro rfl; simp at h2; omega
  refine⟨?_,?_⟩
  ·show(0:Rat).num.natAbs<2^(j+k)
   exact Nat.two_pow_pos _
  ·show(0:Rat).den<2^(j+k)
   show 1<2^(j+k)
   exact Nat.one_lt_two_pow (by omega)
 ·exact h.div g (λh=>hy ((pK y).1 (by omega)))
variable {w:World} {e:Ending} {w':World}
theorem Ab {v:Value} (h:fU w v e w'):ie (bg v) w e w':=⟨v,h.1,rfl,h.2⟩
variable {n:Int}
theorem Jb {q:Rat} (h:tX w q n e w'):ie (cN (au q) (pI n)) w e w':=by
 obtain⟨v,rfl,h1,h2⟩:=h
 exact⟨_,rfl,⟨v,_,rfl,h1,rfl⟩,h2⟩
theorem XG (hx:aZ j x) (hy:aZ k y) (h:j+k+j+k+1<=100000000):∀w v1 v2,au x w v1->au y w v2->Calls Tryz.prog 17 #[v1,v2] w (ie (au (x+y)) w):=
 λw v1 v2 h1 h2=>JL w v1 v2 x y h1 h2 hx hy h
theorem To (hx:aZ j x) (hy:aZ k y) (h:j+k+j+k+1<=100000000):∀w v1 v2,au x w v1->au y w v2->Calls Tryz.prog 23 #[v1,v2] w (ie (au (x-y)) w):=
 λw v1 v2 h1 h2=>S6 w v1 v2 x y h1 h2 hx hy h
theorem Tn (hx:aZ j x) (hy:aZ k y) (h:j+k<=100000000):∀w v1 v2,au x w v1->au y w v2->Calls Tryz.prog 21 #[v1,v2] w (ie (au (x*y)) w):=
 λw v1 v2 h1 h2=>Sc w v1 v2 x y h1 h2 hx hy h
theorem abj (hx:aZ j x) (hy:aZ k y) (h:j+k<=100000000) (h0:y≠0):∀w v1 v2,au x w v1->au y w v2->Calls Tryz.prog 72 #[v1,v2] w (ie (au (x/y)) w):=
 λw v1 v2 h1 h2=>N6 w v1 v2 x y h1 h2 (λh=>h0 ((pK y).1 (by omega))) hx hy h
theorem XK (x:Rat):∀w v1,au x w v1->Calls Tryz.prog 39 #[v1] w (ie (au (-x)) w):=λw v1 h1=>neg_num w v1 x h1
theorem G8 (x:Rat):∀w v1,au x w v1->Calls Tryz.prog 42 #[v1] w (ie (pB (decide (x=0))) w):=λw v1 h1=>(zero_num w v1 x h1).mono λ_ _=>Ab
theorem UN (x y:Rat):∀w v1 v2,au x w v1->au y w v2->Calls Tryz.prog 19 #[v1,v2] w (ie (pB (decide (x=y))) w):=λw v1 v2 h1 h2=>(Qj w v1 v2 x y h1 h2).mono λ_ _=>Ab
theorem UO (x:Rat):∀w v1,au x w v1->Calls Tryz.prog 81 #[v1] w (ie (pI (dK x)) w):=λw v1 h1=>(lp w v1 x h1).mono λ_ _=>Ab
theorem XJ (n:Int) (h1:-9223372036854775808<=n) (h2:n<=9223372036854775807):∀w v1,pI n w v1->Calls Tryz.prog 15 #[v1] w (ie (au (n:Rat)) w):=λw v1 h=>by
 have h:v1=.int .i64 n:=h
 rw[h]
 exact Kj w n h1 h2
theorem N9 {d:Int} (h1:-9223372036854775808<=n) (h2:n<=9223372036854775807) (h3:-9223372036854775808<=d) (h4:d<=9223372036854775807) (hd:d≠0):∀w v1 v2,pI n w v1->pI d w v2->Calls Tryz.prog 20 #[v1,v2] w (ie (cN (au (pJ n d)) (pI 0)) w):=λw v1 v2 e1 e2=>by
 have e1:v1=.int .i64 n:=e1
 have e2:v2=.int .i64 d:=e2
 rw[e1,e2]
 exact(Kv w n d h1 h2 h3 h4 hd).mono λ_ _=>Jb
theorem N8 (hx:aZ j x) (hy:aZ k y) (h:j+k<=100000000) (h0:y≠0):∀w v1 v2,au x w v1->au y w v2->Calls Tryz.prog 22 #[v1,v2] w (ie (cN (au (x/y)) (pI 0)) w):=
 λw v1 v2 h1 h2=>(UU w v1 v2 x y h1 h2 hx hy h h0).mono λ_ _=>Jb
theorem G5 (x:Rat) {y:Rat} (h0:y=0):∀w v1 v2,au x w v1->au y w v2->Calls Tryz.prog 22 #[v1,v2] w (ie (cN (au 0) (pI 3)) w):=
 λw v1 v2 h1 h2=>(div_zero w v1 v2 x y h1 h2 h0).mono λ_ _=>Jb
theorem XI (hx:aZ j x) (hy:aZ k y) (h:j+k<=100000000):∀w v1 v2,au x w v1->au y w v2->Calls Tryz.prog 22 #[v1,v2] w (ie (cN (au (x/y)) (pI (if y=0 then 3 else 0))) w):=by
 by_cases h0:y=0
 ·rw[if_pos h0,show x/y=0 by rw[h0,Rat.div_def,Rat.inv_zero,Rat.mul_zero]]; exact G5 x h0
 ·rw[if_neg h0]; exact N8 hx hy h h0
end Wx

namespace Wx
end Wx
