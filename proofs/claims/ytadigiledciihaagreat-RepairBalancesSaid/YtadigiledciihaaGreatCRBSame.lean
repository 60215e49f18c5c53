import Derived.Test.YtadigiledciihaaGreatJRB26
namespace Wx
open Go Go.RowKit Go.Proofs
variable {m n:Nat}
theorem C9 (hm:0<m) (hn:0<n) (h:ay m=ay n):m=n:=by
 unfold ay at h
 split at h<;>split at h<;>omega
theorem kB (x y:Rat):x=y↔decide (x.num<0)=decide (y.num<0)/\x.num.natAbs=y.num.natAbs/\ay x.den=ay y.den:=by
 refine⟨λh=>by subst h; exact⟨rfl,rfl,rfl⟩,λ⟨h1,h2,h3⟩=>?_⟩
 have hd:=C9 x.den_pos y.den_pos h3
 refine Rat.ext ?_ hd
 rw[<-tJ x.num,<-tJ y.num,h1,h2]
theorem wv (m:Nat):bf m m=0:=by unfold bf; simp
theorem B6 (h:m≠n):∃z,bf m n=z/\(z==0)=false:=by
 refine⟨_,rfl,?_⟩
 unfold bf
 rcases Nat.lt_or_gt_of_ne h with h1|h1
 ·rw[if_pos h1]; rfl
 ·rw[if_neg (by omega)]; split<;>first|rfl|omega
theorem M6 (w:World) (vx vy:Value) (x y:Rat) (hx:bJ w vx x) (hy:bJ w vy y) (h1:¬decide (x.num<0)=decide (y.num<0)):Calls Tryz.prog 24 #[vx,vy] w (cP w (.bool false)):=by
 obtain⟨tU,tV,rfl,cC,dm⟩:=id hx
 obtain⟨cQ,cS,rfl,_⟩:=id cC
 obtain⟨cR,cT,rfl,_⟩:=id dm
 obtain⟨Hl,Ho,rfl,gB,gw⟩:=id hy
 obtain⟨ez,eC,rfl,_⟩:=id gB
 obtain⟨eB,eD,rfl,_⟩:=id gw
 have hf:(decide (x.num<0)==decide (y.num<0))=false:=beq_eq_false_iff_ne.2 h1
 clear h1
 go_enter Tryz.func24,Tryz.ntmps24
 go_wp2
 go_ret
 exact⟨rfl,(Below.alloc (Below.refl _ _) (Nat.le_refl _) _).alloc (by simp) _⟩
theorem M7 (w:World) (vx vy:Value) (x y:Rat) (hx:bJ w vx x) (hy:bJ w vy y) (h1:decide (x.num<0)=decide (y.num<0)) (h2:¬x.num.natAbs=y.num.natAbs):Calls Tryz.prog 24 #[vx,vy] w (cP w (.bool false)):=by
 obtain⟨tU,tV,rfl,cC,dm⟩:=id hx
 obtain⟨cQ,cS,rfl,_⟩:=id cC
 obtain⟨cR,cT,rfl,_⟩:=id dm
 obtain⟨Hl,Ho,rfl,gB,gw⟩:=id hy
 obtain⟨ez,eC,rfl,_⟩:=id gB
 obtain⟨eB,eD,rfl,_⟩:=id gw
 have hf:(decide (x.num<0)==decide (y.num<0))=true:=beq_iff_eq.2 h1
 obtain⟨z,hz,hz0⟩:=B6 h2
 have HZ:=bx hz
 clear h1 h2 hz
 go_enter Tryz.func24,Tryz.ntmps24
 go_wp2_with fail
 obtain⟨w1,e1,o1,b1,s1⟩:=gj w (.bool (decide (x.num<0))) (.slice cQ (ae b64 x.num.natAbs).length cS) (.slice cR (ae b64 (ay x.den)).length cT) 54
 obtain⟨w2,e2,o2,b2,s2⟩:=gj w1 (.bool (decide (y.num<0))) (.slice ez (ae b64 y.num.natAbs).length eC) (.slice eB (ae b64 (ay y.den)).length eD) 54
 rw[e1,e2]
 rw[s1]at o2
 have p1:=o1.gone b2
 have B:=b1.trans (b2.mono b1.size)
 have k0:=p1.c0
 have k1:=p1.c1
 have k2:=p1.c2
 have k3:=o2.c0
 have k4:=o2.c1
 have k5:=o2.c2
 have hc:=fW w2 _ _ _ _ (cC.below B) (gB.below B)
 rw[HZ.out]at hc
 refine hc.mono ?_
 clear hc
 rintro e w3 ⟨rfl,hb⟩
 have B3:=B.trans (hb.mono B.size)
 have KO:=p1.gone hb
 have KP:=o2.gone hb
 clear k0 k1 k2 k3 k4 k5
 go_wp2
 go_ret
 exact⟨rfl,B3⟩
theorem M8 (w:World) (vx vy:Value) (x y:Rat) (hx:bJ w vx x) (hy:bJ w vy y) (h1:decide (x.num<0)=decide (y.num<0)) (h2:x.num.natAbs=y.num.natAbs) (h3:¬ay x.den=ay y.den):Calls Tryz.prog 24 #[vx,vy] w (cP w (.bool false)):=by
 obtain⟨tU,tV,rfl,cC,dm⟩:=id hx
 obtain⟨cQ,cS,rfl,_⟩:=id cC
 obtain⟨cR,cT,rfl,_⟩:=id dm
 obtain⟨Hl,Ho,rfl,gB,gw⟩:=id hy
 obtain⟨ez,eC,rfl,_⟩:=id gB
 obtain⟨eB,eD,rfl,_⟩:=id gw
 have hf:(decide (x.num<0)==decide (y.num<0))=true:=beq_iff_eq.2 h1
 have H2:=bx (show bf x.num.natAbs y.num.natAbs=0 by rw[h2]; exact wv _)
 obtain⟨z,hz,hz0⟩:=B6 h3
 have HZ:=bx hz
 clear h1 h2 h3 hz
 go_enter Tryz.func24,Tryz.ntmps24
 go_wp2_with fail
 obtain⟨w1,e1,o1,b1,s1⟩:=gj w (.bool (decide (x.num<0))) (.slice cQ (ae b64 x.num.natAbs).length cS) (.slice cR (ae b64 (ay x.den)).length cT) 54
 obtain⟨w2,e2,o2,b2,s2⟩:=gj w1 (.bool (decide (y.num<0))) (.slice ez (ae b64 y.num.natAbs).length eC) (.slice eB (ae b64 (ay y.den)).length eD) 54
 rw[e1,e2]
 rw[s1]at o2
 have p1:=o1.gone b2
 have B:=b1.trans (b2.mono b1.size)
 have k0:=p1.c0
 have k1:=p1.c1
 have k2:=p1.c2
 have k3:=o2.c0
 have k4:=o2.c1
 have k5:=o2.c2
 have hc:=fW w2 _ _ _ _ (cC.below B) (gB.below B)
 rw[H2.out]at hc
 refine hc.mono ?_
 clear hc
 rintro e w3 ⟨rfl,hb⟩
 have B3:=B.trans (hb.mono B.size)
 have KO:=p1.gone hb
 have KP:=o2.gone hb
 clear k0 k1 k2 k3 k4 k5
 have k0:=KO.c0
 have k1:=KO.c1
 have k2:=KO.c2
 have k3:=KP.c0
 have k4:=KP.c1
 have k5:=KP.c2
 go_wp2_with fail
 have hc:=fW w3 _ _ _ _ (dm.below B3) (gw.below B3)
 rw[HZ.out]at hc
 refine hc.mono ?_
 clear hc
 rintro e w4 ⟨rfl,hb4⟩
 go_wp2
 go_ret
 exact⟨rfl,B3.trans (hb4.mono B3.size)⟩
theorem M9 (w:World) (vx vy:Value) (x y:Rat) (hx:bJ w vx x) (hy:bJ w vy y) (h1:decide (x.num<0)=decide (y.num<0)) (h2:x.num.natAbs=y.num.natAbs) (h3:ay x.den=ay y.den):Calls Tryz.prog 24 #[vx,vy] w (cP w (.bool true)):=by
 obtain⟨tU,tV,rfl,cC,dm⟩:=id hx
 obtain⟨cQ,cS,rfl,_⟩:=id cC
 obtain⟨cR,cT,rfl,_⟩:=id dm
 obtain⟨Hl,Ho,rfl,gB,gw⟩:=id hy
 obtain⟨ez,eC,rfl,_⟩:=id gB
 obtain⟨eB,eD,rfl,_⟩:=id gw
 have hf:(decide (x.num<0)==decide (y.num<0))=true:=beq_iff_eq.2 h1
 have H2:=bx (show bf x.num.natAbs y.num.natAbs=0 by rw[h2]; exact wv _)
 have HZ:=bx (show bf (ay x.den) (ay y.den)=0 by rw[h3]; exact wv _)
 clear h1 h2 h3
 go_enter Tryz.func24,Tryz.ntmps24
 go_wp2_with fail
 obtain⟨w1,e1,o1,b1,s1⟩:=gj w (.bool (decide (x.num<0))) (.slice cQ (ae b64 x.num.natAbs).length cS) (.slice cR (ae b64 (ay x.den)).length cT) 54
 obtain⟨w2,e2,o2,b2,s2⟩:=gj w1 (.bool (decide (y.num<0))) (.slice ez (ae b64 y.num.natAbs).length eC) (.slice eB (ae b64 (ay y.den)).length eD) 54
 rw[e1,e2]
 rw[s1]at o2
 have p1:=o1.gone b2
 have B:=b1.trans (b2.mono b1.size)
 have k0:=p1.c0
 have k1:=p1.c1
 have k2:=p1.c2
 have k3:=o2.c0
 have k4:=o2.c1
 have k5:=o2.c2
 have hc:=fW w2 _ _ _ _ (cC.below B) (gB.below B)
 rw[H2.out]at hc
 refine hc.mono ?_
 clear hc
 rintro e w3 ⟨rfl,hb⟩
 have B3:=B.trans (hb.mono B.size)
 have KO:=p1.gone hb
 have KP:=o2.gone hb
 clear k0 k1 k2 k3 k4 k5
 have k0:=KO.c0
 have k1:=KO.c1
 have k2:=KO.c2
 have k3:=KP.c0
 have k4:=KP.c1
 have k5:=KP.c2
 go_wp2_with fail
 have hc:=fW w3 _ _ _ _ (dm.below B3) (gw.below B3)
 rw[HZ.out]at hc
 refine hc.mono ?_
 clear hc
 rintro e w4 ⟨rfl,hb4⟩
 go_wp2
 go_ret
 exact⟨rfl,B3.trans (hb4.mono B3.size)⟩
theorem GV (w:World) (vx vy:Value) (x y:Rat) (hx:bJ w vx x) (hy:bJ w vy y):Calls Tryz.prog 24 #[vx,vy] w (cP w (.bool (decide (x=y)))):=by
 by_cases h1:decide (x.num<0)=decide (y.num<0)
 ·by_cases h2:x.num.natAbs=y.num.natAbs
  ·by_cases h3:ay x.den=ay y.den
   ·rw[decide_eq_true ((kB x y).2 ⟨h1,h2,h3⟩)]
    exact M9 w vx vy x y hx hy h1 h2 h3
   ·rw[decide_eq_false (λh=>h3 ((kB x y).1 h).2.2)]
    exact M8 w vx vy x y hx hy h1 h2 h3
  ·rw[decide_eq_false (λh=>h2 ((kB x y).1 h).2.1)]
   exact M7 w vx vy x y hx hy h1 h2
 ·rw[decide_eq_false (λh=>h1 ((kB x y).1 h).1)]
  exact M6 w vx vy x y hx hy h1
set_option maxHeartbeats 2000000 in
theorem div_zero (w:World) (vx vy:Value) (x y:Rat) (hx:bJ w vx x) (hy:bJ w vy y) (hy0:y=0):Calls Tryz.prog 88 #[vx,vy] w (nK w (0) 3):=by
 obtain⟨tU,tV,rfl,cC,dm⟩:=id hx
 obtain⟨cQ,cS,rfl,_⟩:=id cC
 obtain⟨cR,cT,rfl,_⟩:=id dm
 obtain⟨Hl,Ho,rfl,gB,gw⟩:=id hy
 obtain⟨ez,eC,rfl,_⟩:=id gB
 obtain⟨eB,eD,rfl,_⟩:=id gw
 have HY:=bx hy0
 clear hy0
 go_enter Tryz.func88,Tryz.ntmps88
 go_wp2_with fail
 obtain⟨w1,e1,o1,b1,s1⟩:=gj w (.bool (decide (x.num<0))) (.slice cQ (ae b64 x.num.natAbs).length cS) (.slice cR (ae b64 (ay x.den)).length cT) 54
 obtain⟨w2,e2,o2,b2,s2⟩:=gj w1 (.bool (decide (y.num<0))) (.slice ez (ae b64 y.num.natAbs).length eC) (.slice eB (ae b64 (ay y.den)).length eD) 54
 obtain⟨w3,e3,o3,b3,s3⟩:=gj w2 (.bool false) (.slice none 0 0) (.slice none 0 0) 54
 rw[e1,e2,e3]
 rw[s1]at o2
 rw[s2,s1]at o3
 have p1:=((o1.gone b2).gone b3)
 have p2:=(o2.gone b3)
 have p3:=o3
 have B0:=((b1.trans (b2.mono b1.size)).trans (b3.mono (b1.trans (b2.mono b1.size)).size))
 have hS:∀w',bh w (w.heap.size+2) 54 [(w.heap.size,.bool (decide (x.num<0)),.slice cQ (ae b64 x.num.natAbs).length cS,.slice cR (ae b64 (ay x.den)).length cT),(w.heap.size+1,.bool (decide (y.num<0)),.slice ez (ae b64 y.num.natAbs).length eC,.slice eB (ae b64 (ay y.den)).length eD)] w'->bh w (w.heap.size+2) 54 [(w.heap.size,.bool (decide (x.num<0)),.slice cQ (ae b64 x.num.natAbs).length cS,.slice cR (ae b64 (ay x.den)).length cT),(w.heap.size+1,.bool (decide (y.num<0)),.slice ez (ae b64 y.num.natAbs).length eC,.slice eB (ae b64 (ay y.den)).length eD)] w'/\w'.cell? ⟨w.heap.size,0,none⟩=some (.bool (decide (x.num<0)))/\w'.cell? ⟨w.heap.size,1,none⟩=some (.slice cQ (ae b64 x.num.natAbs).length cS)/\w'.cell? ⟨w.heap.size,2,none⟩=some (.slice cR (ae b64 (ay x.den)).length cT)/\w'.cell? ⟨w.heap.size+1,0,none⟩=some (.bool (decide (y.num<0)))/\w'.cell? ⟨w.heap.size+1,1,none⟩=some (.slice ez (ae b64 y.num.natAbs).length eC)/\w'.cell? ⟨w.heap.size+1,2,none⟩=some (.slice eB (ae b64 (ay y.den)).length eD)/\w'.cell? ⟨w.heap.size+2,0,none⟩=some (cv w' ⟨w.heap.size+2,0,none⟩)/\w'.cell? ⟨w.heap.size+2,1,none⟩=some (cv w' ⟨w.heap.size+2,1,none⟩)/\w'.cell? ⟨w.heap.size+2,2,none⟩=some (cv w' ⟨w.heap.size+2,2,none⟩)/\w'.frozen? ⟨w.heap.size+2,0,none⟩=false/\w'.frozen? ⟨w.heap.size+2,1,none⟩=false/\w'.frozen? ⟨w.heap.size+2,2,none⟩=false:=λw' hh=>by
  obtain⟨f0,f1,f2,f3,f4,f5⟩:=hh.cells
  have q1:=(hh.2.2.1 (w.heap.size,.bool (decide (x.num<0)),.slice cQ (ae b64 x.num.natAbs).length cS,.slice cR (ae b64 (ay x.den)).length cT) (by simp)).2
  have q2:=(hh.2.2.1 (w.heap.size+1,.bool (decide (y.num<0)),.slice ez (ae b64 y.num.natAbs).length eC,.slice eB (ae b64 (ay y.den)).length eD) (by simp)).2
  exact⟨hh,q1.c0,q1.c1,q1.c2,q2.c0,q2.c1,q2.c2,f0,f1,f2,f3,f4,f5⟩
 have H0:bh w (w.heap.size+2) 54 [(w.heap.size,.bool (decide (x.num<0)),.slice cQ (ae b64 x.num.natAbs).length cS,.slice cR (ae b64 (ay x.den)).length cT),(w.heap.size+1,.bool (decide (y.num<0)),.slice ez (ae b64 y.num.natAbs).length eC,.slice eB (ae b64 (ay y.den)).length eD)] w3:=⟨B0,by omega,by intro p hp; simp at hp; rcases hp with rfl|rfl; exact⟨by simp,p1⟩; exact⟨by simp,p2⟩,_,_,_,p3,da _,aU _ _ _,aU _ _ _⟩
 clear e1 e2 e3
 have hz:=H0
 obtain⟨_,k0,k1,k2,k3,k4,k5,_⟩:=hS _ hz
 have hc:=zero_num _ _ y (hy.below hz.1)
 rw[decide_eq_true HY.out]at hc
 refine hc.mono ?_
 clear hc
 rintro e wz ⟨rfl,hb⟩
 have hz:=bh.call (And.intro hz trivial) hb
 clear k0 k1 k2 k3 k4 k5
 obtain⟨_,k0,k1,k2,k3,k4,k5,k6,k7,k8,k9,Wz,WA⟩:=hS _ hz
 go_wp2
 obtain⟨wf,HW,f0,f1,f2,dM⟩:=hz.fin (q:=0) (A1:=none) (l1:=0) (c1:=0) (A2:=none) (l2:=0) (c2:=0) (show _=false from rfl) (aZ.zero _ _ _) (aZ.zero _ _ _)
 rw[HW]
 (try simp only[Exit.inBlock,Exit.then])
 refine bodyPost_ret (by simp[results,Tryz.results88,go_sem,f0,f1,f2]; try rfl) rfl ?_
 exact nK.of dM 3
set_option maxHeartbeats 2000000 in
theorem LG (w:World) (vx vy:Value) (x y:Rat) (hx:bJ w vx x) (hy:bJ w vy y) {j k:Nat} (hj:cN j x) (hk:cN k y) (AB:j+k<=100000000) (hy0:y≠0):Calls Tryz.prog 88 #[vx,vy] w (nK w (x/y) 0):=by
 obtain⟨tU,tV,rfl,cC,dm⟩:=id hx
 obtain⟨cQ,cS,rfl,_⟩:=id cC
 obtain⟨cR,cT,rfl,_⟩:=id dm
 obtain⟨Hl,Ho,rfl,gB,gw⟩:=id hy
 obtain⟨ez,eC,rfl,_⟩:=id gB
 obtain⟨eB,eD,rfl,_⟩:=id gw
 have HY:=bx hy0
 clear hy0
 go_enter Tryz.func88,Tryz.ntmps88
 go_wp2_with fail
 obtain⟨w1,e1,o1,b1,s1⟩:=gj w (.bool (decide (x.num<0))) (.slice cQ (ae b64 x.num.natAbs).length cS) (.slice cR (ae b64 (ay x.den)).length cT) 54
 obtain⟨w2,e2,o2,b2,s2⟩:=gj w1 (.bool (decide (y.num<0))) (.slice ez (ae b64 y.num.natAbs).length eC) (.slice eB (ae b64 (ay y.den)).length eD) 54
 obtain⟨w3,e3,o3,b3,s3⟩:=gj w2 (.bool false) (.slice none 0 0) (.slice none 0 0) 54
 rw[e1,e2,e3]
 rw[s1]at o2
 rw[s2,s1]at o3
 have p1:=((o1.gone b2).gone b3)
 have p2:=(o2.gone b3)
 have p3:=o3
 have B0:=((b1.trans (b2.mono b1.size)).trans (b3.mono (b1.trans (b2.mono b1.size)).size))
 have hS:∀w',bh w (w.heap.size+2) 54 [(w.heap.size,.bool (decide (x.num<0)),.slice cQ (ae b64 x.num.natAbs).length cS,.slice cR (ae b64 (ay x.den)).length cT),(w.heap.size+1,.bool (decide (y.num<0)),.slice ez (ae b64 y.num.natAbs).length eC,.slice eB (ae b64 (ay y.den)).length eD)] w'->bh w (w.heap.size+2) 54 [(w.heap.size,.bool (decide (x.num<0)),.slice cQ (ae b64 x.num.natAbs).length cS,.slice cR (ae b64 (ay x.den)).length cT),(w.heap.size+1,.bool (decide (y.num<0)),.slice ez (ae b64 y.num.natAbs).length eC,.slice eB (ae b64 (ay y.den)).length eD)] w'/\w'.cell? ⟨w.heap.size,0,none⟩=some (.bool (decide (x.num<0)))/\w'.cell? ⟨w.heap.size,1,none⟩=some (.slice cQ (ae b64 x.num.natAbs).length cS)/\w'.cell? ⟨w.heap.size,2,none⟩=some (.slice cR (ae b64 (ay x.den)).length cT)/\w'.cell? ⟨w.heap.size+1,0,none⟩=some (.bool (decide (y.num<0)))/\w'.cell? ⟨w.heap.size+1,1,none⟩=some (.slice ez (ae b64 y.num.natAbs).length eC)/\w'.cell? ⟨w.heap.size+1,2,none⟩=some (.slice eB (ae b64 (ay y.den)).length eD)/\w'.cell? ⟨w.heap.size+2,0,none⟩=some (cv w' ⟨w.heap.size+2,0,none⟩)/\w'.cell? ⟨w.heap.size+2,1,none⟩=some (cv w' ⟨w.heap.size+2,1,none⟩)/\w'.cell? ⟨w.heap.size+2,2,none⟩=some (cv w' ⟨w.heap.size+2,2,none⟩)/\w'.frozen? ⟨w.heap.size+2,0,none⟩=false/\w'.frozen? ⟨w.heap.size+2,1,none⟩=false/\w'.frozen? ⟨w.heap.size+2,2,none⟩=false:=λw' hh=>by
  obtain⟨f0,f1,f2,f3,f4,f5⟩:=hh.cells
  have q1:=(hh.2.2.1 (w.heap.size,.bool (decide (x.num<0)),.slice cQ (ae b64 x.num.natAbs).length cS,.slice cR (ae b64 (ay x.den)).length cT) (by simp)).2
  have q2:=(hh.2.2.1 (w.heap.size+1,.bool (decide (y.num<0)),.slice ez (ae b64 y.num.natAbs).length eC,.slice eB (ae b64 (ay y.den)).length eD) (by simp)).2
  exact⟨hh,q1.c0,q1.c1,q1.c2,q2.c0,q2.c1,q2.c2,f0,f1,f2,f3,f4,f5⟩
 have H0:bh w (w.heap.size+2) 54 [(w.heap.size,.bool (decide (x.num<0)),.slice cQ (ae b64 x.num.natAbs).length cS,.slice cR (ae b64 (ay x.den)).length cT),(w.heap.size+1,.bool (decide (y.num<0)),.slice ez (ae b64 y.num.natAbs).length eC,.slice eB (ae b64 (ay y.den)).length eD)] w3:=⟨B0,by omega,by intro p hp; simp at hp; rcases hp with rfl|rfl; exact⟨by simp,p1⟩; exact⟨by simp,p2⟩,_,_,_,p3,da _,aU _ _ _,aU _ _ _⟩
 clear e1 e2 e3
 have hz:=H0
 obtain⟨_,k0,k1,k2,k3,k4,k5,_⟩:=hS _ hz
 have hc:=zero_num _ _ y (hy.below hz.1)
 rw[decide_eq_false HY.out]at hc
 refine hc.mono ?_
 clear hc
 rintro e wz ⟨rfl,hb⟩
 have hz:=bh.call (And.intro hz trivial) hb
 clear k0 k1 k2 k3 k4 k5
 obtain⟨_,k0,k1,k2,k3,k4,k5,_⟩:=hS _ hz
 go_wp2_with fail
 refine(Lo _ _ _ x y (hx.below hz.1) (hy.below hz.1) (mt Rat.num_eq_zero.1 HY.out) hj hk AB).mono ?_
 rintro e wy ⟨vr,rfl,Cn,hb⟩
 obtain⟨PJ,PI,rfl,yI,hrd⟩:=Cn
 obtain⟨rA,rU,rfl,_⟩:=id yI
 obtain⟨rB,rV,rfl,_⟩:=id hrd
 have hz:=bh.call (And.intro hz trivial) hb
 clear k0 k1 k2 k3 k4 k5
 obtain⟨_,k0,k1,k2,k3,k4,k5,k6,k7,k8,k9,Wz,WA⟩:=hS _ hz
 go_wp2
 obtain⟨wf,HW,f0,f1,f2,dM⟩:=hz.fin rfl yI hrd
 rw[HW]
 (try simp only[Exit.inBlock,Exit.then])
 refine bodyPost_ret (by simp[results,Tryz.results88,go_sem,f0,f1,f2]; try rfl) rfl ?_
 exact nK.of dM 0
end Wx
