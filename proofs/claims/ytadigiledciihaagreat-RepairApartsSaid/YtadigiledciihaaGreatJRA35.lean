import Derived.Test.YtadigiledciihaaGreatJRA34
namespace Wx
open Go Go.RowKit Go.Proofs
end Wx

namespace Wx
set_option maxRecDepth 100000
set_option maxHeartbeats 1000000
open Go Go.RowKit Go.Proofs
theorem Ev (w:World) (vx:Value) (x:Rat) (hx:cZ w vx x):Calls Tryz.prog 50 #[vx] w (eK w (.int .i64 (dD x))):=by
 obtain⟨xK,xL,rfl,eF,dZ⟩:=id hx
 obtain⟨bO,bQ,rfl,_⟩:=id eF
 obtain⟨bP,bR,rfl,_⟩:=id dZ
 have hS:dD x=if x=0 then 0 else if x.num<0 then -1 else 1:=by
  unfold dD
  by_cases h:x=0
  ·subst h; rfl
  ·rw[if_neg h,if_neg h]
 have hx0:=hx
 clear hx
 generalize dD x=z at *
 by_cases h2:x=0
 ·rw[if_pos h2]at hS
  subst hS
  have HD:=bx (decide_eq_true h2)
  clear h2
  go_enter Tryz.func50,Tryz.ntmps50
  go_wp2_with fail
  obtain⟨w1,e1,oP,b1,s1⟩:=gL w [.bool (decide (x.num<0)),.slice bO (ae ah x.num.natAbs).length bQ,.slice bP (ae ah x.den).length bR] 61
  rw[e1]
  clear e1
  replace hx0:=hx0.below b1
  have B:=b1
  clear b1
  have hc:=gv _ _ x hx0
  rw[HD.out]at hc
  refine Calls.mono (hc) ?_
  rintro e w2 ⟨rfl,b2⟩
  replace hx0:=hx0.below b2
  replace oP:=oP.gone b2
  replace B:=B.trans (b2.mono B.size)
  clear b2
  clear hc
  have k1:=oP.cell (i:=0) rfl
  have k2:=oP.cell (i:=1) rfl
  have k3:=oP.cell (i:=2) rfl
  go_wp2
  go_ret
  exact⟨rfl,B⟩
 ·rw[if_neg h2]at hS
  have HD:=bx (decide_eq_false h2)
  clear h2
  by_cases h1:x.num<0
  ·rw[if_pos h1]at hS
   subst hS
   rw[decide_eq_true h1]at *
   go_enter Tryz.func50,Tryz.ntmps50
   go_wp2_with fail
   obtain⟨w1,e1,oP,b1,s1⟩:=gL w [.bool true,.slice bO (ae ah x.num.natAbs).length bQ,.slice bP (ae ah x.den).length bR] 61
   rw[e1]
   clear e1
   replace hx0:=hx0.below b1
   have B:=b1
   clear b1
   have hc:=gv _ _ x hx0
   rw[HD.out]at hc
   refine Calls.mono (hc) ?_
   rintro e w2 ⟨rfl,b2⟩
   replace hx0:=hx0.below b2
   replace oP:=oP.gone b2
   replace B:=B.trans (b2.mono B.size)
   clear b2
   clear hc
   have k1:=oP.cell (i:=0) rfl
   have k2:=oP.cell (i:=1) rfl
   have k3:=oP.cell (i:=2) rfl
   go_wp2
   go_ret
   exact⟨rfl,B⟩
  ·rw[if_neg h1]at hS
   subst hS
   rw[decide_eq_false h1]at *
   go_enter Tryz.func50,Tryz.ntmps50
   go_wp2_with fail
   obtain⟨w1,e1,oP,b1,s1⟩:=gL w [.bool false,.slice bO (ae ah x.num.natAbs).length bQ,.slice bP (ae ah x.den).length bR] 61
   rw[e1]
   clear e1
   replace hx0:=hx0.below b1
   have B:=b1
   clear b1
   have hc:=gv _ _ x hx0
   rw[HD.out]at hc
   refine Calls.mono (hc) ?_
   rintro e w2 ⟨rfl,b2⟩
   replace hx0:=hx0.below b2
   replace oP:=oP.gone b2
   replace B:=B.trans (b2.mono B.size)
   clear b2
   clear hc
   have k1:=oP.cell (i:=0) rfl
   have k2:=oP.cell (i:=1) rfl
   have k3:=oP.cell (i:=2) rfl
   go_wp2
   go_ret
   exact⟨rfl,B⟩
end Wx

namespace Wx
open Go Go.RowKit Go.Proofs
end Wx

namespace Wx
set_option maxRecDepth 100000
open Go Go.RowKit Go.Proofs
set_option maxHeartbeats 8000000 in
theorem GY (w:World) (vx vy:Value) (x y:Rat) (hx:cZ w vx x) (hy:cZ w vy y) {j k:Nat} (hj:dx j x) (hk:dx k y) (sJ:j+k<=10000000):Calls Tryz.prog 39 #[vx,vy] w (iI w (x*y)):=by
 obtain⟨xK,xL,rfl,eF,dZ⟩:=id hx
 obtain⟨bO,bQ,rfl,_⟩:=id eF
 obtain⟨bP,bR,rfl,_⟩:=id dZ
 obtain⟨IB,IC,rfl,ia,gK⟩:=id hy
 obtain⟨da,de,rfl,_⟩:=id ia
 obtain⟨dc,dg,rfl,_⟩:=id gK
 have Fq:=x.den_pos
 have IM:=y.den_pos
 have HB:=bx (And.intro hj hk)
 have dz:j<=1000000000:=by omega
 have lE:k<=1000000000:=by omega
 have hx0:=hx
 have hy0:=hy
 clear hj hk hx hy
 go_enter Tryz.func39,Tryz.ntmps39
 go_wp2_with fail
 obtain⟨w1,e1,o1,b1,s1⟩:=gL w [.bool (decide (x.num<0)),.slice bO (ae ah x.num.natAbs).length bQ,.slice bP (ae ah x.den).length bR] 61
 obtain⟨w2,e2,o2,b2,s2⟩:=gL w1 [.bool (decide (y.num<0)),.slice da (ae ah y.num.natAbs).length de,.slice dc (ae ah y.den).length dg] 61
 obtain⟨w3,e3,o3,b3,s3⟩:=gL w2 [.bool false,.slice none 0 0,.slice none 0 0] 61
 rw[e1,e2,e3]
 rw[s1]at o2
 rw[s2,s1]at o3
 have p1:=((o1.gone b2).gone b3)
 have p2:=(o2.gone b3)
 have p3:=o3
 have B0:=((b1.trans (b2.mono b1.size)).trans (b3.mono (b1.trans (b2.mono b1.size)).size))
 have hS:∀w',aX w (w.heap.size+2) 3 61 [(w.heap.size,[.bool (decide (x.num<0)),.slice bO (ae ah x.num.natAbs).length bQ,.slice bP (ae ah x.den).length bR],61),(w.heap.size+1,[.bool (decide (y.num<0)),.slice da (ae ah y.num.natAbs).length de,.slice dc (ae ah y.den).length dg],61)] w'->aX w (w.heap.size+2) 3 61 [(w.heap.size,[.bool (decide (x.num<0)),.slice bO (ae ah x.num.natAbs).length bQ,.slice bP (ae ah x.den).length bR],61),(w.heap.size+1,[.bool (decide (y.num<0)),.slice da (ae ah y.num.natAbs).length de,.slice dc (ae ah y.den).length dg],61)] w'/\w'.cell? ⟨w.heap.size,0,none⟩=some (.bool (decide (x.num<0)))/\w'.cell? ⟨w.heap.size,1,none⟩=some (.slice bO (ae ah x.num.natAbs).length bQ)/\w'.cell? ⟨w.heap.size,2,none⟩=some (.slice bP (ae ah x.den).length bR)/\w'.cell? ⟨w.heap.size+1,0,none⟩=some (.bool (decide (y.num<0)))/\w'.cell? ⟨w.heap.size+1,1,none⟩=some (.slice da (ae ah y.num.natAbs).length de)/\w'.cell? ⟨w.heap.size+1,2,none⟩=some (.slice dc (ae ah y.den).length dg)/\w'.cell? ⟨w.heap.size+2,0,none⟩=some (cv w' ⟨w.heap.size+2,0,none⟩)/\w'.cell? ⟨w.heap.size+2,1,none⟩=some (cv w' ⟨w.heap.size+2,1,none⟩)/\w'.cell? ⟨w.heap.size+2,2,none⟩=some (cv w' ⟨w.heap.size+2,2,none⟩)/\w'.frozen? ⟨w.heap.size+2,0,none⟩=false/\w'.frozen? ⟨w.heap.size+2,1,none⟩=false/\w'.frozen? ⟨w.heap.size+2,2,none⟩=false:=λw' hh=>by
  have r1:=hh.par (p:=(w.heap.size,[.bool (decide (x.num<0)),.slice bO (ae ah x.num.natAbs).length bQ,.slice bP (ae ah x.den).length bR],61)) (by simp)
  have r2:=hh.par (p:=(w.heap.size+1,[.bool (decide (y.num<0)),.slice da (ae ah y.num.natAbs).length de,.slice dc (ae ah y.den).length dg],61)) (by simp)
  exact⟨hh,r1.cell (i:=0) rfl,r1.cell (i:=1) rfl,r1.cell (i:=2) rfl,r2.cell (i:=0) rfl,r2.cell (i:=1) rfl,r2.cell (i:=2) rfl,hh.iJ (i:=0) (by omega),hh.iJ (i:=1) (by omega),hh.iJ (i:=2) (by omega),hh.AZ 0,hh.AZ 1,hh.AZ 2⟩
 have hz:aX w (w.heap.size+2) 3 61 [(w.heap.size,[.bool (decide (x.num<0)),.slice bO (ae ah x.num.natAbs).length bQ,.slice bP (ae ah x.den).length bR],61),(w.heap.size+1,[.bool (decide (y.num<0)),.slice da (ae ah y.num.natAbs).length de,.slice dc (ae ah y.den).length dg],61)] w3:=⟨B0,by omega,by intro q hq; simp at hq; rcases hq with rfl|rfl; exact⟨by simp,p1⟩; exact⟨by simp,p2⟩,_,rfl,p3,dH⟩
 clear e1 e2 e3 o1 b1 s1 p1 o2 b2 s2 p2 o3 b3 s3 p3
 clear B0
 have hz:=hz.drew
 go_region_held3 (λw'=>aX w (w.heap.size+2) 3 61 [(w.heap.size,[.bool (decide (x.num<0)),.slice bO (ae ah x.num.natAbs).length bQ,.slice bP (ae ah x.den).length bR],61),(w.heap.size+1,[.bool (decide (y.num<0)),.slice da (ae ah y.num.natAbs).length de,.slice dc (ae ah y.den).length dg],61)] w'/\w'.cell? ⟨w.heap.size,0,none⟩=some (.bool (decide (x.num<0)))/\w'.cell? ⟨w.heap.size,1,none⟩=some (.slice bO (ae ah x.num.natAbs).length bQ)/\w'.cell? ⟨w.heap.size,2,none⟩=some (.slice bP (ae ah x.den).length bR)/\w'.cell? ⟨w.heap.size+1,0,none⟩=some (.bool (decide (y.num<0)))/\w'.cell? ⟨w.heap.size+1,1,none⟩=some (.slice da (ae ah y.num.natAbs).length de)/\w'.cell? ⟨w.heap.size+1,2,none⟩=some (.slice dc (ae ah y.den).length dg)/\w'.cell? ⟨w.heap.size+2,0,none⟩=some (cv w' ⟨w.heap.size+2,0,none⟩)/\w'.cell? ⟨w.heap.size+2,1,none⟩=some (cv w' ⟨w.heap.size+2,1,none⟩)/\w'.cell? ⟨w.heap.size+2,2,none⟩=some (cv w' ⟨w.heap.size+2,2,none⟩)/\w'.frozen? ⟨w.heap.size+2,0,none⟩=false/\w'.frozen? ⟨w.heap.size+2,1,none⟩=false/\w'.frozen? ⟨w.heap.size+2,2,none⟩=false)
  (first|exact hS _ hz|exact hS _ (aX.Di hz))
  (first
   |(go_at_call 79; have hc:=gR _ _ _ _ _ (eF.below hz.1) (ia.below hz.1) HB.out.1.1 HB.out.2.1 (by omega) (by omega); (with_reducible refine Calls.mono hc ?_); clear hc; rintro e wz ⟨QV,rfl,eC,hb⟩; (try have eD:=eD.below hb); (try have eE:=eE.below hb); (try have eC:=eC.below hb); (try have ez:=ez.below hb); (try have oC:=oC.below hb); (try have hs1:=hs1.below hb); have hz:=aX.call (And.intro hz trivial) hb)
   |(go_at_call 80; have hc:=iS _ _ x (hx0.below hz.1); (with_reducible refine Calls.mono hc ?_); clear hc; rintro e wz ⟨QX,rfl,eD,hb⟩; (try have eD:=eD.below hb); (try have eE:=eE.below hb); (try have eC:=eC.below hb); (try have ez:=ez.below hb); (try have oC:=oC.below hb); (try have hs1:=hs1.below hb); have hz:=aX.call (And.intro hz trivial) hb)
   |(go_at_call 80; have hc:=iS _ _ y (hy0.below hz.1); (with_reducible refine Calls.mono hc ?_); clear hc; rintro e wz ⟨QY,rfl,eE,hb⟩; (try have eD:=eD.below hb); (try have eE:=eE.below hb); (try have eC:=eC.below hb); (try have ez:=ez.below hb); (try have oC:=oC.below hb); (try have hs1:=hs1.below hb); have hz:=aX.call (And.intro hz trivial) hb)
   |(go_at_call 79; have hc:=gR _ _ _ _ _ eD eE HB.out.1.2 HB.out.2.2 (by omega) (by omega); (with_reducible refine Calls.mono hc ?_); clear hc; rintro e wz ⟨QW,rfl,ez,hb⟩; (try have eD:=eD.below hb); (try have eE:=eE.below hb); (try have eC:=eC.below hb); (try have ez:=ez.below hb); (try have oC:=oC.below hb); (try have hs1:=hs1.below hb); have hz:=aX.call (And.intro hz trivial) hb)
   |(go_at_call 67; have hc:=oL _ (!(decide (x.num<0)==decide (y.num<0))) _ _ (x.num.natAbs*y.num.natAbs) (x.den*y.den) eC ez (Nat.mul_pos Fq IM) (HB.out.1.1.mul HB.out.2.1) (HB.out.1.2.mul HB.out.2.2) sJ; (with_reducible refine Calls.mono hc ?_); clear hc; rintro e wz ⟨vr,rfl,hr,hb⟩; (try have eD:=eD.below hb); (try have eE:=eE.below hb); (try have eC:=eC.below hb); (try have ez:=ez.below hb); (try have oC:=oC.below hb); (try have hs1:=hs1.below hb); have hz:=aX.call (And.intro hz trivial) hb; replace hr:=zi hr (xd x y); obtain⟨QT,QU,rfl,JD,hrb⟩:=id hr; obtain⟨Fg,Fk,rfl,_⟩:=id JD; obtain⟨Fh,Fl,rfl,_⟩:=id hrb))
 all_goals (
  go_wp2
  obtain⟨wf,HW,ho,hB,hN⟩:=hz.fin [.bool (decide ((x*y).num<0)),.slice Fg (ae ah (x*y).num.natAbs).length Fk,.slice Fh (ae ah (x*y).den).length Fl] rfl dH
  simp only[dh,Nat.reduceAdd]at HW
  (try rw[HW])
  (try simp only[Exit.inBlock,Exit.then])
  have f0:=ho.cell (i:=0) rfl
  have f1:=ho.cell (i:=1) rfl
  have f2:=ho.cell (i:=2) rfl
  refine bodyPost_ret (by simp[results,Tryz.results39,go_sem,f0,f1,f2]; try rfl) rfl ?_
  exact⟨_,rfl,hr.into hN,hB⟩)
end Wx

namespace Wx
set_option maxRecDepth 100000
set_option maxHeartbeats 1000000
open Go Go.RowKit Go.Proofs
theorem Et (w:World) (vx vy:Value) (x y:Rat) (hx:cZ w vx x) (hy:cZ w vy y) (h0:y=0):Calls Tryz.prog 92 #[vx,vy] w (FA w 0 3):=by
 obtain⟨xK,xL,rfl,eF,dZ⟩:=id hx
 obtain⟨bO,bQ,rfl,_⟩:=id eF
 obtain⟨bP,bR,rfl,_⟩:=id dZ
 obtain⟨IB,IC,rfl,ia,gK⟩:=id hy
 obtain⟨da,de,rfl,_⟩:=id ia
 obtain⟨dc,dg,rfl,_⟩:=id gK
 have hi:∀w,Calls Tryz.prog 34 #[.int .i64 0] w (iI w 0):=λw=>zB w 0 (by omega) (by omega)
 have HI:=bx hi
 have HD:=bx (decide_eq_true h0)
 have hy0:=hy
 clear hi h0 hx hy eF dZ ia gK
 generalize hq:(0:Rat)=q at HI
 have HQ:=bx hq
 clear hq
 go_enter Tryz.func92,Tryz.ntmps92
 go_wp2_with fail
 obtain⟨w1,e1,oX,b1,s1⟩:=gL w [.bool (decide (x.num<0)),.slice bO (ae ah x.num.natAbs).length bQ,.slice bP (ae ah x.den).length bR] 61
 rw[e1]
 clear e1
 replace hy0:=hy0.below b1
 have B:=b1
 clear b1
 obtain⟨w2,e2,oY,b2,s2⟩:=gL w1 [.bool (decide (y.num<0)),.slice da (ae ah y.num.natAbs).length de,.slice dc (ae ah y.den).length dg] 61
 rw[e2]
 rw[s1]at oY
 clear e2
 replace hy0:=hy0.below b2
 replace oX:=oX.gone b2
 replace B:=B.trans (b2.mono B.size)
 clear b2
 obtain⟨w3,e3,oR,b3,s3⟩:=gL w2 [.bool false,.slice none 0 0,.slice none 0 0] 61
 rw[e3]
 rw[s2,s1]at oR
 clear e3
 replace hy0:=hy0.below b3
 replace oX:=oX.gone b3
 replace oY:=oY.gone b3
 replace B:=B.trans (b3.mono B.size)
 clear b3
 have hc:=gv _ _ y hy0
 rw[HD.out]at hc
 refine Calls.mono (hc) ?_
 rintro e w4 ⟨rfl,b4⟩
 replace hy0:=hy0.below b4
 replace oX:=oX.gone b4
 replace oY:=oY.gone b4
 replace oR:=oR.gone b4
 replace B:=B.trans (b4.mono B.size)
 clear b4
 clear hc
 go_wp2_with fail
 refine Calls.mono (HI.out _) ?_
 rintro e w5 ⟨vr,rfl,hr,b5⟩
 replace hy0:=hy0.below b5
 replace oX:=oX.gone b5
 replace oY:=oY.gone b5
 replace oR:=oR.gone b5
 replace B:=B.trans (b5.mono B.size)
 clear b5
 obtain⟨QT,QU,rfl,JD,hrb⟩:=id hr
 obtain⟨Fg,Fk,rfl,_⟩:=id JD
 obtain⟨Fh,Fl,rfl,_⟩:=id hrb
 have k1:=oR.cell (i:=0) rfl
 have k2:=oR.fz 0
 have k3:=oR.cell (i:=1) rfl
 have k4:=oR.fz 1
 have k5:=oR.cell (i:=2) rfl
 have k6:=oR.fz 2
 go_wp2
 obtain⟨wf,HW,ho,_,hN,Jq,_⟩:=oR.put jY [.bool (decide (q.num<0)),.slice Fg (ae ah q.num.natAbs).length Fk,.slice Fh (ae ah q.den).length Fl] rfl dH
 simp only[dh,Nat.reduceAdd]at HW
 (try rw[HW])
 (try simp only[Exit.inBlock,Exit.then])
 have f0:=ho.cell (i:=0) rfl
 have f1:=ho.cell (i:=1) rfl
 have f2:=ho.cell (i:=2) rfl
 refine bodyPost_ret (by simp[results,Tryz.results92,go_sem,f0,f1,f2]; try rfl) rfl ?_
 have HB:=Jq _ (by omega) B
 exact⟨_,rfl,hr.into hN,HB⟩
set_option maxHeartbeats 8000000 in
theorem GV (w:World) (vx vy:Value) (x y:Rat) (hx:cZ w vx x) (hy:cZ w vy y) (oF:y.num≠0) {j k:Nat} (hj:dx j x) (hk:dx k y) (sJ:j+k<=10000000):Calls Tryz.prog 92 #[vx,vy] w (FA w (x/y) 0):=by
 have HY:=bx oF
 have HD:=bx (decide_eq_false (mt (Rat.num_eq_zero (q:=y)).2 oF))
 clear oF
 obtain⟨xK,xL,rfl,eF,dZ⟩:=id hx
 obtain⟨bO,bQ,rfl,_⟩:=id eF
 obtain⟨bP,bR,rfl,_⟩:=id dZ
 obtain⟨IB,IC,rfl,ia,gK⟩:=id hy
 obtain⟨da,de,rfl,_⟩:=id ia
 obtain⟨dc,dg,rfl,_⟩:=id gK
 have Fq:=x.den_pos
 have IM:=y.den_pos
 have HB:=bx (And.intro hj hk)
 have dz:j<=1000000000:=by omega
 have lE:k<=1000000000:=by omega
 have hx0:=hx
 have hy0:=hy
 clear hj hk hx hy
 go_enter Tryz.func92,Tryz.ntmps92
 go_wp2_with fail
 obtain⟨w1,e1,oX,b1,s1⟩:=gL w [.bool (decide (x.num<0)),.slice bO (ae ah x.num.natAbs).length bQ,.slice bP (ae ah x.den).length bR] 61
 rw[e1]
 clear e1
 replace hy0:=hy0.below b1
 replace hx0:=hx0.below b1
 replace eF:=eF.below b1
 replace dZ:=dZ.below b1
 replace ia:=ia.below b1
 replace gK:=gK.below b1
 have B:=b1
 clear b1
 obtain⟨w2,e2,oY,b2,s2⟩:=gL w1 [.bool (decide (y.num<0)),.slice da (ae ah y.num.natAbs).length de,.slice dc (ae ah y.den).length dg] 61
 rw[e2]
 rw[s1]at oY
 clear e2
 replace hy0:=hy0.below b2
 replace hx0:=hx0.below b2
 replace eF:=eF.below b2
 replace dZ:=dZ.below b2
 replace ia:=ia.below b2
 replace gK:=gK.below b2
 replace oX:=oX.gone b2
 replace B:=B.trans (b2.mono B.size)
 clear b2
 obtain⟨w3,e3,oR,b3,s3⟩:=gL w2 [.bool false,.slice none 0 0,.slice none 0 0] 61
 rw[e3]
 rw[s2,s1]at oR
 clear e3
 replace hy0:=hy0.below b3
 replace hx0:=hx0.below b3
 replace eF:=eF.below b3
 replace dZ:=dZ.below b3
 replace ia:=ia.below b3
 replace gK:=gK.below b3
 replace oX:=oX.gone b3
 replace oY:=oY.gone b3
 replace B:=B.trans (b3.mono B.size)
 clear b3
 have hc:=gv _ _ y hy0
 rw[HD.out]at hc
 refine Calls.mono (hc) ?_
 rintro e w4 ⟨rfl,b4⟩
 replace hy0:=hy0.below b4
 replace hx0:=hx0.below b4
 replace eF:=eF.below b4
 replace dZ:=dZ.below b4
 replace ia:=ia.below b4
 replace gK:=gK.below b4
 replace oX:=oX.gone b4
 replace oY:=oY.gone b4
 replace oR:=oR.gone b4
 replace B:=B.trans (b4.mono B.size)
 clear b4
 clear hc
 go_wp2_with fail
 have hS:∀w',aX w (w.heap.size+1+1) 3 61 [(w.heap.size,[.bool (decide (x.num<0)),.slice bO (ae ah x.num.natAbs).length bQ,.slice bP (ae ah x.den).length bR],61),(w.heap.size+1,[.bool (decide (y.num<0)),.slice da (ae ah y.num.natAbs).length de,.slice dc (ae ah y.den).length dg],61)] w'->aX w (w.heap.size+1+1) 3 61 [(w.heap.size,[.bool (decide (x.num<0)),.slice bO (ae ah x.num.natAbs).length bQ,.slice bP (ae ah x.den).length bR],61),(w.heap.size+1,[.bool (decide (y.num<0)),.slice da (ae ah y.num.natAbs).length de,.slice dc (ae ah y.den).length dg],61)] w'/\w'.cell? ⟨w.heap.size,0,none⟩=some (.bool (decide (x.num<0)))/\w'.cell? ⟨w.heap.size,1,none⟩=some (.slice bO (ae ah x.num.natAbs).length bQ)/\w'.cell? ⟨w.heap.size,2,none⟩=some (.slice bP (ae ah x.den).length bR)/\w'.cell? ⟨w.heap.size+1,0,none⟩=some (.bool (decide (y.num<0)))/\w'.cell? ⟨w.heap.size+1,1,none⟩=some (.slice da (ae ah y.num.natAbs).length de)/\w'.cell? ⟨w.heap.size+1,2,none⟩=some (.slice dc (ae ah y.den).length dg)/\w'.cell? ⟨w.heap.size+1+1,0,none⟩=some (cv w' ⟨w.heap.size+1+1,0,none⟩)/\w'.cell? ⟨w.heap.size+1+1,1,none⟩=some (cv w' ⟨w.heap.size+1+1,1,none⟩)/\w'.cell? ⟨w.heap.size+1+1,2,none⟩=some (cv w' ⟨w.heap.size+1+1,2,none⟩)/\w'.frozen? ⟨w.heap.size+1+1,0,none⟩=false/\w'.frozen? ⟨w.heap.size+1+1,1,none⟩=false/\w'.frozen? ⟨w.heap.size+1+1,2,none⟩=false:=λw' hh=>by
  have r1:=hh.par (p:=(w.heap.size,[.bool (decide (x.num<0)),.slice bO (ae ah x.num.natAbs).length bQ,.slice bP (ae ah x.den).length bR],61)) (by simp)
  have r2:=hh.par (p:=(w.heap.size+1,[.bool (decide (y.num<0)),.slice da (ae ah y.num.natAbs).length de,.slice dc (ae ah y.den).length dg],61)) (by simp)
  exact⟨hh,r1.cell (i:=0) rfl,r1.cell (i:=1) rfl,r1.cell (i:=2) rfl,r2.cell (i:=0) rfl,r2.cell (i:=1) rfl,r2.cell (i:=2) rfl,hh.iJ (i:=0) (by omega),hh.iJ (i:=1) (by omega),hh.iJ (i:=2) (by omega),hh.AZ 0,hh.AZ 1,hh.AZ 2⟩
 have hz:aX w (w.heap.size+1+1) 3 61 [(w.heap.size,[.bool (decide (x.num<0)),.slice bO (ae ah x.num.natAbs).length bQ,.slice bP (ae ah x.den).length bR],61),(w.heap.size+1,[.bool (decide (y.num<0)),.slice da (ae ah y.num.natAbs).length de,.slice dc (ae ah y.den).length dg],61)] w4:=⟨B,by omega,by intro q hq; simp at hq; rcases hq with rfl|rfl; exact⟨(by show w.heap.size≠w.heap.size+1+1; omega),oX⟩; exact⟨(by show w.heap.size+1≠w.heap.size+1+1; omega),oY⟩,_,rfl,oR,dH⟩
 clear oX oY oR B s1 s2 s3
 have hx0:=hx0.drew
 have hy0:=hy0.drew
 have eF:bj .u32 ah w4.drew _ _:=eF
 have ia:bj .u32 ah w4.drew _ _:=ia
 have hz:=hz.drew
 go_region_held3 (λw'=>aX w (w.heap.size+1+1) 3 61 [(w.heap.size,[.bool (decide (x.num<0)),.slice bO (ae ah x.num.natAbs).length bQ,.slice bP (ae ah x.den).length bR],61),(w.heap.size+1,[.bool (decide (y.num<0)),.slice da (ae ah y.num.natAbs).length de,.slice dc (ae ah y.den).length dg],61)] w'/\w'.cell? ⟨w.heap.size,0,none⟩=some (.bool (decide (x.num<0)))/\w'.cell? ⟨w.heap.size,1,none⟩=some (.slice bO (ae ah x.num.natAbs).length bQ)/\w'.cell? ⟨w.heap.size,2,none⟩=some (.slice bP (ae ah x.den).length bR)/\w'.cell? ⟨w.heap.size+1,0,none⟩=some (.bool (decide (y.num<0)))/\w'.cell? ⟨w.heap.size+1,1,none⟩=some (.slice da (ae ah y.num.natAbs).length de)/\w'.cell? ⟨w.heap.size+1,2,none⟩=some (.slice dc (ae ah y.den).length dg)/\w'.cell? ⟨w.heap.size+1+1,0,none⟩=some (cv w' ⟨w.heap.size+1+1,0,none⟩)/\w'.cell? ⟨w.heap.size+1+1,1,none⟩=some (cv w' ⟨w.heap.size+1+1,1,none⟩)/\w'.cell? ⟨w.heap.size+1+1,2,none⟩=some (cv w' ⟨w.heap.size+1+1,2,none⟩)/\w'.frozen? ⟨w.heap.size+1+1,0,none⟩=false/\w'.frozen? ⟨w.heap.size+1+1,1,none⟩=false/\w'.frozen? ⟨w.heap.size+1+1,2,none⟩=false)
  (first|exact hS _ hz|exact hS _ (aX.Di hz))
  (first
   |(go_at_call 80; have hc:=iS _ _ x hx0; (with_reducible refine Calls.mono hc ?_); clear hc; rintro e wz ⟨QX,rfl,eD,hb⟩; (try have eD:=eD.below hb); (try have eE:=eE.below hb); (try have eC:=eC.below hb); (try have ez:=ez.below hb); (try have hx0:=hx0.below hb); (try have hy0:=hy0.below hb); (try have eF:=eF.below hb); (try have dZ:=dZ.below hb); (try have ia:=ia.below hb); (try have gK:=gK.below hb); have hz:=aX.call (And.intro hz trivial) hb)
   |(go_at_call 80; have hc:=iS _ _ y hy0; (with_reducible refine Calls.mono hc ?_); clear hc; rintro e wz ⟨QY,rfl,eE,hb⟩; (try have eD:=eD.below hb); (try have eE:=eE.below hb); (try have eC:=eC.below hb); (try have ez:=ez.below hb); (try have hx0:=hx0.below hb); (try have hy0:=hy0.below hb); (try have eF:=eF.below hb); (try have dZ:=dZ.below hb); (try have ia:=ia.below hb); (try have gK:=gK.below hb); have hz:=aX.call (And.intro hz trivial) hb)
   |(go_at_call 79; have hc:=gR _ _ _ _ _ eF eE HB.out.1.1 HB.out.2.2 (by omega) (by omega); (with_reducible refine Calls.mono hc ?_); clear hc; rintro e wz ⟨QV,rfl,eC,hb⟩; (try have eD:=eD.below hb); (try have eE:=eE.below hb); (try have eC:=eC.below hb); (try have ez:=ez.below hb); (try have hx0:=hx0.below hb); (try have hy0:=hy0.below hb); (try have eF:=eF.below hb); (try have dZ:=dZ.below hb); (try have ia:=ia.below hb); (try have gK:=gK.below hb); have hz:=aX.call (And.intro hz trivial) hb)
   |(go_at_call 79; have hc:=gR _ _ _ _ _ eD ia HB.out.1.2 HB.out.2.1 (by omega) (by omega); (with_reducible refine Calls.mono hc ?_); clear hc; rintro e wz ⟨QW,rfl,ez,hb⟩; (try have eD:=eD.below hb); (try have eE:=eE.below hb); (try have eC:=eC.below hb); (try have ez:=ez.below hb); (try have hx0:=hx0.below hb); (try have hy0:=hy0.below hb); (try have eF:=eF.below hb); (try have dZ:=dZ.below hb); (try have ia:=ia.below hb); (try have gK:=gK.below hb); have hz:=aX.call (And.intro hz trivial) hb)
   |(go_at_call 67; have hc:=oL _ (!(decide (x.num<0)==decide (y.num<0))) _ _ (x.num.natAbs*y.den) (x.den*y.num.natAbs) eC ez (Nat.mul_pos Fq (by have:=HY.out; omega)) (HB.out.1.1.mul HB.out.2.2) (HB.out.1.2.mul HB.out.2.1) sJ; (with_reducible refine Calls.mono hc ?_); clear hc; rintro e wz ⟨vr,rfl,hr,hb⟩; (try have eD:=eD.below hb); (try have eE:=eE.below hb); (try have eC:=eC.below hb); (try have ez:=ez.below hb); (try have hx0:=hx0.below hb); (try have hy0:=hy0.below hb); (try have eF:=eF.below hb); (try have dZ:=dZ.below hb); (try have ia:=ia.below hb); (try have gK:=gK.below hb); have hz:=aX.call (And.intro hz trivial) hb; replace hr:=zi hr (wG x y HY.out); obtain⟨QT,QU,rfl,JD,hrb⟩:=id hr; obtain⟨Fg,Fk,rfl,_⟩:=id JD; obtain⟨Fh,Fl,rfl,_⟩:=id hrb))
 all_goals (
  go_wp2
  obtain⟨wf,HW,ho,hB,hN⟩:=hz.fin [.bool (decide ((x/y).num<0)),.slice Fg (ae ah (x/y).num.natAbs).length Fk,.slice Fh (ae ah (x/y).den).length Fl] rfl dH
  simp only[dh,Nat.reduceAdd]at HW
  (try rw[HW])
  (try simp only[Exit.inBlock,Exit.then])
  have f0:=ho.cell (i:=0) rfl
  have f1:=ho.cell (i:=1) rfl
  have f2:=ho.cell (i:=2) rfl
  refine bodyPost_ret (by simp[results,Tryz.results92,go_sem,f0,f1,f2]; try rfl) rfl ?_
  exact⟨_,rfl,hr.into hN,hB⟩)
end Wx

namespace Wx
open Go Go.RowKit Go.Proofs
theorem Du:Ty Tryz.prog 59 false 1:=⟨λ_=>by kernel_rfl,λ_=>by kernel_rfl,by decide⟩
end Wx
