import Derived.Test.YtadigiledciihaaGreatJRB36
namespace Wx
open Go Go.RowKit
set_option linter.unusedVariables false
section
variable {P:Program} {ops:Array Oper} {ms:List Nat} {c:dg} {V:List Vr} {A:List Al} {G:List aX} {i:Nat}{d:Nat} {x y z:Operand} {ty:TypeId} {pos:String} {aI:Array Edge}{f:FuncId} {ts:Array TypeId} {p p1 q1:Pred} {φ ψ:Prop}
theorem N8 (hψ:ψ) (iH:φ->∀w v1,p1 w v1->Calls P f #[v1] w (dK p w)) (h1:Has ms G i x q1:=by exact hg) (c1:∀w v,q1 w v->p1 w v:=by exact qX) (hp:Post G i p:=by exact pg (by assumption) rfl) (hφ:φ:=by first|omega|trivial) (hn:au p:=by exact AW) (hf:aL P f:=by exactλ_ _=>by kernel_rfl):
  OpOk P ops ms c V A G i ⟨some d,.call ⟨.value (.func f),#[x],ts⟩,ty,pos,aI,none⟩:=(λ_:ψ=>gm hf hn (h1.imp c1) hp (iH hφ)) hψ
theorem Dj {p2 q2:Pred} (hψ:ψ) (iH:φ->∀w v1 v2,p1 w v1->p2 w v2->Calls P f #[v1,v2] w (dK p w)) (h1:Has ms G i x q1:=by exact hg) (c1:∀w v,q1 w v->p1 w v:=by exact qX) (h2:Has ms G i y q2:=by exact hg) (c2:∀w v,q2 w v->p2 w v:=by exact qX) (hp:Post G i p:=by exact pg (by assumption) rfl) (hφ:φ:=by first|omega|trivial) (hn:au p:=by exact AW) (hf:aL P f:=by exactλ_ _=>by kernel_rfl):
  OpOk P ops ms c V A G i ⟨some d,.call ⟨.value (.func f),#[x,y],ts⟩,ty,pos,aI,none⟩:=(λ_:ψ=>cD hf hn (h1.imp c1) (h2.imp c2) hp (iH hφ)) hψ
end
end Wx

namespace Wx
set_option maxRecDepth 100000
set_option maxHeartbeats 1000000
open Go Go.RowKit Go.Proofs
set_option linter.unusedVariables false
attribute [local irreducible] OpOk
theorem xe {x y:Rat} {j k:Nat} (h:j+k<=100000000):K2 Tryz.prog 49 (pR j x) (pR k y) (pR (j+k) (x/y)):=by
 intro M w0 v0 v1 hM hv0 mL
 refine xB (N:=14) Tryz.func49 rfl rfl rfl hM hv0 mL λa hI=>?_
 refine bN hI 3 [⟨2,2,some 0,none,.ptr,54,3,true,pv _,[]⟩,⟨3,3,some 1,none,.ptr,54,3,true,pv _,[]⟩,⟨4,4,some 2,none,.ptr,54,3,true,pv _,[]⟩] [] [] .z (.kk .z) ⟨bo,bo,qw [.r],trivial⟩ (.k (.k (.k .z))) (.dd .z) λa w hI=>?_
 refine bN hI 9 [⟨5,5,some 6,none,.ptr,54,3,true,pv _,[(7,pv _)]⟩] [] [Uc 0 8 _,Uc 1 9 _,Uc 2 10 _,Uc 3 7 _,Uc 4 11 _,Uc 5 12 _,Uc 8 6 _] (.k (.k (.k .z))) .z ⟨ld,ld,xZ NH,mv,ext,ext,qw [.r],lS,mv,trivial⟩ (.d (.d (.k (.s .o .z)))) (.cU (.NP .z)) λa w hI=>?_
 refine bN hI 2 [] [] [Uc 0 13 _] (.u none [(1,pv _)] (.k .z)) .z ⟨ld,lS,trivial⟩ (.s .o (.d .z)) (.d .z) λa w hI=>?_
 refine aP ?_
 exact fo hI rfl xx
end Wx

namespace Wx
set_option maxRecDepth 100000
set_option maxHeartbeats 1000000
open Go Go.RowKit Go.Proofs
theorem DR (w:World) (vx:Value) (x:Rat) (hx:cG w vx x):Calls Tryz.prog 50 #[vx] w (cP w (.int .i64 (iI x))):=by
 obtain⟨tU,tV,rfl,cC,dm⟩:=id hx
 obtain⟨cQ,cS,rfl,_⟩:=id cC
 obtain⟨cR,cT,rfl,_⟩:=id dm
 have hS:iI x=if x=0 then 0 else if x.num<0 then -1 else 1:=by
  unfold iI
  by_cases h:x=0
  ·subst h; rfl
  ·rw[if_neg h,if_neg h]
 have hx0:=hx
 clear hx
 generalize iI x=z at *
 by_cases h2:x=0
 ·rw[if_pos h2]at hS
  subst hS
  have HD:=bx (decide_eq_true h2)
  clear h2
  go_enter Tryz.func50,Tryz.ntmps50
  go_wp2_with fail
  obtain⟨w1,e1,oP,b1,s1⟩:=en w [.bool (decide (x.num<0)),.slice cQ (ae ah x.num.natAbs).length cS,.slice cR (ae ah x.den).length cT] 61
  rw[e1]
  clear e1
  replace hx0:=hx0.below b1
  have B:=b1
  clear b1
  have hc:=gZ _ _ x hx0
  rw[HD.out]at hc
  refine Calls.mono (hc) ?_
  rintro e w2 ⟨rfl,b2⟩
  replace hx0:=hx0.below b2
  replace oP:=oP.gone b2
  replace B:=B.trans (b2.mono B.size)
  clear b2
  clear hc
  have k1:=oP.cell (i:=0) rfl
  have k2:=oP.cell (i:=1) rfl
  have k3:=oP.cell (i:=2) rfl
  go_wp2
  go_ret
  exact⟨rfl,B⟩
 ·rw[if_neg h2]at hS
  have HD:=bx (decide_eq_false h2)
  clear h2
  by_cases h1:x.num<0
  ·rw[if_pos h1]at hS
   subst hS
   rw[decide_eq_true h1]at *
   go_enter Tryz.func50,Tryz.ntmps50
   go_wp2_with fail
   obtain⟨w1,e1,oP,b1,s1⟩:=en w [.bool true,.slice cQ (ae ah x.num.natAbs).length cS,.slice cR (ae ah x.den).length cT] 61
   rw[e1]
   clear e1
   replace hx0:=hx0.below b1
   have B:=b1
   clear b1
   have hc:=gZ _ _ x hx0
   rw[HD.out]at hc
   refine Calls.mono (hc) ?_
   rintro e w2 ⟨rfl,b2⟩
   replace hx0:=hx0.below b2
   replace oP:=oP.gone b2
   replace B:=B.trans (b2.mono B.size)
   clear b2
   clear hc
   have k1:=oP.cell (i:=0) rfl
   have k2:=oP.cell (i:=1) rfl
   have k3:=oP.cell (i:=2) rfl
   go_wp2
   go_ret
   exact⟨rfl,B⟩
  ·rw[if_neg h1]at hS
   subst hS
   rw[decide_eq_false h1]at *
   go_enter Tryz.func50,Tryz.ntmps50
   go_wp2_with fail
   obtain⟨w1,e1,oP,b1,s1⟩:=en w [.bool false,.slice cQ (ae ah x.num.natAbs).length cS,.slice cR (ae ah x.den).length cT] 61
   rw[e1]
   clear e1
   replace hx0:=hx0.below b1
   have B:=b1
   clear b1
   have hc:=gZ _ _ x hx0
   rw[HD.out]at hc
   refine Calls.mono (hc) ?_
   rintro e w2 ⟨rfl,b2⟩
   replace hx0:=hx0.below b2
   replace oP:=oP.gone b2
   replace B:=B.trans (b2.mono B.size)
   clear b2
   clear hc
   have k1:=oP.cell (i:=0) rfl
   have k2:=oP.cell (i:=1) rfl
   have k3:=oP.cell (i:=2) rfl
   go_wp2
   go_ret
   exact⟨rfl,B⟩
end Wx

namespace Wx
set_option maxRecDepth 100000
open Go Go.RowKit Go.Proofs
set_option maxHeartbeats 8000000 in
theorem Gd (w:World) (vx vy:Value) (x y:Rat) (hx:cG w vx x) (hy:cG w vy y) {j k:Nat} (hj:cN j x) (hk:cN k y) (AB:j+k<=10000000):Calls Tryz.prog 39 #[vx,vy] w (jS w (x*y)):=by
 obtain⟨tU,tV,rfl,cC,dm⟩:=id hx
 obtain⟨cQ,cS,rfl,_⟩:=id cC
 obtain⟨cR,cT,rfl,_⟩:=id dm
 obtain⟨Hl,Ho,rfl,gB,gw⟩:=id hy
 obtain⟨ez,eC,rfl,_⟩:=id gB
 obtain⟨eB,eD,rfl,_⟩:=id gw
 have IG:=x.den_pos
 have LZ:=y.den_pos
 have HB:=bx (And.intro hj hk)
 have ct:j<=1000000000:=by omega
 have kN:k<=1000000000:=by omega
 have hx0:=hx
 have hy0:=hy
 clear hj hk hx hy
 go_enter Tryz.func39,Tryz.ntmps39
 go_wp2_with fail
 obtain⟨w1,e1,o1,b1,s1⟩:=en w [.bool (decide (x.num<0)),.slice cQ (ae ah x.num.natAbs).length cS,.slice cR (ae ah x.den).length cT] 61
 obtain⟨w2,e2,o2,b2,s2⟩:=en w1 [.bool (decide (y.num<0)),.slice ez (ae ah y.num.natAbs).length eC,.slice eB (ae ah y.den).length eD] 61
 obtain⟨w3,e3,o3,b3,s3⟩:=en w2 [.bool false,.slice none 0 0,.slice none 0 0] 61
 rw[e1,e2,e3]
 rw[s1]at o2
 rw[s2,s1]at o3
 have p1:=((o1.gone b2).gone b3)
 have p2:=(o2.gone b3)
 have p3:=o3
 have B0:=((b1.trans (b2.mono b1.size)).trans (b3.mono (b1.trans (b2.mono b1.size)).size))
 have hS:∀w',bp w (w.heap.size+2) 3 61 [(w.heap.size,[.bool (decide (x.num<0)),.slice cQ (ae ah x.num.natAbs).length cS,.slice cR (ae ah x.den).length cT],61),(w.heap.size+1,[.bool (decide (y.num<0)),.slice ez (ae ah y.num.natAbs).length eC,.slice eB (ae ah y.den).length eD],61)] w'->bp w (w.heap.size+2) 3 61 [(w.heap.size,[.bool (decide (x.num<0)),.slice cQ (ae ah x.num.natAbs).length cS,.slice cR (ae ah x.den).length cT],61),(w.heap.size+1,[.bool (decide (y.num<0)),.slice ez (ae ah y.num.natAbs).length eC,.slice eB (ae ah y.den).length eD],61)] w'/\w'.cell? ⟨w.heap.size,0,none⟩=some (.bool (decide (x.num<0)))/\w'.cell? ⟨w.heap.size,1,none⟩=some (.slice cQ (ae ah x.num.natAbs).length cS)/\w'.cell? ⟨w.heap.size,2,none⟩=some (.slice cR (ae ah x.den).length cT)/\w'.cell? ⟨w.heap.size+1,0,none⟩=some (.bool (decide (y.num<0)))/\w'.cell? ⟨w.heap.size+1,1,none⟩=some (.slice ez (ae ah y.num.natAbs).length eC)/\w'.cell? ⟨w.heap.size+1,2,none⟩=some (.slice eB (ae ah y.den).length eD)/\w'.cell? ⟨w.heap.size+2,0,none⟩=some (cv w' ⟨w.heap.size+2,0,none⟩)/\w'.cell? ⟨w.heap.size+2,1,none⟩=some (cv w' ⟨w.heap.size+2,1,none⟩)/\w'.cell? ⟨w.heap.size+2,2,none⟩=some (cv w' ⟨w.heap.size+2,2,none⟩)/\w'.frozen? ⟨w.heap.size+2,0,none⟩=false/\w'.frozen? ⟨w.heap.size+2,1,none⟩=false/\w'.frozen? ⟨w.heap.size+2,2,none⟩=false:=λw' hh=>by
  have r1:=hh.par (p:=(w.heap.size,[.bool (decide (x.num<0)),.slice cQ (ae ah x.num.natAbs).length cS,.slice cR (ae ah x.den).length cT],61)) (by simp)
  have r2:=hh.par (p:=(w.heap.size+1,[.bool (decide (y.num<0)),.slice ez (ae ah y.num.natAbs).length eC,.slice eB (ae ah y.den).length eD],61)) (by simp)
  exact⟨hh,r1.cell (i:=0) rfl,r1.cell (i:=1) rfl,r1.cell (i:=2) rfl,r2.cell (i:=0) rfl,r2.cell (i:=1) rfl,r2.cell (i:=2) rfl,hh.kI (i:=0) (by omega),hh.kI (i:=1) (by omega),hh.kI (i:=2) (by omega),hh.Ew 0,hh.Ew 1,hh.Ew 2⟩
 have hz:bp w (w.heap.size+2) 3 61 [(w.heap.size,[.bool (decide (x.num<0)),.slice cQ (ae ah x.num.natAbs).length cS,.slice cR (ae ah x.den).length cT],61),(w.heap.size+1,[.bool (decide (y.num<0)),.slice ez (ae ah y.num.natAbs).length eC,.slice eB (ae ah y.den).length eD],61)] w3:=⟨B0,by omega,by intro q hq; simp at hq; rcases hq with rfl|rfl; exact⟨by simp,p1⟩; exact⟨by simp,p2⟩,_,rfl,p3,cZ⟩
 clear e1 e2 e3 o1 b1 s1 p1 o2 b2 s2 p2 o3 b3 s3 p3
 clear B0
 have hz:=hz.drew
 go_region_held3 (λw'=>bp w (w.heap.size+2) 3 61 [(w.heap.size,[.bool (decide (x.num<0)),.slice cQ (ae ah x.num.natAbs).length cS,.slice cR (ae ah x.den).length cT],61),(w.heap.size+1,[.bool (decide (y.num<0)),.slice ez (ae ah y.num.natAbs).length eC,.slice eB (ae ah y.den).length eD],61)] w'/\w'.cell? ⟨w.heap.size,0,none⟩=some (.bool (decide (x.num<0)))/\w'.cell? ⟨w.heap.size,1,none⟩=some (.slice cQ (ae ah x.num.natAbs).length cS)/\w'.cell? ⟨w.heap.size,2,none⟩=some (.slice cR (ae ah x.den).length cT)/\w'.cell? ⟨w.heap.size+1,0,none⟩=some (.bool (decide (y.num<0)))/\w'.cell? ⟨w.heap.size+1,1,none⟩=some (.slice ez (ae ah y.num.natAbs).length eC)/\w'.cell? ⟨w.heap.size+1,2,none⟩=some (.slice eB (ae ah y.den).length eD)/\w'.cell? ⟨w.heap.size+2,0,none⟩=some (cv w' ⟨w.heap.size+2,0,none⟩)/\w'.cell? ⟨w.heap.size+2,1,none⟩=some (cv w' ⟨w.heap.size+2,1,none⟩)/\w'.cell? ⟨w.heap.size+2,2,none⟩=some (cv w' ⟨w.heap.size+2,2,none⟩)/\w'.frozen? ⟨w.heap.size+2,0,none⟩=false/\w'.frozen? ⟨w.heap.size+2,1,none⟩=false/\w'.frozen? ⟨w.heap.size+2,2,none⟩=false)
  (first|exact hS _ hz|exact hS _ (bp.KU hz))
  (first
   |(go_at_call 79; have hc:=gn _ _ _ _ _ (cC.below hz.1) (gB.below hz.1) HB.out.1.1 HB.out.2.1 (by omega) (by omega); (with_reducible refine Calls.mono hc ?_); clear hc; rintro e wz ⟨S6,rfl,ik,hb⟩; (try have iq:=iq.below hb); (try have ir:=ir.below hb); (try have ik:=ik.below hb); (try have gW:=gW.below hb); (try have nX:=nX.below hb); (try have hs1:=hs1.below hb); have hz:=bp.call (And.intro hz trivial) hb)
   |(go_at_call 80; have hc:=cM _ _ x (hx0.below hz.1); (with_reducible refine Calls.mono hc ?_); clear hc; rintro e wz ⟨S8,rfl,iq,hb⟩; (try have iq:=iq.below hb); (try have ir:=ir.below hb); (try have ik:=ik.below hb); (try have gW:=gW.below hb); (try have nX:=nX.below hb); (try have hs1:=hs1.below hb); have hz:=bp.call (And.intro hz trivial) hb)
   |(go_at_call 80; have hc:=cM _ _ y (hy0.below hz.1); (with_reducible refine Calls.mono hc ?_); clear hc; rintro e wz ⟨S9,rfl,ir,hb⟩; (try have iq:=iq.below hb); (try have ir:=ir.below hb); (try have ik:=ik.below hb); (try have gW:=gW.below hb); (try have nX:=nX.below hb); (try have hs1:=hs1.below hb); have hz:=bp.call (And.intro hz trivial) hb)
   |(go_at_call 79; have hc:=gn _ _ _ _ _ iq ir HB.out.1.2 HB.out.2.2 (by omega) (by omega); (with_reducible refine Calls.mono hc ?_); clear hc; rintro e wz ⟨S7,rfl,gW,hb⟩; (try have iq:=iq.below hb); (try have ir:=ir.below hb); (try have ik:=ik.below hb); (try have gW:=gW.below hb); (try have nX:=nX.below hb); (try have hs1:=hs1.below hb); have hz:=bp.call (And.intro hz trivial) hb)
   |(go_at_call 67; have hc:=lG _ (!(decide (x.num<0)==decide (y.num<0))) _ _ (x.num.natAbs*y.num.natAbs) (x.den*y.den) ik gW (Nat.mul_pos IG LZ) (HB.out.1.1.mul HB.out.2.1) (HB.out.1.2.mul HB.out.2.2) AB; (with_reducible refine Calls.mono hc ?_); clear hc; rintro e wz ⟨vr,rfl,hr,hb⟩; (try have iq:=iq.below hb); (try have ir:=ir.below hb); (try have ik:=ik.below hb); (try have gW:=gW.below hb); (try have nX:=nX.below hb); (try have hs1:=hs1.below hb); have hz:=bp.call (And.intro hz trivial) hb; replace hr:=yO hr (wS x y); obtain⟨Nz,NA,rfl,Dq,hrb⟩:=id hr; obtain⟨rA,rU,rfl,_⟩:=id Dq; obtain⟨rB,rV,rfl,_⟩:=id hrb))
 all_goals (
  go_wp2
  obtain⟨wf,HW,ho,hB,hN⟩:=hz.fin [.bool (decide ((x*y).num<0)),.slice rA (ae ah (x*y).num.natAbs).length rU,.slice rB (ae ah (x*y).den).length rV] rfl cZ
  simp only[cF,Nat.reduceAdd]at HW
  (try rw[HW])
  (try simp only[Exit.inBlock,Exit.then])
  have f0:=ho.cell (i:=0) rfl
  have f1:=ho.cell (i:=1) rfl
  have f2:=ho.cell (i:=2) rfl
  refine bodyPost_ret (by simp[results,Tryz.results39,go_sem,f0,f1,f2]; try rfl) rfl ?_
  exact⟨_,rfl,hr.into hN,hB⟩)
end Wx

namespace Wx
set_option maxRecDepth 100000
set_option maxHeartbeats 1000000
open Go Go.RowKit Go.Proofs
theorem DN (w:World) (vx vy:Value) (x y:Rat) (hx:cG w vx x) (hy:cG w vy y) (h0:y=0):Calls Tryz.prog 92 #[vx,vy] w (BN w 0 3):=by
 obtain⟨tU,tV,rfl,cC,dm⟩:=id hx
 obtain⟨cQ,cS,rfl,_⟩:=id cC
 obtain⟨cR,cT,rfl,_⟩:=id dm
 obtain⟨Hl,Ho,rfl,gB,gw⟩:=id hy
 obtain⟨ez,eC,rfl,_⟩:=id gB
 obtain⟨eB,eD,rfl,_⟩:=id gw
 have hi:∀w,Calls Tryz.prog 34 #[.int .i64 0] w (jS w 0):=λw=>sR w 0 (by omega) (by omega)
 have HI:=bx hi
 have HD:=bx (decide_eq_true h0)
 have hy0:=hy
 clear hi h0 hx hy cC dm gB gw
 generalize hq:(0:Rat)=q at HI
 have HQ:=bx hq
 clear hq
 go_enter Tryz.func92,Tryz.ntmps92
 go_wp2_with fail
 obtain⟨w1,e1,oX,b1,s1⟩:=en w [.bool (decide (x.num<0)),.slice cQ (ae ah x.num.natAbs).length cS,.slice cR (ae ah x.den).length cT] 61
 rw[e1]
 clear e1
 replace hy0:=hy0.below b1
 have B:=b1
 clear b1
 obtain⟨w2,e2,oY,b2,s2⟩:=en w1 [.bool (decide (y.num<0)),.slice ez (ae ah y.num.natAbs).length eC,.slice eB (ae ah y.den).length eD] 61
 rw[e2]
 rw[s1]at oY
 clear e2
 replace hy0:=hy0.below b2
 replace oX:=oX.gone b2
 replace B:=B.trans (b2.mono B.size)
 clear b2
 obtain⟨w3,e3,oR,b3,s3⟩:=en w2 [.bool false,.slice none 0 0,.slice none 0 0] 61
 rw[e3]
 rw[s2,s1]at oR
 clear e3
 replace hy0:=hy0.below b3
 replace oX:=oX.gone b3
 replace oY:=oY.gone b3
 replace B:=B.trans (b3.mono B.size)
 clear b3
 have hc:=gZ _ _ y hy0
 rw[HD.out]at hc
 refine Calls.mono (hc) ?_
 rintro e w4 ⟨rfl,b4⟩
 replace hy0:=hy0.below b4
 replace oX:=oX.gone b4
 replace oY:=oY.gone b4
 replace oR:=oR.gone b4
 replace B:=B.trans (b4.mono B.size)
 clear b4
 clear hc
 go_wp2_with fail
 refine Calls.mono (HI.out _) ?_
 rintro e w5 ⟨vr,rfl,hr,b5⟩
 replace hy0:=hy0.below b5
 replace oX:=oX.gone b5
 replace oY:=oY.gone b5
 replace oR:=oR.gone b5
 replace B:=B.trans (b5.mono B.size)
 clear b5
 obtain⟨Nz,NA,rfl,Dq,hrb⟩:=id hr
 obtain⟨rA,rU,rfl,_⟩:=id Dq
 obtain⟨rB,rV,rfl,_⟩:=id hrb
 have k1:=oR.cell (i:=0) rfl
 have k2:=oR.fz 0
 have k3:=oR.cell (i:=1) rfl
 have k4:=oR.fz 1
 have k5:=oR.cell (i:=2) rfl
 have k6:=oR.fz 2
 go_wp2
 obtain⟨wf,HW,ho,_,hN,Av,_⟩:=oR.put fh [.bool (decide (q.num<0)),.slice rA (ae ah q.num.natAbs).length rU,.slice rB (ae ah q.den).length rV] rfl cZ
 simp only[cF,Nat.reduceAdd]at HW
 (try rw[HW])
 (try simp only[Exit.inBlock,Exit.then])
 have f0:=ho.cell (i:=0) rfl
 have f1:=ho.cell (i:=1) rfl
 have f2:=ho.cell (i:=2) rfl
 refine bodyPost_ret (by simp[results,Tryz.results92,go_sem,f0,f1,f2]; try rfl) rfl ?_
 have HB:=Av _ (by omega) B
 exact⟨_,rfl,hr.into hN,HB⟩
set_option maxHeartbeats 8000000 in
theorem Gc (w:World) (vx vy:Value) (x y:Rat) (hx:cG w vx x) (hy:cG w vy y) (oQ:y.num≠0) {j k:Nat} (hj:cN j x) (hk:cN k y) (AB:j+k<=10000000):Calls Tryz.prog 92 #[vx,vy] w (BN w (x/y) 0):=by
 have HY:=bx oQ
 have HD:=bx (decide_eq_false (mt (Rat.num_eq_zero (q:=y)).2 oQ))
 clear oQ
 obtain⟨tU,tV,rfl,cC,dm⟩:=id hx
 obtain⟨cQ,cS,rfl,_⟩:=id cC
 obtain⟨cR,cT,rfl,_⟩:=id dm
 obtain⟨Hl,Ho,rfl,gB,gw⟩:=id hy
 obtain⟨ez,eC,rfl,_⟩:=id gB
 obtain⟨eB,eD,rfl,_⟩:=id gw
 have IG:=x.den_pos
 have LZ:=y.den_pos
 have HB:=bx (And.intro hj hk)
 have ct:j<=1000000000:=by omega
 have kN:k<=1000000000:=by omega
 have hx0:=hx
 have hy0:=hy
 clear hj hk hx hy
 go_enter Tryz.func92,Tryz.ntmps92
 go_wp2_with fail
 obtain⟨w1,e1,oX,b1,s1⟩:=en w [.bool (decide (x.num<0)),.slice cQ (ae ah x.num.natAbs).length cS,.slice cR (ae ah x.den).length cT] 61
 rw[e1]
 clear e1
 replace hy0:=hy0.below b1
 replace hx0:=hx0.below b1
 replace cC:=cC.below b1
 replace dm:=dm.below b1
 replace gB:=gB.below b1
 replace gw:=gw.below b1
 have B:=b1
 clear b1
 obtain⟨w2,e2,oY,b2,s2⟩:=en w1 [.bool (decide (y.num<0)),.slice ez (ae ah y.num.natAbs).length eC,.slice eB (ae ah y.den).length eD] 61
 rw[e2]
 rw[s1]at oY
 clear e2
 replace hy0:=hy0.below b2
 replace hx0:=hx0.below b2
 replace cC:=cC.below b2
 replace dm:=dm.below b2
 replace gB:=gB.below b2
 replace gw:=gw.below b2
 replace oX:=oX.gone b2
 replace B:=B.trans (b2.mono B.size)
 clear b2
 obtain⟨w3,e3,oR,b3,s3⟩:=en w2 [.bool false,.slice none 0 0,.slice none 0 0] 61
 rw[e3]
 rw[s2,s1]at oR
 clear e3
 replace hy0:=hy0.below b3
 replace hx0:=hx0.below b3
 replace cC:=cC.below b3
 replace dm:=dm.below b3
 replace gB:=gB.below b3
 replace gw:=gw.below b3
 replace oX:=oX.gone b3
 replace oY:=oY.gone b3
 replace B:=B.trans (b3.mono B.size)
 clear b3
 have hc:=gZ _ _ y hy0
 rw[HD.out]at hc
 refine Calls.mono (hc) ?_
 rintro e w4 ⟨rfl,b4⟩
 replace hy0:=hy0.below b4
 replace hx0:=hx0.below b4
 replace cC:=cC.below b4
 replace dm:=dm.below b4
 replace gB:=gB.below b4
 replace gw:=gw.below b4
 replace oX:=oX.gone b4
 replace oY:=oY.gone b4
 replace oR:=oR.gone b4
 replace B:=B.trans (b4.mono B.size)
 clear b4
 clear hc
 go_wp2_with fail
 have hS:∀w',bp w (w.heap.size+1+1) 3 61 [(w.heap.size,[.bool (decide (x.num<0)),.slice cQ (ae ah x.num.natAbs).length cS,.slice cR (ae ah x.den).length cT],61),(w.heap.size+1,[.bool (decide (y.num<0)),.slice ez (ae ah y.num.natAbs).length eC,.slice eB (ae ah y.den).length eD],61)] w'->bp w (w.heap.size+1+1) 3 61 [(w.heap.size,[.bool (decide (x.num<0)),.slice cQ (ae ah x.num.natAbs).length cS,.slice cR (ae ah x.den).length cT],61),(w.heap.size+1,[.bool (decide (y.num<0)),.slice ez (ae ah y.num.natAbs).length eC,.slice eB (ae ah y.den).length eD],61)] w'/\w'.cell? ⟨w.heap.size,0,none⟩=some (.bool (decide (x.num<0)))/\w'.cell? ⟨w.heap.size,1,none⟩=some (.slice cQ (ae ah x.num.natAbs).length cS)/\w'.cell? ⟨w.heap.size,2,none⟩=some (.slice cR (ae ah x.den).length cT)/\w'.cell? ⟨w.heap.size+1,0,none⟩=some (.bool (decide (y.num<0)))/\w'.cell? ⟨w.heap.size+1,1,none⟩=some (.slice ez (ae ah y.num.natAbs).length eC)/\w'.cell? ⟨w.heap.size+1,2,none⟩=some (.slice eB (ae ah y.den).length eD)/\w'.cell? ⟨w.heap.size+1+1,0,none⟩=some (cv w' ⟨w.heap.size+1+1,0,none⟩)/\w'.cell? ⟨w.heap.size+1+1,1,none⟩=some (cv w' ⟨w.heap.size+1+1,1,none⟩)/\w'.cell? ⟨w.heap.size+1+1,2,none⟩=some (cv w' ⟨w.heap.size+1+1,2,none⟩)/\w'.frozen? ⟨w.heap.size+1+1,0,none⟩=false/\w'.frozen? ⟨w.heap.size+1+1,1,none⟩=false/\w'.frozen? ⟨w.heap.size+1+1,2,none⟩=false:=λw' hh=>by
  have r1:=hh.par (p:=(w.heap.size,[.bool (decide (x.num<0)),.slice cQ (ae ah x.num.natAbs).length cS,.slice cR (ae ah x.den).length cT],61)) (by simp)
  have r2:=hh.par (p:=(w.heap.size+1,[.bool (decide (y.num<0)),.slice ez (ae ah y.num.natAbs).length eC,.slice eB (ae ah y.den).length eD],61)) (by simp)
  exact⟨hh,r1.cell (i:=0) rfl,r1.cell (i:=1) rfl,r1.cell (i:=2) rfl,r2.cell (i:=0) rfl,r2.cell (i:=1) rfl,r2.cell (i:=2) rfl,hh.kI (i:=0) (by omega),hh.kI (i:=1) (by omega),hh.kI (i:=2) (by omega),hh.Ew 0,hh.Ew 1,hh.Ew 2⟩
 have hz:bp w (w.heap.size+1+1) 3 61 [(w.heap.size,[.bool (decide (x.num<0)),.slice cQ (ae ah x.num.natAbs).length cS,.slice cR (ae ah x.den).length cT],61),(w.heap.size+1,[.bool (decide (y.num<0)),.slice ez (ae ah y.num.natAbs).length eC,.slice eB (ae ah y.den).length eD],61)] w4:=⟨B,by omega,by intro q hq; simp at hq; rcases hq with rfl|rfl; exact⟨(by show w.heap.size≠w.heap.size+1+1; omega),oX⟩; exact⟨(by show w.heap.size+1≠w.heap.size+1+1; omega),oY⟩,_,rfl,oR,cZ⟩
 clear oX oY oR B s1 s2 s3
 have hx0:=hx0.drew
 have hy0:=hy0.drew
 have cC:aZ .u32 ah w4.drew _ _:=cC
 have gB:aZ .u32 ah w4.drew _ _:=gB
 have hz:=hz.drew
 go_region_held3 (λw'=>bp w (w.heap.size+1+1) 3 61 [(w.heap.size,[.bool (decide (x.num<0)),.slice cQ (ae ah x.num.natAbs).length cS,.slice cR (ae ah x.den).length cT],61),(w.heap.size+1,[.bool (decide (y.num<0)),.slice ez (ae ah y.num.natAbs).length eC,.slice eB (ae ah y.den).length eD],61)] w'/\w'.cell? ⟨w.heap.size,0,none⟩=some (.bool (decide (x.num<0)))/\w'.cell? ⟨w.heap.size,1,none⟩=some (.slice cQ (ae ah x.num.natAbs).length cS)/\w'.cell? ⟨w.heap.size,2,none⟩=some (.slice cR (ae ah x.den).length cT)/\w'.cell? ⟨w.heap.size+1,0,none⟩=some (.bool (decide (y.num<0)))/\w'.cell? ⟨w.heap.size+1,1,none⟩=some (.slice ez (ae ah y.num.natAbs).length eC)/\w'.cell? ⟨w.heap.size+1,2,none⟩=some (.slice eB (ae ah y.den).length eD)/\w'.cell? ⟨w.heap.size+1+1,0,none⟩=some (cv w' ⟨w.heap.size+1+1,0,none⟩)/\w'.cell? ⟨w.heap.size+1+1,1,none⟩=some (cv w' ⟨w.heap.size+1+1,1,none⟩)/\w'.cell? ⟨w.heap.size+1+1,2,none⟩=some (cv w' ⟨w.heap.size+1+1,2,none⟩)/\w'.frozen? ⟨w.heap.size+1+1,0,none⟩=false/\w'.frozen? ⟨w.heap.size+1+1,1,none⟩=false/\w'.frozen? ⟨w.heap.size+1+1,2,none⟩=false)
  (first|exact hS _ hz|exact hS _ (bp.KU hz))
  (first
   |(go_at_call 80; have hc:=cM _ _ x hx0; (with_reducible refine Calls.mono hc ?_); clear hc; rintro e wz ⟨S8,rfl,iq,hb⟩; (try have iq:=iq.below hb); (try have ir:=ir.below hb); (try have ik:=ik.below hb); (try have gW:=gW.below hb); (try have hx0:=hx0.below hb); (try have hy0:=hy0.below hb); (try have cC:=cC.below hb); (try have dm:=dm.below hb); (try have gB:=gB.below hb); (try have gw:=gw.below hb); have hz:=bp.call (And.intro hz trivial) hb)
   |(go_at_call 80; have hc:=cM _ _ y hy0; (with_reducible refine Calls.mono hc ?_); clear hc; rintro e wz ⟨S9,rfl,ir,hb⟩; (try have iq:=iq.below hb); (try have ir:=ir.below hb); (try have ik:=ik.below hb); (try have gW:=gW.below hb); (try have hx0:=hx0.below hb); (try have hy0:=hy0.below hb); (try have cC:=cC.below hb); (try have dm:=dm.below hb); (try have gB:=gB.below hb); (try have gw:=gw.below hb); have hz:=bp.call (And.intro hz trivial) hb)
   |(go_at_call 79; have hc:=gn _ _ _ _ _ cC ir HB.out.1.1 HB.out.2.2 (by omega) (by omega); (with_reducible refine Calls.mono hc ?_); clear hc; rintro e wz ⟨S6,rfl,ik,hb⟩; (try have iq:=iq.below hb); (try have ir:=ir.below hb); (try have ik:=ik.below hb); (try have gW:=gW.below hb); (try have hx0:=hx0.below hb); (try have hy0:=hy0.below hb); (try have cC:=cC.below hb); (try have dm:=dm.below hb); (try have gB:=gB.below hb); (try have gw:=gw.below hb); have hz:=bp.call (And.intro hz trivial) hb)
   |(go_at_call 79; have hc:=gn _ _ _ _ _ iq gB HB.out.1.2 HB.out.2.1 (by omega) (by omega); (with_reducible refine Calls.mono hc ?_); clear hc; rintro e wz ⟨S7,rfl,gW,hb⟩; (try have iq:=iq.below hb); (try have ir:=ir.below hb); (try have ik:=ik.below hb); (try have gW:=gW.below hb); (try have hx0:=hx0.below hb); (try have hy0:=hy0.below hb); (try have cC:=cC.below hb); (try have dm:=dm.below hb); (try have gB:=gB.below hb); (try have gw:=gw.below hb); have hz:=bp.call (And.intro hz trivial) hb)
   |(go_at_call 67; have hc:=lG _ (!(decide (x.num<0)==decide (y.num<0))) _ _ (x.num.natAbs*y.den) (x.den*y.num.natAbs) ik gW (Nat.mul_pos IG (by have:=HY.out; omega)) (HB.out.1.1.mul HB.out.2.2) (HB.out.1.2.mul HB.out.2.1) AB; (with_reducible refine Calls.mono hc ?_); clear hc; rintro e wz ⟨vr,rfl,hr,hb⟩; (try have iq:=iq.below hb); (try have ir:=ir.below hb); (try have ik:=ik.below hb); (try have gW:=gW.below hb); (try have hx0:=hx0.below hb); (try have hy0:=hy0.below hb); (try have cC:=cC.below hb); (try have dm:=dm.below hb); (try have gB:=gB.below hb); (try have gw:=gw.below hb); have hz:=bp.call (And.intro hz trivial) hb; replace hr:=yO hr (wE x y HY.out); obtain⟨Nz,NA,rfl,Dq,hrb⟩:=id hr; obtain⟨rA,rU,rfl,_⟩:=id Dq; obtain⟨rB,rV,rfl,_⟩:=id hrb))
 all_goals (
  go_wp2
  obtain⟨wf,HW,ho,hB,hN⟩:=hz.fin [.bool (decide ((x/y).num<0)),.slice rA (ae ah (x/y).num.natAbs).length rU,.slice rB (ae ah (x/y).den).length rV] rfl cZ
  simp only[cF,Nat.reduceAdd]at HW
  (try rw[HW])
  (try simp only[Exit.inBlock,Exit.then])
  have f0:=ho.cell (i:=0) rfl
  have f1:=ho.cell (i:=1) rfl
  have f2:=ho.cell (i:=2) rfl
  refine bodyPost_ret (by simp[results,Tryz.results92,go_sem,f0,f1,f2]; try rfl) rfl ?_
  exact⟨_,rfl,hr.into hN,hB⟩)
end Wx

namespace Wx
open Go Go.RowKit Go.Proofs
theorem CO:Ty Tryz.prog 59 false 1:=⟨λ_=>by kernel_rfl,λ_=>by kernel_rfl,by decide⟩
end Wx
