import Derived.Test.YtocboimkilkklaaGreatJRC33
namespace Wx
open Go Go.RowKit
set_option linter.unusedVariables false
section
variable {P:Program} {ops:Array Oper} {ms:List Nat} {c:dS} {V:List Vr} {A:List Al} {G:List bf} {i:Nat}{d:Nat} {x y z:Operand} {ty:TypeId} {pos:String} {aJ:Array Edge}{f:FuncId} {ts:Array TypeId} {p p1 q1:Pred} {φ ψ:Prop}
theorem Ht (hψ:ψ) (jx:φ->∀w v1,p1 w v1->Calls P f #[v1] w (ew p w)) (h1:Has ms G i x q1:=by exact hg) (c1:∀w v,q1 w v->p1 w v:=by exact sA) (hp:Post G i p:=by exact pg (by assumption) rfl) (hφ:φ:=by first|omega|trivial) (hn:au p:=by exact Ct) (hf:aI P f:=by exactλ_ _=>by kernel_rfl):
  OpOk P ops ms c V A G i ⟨some d,.call ⟨.value (.func f),#[x],ts⟩,ty,pos,aJ,none⟩:=(λ_:ψ=>gB hf hn (h1.imp c1) hp (jx hφ)) hψ
theorem Qs {p2 q2:Pred} (hψ:ψ) (jx:φ->∀w v1 v2,p1 w v1->p2 w v2->Calls P f #[v1,v2] w (ew p w)) (h1:Has ms G i x q1:=by exact hg) (c1:∀w v,q1 w v->p1 w v:=by exact sA) (h2:Has ms G i y q2:=by exact hg) (c2:∀w v,q2 w v->p2 w v:=by exact sA) (hp:Post G i p:=by exact pg (by assumption) rfl) (hφ:φ:=by first|omega|trivial) (hn:au p:=by exact Ct) (hf:aI P f:=by exactλ_ _=>by kernel_rfl):
  OpOk P ops ms c V A G i ⟨some d,.call ⟨.value (.func f),#[x,y],ts⟩,ty,pos,aJ,none⟩:=(λ_:ψ=>cD hf hn (h1.imp c1) (h2.imp c2) hp (jx hφ)) hψ
end
end Wx

namespace Wx
set_option maxRecDepth 100000
set_option maxHeartbeats 1000000
open Go Go.RowKit Go.Proofs
set_option linter.unusedVariables false
attribute [local irreducible] OpOk
theorem uF {x y:Rat} {j k:Nat} (h:j+k<=100000000):K2 Tryz.prog 35 (pR j x) (pR k y) (pR (j+k) (x/y)):=by
 intro M w0 v0 v1 hM hv0 iK
 refine ze (N:=14) Tryz.func35 rfl rfl rfl hM hv0 iK λa hI=>?_
 refine bZ hI 3 [⟨2,2,some 0,none,.ptr,32,3,true,pv _,[]⟩,⟨3,3,some 1,none,.ptr,32,3,true,pv _,[]⟩,⟨4,4,some 2,none,.ptr,32,3,true,pv _,[]⟩] [] [] .z (.kk .z) ⟨bo,bo,me [.r],trivial⟩ (.k (.k (.k .z))) (.dd .z) λa w hI=>?_
 refine bZ hI 9 [⟨5,5,some 6,none,.ptr,32,3,true,pv _,[(7,pv _)]⟩] [] [Uc 0 8 _,Uc 1 9 _,Uc 2 10 _,Uc 3 7 _,Uc 4 11 _,Uc 5 12 _,Uc 8 6 _] (.k (.k (.k .z))) .z ⟨ld,ld,By PO,mv,ext,ext,me [.r],gD,mv,trivial⟩ (.d (.d (.k (.s .o .z)))) (.dO (.Kz .z)) λa w hI=>?_
 refine bZ hI 2 [] [] [Uc 0 13 _] (.u none [(1,pv _)] (.k .z)) .z ⟨ld,gD,trivial⟩ (.s .o (.d .z)) (.d .z) λa w hI=>?_
 refine aV ?_
 exact dD hI rfl rK
end Wx

namespace Wx
set_option maxRecDepth 100000
set_option maxHeartbeats 1000000
open Go Go.RowKit Go.Proofs
theorem xd (w:World) (vx:Value) (x:Rat) (hx:cB w vx x):Calls Tryz.prog 14 #[vx] w (dA w (.int .i64 (cP x))):=by
 obtain⟨sP,sQ,rfl,cN,dH⟩:=id hx
 obtain⟨bN,bP,rfl,_⟩:=id cN
 obtain⟨bO,bQ,rfl,_⟩:=id dH
 have hS:cP x=if x=0 then 0 else if x.num<0 then -1 else 1:=by
  unfold cP
  by_cases h:x=0
  ·subst h; rfl
  ·rw[if_neg h,if_neg h]
 have hx0:=hx
 clear hx
 generalize cP x=z at *
 by_cases h2:x=0
 ·rw[if_pos h2]at hS
  subst hS
  have HD:=bx (decide_eq_true h2)
  clear h2
  go_enter Tryz.func14,Tryz.ntmps14
  go_wp2_with fail
  obtain⟨w1,e1,oP,b1,s1⟩:=dP w [.bool (decide (x.num<0)),.slice bN (ae ah x.num.natAbs).length bP,.slice bO (ae ah x.den).length bQ] 38
  rw[e1]
  clear e1
  replace hx0:=hx0.below b1
  have B:=b1
  clear b1
  have hc:=jb _ _ x hx0
  rw[HD.out]at hc
  refine Calls.mono (hc) ?_
  rintro e w2 ⟨rfl,b2⟩
  replace hx0:=hx0.below b2
  replace oP:=oP.gone b2
  replace B:=B.trans (b2.mono B.size)
  clear b2
  clear hc
  have k1:=oP.cell (i:=0) rfl
  have k2:=oP.cell (i:=1) rfl
  have k3:=oP.cell (i:=2) rfl
  go_wp2
  go_ret
  exact⟨rfl,B⟩
 ·rw[if_neg h2]at hS
  have HD:=bx (decide_eq_false h2)
  clear h2
  by_cases h1:x.num<0
  ·rw[if_pos h1]at hS
   subst hS
   rw[decide_eq_true h1]at *
   go_enter Tryz.func14,Tryz.ntmps14
   go_wp2_with fail
   obtain⟨w1,e1,oP,b1,s1⟩:=dP w [.bool true,.slice bN (ae ah x.num.natAbs).length bP,.slice bO (ae ah x.den).length bQ] 38
   rw[e1]
   clear e1
   replace hx0:=hx0.below b1
   have B:=b1
   clear b1
   have hc:=jb _ _ x hx0
   rw[HD.out]at hc
   refine Calls.mono (hc) ?_
   rintro e w2 ⟨rfl,b2⟩
   replace hx0:=hx0.below b2
   replace oP:=oP.gone b2
   replace B:=B.trans (b2.mono B.size)
   clear b2
   clear hc
   have k1:=oP.cell (i:=0) rfl
   have k2:=oP.cell (i:=1) rfl
   have k3:=oP.cell (i:=2) rfl
   go_wp2
   go_ret
   exact⟨rfl,B⟩
  ·rw[if_neg h1]at hS
   subst hS
   rw[decide_eq_false h1]at *
   go_enter Tryz.func14,Tryz.ntmps14
   go_wp2_with fail
   obtain⟨w1,e1,oP,b1,s1⟩:=dP w [.bool false,.slice bN (ae ah x.num.natAbs).length bP,.slice bO (ae ah x.den).length bQ] 38
   rw[e1]
   clear e1
   replace hx0:=hx0.below b1
   have B:=b1
   clear b1
   have hc:=jb _ _ x hx0
   rw[HD.out]at hc
   refine Calls.mono (hc) ?_
   rintro e w2 ⟨rfl,b2⟩
   replace hx0:=hx0.below b2
   replace oP:=oP.gone b2
   replace B:=B.trans (b2.mono B.size)
   clear b2
   clear hc
   have k1:=oP.cell (i:=0) rfl
   have k2:=oP.cell (i:=1) rfl
   have k3:=oP.cell (i:=2) rfl
   go_wp2
   go_ret
   exact⟨rfl,B⟩
end Wx

namespace Wx
set_option maxRecDepth 100000
open Go Go.RowKit Go.Proofs
set_option maxHeartbeats 8000000 in
theorem IV (w:World) (vx vy:Value) (x y:Rat) (hx:cB w vx x) (hy:cB w vy y) {j k:Nat} (hj:bB j x) (hk:bB k y) (vv:j+k<=10000000):Calls Tryz.prog 39 #[vx,vy] w (iz w (x*y)):=by
 obtain⟨sP,sQ,rfl,cN,dH⟩:=id hx
 obtain⟨bN,bP,rfl,_⟩:=id cN
 obtain⟨bO,bQ,rfl,_⟩:=id dH
 obtain⟨GC,GD,rfl,gZ,gI⟩:=id hy
 obtain⟨cZ,dc,rfl,_⟩:=id gZ
 obtain⟨da,de,rfl,_⟩:=id gI
 have Gw:=x.den_pos
 have J0:=y.den_pos
 have HB:=bx (And.intro hj hk)
 have cM:j<=1000000000:=by omega
 have kX:k<=1000000000:=by omega
 have hx0:=hx
 have hy0:=hy
 clear hj hk hx hy
 go_enter Tryz.func39,Tryz.ntmps39
 go_wp2_with fail
 obtain⟨w1,e1,o1,b1,s1⟩:=dP w [.bool (decide (x.num<0)),.slice bN (ae ah x.num.natAbs).length bP,.slice bO (ae ah x.den).length bQ] 38
 obtain⟨w2,e2,o2,b2,s2⟩:=dP w1 [.bool (decide (y.num<0)),.slice cZ (ae ah y.num.natAbs).length dc,.slice da (ae ah y.den).length de] 38
 obtain⟨w3,e3,o3,b3,s3⟩:=dP w2 [.bool false,.slice none 0 0,.slice none 0 0] 38
 rw[e1,e2,e3]
 rw[s1]at o2
 rw[s2,s1]at o3
 have p1:=((o1.gone b2).gone b3)
 have p2:=(o2.gone b3)
 have p3:=o3
 have B0:=((b1.trans (b2.mono b1.size)).trans (b3.mono (b1.trans (b2.mono b1.size)).size))
 have hS:∀w',aU w (w.heap.size+2) 3 38 [(w.heap.size,[.bool (decide (x.num<0)),.slice bN (ae ah x.num.natAbs).length bP,.slice bO (ae ah x.den).length bQ],38),(w.heap.size+1,[.bool (decide (y.num<0)),.slice cZ (ae ah y.num.natAbs).length dc,.slice da (ae ah y.den).length de],38)] w'->aU w (w.heap.size+2) 3 38 [(w.heap.size,[.bool (decide (x.num<0)),.slice bN (ae ah x.num.natAbs).length bP,.slice bO (ae ah x.den).length bQ],38),(w.heap.size+1,[.bool (decide (y.num<0)),.slice cZ (ae ah y.num.natAbs).length dc,.slice da (ae ah y.den).length de],38)] w'/\w'.cell? ⟨w.heap.size,0,none⟩=some (.bool (decide (x.num<0)))/\w'.cell? ⟨w.heap.size,1,none⟩=some (.slice bN (ae ah x.num.natAbs).length bP)/\w'.cell? ⟨w.heap.size,2,none⟩=some (.slice bO (ae ah x.den).length bQ)/\w'.cell? ⟨w.heap.size+1,0,none⟩=some (.bool (decide (y.num<0)))/\w'.cell? ⟨w.heap.size+1,1,none⟩=some (.slice cZ (ae ah y.num.natAbs).length dc)/\w'.cell? ⟨w.heap.size+1,2,none⟩=some (.slice da (ae ah y.den).length de)/\w'.cell? ⟨w.heap.size+2,0,none⟩=some (cv w' ⟨w.heap.size+2,0,none⟩)/\w'.cell? ⟨w.heap.size+2,1,none⟩=some (cv w' ⟨w.heap.size+2,1,none⟩)/\w'.cell? ⟨w.heap.size+2,2,none⟩=some (cv w' ⟨w.heap.size+2,2,none⟩)/\w'.frozen? ⟨w.heap.size+2,0,none⟩=false/\w'.frozen? ⟨w.heap.size+2,1,none⟩=false/\w'.frozen? ⟨w.heap.size+2,2,none⟩=false:=λw' hh=>by
  have r1:=hh.par (p:=(w.heap.size,[.bool (decide (x.num<0)),.slice bN (ae ah x.num.natAbs).length bP,.slice bO (ae ah x.den).length bQ],38)) (by simp)
  have r2:=hh.par (p:=(w.heap.size+1,[.bool (decide (y.num<0)),.slice cZ (ae ah y.num.natAbs).length dc,.slice da (ae ah y.den).length de],38)) (by simp)
  exact⟨hh,r1.cell (i:=0) rfl,r1.cell (i:=1) rfl,r1.cell (i:=2) rfl,r2.cell (i:=0) rfl,r2.cell (i:=1) rfl,r2.cell (i:=2) rfl,hh.fC (i:=0) (by omega),hh.fC (i:=1) (by omega),hh.fC (i:=2) (by omega),hh.vH 0,hh.vH 1,hh.vH 2⟩
 have hz:aU w (w.heap.size+2) 3 38 [(w.heap.size,[.bool (decide (x.num<0)),.slice bN (ae ah x.num.natAbs).length bP,.slice bO (ae ah x.den).length bQ],38),(w.heap.size+1,[.bool (decide (y.num<0)),.slice cZ (ae ah y.num.natAbs).length dc,.slice da (ae ah y.den).length de],38)] w3:=⟨B0,by omega,by intro q hq; simp at hq; rcases hq with rfl|rfl; exact⟨by simp,p1⟩; exact⟨by simp,p2⟩,_,rfl,p3,cq⟩
 clear e1 e2 e3 o1 b1 s1 p1 o2 b2 s2 p2 o3 b3 s3 p3
 clear B0
 have hz:=hz.drew
 go_region_held3 (λw'=>aU w (w.heap.size+2) 3 38 [(w.heap.size,[.bool (decide (x.num<0)),.slice bN (ae ah x.num.natAbs).length bP,.slice bO (ae ah x.den).length bQ],38),(w.heap.size+1,[.bool (decide (y.num<0)),.slice cZ (ae ah y.num.natAbs).length dc,.slice da (ae ah y.den).length de],38)] w'/\w'.cell? ⟨w.heap.size,0,none⟩=some (.bool (decide (x.num<0)))/\w'.cell? ⟨w.heap.size,1,none⟩=some (.slice bN (ae ah x.num.natAbs).length bP)/\w'.cell? ⟨w.heap.size,2,none⟩=some (.slice bO (ae ah x.den).length bQ)/\w'.cell? ⟨w.heap.size+1,0,none⟩=some (.bool (decide (y.num<0)))/\w'.cell? ⟨w.heap.size+1,1,none⟩=some (.slice cZ (ae ah y.num.natAbs).length dc)/\w'.cell? ⟨w.heap.size+1,2,none⟩=some (.slice da (ae ah y.den).length de)/\w'.cell? ⟨w.heap.size+2,0,none⟩=some (cv w' ⟨w.heap.size+2,0,none⟩)/\w'.cell? ⟨w.heap.size+2,1,none⟩=some (cv w' ⟨w.heap.size+2,1,none⟩)/\w'.cell? ⟨w.heap.size+2,2,none⟩=some (cv w' ⟨w.heap.size+2,2,none⟩)/\w'.frozen? ⟨w.heap.size+2,0,none⟩=false/\w'.frozen? ⟨w.heap.size+2,1,none⟩=false/\w'.frozen? ⟨w.heap.size+2,2,none⟩=false)
  (first|exact hS _ hz|exact hS _ (aU.En hz))
  (first
   |(go_at_call 49; have hc:=ik _ _ _ _ _ (cN.below hz.1) (gZ.below hz.1) HB.out.1.1 HB.out.2.1 (by omega) (by omega); (with_reducible refine Calls.mono hc ?_); clear hc; rintro e wz ⟨SU,rfl,eX,hb⟩; (try have eY:=eY.below hb); (try have eZ:=eZ.below hb); (try have eX:=eX.below hb); (try have eW:=eW.below hb); (try have pF:=pF.below hb); (try have hs1:=hs1.below hb); have hz:=aU.call (And.intro hz trivial) hb)
   |(go_at_call 50; have hc:=dx _ _ x (hx0.below hz.1); (with_reducible refine Calls.mono hc ?_); clear hc; rintro e wz ⟨SX,rfl,eY,hb⟩; (try have eY:=eY.below hb); (try have eZ:=eZ.below hb); (try have eX:=eX.below hb); (try have eW:=eW.below hb); (try have pF:=pF.below hb); (try have hs1:=hs1.below hb); have hz:=aU.call (And.intro hz trivial) hb)
   |(go_at_call 50; have hc:=dx _ _ y (hy0.below hz.1); (with_reducible refine Calls.mono hc ?_); clear hc; rintro e wz ⟨SY,rfl,eZ,hb⟩; (try have eY:=eY.below hb); (try have eZ:=eZ.below hb); (try have eX:=eX.below hb); (try have eW:=eW.below hb); (try have pF:=pF.below hb); (try have hs1:=hs1.below hb); have hz:=aU.call (And.intro hz trivial) hb)
   |(go_at_call 49; have hc:=ik _ _ _ _ _ eY eZ HB.out.1.2 HB.out.2.2 (by omega) (by omega); (with_reducible refine Calls.mono hc ?_); clear hc; rintro e wz ⟨SV,rfl,eW,hb⟩; (try have eY:=eY.below hb); (try have eZ:=eZ.below hb); (try have eX:=eX.below hb); (try have eW:=eW.below hb); (try have pF:=pF.below hb); (try have hs1:=hs1.below hb); have hz:=aU.call (And.intro hz trivial) hb)
   |(go_at_call 48; have hc:=mQ _ (!(decide (x.num<0)==decide (y.num<0))) _ _ (x.num.natAbs*y.num.natAbs) (x.den*y.den) eX eW (Nat.mul_pos Gw J0) (HB.out.1.1.mul HB.out.2.1) (HB.out.1.2.mul HB.out.2.2) vv; (with_reducible refine Calls.mono hc ?_); clear hc; rintro e wz ⟨vr,rfl,hr,hb⟩; (try have eY:=eY.below hb); (try have eZ:=eZ.below hb); (try have eX:=eX.below hb); (try have eW:=eW.below hb); (try have pF:=pF.below hb); (try have hs1:=hs1.below hb); have hz:=aU.call (And.intro hz trivial) hb; replace hr:=Av hr (yH x y); obtain⟨Pm,Pn,rfl,Cb,hrb⟩:=id hr; obtain⟨rN,rS,rfl,_⟩:=id Cb; obtain⟨rO,rT,rfl,_⟩:=id hrb))
 all_goals (
  go_wp2
  obtain⟨wf,HW,ho,hB,hN⟩:=hz.fin [.bool (decide ((x*y).num<0)),.slice rN (ae ah (x*y).num.natAbs).length rS,.slice rO (ae ah (x*y).den).length rT] rfl cq
  simp only[cF,Nat.reduceAdd]at HW
  (try rw[HW])
  (try simp only[Exit.inBlock,Exit.then])
  have f0:=ho.cell (i:=0) rfl
  have f1:=ho.cell (i:=1) rfl
  have f2:=ho.cell (i:=2) rfl
  refine bodyPost_ret (by simp[results,Tryz.results39,go_sem,f0,f1,f2]; try rfl) rfl ?_
  exact⟨_,rfl,hr.into hN,hB⟩)
end Wx

namespace Wx
set_option maxRecDepth 100000
set_option maxHeartbeats 1000000
open Go Go.RowKit Go.Proofs
theorem FI (w:World) (vx vy:Value) (x y:Rat) (hx:cB w vx x) (hy:cB w vy y) (h0:y=0):Calls Tryz.prog 16 #[vx,vy] w (Dc w 0 3):=by
 obtain⟨sP,sQ,rfl,cN,dH⟩:=id hx
 obtain⟨bN,bP,rfl,_⟩:=id cN
 obtain⟨bO,bQ,rfl,_⟩:=id dH
 obtain⟨GC,GD,rfl,gZ,gI⟩:=id hy
 obtain⟨cZ,dc,rfl,_⟩:=id gZ
 obtain⟨da,de,rfl,_⟩:=id gI
 have hi:∀w,Calls Tryz.prog 29 #[.int .i64 0] w (iz w 0):=λw=>ug w 0 (by omega) (by omega)
 have HI:=bx hi
 have HD:=bx (decide_eq_true h0)
 have hy0:=hy
 clear hi h0 hx hy cN dH gZ gI
 generalize hq:(0:Rat)=q at HI
 have HQ:=bx hq
 clear hq
 go_enter Tryz.func16,Tryz.ntmps16
 go_wp2_with fail
 obtain⟨w1,e1,oX,b1,s1⟩:=dP w [.bool (decide (x.num<0)),.slice bN (ae ah x.num.natAbs).length bP,.slice bO (ae ah x.den).length bQ] 38
 rw[e1]
 clear e1
 replace hy0:=hy0.below b1
 have B:=b1
 clear b1
 obtain⟨w2,e2,oY,b2,s2⟩:=dP w1 [.bool (decide (y.num<0)),.slice cZ (ae ah y.num.natAbs).length dc,.slice da (ae ah y.den).length de] 38
 rw[e2]
 rw[s1]at oY
 clear e2
 replace hy0:=hy0.below b2
 replace oX:=oX.gone b2
 replace B:=B.trans (b2.mono B.size)
 clear b2
 obtain⟨w3,e3,oR,b3,s3⟩:=dP w2 [.bool false,.slice none 0 0,.slice none 0 0] 38
 rw[e3]
 rw[s2,s1]at oR
 clear e3
 replace hy0:=hy0.below b3
 replace oX:=oX.gone b3
 replace oY:=oY.gone b3
 replace B:=B.trans (b3.mono B.size)
 clear b3
 have hc:=jb _ _ y hy0
 rw[HD.out]at hc
 refine Calls.mono (hc) ?_
 rintro e w4 ⟨rfl,b4⟩
 replace hy0:=hy0.below b4
 replace oX:=oX.gone b4
 replace oY:=oY.gone b4
 replace oR:=oR.gone b4
 replace B:=B.trans (b4.mono B.size)
 clear b4
 clear hc
 go_wp2_with fail
 refine Calls.mono (HI.out _) ?_
 rintro e w5 ⟨vr,rfl,hr,b5⟩
 replace hy0:=hy0.below b5
 replace oX:=oX.gone b5
 replace oY:=oY.gone b5
 replace oR:=oR.gone b5
 replace B:=B.trans (b5.mono B.size)
 clear b5
 obtain⟨Pm,Pn,rfl,Cb,hrb⟩:=id hr
 obtain⟨rN,rS,rfl,_⟩:=id Cb
 obtain⟨rO,rT,rfl,_⟩:=id hrb
 have k1:=oR.cell (i:=0) rfl
 have k2:=oR.fz 0
 have k3:=oR.cell (i:=1) rfl
 have k4:=oR.fz 1
 have k5:=oR.cell (i:=2) rfl
 have k6:=oR.fz 2
 go_wp2
 obtain⟨wf,HW,ho,_,hN,B7,_⟩:=oR.put gb [.bool (decide (q.num<0)),.slice rN (ae ah q.num.natAbs).length rS,.slice rO (ae ah q.den).length rT] rfl cq
 simp only[cF,Nat.reduceAdd]at HW
 (try rw[HW])
 (try simp only[Exit.inBlock,Exit.then])
 have f0:=ho.cell (i:=0) rfl
 have f1:=ho.cell (i:=1) rfl
 have f2:=ho.cell (i:=2) rfl
 refine bodyPost_ret (by simp[results,Tryz.results16,go_sem,f0,f1,f2]; try rfl) rfl ?_
 have HB:=B7 _ (by omega) B
 exact⟨_,rfl,hr.into hN,HB⟩
set_option maxHeartbeats 8000000 in
theorem IQ (w:World) (vx vy:Value) (x y:Rat) (hx:cB w vx x) (hy:cB w vy y) (qz:y.num≠0) {j k:Nat} (hj:bB j x) (hk:bB k y) (vv:j+k<=10000000):Calls Tryz.prog 16 #[vx,vy] w (Dc w (x/y) 0):=by
 have HY:=bx qz
 have HD:=bx (decide_eq_false (mt (Rat.num_eq_zero (q:=y)).2 qz))
 clear qz
 obtain⟨sP,sQ,rfl,cN,dH⟩:=id hx
 obtain⟨bN,bP,rfl,_⟩:=id cN
 obtain⟨bO,bQ,rfl,_⟩:=id dH
 obtain⟨GC,GD,rfl,gZ,gI⟩:=id hy
 obtain⟨cZ,dc,rfl,_⟩:=id gZ
 obtain⟨da,de,rfl,_⟩:=id gI
 have Gw:=x.den_pos
 have J0:=y.den_pos
 have HB:=bx (And.intro hj hk)
 have cM:j<=1000000000:=by omega
 have kX:k<=1000000000:=by omega
 have hx0:=hx
 have hy0:=hy
 clear hj hk hx hy
 go_enter Tryz.func16,Tryz.ntmps16
 go_wp2_with fail
 obtain⟨w1,e1,oX,b1,s1⟩:=dP w [.bool (decide (x.num<0)),.slice bN (ae ah x.num.natAbs).length bP,.slice bO (ae ah x.den).length bQ] 38
 rw[e1]
 clear e1
 replace hy0:=hy0.below b1
 replace hx0:=hx0.below b1
 replace cN:=cN.below b1
 replace dH:=dH.below b1
 replace gZ:=gZ.below b1
 replace gI:=gI.below b1
 have B:=b1
 clear b1
 obtain⟨w2,e2,oY,b2,s2⟩:=dP w1 [.bool (decide (y.num<0)),.slice cZ (ae ah y.num.natAbs).length dc,.slice da (ae ah y.den).length de] 38
 rw[e2]
 rw[s1]at oY
 clear e2
 replace hy0:=hy0.below b2
 replace hx0:=hx0.below b2
 replace cN:=cN.below b2
 replace dH:=dH.below b2
 replace gZ:=gZ.below b2
 replace gI:=gI.below b2
 replace oX:=oX.gone b2
 replace B:=B.trans (b2.mono B.size)
 clear b2
 obtain⟨w3,e3,oR,b3,s3⟩:=dP w2 [.bool false,.slice none 0 0,.slice none 0 0] 38
 rw[e3]
 rw[s2,s1]at oR
 clear e3
 replace hy0:=hy0.below b3
 replace hx0:=hx0.below b3
 replace cN:=cN.below b3
 replace dH:=dH.below b3
 replace gZ:=gZ.below b3
 replace gI:=gI.below b3
 replace oX:=oX.gone b3
 replace oY:=oY.gone b3
 replace B:=B.trans (b3.mono B.size)
 clear b3
 have hc:=jb _ _ y hy0
 rw[HD.out]at hc
 refine Calls.mono (hc) ?_
 rintro e w4 ⟨rfl,b4⟩
 replace hy0:=hy0.below b4
 replace hx0:=hx0.below b4
 replace cN:=cN.below b4
 replace dH:=dH.below b4
 replace gZ:=gZ.below b4
 replace gI:=gI.below b4
 replace oX:=oX.gone b4
 replace oY:=oY.gone b4
 replace oR:=oR.gone b4
 replace B:=B.trans (b4.mono B.size)
 clear b4
 clear hc
 go_wp2_with fail
 have hS:∀w',aU w (w.heap.size+1+1) 3 38 [(w.heap.size,[.bool (decide (x.num<0)),.slice bN (ae ah x.num.natAbs).length bP,.slice bO (ae ah x.den).length bQ],38),(w.heap.size+1,[.bool (decide (y.num<0)),.slice cZ (ae ah y.num.natAbs).length dc,.slice da (ae ah y.den).length de],38)] w'->aU w (w.heap.size+1+1) 3 38 [(w.heap.size,[.bool (decide (x.num<0)),.slice bN (ae ah x.num.natAbs).length bP,.slice bO (ae ah x.den).length bQ],38),(w.heap.size+1,[.bool (decide (y.num<0)),.slice cZ (ae ah y.num.natAbs).length dc,.slice da (ae ah y.den).length de],38)] w'/\w'.cell? ⟨w.heap.size,0,none⟩=some (.bool (decide (x.num<0)))/\w'.cell? ⟨w.heap.size,1,none⟩=some (.slice bN (ae ah x.num.natAbs).length bP)/\w'.cell? ⟨w.heap.size,2,none⟩=some (.slice bO (ae ah x.den).length bQ)/\w'.cell? ⟨w.heap.size+1,0,none⟩=some (.bool (decide (y.num<0)))/\w'.cell? ⟨w.heap.size+1,1,none⟩=some (.slice cZ (ae ah y.num.natAbs).length dc)/\w'.cell? ⟨w.heap.size+1,2,none⟩=some (.slice da (ae ah y.den).length de)/\w'.cell? ⟨w.heap.size+1+1,0,none⟩=some (cv w' ⟨w.heap.size+1+1,0,none⟩)/\w'.cell? ⟨w.heap.size+1+1,1,none⟩=some (cv w' ⟨w.heap.size+1+1,1,none⟩)/\w'.cell? ⟨w.heap.size+1+1,2,none⟩=some (cv w' ⟨w.heap.size+1+1,2,none⟩)/\w'.frozen? ⟨w.heap.size+1+1,0,none⟩=false/\w'.frozen? ⟨w.heap.size+1+1,1,none⟩=false/\w'.frozen? ⟨w.heap.size+1+1,2,none⟩=false:=λw' hh=>by
  have r1:=hh.par (p:=(w.heap.size,[.bool (decide (x.num<0)),.slice bN (ae ah x.num.natAbs).length bP,.slice bO (ae ah x.den).length bQ],38)) (by simp)
  have r2:=hh.par (p:=(w.heap.size+1,[.bool (decide (y.num<0)),.slice cZ (ae ah y.num.natAbs).length dc,.slice da (ae ah y.den).length de],38)) (by simp)
  exact⟨hh,r1.cell (i:=0) rfl,r1.cell (i:=1) rfl,r1.cell (i:=2) rfl,r2.cell (i:=0) rfl,r2.cell (i:=1) rfl,r2.cell (i:=2) rfl,hh.fC (i:=0) (by omega),hh.fC (i:=1) (by omega),hh.fC (i:=2) (by omega),hh.vH 0,hh.vH 1,hh.vH 2⟩
 have hz:aU w (w.heap.size+1+1) 3 38 [(w.heap.size,[.bool (decide (x.num<0)),.slice bN (ae ah x.num.natAbs).length bP,.slice bO (ae ah x.den).length bQ],38),(w.heap.size+1,[.bool (decide (y.num<0)),.slice cZ (ae ah y.num.natAbs).length dc,.slice da (ae ah y.den).length de],38)] w4:=⟨B,by omega,by intro q hq; simp at hq; rcases hq with rfl|rfl; exact⟨(by show w.heap.size≠w.heap.size+1+1; omega),oX⟩; exact⟨(by show w.heap.size+1≠w.heap.size+1+1; omega),oY⟩,_,rfl,oR,cq⟩
 clear oX oY oR B s1 s2 s3
 have hx0:=hx0.drew
 have hy0:=hy0.drew
 have cN:bt .u32 ah w4.drew _ _:=cN
 have gZ:bt .u32 ah w4.drew _ _:=gZ
 have hz:=hz.drew
 go_region_held3 (λw'=>aU w (w.heap.size+1+1) 3 38 [(w.heap.size,[.bool (decide (x.num<0)),.slice bN (ae ah x.num.natAbs).length bP,.slice bO (ae ah x.den).length bQ],38),(w.heap.size+1,[.bool (decide (y.num<0)),.slice cZ (ae ah y.num.natAbs).length dc,.slice da (ae ah y.den).length de],38)] w'/\w'.cell? ⟨w.heap.size,0,none⟩=some (.bool (decide (x.num<0)))/\w'.cell? ⟨w.heap.size,1,none⟩=some (.slice bN (ae ah x.num.natAbs).length bP)/\w'.cell? ⟨w.heap.size,2,none⟩=some (.slice bO (ae ah x.den).length bQ)/\w'.cell? ⟨w.heap.size+1,0,none⟩=some (.bool (decide (y.num<0)))/\w'.cell? ⟨w.heap.size+1,1,none⟩=some (.slice cZ (ae ah y.num.natAbs).length dc)/\w'.cell? ⟨w.heap.size+1,2,none⟩=some (.slice da (ae ah y.den).length de)/\w'.cell? ⟨w.heap.size+1+1,0,none⟩=some (cv w' ⟨w.heap.size+1+1,0,none⟩)/\w'.cell? ⟨w.heap.size+1+1,1,none⟩=some (cv w' ⟨w.heap.size+1+1,1,none⟩)/\w'.cell? ⟨w.heap.size+1+1,2,none⟩=some (cv w' ⟨w.heap.size+1+1,2,none⟩)/\w'.frozen? ⟨w.heap.size+1+1,0,none⟩=false/\w'.frozen? ⟨w.heap.size+1+1,1,none⟩=false/\w'.frozen? ⟨w.heap.size+1+1,2,none⟩=false)
  (first|exact hS _ hz|exact hS _ (aU.En hz))
  (first
   |(go_at_call 50; have hc:=dx _ _ x hx0; (with_reducible refine Calls.mono hc ?_); clear hc; rintro e wz ⟨SX,rfl,eY,hb⟩; (try have eY:=eY.below hb); (try have eZ:=eZ.below hb); (try have eX:=eX.below hb); (try have eW:=eW.below hb); (try have hx0:=hx0.below hb); (try have hy0:=hy0.below hb); (try have cN:=cN.below hb); (try have dH:=dH.below hb); (try have gZ:=gZ.below hb); (try have gI:=gI.below hb); have hz:=aU.call (And.intro hz trivial) hb)
   |(go_at_call 50; have hc:=dx _ _ y hy0; (with_reducible refine Calls.mono hc ?_); clear hc; rintro e wz ⟨SY,rfl,eZ,hb⟩; (try have eY:=eY.below hb); (try have eZ:=eZ.below hb); (try have eX:=eX.below hb); (try have eW:=eW.below hb); (try have hx0:=hx0.below hb); (try have hy0:=hy0.below hb); (try have cN:=cN.below hb); (try have dH:=dH.below hb); (try have gZ:=gZ.below hb); (try have gI:=gI.below hb); have hz:=aU.call (And.intro hz trivial) hb)
   |(go_at_call 49; have hc:=ik _ _ _ _ _ cN eZ HB.out.1.1 HB.out.2.2 (by omega) (by omega); (with_reducible refine Calls.mono hc ?_); clear hc; rintro e wz ⟨SU,rfl,eX,hb⟩; (try have eY:=eY.below hb); (try have eZ:=eZ.below hb); (try have eX:=eX.below hb); (try have eW:=eW.below hb); (try have hx0:=hx0.below hb); (try have hy0:=hy0.below hb); (try have cN:=cN.below hb); (try have dH:=dH.below hb); (try have gZ:=gZ.below hb); (try have gI:=gI.below hb); have hz:=aU.call (And.intro hz trivial) hb)
   |(go_at_call 49; have hc:=ik _ _ _ _ _ eY gZ HB.out.1.2 HB.out.2.1 (by omega) (by omega); (with_reducible refine Calls.mono hc ?_); clear hc; rintro e wz ⟨SV,rfl,eW,hb⟩; (try have eY:=eY.below hb); (try have eZ:=eZ.below hb); (try have eX:=eX.below hb); (try have eW:=eW.below hb); (try have hx0:=hx0.below hb); (try have hy0:=hy0.below hb); (try have cN:=cN.below hb); (try have dH:=dH.below hb); (try have gZ:=gZ.below hb); (try have gI:=gI.below hb); have hz:=aU.call (And.intro hz trivial) hb)
   |(go_at_call 48; have hc:=mQ _ (!(decide (x.num<0)==decide (y.num<0))) _ _ (x.num.natAbs*y.den) (x.den*y.num.natAbs) eX eW (Nat.mul_pos Gw (by have:=HY.out; omega)) (HB.out.1.1.mul HB.out.2.2) (HB.out.1.2.mul HB.out.2.1) vv; (with_reducible refine Calls.mono hc ?_); clear hc; rintro e wz ⟨vr,rfl,hr,hb⟩; (try have eY:=eY.below hb); (try have eZ:=eZ.below hb); (try have eX:=eX.below hb); (try have eW:=eW.below hb); (try have hx0:=hx0.below hb); (try have hy0:=hy0.below hb); (try have cN:=cN.below hb); (try have dH:=dH.below hb); (try have gZ:=gZ.below hb); (try have gI:=gI.below hb); have hz:=aU.call (And.intro hz trivial) hb; replace hr:=Av hr (yh x y HY.out); obtain⟨Pm,Pn,rfl,Cb,hrb⟩:=id hr; obtain⟨rN,rS,rfl,_⟩:=id Cb; obtain⟨rO,rT,rfl,_⟩:=id hrb))
 all_goals (
  go_wp2
  obtain⟨wf,HW,ho,hB,hN⟩:=hz.fin [.bool (decide ((x/y).num<0)),.slice rN (ae ah (x/y).num.natAbs).length rS,.slice rO (ae ah (x/y).den).length rT] rfl cq
  simp only[cF,Nat.reduceAdd]at HW
  (try rw[HW])
  (try simp only[Exit.inBlock,Exit.then])
  have f0:=ho.cell (i:=0) rfl
  have f1:=ho.cell (i:=1) rfl
  have f2:=ho.cell (i:=2) rfl
  refine bodyPost_ret (by simp[results,Tryz.results16,go_sem,f0,f1,f2]; try rfl) rfl ?_
  exact⟨_,rfl,hr.into hN,hB⟩)
end Wx

namespace Wx
open Go Go.RowKit Go.Proofs
theorem Ev:Ty Tryz.prog 36 false 1:=⟨λ_=>by kernel_rfl,λ_=>by kernel_rfl,by decide⟩
end Wx
