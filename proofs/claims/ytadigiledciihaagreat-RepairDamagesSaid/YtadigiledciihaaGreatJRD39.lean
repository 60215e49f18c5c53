import Derived.Test.YtadigiledciihaaGreatCRDRep1
namespace Wx
open Go Go.RowKit
set_option linter.unusedVariables false
section
variable {P:Program} {ops:Array Oper} {ms:List Nat} {c:cT} {V:List Vr} {A:List Al} {G:List aS} {i:Nat}{d:Nat} {x y z:Operand} {ty:TypeId} {pos:String} {aJ:Array Edge}
theorem Mc {f:FuncId} {ts:Array TypeId} {p p1 q1:Pred} {φ ψ:Prop} (hψ:ψ) (ic:φ->∀w v1,p1 w v1->Calls P f #[v1] w (eJ p w)) (h1:Has ms G i x q1:=by exact hg) (c1:∀w v,q1 w v->p1 w v:=by exact sr) (hp:Post G i p:=by exact pg (by assumption) rfl) (hφ:φ:=by first|omega|trivial) (hn:au p:=by exact Ba) (hf:aK P f:=by exactλ_ _=>by kernel_rfl):
  OpOk P ops ms c V A G i ⟨some d,.call ⟨.value (.func f),#[x],ts⟩,ty,pos,aJ,none⟩:=(λ_:ψ=>fh hf hn (h1.imp c1) hp (ic hφ)) hψ
end
end Wx

namespace Wx
set_option maxRecDepth 100000
set_option maxHeartbeats 1000000
open Go Go.RowKit Go.Proofs
set_option linter.unusedVariables false
attribute [local irreducible] OpOk
theorem Fg {x y:Rat} {j k:Nat} (h:j+k<=100000000):K2 Tryz.prog 49 (pR j x) (pR k y) (pR (j+k) (x/y)):=by
 intro M w0 v0 v1 hM hv0 jP
 refine vL (N:=14) Tryz.func49 rfl rfl rfl hM hv0 jP λa hI=>?_
 refine bZ hI 3 [⟨2,2,some 0,none,.ptr,54,3,true,pv _,[]⟩,⟨3,3,some 1,none,.ptr,54,3,true,pv _,[]⟩,⟨4,4,some 2,none,.ptr,54,3,true,pv _,[]⟩] [] [] .z (.kk .z) ⟨bo,bo,xy [.r],trivial⟩ (.k (.k (.k .z))) (.dd .z) λa w hI=>?_
 refine bZ hI 9 [⟨5,5,some 6,none,.ptr,54,3,true,pv _,[(7,pv _)]⟩] [] [Uc 0 8 _,Uc 1 9 _,Uc 2 10 _,Uc 3 7 _,Uc 4 11 _,Uc 5 12 _,Uc 8 6 _] (.k (.k (.k .z))) .z ⟨ld,ld,DL LH,mv,ext,ext,xy [.r],pz,mv,trivial⟩ (.d (.d (.k (.s .o .z)))) (.dH (.LQ .z)) λa w hI=>?_
 refine bZ hI 2 [] [] [Uc 0 13 _] (.u none [(1,pv _)] (.k .z)) .z ⟨ld,pz,trivial⟩ (.s .o (.d .z)) (.d .z) λa w hI=>?_
 refine aM ?_
 exact cN hI rfl F8
end Wx

namespace Wx
set_option maxRecDepth 100000
set_option maxHeartbeats 1000000
open Go Go.RowKit Go.Proofs
theorem lC (w:World) (v:Value) (q:Rat) (h:dn w v q):Calls Tryz.prog 52 #[v] w (eC w (.bool (decide (q=0)))):=by
 obtain⟨vn,vd,rfl,h1,h2⟩:=h
 obtain⟨A1,c1,rfl,_⟩:=id h1
 obtain⟨A2,c2,rfl,_⟩:=id h2
 have hz:(((ae ai q.num.natAbs).length:Int)==0)=decide (q=0):=by
  by_cases hq:q=0
  ·rw[hq,decide_eq_true rfl]; rfl
  ·rw[decide_eq_false hq,beq_eq_false_iff_ne]
   have:=(ax (n:=q.num.natAbs) aj).2 (by have:=mt (jr q).1 hq; omega)
   omega
 generalize (ae ai q.num.natAbs).length=L1 at *
 go_enter Tryz.func52,Tryz.ntmps52
 go_wp2
 go_ret
 exact⟨rfl,Below.alloc (Below.refl _ _) (Nat.le_refl _) _⟩
theorem EI (w:World) (v:Value) (q:Rat) (hx:dn w v q):Calls Tryz.prog 103 #[v] w (gY w (-q)):=by
 obtain⟨BJ,BK,rfl,je,gH⟩:=id hx
 obtain⟨cH,cJ,rfl,_⟩:=id je
 obtain⟨cI,cK,rfl,_⟩:=id gH
 have hf:=EE q
 have hn:(-q).num.natAbs=q.num.natAbs:=by rw[Rat.neg_num,Int.natAbs_neg]
 have hd:(-q).den=q.den:=rfl
 have hx0:=hx
 clear hx
 generalize decide (q.num<0)=neg at *
 cases neg
 ·simp only[Bool.not_false,Bool.true_and]at hf
  go_enter Tryz.func103,Tryz.ntmps103
  go_wp2_with fail
  obtain⟨w1,e1,o1,b1,s1⟩:=iO w [.bool false,.slice cH (ae ai q.num.natAbs).length cJ,.slice cI (ae ai q.den).length cK] 61
  obtain⟨w2,e2,o2,b2,s2⟩:=iO w1 [.bool false,.slice none 0 0,.slice none 0 0] 61
  rw[e1,e2]
  rw[s1]at o2
  have p1:=(o1.gone b2)
  have p2:=o2
  have B0:=(b1.trans (b2.mono b1.size))
  have hS:∀w',aY w (w.heap.size+1) 3 61 [(w.heap.size,[.bool false,.slice cH (ae ai q.num.natAbs).length cJ,.slice cI (ae ai q.den).length cK],61)] w'->aY w (w.heap.size+1) 3 61 [(w.heap.size,[.bool false,.slice cH (ae ai q.num.natAbs).length cJ,.slice cI (ae ai q.den).length cK],61)] w'/\w'.cell? ⟨w.heap.size,0,none⟩=some (.bool false)/\w'.cell? ⟨w.heap.size,1,none⟩=some (.slice cH (ae ai q.num.natAbs).length cJ)/\w'.cell? ⟨w.heap.size,2,none⟩=some (.slice cI (ae ai q.den).length cK)/\w'.cell? ⟨w.heap.size+1,0,none⟩=some (cv w' ⟨w.heap.size+1,0,none⟩)/\w'.cell? ⟨w.heap.size+1,1,none⟩=some (cv w' ⟨w.heap.size+1,1,none⟩)/\w'.cell? ⟨w.heap.size+1,2,none⟩=some (cv w' ⟨w.heap.size+1,2,none⟩)/\w'.frozen? ⟨w.heap.size+1,0,none⟩=false/\w'.frozen? ⟨w.heap.size+1,1,none⟩=false/\w'.frozen? ⟨w.heap.size+1,2,none⟩=false:=λw' hh=>by
   have r1:=hh.par (p:=(w.heap.size,[.bool false,.slice cH (ae ai q.num.natAbs).length cJ,.slice cI (ae ai q.den).length cK],61)) (by simp)
   exact⟨hh,r1.cell (i:=0) rfl,r1.cell (i:=1) rfl,r1.cell (i:=2) rfl,hh.jG (i:=0) (by omega),hh.jG (i:=1) (by omega),hh.jG (i:=2) (by omega),hh.Dm 0,hh.Dm 1,hh.Dm 2⟩
  have hz:aY w (w.heap.size+1) 3 61 [(w.heap.size,[.bool false,.slice cH (ae ai q.num.natAbs).length cJ,.slice cI (ae ai q.den).length cK],61)] w2:=⟨B0,by omega,by intro q hq; simp at hq; subst hq; exact⟨by simp,p1⟩,_,rfl,p2,dP⟩
  clear e1 e2 o1 b1 s1 p1 o2 b2 s2 p2
  clear B0
  have hz:=hz.drew
  go_region_held3 (λw'=>aY w (w.heap.size+1) 3 61 [(w.heap.size,[.bool false,.slice cH (ae ai q.num.natAbs).length cJ,.slice cI (ae ai q.den).length cK],61)] w'/\w'.cell? ⟨w.heap.size,0,none⟩=some (.bool false)/\w'.cell? ⟨w.heap.size,1,none⟩=some (.slice cH (ae ai q.num.natAbs).length cJ)/\w'.cell? ⟨w.heap.size,2,none⟩=some (.slice cI (ae ai q.den).length cK)/\w'.cell? ⟨w.heap.size+1,0,none⟩=some (cv w' ⟨w.heap.size+1,0,none⟩)/\w'.cell? ⟨w.heap.size+1,1,none⟩=some (cv w' ⟨w.heap.size+1,1,none⟩)/\w'.cell? ⟨w.heap.size+1,2,none⟩=some (cv w' ⟨w.heap.size+1,2,none⟩)/\w'.frozen? ⟨w.heap.size+1,0,none⟩=false/\w'.frozen? ⟨w.heap.size+1,1,none⟩=false/\w'.frozen? ⟨w.heap.size+1,2,none⟩=false)
   (first|exact hS _ hz|exact hS _ (aY.Fv hz))
   (first
    |(go_at_call 52; have hc:=lC _ _ q (hx0.below hz.1); (with_reducible refine Calls.mono hc ?_); clear hc; rintro e wz ⟨rfl,hb⟩; have hz:=aY.call (And.intro hz trivial) hb))
  all_goals (
   go_wp2
   obtain⟨wf,HW,ho,hB,hN⟩:=hz.fin [.bool (!decide (q=0)),.slice cH (ae ai q.num.natAbs).length cJ,.slice cI (ae ai q.den).length cK] rfl dP
   simp only[cS,Nat.reduceAdd]at HW
   (try rw[HW])
   (try simp only[Exit.inBlock,Exit.then])
   have f0:=ho.cell (i:=0) rfl
   have f1:=ho.cell (i:=1) rfl
   have f2:=ho.cell (i:=2) rfl
   refine bodyPost_ret (by simp[results,Tryz.results103,go_sem,f0,f1,f2]; try rfl) rfl ?_
   exact⟨_,rfl,⟨_,_,by rw[hf],by rw[hn]; exact hN _ _ _ _ (je.below hz.1),by rw[hd]; exact hN _ _ _ _ (gH.below hz.1)⟩,hB⟩)
 ·simp only[Bool.not_true,Bool.false_and]at hf
  clear hx0
  go_enter Tryz.func103,Tryz.ntmps103
  go_wp2_with fail
  obtain⟨w1,e1,o1,b1,s1⟩:=iO w [.bool true,.slice cH (ae ai q.num.natAbs).length cJ,.slice cI (ae ai q.den).length cK] 61
  obtain⟨w2,e2,o2,b2,s2⟩:=iO w1 [.bool false,.slice none 0 0,.slice none 0 0] 61
  rw[e1,e2]
  rw[s1]at o2
  have p1:=(o1.gone b2)
  have p2:=o2
  have B0:=(b1.trans (b2.mono b1.size))
  have hS:∀w',aY w (w.heap.size+1) 3 61 [(w.heap.size,[.bool true,.slice cH (ae ai q.num.natAbs).length cJ,.slice cI (ae ai q.den).length cK],61)] w'->aY w (w.heap.size+1) 3 61 [(w.heap.size,[.bool true,.slice cH (ae ai q.num.natAbs).length cJ,.slice cI (ae ai q.den).length cK],61)] w'/\w'.cell? ⟨w.heap.size,0,none⟩=some (.bool true)/\w'.cell? ⟨w.heap.size,1,none⟩=some (.slice cH (ae ai q.num.natAbs).length cJ)/\w'.cell? ⟨w.heap.size,2,none⟩=some (.slice cI (ae ai q.den).length cK)/\w'.cell? ⟨w.heap.size+1,0,none⟩=some (cv w' ⟨w.heap.size+1,0,none⟩)/\w'.cell? ⟨w.heap.size+1,1,none⟩=some (cv w' ⟨w.heap.size+1,1,none⟩)/\w'.cell? ⟨w.heap.size+1,2,none⟩=some (cv w' ⟨w.heap.size+1,2,none⟩)/\w'.frozen? ⟨w.heap.size+1,0,none⟩=false/\w'.frozen? ⟨w.heap.size+1,1,none⟩=false/\w'.frozen? ⟨w.heap.size+1,2,none⟩=false:=λw' hh=>by
   have r1:=hh.par (p:=(w.heap.size,[.bool true,.slice cH (ae ai q.num.natAbs).length cJ,.slice cI (ae ai q.den).length cK],61)) (by simp)
   exact⟨hh,r1.cell (i:=0) rfl,r1.cell (i:=1) rfl,r1.cell (i:=2) rfl,hh.jG (i:=0) (by omega),hh.jG (i:=1) (by omega),hh.jG (i:=2) (by omega),hh.Dm 0,hh.Dm 1,hh.Dm 2⟩
  have hz:aY w (w.heap.size+1) 3 61 [(w.heap.size,[.bool true,.slice cH (ae ai q.num.natAbs).length cJ,.slice cI (ae ai q.den).length cK],61)] w2:=⟨B0,by omega,by intro q hq; simp at hq; subst hq; exact⟨by simp,p1⟩,_,rfl,p2,dP⟩
  clear e1 e2 o1 b1 s1 p1 o2 b2 s2 p2
  clear B0
  obtain⟨_,k0,k1,k2,k3,k4,k5,k6,k7,k8⟩:=hS _ hz
  go_region
  all_goals (
   go_wp2
   obtain⟨wf,HW,ho,hB,hN⟩:=hz.fin [.bool false,.slice cH (ae ai q.num.natAbs).length cJ,.slice cI (ae ai q.den).length cK] rfl dP
   simp only[cS,Nat.reduceAdd]at HW
   (try rw[HW])
   (try simp only[Exit.inBlock,Exit.then])
   have f0:=ho.cell (i:=0) rfl
   have f1:=ho.cell (i:=1) rfl
   have f2:=ho.cell (i:=2) rfl
   refine bodyPost_ret (by simp[results,Tryz.results103,go_sem,f0,f1,f2]; try rfl) rfl ?_
   have hR:gY w (-q) (.returned _) wf:=⟨_,rfl,⟨_,_,by rw[hf],by rw[hn]; exact hN _ _ _ _ (je.below hz.1),by rw[hd]; exact hN _ _ _ _ (gH.below hz.1)⟩,hB⟩
   first|exact hR|(obtain⟨v,h1,h2,h3⟩:=hR; exact⟨v,h1,h2.drew,h3.drew⟩))
theorem sH (w:World) (z:Int) (h1:-9223372036854775808<=z) (h2:z<=9223372036854775807):Calls Tryz.prog 68 #[.int .i64 z] w (dG .u32 ai w z.natAbs):=by
 have Ga:Bx (z.natAbs<b64):=bx (by unfold b64; omega)
 by_cases hz:z<0
 ·have e1:IntKind.u64.wrap (-IntKind.u64.wrap z)=((z.natAbs:Nat):Int):=by
   simp[IntKind.wrap,IntKind.bits,IntKind.signed]; omega
  have E1:=bx e1
  clear e1
  go_enter Tryz.func68,Tryz.ntmps68
  go_wp2_with fail
  rw[E1.out]
  refine(gO w _ Ga.out).mono ?_
  rintro e w3 ⟨vr,rfl,hr3,hb3⟩
  go_wp2
  go_ret
  exact⟨_,rfl,hr3,hb3⟩
 ·have e1:z=((z.natAbs:Nat):Int):=by omega
  have E1:=bx e1
  clear e1
  go_enter Tryz.func68,Tryz.ntmps68
  go_wp2_with fail
  have hc:=gO w _ Ga.out
  rw[<-E1.out]at hc
  refine hc.mono ?_
  rintro e w3 ⟨vr,rfl,hr3,hb3⟩
  go_wp2
  go_ret
  exact⟨_,rfl,hr3,hb3⟩
theorem Eo (z:Int):cz (decide (z<0)) z.natAbs 1=(z:Rat):=by
 unfold cz
 rw[ya,Rat.mkRat_one]
theorem EF (w:World) (z:Int) (h1:-9223372036854775808<=z) (h2:z<=9223372036854775807):Calls Tryz.prog 34 #[.int .i64 z] w (gY w (z:Rat)):=by
 have H:=bx (And.intro h1 h2)
 have hB:Bx (Bd 64 z.natAbs):=bx (by unfold Bd; omega)
 generalize hq:(z:Rat)=q
 have HQ:=bx hq
 clear h1 h2 hq
 go_enter Tryz.func34,Tryz.ntmps34
 go_wp2_with fail
 obtain⟨w1,e1,oR,b1,s1⟩:=iO w [.bool false,.slice none 0 0,.slice none 0 0] 61
 rw[e1]
 clear e1
 have B:=b1
 clear b1
 refine Calls.mono (sH _ z H.out.1 H.out.2) ?_
 rintro e w2 ⟨v1,rfl,h1,b2⟩
 replace oR:=oR.gone b2
 replace B:=B.trans (b2.mono B.size)
 clear b2
 go_wp2_with fail
 refine Calls.mono (gO _ 1 (by unfold b64; omega)) ?_
 rintro e w3 ⟨v2,rfl,h2,b3⟩
 replace oR:=oR.gone b3
 replace h1:=h1.below b3
 replace B:=B.trans (b3.mono B.size)
 clear b3
 go_wp2_with fail
 have hc:=qX _ (decide (z<0)) _ _ z.natAbs 1 h1 h2 (by omega) hB.out (by unfold Bd; omega) (by omega)
 rw[Eo,HQ.out]at hc
 clear h1 h2
 refine Calls.mono (hc) ?_
 rintro e w4 ⟨vr,rfl,hr,b4⟩
 replace oR:=oR.gone b4
 replace B:=B.trans (b4.mono B.size)
 clear b4
 clear hc
 obtain⟨Sl,Sm,rfl,MX,hrb⟩:=id hr
 obtain⟨Ie,Iu,rfl,_⟩:=id MX
 obtain⟨Ig,Iv,rfl,_⟩:=id hrb
 have k1:=oR.cell (i:=0) rfl
 have k2:=oR.fz 0
 have k3:=oR.cell (i:=1) rfl
 have k4:=oR.fz 1
 have k5:=oR.cell (i:=2) rfl
 have k6:=oR.fz 2
 go_wp2
 obtain⟨wf,HW,ho,_,hN,J5,_⟩:=oR.put lA [.bool (decide (q.num<0)),.slice Ie (ae ai q.num.natAbs).length Iu,.slice Ig (ae ai q.den).length Iv] rfl dP
 simp only[cS,Nat.reduceAdd]at HW
 (try rw[HW])
 (try simp only[Exit.inBlock,Exit.then])
 have f0:=ho.cell (i:=0) rfl
 have f1:=ho.cell (i:=1) rfl
 have f2:=ho.cell (i:=2) rfl
 refine bodyPost_ret (by simp[results,Tryz.results34,go_sem,f0,f1,f2]; try rfl) rfl ?_
 have HB:=J5 _ (by omega) B
 exact⟨_,rfl,hr.into hN,HB⟩
end Wx

namespace Wx
open Go Go.RowKit Go.Proofs
end Wx

namespace Wx
set_option maxRecDepth 100000
set_option maxHeartbeats 1000000
open Go Go.RowKit Go.Proofs
theorem CF (w:World) (vx:Value) (x:Rat) (hx:dn w vx x):Calls Tryz.prog 50 #[vx] w (eC w (.int .i64 (ou x))):=by
 obtain⟨BJ,BK,rfl,je,gH⟩:=id hx
 obtain⟨cH,cJ,rfl,_⟩:=id je
 obtain⟨cI,cK,rfl,_⟩:=id gH
 have hS:ou x=if x=0 then 0 else if x.num<0 then -1 else 1:=by
  unfold ou
  by_cases h:x=0
  ·subst h; rfl
  ·rw[if_neg h,if_neg h]
 have hx0:=hx
 clear hx
 generalize ou x=z at *
 by_cases h2:x=0
 ·rw[if_pos h2]at hS
  subst hS
  have HD:=bx (decide_eq_true h2)
  clear h2
  go_enter Tryz.func50,Tryz.ntmps50
  go_wp2_with fail
  obtain⟨w1,e1,oP,b1,s1⟩:=iO w [.bool (decide (x.num<0)),.slice cH (ae ai x.num.natAbs).length cJ,.slice cI (ae ai x.den).length cK] 61
  rw[e1]
  clear e1
  replace hx0:=hx0.below b1
  have B:=b1
  clear b1
  have hc:=lC _ _ x hx0
  rw[HD.out]at hc
  refine Calls.mono (hc) ?_
  rintro e w2 ⟨rfl,b2⟩
  replace hx0:=hx0.below b2
  replace oP:=oP.gone b2
  replace B:=B.trans (b2.mono B.size)
  clear b2
  clear hc
  have k1:=oP.cell (i:=0) rfl
  have k2:=oP.cell (i:=1) rfl
  have k3:=oP.cell (i:=2) rfl
  go_wp2
  go_ret
  exact⟨rfl,B⟩
 ·rw[if_neg h2]at hS
  have HD:=bx (decide_eq_false h2)
  clear h2
  by_cases h1:x.num<0
  ·rw[if_pos h1]at hS
   subst hS
   rw[decide_eq_true h1]at *
   go_enter Tryz.func50,Tryz.ntmps50
   go_wp2_with fail
   obtain⟨w1,e1,oP,b1,s1⟩:=iO w [.bool true,.slice cH (ae ai x.num.natAbs).length cJ,.slice cI (ae ai x.den).length cK] 61
   rw[e1]
   clear e1
   replace hx0:=hx0.below b1
   have B:=b1
   clear b1
   have hc:=lC _ _ x hx0
   rw[HD.out]at hc
   refine Calls.mono (hc) ?_
   rintro e w2 ⟨rfl,b2⟩
   replace hx0:=hx0.below b2
   replace oP:=oP.gone b2
   replace B:=B.trans (b2.mono B.size)
   clear b2
   clear hc
   have k1:=oP.cell (i:=0) rfl
   have k2:=oP.cell (i:=1) rfl
   have k3:=oP.cell (i:=2) rfl
   go_wp2
   go_ret
   exact⟨rfl,B⟩
  ·rw[if_neg h1]at hS
   subst hS
   rw[decide_eq_false h1]at *
   go_enter Tryz.func50,Tryz.ntmps50
   go_wp2_with fail
   obtain⟨w1,e1,oP,b1,s1⟩:=iO w [.bool false,.slice cH (ae ai x.num.natAbs).length cJ,.slice cI (ae ai x.den).length cK] 61
   rw[e1]
   clear e1
   replace hx0:=hx0.below b1
   have B:=b1
   clear b1
   have hc:=lC _ _ x hx0
   rw[HD.out]at hc
   refine Calls.mono (hc) ?_
   rintro e w2 ⟨rfl,b2⟩
   replace hx0:=hx0.below b2
   replace oP:=oP.gone b2
   replace B:=B.trans (b2.mono B.size)
   clear b2
   clear hc
   have k1:=oP.cell (i:=0) rfl
   have k2:=oP.cell (i:=1) rfl
   have k3:=oP.cell (i:=2) rfl
   go_wp2
   go_ret
   exact⟨rfl,B⟩
end Wx

namespace Wx
open Go Go.RowKit Go.Proofs
end Wx

namespace Wx
set_option maxRecDepth 100000
open Go Go.RowKit Go.Proofs
set_option maxHeartbeats 8000000 in
theorem EG (w:World) (vx vy:Value) (x y:Rat) (hx:dn w vx x) (hy:dn w vy y) {j k:Nat} (hj:dB j x) (hk:dB k y) (vP:j+k<=10000000):Calls Tryz.prog 39 #[vx,vy] w (gY w (x*y)):=by
 obtain⟨BJ,BK,rfl,je,gH⟩:=id hx
 obtain⟨cH,cJ,rfl,_⟩:=id je
 obtain⟨cI,cK,rfl,_⟩:=id gH
 obtain⟨Lz,LA,rfl,vR,qT⟩:=id hy
 obtain⟨fq,fB,rfl,_⟩:=id vR
 obtain⟨fu,fC,rfl,_⟩:=id qT
 have Kf:=x.den_pos
 have Ln:=y.den_pos
 have HB:=bx (And.intro hj hk)
 have cQ:j<=1000000000:=by omega
 have lQ:k<=1000000000:=by omega
 have hx0:=hx
 have hy0:=hy
 clear hj hk hx hy
 go_enter Tryz.func39,Tryz.ntmps39
 go_wp2_with fail
 obtain⟨w1,e1,o1,b1,s1⟩:=iO w [.bool (decide (x.num<0)),.slice cH (ae ai x.num.natAbs).length cJ,.slice cI (ae ai x.den).length cK] 61
 obtain⟨w2,e2,o2,b2,s2⟩:=iO w1 [.bool (decide (y.num<0)),.slice fq (ae ai y.num.natAbs).length fB,.slice fu (ae ai y.den).length fC] 61
 obtain⟨w3,e3,o3,b3,s3⟩:=iO w2 [.bool false,.slice none 0 0,.slice none 0 0] 61
 rw[e1,e2,e3]
 rw[s1]at o2
 rw[s2,s1]at o3
 have p1:=((o1.gone b2).gone b3)
 have p2:=(o2.gone b3)
 have p3:=o3
 have B0:=((b1.trans (b2.mono b1.size)).trans (b3.mono (b1.trans (b2.mono b1.size)).size))
 have hS:∀w',aY w (w.heap.size+2) 3 61 [(w.heap.size,[.bool (decide (x.num<0)),.slice cH (ae ai x.num.natAbs).length cJ,.slice cI (ae ai x.den).length cK],61),(w.heap.size+1,[.bool (decide (y.num<0)),.slice fq (ae ai y.num.natAbs).length fB,.slice fu (ae ai y.den).length fC],61)] w'->aY w (w.heap.size+2) 3 61 [(w.heap.size,[.bool (decide (x.num<0)),.slice cH (ae ai x.num.natAbs).length cJ,.slice cI (ae ai x.den).length cK],61),(w.heap.size+1,[.bool (decide (y.num<0)),.slice fq (ae ai y.num.natAbs).length fB,.slice fu (ae ai y.den).length fC],61)] w'/\w'.cell? ⟨w.heap.size,0,none⟩=some (.bool (decide (x.num<0)))/\w'.cell? ⟨w.heap.size,1,none⟩=some (.slice cH (ae ai x.num.natAbs).length cJ)/\w'.cell? ⟨w.heap.size,2,none⟩=some (.slice cI (ae ai x.den).length cK)/\w'.cell? ⟨w.heap.size+1,0,none⟩=some (.bool (decide (y.num<0)))/\w'.cell? ⟨w.heap.size+1,1,none⟩=some (.slice fq (ae ai y.num.natAbs).length fB)/\w'.cell? ⟨w.heap.size+1,2,none⟩=some (.slice fu (ae ai y.den).length fC)/\w'.cell? ⟨w.heap.size+2,0,none⟩=some (cv w' ⟨w.heap.size+2,0,none⟩)/\w'.cell? ⟨w.heap.size+2,1,none⟩=some (cv w' ⟨w.heap.size+2,1,none⟩)/\w'.cell? ⟨w.heap.size+2,2,none⟩=some (cv w' ⟨w.heap.size+2,2,none⟩)/\w'.frozen? ⟨w.heap.size+2,0,none⟩=false/\w'.frozen? ⟨w.heap.size+2,1,none⟩=false/\w'.frozen? ⟨w.heap.size+2,2,none⟩=false:=λw' hh=>by
  have r1:=hh.par (p:=(w.heap.size,[.bool (decide (x.num<0)),.slice cH (ae ai x.num.natAbs).length cJ,.slice cI (ae ai x.den).length cK],61)) (by simp)
  have r2:=hh.par (p:=(w.heap.size+1,[.bool (decide (y.num<0)),.slice fq (ae ai y.num.natAbs).length fB,.slice fu (ae ai y.den).length fC],61)) (by simp)
  exact⟨hh,r1.cell (i:=0) rfl,r1.cell (i:=1) rfl,r1.cell (i:=2) rfl,r2.cell (i:=0) rfl,r2.cell (i:=1) rfl,r2.cell (i:=2) rfl,hh.jG (i:=0) (by omega),hh.jG (i:=1) (by omega),hh.jG (i:=2) (by omega),hh.Dm 0,hh.Dm 1,hh.Dm 2⟩
 have hz:aY w (w.heap.size+2) 3 61 [(w.heap.size,[.bool (decide (x.num<0)),.slice cH (ae ai x.num.natAbs).length cJ,.slice cI (ae ai x.den).length cK],61),(w.heap.size+1,[.bool (decide (y.num<0)),.slice fq (ae ai y.num.natAbs).length fB,.slice fu (ae ai y.den).length fC],61)] w3:=⟨B0,by omega,by intro q hq; simp at hq; rcases hq with rfl|rfl; exact⟨by simp,p1⟩; exact⟨by simp,p2⟩,_,rfl,p3,dP⟩
 clear e1 e2 e3 o1 b1 s1 p1 o2 b2 s2 p2 o3 b3 s3 p3
 clear B0
 have hz:=hz.drew
 go_region_held3 (λw'=>aY w (w.heap.size+2) 3 61 [(w.heap.size,[.bool (decide (x.num<0)),.slice cH (ae ai x.num.natAbs).length cJ,.slice cI (ae ai x.den).length cK],61),(w.heap.size+1,[.bool (decide (y.num<0)),.slice fq (ae ai y.num.natAbs).length fB,.slice fu (ae ai y.den).length fC],61)] w'/\w'.cell? ⟨w.heap.size,0,none⟩=some (.bool (decide (x.num<0)))/\w'.cell? ⟨w.heap.size,1,none⟩=some (.slice cH (ae ai x.num.natAbs).length cJ)/\w'.cell? ⟨w.heap.size,2,none⟩=some (.slice cI (ae ai x.den).length cK)/\w'.cell? ⟨w.heap.size+1,0,none⟩=some (.bool (decide (y.num<0)))/\w'.cell? ⟨w.heap.size+1,1,none⟩=some (.slice fq (ae ai y.num.natAbs).length fB)/\w'.cell? ⟨w.heap.size+1,2,none⟩=some (.slice fu (ae ai y.den).length fC)/\w'.cell? ⟨w.heap.size+2,0,none⟩=some (cv w' ⟨w.heap.size+2,0,none⟩)/\w'.cell? ⟨w.heap.size+2,1,none⟩=some (cv w' ⟨w.heap.size+2,1,none⟩)/\w'.cell? ⟨w.heap.size+2,2,none⟩=some (cv w' ⟨w.heap.size+2,2,none⟩)/\w'.frozen? ⟨w.heap.size+2,0,none⟩=false/\w'.frozen? ⟨w.heap.size+2,1,none⟩=false/\w'.frozen? ⟨w.heap.size+2,2,none⟩=false)
  (first|exact hS _ hz|exact hS _ (aY.Fv hz))
  (first
   |(go_at_call 79; have hc:=kP _ _ _ _ _ (je.below hz.1) (vR.below hz.1) HB.out.1.1 HB.out.2.1 (by omega) (by omega); (with_reducible refine Calls.mono hc ?_); clear hc; rintro e wz ⟨Sr,rfl,kC,hb⟩; (try have kE:=kE.below hb); (try have kF:=kF.below hb); (try have kC:=kC.below hb); (try have jO:=jO.below hb); (try have mU:=mU.below hb); (try have hs1:=hs1.below hb); have hz:=aY.call (And.intro hz trivial) hb)
   |(go_at_call 80; have hc:=mA _ _ x (hx0.below hz.1); (with_reducible refine Calls.mono hc ?_); clear hc; rintro e wz ⟨Su,rfl,kE,hb⟩; (try have kE:=kE.below hb); (try have kF:=kF.below hb); (try have kC:=kC.below hb); (try have jO:=jO.below hb); (try have mU:=mU.below hb); (try have hs1:=hs1.below hb); have hz:=aY.call (And.intro hz trivial) hb)
   |(go_at_call 80; have hc:=mA _ _ y (hy0.below hz.1); (with_reducible refine Calls.mono hc ?_); clear hc; rintro e wz ⟨Sv,rfl,kF,hb⟩; (try have kE:=kE.below hb); (try have kF:=kF.below hb); (try have kC:=kC.below hb); (try have jO:=jO.below hb); (try have mU:=mU.below hb); (try have hs1:=hs1.below hb); have hz:=aY.call (And.intro hz trivial) hb)
   |(go_at_call 79; have hc:=kP _ _ _ _ _ kE kF HB.out.1.2 HB.out.2.2 (by omega) (by omega); (with_reducible refine Calls.mono hc ?_); clear hc; rintro e wz ⟨Ss,rfl,jO,hb⟩; (try have kE:=kE.below hb); (try have kF:=kF.below hb); (try have kC:=kC.below hb); (try have jO:=jO.below hb); (try have mU:=mU.below hb); (try have hs1:=hs1.below hb); have hz:=aY.call (And.intro hz trivial) hb)
   |(go_at_call 67; have hc:=qX _ (!(decide (x.num<0)==decide (y.num<0))) _ _ (x.num.natAbs*y.num.natAbs) (x.den*y.den) kC jO (Nat.mul_pos Kf Ln) (HB.out.1.1.mul HB.out.2.1) (HB.out.1.2.mul HB.out.2.2) vP; (with_reducible refine Calls.mono hc ?_); clear hc; rintro e wz ⟨vr,rfl,hr,hb⟩; (try have kE:=kE.below hb); (try have kF:=kF.below hb); (try have kC:=kC.below hb); (try have jO:=jO.below hb); (try have mU:=mU.below hb); (try have hs1:=hs1.below hb); have hz:=aY.call (And.intro hz trivial) hb; replace hr:=Ep hr (uQ x y); obtain⟨Sl,Sm,rfl,MX,hrb⟩:=id hr; obtain⟨Ie,Iu,rfl,_⟩:=id MX; obtain⟨Ig,Iv,rfl,_⟩:=id hrb))
 all_goals (
  go_wp2
  obtain⟨wf,HW,ho,hB,hN⟩:=hz.fin [.bool (decide ((x*y).num<0)),.slice Ie (ae ai (x*y).num.natAbs).length Iu,.slice Ig (ae ai (x*y).den).length Iv] rfl dP
  simp only[cS,Nat.reduceAdd]at HW
  (try rw[HW])
  (try simp only[Exit.inBlock,Exit.then])
  have f0:=ho.cell (i:=0) rfl
  have f1:=ho.cell (i:=1) rfl
  have f2:=ho.cell (i:=2) rfl
  refine bodyPost_ret (by simp[results,Tryz.results39,go_sem,f0,f1,f2]; try rfl) rfl ?_
  exact⟨_,rfl,hr.into hN,hB⟩)
end Wx

namespace Wx
open Go Go.RowKit Go.Proofs
end Wx

namespace Wx
open Go Go.RowKit Go.Proofs
theorem BF:Ty Tryz.prog 59 false 1:=⟨λ_=>by kernel_rfl,λ_=>by kernel_rfl,by decide⟩
end Wx
