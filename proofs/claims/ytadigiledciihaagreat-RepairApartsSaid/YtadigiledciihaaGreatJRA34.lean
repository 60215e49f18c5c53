import Derived.Test.YtadigiledciihaaGreatCRARep1
namespace Wx
open Go Go.RowKit
set_option linter.unusedVariables false
section
variable {P:Program} {ops:Array Oper} {ms:List Nat} {c:dM} {V:List Vr} {A:List Al} {G:List bg} {i:Nat}{d:Nat} {x y z:Operand} {ty:TypeId} {pos:String} {aR:Array Edge}{f:FuncId} {ts:Array TypeId} {p p1 q1:Pred} {φ ψ:Prop}
theorem Gb (hψ:ψ) (gX:φ->∀w v1,p1 w v1->Calls P f #[v1] w (eR p w)) (h1:Has ms G i x q1:=by exact hg) (c1:∀w v,q1 w v->p1 w v:=by exact nh) (hp:Post G i p:=by exact pg (by assumption) rfl) (hφ:φ:=by first|omega|trivial) (hn:aC p:=by exact Bw) (hf:aP P f:=by exactλ_ _=>by kernel_rfl):
  OpOk P ops ms c V A G i ⟨some d,.call ⟨.value (.func f),#[x],ts⟩,ty,pos,aR,none⟩:=(λ_:ψ=>gP hf hn (h1.imp c1) hp (gX hφ)) hψ
theorem OP {p2 q2:Pred} (hψ:ψ) (gX:φ->∀w v1 v2,p1 w v1->p2 w v2->Calls P f #[v1,v2] w (eR p w)) (h1:Has ms G i x q1:=by exact hg) (c1:∀w v,q1 w v->p1 w v:=by exact nh) (h2:Has ms G i y q2:=by exact hg) (c2:∀w v,q2 w v->p2 w v:=by exact nh) (hp:Post G i p:=by exact pg (by assumption) rfl) (hφ:φ:=by first|omega|trivial) (hn:aC p:=by exact Bw) (hf:aP P f:=by exactλ_ _=>by kernel_rfl):
  OpOk P ops ms c V A G i ⟨some d,.call ⟨.value (.func f),#[x,y],ts⟩,ty,pos,aR,none⟩:=(λ_:ψ=>cI hf hn (h1.imp c1) (h2.imp c2) hp (gX hφ)) hψ
end
end Wx

namespace Wx
set_option maxRecDepth 100000
set_option maxHeartbeats 1000000
open Go Go.RowKit Go.Proofs
set_option linter.unusedVariables false
attribute [local irreducible] OpOk
theorem rE {n:Int} (h:-9223372036854775808<=n/\n<=9223372036854775807):K1 Tryz.prog 120 (pI n) (pR 64 (n:Rat)):=by
 intro M w0 v0 hM hv0
 refine uc (N:=5) Tryz.func120 rfl rfl rfl hM hv0 λa hI=>?_
 refine bB hI 1 [⟨2,2,some 0,none,.ptr,54,3,true,pv _,[]⟩] [] [] .z (.k .z) ⟨oM [.r],trivial⟩ (.k .z) (.k .z) λa w hI=>?_
 refine bB hI 3 [] [] [Uc 0 3 _,Uc 1 4 _] (.u none [(2,pv _)] .z) (.k .z) ⟨mv,uP yb,ju,trivial⟩ (.s .o .z) (.Jf .z) λa w hI=>?_
 refine aF ?_
 exact bL hI rfl xU
theorem Hz {x y:Rat} {j k:Nat} (h:j+k<=100000000):K2 Tryz.prog 49 (pR j x) (pR k y) (pR (j+k) (x/y)):=by
 intro M w0 v0 v1 hM hv0 fW
 refine ud (N:=14) Tryz.func49 rfl rfl rfl hM hv0 fW λa hI=>?_
 refine bB hI 3 [⟨2,2,some 0,none,.ptr,54,3,true,pv _,[]⟩,⟨3,3,some 1,none,.ptr,54,3,true,pv _,[]⟩,⟨4,4,some 2,none,.ptr,54,3,true,pv _,[]⟩] [] [] .z (.kk .z) ⟨bo,bo,oM [.r],trivial⟩ (.k (.k (.k .z))) (.dd .z) λa w hI=>?_
 refine bB hI 9 [⟨5,5,some 6,none,.ptr,54,3,true,pv _,[(7,pv _)]⟩] [] [Uc 0 8 _,Uc 1 9 _,Uc 2 10 _,Uc 3 7 _,Uc 4 11 _,Uc 5 12 _,Uc 8 6 _] (.k (.k (.k .z))) .z ⟨ld,ld,xS Ob,mv,ext,ext,oM [.r],ju,mv,trivial⟩ (.d (.d (.k (.s .o .z)))) (.bX (.Jf .z)) λa w hI=>?_
 refine bB hI 2 [] [] [Uc 0 13 _] (.u none [(1,pv _)] (.k .z)) .z ⟨ld,ju,trivial⟩ (.s .o (.d .z)) (.d .z) λa w hI=>?_
 refine aF ?_
 exact bL hI rfl xU
def eP (a b:Pt):Int:=(b.1-a.1)*(b.1-a.1)+(b.2-a.2)*(b.2-a.2)
variable {a b p:Pt}
theorem Dt (ha:bu 16777216 a) (hb:bu 16777216 b) (hp:bu 16777216 p):-2251799813685248<=aA a b p/\aA a b p<=2251799813685248:=by
 obtain⟨a1,a2,a3,a4⟩:=ha
 obtain⟨b1,b2,b3,b4⟩:=hb
 obtain⟨p1,p2,p3,p4⟩:=hp
 have m1:=dL 33554432 (p:=b.1-a.1) (q:=p.2-a.2) (by omega) (by omega) (by omega) (by omega)
 have m2:=dL 33554432 (p:=b.2-a.2) (q:=p.1-a.1) (by omega) (by omega) (by omega) (by omega)
 unfold aA
 omega
theorem tT (ha:bu 16777216 a) (hb:bu 16777216 b):-2251799813685248<=eP a b/\eP a b<=2251799813685248:=by
 obtain⟨a1,a2,a3,a4⟩:=ha
 obtain⟨b1,b2,b3,b4⟩:=hb
 have m1:=dL 33554432 (p:=b.1-a.1) (q:=b.1-a.1) (by omega) (by omega) (by omega) (by omega)
 have m2:=dL 33554432 (p:=b.2-a.2) (q:=b.2-a.2) (by omega) (by omega) (by omega) (by omega)
 unfold eP
 omega
def LS (a b p:Pt) (f:Int):Bool:=decide (gJ (((aA a b p:Int):Rat)*((aA a b p:Int):Rat)) (((f:Rat)*(f:Rat))*((eP a b:Int):Rat))>=0)
theorem oH (h:bu 16777216 a/\bu 16777216 b):K2 Tryz.prog 110 (dB a) (dB b) (pI (eP a b)):=by
 intro M w0 v0 v1 hM hv0 fW
 obtain⟨⟨a1,a2,a3,a4⟩,b1,b2,b3,b4⟩:=h
 have m1:=dL 33554432 (p:=b.1-a.1) (q:=b.1-a.1) (by omega) (by omega) (by omega) (by omega)
 have m2:=dL 33554432 (p:=b.2-a.2) (q:=b.2-a.2) (by omega) (by omega) (by omega) (by omega)
 refine ud (N:=28) Tryz.func110 rfl rfl rfl hM hv0 fW λa hI=>?_
 refine bB hI 3 [⟨2,2,some 0,none,.ptr,26,2,true,pv _,[]⟩,⟨3,3,some 1,none,.ptr,26,2,true,pv _,[]⟩] [] [Uc 2 4 _] .z (.kk .z) ⟨bo,bo,mv,trivial⟩ (.k (.k .z)) (.nk .z) λa w hI=>?_
 refine bB hI 24 [] [⟨some 0,5,3,0,True⟩,⟨some 2,7,2,0,True⟩,⟨some 5,10,3,0,True⟩,⟨some 7,12,2,0,True⟩,⟨some 11,16,3,1,True⟩,⟨some 13,18,2,1,True⟩,⟨some 16,21,3,1,True⟩,⟨some 18,23,2,1,True⟩] [Uc 1 6 _,Uc 3 8 _,Uc 4 9 _,Uc 6 11 _,Uc 8 13 _,Uc 9 14 _,Uc 10 15 _,Uc 12 17 _,Uc 14 19 _,Uc 15 20 _,Uc 17 22 _,Uc 19 24 _,Uc 20 25 _,Uc 21 26 _,Uc 22 27 _,Uc 23 4 _] (.k (.k .z)) (.t 23 .z) ⟨fa,ld,fa,ld,bn,fa,ld,fa,ld,bn,bn,fa,ld,fa,ld,bn,fa,ld,fa,ld,bn,bn,bn,mv,trivial⟩ (.d (.d .z)) (.d8 (.d8 (.k .z))) λa w hI=>?_
 refine aF ?_
 exact bL hI rfl fh
theorem GB {f:Int} (h:bu 16777216 a/\bu 16777216 b/\bu 16777216 p /\ -4194304<=f/\f<=4194304):K4 Tryz.prog 94 (dB a) (dB b) (dB p) (pI f) (pB (LS a b p f)):=by
 intro M w0 v0 v1 v2 v3 hM hv0 fW hv2 hv3
 have hb1:=Dt h.1 h.2.1 h.2.2.1
 have hb2:=tT h.1 h.2.1
 have hb3:=h.2.2.2
 refine Kq (N:=30) Tryz.func94 rfl rfl rfl hM hv0 fW hv2 hv3 λa hI=>?_
 refine bB hI 4 [⟨4,4,some 0,none,.ptr,26,2,true,pv _,[]⟩,⟨5,5,some 1,none,.ptr,26,2,true,pv _,[]⟩,⟨6,6,some 2,none,.ptr,26,2,true,pv _,[]⟩] [] [Uc 3 8 _] .z (.au .z) ⟨bo,bo,bo,mv,trivial⟩ (.k (.k (.k .z))) (.eY (.k .z)) λa w hI=>?_
 refine bB hI 7 [⟨9,9,some 5,none,.ptr,54,3,true,pv _,[(6,pv _)]⟩] [] [Uc 0 10 _,Uc 1 11 _,Uc 2 12 _,Uc 3 13 _,Uc 4 14 _] (.k (.k (.k .z))) (.kk .z) ⟨ld,ld,ld,AL mm (hφ:=⟨h.1,h.2.1,h.2.2.1⟩),um rE,oM [.r],ju,trivial⟩ (.k (.k (.d (.s .o .z)))) (.eu (.Jf .z)) λa w hI=>?_
 refine xV hI [0,0,3,0,15,0,63,127,0,0,1023,2047,4095,8191,16383,32767] [] [] [Uc 0 15 _,Uc 1 16 _,Uc 2 17 _,Uc 3 18 _,Uc 4 19 _,Uc 5 20 _,Uc 6 21 _,Uc 7 22 _,Uc 8 23 _,Uc 9 24 _,Uc 10 25 _,Uc 11 26 _,Uc 12 27 _,Uc 13 28 _,Uc 14 29 _,Uc 15 8 _] (.k (.k (.k .z))) (.k (.t 15 .z)) ⟨ld,ld,xS yc,mv,um rE,mv,um rE,xS yc,ld,ld,wC oH (hφ:=⟨h.1,h.2.1⟩),um rE,xS yc,xS Oa,bn,mv,trivial⟩ (.d (.d (.d .z))) (.d8 (.d8 (.dk .z))) λa w hI=>?_
 refine aF ?_
 exact bL hI rfl fh
end Wx

namespace Wx
set_option maxRecDepth 100000
set_option maxHeartbeats 1000000
open Go Go.RowKit Go.Proofs
theorem gv (w:World) (v:Value) (q:Rat) (h:cZ w v q):Calls Tryz.prog 52 #[v] w (eK w (.bool (decide (q=0)))):=by
 obtain⟨vn,vd,rfl,h1,h2⟩:=h
 obtain⟨A1,c1,rfl,_⟩:=id h1
 obtain⟨A2,c2,rfl,_⟩:=id h2
 have hz:(((ae ah q.num.natAbs).length:Int)==0)=decide (q=0):=by
  by_cases hq:q=0
  ·rw[hq,decide_eq_true rfl]; rfl
  ·rw[decide_eq_false hq,beq_eq_false_iff_ne]
   have:=(aI (n:=q.num.natAbs) ak).2 (by have:=mt (iw q).1 hq; omega)
   omega
 generalize (ae ah q.num.natAbs).length=L1 at *
 go_enter Tryz.func52,Tryz.ntmps52
 go_wp2
 go_ret
 exact⟨rfl,Below.alloc (Below.refl _ _) (Nat.le_refl _) _⟩
theorem GZ (w:World) (v:Value) (q:Rat) (hx:cZ w v q):Calls Tryz.prog 103 #[v] w (iI w (-q)):=by
 obtain⟨xK,xL,rfl,eF,dZ⟩:=id hx
 obtain⟨bO,bQ,rfl,_⟩:=id eF
 obtain⟨bP,bR,rfl,_⟩:=id dZ
 have hf:=GX q
 have hn:(-q).num.natAbs=q.num.natAbs:=by rw[Rat.neg_num,Int.natAbs_neg]
 have hd:(-q).den=q.den:=rfl
 have hx0:=hx
 clear hx
 generalize decide (q.num<0)=neg at *
 cases neg
 ·simp only[Bool.not_false,Bool.true_and]at hf
  go_enter Tryz.func103,Tryz.ntmps103
  go_wp2_with fail
  obtain⟨w1,e1,o1,b1,s1⟩:=gL w [.bool false,.slice bO (ae ah q.num.natAbs).length bQ,.slice bP (ae ah q.den).length bR] 61
  obtain⟨w2,e2,o2,b2,s2⟩:=gL w1 [.bool false,.slice none 0 0,.slice none 0 0] 61
  rw[e1,e2]
  rw[s1]at o2
  have p1:=(o1.gone b2)
  have p2:=o2
  have B0:=(b1.trans (b2.mono b1.size))
  have hS:∀w',aX w (w.heap.size+1) 3 61 [(w.heap.size,[.bool false,.slice bO (ae ah q.num.natAbs).length bQ,.slice bP (ae ah q.den).length bR],61)] w'->aX w (w.heap.size+1) 3 61 [(w.heap.size,[.bool false,.slice bO (ae ah q.num.natAbs).length bQ,.slice bP (ae ah q.den).length bR],61)] w'/\w'.cell? ⟨w.heap.size,0,none⟩=some (.bool false)/\w'.cell? ⟨w.heap.size,1,none⟩=some (.slice bO (ae ah q.num.natAbs).length bQ)/\w'.cell? ⟨w.heap.size,2,none⟩=some (.slice bP (ae ah q.den).length bR)/\w'.cell? ⟨w.heap.size+1,0,none⟩=some (cv w' ⟨w.heap.size+1,0,none⟩)/\w'.cell? ⟨w.heap.size+1,1,none⟩=some (cv w' ⟨w.heap.size+1,1,none⟩)/\w'.cell? ⟨w.heap.size+1,2,none⟩=some (cv w' ⟨w.heap.size+1,2,none⟩)/\w'.frozen? ⟨w.heap.size+1,0,none⟩=false/\w'.frozen? ⟨w.heap.size+1,1,none⟩=false/\w'.frozen? ⟨w.heap.size+1,2,none⟩=false:=λw' hh=>by
   have r1:=hh.par (p:=(w.heap.size,[.bool false,.slice bO (ae ah q.num.natAbs).length bQ,.slice bP (ae ah q.den).length bR],61)) (by simp)
   exact⟨hh,r1.cell (i:=0) rfl,r1.cell (i:=1) rfl,r1.cell (i:=2) rfl,hh.iJ (i:=0) (by omega),hh.iJ (i:=1) (by omega),hh.iJ (i:=2) (by omega),hh.AZ 0,hh.AZ 1,hh.AZ 2⟩
  have hz:aX w (w.heap.size+1) 3 61 [(w.heap.size,[.bool false,.slice bO (ae ah q.num.natAbs).length bQ,.slice bP (ae ah q.den).length bR],61)] w2:=⟨B0,by omega,by intro q hq; simp at hq; subst hq; exact⟨by simp,p1⟩,_,rfl,p2,dH⟩
  clear e1 e2 o1 b1 s1 p1 o2 b2 s2 p2
  clear B0
  have hz:=hz.drew
  go_region_held3 (λw'=>aX w (w.heap.size+1) 3 61 [(w.heap.size,[.bool false,.slice bO (ae ah q.num.natAbs).length bQ,.slice bP (ae ah q.den).length bR],61)] w'/\w'.cell? ⟨w.heap.size,0,none⟩=some (.bool false)/\w'.cell? ⟨w.heap.size,1,none⟩=some (.slice bO (ae ah q.num.natAbs).length bQ)/\w'.cell? ⟨w.heap.size,2,none⟩=some (.slice bP (ae ah q.den).length bR)/\w'.cell? ⟨w.heap.size+1,0,none⟩=some (cv w' ⟨w.heap.size+1,0,none⟩)/\w'.cell? ⟨w.heap.size+1,1,none⟩=some (cv w' ⟨w.heap.size+1,1,none⟩)/\w'.cell? ⟨w.heap.size+1,2,none⟩=some (cv w' ⟨w.heap.size+1,2,none⟩)/\w'.frozen? ⟨w.heap.size+1,0,none⟩=false/\w'.frozen? ⟨w.heap.size+1,1,none⟩=false/\w'.frozen? ⟨w.heap.size+1,2,none⟩=false)
   (first|exact hS _ hz|exact hS _ (aX.Di hz))
   (first
    |(go_at_call 52; have hc:=gv _ _ q (hx0.below hz.1); (with_reducible refine Calls.mono hc ?_); clear hc; rintro e wz ⟨rfl,hb⟩; have hz:=aX.call (And.intro hz trivial) hb))
  all_goals (
   go_wp2
   obtain⟨wf,HW,ho,hB,hN⟩:=hz.fin [.bool (!decide (q=0)),.slice bO (ae ah q.num.natAbs).length bQ,.slice bP (ae ah q.den).length bR] rfl dH
   simp only[dh,Nat.reduceAdd]at HW
   (try rw[HW])
   (try simp only[Exit.inBlock,Exit.then])
   have f0:=ho.cell (i:=0) rfl
   have f1:=ho.cell (i:=1) rfl
   have f2:=ho.cell (i:=2) rfl
   refine bodyPost_ret (by simp[results,Tryz.results103,go_sem,f0,f1,f2]; try rfl) rfl ?_
   exact⟨_,rfl,⟨_,_,by rw[hf],by rw[hn]; exact hN _ _ _ _ (eF.below hz.1),by rw[hd]; exact hN _ _ _ _ (dZ.below hz.1)⟩,hB⟩)
 ·simp only[Bool.not_true,Bool.false_and]at hf
  clear hx0
  go_enter Tryz.func103,Tryz.ntmps103
  go_wp2_with fail
  obtain⟨w1,e1,o1,b1,s1⟩:=gL w [.bool true,.slice bO (ae ah q.num.natAbs).length bQ,.slice bP (ae ah q.den).length bR] 61
  obtain⟨w2,e2,o2,b2,s2⟩:=gL w1 [.bool false,.slice none 0 0,.slice none 0 0] 61
  rw[e1,e2]
  rw[s1]at o2
  have p1:=(o1.gone b2)
  have p2:=o2
  have B0:=(b1.trans (b2.mono b1.size))
  have hS:∀w',aX w (w.heap.size+1) 3 61 [(w.heap.size,[.bool true,.slice bO (ae ah q.num.natAbs).length bQ,.slice bP (ae ah q.den).length bR],61)] w'->aX w (w.heap.size+1) 3 61 [(w.heap.size,[.bool true,.slice bO (ae ah q.num.natAbs).length bQ,.slice bP (ae ah q.den).length bR],61)] w'/\w'.cell? ⟨w.heap.size,0,none⟩=some (.bool true)/\w'.cell? ⟨w.heap.size,1,none⟩=some (.slice bO (ae ah q.num.natAbs).length bQ)/\w'.cell? ⟨w.heap.size,2,none⟩=some (.slice bP (ae ah q.den).length bR)/\w'.cell? ⟨w.heap.size+1,0,none⟩=some (cv w' ⟨w.heap.size+1,0,none⟩)/\w'.cell? ⟨w.heap.size+1,1,none⟩=some (cv w' ⟨w.heap.size+1,1,none⟩)/\w'.cell? ⟨w.heap.size+1,2,none⟩=some (cv w' ⟨w.heap.size+1,2,none⟩)/\w'.frozen? ⟨w.heap.size+1,0,none⟩=false/\w'.frozen? ⟨w.heap.size+1,1,none⟩=false/\w'.frozen? ⟨w.heap.size+1,2,none⟩=false:=λw' hh=>by
   have r1:=hh.par (p:=(w.heap.size,[.bool true,.slice bO (ae ah q.num.natAbs).length bQ,.slice bP (ae ah q.den).length bR],61)) (by simp)
   exact⟨hh,r1.cell (i:=0) rfl,r1.cell (i:=1) rfl,r1.cell (i:=2) rfl,hh.iJ (i:=0) (by omega),hh.iJ (i:=1) (by omega),hh.iJ (i:=2) (by omega),hh.AZ 0,hh.AZ 1,hh.AZ 2⟩
  have hz:aX w (w.heap.size+1) 3 61 [(w.heap.size,[.bool true,.slice bO (ae ah q.num.natAbs).length bQ,.slice bP (ae ah q.den).length bR],61)] w2:=⟨B0,by omega,by intro q hq; simp at hq; subst hq; exact⟨by simp,p1⟩,_,rfl,p2,dH⟩
  clear e1 e2 o1 b1 s1 p1 o2 b2 s2 p2
  clear B0
  obtain⟨_,k0,k1,k2,k3,k4,k5,k6,k7,k8⟩:=hS _ hz
  go_region
  all_goals (
   go_wp2
   obtain⟨wf,HW,ho,hB,hN⟩:=hz.fin [.bool false,.slice bO (ae ah q.num.natAbs).length bQ,.slice bP (ae ah q.den).length bR] rfl dH
   simp only[dh,Nat.reduceAdd]at HW
   (try rw[HW])
   (try simp only[Exit.inBlock,Exit.then])
   have f0:=ho.cell (i:=0) rfl
   have f1:=ho.cell (i:=1) rfl
   have f2:=ho.cell (i:=2) rfl
   refine bodyPost_ret (by simp[results,Tryz.results103,go_sem,f0,f1,f2]; try rfl) rfl ?_
   have hR:iI w (-q) (.returned _) wf:=⟨_,rfl,⟨_,_,by rw[hf],by rw[hn]; exact hN _ _ _ _ (eF.below hz.1),by rw[hd]; exact hN _ _ _ _ (dZ.below hz.1)⟩,hB⟩
   first|exact hR|(obtain⟨v,h1,h2,h3⟩:=hR; exact⟨v,h1,h2.drew,h3.drew⟩))
theorem uz (w:World) (z:Int) (h1:-9223372036854775808<=z) (h2:z<=9223372036854775807):Calls Tryz.prog 68 #[.int .i64 z] w (er .u32 ah w z.natAbs):=by
 have IY:Bx (z.natAbs<b64):=bx (by unfold b64; omega)
 by_cases hz:z<0
 ·have e1:IntKind.u64.wrap (-IntKind.u64.wrap z)=((z.natAbs:Nat):Int):=by
   simp[IntKind.wrap,IntKind.bits,IntKind.signed]; omega
  have E1:=bx e1
  clear e1
  go_enter Tryz.func68,Tryz.ntmps68
  go_wp2_with fail
  rw[E1.out]
  refine(jj w _ IY.out).mono ?_
  rintro e w3 ⟨vr,rfl,hr3,hb3⟩
  go_wp2
  go_ret
  exact⟨_,rfl,hr3,hb3⟩
 ·have e1:z=((z.natAbs:Nat):Int):=by omega
  have E1:=bx e1
  clear e1
  go_enter Tryz.func68,Tryz.ntmps68
  go_wp2_with fail
  have hc:=jj w _ IY.out
  rw[<-E1.out]at hc
  refine hc.mono ?_
  rintro e w3 ⟨vr,rfl,hr3,hb3⟩
  go_wp2
  go_ret
  exact⟨_,rfl,hr3,hb3⟩
theorem Gy (z:Int):cU (decide (z<0)) z.natAbs 1=(z:Rat):=by
 unfold cU
 rw[Ad,Rat.mkRat_one]
theorem zB (w:World) (z:Int) (h1:-9223372036854775808<=z) (h2:z<=9223372036854775807):Calls Tryz.prog 34 #[.int .i64 z] w (iI w (z:Rat)):=by
 have H:=bx (And.intro h1 h2)
 have hB:Bx (Bd 64 z.natAbs):=bx (by unfold Bd; omega)
 generalize hq:(z:Rat)=q
 have HQ:=bx hq
 clear h1 h2 hq
 go_enter Tryz.func34,Tryz.ntmps34
 go_wp2_with fail
 obtain⟨w1,e1,oR,b1,s1⟩:=gL w [.bool false,.slice none 0 0,.slice none 0 0] 61
 rw[e1]
 clear e1
 have B:=b1
 clear b1
 refine Calls.mono (uz _ z H.out.1 H.out.2) ?_
 rintro e w2 ⟨v1,rfl,h1,b2⟩
 replace oR:=oR.gone b2
 replace B:=B.trans (b2.mono B.size)
 clear b2
 go_wp2_with fail
 refine Calls.mono (jj _ 1 (by unfold b64; omega)) ?_
 rintro e w3 ⟨v2,rfl,h2,b3⟩
 replace oR:=oR.gone b3
 replace h1:=h1.below b3
 replace B:=B.trans (b3.mono B.size)
 clear b3
 go_wp2_with fail
 have hc:=oL _ (decide (z<0)) _ _ z.natAbs 1 h1 h2 (by omega) hB.out (by unfold Bd; omega) (by omega)
 rw[Gy,HQ.out]at hc
 clear h1 h2
 refine Calls.mono (hc) ?_
 rintro e w4 ⟨vr,rfl,hr,b4⟩
 replace oR:=oR.gone b4
 replace B:=B.trans (b4.mono B.size)
 clear b4
 clear hc
 obtain⟨QT,QU,rfl,JD,hrb⟩:=id hr
 obtain⟨Fg,Fk,rfl,_⟩:=id JD
 obtain⟨Fh,Fl,rfl,_⟩:=id hrb
 have k1:=oR.cell (i:=0) rfl
 have k2:=oR.fz 0
 have k3:=oR.cell (i:=1) rfl
 have k4:=oR.fz 1
 have k5:=oR.cell (i:=2) rfl
 have k6:=oR.fz 2
 go_wp2
 obtain⟨wf,HW,ho,_,hN,Jq,_⟩:=oR.put jY [.bool (decide (q.num<0)),.slice Fg (ae ah q.num.natAbs).length Fk,.slice Fh (ae ah q.den).length Fl] rfl dH
 simp only[dh,Nat.reduceAdd]at HW
 (try rw[HW])
 (try simp only[Exit.inBlock,Exit.then])
 have f0:=ho.cell (i:=0) rfl
 have f1:=ho.cell (i:=1) rfl
 have f2:=ho.cell (i:=2) rfl
 refine bodyPost_ret (by simp[results,Tryz.results34,go_sem,f0,f1,f2]; try rfl) rfl ?_
 have HB:=Jq _ (by omega) B
 exact⟨_,rfl,hr.into hN,HB⟩
def FA (w:World) (q:Rat) (err:Int) (e:Ending) (w':World):Prop:=∃v,e=.returned (.tuple #[v,.int .i64 err])/\cZ w' v q/\Below w.heap.size w w'
end Wx
