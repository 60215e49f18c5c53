import Ieee.Arith
import GoSem.Core.Float
import Derived.Test.YtkcceahelokheaaGreatJLT32
import Derived.Test.YtkcceahelokheaaGreatJLT27
namespace Wx
open Go Go.RowKit
section
variable {P:Program} {ops:Array Oper} {ms:List Nat} {c:fT} {V:List Vr} {A:List Al} {G:List bz} {i:Nat}{d:Nat} {x y:Operand} {ty:TypeId} {pos:String} {aft:Array Edge}
end
end Wx

namespace Wx
open Ieee
end Wx

namespace Wx
open Ieee
end Wx

namespace Wx
open Go Go.RowKit
section
variable {P:Program} {ops:Array Oper} {ms:List Nat} {c:fT} {V:List Vr} {A:List Al} {G:List bz} {i:Nat}{d:Nat} {x y:Operand} {ty:TypeId} {pos:String} {aft:Array Edge}{n:Int}
theorem PS {xt:TypeId} (h:Has ms G i x (pI n)) (hn:-9223372036854775807<=n/\n<=9223372036854775807) (hp:Post G i (pI (-n))):OpOk P ops ms c V A G i ⟨some d,.unOp .neg xt x,ty,pos,aft,none⟩:=
 iO rfl rfl rfl rfl h hp λρ w h=>⟨.int .i64 (-n),by
  have h:ρ x=.int .i64 n:=h
  show(do pure (Next.value (<-Op.unary .neg (ρ x)))).run P w=_
  rw[h]
  show Result.ok (Next.value (.int .i64 (IntKind.i64.wrap (0-n)))) w=_
  rw[IntWalk.i64_in (0-n) (by omega)]
  congr 3
  omega,λ_ _=>rfl⟩
def wA (m n:Int):Int:=if n>m then n else m
theorem Mn (m n:Int):m<=wA m n/\n<=wA m n/\(wA m n=m\/wA m n=n):=by unfold wA; split<;>omega
theorem Sr {ts:Array TypeId} {m:Int} (h1:Has ms G i x (pI m)) (h2:Has ms G i y (pI n)) (hp:Post G i (pI (wA m n))):OpOk P ops ms c V A G i ⟨some d,.call ⟨.builtin .max,#[x,y],ts⟩,ty,pos,aft,none⟩:=
 pM rfl rfl rfl rfl h1 h2 hp λρ w h1 h2=>⟨.int .i64 (wA m n),by
  have h1:ρ x=.int .i64 m:=h1
  have h2:ρ y=.int .i64 n:=h2
  show(do let d <-resolve ρ ⟨.builtin .max,#[x,y],ts⟩ ty; invoke d.target d.args).run P w=_
  simp only[resolve,invoke,pure_bind,builtin]
  rw[show(#[x,y]:Array Operand).map ρ=#[ρ x,ρ y] by simp,h1,h2]
  rfl,λ_ _ _=>rfl⟩
end
end Wx

namespace Wx
open Go Go.RowKit
section
variable {P:Program} {ops:Array Oper} {ms:List Nat} {c:fT} {V:List Vr} {A:List Al} {G:List bz} {i:Nat}{d:Nat} {x y z:Operand} {ty:TypeId} {pos:String} {aft:Array Edge}
theorem ng {xt:TypeId} {n:Int} (h:Has ms G i x (pI n):=by exact hs) (hp:Post G i (pI (-n)):=by exact pt rfl) (hn:-9223372036854775807<=n/\n<=9223372036854775807:=by omega):OpOk P ops ms c V A G i ⟨some d,.unOp .neg xt x,ty,pos,aft,none⟩:=PS h hn hp
variable {φ:Prop}
theorem gng (hc:φ) {xt:TypeId} {n:Int} (h:Has ms G i x (pI n):=by exact hg) (hp:Post G i (pI (-n)):=by exact pg (by assumption) rfl) (hn:-9223372036854775807<=n/\n<=9223372036854775807:=by omega):OpOk P ops ms c V A G i ⟨some d,.unOp .neg xt x,ty,pos,aft,none⟩:=(λ_:φ=>PS h hn hp) hc
variable {f:FuncId} {sz:Nat} {ag:Bool} {q:Pred}
theorem mkC (h:Has ms G i x (cZ sz ag q):=by exact hs) (hp:Post G i (tE f sz ag q):=by exact pt rfl):OpOk P ops ms c V A G i ⟨some d,.makeFunc (.func f) #[] #[x],ty,pos,aft,none⟩:=
 iO rfl rfl rfl rfl h hp λρ w _=>⟨.func (.func f) #[] #[ρ x],by
  show(do pure (Next.value (<-Instr.makeFunc (.func f) ((#[]:Array Operand).map ρ) ((#[x]:Array Operand).map ρ)))).run P w=_
  rw[show(#[x]:Array Operand).map ρ=#[ρ x] by simp,show(#[]:Array Operand).map ρ=#[] by simp]
  rfl,λ_ h=>⟨ρ x,rfl,h⟩⟩
variable {ts:Array TypeId} {p p1 q1:Pred}
theorem cc1 {fx:Operand} (hf:aR P f) (sk:∀(M:Nat->Nat->Prop) (w:World) (v1 v2:Value),cL M w->aO M (λw=>p1 w v1) w->aO M (λw=>cZ sz ag q w v2) w->Calls P f #[v1,v2] w (bH M p w)) (hx:Has ms G i fx (tE f sz ag q):=by exact hs) (h1:Has ms G i x q1:=by exact hs) (c1:∀w v,q1 w v->p1 w v:=by exact uk) (hp:Post G i p:=by exact pt rfl):OpOk P ops ms c V A G i ⟨some d,.call ⟨.value fx,#[x],ts⟩,ty,pos,aft,none⟩:=
 wG hf hx (h1.imp c1) hp sk
theorem cb0 (sk:φ->∀M w,cL M w->Calls P f #[] w (bH M p w)) (hp:Post G i p:=by exact pt rfl) (hφ:φ:=by first|omega|trivial) (hf:aR P f:=by exactλ_ _=>by kernel_rfl):
  OpOk P ops ms c V A G i ⟨some d,.call ⟨.value (.func f),#[],ts⟩,ty,pos,aft,none⟩:=jG hf hp λL β a w hI hd=>(by
  rw[show(#[]:Array Operand).map a.eval=#[] by simp]
  exact sk hφ _ w (aS hI) )
variable {x1 x2 x3:Operand} {p2 p3 q2 q3:Pred}
theorem WS (sk:φ->∀M w v1 v2 v3,cL M w->aO M (λw=>p1 w v1) w->aO M (λw=>p2 w v2) w->aO M (λw=>p3 w v3) w->Calls P f #[v1,v2,v3] w (bH M p w)) (h1:Has ms G i x1 q1:=by exact hs) (c1:∀w v,q1 w v->p1 w v:=by exact uk) (h2:Has ms G i x2 q2:=by exact hs) (c2:∀w v,q2 w v->p2 w v:=by exact uk) (h3:Has ms G i x3 q3:=by exact hs) (c3:∀w v,q3 w v->p3 w v:=by exact uk) (hp:Post G i p:=by exact pt rfl) (hφ:φ:=by first|omega|trivial) (hf:aR P f:=by exactλ_ _=>by kernel_rfl):
  OpOk P ops ms c V A G i ⟨some d,.call ⟨.value (.func f),#[x1,x2,x3],ts⟩,ty,pos,aft,none⟩:=jG hf hp λL β a w hI hd=>(by
  rw[show(#[x1,x2,x3]:Array Operand).map a.eval=#[a.eval x1,a.eval x2,a.eval x3] by simp]
  exact sk hφ _ w _ _ _ (aS hI) ((h1.imp c1).spec hI hd) ((h2.imp c2).spec hI hd) ((h3.imp c3).spec hI hd))
variable {x4:Operand} {p4 q4:Pred}
theorem cb4 (sk:φ->∀M w v1 v2 v3 v4,cL M w->aO M (λw=>p1 w v1) w->aO M (λw=>p2 w v2) w->aO M (λw=>p3 w v3) w->aO M (λw=>p4 w v4) w->Calls P f #[v1,v2,v3,v4] w (bH M p w)) (h1:Has ms G i x1 q1:=by exact hs) (c1:∀w v,q1 w v->p1 w v:=by exact uk) (h2:Has ms G i x2 q2:=by exact hs) (c2:∀w v,q2 w v->p2 w v:=by exact uk) (h3:Has ms G i x3 q3:=by exact hs) (c3:∀w v,q3 w v->p3 w v:=by exact uk) (h4:Has ms G i x4 q4:=by exact hs) (c4:∀w v,q4 w v->p4 w v:=by exact uk) (hp:Post G i p:=by exact pt rfl) (hφ:φ:=by first|omega|trivial) (hf:aR P f:=by exactλ_ _=>by kernel_rfl):
  OpOk P ops ms c V A G i ⟨some d,.call ⟨.value (.func f),#[x1,x2,x3,x4],ts⟩,ty,pos,aft,none⟩:=jG hf hp λL β a w hI hd=>(by
  rw[show(#[x1,x2,x3,x4]:Array Operand).map a.eval=#[a.eval x1,a.eval x2,a.eval x3,a.eval x4] by simp]
  exact sk hφ _ w _ _ _ _ (aS hI) ((h1.imp c1).spec hI hd) ((h2.imp c2).spec hI hd) ((h3.imp c3).spec hI hd) ((h4.imp c4).spec hI hd))
theorem cb5 {x5:Operand} {p5 q5:Pred} (sk:φ->∀M w v1 v2 v3 v4 v5,cL M w->aO M (λw=>p1 w v1) w->aO M (λw=>p2 w v2) w->aO M (λw=>p3 w v3) w->aO M (λw=>p4 w v4) w->aO M (λw=>p5 w v5) w->Calls P f #[v1,v2,v3,v4,v5] w (bH M p w)) (h1:Has ms G i x1 q1:=by exact hs) (c1:∀w v,q1 w v->p1 w v:=by exact uk) (h2:Has ms G i x2 q2:=by exact hs) (c2:∀w v,q2 w v->p2 w v:=by exact uk) (h3:Has ms G i x3 q3:=by exact hs) (c3:∀w v,q3 w v->p3 w v:=by exact uk) (h4:Has ms G i x4 q4:=by exact hs) (c4:∀w v,q4 w v->p4 w v:=by exact uk) (h5:Has ms G i x5 q5:=by exact hs) (c5:∀w v,q5 w v->p5 w v:=by exact uk) (hp:Post G i p:=by exact pt rfl) (hφ:φ:=by first|omega|trivial) (hf:aR P f:=by exactλ_ _=>by kernel_rfl):
  OpOk P ops ms c V A G i ⟨some d,.call ⟨.value (.func f),#[x1,x2,x3,x4,x5],ts⟩,ty,pos,aft,none⟩:=jG hf hp λL β a w hI hd=>(by
  rw[show(#[x1,x2,x3,x4,x5]:Array Operand).map a.eval=#[a.eval x1,a.eval x2,a.eval x3,a.eval x4,a.eval x5] by simp]
  exact sk hφ _ w _ _ _ _ _ (aS hI) ((h1.imp c1).spec hI hd) ((h2.imp c2).spec hI hd) ((h3.imp c3).spec hI hd) ((h4.imp c4).spec hI hd) ((h5.imp c5).spec hI hd))
end
def ij (E:Nat->Int):Nat->Int
 |0=>0
 |n+1=>if ij E n=0 then E n else ij E n
theorem ke {E:Nat->Int}:∀{n:Nat},(∀q,q<n->E q=0)->ij E n=0
 |0,_=>rfl
 |n+1,h=>by
  show(if ij E n=0 then E n else ij E n)=0
  rw[if_pos (ke λq hq=>h q (by omega))]
  exact h n (by omega)
theorem rL {E:Nat->Int} {i:Nat} (hn:E i≠0) (h:∀q,q<i->E q=0):∀{n:Nat},i<n->ij E n=E i
 |0,hi=>absurd hi (Nat.not_lt_zero _)
 |n+1,hi=>by
  show(if ij E n=0 then E n else ij E n)=E i
  by_cases e:i=n
  ·subst e
   rw[if_pos (ke h)]
  ·rw[rL hn h (n:=n) (by omega),if_neg hn]
theorem qF {E:Nat->Int}:∀{n:Nat},ij E n=0->∀q,q<n->E q=0
 |0,_,q,hq=>absurd hq (Nat.not_lt_zero _)
 |n+1,h,q,hq=>by
  have h':(if ij E n=0 then E n else ij E n)=0:=h
  by_cases e:ij E n=0
  ·rw[if_pos e]at h'
   by_cases Vx:q=n
   ·rw[Vx]; exact h'
   ·exact qF e q (by omega)
  ·rw[if_neg e]at h'
   exact absurd h' e
end Wx

namespace Wx
set_option maxRecDepth 100000
open Go Go.RowKit Go.Proofs
def Sm (n d:Int):Rat:=if d<=0 then(n:Rat)else pJ n d
variable {n d:Int}
theorem Ri (h1:-9223372036854775808<=n) (h2:n<=9223372036854775807) (h3:-9223372036854775808<=d) (h4:d<=9223372036854775807) (hd:d≠0):aZ 64 (pJ n d):=
 l5 (by omega) (by unfold Bd; omega) (by unfold Bd; omega)
theorem GQ (h1:-9223372036854775808<=n) (h2:n<=9223372036854775807) (h4:d<=9223372036854775807):aZ 64 (Sm n d):=by
 unfold Sm
 split
 ·exact⟨by unfold Bd; rw[Rat.num_intCast]; omega,by unfold Bd; rw[Rat.den_intCast]; omega⟩
 ·exact Ri h1 h2 (by omega) h4 (by omega)
theorem V0 (w:World) (n d:Int) (h1:-9223372036854775808<=n) (h2:n<=9223372036854775807) (h4:d<=9223372036854775807):
  Calls Tryz.prog 12 #[.agg #[.int .i64 n,.int .i64 d]] w (ig w (Sm n d)):=by
 have HH:=bx (And.intro h1 (And.intro h2 h4))
 by_cases hd:d<=0
 ·have hq:Sm n d=(n:Rat):=if_pos hd
  rw[hq]
  generalize hg:(n:Rat)=q
  have HG:=bx hg
  clear h1 h2 h4 hq hg
  go_enter Tryz.func12,Tryz.ntmps12
  go_wp2_with fail
  obtain⟨w1,e1,o1,b1,s1⟩:=sr w [.int .i64 n,.int .i64 d] 25
  obtain⟨w2,e2,o2,b2,s2⟩:=sr w1 [.bool false,.slice none 0 0,.slice none 0 0] 40
  rw[e1,e2]
  rw[s1]at o2
  have hz:iv w (w.heap.size+1) 3 40 [] w2:=⟨b1.trans (b2.mono b1.size),by omega,by simp,_,rfl,o2,iN⟩
  clear e1 e2 s2
  have hc:=Kj w2 n HH.out.1 HH.out.2.1
  rw[HG.out]at hc
  refine Calls.mono hc ?_
  clear hc
  rintro e w3 ⟨vr,rfl,hr,hb⟩
  obtain⟨WI,WH,rfl,vF,hrd⟩:=id hr
  obtain⟨CB,C4,rfl,_⟩:=id vF
  obtain⟨CC,C5,rfl,_⟩:=id hrd
  have hz:=iv.call (And.intro hz trivial) hb
  have k0:=hz.BD (i:=0) (by omega)
  have k1:=hz.BD (i:=1) (by omega)
  have k2:=hz.BD (i:=2) (by omega)
  have k3:=hz.WZ 0
  have k4:=hz.WZ 1
  have k5:=hz.WZ 2
  go_wp2
  obtain⟨wf,HW,ho,hB,hN⟩:=hz.fin [_,_,_] rfl (iN (b:=decide (q.num<0)) (A1:=CB) (l1:=(af b64 q.num.natAbs).length) (c1:=C4) (A2:=CC) (l2:=(af b64 (aq q.den)).length) (c2:=C5))
  simp only[eO,Nat.reduceAdd]at HW
  rw[HW]
  (try simp only[Exit.inBlock,Exit.then])
  have f0:=ho.cell (i:=0) rfl
  have f1:=ho.cell (i:=1) rfl
  have f2:=ho.cell (i:=2) rfl
  refine bodyPost_ret (by simp[results,Tryz.results12,go_sem,f0,f1,f2]; try rfl) rfl ?_
  exact⟨_,rfl,hr.into hN,hB⟩
 ·have hq:Sm n d=pJ n d:=if_neg hd
  rw[hq]
  generalize hg:pJ n d=q
  have HG:=bx hg
  have Q3:d≠0:=by omega
  have HD:=bx (And.intro Q3 (show -9223372036854775808<=d by omega))
  clear h1 h2 h4 hq hg Q3
  go_enter Tryz.func12,Tryz.ntmps12
  go_wp2_with fail
  obtain⟨w1,e1,o1,b1,s1⟩:=sr w [.int .i64 n,.int .i64 d] 25
  obtain⟨w2,e2,o2,b2,s2⟩:=sr w1 [.bool false,.slice none 0 0,.slice none 0 0] 40
  rw[e1,e2]
  rw[s1]at o2
  have hz:iv w (w.heap.size+1) 3 40 [] w2:=⟨b1.trans (b2.mono b1.size),by omega,by simp,_,rfl,o2,iN⟩
  clear e1 e2 s2
  have hc:=Kv w2 n d HH.out.1 HH.out.2.1 HD.out.2 HH.out.2.2 HD.out.1
  rw[HG.out]at hc
  refine Calls.mono hc ?_
  clear hc
  rintro e w3 ⟨vr,rfl,hr,hb⟩
  obtain⟨WI,WH,rfl,vF,hrd⟩:=id hr
  obtain⟨CB,C4,rfl,_⟩:=id vF
  obtain⟨CC,C5,rfl,_⟩:=id hrd
  have hz:=iv.call (And.intro hz trivial) hb
  obtain⟨w4,e4,o4,b4,s4⟩:=sr w3 [.bool (decide (q.num<0)),.slice CB (af b64 q.num.natAbs).length C4,.slice CC (af b64 (aq q.den)).length C5] 40
  have hr4:=hr.below b4
  have hz:=iv.call (And.intro hz trivial) b4
  have k0:=hz.BD (i:=0) (by omega)
  have k1:=hz.BD (i:=1) (by omega)
  have k2:=hz.BD (i:=2) (by omega)
  have k3:=hz.WZ 0
  have k4:=hz.WZ 1
  have k5:=hz.WZ 2
  have k6:=o4.cell (i:=0) rfl
  have k7:=o4.cell (i:=1) rfl
  have k8:=o4.cell (i:=2) rfl
  go_wp2
  obtain⟨wf,HW,ho,hB,hN⟩:=hz.fin [_,_,_] rfl (iN (b:=decide (q.num<0)) (A1:=CB) (l1:=(af b64 q.num.natAbs).length) (c1:=C4) (A2:=CC) (l2:=(af b64 (aq q.den)).length) (c2:=C5))
  simp only[eO,Nat.reduceAdd]at HW
  rw[HW]
  (try simp only[Exit.inBlock,Exit.then])
  have f0:=ho.cell (i:=0) rfl
  have f1:=ho.cell (i:=1) rfl
  have f2:=ho.cell (i:=2) rfl
  refine bodyPost_ret (by simp[results,Tryz.results12,go_sem,f0,f1,f2]; try rfl) rfl ?_
  exact⟨_,rfl,hr4.into hN,hB⟩
end Wx

namespace Wx
set_option maxRecDepth 100000
set_option maxHeartbeats 1000000
open Go Go.RowKit Go.Proofs
theorem n7 (w:World) (z:Int) (h1:-9223372036854775808<=z) (h2:z<=9223372036854775807):Calls Tryz.prog 157 #[.int .i64 z] w (jR .u32 aP w z.natAbs):=by
 have Ra:Bx (z.natAbs<b64):=bx (by unfold b64; omega)
 by_cases hz:z<0
 ·have e1:IntKind.u64.wrap (-IntKind.u64.wrap z)=((z.natAbs:Nat):Int):=by
   simp[IntKind.wrap,IntKind.bits,IntKind.signed]; omega
  have E1:=bx e1
  clear e1
  go_enter Tryz.func157,Tryz.ntmps157
  go_wp2_with fail
  rw[E1.out]
  refine(nC w _ Ra.out).mono ?_
  rintro e w3 ⟨vr,rfl,hr3,hb3⟩
  go_wp2
  go_ret
  exact⟨_,rfl,hr3,hb3⟩
 ·have e1:z=((z.natAbs:Nat):Int):=by omega
  have E1:=bx e1
  clear e1
  go_enter Tryz.func157,Tryz.ntmps157
  go_wp2_with fail
  have hc:=nC w _ Ra.out
  rw[<-E1.out]at hc
  refine hc.mono ?_
  rintro e w3 ⟨vr,rfl,hr3,hb3⟩
  go_wp2
  go_ret
  exact⟨_,rfl,hr3,hb3⟩
theorem Pb (z:Int):gh (decide (z<0)) z.natAbs 1=(z:Rat):=by
 unfold gh
 rw[Ai,Rat.mkRat_one]
theorem Py (w:World) (z:Int) (h1:-9223372036854775808<=z) (h2:z<=9223372036854775807):Calls Tryz.prog 105 #[.int .i64 z] w (vL w (z:Rat)):=by
 have H:=bx (And.intro h1 h2)
 have hB:Bx (Bd 64 z.natAbs):=bx (by unfold Bd; omega)
 generalize hq:(z:Rat)=q
 have HQ:=bx hq
 clear h1 h2 hq
 go_enter Tryz.func105,Tryz.ntmps105
 go_wp2_with fail
 obtain⟨w1,e1,oR,b1,s1⟩:=sr w [.bool false,.slice none 0 0,.slice none 0 0] 46
 rw[e1]
 clear e1
 have B:=b1
 clear b1
 refine Calls.mono (n7 _ z H.out.1 H.out.2) ?_
 rintro e w2 ⟨v1,rfl,h1,b2⟩
 replace oR:=oR.gone b2
 replace B:=B.trans (b2.mono B.size)
 clear b2
 go_wp2_with fail
 refine Calls.mono (nC _ 1 (by unfold b64; omega)) ?_
 rintro e w3 ⟨v2,rfl,h2,b3⟩
 replace oR:=oR.gone b3
 replace h1:=h1.below b3
 replace B:=B.trans (b3.mono B.size)
 clear b3
 go_wp2_with fail
 have hc:=Fv _ (decide (z<0)) _ _ z.natAbs 1 h1 h2 (by omega) hB.out (by unfold Bd; omega) (by omega)
 rw[Pb,HQ.out]at hc
 clear h1 h2
 refine Calls.mono (hc) ?_
 rintro e w4 ⟨vr,rfl,hr,b4⟩
 replace oR:=oR.gone b4
 replace B:=B.trans (b4.mono B.size)
 clear b4
 clear hc
 obtain⟨vr1,vr2,rfl,Vy,hrb⟩:=id hr
 obtain⟨CB,C4,rfl,_⟩:=id Vy
 obtain⟨CC,C5,rfl,_⟩:=id hrb
 have k1:=oR.cell (i:=0) rfl
 have k2:=oR.fz 0
 have k3:=oR.cell (i:=1) rfl
 have k4:=oR.fz 1
 have k5:=oR.cell (i:=2) rfl
 have k6:=oR.fz 2
 go_wp2
 obtain⟨wf,HW,ho,_,hN,LM,_⟩:=oR.put kz [.bool (decide (q.num<0)),.slice CB (af aP q.num.natAbs).length C4,.slice CC (af aP q.den).length C5] rfl iN
 simp only[eO,Nat.reduceAdd]at HW
 (try rw[HW])
 (try simp only[Exit.inBlock,Exit.then])
 have f0:=ho.cell (i:=0) rfl
 have f1:=ho.cell (i:=1) rfl
 have f2:=ho.cell (i:=2) rfl
 refine bodyPost_ret (by simp[results,Tryz.results105,go_sem,f0,f1,f2]; try rfl) rfl ?_
 have HB:=LM _ (by omega) B
 exact⟨_,rfl,hr.into hN,HB⟩
def Xx (w:World) (q:Rat) (err:Int) (e:Ending) (w':World):Prop:=∃v,e=.returned (.tuple #[v,.int .i64 err])/\sw w' v q/\Below w.heap.size w w'
theorem PA (w:World) (n d:Int) (h1:-9223372036854775808<=n) (h2:n<=9223372036854775807) (h3:-9223372036854775808<=d) (h4:d<=9223372036854775807) (hd:d≠0):
  Calls Tryz.prog 106 #[.int .i64 n,.int .i64 d] w (Xx w (pJ n d) 0):=by
 have H:=bx (And.intro (And.intro h1 h2) (And.intro h3 h4))
 have HD:=bx hd
 have Q3:(d==0)=false:=beq_eq_false_iff_ne.2 hd
 have B1:Bx (Bd 64 n.natAbs):=bx (by unfold Bd; omega)
 have B2:Bx (Bd 64 d.natAbs):=bx (by unfold Bd; omega)
 clear h1 h2 h3 h4 hd
 go_enter Tryz.func106,Tryz.ntmps106
 go_wp2_with fail
 obtain⟨w1,e1,oR,b1,s1⟩:=sr w [.bool false,.slice none 0 0,.slice none 0 0] 46
 rw[e1]
 clear e1
 have B:=b1
 clear b1
 refine Calls.mono (n7 _ n H.out.1.1 H.out.1.2) ?_
 rintro e w2 ⟨v1,rfl,h1,b2⟩
 replace oR:=oR.gone b2
 replace B:=B.trans (b2.mono B.size)
 clear b2
 go_wp2_with fail
 refine Calls.mono (n7 _ d H.out.2.1 H.out.2.2) ?_
 rintro e w3 ⟨v2,rfl,h2,b3⟩
 replace oR:=oR.gone b3
 replace h1:=h1.below b3
 replace B:=B.trans (b3.mono B.size)
 clear b3
 go_wp2_with fail
 refine Calls.mono (Fv _ _ _ _ _ _ h1 h2 (by have:=HD.out; omega) B1.out B2.out (by omega)) ?_
 rintro e w4 ⟨vr,rfl,hr,b4⟩
 replace oR:=oR.gone b4
 replace h1:=h1.below b4
 replace h2:=h2.below b4
 replace B:=B.trans (b4.mono B.size)
 clear b4
 clear h1 h2
 change sw _ vr (pJ n d)at hr
 generalize pJ n d=q at *
 obtain⟨vr1,vr2,rfl,Vy,hrb⟩:=id hr
 obtain⟨CB,C4,rfl,_⟩:=id Vy
 obtain⟨CC,C5,rfl,_⟩:=id hrb
 have k1:=oR.cell (i:=0) rfl
 have k2:=oR.fz 0
 have k3:=oR.cell (i:=1) rfl
 have k4:=oR.fz 1
 have k5:=oR.cell (i:=2) rfl
 have k6:=oR.fz 2
 go_wp2
 obtain⟨wf,HW,ho,_,hN,LM,_⟩:=oR.put kz [.bool (decide (q.num<0)),.slice CB (af aP q.num.natAbs).length C4,.slice CC (af aP q.den).length C5] rfl iN
 simp only[eO,Nat.reduceAdd]at HW
 (try rw[HW])
 (try simp only[Exit.inBlock,Exit.then])
 have f0:=ho.cell (i:=0) rfl
 have f1:=ho.cell (i:=1) rfl
 have f2:=ho.cell (i:=2) rfl
 refine bodyPost_ret (by simp[results,Tryz.results106,go_sem,f0,f1,f2]; try rfl) rfl ?_
 have HB:=LM _ (by omega) B
 exact⟨_,rfl,hr.into hN,HB⟩
end Wx

namespace Wx
set_option maxRecDepth 100000
set_option maxHeartbeats 1000000
open Go Go.RowKit Go.Proofs
theorem Sf (w:World) (n d:Int) (h1:-9223372036854775808<=n) (h2:n<=9223372036854775807) (h4:d<=9223372036854775807):
  Calls Tryz.prog 60 #[.agg #[.int .i64 n,.int .i64 d]] w (vL w (Sm n d)):=by
 have HH:=bx (And.intro h1 (And.intro h2 h4))
 by_cases hd:d<=0
 ·have hq:Sm n d=(n:Rat):=if_pos hd
  rw[hq]
  generalize hg:(n:Rat)=q
  have HG:=bx hg
  clear h1 h2 h4 hq hg
  go_enter Tryz.func60,Tryz.ntmps60
  go_wp2_with fail
  obtain⟨w1,e1,oP,b1,s1⟩:=sr w [.int .i64 n,.int .i64 d] 25
  rw[e1]
  clear e1
  have B:=b1
  clear b1
  obtain⟨w2,e2,oR,b2,s2⟩:=sr w1 [.bool false,.slice none 0 0,.slice none 0 0] 46
  rw[e2]
  rw[s1]at oR
  clear e2
  replace oP:=oP.gone b2
  replace B:=B.trans (b2.mono B.size)
  clear b2
  have hc:=Py w2 n HH.out.1 HH.out.2.1
  rw[HG.out]at hc
  refine Calls.mono (hc) ?_
  rintro e w3 ⟨vr,rfl,hr,b3⟩
  replace oP:=oP.gone b3
  replace oR:=oR.gone b3
  replace B:=B.trans (b3.mono B.size)
  clear b3
  clear hc
  obtain⟨vr1,vr2,rfl,Vy,hrb⟩:=id hr
  obtain⟨CB,C4,rfl,_⟩:=id Vy
  obtain⟨CC,C5,rfl,_⟩:=id hrb
  have k1:=oR.cell (i:=0) rfl
  have k2:=oR.fz 0
  have k3:=oR.cell (i:=1) rfl
  have k4:=oR.fz 1
  have k5:=oR.cell (i:=2) rfl
  have k6:=oR.fz 2
  go_wp2
  obtain⟨wf,HW,ho,_,hN,LM,_⟩:=oR.put kz [.bool (decide (q.num<0)),.slice CB (af aP q.num.natAbs).length C4,.slice CC (af aP q.den).length C5] rfl iN
  simp only[eO,Nat.reduceAdd]at HW
  (try rw[HW])
  (try simp only[Exit.inBlock,Exit.then])
  have f0:=ho.cell (i:=0) rfl
  have f1:=ho.cell (i:=1) rfl
  have f2:=ho.cell (i:=2) rfl
  refine bodyPost_ret (by simp[results,Tryz.results60,go_sem,f0,f1,f2]; try rfl) rfl ?_
  have HB:=LM _ (by omega) B
  exact⟨_,rfl,hr.into hN,HB⟩
 ·have hq:Sm n d=pJ n d:=if_neg hd
  rw[hq]
  generalize hg:pJ n d=q
  have HG:=bx hg
  have Q3:d≠0:=by omega
  have HD:=bx (And.intro Q3 (show -9223372036854775808<=d by omega))
  clear h1 h2 h4 hq hg Q3
  go_enter Tryz.func60,Tryz.ntmps60
  go_wp2_with fail
  obtain⟨w1,e1,oP,b1,s1⟩:=sr w [.int .i64 n,.int .i64 d] 25
  rw[e1]
  clear e1
  have B:=b1
  clear b1
  obtain⟨w2,e2,oR,b2,s2⟩:=sr w1 [.bool false,.slice none 0 0,.slice none 0 0] 46
  rw[e2]
  rw[s1]at oR
  clear e2
  replace oP:=oP.gone b2
  replace B:=B.trans (b2.mono B.size)
  clear b2
  have hc:=PA w2 n d HH.out.1 HH.out.2.1 HD.out.2 HH.out.2.2 HD.out.1
  rw[HG.out]at hc
  refine Calls.mono (hc) ?_
  rintro e w3 ⟨vr,rfl,hr,b3⟩
  replace oP:=oP.gone b3
  replace oR:=oR.gone b3
  replace B:=B.trans (b3.mono B.size)
  clear b3
  clear hc
  obtain⟨vr1,vr2,rfl,Vy,hrb⟩:=id hr
  obtain⟨CB,C4,rfl,_⟩:=id Vy
  obtain⟨CC,C5,rfl,_⟩:=id hrb
  obtain⟨w4,e4,oV,b4,s4⟩:=sr w3 [.bool (decide (q.num<0)),.slice CB (af aP q.num.natAbs).length C4,.slice CC (af aP q.den).length C5] 46
  replace oP:=oP.gone b4
  replace oR:=oR.gone b4
  replace hr:=hr.below b4
  replace B:=B.trans (b4.mono B.size)
  clear b4 s4
  have k1:=oV.cell (i:=0) rfl
  have k2:=oV.cell (i:=1) rfl
  have k3:=oV.cell (i:=2) rfl
  have k4:=oR.cell (i:=0) rfl
  have k5:=oR.fz 0
  have k6:=oR.cell (i:=1) rfl
  have k7:=oR.fz 1
  have k8:=oR.cell (i:=2) rfl
  have k9:=oR.fz 2
  go_wp2
  obtain⟨wf,HW,ho,_,hN,LM,_⟩:=oR.put kz [.bool (decide (q.num<0)),.slice CB (af aP q.num.natAbs).length C4,.slice CC (af aP q.den).length C5] rfl iN
  simp only[eO,Nat.reduceAdd]at HW
  (try rw[HW])
  (try simp only[Exit.inBlock,Exit.then])
  have f0:=ho.cell (i:=0) rfl
  have f1:=ho.cell (i:=1) rfl
  have f2:=ho.cell (i:=2) rfl
  refine bodyPost_ret (by simp[results,Tryz.results60,go_sem,f0,f1,f2]; try rfl) rfl ?_
  have HB:=LM _ (by omega) B
  exact⟨_,rfl,hr.into hN,HB⟩
end Wx

namespace Wx
set_option maxRecDepth 100000
set_option maxHeartbeats 1000000
open Go Go.RowKit Go.Proofs
set_option linter.unusedVariables false
attribute [local irreducible] OpOk
def V7 (x:Int×Int):Pred:=PY x.1 x.2
def z2:Int×Int:=(0,0)
abbrev V9 (D:List (Int×Int)):Pred:=pG 2 V7 D
def J6 (x:Int×Int):Prop :=-9223372036854775808<=x.1/\x.1<=9223372036854775807/\x.2<=9223372036854775807
def rN (x:Int×Int):Rat:=Sm x.1 x.2
def gU (D:List (Int×Int)):List Rat:=(List.range 16).map λu=>rN (D.getD u z2)
def I1 (D:List (Int×Int)):Pred:=pV au 64 (gU D)
def zU (D:List (Int×Int)):Pred:=pV MD 64 (gU D)
def pO:Option Rat->Pred
 |none=>cY
 |some x=>pN 64 x
variable {D:List (Int×Int)}
theorem zH:(gU D).length=16:=dS
theorem bW (x:Int×Int):Fits 2 true (V7 x):=LI _ _
theorem zf (D:List (Int×Int)):Fits 48 true (I1 D):=eF (λ_=>cE) (by rw[zH])
theorem vX (D:List (Int×Int)):Fits 48 true (zU D):=eF (λ_=>x9) (by rw[zH])
theorem TB {α:Type} {sz:Nat} {F:α->Pred} (hF:∀x,Fits sz true (F x)):∀l:List α,tV (l.map (LF sz F))
 |[]=>trivial
 |_::l=>⟨hF _,TB hF l⟩
theorem Un {α:Type} {sz:Nat} {F:α->Pred}:∀l:List α,oY (l.map (LF sz F))=l.length*sz
 |[]=>by rw[List.length_nil,Nat.zero_mul]; rfl
 |_::l=>by
  rw[List.length_cons,Nat.succ_mul,Nat.add_comm,<-Un l]
  rfl
theorem rM (h:D.length=16):Fits 32 true (V9 D):=vY (TB bW D) (by rw[Un,h])
theorem Wa {l:List Rat}:∀w v,pG 3 pO (l.map some) w v->pV MD 64 l w v:=λw v h=>by
 unfold pG at h
 rw[List.map_map]at h
 exact h
variable {x:Int×Int}
theorem CM (h:J6 x):∀w v1,V7 x w v1->Calls Tryz.prog 12 #[v1] w (ie (pR 64 (rN x)) w):=λw v1 h1=>by
 rw[FP h1]
 exact(V0 w x.1 x.2 h.1 h.2.1 h.2.2).mono λe w' hr=>ie.map (xw (GQ h.1 h.2.1 h.2.2)) (show ie (au (rN x)) w e w' from hr)
theorem Dz (h:J6 x):∀w v1,V7 x w v1->Calls Tryz.prog 60 #[v1] w (ie (pN 64 (rN x)) w):=λw v1 h1=>by
 rw[FP h1]
 exact(Sf w x.1 x.2 h.1 h.2.1 h.2.2).mono λe w' hr=>ie.map (xw (GQ h.1 h.2.1 h.2.2)) (show ie (MD (rN x)) w e w' from hr)
theorem Ek {x:Rat}:∀w v,pN 64 x w v->pO (some x) w v:=λ_ _ h=>h
def FJ {α:Type} (z:α) (R:Nat->α) (i:Nat):List α:=(List.range 16).map λu=>if u<4\/(4<=u/\u<4+i)\/(6<=u/\u<6+i)\/(8<=u/\u<8+i)then R u else z
def DF {α:Type} (z:α) (R:Nat->α) (k:Nat):List α:=(List.range 16).map λu=>if u<11+k then R u else z
section
variable {α:Type} {z:α} {R:Nat->α} {i k:Nat}
theorem oQ:((((List.replicate 16 z).set 0 (R 0)).set 1 (R 1)).set 2 (R 2)).set 3 (R 3)=FJ z R 0:=rfl
theorem B8 (hi:i<2):(((FJ z R i).set (4+i) (R (4+i))).set (6+i) (R (6+i))).set (8+i) (R (8+i))=FJ z R (i+1):=by
 rcases (by omega:i=0\/i=1)with rfl|rfl<;>rfl
theorem Mx:(FJ z R 2).set 10 (R 10)=DF z R 0:=rfl
theorem B9 (hk:k<5):(DF z R k).set (11+k) (R (11+k))=DF z R (k+1):=by
 rcases (by omega:k=0\/k=1\/k=2\/k=3\/k=4)with rfl|rfl|rfl|rfl|rfl<;>rfl
theorem PN:DF z R 5=(List.range 16).map R:=rfl
theorem cm:(FJ z R i).length=16:=by unfold FJ; rw[List.length_map,List.length_range]
theorem cI:(DF z R i).length=16:=by unfold DF; rw[List.length_map,List.length_range]
end
section
variable {P:Program} {ops:Array Oper} {ms:List Nat} {c:fT} {V:List Vr} {A:List Al} {G:List bz} {i:Nat}{d:Nat} {x y:Operand} {ty:TypeId} {pos:String} {aft:Array Edge}{T:TypeId}
theorem adp {v:Vr} (n:Nat) (hv:AF i V=some v:=by exact rfl) (hT:v.T=T:=by exact rfl) (bR:v.kd=.ptr:=by exact rfl) (hc:v.c0=pv (pG 3 pO (List.replicate n none)):=by exact rfl) (qj:v.agg=true:=by exact rfl)
  (hz:∀w,(zeroValue T).run P w=.ok (.agg ((List.replicate n Zl.f).flatMap Zl.cs).toArray) w:=by exactλ_=>by kernel_rfl) (hl:((List.replicate n Zl.f).flatMap Zl.cs).length=v.n:=by kernel_rfl) (hst:((v.st.all λq=>(ms.getD q.1 0).testBit i)&&V.all λy=>y.dead != some i)=true:=by kernel_rfl) (hno:(G.all λe=>e.tag != some i)=true:=by kernel_rfl) (dX:(A.all λp=>p.var != v.id||p.tag.any λj=>(ms.getD j 0).testBit i)=true:=by kernel_rfl):
  OpOk P ops ms c V A G i ⟨some d,.alloc T,ty,pos,aft,none⟩:=by
 obtain⟨⟨k,hk⟩,hb⟩:=eY hv
 refine kZ k hk hb hst hno dX hT bR hz rfl hl (Az _) hc λw=>?_
 rw[qj]
 have h:=tP (List.replicate n Zl.f) w
 rw[List.map_replicate]at h
 unfold pG
 rw[List.map_replicate]
 exact h
theorem bsG {p:Pred} (E:TypeId) (sz:Nat) (zl:List Zl) (hf:Fits sz true p) (ht:mV P T E sz:=by exact⟨by kernel_rfl,λ_=>by kernel_rfl⟩) (Dq:∀w,(zeroValue E).run P w=.ok (.agg (zl.flatMap Zl.cs).toArray) w:=by exactλ_=>by kernel_rfl) (h1:Has ms G i x p:=by exact hs) (we:(zl.flatMap Zl.cs).length=sz:=by kernel_rfl) (hsz:0<sz/\sz<=16777216:=by decide) (hp:Post G i (aA sz true 1 λ_=>p):=by exact pt rfl):
  OpOk P ops ms c V A G i ⟨some d,.buildSlice T 1 #[(0,x)],ty,pos,aft,none⟩:=
 gJ (agg:=true) ht Dq rfl we hsz h1 hf hp
def Np (n:Int):Int:=IntKind.i64.wrap (0-n)
variable {n:Int}
theorem ngw {xt:TypeId} (h:Has ms G i x (pI n):=by exact hs) (hp:Post G i (pI (Np n)):=by exact pt rfl):OpOk P ops ms c V A G i ⟨some d,.unOp .neg xt x,ty,pos,aft,none⟩:=
 iO rfl rfl rfl rfl h hp λρ w h=>⟨.int .i64 (Np n),by
  have h:ρ x=.int .i64 n:=h
  show(do pure (Next.value (<-Op.unary .neg (ρ x)))).run P w=_
  rw[h]
  rfl,λ_ _=>rfl⟩
theorem mx2 {ts:Array TypeId} {m:Int} (h1:Has ms G i x (pI m):=by exact hs) (h2:Has ms G i y (pI n):=by exact hs) (hp:Post G i (pI (wA m n)):=by exact pt rfl):OpOk P ops ms c V A G i ⟨some d,.call ⟨.builtin .max,#[x,y],ts⟩,ty,pos,aft,none⟩:=Sr h1 h2 hp
end
def xF (p:Nat->Bool):Nat->Bool
 |0=>true
 |n+1=>xF p n&&p n
theorem kQ {p:Nat->Bool}:∀{n:Nat},(∀k,k<n->p k=true)->xF p n=true
 |0,_=>rfl
 |n+1,h=>by unfold xF; rw[kQ λk hk=>h k (by omega),h n (by omega)]; rfl
theorem rK {p:Nat->Bool} {k:Nat} (hk:p k=false):∀{n:Nat},k<n->xF p n=false
 |0,h=>absurd h (by omega)
 |n+1,h=>by
  unfold xF
  by_cases e:k=n
  ·rw[<-e,hk,Bool.and_false]
  ·rw[rK hk (by omega),Bool.false_and]
theorem Ev {p:Nat->Bool}:∀{n:Nat},xF p n=true->∀k,k<n->p k=true
 |0,_,k,hk=>absurd hk (by omega)
 |n+1,h,k,hk=>by
  unfold xF at h
  rw[Bool.and_eq_true]at h
  by_cases e:k=n
  ·rw[e]; exact h.2
  ·exact Ev h.1 k (by omega)
def GV (most:Int) (x:Int×Int):Bool:=(decide (x.1>most)||decide (x.1 < -most))||decide (x.2>most)
def wT (most:Int) (e:Nat->Int×Int) (n:Nat):Bool:=xF (λk=>!GV most (e k)) n
variable {most:Int} {n:Nat}
theorem R5 {e:Nat->Int×Int} (h:-1000000000<=most/\most<=1000000000/\n<=1000000):K2 Tryz.prog 9 (pI most) (aA 2 true n λk=>V7 (e k)) (pB (wT most e n)):=by
 intro M w0 v0 v1 hM hv0 eI
 refine rG (N:=31) Tryz.func9 rfl rfl rfl hM hv0 eI λa hI=>?_
 refine bM hI 1 [Uc 0 4 _] (.kk .z) ⟨mv,trivial⟩ (.bS .z) λa w hI=>?_
 refine az ?_
 refine bM hI 3 [Uc 0 7 _,Uc 1 8 _,Uc 2 9 _] (.bS .z) ⟨mv,ln,mv,trivial⟩ (.oM (.kk .z)) λa w hI=>?_
 refine aC ?_
 refine tN [] [Uz 0 _,Uz 7 _,Uz 8 _] (λ(i:Nat)=>[]) (λ(i:Nat)=>[Uz 9 (pI (i:Int))]) (λ(i:Nat)=>i<=n/\∀k,k<i->(!GV most (e k))=true) (λ(i:Nat)=>n-i) (0) ⟨Nat.zero_le _,λk hk=>absurd hk (by omega)⟩ hI trivial ⟨gi,gi,gi,gc,trivial⟩ ?_
 intro i a w hp hI
 refine bM hI 1 [Uc 0 10 _] (.ah .z) ⟨bn,trivial⟩ (.ah (.k .z)) λa w hI=>?_
 refine az ?_
 refine mj hI (λt1=>?_) (λt1=>?_)
 ·
  refine aJ ?_
  refine ae ?_
  refine az ?_
  refine aC ?_
  refine bf hI 4 [⟨6,6,some 2,none,.ptr,25,2,true,pv _,[(3,pv _)]⟩] [] [Uc 0 11 _,Uc 1 12 _] .z (.ah (.k .z)) ⟨ix,cK hs (pt rfl) (by kernel_rfl) (bW _),fB [.i,.i],gV rfl rfl hs rfl rfl (aY (by kernel_rfl)) (bW _) (by kernel_rfl),trivial⟩ (.s .o .z) (.ah (.qy .z)) λa w hI=>?_
  refine bf hI 17 [] [⟨some 0,13,6,0,True⟩,⟨some 5,18,6,0,_⟩,⟨some 12,25,6,1,_⟩] [Uc 1 14 _,Uc 2 15 _,Uc 3 16 _,Uc 4 17 _,Uc 6 19 _,Uc 7 20 _,Uc 8 21 _,Uc 9 22 _,Uc 10 23 _,Uc 11 24 _,Uc 13 26 _,Uc 14 27 _,Uc 15 28 _,Uc 16 29 _] (.k .z) (.ah .z) ⟨fa,ld,mv,bn,mv,gd λh=>mZ h,gd λh=>Fa h,gd λh=>yf h,gd λh=>gng h,gd λh=>ya h,pk,mv,gd λh=>mZ h,gd λh=>Fa h,gd λh=>yf h,gd λh=>ya h,pk,trivial⟩ (.d .z) (.ah (.d8 (.bh (.dk .z)))) λa w hI=>?_
  refine Cy hI (λt2=>?_) (λt2=>?_)
  ·
   have e1:wT most e n=false:=rK (k:=i) (by show(!GV most (e i))=false; unfold GV; rw[t2]; rfl) (by omega)
   refine bM hI 1 [Uc 0 4 _] (.ah (.k .z)) ⟨mv,trivial⟩ (.ah (.dk .z)) λa w hI=>?_
   refine aL ?_
   refine bj ?_
   refine aB ?_
   refine aB ?_
   refine bj ?_
   refine aB ?_
   exact ck hI rfl (iu (hq:=gw e1.symm))
  ·
   have e3:(!GV most (e i))=true:=by unfold GV; rw[t2]; rfl
   have e4:∀k,k<i+1->(!GV most (e k))=true:=λk hk=>if hk2:k=i then hk2▸e3 else hp.2 k (by omega)
   refine aJ ?_
   refine aG ?_
   refine ae ?_
   refine Ed hI 2 [Uc 0 30 _,Uc 1 9 _] (.bS (.t 1 (.k .z))) ⟨bn,mv,trivial⟩ (.cA (.lQ .z)) λa w hI=>?_
   refine ae ?_
   exact qR (i+1) ⟨by omega,e4⟩ hI trivial ⟨gc,gc,gc,gc,trivial⟩ (by omega)
 ·
  have e2:wT most e n=true:=kQ λk hk=>hp.2 k (by omega)
  refine bO ?_
  refine ak ?_
  refine ak ?_
  refine aH ?_
  refine ae ?_
  refine bM hI 1 [Uc 0 4 _] (.ah (.k .z)) ⟨mv,trivial⟩ (.bh (.dk .z)) λa w hI=>?_
  refine aL ?_
  exact ck hI rfl (iu (hq:=gw e2.symm))
theorem Zs {D:List (Int×Int)} (h:D.length=16):K1 Tryz.prog 54 (V9 D) (aA 2 true 16 λk=>V7 (D.getD k z2)):=by
 intro M w0 v0 hM hv0
 refine om (N:=26) Tryz.func54 rfl rfl rfl hM hv0 λa hI=>?_
 refine bM hI 2 [Uc 0 1 _,Uc 1 2 _] (.k .z) ⟨AK 32 true (hf:=rM h),mv,trivial⟩ (.Ok .z) λa w hI=>?_
 refine mR hI [0,0,2,7,0,16,63,127] [⟨7,7,some 3,some 6,.grow (4) 2,25,3,true,pv cY,[]⟩,⟨10,10,some 6,some 7,.grow (4+2) 2,25,3,true,pv cY,[]⟩,⟨3,3,some 7,none,.grow (4+2) 2,25,3,true,pv cY,[]⟩] [] [Uc 0 4 _,Uc 1 5 _,Uc 2 6 _,Uc 3 7 _,Uc 4 8 _,Uc 5 9 _,Uc 6 10 _,Uc 7 3 _] .z (.kk .z) ⟨bs0 (sz:=2) 25,hW 0 4,hS 4 z2,apE D z2 bW (e:=λk=>D.getD (0+k) z2) (he:=λk _=>by rw[Nat.zero_add]),hW 4 2,hS 2 z2,UF D z2 bW,XB,trivial⟩ (.d (.d (.k .z))) (.dI (.bh (.dk .z))) λa w hI=>?_
 refine adN hI [0,0,2,7,0,16,63,127] 7 [⟨11,11,some 0,some 3,.grow (4+2) 2,25,3,true,pv cY,[]⟩,⟨14,14,some 3,some 6,.grow (4+2+2) 2,25,3,true,pv cY,[]⟩,⟨17,17,some 6,none,.grow (4+2+2+2) 2,25,3,true,pv cY,[]⟩] [] [Uc 0 11 _,Uc 1 12 _,Uc 2 13 _,Uc 3 14 _,Uc 4 15 _,Uc 5 16 _,Uc 6 17 _] (.u (some 0) [] .z) (.bS .z) ⟨mvH,hW 6 2,hS 2 z2,UF D z2 bW,hW 8 2,hS 2 z2,UF D z2 bW,trivial⟩ (.d (.d (.d (.k .z)))) (.dI (.bh (.dk .z))) (⟨_,sgl [⟨3,3,some 0,none,.grow (4+2+2+2) 2,25,3,true,pv cY,[]⟩] [] [Uc 0 3 _] (.u (some 0) [] .z) (.bS .z) (XB) (.d (.k .z)) (.sq .z),rfl⟩) λa w hI=>?_
 refine mR hI [0,0,2,6,15,0,32,127,255] [⟨18,18,some 0,some 4,.grow (4+2+2+2) 2,25,3,true,pv cY,[]⟩,⟨22,22,some 4,some 7,.grow (4+2+2+2+1) 2,25,3,true,pv cY,[]⟩,⟨25,25,some 7,none,.grow (4+2+2+2+1+5) 2,25,3,true,pv cY,[]⟩] [] [Uc 0 18 _,Uc 1 19 _,Uc 2 20 _,Uc 3 21 _,Uc 4 22 _,Uc 5 23 _,Uc 6 24 _,Uc 7 25 _,Uc 8 2 _] (.u (some 0) [] .z) (.k (.t 8 (.k .z))) ⟨mvH,hQ 10 z2,cK hs (pt rfl) (by kernel_rfl) (bW _),bsG 25 2 [.i,.i] (bW _),UF D z2 bW (m:=10) (n:=1) (e:=λ_=>D.getD 10 z2) (he:=λk hk=>by rw[show k=0 by omega]),hW 11 5,hS 5 z2,UF D z2 bW,mv,trivial⟩ (.d (.d (.d (.d .z)))) (.d8 (.dw .z)) λa w hI=>?_
 refine aL ?_
 exact ck hI rfl iu
def B4 (n:Nat) (S:List bK) (plies:Int):Bool:=(decide ((n:Int)>10)||(decide ((S.length:Int)>plies)&&decide ((S.length:Int)<=64)))||decide ((S.length:Int)>70)
variable {S:List bK} {plies:Int}
theorem Kq (h:B4 n S plies=false):n<=10/\S.length<=70:=by
 unfold B4 at h
 simp only[Bool.or_eq_false_iff,decide_eq_false_iff_not]at h
 omega
def Hx (most:Int) (x:bK):Bool:=(decide (wA x.p (Np x.p)>most)&&decide (wA x.p (Np x.p)<=1048576))||(decide (wA x.q (Np x.q)>most)&&decide (wA x.q (Np x.q)<=1048576))
def zX (S:List bK) (most:Int):Bool:=xF (λk=>!Hx most (ai S k)) S.length
def Pq (L:List (List (Int×Int))) (most:Int):Bool:=xF (λk=>wT most (λq=>(L.getD k []).getD q z2) 16) L.length
def Da (L:List (List (Int×Int))) (S:List bK) (plies most:Int):Bool:=!B4 L.length S plies&&(Pq L most&&zX S most)
variable {L:List (List (Int×Int))}
theorem U2 (h:Da L S plies most=true):L.length<=10/\S.length<=70:=by
 unfold Da at h
 rw[Bool.and_eq_true,Bool.not_eq_true']at h
 exact Kq h.1
theorem R4 (h:S.length<=1000000):K2 Tryz.prog 55 (aA 4 true S.length λi=>cP (ai S i)) (pI most) (pB (zX S most)):=by
 intro M w0 v0 v1 hM hv0 eI
 refine rG (N:=48) Tryz.func55 rfl rfl rfl hM hv0 eI λa hI=>?_
 refine bM hI 1 [Uc 0 4 _] (.kk .z) ⟨mv,trivial⟩ (.bS .z) λa w hI=>?_
 refine az ?_
 refine bM hI 3 [Uc 0 9 _,Uc 1 10 _,Uc 2 11 _] (.bS .z) ⟨mv,ln,mv,trivial⟩ (.mw (.kk .z)) λa w hI=>?_
 refine aC ?_
 refine tN [] [Uz 1 _,Uz 9 _,Uz 10 _] (λ(i:Nat)=>[]) (λ(i:Nat)=>[Uz 11 (pI (i:Int))]) (λ(i:Nat)=>i<=S.length/\∀k,k<i->(!Hx most (ai S k))=true) (λ(i:Nat)=>S.length-i) (0) ⟨Nat.zero_le _,λk hk=>absurd hk (by omega)⟩ hI trivial ⟨gi,gi,gi,gc,trivial⟩ ?_
 intro i a w hp hI
 refine bM hI 1 [Uc 0 12 _] (.ah .z) ⟨bn,trivial⟩ (.ah (.k .z)) λa w hI=>?_
 refine az ?_
 refine mj hI (λt1=>?_) (λt1=>?_)
 ·
  refine aJ ?_
  refine ae ?_
  refine az ?_
  refine aC ?_
  refine bf hI 4 [⟨6,6,some 2,none,.ptr,68,4,true,pv _,[(3,pv _)]⟩] [] [Uc 0 13 _,Uc 1 14 _] .z (.ah (.k .z)) ⟨ix,ld,fB [.i,.i,.i,.i],dM,trivial⟩ (.s .o .z) (.ah (.qy .z)) λa w hI=>?_
  refine mR hI [0,1,3,0,8,24,56,127,0,256,768,0,2048,6144,14336,32512,255,131071] [] [⟨some 0,15,6,1,True⟩,⟨some 1,16,6,1,True⟩,⟨some 3,18,6,1,True⟩,⟨some 4,19,6,1,True⟩,⟨some 8,23,6,1,True⟩,⟨some 9,24,6,2,True⟩,⟨some 11,26,6,1,True⟩,⟨some 12,27,6,2,True⟩] [Uc 2 17 _,Uc 5 20 _,Uc 6 21 _,Uc 7 22 _,Uc 10 25 _,Uc 13 28 _,Uc 14 29 _,Uc 15 30 _,Uc 16 7 _,Uc 17 8 _] (.k .z) (.ah .z) ⟨fa,fa,ld,fa,fa,ld,ngw,mx2,fa,fa,ld,fa,fa,ld,ngw,mx2,mv,mv,trivial⟩ (.d .z) (.ah (.d8 (.kk .z))) λa w hI=>?_
  refine bM hI 16 [Uc 0 31 _,Uc 1 32 _,Uc 2 33 _,Uc 3 34 _,Uc 4 35 _,Uc 5 36 _,Uc 6 37 _,Uc 7 38 _,Uc 8 39 _,Uc 9 40 _,Uc 10 41 _,Uc 11 42 _,Uc 12 43 _,Uc 13 44 _,Uc 14 45 _,Uc 15 46 _] (.ah (.kk .z)) ⟨mv,mv,bn,mv,gd λh=>yf h,gd λh=>ya h,pk,mv,gd λh=>yf h,gd λh=>yf h,gd λh=>ya h,gd λh=>yf h,TC λh=>yf h,TC λh=>ya h,gd λh=>gpk h,pk,trivial⟩ (.ah (.d8 (.d8 (.dk .z)))) λa w hI=>?_
  refine Cy hI (λt2=>?_) (λt2=>?_)
  ·
   have e1:zX S most=false:=rK (k:=i) (by show(!Hx most (ai S i))=false; unfold Hx; rw[t2]; rfl) (by omega)
   refine bM hI 1 [Uc 0 4 _] (.ah (.k .z)) ⟨mv,trivial⟩ (.ah (.dk .z)) λa w hI=>?_
   refine aL ?_
   refine bj ?_
   refine aB ?_
   refine aB ?_
   refine bj ?_
   refine aB ?_
   exact ck hI rfl (iu (hq:=gw e1.symm))
  ·
   have e3:(!Hx most (ai S i))=true:=by unfold Hx; rw[t2]; rfl
   have e4:∀k,k<i+1->(!Hx most (ai S k))=true:=λk hk=>if hk2:k=i then hk2▸e3 else hp.2 k (by omega)
   refine aJ ?_
   refine aG ?_
   refine ae ?_
   refine Ed hI 2 [Uc 0 47 _,Uc 1 11 _] (.bS (.t 1 (.k .z))) ⟨bn,mv,trivial⟩ (.cA (.lQ .z)) λa w hI=>?_
   refine ae ?_
   exact qR (i+1) ⟨by omega,e4⟩ hI trivial ⟨gc,gc,gc,gc,trivial⟩ (by omega)
 ·
  have e2:zX S most=true:=kQ λk hk=>hp.2 k (by omega)
  refine bO ?_
  refine ak ?_
  refine ak ?_
  refine aH ?_
  refine ae ?_
  refine bM hI 1 [Uc 0 4 _] (.ah (.k .z)) ⟨mv,trivial⟩ (.bh (.dk .z)) λa w hI=>?_
  refine aL ?_
  exact ck hI rfl (iu (hq:=gw e2.symm))
theorem Zt (h:(-1000000000<=most/\most<=1000000000)/\∀k,k<L.length->(L.getD k []).length=16):K4 Tryz.prog 8 (aA 32 true L.length λk=>V9 (L.getD k [])) (aA 4 true S.length λi=>cP (ai S i)) (pI plies) (pI most) (pB (Da L S plies most)):=by
 intro M w0 v0 v1 v2 v3 hM hv0 eI hv2 hv3
 refine WK (N:=45) Tryz.func8 rfl rfl rfl hM hv0 eI hv2 hv3 λa hI=>?_
 refine bM hI 1 [Uc 0 8 _] (.ah .z) ⟨mv,trivial⟩ (.ah (.k .z)) λa w hI=>?_
 refine az ?_
 refine bM hI 19 [Uc 0 11 _,Uc 1 12 _,Uc 2 13 _,Uc 3 14 _,Uc 4 15 _,Uc 5 16 _,Uc 6 17 _,Uc 7 18 _,Uc 8 19 _,Uc 9 20 _,Uc 10 21 _,Uc 11 22 _,Uc 12 23 _,Uc 13 24 _,Uc 14 25 _,Uc 15 26 _,Uc 16 27 _,Uc 17 28 _,Uc 18 29 _] (.ah (.k .z)) ⟨mv,ln,bn,mv,gd λh=>yf h,gd λh=>W4 h,gd λh=>yf h,gd λh=>ya h,gd λh=>yf h,TC λh=>yf h,TC λh=>W4 h,TC λh=>ya h,gd λh=>gpk h,pk,mv,gd λh=>yf h,gd λh=>W4 h,gd λh=>ya h,pk,trivial⟩ (.sq (.dx (.d8 (.bh (.dw .z))))) λa w hI=>?_
 refine Cy hI (λt1=>?_) (λt1=>?_)
 ·
  have e0:Da L S plies most=false:=by unfold Da B4; rw[t1]; rfl
  refine bM hI 1 [Uc 0 8 _] (.bS (.t 0 (.k .z))) ⟨mv,trivial⟩ (.cA (.dk .z)) λa w hI=>?_
  refine aL ?_
  refine aB ?_
  exact ck hI rfl (iu (hq:=gw e0.symm))
 ·
  have hsz:=Kq (show B4 L.length S plies=false from t1)
  refine aJ ?_
  refine ae ?_
  refine az ?_
  refine bM hI 3 [Uc 0 30 _,Uc 1 31 _,Uc 2 32 _] (.ah (.k .z)) ⟨mv,ln,mv,trivial⟩ (.mw (.mw .z)) λa w hI=>?_
  refine aC ?_
  refine tN [] [Uz 1 _,Uz 3 _,Uz 30 _,Uz 31 _] (λ(i:Nat)=>[]) (λ(i:Nat)=>[Uz 32 (pI (i:Int))]) (λ(i:Nat)=>i<=L.length/\∀k,k<i->wT most (λq=>(L.getD k []).getD q z2) 16=true) (λ(i:Nat)=>L.length-i) (0) ⟨Nat.zero_le _,λk hk=>absurd hk (by omega)⟩ hI trivial ⟨gi,gi,gi,gi,gc,trivial⟩ ?_
  intro i a w hp hI
  refine bM hI 1 [Uc 0 33 _] (.ah (.k .z)) ⟨bn,trivial⟩ (.ah (.kk .z)) λa w hI=>?_
  refine az ?_
  refine mj hI (λt2=>?_) (λt2=>?_)
  ·
   have hl:=h.2 i (by omega)
   refine aJ ?_
   refine ae ?_
   refine az ?_
   refine aC ?_
   refine bf hI 4 [⟨10,10,some 2,none,.ptr,115,32,true,pv _,[(3,pv _)]⟩] [] [Uc 0 34 _,Uc 1 35 _] .z (.ah (.kk .z)) ⟨ix,cK hs (pt rfl) (by kernel_rfl) (rM hl),fB [.i,.i,.i,.i,.i,.i,.i,.i,.i,.i,.i,.i,.i,.i,.i,.i,.i,.i,.i,.i,.i,.i,.i,.i,.i,.i,.i,.i,.i,.i,.i,.i],gV rfl rfl hs rfl rfl (aY (by kernel_rfl)) (rM hl) (by kernel_rfl),trivial⟩ (.s .o .z) (.ah (.dx .z)) λa w hI=>?_
   refine bf hI 5 [] [] [Uc 0 36 _,Uc 1 37 _,Uc 2 38 _,Uc 3 39 _,Uc 4 40 _] (.k .z) (.ah (.k .z)) ⟨mv,ld,mS (Zs (D:=L.getD i [])) (hφ:=hl),pq (R5 (most:=most) (n:=16) (e:=λq=>(L.getD i []).getD q z2)),nt,trivial⟩ (.d .z) (.ah (.dx (.dk .z))) λa w hI=>?_
   refine Cy hI (λt3=>?_) (λt3=>?_)
   ·
    have e1:Da L S plies most=false:=by
     unfold Da
     rw[show Pq L most=false from rK (k:=i) (by simpa using t3) (by omega),Bool.false_and,Bool.and_false]
    refine bM hI 1 [Uc 0 8 _] (.ah (.kk .z)) ⟨mv,trivial⟩ (.ah (.L8 .z)) λa w hI=>?_
    refine aL ?_
    refine bj ?_
    refine aB ?_
    refine aB ?_
    refine bj ?_
    refine aB ?_
    exact ck hI rfl (iu (hq:=gw e1.symm))
   ·
    have e4:∀k,k<i+1->wT most (λq=>(L.getD k []).getD q z2) 16=true:=λk hk=>if hk2:k=i then hk2▸(by simpa using t3)else hp.2 k (by omega)
    refine aJ ?_
    refine aG ?_
    refine ae ?_
    refine Ed hI 2 [Uc 0 41 _,Uc 1 32 _] (.ah (.t 1 (.k .z))) ⟨bn,mv,trivial⟩ (.ah (.dw .z)) λa w hI=>?_
    refine ae ?_
    exact qR (i+1) ⟨by omega,e4⟩ hI trivial ⟨gc,gc,gc,gc,gc,trivial⟩ (by omega)
  ·
   have e2:Da L S plies most=zX S most:=by
    unfold Da B4
    rw[t1,show Pq L most=true from kQ λk hk=>hp.2 k (by omega)]
    rfl
   refine bO ?_
   refine ak ?_
   refine ak ?_
   refine aH ?_
   refine ae ?_
   refine bM hI 4 [Uc 0 42 _,Uc 1 43 _,Uc 2 44 _,Uc 3 8 _] (.ah (.kk .z)) ⟨mv,mv,pq (R4 (S:=S) (most:=most)),mv,trivial⟩ (.d8 (.dk .z)) λa w hI=>?_
   refine aL ?_
   exact ck hI rfl (iu (hq:=gw e2.symm))
end Wx
