import Derived.Test.YtadigiledciihaaGreatJRR28
import Ieee.Arith
import GoSem.Core.Float
namespace Wx
open Go Go.RowKit
section
variable {P:Program} {ops:Array Oper} {ms:List Nat} {c:dg} {V:List Vr} {A:List Al} {G:List aV} {i:Nat}{d:Nat} {x y z:Operand} {ty:TypeId} {pos:String} {aO:Array Edge}{T:TypeId} {n:Nat} {p:Pred}
theorem Gz {ag:Bool} (hnb:(V.all λx=>x.born != some i&&x.dead != some i)=true) (h:Has ms G i x p) (hf:Fits n ag p) (hp:Post G i (dR n ag p)):
  OpOk P ops ms c V A G i ⟨some d,.box T x,ty,pos,aO,none⟩:=
 qg rfl (λ_=>yZ hnb) rfl (.inl rfl) hp λL β a w hI hd=>by
  have hq:=h.spec hI hd
  obtain⟨cs,e,hl,hcells,h1⟩:=hf w _ hq.out
  have hb:Below w.heap.size w (w.alloc (.cells cs.toArray T)):=Below.alloc (Below.refl _ _) (Nat.le_refl _) _
  refine⟨.pointer (some ⟨w.heap.size,0,none⟩),w.alloc (.cells cs.toArray T),?_,hb,λw' he=>?_⟩
  ·show(do pure (Next.value (<-Instr.box T (a.eval x)))).run P w=_
   simp only[Instr.box,newVar,newRow,hcells]
   rfl
  ·have hgt:w'.heap[w.heap.size]?=some (.cells cs.toArray T (0,0)):=by
    rw[he.block w.heap.size (by simp) (λo h=>by have:=uT hI h; omega)]
    exact heap_alloc_new _ _
   have k:=hq w' ((Ext.ct hb).trans he)
   rw[e]at k
   refine⟨w.heap.size,0,cs,rfl,hl,λj u hj=>?_,k⟩
   simp only[World.cell?,hgt,Nat.zero_add]
   simpa using hj
theorem yu (n:Nat) (ag:Bool) (h:Has ms G i x p:=by exact hs) (hf:Fits n ag p:=by exact sH) (hp:Post G i (dR n ag p):=by exact pt rfl) (hnb:(V.all λx=>x.born != some i&&x.dead != some i)=true:=by kernel_rfl):
  OpOk P ops ms c V A G i ⟨some d,.box T x,ty,pos,aO,none⟩:=Gz hnb h hf hp
variable {sz b o:Nat}
theorem u7 {P:Program} (h:KQ P T n sz=true) (w:World):(Instr.sliceAt T (.pointer (some ⟨b,o,none⟩)) none none none).run P w=.ok (.slice (some ⟨b,o,none⟩) n n) w:=by
 unfold KQ at h
 split at h
 ·rename_i m E hE
  rw[Bool.and_eq_true]at h
  have e:=Nat.eq_of_beq_eq_true h.1
  subst e
  have hu:(underlying T).run P w=.ok (.array m E) w:=run_underlying hE w
  have hz:(Go.sizeOf E).run P w=.ok sz w:=qj h.2 w
  simp only[Instr.sliceAt,Sem.run_bind,hu,Result.andThen_ok,Instr.sureAddr,Instr.sliceBounds,pure_bind,Sem.run_pure,hz,Nat.sub_zero]
  by_cases hm:m=0
  ·rw[if_pos hm]
  ·rw[if_neg hm,Nat.zero_mul]; rfl
 ·cases h
theorem rP {M:Nat->Nat->Prop} {w w':World} {off:Nat} {q:Pred} {v:Value} (he:Ext M w w') (h:aP M (λw=>dR sz true p w v) w) (e:v=.pointer (some ⟨b,o,none⟩)) (hq:∀w cs,cs.length=sz->p w (ak true cs)->q w (ak true ((cs.drop off).take n))) (hle:off+n<=sz):dR n true q w' (.pointer (some ⟨b,o+off,none⟩)):=by
 obtain⟨b',o',cs,e',hl,hc,hp'⟩:=h w' he
 rw[e]at e'
 cases e'
 refine⟨b,o+off,(cs.drop off).take n,rfl,by rw[List.length_take,List.length_drop]; omega,λj u hj=>?_,hq w' cs hl hp'⟩
 rw[List.getElem?_take]at hj
 split at hj
 ·rw[List.getElem?_drop]at hj
  have:=hc _ _ hj
  rwa [Nat.add_assoc]
 ·cases hj
theorem ED {agg:Bool} {f g:Nat->Pred} (h:∀k,k<n->∀w v,f k w v->g k w v):∀w v,cA sz agg n f w v->cA sz agg n g w v:=λ_ _ ⟨A,cap,e,h1,h2,h3⟩=>⟨A,cap,e,h1,h2,λh0=>(h3 h0).elim λb h4=>h4.elim λo h5=>⟨b,o,h5.1,λi hi=>(h5.2 i hi).elim λcs h6=>⟨cs,h6.1,h6.2.1,h i hi _ _ h6.2.2⟩⟩⟩
theorem JF {f:FuncId} {x y:Operand} {ts:Array TypeId} {p1 p2 q1 q2:Pred} {φ ψ:Prop} (hψ:ψ) (gg:φ->∀M w v1 v2,da M w->aP M (λw=>p1 w v1) w->aP M (λw=>p2 w v2) w->Calls P f #[v1,v2] w (bK M p w)) (h1:Has ms G i x q1:=by exact hg) (c1:∀w v,q1 w v->p1 w v:=by exact l7) (h2:Has ms G i y q2:=by exact hg) (c2:∀w v,q2 w v->p2 w v:=by exact l7) (hp:Post G i p:=by exact pg (by assumption) rfl) (hφ:φ:=by first|omega|trivial) (hf:aM P f:=by exactλ_ _=>by kernel_rfl):
  OpOk P ops ms c V A G i ⟨some d,.call ⟨.value (.func f),#[x,y],ts⟩,ty,pos,aO,none⟩:=(λ_:ψ=>tP hf (h1.imp c1) (h2.imp c2) hp (gg hφ)) hψ
end
end Wx

namespace Wx
open Go Go.RowKit
section
variable {P:Program} {ops:Array Oper} {ms:List Nat} {c:dg} {V:List Vr} {A:List Al} {G:List aV} {i:Nat}{d:Nat} {x y:Operand} {ty:TypeId} {pos:String} {aO:Array Edge}
end
end Wx

namespace Wx
open Ieee
end Wx

namespace Wx
open Ieee
end Wx

namespace Wx
open Go Go.RowKit
section
variable {P:Program} {ops:Array Oper} {ms:List Nat} {c:dg} {V:List Vr} {A:List Al} {G:List aV} {i:Nat}{d:Nat} {x y:Operand} {ty:TypeId} {pos:String} {aO:Array Edge}{n:Int}
theorem Kn {xt:TypeId} (h:Has ms G i x (pI n)) (hn:-9223372036854775807<=n/\n<=9223372036854775807) (hp:Post G i (pI (-n))):OpOk P ops ms c V A G i ⟨some d,.unOp .neg xt x,ty,pos,aO,none⟩:=
 jI rfl rfl rfl rfl h hp λρ w h=>⟨.int .i64 (-n),by
  have h:ρ x=.int .i64 n:=h
  show(do pure (Next.value (<-Op.unary .neg (ρ x)))).run P w=_
  rw[h]
  show Result.ok (Next.value (.int .i64 (IntKind.i64.wrap (0-n)))) w=_
  rw[IntWalk.i64_in (0-n) (by omega)]
  congr 3
  omega,λ_ _=>rfl⟩
def kZ (m n:Int):Int:=if n>m then n else m
theorem GA {ts:Array TypeId} {m:Int} (h1:Has ms G i x (pI m)) (h2:Has ms G i y (pI n)) (hp:Post G i (pI (kZ m n))):OpOk P ops ms c V A G i ⟨some d,.call ⟨.builtin .max,#[x,y],ts⟩,ty,pos,aO,none⟩:=
 jK rfl rfl rfl rfl h1 h2 hp λρ w h1 h2=>⟨.int .i64 (kZ m n),by
  have h1:ρ x=.int .i64 m:=h1
  have h2:ρ y=.int .i64 n:=h2
  show(do let d <-resolve ρ ⟨.builtin .max,#[x,y],ts⟩ ty; invoke d.target d.args).run P w=_
  simp only[resolve,invoke,pure_bind,builtin]
  rw[show(#[x,y]:Array Operand).map ρ=#[ρ x,ρ y] by simp,h1,h2]
  rfl,λ_ _ _=>rfl⟩
end
end Wx

namespace Wx
open Go Go.RowKit
section
variable {P:Program} {ops:Array Oper} {ms:List Nat} {c:dg} {V:List Vr} {A:List Al} {G:List aV} {i:Nat}{d:Nat} {x y z:Operand} {ty:TypeId} {pos:String} {aO:Array Edge}
theorem ng {xt:TypeId} {n:Int} (h:Has ms G i x (pI n):=by exact hs) (hp:Post G i (pI (-n)):=by exact pt rfl) (hn:-9223372036854775807<=n/\n<=9223372036854775807:=by omega):OpOk P ops ms c V A G i ⟨some d,.unOp .neg xt x,ty,pos,aO,none⟩:=Kn h hn hp
variable {f:FuncId} {sz:Nat} {ag:Bool} {q:Pred}
theorem R2 (h:Has ms G i x (dR sz ag q):=by exact hs) (hp:Post G i (Cg f sz ag q):=by exact pt rfl):OpOk P ops ms c V A G i ⟨some d,.makeFunc (.func f) #[] #[x],ty,pos,aO,none⟩:=
 jI rfl rfl rfl rfl h hp λρ w _=>⟨.func (.func f) #[] #[ρ x],by
  show(do pure (Next.value (<-Instr.makeFunc (.func f) ((#[]:Array Operand).map ρ) ((#[x]:Array Operand).map ρ)))).run P w=_
  rw[show(#[x]:Array Operand).map ρ=#[ρ x] by simp,show(#[]:Array Operand).map ρ=#[] by simp]
  rfl,λ_ h=>⟨ρ x,rfl,h⟩⟩
variable {ts:Array TypeId} {p p1 q1:Pred}
theorem SP {fx:Operand} (hf:aM P f) (gg:∀(M:Nat->Nat->Prop) (w:World) (v1 v2:Value),da M w->aP M (λw=>p1 w v1) w->aP M (λw=>dR sz ag q w v2) w->Calls P f #[v1,v2] w (bK M p w)) (hx:Has ms G i fx (Cg f sz ag q):=by exact hs) (h1:Has ms G i x q1:=by exact hs) (c1:∀w v,q1 w v->p1 w v:=by exact l7) (hp:Post G i p:=by exact pt rfl):OpOk P ops ms c V A G i ⟨some d,.call ⟨.value fx,#[x],ts⟩,ty,pos,aO,none⟩:=
 Cc hf hx (h1.imp c1) hp gg
variable {φ:Prop}
theorem Rf (gg:φ->∀M w,da M w->Calls P f #[] w (bK M p w)) (hp:Post G i p:=by exact pt rfl) (hφ:φ:=by first|omega|trivial) (hf:aM P f:=by exactλ_ _=>by kernel_rfl):
  OpOk P ops ms c V A G i ⟨some d,.call ⟨.value (.func f),#[],ts⟩,ty,pos,aO,none⟩:=iA hf hp λL β a w hI hd=>(by
  rw[show(#[]:Array Operand).map a.eval=#[] by simp]
  exact gg hφ _ w (bw hI) )
variable {x1 x2 x3:Operand} {p2 p3 q2 q3:Pred}
theorem FE (gg:φ->∀M w v1 v2 v3,da M w->aP M (λw=>p1 w v1) w->aP M (λw=>p2 w v2) w->aP M (λw=>p3 w v3) w->Calls P f #[v1,v2,v3] w (bK M p w)) (h1:Has ms G i x1 q1:=by exact hs) (c1:∀w v,q1 w v->p1 w v:=by exact l7) (h2:Has ms G i x2 q2:=by exact hs) (c2:∀w v,q2 w v->p2 w v:=by exact l7) (h3:Has ms G i x3 q3:=by exact hs) (c3:∀w v,q3 w v->p3 w v:=by exact l7) (hp:Post G i p:=by exact pt rfl) (hφ:φ:=by first|omega|trivial) (hf:aM P f:=by exactλ_ _=>by kernel_rfl):
  OpOk P ops ms c V A G i ⟨some d,.call ⟨.value (.func f),#[x1,x2,x3],ts⟩,ty,pos,aO,none⟩:=iA hf hp λL β a w hI hd=>(by
  rw[show(#[x1,x2,x3]:Array Operand).map a.eval=#[a.eval x1,a.eval x2,a.eval x3] by simp]
  exact gg hφ _ w _ _ _ (bw hI) ((h1.imp c1).spec hI hd) ((h2.imp c2).spec hI hd) ((h3.imp c3).spec hI hd))
variable {x4:Operand} {p4 q4:Pred}
theorem SM (gg:φ->∀M w v1 v2 v3 v4,da M w->aP M (λw=>p1 w v1) w->aP M (λw=>p2 w v2) w->aP M (λw=>p3 w v3) w->aP M (λw=>p4 w v4) w->Calls P f #[v1,v2,v3,v4] w (bK M p w)) (h1:Has ms G i x1 q1:=by exact hs) (c1:∀w v,q1 w v->p1 w v:=by exact l7) (h2:Has ms G i x2 q2:=by exact hs) (c2:∀w v,q2 w v->p2 w v:=by exact l7) (h3:Has ms G i x3 q3:=by exact hs) (c3:∀w v,q3 w v->p3 w v:=by exact l7) (h4:Has ms G i x4 q4:=by exact hs) (c4:∀w v,q4 w v->p4 w v:=by exact l7) (hp:Post G i p:=by exact pt rfl) (hφ:φ:=by first|omega|trivial) (hf:aM P f:=by exactλ_ _=>by kernel_rfl):
  OpOk P ops ms c V A G i ⟨some d,.call ⟨.value (.func f),#[x1,x2,x3,x4],ts⟩,ty,pos,aO,none⟩:=iA hf hp λL β a w hI hd=>(by
  rw[show(#[x1,x2,x3,x4]:Array Operand).map a.eval=#[a.eval x1,a.eval x2,a.eval x3,a.eval x4] by simp]
  exact gg hφ _ w _ _ _ _ (bw hI) ((h1.imp c1).spec hI hd) ((h2.imp c2).spec hI hd) ((h3.imp c3).spec hI hd) ((h4.imp c4).spec hI hd))
variable {ψ:Prop}
theorem FP (hψ:ψ) (gg:φ->∀M w,da M w->Calls P f #[] w (bK M p w)) (hp:Post G i p:=by exact pg (by assumption) rfl) (hφ:φ:=by first|omega|trivial) (hf:aM P f:=by exactλ_ _=>by kernel_rfl):
  OpOk P ops ms c V A G i ⟨some d,.call ⟨.value (.func f),#[],ts⟩,ty,pos,aO,none⟩:=(λ_:ψ=>Rf gg hp hφ hf) hψ
theorem OD (hψ:ψ) (gg:φ->∀M w v1,da M w->aP M (λw=>p1 w v1) w->Calls P f #[v1] w (bK M p w)) (h1:Has ms G i x1 q1:=by exact hg) (c1:∀w v,q1 w v->p1 w v:=by exact l7) (hp:Post G i p:=by exact pg (by assumption) rfl) (hφ:φ:=by first|omega|trivial) (hf:aM P f:=by exactλ_ _=>by kernel_rfl):
  OpOk P ops ms c V A G i ⟨some d,.call ⟨.value (.func f),#[x1],ts⟩,ty,pos,aO,none⟩:=(λ_:ψ=>sE gg h1 c1 hp hφ hf) hψ
theorem yI (hψ:ψ) (gg:φ->∀M w v1 v2 v3,da M w->aP M (λw=>p1 w v1) w->aP M (λw=>p2 w v2) w->aP M (λw=>p3 w v3) w->Calls P f #[v1,v2,v3] w (bK M p w)) (h1:Has ms G i x1 q1:=by exact hg) (c1:∀w v,q1 w v->p1 w v:=by exact l7) (h2:Has ms G i x2 q2:=by exact hg) (c2:∀w v,q2 w v->p2 w v:=by exact l7) (h3:Has ms G i x3 q3:=by exact hg) (c3:∀w v,q3 w v->p3 w v:=by exact l7) (hp:Post G i p:=by exact pg (by assumption) rfl) (hφ:φ:=by first|omega|trivial) (hf:aM P f:=by exactλ_ _=>by kernel_rfl):
  OpOk P ops ms c V A G i ⟨some d,.call ⟨.value (.func f),#[x1,x2,x3],ts⟩,ty,pos,aO,none⟩:=(λ_:ψ=>FE gg h1 c1 h2 c2 h3 c3 hp hφ hf) hψ
theorem OE (hψ:ψ) (gg:φ->∀M w v1 v2 v3 v4,da M w->aP M (λw=>p1 w v1) w->aP M (λw=>p2 w v2) w->aP M (λw=>p3 w v3) w->aP M (λw=>p4 w v4) w->Calls P f #[v1,v2,v3,v4] w (bK M p w)) (h1:Has ms G i x1 q1:=by exact hg) (c1:∀w v,q1 w v->p1 w v:=by exact l7) (h2:Has ms G i x2 q2:=by exact hg) (c2:∀w v,q2 w v->p2 w v:=by exact l7) (h3:Has ms G i x3 q3:=by exact hg) (c3:∀w v,q3 w v->p3 w v:=by exact l7) (h4:Has ms G i x4 q4:=by exact hg) (c4:∀w v,q4 w v->p4 w v:=by exact l7) (hp:Post G i p:=by exact pg (by assumption) rfl) (hφ:φ:=by first|omega|trivial) (hf:aM P f:=by exactλ_ _=>by kernel_rfl):
  OpOk P ops ms c V A G i ⟨some d,.call ⟨.value (.func f),#[x1,x2,x3,x4],ts⟩,ty,pos,aO,none⟩:=(λ_:ψ=>SM gg h1 c1 h2 c2 h3 c3 h4 c4 hp hφ hf) hψ
end
end Wx
