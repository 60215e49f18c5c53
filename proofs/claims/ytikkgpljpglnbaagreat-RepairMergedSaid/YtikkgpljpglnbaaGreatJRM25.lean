import Derived.Test.YtikkgpljpglnbaaGreatJRM24
import Ieee.Arith
import GoSem.Core.Float
import Derived.RangeFuncNested
namespace Wx
open Go Go.RowKit
section
variable {P:Program} {ops:Array Oper} {ms:List Nat} {c:cM} {V:List Vr} {A:List Al} {G:List aV} {i:Nat}{d:Nat} {x y z:Operand} {ty:TypeId} {pos:String} {aL:Array Edge}{T:TypeId} {n:Nat} {p:Pred}
theorem Jw {ag:Bool} (hnb:(V.all λx=>x.born != some i&&x.dead != some i)=true) (h:Has ms G i x p) (hf:Fits n ag p) (hp:Post G i (dD n ag p)):
  OpOk P ops ms c V A G i ⟨some d,.box T x,ty,pos,aL,none⟩:=
 rB rfl (λ_=>A8 hnb) rfl (.inl rfl) hp λL β a w hI hd=>by
  have hq:=h.spec hI hd
  obtain⟨cs,e,hl,hcells,h1⟩:=hf w _ hq.out
  have hb:Below w.heap.size w (w.alloc (.cells cs.toArray T)):=Below.alloc (Below.refl _ _) (Nat.le_refl _) _
  refine⟨.pointer (some ⟨w.heap.size,0,none⟩),w.alloc (.cells cs.toArray T),?_,hb,λw' he=>?_⟩
  ·show(do pure (Next.value (<-Instr.box T (a.eval x)))).run P w=_
   simp only[Instr.box,newVar,newRow,hcells]
   rfl
  ·have hgt:w'.heap[w.heap.size]?=some (.cells cs.toArray T (0,0)):=by
    rw[he.block w.heap.size (by simp) (λo h=>by have:=wO hI h; omega)]
    exact heap_alloc_new _ _
   have k:=hq w' ((Ext.bI hb).trans he)
   rw[e]at k
   refine⟨w.heap.size,0,cs,rfl,hl,λj u hj=>?_,k⟩
   simp only[World.cell?,hgt,Nat.zero_add]
   simpa using hj
theorem rR (n:Nat) (ag:Bool) (h:Has ms G i x p:=by exact hs) (hf:Fits n ag p:=by exact uk) (hp:Post G i (dD n ag p):=by exact pt rfl) (hnb:(V.all λx=>x.born != some i&&x.dead != some i)=true:=by kernel_rfl):
  OpOk P ops ms c V A G i ⟨some d,.box T x,ty,pos,aL,none⟩:=Jw hnb h hf hp
variable {sz b o:Nat}
theorem xd {P:Program} (h:Nu P T n sz=true) (w:World):(Instr.sliceAt T (.pointer (some ⟨b,o,none⟩)) none none none).run P w=.ok (.slice (some ⟨b,o,none⟩) n n) w:=by
 unfold Nu at h
 split at h
 ·rename_i m E hE
  rw[Bool.and_eq_true]at h
  have e:=Nat.eq_of_beq_eq_true h.1
  subst e
  have hu:(underlying T).run P w=.ok (.array m E) w:=run_underlying hE w
  have hz:(Go.sizeOf E).run P w=.ok sz w:=rG h.2 w
  simp only[Instr.sliceAt,Sem.run_bind,hu,Result.andThen_ok,Instr.sureAddr,Instr.sliceBounds,pure_bind,Sem.run_pure,hz,Nat.sub_zero]
  by_cases hm:m=0
  ·rw[if_pos hm]
  ·rw[if_neg hm,Nat.zero_mul]; rfl
 ·cases h
theorem tC {M:Nat->Nat->Prop} {w w':World} {off:Nat} {q:Pred} {v:Value} (he:Ext M w w') (h:aM M (λw=>dD sz true p w v) w) (e:v=.pointer (some ⟨b,o,none⟩)) (hq:∀w cs,cs.length=sz->p w (au true cs)->q w (au true ((cs.drop off).take n))) (hle:off+n<=sz):dD n true q w' (.pointer (some ⟨b,o+off,none⟩)):=by
 obtain⟨b',o',cs,e',hl,hc,hp'⟩:=h w' he
 rw[e]at e'
 cases e'
 refine⟨b,o+off,(cs.drop off).take n,rfl,by rw[List.length_take,List.length_drop]; omega,λj u hj=>?_,hq w' cs hl hp'⟩
 rw[List.getElem?_take]at hj
 split at hj
 ·rw[List.getElem?_drop]at hj
  have:=hc _ _ hj
  rwa [Nat.add_assoc]
 ·cases hj
theorem zF {agg:Bool} {f g:Nat->Pred} (h:∀k,k<n->∀w v,f k w v->g k w v):∀w v,bK sz agg n f w v->bK sz agg n g w v:=λ_ _ ⟨A,cap,e,h1,h2,h3⟩=>⟨A,cap,e,h1,h2,λh0=>(h3 h0).elim λb h4=>h4.elim λo h5=>⟨b,o,h5.1,λi hi=>(h5.2 i hi).elim λcs h6=>⟨cs,h6.1,h6.2.1,h i hi _ _ h6.2.2⟩⟩⟩
theorem IG {f:FuncId} {x y:Operand} {ts:Array TypeId} {p1 p2 q1 q2:Pred} {φ ψ:Prop} (hψ:ψ) (gO:φ->∀M w v1 v2,cR M w->aM M (λw=>p1 w v1) w->aM M (λw=>p2 w v2) w->Calls P f #[v1,v2] w (bD M p w)) (h1:Has ms G i x q1:=by exact hg) (c1:∀w v,q1 w v->p1 w v:=by exact mQ) (h2:Has ms G i y q2:=by exact hg) (c2:∀w v,q2 w v->p2 w v:=by exact mQ) (hp:Post G i p:=by exact pg (by assumption) rfl) (hφ:φ:=by first|omega|trivial) (hf:aN P f:=by exactλ_ _=>by kernel_rfl):
  OpOk P ops ms c V A G i ⟨some d,.call ⟨.value (.func f),#[x,y],ts⟩,ty,pos,aL,none⟩:=(λ_:ψ=>vB hf (h1.imp c1) (h2.imp c2) hp (gO hφ)) hψ
end
end Wx

namespace Wx
open Go Go.RowKit
section
variable {P:Program} {ops:Array Oper} {ms:List Nat} {c:cM} {V:List Vr} {A:List Al} {G:List aV} {i:Nat}{d:Nat} {x y:Operand} {ty:TypeId} {pos:String} {aL:Array Edge}
end
end Wx

namespace Wx
open Ieee
end Wx

namespace Wx
open Ieee
end Wx

namespace Wx
open Go Go.RowKit
section
variable {P:Program} {ops:Array Oper} {ms:List Nat} {c:cM} {V:List Vr} {A:List Al} {G:List aV} {i:Nat}{d:Nat} {x y:Operand} {ty:TypeId} {pos:String} {aL:Array Edge}{n:Int}
theorem MN {xt:TypeId} (h:Has ms G i x (pI n)) (hn:-9223372036854775807<=n/\n<=9223372036854775807) (hp:Post G i (pI (-n))):OpOk P ops ms c V A G i ⟨some d,.unOp .neg xt x,ty,pos,aL,none⟩:=
 iT rfl rfl rfl rfl h hp λρ w h=>⟨.int .i64 (-n),by
  have h:ρ x=.int .i64 n:=h
  show(do pure (Next.value (<-Op.unary .neg (ρ x)))).run P w=_
  rw[h]
  show Result.ok (Next.value (.int .i64 (IntKind.i64.wrap (0-n)))) w=_
  rw[IntWalk.i64_in (0-n) (by omega)]
  congr 3
  omega,λ_ _=>rfl⟩
def dh (m n:Int):Int:=if n>m then n else m
theorem wL {ts:Array TypeId} {m:Int} (h1:Has ms G i x (pI m)) (h2:Has ms G i y (pI n)) (hp:Post G i (pI (dh m n))):OpOk P ops ms c V A G i ⟨some d,.call ⟨.builtin .max,#[x,y],ts⟩,ty,pos,aL,none⟩:=
 jX rfl rfl rfl rfl h1 h2 hp λρ w h1 h2=>⟨.int .i64 (dh m n),by
  have h1:ρ x=.int .i64 m:=h1
  have h2:ρ y=.int .i64 n:=h2
  show(do let d <-resolve ρ ⟨.builtin .max,#[x,y],ts⟩ ty; invoke d.target d.args).run P w=_
  simp only[resolve,invoke,pure_bind,builtin]
  rw[show(#[x,y]:Array Operand).map ρ=#[ρ x,ρ y] by simp,h1,h2]
  rfl,λ_ _ _=>rfl⟩
end
end Wx

namespace Wx
open Go Go.RowKit
section
variable {P:Program} {ops:Array Oper} {ms:List Nat} {c:cM} {V:List Vr} {A:List Al} {G:List aV} {i:Nat}{d:Nat} {x y z:Operand} {ty:TypeId} {pos:String} {aL:Array Edge}
theorem ng {xt:TypeId} {n:Int} (h:Has ms G i x (pI n):=by exact hs) (hp:Post G i (pI (-n)):=by exact pt rfl) (hn:-9223372036854775807<=n/\n<=9223372036854775807:=by omega):OpOk P ops ms c V A G i ⟨some d,.unOp .neg xt x,ty,pos,aL,none⟩:=MN h hn hp
variable {f:FuncId} {sz:Nat} {ag:Bool} {q:Pred}
theorem UL (h:Has ms G i x (dD sz ag q):=by exact hs) (hp:Post G i (D8 f sz ag q):=by exact pt rfl):OpOk P ops ms c V A G i ⟨some d,.makeFunc (.func f) #[] #[x],ty,pos,aL,none⟩:=
 iT rfl rfl rfl rfl h hp λρ w _=>⟨.func (.func f) #[] #[ρ x],by
  show(do pure (Next.value (<-Instr.makeFunc (.func f) ((#[]:Array Operand).map ρ) ((#[x]:Array Operand).map ρ)))).run P w=_
  rw[show(#[x]:Array Operand).map ρ=#[ρ x] by simp,show(#[]:Array Operand).map ρ=#[] by simp]
  rfl,λ_ h=>⟨ρ x,rfl,h⟩⟩
variable {ts:Array TypeId} {p p1 q1:Pred}
theorem Vy {fx:Operand} (hf:aN P f) (gO:∀(M:Nat->Nat->Prop) (w:World) (v1 v2:Value),cR M w->aM M (λw=>p1 w v1) w->aM M (λw=>dD sz ag q w v2) w->Calls P f #[v1,v2] w (bD M p w)) (hx:Has ms G i fx (D8 f sz ag q):=by exact hs) (h1:Has ms G i x q1:=by exact hs) (c1:∀w v,q1 w v->p1 w v:=by exact mQ) (hp:Post G i p:=by exact pt rfl):OpOk P ops ms c V A G i ⟨some d,.call ⟨.value fx,#[x],ts⟩,ty,pos,aL,none⟩:=
 D2 hf hx (h1.imp c1) hp gO
variable {φ:Prop}
theorem T1 (gO:φ->∀M w,cR M w->Calls P f #[] w (bD M p w)) (hp:Post G i p:=by exact pt rfl) (hφ:φ:=by first|omega|trivial) (hf:aN P f:=by exactλ_ _=>by kernel_rfl):
  OpOk P ops ms c V A G i ⟨some d,.call ⟨.value (.func f),#[],ts⟩,ty,pos,aL,none⟩:=iS hf hp λL β a w hI hd=>(by
  rw[show(#[]:Array Operand).map a.eval=#[] by simp]
  exact gO hφ _ w (aZ hI) )
variable {x1 x2 x3:Operand} {p2 p3 q2 q3:Pred}
theorem xR (gO:φ->∀M w v1 v2 v3,cR M w->aM M (λw=>p1 w v1) w->aM M (λw=>p2 w v2) w->aM M (λw=>p3 w v3) w->Calls P f #[v1,v2,v3] w (bD M p w)) (h1:Has ms G i x1 q1:=by exact hs) (c1:∀w v,q1 w v->p1 w v:=by exact mQ) (h2:Has ms G i x2 q2:=by exact hs) (c2:∀w v,q2 w v->p2 w v:=by exact mQ) (h3:Has ms G i x3 q3:=by exact hs) (c3:∀w v,q3 w v->p3 w v:=by exact mQ) (hp:Post G i p:=by exact pt rfl) (hφ:φ:=by first|omega|trivial) (hf:aN P f:=by exactλ_ _=>by kernel_rfl):
  OpOk P ops ms c V A G i ⟨some d,.call ⟨.value (.func f),#[x1,x2,x3],ts⟩,ty,pos,aL,none⟩:=iS hf hp λL β a w hI hd=>(by
  rw[show(#[x1,x2,x3]:Array Operand).map a.eval=#[a.eval x1,a.eval x2,a.eval x3] by simp]
  exact gO hφ _ w _ _ _ (aZ hI) ((h1.imp c1).spec hI hd) ((h2.imp c2).spec hI hd) ((h3.imp c3).spec hI hd))
variable {x4:Operand} {p4 q4:Pred}
theorem Rj (gO:φ->∀M w v1 v2 v3 v4,cR M w->aM M (λw=>p1 w v1) w->aM M (λw=>p2 w v2) w->aM M (λw=>p3 w v3) w->aM M (λw=>p4 w v4) w->Calls P f #[v1,v2,v3,v4] w (bD M p w)) (h1:Has ms G i x1 q1:=by exact hs) (c1:∀w v,q1 w v->p1 w v:=by exact mQ) (h2:Has ms G i x2 q2:=by exact hs) (c2:∀w v,q2 w v->p2 w v:=by exact mQ) (h3:Has ms G i x3 q3:=by exact hs) (c3:∀w v,q3 w v->p3 w v:=by exact mQ) (h4:Has ms G i x4 q4:=by exact hs) (c4:∀w v,q4 w v->p4 w v:=by exact mQ) (hp:Post G i p:=by exact pt rfl) (hφ:φ:=by first|omega|trivial) (hf:aN P f:=by exactλ_ _=>by kernel_rfl):
  OpOk P ops ms c V A G i ⟨some d,.call ⟨.value (.func f),#[x1,x2,x3,x4],ts⟩,ty,pos,aL,none⟩:=iS hf hp λL β a w hI hd=>(by
  rw[show(#[x1,x2,x3,x4]:Array Operand).map a.eval=#[a.eval x1,a.eval x2,a.eval x3,a.eval x4] by simp]
  exact gO hφ _ w _ _ _ _ (aZ hI) ((h1.imp c1).spec hI hd) ((h2.imp c2).spec hI hd) ((h3.imp c3).spec hI hd) ((h4.imp c4).spec hI hd))
variable {ψ:Prop}
theorem Ry (hψ:ψ) (gO:φ->∀M w,cR M w->Calls P f #[] w (bD M p w)) (hp:Post G i p:=by exact pg (by assumption) rfl) (hφ:φ:=by first|omega|trivial) (hf:aN P f:=by exactλ_ _=>by kernel_rfl):
  OpOk P ops ms c V A G i ⟨some d,.call ⟨.value (.func f),#[],ts⟩,ty,pos,aL,none⟩:=(λ_:ψ=>T1 gO hp hφ hf) hψ
theorem LV (hψ:ψ) (gO:φ->∀M w v1,cR M w->aM M (λw=>p1 w v1) w->Calls P f #[v1] w (bD M p w)) (h1:Has ms G i x1 q1:=by exact hg) (c1:∀w v,q1 w v->p1 w v:=by exact mQ) (hp:Post G i p:=by exact pg (by assumption) rfl) (hφ:φ:=by first|omega|trivial) (hf:aN P f:=by exactλ_ _=>by kernel_rfl):
  OpOk P ops ms c V A G i ⟨some d,.call ⟨.value (.func f),#[x1],ts⟩,ty,pos,aL,none⟩:=(λ_:ψ=>qZ gO h1 c1 hp hφ hf) hψ
theorem OE (hψ:ψ) (gO:φ->∀M w v1 v2 v3,cR M w->aM M (λw=>p1 w v1) w->aM M (λw=>p2 w v2) w->aM M (λw=>p3 w v3) w->Calls P f #[v1,v2,v3] w (bD M p w)) (h1:Has ms G i x1 q1:=by exact hg) (c1:∀w v,q1 w v->p1 w v:=by exact mQ) (h2:Has ms G i x2 q2:=by exact hg) (c2:∀w v,q2 w v->p2 w v:=by exact mQ) (h3:Has ms G i x3 q3:=by exact hg) (c3:∀w v,q3 w v->p3 w v:=by exact mQ) (hp:Post G i p:=by exact pg (by assumption) rfl) (hφ:φ:=by first|omega|trivial) (hf:aN P f:=by exactλ_ _=>by kernel_rfl):
  OpOk P ops ms c V A G i ⟨some d,.call ⟨.value (.func f),#[x1,x2,x3],ts⟩,ty,pos,aL,none⟩:=(λ_:ψ=>xR gO h1 c1 h2 c2 h3 c3 hp hφ hf) hψ
theorem LW (hψ:ψ) (gO:φ->∀M w v1 v2 v3 v4,cR M w->aM M (λw=>p1 w v1) w->aM M (λw=>p2 w v2) w->aM M (λw=>p3 w v3) w->aM M (λw=>p4 w v4) w->Calls P f #[v1,v2,v3,v4] w (bD M p w)) (h1:Has ms G i x1 q1:=by exact hg) (c1:∀w v,q1 w v->p1 w v:=by exact mQ) (h2:Has ms G i x2 q2:=by exact hg) (c2:∀w v,q2 w v->p2 w v:=by exact mQ) (h3:Has ms G i x3 q3:=by exact hg) (c3:∀w v,q3 w v->p3 w v:=by exact mQ) (h4:Has ms G i x4 q4:=by exact hg) (c4:∀w v,q4 w v->p4 w v:=by exact mQ) (hp:Post G i p:=by exact pg (by assumption) rfl) (hφ:φ:=by first|omega|trivial) (hf:aN P f:=by exactλ_ _=>by kernel_rfl):
  OpOk P ops ms c V A G i ⟨some d,.call ⟨.value (.func f),#[x1,x2,x3,x4],ts⟩,ty,pos,aL,none⟩:=(λ_:ψ=>Rj gO h1 c1 h2 c2 h3 c3 h4 c4 hp hφ hf) hψ
end
end Wx

namespace Wx
open Go Go.RowKit
section
variable {M M':Nat->Nat->Prop} {B:Nat->Prop} {F:World->Prop} {w w':World}
abbrev Nv (B:Nat->Prop):Nat->Nat->Prop:=λk _=>B k
theorem aM.later (h:aM M F w) (he:Ext M w w') (hm:∀k o,k<w.heap.size->M' k o->M k o):aM M' F w':=λw'' h'=>h w''
  ⟨Nat.le_trans he.size h'.size,λk hk hn=>(h'.block k (Nat.lt_of_lt_of_le hk he.size) λo ho=>hn o (hm k o hk ho)).trans (he.block k hk hn),
   λk o v hn hc=>h'.cell k o v (λho=>hn (hm k o (World.block_lt_of_cell? w _ hc) ho)) (he.cell k o v hn hc)⟩
theorem aM.join (h:aM M (aM (Nv B) F) w) (hB:∀k,B k->k<w.heap.size):aM (λk o=>M k o\/B k) F w:=by
  intro w'' he
  classical
  let w':World:={ w'' with heap:=w''.heap.mapIdx λi o=>if B i then(w.heap[i]?).getD o else o }
  have hs:w'.heap.size=w''.heap.size:=by simp[w']
  have hg:∀k,w'.heap[k]?=if B k then w.heap[k]? else w''.heap[k]?:=by
    intro k
    show(w''.heap.mapIdx _)[k]?=_
    rw[Array.getElem?_mapIdx]
    by_cases hb:B k
    · have h1:=hB k hb
      have h2:k<w''.heap.size:=Nat.lt_of_lt_of_le h1 he.size
      simp[h1,h2,hb]
    · rw[if_neg hb]
      cases w''.heap[k]?<;>simp[hb]
  refine h w' ⟨by rw[hs]; exact he.size,?_,?_⟩ w'' ⟨by rw[hs]; exact Nat.le_refl _,?_,?_⟩
  · intro k hk hn
    rw[hg]
    by_cases hb:B k
    · rw[if_pos hb]
    · rw[if_neg hb]; exact he.block k hk λo ho=>ho.elim (hn o) hb
  · intro k o v hn hc
    by_cases hb:B k
    · rw[World.cell?_of_block (w:=w) (a:=⟨k,o,none⟩) (by rw[hg,if_pos hb])]; exact hc
    · rw[World.cell?_of_block (w:=w'') (a:=⟨k,o,none⟩) (by rw[hg,if_neg hb])]; exact he.cell k o v (λho=>ho.elim hn hb) hc
  · intro k _ hn
    rw[hg,if_neg (hn 0)]
  · intro k o v hn hc
    rw[World.cell?_of_block (w:=w') (a:=⟨k,o,none⟩) (by rw[hg,if_neg hn])]
    exact hc
end
def Kd.AU:Kd->Bool
  |.grow _ _=>true
  |_=>false
def bj (V:List Vr):Bool:=V.all λx=>x.born.isNone&&(x.dead.isNone&&!x.kd.AU)
def bV (G:List aV):Bool:=G.all λe=>e.tag.isNone&&e.till.isNone
theorem bq {V:List Vr} (h:bj V=true) {x:Vr} (hx:x∈V):live none_ x=true/\x.lo=0/\∀m sz,x.kd≠.grow m sz:=by
  unfold bj at h
  rw[List.all_eq_true]at h
  have h1:=h x hx
  simp only[Bool.and_eq_true,Option.isNone_iff_eq_none]at h1
  refine⟨by unfold live; rw[h1.1,h1.2.1]; rfl,?_,λm sz e=>by rw[e]at h1; simp[Kd.AU]at h1⟩
  unfold Vr.lo
  cases hk:x.kd with
  |grow m sz=>rw[hk]at h1; simp[Kd.AU]at h1
  |_=>rfl
theorem vD {G:List aV} (h:bV G=true) {e:aV} (he:e∈G):on none_ e.tag=true/\off none_ e.till=true:=by
  unfold bV at h
  rw[List.all_eq_true]at h
  have h1:=h e he
  simp only[Bool.and_eq_true,Option.isNone_iff_eq_none]at h1
  rw[h1.1,h1.2]
  exact⟨rfl,rfl⟩
def fe (V:List Vr) (β:Nat->Nat->Prop) (k:Nat):Prop:=∃x,x∈V/\β x.id k
def Ob (w:World):cM:=⟨0,w,λ_ _=>False,λ_=>True⟩
structure Told (a:Act) (V:List Vr) (G:List aV) (β:Nat->Nat->Prop) (w:World):Prop where
  var:∀x,x∈V->kL (Nv (fe V β)) (Ob w) none_ β a w x
  apart:∀x y g,x∈V->y∈V->x.id≠y.id->β x.id g->¬β y.id g
  gY:∀e,e∈G->aM (Nv (fe V β)) (λw=>e.p w (sl a e.slot)) w
section
variable {c c':cM} {V:List Vr} {A:List Al} {G:List aV} {L:Nat->Bool} {β:Nat->Nat->Prop} {a a':Act} {w w':World} {M:Nat->Nat->Prop}
theorem kL.cfg {x:Vr} (h:kL M c L β a w x) (hm:∀k,β x.id k->mine c' k):kL M c' L β a w x:=by
  rcases iz x.kd with hk|⟨m,sz,hk⟩|hk
  · obtain⟨g,e,h1,h2⟩:=(bB hk).1 h
    exact(bB hk).2 ⟨g,e,h1,hm g ((e g).2 rfl),h2.held⟩
  · rcases (bt hk).1 h with h1|⟨b,cap,cur,e,h1,h2,h3⟩
    · exact(bt hk).2 (.inl h1)
    · exact(bt hk).2 (.inr ⟨b,cap,cur,e,h1,hm b ((e b).2 rfl),h3⟩)
  · obtain⟨h1,h2⟩:=(aK hk).1 h
    exact(aK hk).2 ⟨λk hk'=>⟨hm k hk',(h1 k hk').2⟩,h2⟩
theorem aT.fc (h:aT c V A G none_ β a w) (hV:bj V=true) {k:Nat} (hk:fe V β k):mine c k/\k<w.heap.size/\∀o v,w.cell? ⟨k,o,none⟩=some v->gv v:=by
  obtain⟨x,hx,hb⟩:=hk
  exact(h.var x hx (bq hV hx).1).blk hb
theorem gy (h:aT c V A G L β a w) {k o:Nat} (hm:mine c k):¬c.M0 k o:=λh0=>by
  have h1:=(h.old k o h0).1
  exact hm.elim (λh2=>by omega) h1.2
theorem aT.told (h:aT c V A G none_ β a w) (hV:bj V=true) (hG:bV G=true):aM c.M0 (Told a V G β) w:=by
  intro w1 he
  have ho:∀k o,fe V β k->own c V none_ β k o:=λk o ⟨x,hx,hb⟩=>.inr ⟨x,hx,(bq hV hx).1,hb,by rw[(bq hV hx).2.1]; exact Nat.zero_le _⟩
  have hn:∀k,fe V β k->∀o,¬c.M0 k o:=λk hk o=>gy h (h.fc hV hk).1
  have e1:Ext (own c V none_ β) w w1:=he.mono λk o _ hk=>.inl hk
  refine⟨λx hx=>?_,λx y g hx hy hne=>h.apart x y g hx hy (bq hV hx).1 (bq hV hy).1 hne,λe he'=>?_⟩
  · have hv:=(h.var x hx (bq hV hx).1).cfg (c':=Ob w1) λ_ _=>.inr trivial
    refine hv.keep rfl rfl (λg hg=>he.block g (h.fc hV ⟨x,hx,hg⟩).2.1 (hn g ⟨x,hx,hg⟩)) he.size (λF hF=>(hF.ext e1).sub λk o _ hk=>ho k o hk) (λF hF=>?_) rfl
    have e2:Ext (minus (own c V none_ β) (β x.id)) w w1:=he.mono λk o _ hk=>⟨.inl hk,λhb=>hn k ⟨x,hx,hb⟩ o hk⟩
    exact(hF.ext e2).sub λk o _ hk=>⟨ho k o hk.1,hk.2⟩
  · obtain⟨h1,h2⟩:=vD hG he'
    exact((h.gY e he' h1 h2).ext e1).sub λk o _ hk=>ho k o hk
theorem Told.act (h:Told a V G β w) (hV:∀x,x∈V->sl a' x.slot=sl a x.slot) (hG:∀e,e∈G->sl a' e.slot=sl a e.slot):Told a' V G β w:=
  ⟨λx hx=>(h.var x hx).keep (hV x hx) rfl (λ_ _=>rfl) (Nat.le_refl _) (λ_ h=>h) (λ_ h=>h) rfl,h.apart,λe he=>by rw[hG e he]; exact h.gY e he⟩
theorem Told.inv (h:aM c.M0 (Told a V G β) w) (hV:bj V=true) (hs:a.tmps.size=c.N) (hd:a.defers=[]) (hm:∀k,fe V β k->mine c k)
    (L9:cz c.gw c.w0 w) (hold:∀k o,c.M0 k o->(k<c.w0.heap.size/\¬c.gw k)/\∀v,w.cell? ⟨k,o,none⟩=some v->gv v):aT c V [] G none_ β a w:=by
  have h0:=h.out
  have hn:∀k,fe V β k->∀o,¬c.M0 k o:=λk hk o h0=>(hm k hk).elim (λh2=>by have:=(hold k o h0).1.1; omega) (hold k o h0).1.2
  have hz:∀k,fe V β k->k<w.heap.size:=λk ⟨x,hx,hb⟩=>((h0.var x hx).blk hb).2.1
  have hown:∀k o,own c V none_ β k o->c.M0 k o\/fe V β k:=λk o h=>h.elim .inl λ⟨x,hx,_,hb,_⟩=>.inr ⟨x,hx,hb⟩
  refine⟨hs,hd,L9,hold,λx hx _=>?_,λx y g hx hy _ _ hne=>h0.apart x y g hx hy hne,(λp hp=>by cases hp),λe he _ _=>?_⟩
  · rcases iz x.kd with hk|⟨m,sz,hk⟩|hk
    · obtain⟨g,e,h1,h2⟩:=(bB hk).1 (h0.var x hx)
      obtain⟨cs,h3,h4,h5,_⟩:=h2.held
      have hb:fe V β g:=⟨x,hx,(e g).2 rfl⟩
      refine(bB hk).2 ⟨g,e,h1,hm g hb,cs,h3,h4,h5,?_⟩
      have key:aM c.M0 (aM (Nv (fe V β)) λw=>cont none_ x.c0 x.st (·=g) w (au x.agg cs)) w:=by
        intro w1 he
        obtain⟨g1,e1,_,k2⟩:=(bB hk).1 ((h w1 he).var x hx)
        obtain⟨cs1,k3,_,_,k6⟩:=k2.held
        have eg:g1=g:=((e1 g).1 ((e g).2 rfl)).symm
        subst eg
        rw[he.block g1 (hz g1 hb) (hn g1 hb),h3]at k3
        have ec:cs=cs1:=by simpa using k3
        subst ec
        exact k6
      exact(key.join hz).sub λk o _ hk=>hown k o hk
    · exact absurd hk ((bq hV hx).2.2 m sz)
    · obtain⟨h1,_⟩:=(aK hk).1 (h0.var x hx)
      refine(aK hk).2 ⟨λk hk'=>⟨hm k ⟨x,hx,hk'⟩,(h1 k hk').2⟩,?_⟩
      have key:aM c.M0 (aM (Nv λk=>fe V β k/\¬β x.id k) λw=>cont none_ x.c0 x.st (β x.id) w (sl a x.slot)) w:=λw1 he=>((aK hk).1 ((h w1 he).var x hx)).2
      exact(key.join λk hk=>hz k hk.1).sub λk o _ hk=>(hown k o hk.1).elim .inl λh=>.inr ⟨h,hk.2⟩
  · have key:aM c.M0 (aM (Nv (fe V β)) λw=>e.p w (sl a e.slot)) w:=λw1 hw=>(h w1 hw).gY e he
    exact(key.join hz).sub λk o _ hk=>hown k o hk
theorem aT.nu {d:Nat} {p:Pred} {v:Value} (h:aT c V [] G none_ β a w) (hd:d<c.N) (hV:∀x,x∈V->x.slot≠d) (hG:∀e,e∈G->e.slot≠d) (hp:aM (own c V none_ β) (λw=>p w v) w):aT c V [] (⟨none,none,d,p⟩::G) none_ β (a.put (some d) v) w:=by
  have sd:∀s,s≠d->sl (a.put (some d) v) s=sl a s:=λs hs=>bZ λe=>hs (Option.some.inj e).symm
  refine⟨by rw[jt]; exact h.size,by rw[put_defers]; exact h.defers,h.below,h.old,λx hx hl=>(h.var x hx hl).keep (sd _ (hV x hx)) rfl (λ_ _=>rfl) (Nat.le_refl _) (λ_ h=>h) (λ_ h=>h) rfl,h.apart,(λp hp=>by cases hp),λe he ho hf=>?_⟩
  rcases List.mem_cons.1 he with rfl|he
  · show aM _ (λw=>p w (sl (a.put (some d) v) d)) w
    rw[iG (by rw[h.size]; exact hd)]
    exact hp
  · rw[sd _ (hG e he)]
    exact h.gY e he ho hf
abbrev cN (id s:Nat) (R:Rel):Vr:=⟨id,s,none,none,.obj,0,0,false,R,[]⟩
def jh (β:Nat->Nat->Prop) (id:Nat) (B':Nat->Prop) (i:Nat):Nat->Prop:=if i=id then B' else β i
variable {id:Nat} {B':Nat->Prop}
theorem mj {β:Nat->Nat->Prop}:jh β id B' id=B':=if_pos rfl
theorem rF {β:Nat->Nat->Prop} {i:Nat} (h:i≠id):jh β id B' i=β i:=if_neg h
theorem aT.move {s n0:Nat} {R R':Rel} (h:aT c V [] G none_ β a w) (hV:bj V=true) (hG:bV G=true) (hk:V[n0]?=some (cN id s R)) (hu:∀(y:Vr) (n:Nat),V[n]?=some y->y.id=id->n=n0) (hle:cz (β id) w w')
    (hB:∀k,B' k->β id k\/w.heap.size<=k) (hno:∀k,B' k->k<w'.heap.size/\∀o v,w'.cell? ⟨k,o,none⟩=some v->gv v) (hR:aM (minus (own c V none_ β) (β id)) (λw=>R' B' w (sl a s)) w'):
    aT c (V.set n0 (cN id s R')) [] G none_ (jh β id B') a w':=by
  have hx:=List.mem_of_getElem? hk
  have AJ:=(List.getElem?_eq_some_iff.1 hk).1
  have hmem:∀y,y∈V.set n0 (cN id s R')->y=cN id s R'\/(y∈V/\y.id≠id):=by
    intro y hy
    obtain⟨n,hn⟩:=List.mem_iff_getElem?.1 hy
    rw[List.getElem?_set]at hn
    by_cases he:n0=n
    · rw[if_pos he,if_pos AJ]at hn
      exact .inl (Option.some.inj hn).symm
    · rw[if_neg he]at hn
      exact .inr ⟨List.mem_of_getElem? hn,λe=>he (hu y n hn e).symm⟩
  have gJ:∀k,β id k->mine c k:=λk hk'=>(h.fc hV ⟨_,hx,hk'⟩).1
  have Pp:cz c.gw c.w0 w':=⟨hle.os.trans h.below.os,hle.tape.trans h.below.tape,hle.output.trans h.below.output,Nat.le_trans h.below.size hle.size,λk hk' hn=>(hle.block k (Nat.lt_of_lt_of_le hk' h.below.size) λhb=>(gJ k hb).elim (λh3=>by omega) hn).trans (h.below.block k hk' hn)⟩
  have Mk:∀k,B' k->mine c k:=λk hk'=>(hB k hk').elim (gJ k) λh1=>.inl (Nat.le_trans h.below.size h1)
  have ob:∀k o,β id k->own c V none_ β k o:=λk o hk'=>.inr ⟨_,hx,rfl,hk',Nat.zero_le _⟩
  have e1:Ext (own c V none_ β) w w':=Ext.CL hle λk o _ hk'=>ob k o hk'
  have hβ:∀y:Vr,y.id≠id->(jh β id B') y.id=β y.id:=λy hy=>rF hy
  have PL:(jh β id B') id=B':=mj
  have hown:∀k o,k<w.heap.size->own c (V.set n0 (cN id s R')) none_ (jh β id B') k o->own c V none_ β k o:=by
    rintro k o hk' (h1|⟨y,hy,h1,h2,h3⟩)
    · exact .inl h1
    · rcases hmem y hy with rfl|⟨qx,hid⟩
      · have h2:(jh β id B') id k:=h2
        rw[PL]at h2
        exact(hB k h2).elim (ob k o) λh4=>by omega
      · rw[hβ y hid]at h2
        exact .inr ⟨y,qx,(bq hV qx).1,h2,h3⟩
  refine⟨h.size,h.defers,Pp,λk o h0=>⟨(h.old k o h0).1,λv hv=>(h.old k o h0).2 v ?_⟩,λy hy _=>?_,λy y' g hy hy' _ _ hne=>?_,(λp hp=>by cases hp),λe he ho hf=>?_⟩
  · have hk':k<w.heap.size:=Nat.lt_of_lt_of_le (h.old k o h0).1.1 h.below.size
    rw[World.cell?_of_block (w:=w) (a:=⟨k,o,none⟩) (hle.block k hk' λhb=>gy h (gJ k hb) h0)]at hv
    exact hv
  · rcases hmem y hy with rfl|⟨qx,hid⟩
    · refine(aK rfl).2 ?_
      show xz _ c none_ a w' _ ((jh β id B') id)
      rw[PL]
      refine⟨λk hk'=>⟨Mk k hk',hno k hk'⟩,?_⟩
      refine hR.sub λk o _ hk'=>?_
      rcases hk'.1 with h1|⟨y,hy,h1,h2,h3⟩
      · exact⟨.inl h1,λhb=>gy h (gJ k hb) h1⟩
      · rcases hmem y hy with rfl|⟨qx,hid⟩
        · have h2:(jh β id B') id k:=h2
          rw[PL]at h2
          exact absurd h2 hk'.2
        · rw[hβ y hid]at h2
          exact⟨.inr ⟨y,qx,(bq hV qx).1,h2,h3⟩,h.apart y _ k qx hx (bq hV qx).1 rfl hid h2⟩
    · have hl:=(bq hV qx).1
      have KA:∀g,β y.id g->¬β id g:=λg hg=>h.apart y _ g qx hx hl rfl hid hg
      have hlt:∀g,β y.id g->g<w.heap.size:=λg hg=>(h.fc hV ⟨y,qx,hg⟩).2.1
      refine(h.var y qx hl).keep rfl (hβ y hid) (λg hg=>hle.block g (hlt g hg) (KA g hg)) hle.size (λF hF=>hF.later e1 hown) (λF hF=>?_) rfl
      have e4:Ext (minus (own c V none_ β) (β y.id)) w w':=Ext.CL hle λk j _ hk'=>⟨ob k j hk',λhy'=>KA k hy' hk'⟩
      exact hF.later e4 λk o hk' h=>⟨hown k o hk' h.1,h.2⟩
  · rcases hmem y hy with rfl|⟨qx,hid⟩<;>rcases hmem y' hy' with rfl|⟨FM,Mf⟩
    · exact absurd rfl hne
    · show(jh β id B') id g->_
      rw[PL,hβ y' Mf]
      intro h1 h2
      rcases hB g h1 with h3|h3
      · exact h.apart _ y' g hx FM rfl (bq hV FM).1 (λe=>Mf e.symm) h3 h2
      · have:=(h.fc hV ⟨y',FM,h2⟩).2.1
        omega
    · show _->¬(jh β id B') id g
      rw[PL,hβ y hid]
      intro h2 h1
      rcases hB g h1 with h3|h3
      · exact h.apart y _ g qx hx (bq hV qx).1 rfl hid h2 h3
      · have:=(h.fc hV ⟨y,qx,h2⟩).2.1
        omega
    · rw[hβ y hid,hβ y' Mf]
      exact h.apart y y' g qx FM (bq hV qx).1 (bq hV FM).1 hne
  · obtain⟨k1,k2⟩:=vD hG he
    exact(h.gY e he k1 k2).later e1 hown
end
end Wx

namespace Wx
open Go Go.RowKit
def GA (l D:Nat) (r:Loop):Rel:=λB w _=>(∀k,B k↔k=l\/k=D)/\w.heap[l]?=some (.loop r)/\w.heap[D]?=some (.deferred (some []))/\D<l
abbrev de (id l D:Nat) (r:Loop):Vr:=cN id id (GA l D r)
def xo (a:Act) (s:Nat):aV:=⟨none,none,s,bp (sl a s)⟩
def ij (B:Nat->Prop) (w:World):Prop:=∀k,B k->k<w.heap.size/\∀o v,w.cell? ⟨k,o,none⟩=some v->gv v
def dO (V:List Vr) (id n0:Nat):Bool:=V.zipIdx.all λq=>q.1.id != id||q.2==n0
theorem eC {V:List Vr} {id n0:Nat} (h:dO V id n0=true) (y:Vr) (n:Nat) (hn:V[n]?=some y) (hy:y.id=id):n=n0:=by
 unfold dO at h
 rw[List.all_eq_true]at h
 have h1:=h (y,n) (List.mem_iff_getElem?.2 ⟨n,by simp[List.getElem?_zipIdx,hn]⟩)
 simpa [hy] using h1
variable {w:World}
theorem eG {k o:Nat} {ob:Obj} (h:w.heap[k]?=some ob) (hc:ob.isCells=false) (v:Value):w.cell? ⟨k,o,none⟩≠some v:=by
 intro e
 obtain⟨o',h1,h2⟩:=cells_of_cell e
 rw[h]at h1
 injection h1 with h1
 rw[<-h1,hc]at h2
 cases h2
theorem lj {B:Nat->Prop} {l:Nat} (o:Obj) (hl:B l):cz B w (w.putObj l o):=
 ⟨rfl,rfl,rfl,by rw[World.putObj_size]; exact Nat.le_refl _,λk _ hn=>World.putObj_heap_other λe=>hn (e▸hl)⟩
section
variable {P:Program} {Q:Exit->Act->World->Prop} {c:cM} {V:List Vr} {G:List aV} {β:Nat->Nat->Prop} {a a':Act} {w w':World}
theorem aT.Lh (h:aT c V [] G none_ β a w) (S:List Nat):aT c V [] (G++S.map (xo a)) none_ β a w:=by
 refine⟨h.size,h.defers,h.below,h.old,h.var,h.apart,h.al,λe he ho hf=>?_⟩
 rcases List.mem_append.1 he with he|he
 ·exact h.gY e he ho hf
 ·obtain⟨s,_,rfl⟩:=List.mem_map.1 he
  exact aM.always rfl _
theorem aT.sR {G':List aV} (h:aT c V [] G none_ β a w) (hg:∀e,e∈G'->e∈G):aT c V [] G' none_ β a w:=
 ⟨h.size,h.defers,h.below,h.old,h.var,h.apart,h.al,λe he ho hf=>h.gY e (hg e he) ho hf⟩
variable {id n0 l D:Nat} {r:Loop}
theorem aT.Bv (h:aT c V [] G none_ β a w) (hk:V[n0]?=some (de id l D r)):(∀k,β id k↔k=l\/k=D)/\w.heap[l]?=some (.loop r)/\w.heap[D]?=some (.deferred (some []))/\D<l:=
 ((aK rfl).1 (h.var _ (List.mem_of_getElem? hk) rfl)).2.out
theorem aT.record (r':Loop) (h:aT c V [] G none_ β a w) (hV:bj V=true) (hG:bV G=true) (hk:V[n0]?=some (de id l D r)) (hu:dO V id n0=true):∃β',aT c (V.set n0 (de id l D r')) [] G none_ β' a (w.putObj l (.loop r')):=by
 obtain⟨h1,h2,h3,h4⟩:=h.Bv hk
 have hlt:l<w.heap.size:=(Array.getElem?_eq_some_iff.1 h2).1
 have hl2:(w.putObj l (.loop r')).heap[l]?=some (.loop r'):=World.putObj_heap_same hlt
 have Ny:(w.putObj l (.loop r')).heap[D]?=some (.deferred (some [])):=(World.putObj_heap_other (by omega)).trans h3
 refine⟨_,h.move (B':=β id) (R':=GA l D r') hV hG hk (eC hu) (lj _ ((h1 l).2 (.inl rfl))) (λk hk'=>.inl hk') (λk hk'=>?_) ?_⟩
 ·rw[World.putObj_size]
  rcases (h1 k).1 hk' with rfl|rfl
  ·exact⟨hlt,λo v hv=>absurd hv (eG hl2 rfl v)⟩
  ·exact⟨by omega,λo v hv=>absurd hv (eG Ny rfl v)⟩
 ·intro w'' he
  have hb:∀k,β id k->w''.heap[k]?=(w.putObj l (.loop r')).heap[k]?:=λk hk'=>he.block k (by rw[World.putObj_size]; rcases (h1 k).1 hk' with rfl|rfl<;>omega) λo ho=>ho.2 hk'
  exact⟨h1,(hb l ((h1 l).2 (.inl rfl))).trans hl2,(hb D ((h1 D).2 (.inr rfl))).trans Ny,h4⟩
def BU (l:Nat) (P:Program) (body:Code) (Q:Exit->Act->World->Prop) (a:Act) (w:World):Prop:=∃w2,(Instr.beginRound l).run P w=.ok () w2/\body.ww (some l) [] P Q a w2
theorem vY {body:Code} (hI:Inv c V [] G none_ a w) (n0:Nat) (hr:r.state=.ready) (h:∀w,Inv c (V.set n0 (de id l D { r with state:=.busy })) [] G none_ a w->body.ww (some l) [] P Q a w)
  (hk:V[n0]?=some (de id l D r):=by exact rfl) (hV:bj V=true:=by kernel_rfl) (hG:bV G=true:=by kernel_rfl) (hu:dO V id n0=true:=by kernel_rfl):BU l P body Q a w:=by
 obtain⟨β,hI⟩:=hI
 exact⟨_,run_beginRound (hI.Bv hk).2.1 hr,h _ (hI.record _ hV hG hk hu)⟩
theorem end_ {S:List Nat} {a0:Act} (jump:Option Code) (hI:Inv c V [] (G++S.map (xo a0)) none_ a w) (hk:V[n0]?=some (de id l D r)) (hV:bj V=true) (hG:bV G=true) (hu:dO V id n0=true)
  (OS:∀x,x∈V->x.slot∈S\/sl a x.slot=sl a0 x.slot) (yy:∀e,e∈G->e.slot∈S):
  ∃β' w4,(Instr.endRound l jump).run P w=.ok (.bool jump.isNone) w4/\cz c.gw c.w0 w4/\(∀k,fe (V.set n0 (de id l D { r with state:=if jump.isNone then .ready else .done,pending:=jump })) β' k->mine c k) /\
   ij (fe (V.set n0 (de id l D { r with state:=if jump.isNone then .ready else .done,pending:=jump })) β') w4/\aM c.M0 (Told a0 (V.set n0 (de id l D { r with state:=if jump.isNone then .ready else .done,pending:=jump })) G β') w4:=by
 obtain⟨β,hI⟩:=hI
 have heq:∀s,s∈S->sl a0 s=sl a s:=λs hs=>((hI.gY (xo a0 s) (List.mem_append_right _ (List.mem_map.2 ⟨s,hs,rfl⟩)) rfl rfl).out:sl a s=sl a0 s).symm
 have yz:=hI.sR (G':=G) λe he=>List.mem_append_left _ he
 obtain⟨β',h4⟩:=yz.record { r with state:=if jump.isNone then .ready else .done,pending:=jump } hV hG hk hu
 have L5:bj (V.set n0 (de id l D { r with state:=if jump.isNone then .ready else .done,pending:=jump }))=true:=by
  unfold bj at hV ⊢
  rw[List.all_eq_true]at hV ⊢
  intro x hx
  rcases List.mem_or_eq_of_mem_set hx with hx|rfl
  ·exact hV x hx
  ·rfl
 refine⟨β',_,run_endRound jump (yz.Bv hk).2.1,h4.below,λk hk'=>(h4.fc L5 hk').1,λk hk'=>(h4.fc L5 hk').2,(h4.told L5 hG).imp λw ht=>ht.act (λx hx=>?_) λe he=>heq _ (yy e he)⟩
 rcases List.mem_or_eq_of_mem_set hx with hx|rfl
 ·exact(OS x hx).elim (heq _) λh=>h.symm
 ·exact(OS (de id l D r) (List.mem_of_getElem? hk)).elim (heq _) λh=>h.symm
end
def vV (P:Program) (l:Nat) (vs:Array Value) (w:World) (R:Bool->World->Prop):Prop:=∀n,YieldAt (zU none) n P l vs w λe w'=>∃b,e=.returned (.bool b)/\R b w'
def EJ (P:Program) (g:FuncId) (lb:Array Value) (n:Nat) (p q:Nat->Pred) (cap:World->Prop):Prop:=
 ∀(σ:Type) (l:Nat) (M:Nat->Nat->Prop) (Bs:σ->Nat->Prop) (J:Nat->σ->World->Prop) (X:σ->World->Prop) (s0:σ) (w:World),cR M w->(∀k,Bs s0 k->∀o,¬M k o)->ij (Bs s0) w->aM M (J 0 s0) w->aM (λk o=>M k o\/Bs s0 k) cap w ->
  (∀k s M' w' v0 v1,k<n->cR M' w'->(∀k,Bs s k->∀o,¬M' k o)->ij (Bs s) w'->aM M' (J k s) w'->aM (λk o=>M' k o\/Bs s k) (λw=>p k w v0) w'->aM (λk o=>M' k o\/Bs s k) (λw=>q k w v1) w' ->
   vV P l #[v0,v1] w' λb w''=>∃s',cz (Bs s) w' w''/\(∀k,Bs s' k->Bs s k\/w'.heap.size<=k)/\ij (Bs s') w''/\aM M' (if b then J (k+1) s' else X s') w'') ->
  Calls P g (#[.func (.yield l) #[] #[]]++lb) w λe w'=>∃v s',e=.returned v/\cz (Bs s0) w w'/\(∀k,Bs s' k->Bs s0 k\/w.heap.size<=k)/\ij (Bs s') w'/\(aM M (J n s') w'\/aM M (X s') w')
def zk (P:Program) (n:Nat) (p q:Nat->Pred) (cap:Array Value->World->Prop):Pred:=λw v=>∃g lb,v=.func (.func g) #[] lb/\aN P g/\EJ P g lb n p q (cap lb)/\cap lb w
end Wx
