import Derived.Test.YtfnmkhlleanppaaGreatDoorJWB26
import Ieee.Arith
import GoSem.Core.Float
namespace Wx
open Go Go.RowKit
set_option linter.unusedVariables false
section
variable {P:Program} {ops:Array Oper} {ms:List Nat} {c:bJ} {V:List Vr} {A:List Al} {G:List aI} {i d:Nat} {x y:Operand} {ty:TypeId} {pos:String} {au:Array Edge}
end
section
variable {P:Program} {c:bJ} {V:List Vr} {G:List aI} {a:Act} {w:World} {β:Nat->Nat->Prop} {x y z:Operand} {d:Nat} {ty:TypeId} {pos:String} {au:Array Edge}
theorem kf {f:FuncId} {fx:Operand} {args:Array Operand} {ts:Array TypeId} {K:Act->World->Prop} (hf:aA P f) (tF:a.eval fx=.func (.func f) #[] #[]) (h:Calls P f (args.map a.eval) w λe w'=>∃v,e=.returned v/\K (a.put (some d) v) w'):
  Does P ⟨some d,.call ⟨.value fx,args,ts⟩,ty,pos,au,none⟩ a w K:=by
 have hr:(execOp a.eval ⟨some d,.call ⟨.value fx,args,ts⟩,ty,pos,au,none⟩).run P w=.ok (.enter f (args.map a.eval)) w:=by
  have:=hf (args.map a.eval++#[]) w
  simp only[execOp,resolve,tF,Deferred.ofValue,pure_bind,invoke]
  rw[Array.append_empty]at this
  first|exact this|simpa using this
 unfold Does
 rw[hr]
 exact h
end
end Wx

namespace Wx
open Go Go.RowKit
section
variable {P:Program} {ops:Array Oper} {ms:List Nat} {c:bJ} {V:List Vr} {A:List Al} {G:List aI} {i:Nat}{d:Nat} {x y:Operand} {ty:TypeId} {pos:String} {au:Array Edge}
end
end Wx

namespace Wx
open Ieee
end Wx

namespace Wx
open Ieee
end Wx

namespace Wx
open Go Go.RowKit
section
variable {P:Program} {ops:Array Oper} {ms:List Nat} {c:bJ} {V:List Vr} {A:List Al} {G:List aI} {i:Nat}{d:Nat} {x y:Operand} {ty:TypeId} {pos:String} {au:Array Edge}
def ql (m n:Int):Int:=if n>m then n else m
theorem xK {ts:Array TypeId} {m n:Int} (h1:Has ms G i x (pI m)) (h2:Has ms G i y (pI n)) (hp:Post G i (pI (ql m n))):OpOk P ops ms c V A G i ⟨some d,.call ⟨.builtin .max,#[x,y],ts⟩,ty,pos,au,none⟩:=
 dz rfl rfl rfl rfl h1 h2 hp λρ w h1 h2=>⟨.int .i64 (ql m n),by
  have h1:ρ x=.int .i64 m:=h1
  have h2:ρ y=.int .i64 n:=h2
  show(do let d <-resolve ρ ⟨.builtin .max,#[x,y],ts⟩ ty; invoke d.target d.args).run P w=_
  simp only[resolve,invoke,pure_bind,builtin]
  rw[show(#[x,y]:Array Operand).map ρ=#[ρ x,ρ y] by simp,h1,h2]
  rfl,λ_ _ _=>rfl⟩
end
end Wx

namespace Wx
open Go Go.RowKit
section
variable {P:Program} {ops:Array Oper} {ms:List Nat} {c:bJ} {V:List Vr} {A:List Al} {G:List aI} {i:Nat}{d:Nat} {x y z:Operand} {ty:TypeId} {pos:String} {au:Array Edge}{f:FuncId} {sz:Nat} {ag:Bool} {q:Pred}
theorem Dj (h:Has ms G i x (cZ sz ag q):=by exact hs) (hp:Post G i (vv f sz ag q):=by exact pt rfl):OpOk P ops ms c V A G i ⟨some d,.makeFunc (.func f) #[] #[x],ty,pos,au,none⟩:=
 eC rfl rfl rfl rfl h hp λρ w _=>⟨.func (.func f) #[] #[ρ x],by
  show(do pure (Next.value (<-Instr.makeFunc (.func f) ((#[]:Array Operand).map ρ) ((#[x]:Array Operand).map ρ)))).run P w=_
  rw[show(#[x]:Array Operand).map ρ=#[ρ x] by simp,show(#[]:Array Operand).map ρ=#[] by simp]
  rfl,λ_ h=>⟨ρ x,rfl,h⟩⟩
variable {ts:Array TypeId} {p p1 q1:Pred}
theorem FD {fx:Operand} (hf:aA P f) (eZ:∀(M:Nat->Nat->Prop) (w:World) (v1 v2:Value),dm M w->aK M (λw=>p1 w v1) w->aK M (λw=>cZ sz ag q w v2) w->Calls P f #[v1,v2] w (bX M p w)) (hx:Has ms G i fx (vv f sz ag q):=by exact hs) (h1:Has ms G i x q1:=by exact hs) (c1:∀w v,q1 w v->p1 w v:=by exact ig) (hp:Post G i p:=by exact pt rfl):OpOk P ops ms c V A G i ⟨some d,.call ⟨.value fx,#[x],ts⟩,ty,pos,au,none⟩:=
 sQ hf hx (h1.imp c1) hp eZ
variable {φ:Prop}
theorem BR (eZ:φ->∀M w,dm M w->Calls P f #[] w (bX M p w)) (hp:Post G i p:=by exact pt rfl) (hφ:φ:=by first|omega|trivial) (hf:aA P f:=by exactλ_ _=>by kernel_rfl):
  OpOk P ops ms c V A G i ⟨some d,.call ⟨.value (.func f),#[],ts⟩,ty,pos,au,none⟩:=eU hf hp λL β a w hI hd=>(by
  rw[show(#[]:Array Operand).map a.eval=#[] by simp]
  exact eZ hφ _ w (aL hI) )
theorem Ca {x1:Operand} {ψ:Prop} (hψ:ψ) (eZ:φ->∀M w v1,dm M w->aK M (λw=>p1 w v1) w->Calls P f #[v1] w (bX M p w)) (h1:Has ms G i x1 q1:=by exact hg) (c1:∀w v,q1 w v->p1 w v:=by exact ig) (hp:Post G i p:=by exact pg (by assumption) rfl) (hφ:φ:=by first|omega|trivial) (hf:aA P f:=by exactλ_ _=>by kernel_rfl):
  OpOk P ops ms c V A G i ⟨some d,.call ⟨.value (.func f),#[x1],ts⟩,ty,pos,au,none⟩:=(λ_:ψ=>tB eZ h1 c1 hp hφ hf) hψ
end
end Wx

namespace Wx
open Go Go.RowKit
end Wx

namespace Wx
open Go Go.RowKit
section
variable {P:Program} {ops:Array Oper} {ms:List Nat} {c:bJ} {V:List Vr} {A:List Al} {G:List aI} {i:Nat}{d:Nat} {x y z:Operand} {ty:TypeId} {pos:String} {au:Array Edge}
end
section
variable {P:Program} {w:World} {fn:Func}
end
end Wx

namespace Wx
open Go Go.RowKit Go.Proofs
instance GL:yo Tryz.prog 3 false 1:=⟨cH (by kernel_rfl)⟩
instance GM:yo Tryz.prog 4 false 1:=⟨cH (by kernel_rfl)⟩
instance GN:yo Tryz.prog 2 false 1:=⟨cH (by kernel_rfl)⟩
instance GO:yo Tryz.prog 25 false 1:=⟨cH (by kernel_rfl)⟩
instance GQ:yo Tryz.prog 50 true 3:=⟨cH (by kernel_rfl)⟩
end Wx
