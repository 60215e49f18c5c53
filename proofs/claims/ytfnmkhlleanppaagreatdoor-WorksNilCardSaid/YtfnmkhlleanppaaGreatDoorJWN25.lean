import Derived.Test.YtfnmkhlleanppaaGreatDoorJWN24
import Ieee.Arith
import GoSem.Core.Float
namespace Wx
open Go Go.RowKit
set_option linter.unusedVariables false
section
variable {P:Program} {ops:Array Oper} {ms:List Nat} {c:bD} {V:List Vr} {A:List Al} {G:List aD} {i d:Nat} {x y:Operand} {ty:TypeId} {pos:String} {aj:Array Edge}
end
section
variable {P:Program} {c:bD} {V:List Vr} {G:List aD} {a:Act} {w:World} {β:Nat->Nat->Prop} {x y z:Operand} {d:Nat} {ty:TypeId} {pos:String} {aj:Array Edge}
theorem ja {f:FuncId} {fx:Operand} {args:Array Operand} {ts:Array TypeId} {K:Act->World->Prop} (hf:ax P f) (qR:a.eval fx=.func (.func f) #[] #[]) (h:Calls P f (args.map a.eval) w λe w'=>∃v,e=.returned v/\K (a.put (some d) v) w'):
  Does P ⟨some d,.call ⟨.value fx,args,ts⟩,ty,pos,aj,none⟩ a w K:=by
 have hr:(execOp a.eval ⟨some d,.call ⟨.value fx,args,ts⟩,ty,pos,aj,none⟩).run P w=.ok (.enter f (args.map a.eval)) w:=by
  have:=hf (args.map a.eval++#[]) w
  simp only[execOp,resolve,qR,Deferred.ofValue,pure_bind,invoke]
  rw[Array.append_empty]at this
  first|exact this|simpa using this
 unfold Does
 rw[hr]
 exact h
end
end Wx

namespace Wx
open Go Go.RowKit
section
variable {P:Program} {ops:Array Oper} {ms:List Nat} {c:bD} {V:List Vr} {A:List Al} {G:List aD} {i:Nat}{d:Nat} {x y:Operand} {ty:TypeId} {pos:String} {aj:Array Edge}
end
end Wx

namespace Wx
open Ieee
end Wx

namespace Wx
open Ieee
end Wx

namespace Wx
open Go Go.RowKit
section
variable {P:Program} {ops:Array Oper} {ms:List Nat} {c:bD} {V:List Vr} {A:List Al} {G:List aD} {i:Nat}{d:Nat} {x y:Operand} {ty:TypeId} {pos:String} {aj:Array Edge}
def om (m n:Int):Int:=if n>m then n else m
theorem uZ {ts:Array TypeId} {m n:Int} (h1:Has ms G i x (pI m)) (h2:Has ms G i y (pI n)) (hp:Post G i (pI (om m n))):OpOk P ops ms c V A G i ⟨some d,.call ⟨.builtin .max,#[x,y],ts⟩,ty,pos,aj,none⟩:=
 dP rfl rfl rfl rfl h1 h2 hp λρ w h1 h2=>⟨.int .i64 (om m n),by
  have h1:ρ x=.int .i64 m:=h1
  have h2:ρ y=.int .i64 n:=h2
  show(do let d <-resolve ρ ⟨.builtin .max,#[x,y],ts⟩ ty; invoke d.target d.args).run P w=_
  simp only[resolve,invoke,pure_bind,builtin]
  rw[show(#[x,y]:Array Operand).map ρ=#[ρ x,ρ y] by simp,h1,h2]
  rfl,λ_ _ _=>rfl⟩
end
end Wx

namespace Wx
open Go Go.RowKit
section
variable {P:Program} {ops:Array Oper} {ms:List Nat} {c:bD} {V:List Vr} {A:List Al} {G:List aD} {i:Nat}{d:Nat} {x y z:Operand} {ty:TypeId} {pos:String} {aj:Array Edge}{f:FuncId} {sz:Nat} {ag:Bool} {q:Pred}
theorem A9 (h:Has ms G i x (cH sz ag q):=by exact hs) (hp:Post G i (sX f sz ag q):=by exact pt rfl):OpOk P ops ms c V A G i ⟨some d,.makeFunc (.func f) #[] #[x],ty,pos,aj,none⟩:=
 dw rfl rfl rfl rfl h hp λρ w _=>⟨.func (.func f) #[] #[ρ x],by
  show(do pure (Next.value (<-Instr.makeFunc (.func f) ((#[]:Array Operand).map ρ) ((#[x]:Array Operand).map ρ)))).run P w=_
  rw[show(#[x]:Array Operand).map ρ=#[ρ x] by simp,show(#[]:Array Operand).map ρ=#[] by simp]
  rfl,λ_ h=>⟨ρ x,rfl,h⟩⟩
variable {ts:Array TypeId} {p p1 q1:Pred}
theorem Dj {fx:Operand} (hf:ax P f) (dS:∀(M:Nat->Nat->Prop) (w:World) (v1 v2:Value),cQ M w->aL M (λw=>p1 w v1) w->aL M (λw=>cH sz ag q w v2) w->Calls P f #[v1,v2] w (bK M p w)) (hx:Has ms G i fx (sX f sz ag q):=by exact hs) (h1:Has ms G i x q1:=by exact hs) (c1:∀w v,q1 w v->p1 w v:=by exact gh) (hp:Post G i p:=by exact pt rfl):OpOk P ops ms c V A G i ⟨some d,.call ⟨.value fx,#[x],ts⟩,ty,pos,aj,none⟩:=
 qu hf hx (h1.imp c1) hp dS
variable {φ:Prop}
theorem zm (dS:φ->∀M w,cQ M w->Calls P f #[] w (bK M p w)) (hp:Post G i p:=by exact pt rfl) (hφ:φ:=by first|omega|trivial) (hf:ax P f:=by exactλ_ _=>by kernel_rfl):
  OpOk P ops ms c V A G i ⟨some d,.call ⟨.value (.func f),#[],ts⟩,ty,pos,aj,none⟩:=dO hf hp λL β a w hI hd=>(by
  rw[show(#[]:Array Operand).map a.eval=#[] by simp]
  exact dS hφ _ w (aF hI) )
theorem rL {x1:Operand} {ψ:Prop} (hψ:ψ) (dS:φ->∀M w v1,cQ M w->aL M (λw=>p1 w v1) w->Calls P f #[v1] w (bK M p w)) (h1:Has ms G i x1 q1:=by exact hg) (c1:∀w v,q1 w v->p1 w v:=by exact gh) (hp:Post G i p:=by exact pg (by assumption) rfl) (hφ:φ:=by first|omega|trivial) (hf:ax P f:=by exactλ_ _=>by kernel_rfl):
  OpOk P ops ms c V A G i ⟨some d,.call ⟨.value (.func f),#[x1],ts⟩,ty,pos,aj,none⟩:=(λ_:ψ=>qO dS h1 c1 hp hφ hf) hψ
end
end Wx

namespace Wx
open Go Go.RowKit
end Wx

namespace Wx
open Go Go.RowKit
section
variable {P:Program} {ops:Array Oper} {ms:List Nat} {c:bD} {V:List Vr} {A:List Al} {G:List aD} {i:Nat}{d:Nat} {x y z:Operand} {ty:TypeId} {pos:String} {aj:Array Edge}
end
section
variable {P:Program} {w:World} {fn:Func}
end
end Wx

namespace Wx
open Go Go.RowKit Go.Proofs
instance El:wH Tryz.prog 3 false 1:=⟨cn (by kernel_rfl)⟩
instance Em:wH Tryz.prog 4 false 1:=⟨cn (by kernel_rfl)⟩
instance En:wH Tryz.prog 2 false 1:=⟨cn (by kernel_rfl)⟩
instance Eo:wH Tryz.prog 25 false 1:=⟨cn (by kernel_rfl)⟩
instance Ep:wH Tryz.prog 50 true 3:=⟨cn (by kernel_rfl)⟩
end Wx
