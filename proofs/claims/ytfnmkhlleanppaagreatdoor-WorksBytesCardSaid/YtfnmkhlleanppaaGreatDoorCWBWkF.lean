import Derived.Test.YtfnmkhlleanppaaGreatDoorJWB27
import Derived.Test.YtfnmkhlleanppaaGreatDoorCWBWkC
import Derived.Test.YtfnmkhlleanppaaGreatDoorJWB33
namespace Wx
open Go Go.RowKit Go.Proofs
set_option linter.unusedVariables false
abbrev cP (p1 p2:Pred):Pred:=pS [⟨false,1,p1⟩,⟨false,1,p2⟩]
def zb:Pred:=λ_ v=>∃f cs,v=.func (.func f) #[] cs
theorem kF (f:Fn) (a b:Array Value):dG (.func f a b):=λ_=>⟨(by simp),by simp⟩
theorem jN:Fits 1 false zb:=by
 rintro w v ⟨f,cs,rfl⟩
 exact⟨[_],rfl,rfl,rfl,λu hu=>by simp at hu; subst hu; exact⟨kF _ _ _,rfl⟩⟩
theorem aO {P:Program} {C:FuncId->Prop}:Fits 1 false (sW P C):=by
 rintro w v ⟨f,rfl,_⟩
 exact⟨[_],rfl,rfl,rfl,λu hu=>by simp at hu; subst hu; exact⟨kF _ _ _,rfl⟩⟩
theorem aY (f:FuncId):Fits 1 false (aJ (.func (.func f) #[] #[])):=aX (kF _ _ _) rfl rfl
theorem B9 (f:FuncId):∀w v,aJ (.func (.func f) #[] #[]) w v->zb w v:=λ_ _ h=>⟨f,#[],h⟩
section
variable {P:Program} {ops:Array Oper} {ms:List Nat} {c:bJ} {V:List Vr} {A:List Al} {G:List aI} {i d:Nat} {x y z:Operand} {ty:TypeId} {pos:String} {au:Array Edge} {a:Act} {w:World}{T:TypeId} {p1 p2 q1 q2:Pred}
theorem lA (z1 z2:Value) (f1:Fits 1 false p1) (f2:Fits 1 false p2) (h1:Has ms G i x q1:=by exact hs) (c1:∀w v,q1 w v->p1 w v:=by exact ig) (h2:Has ms G i y q2:=by exact hs) (c2:∀w v,q2 w v->p2 w v:=by exact ig) (hp:Post G i (cP p1 p2):=by exact pt rfl) (ht:mG P T #[(0,1),(1,1)] [z1,z2]:=by exactλ_=>by kernel_rfl):
  OpOk P ops ms c V A G i ⟨some d,.build T #[(0,x),(1,y)],ty,pos,au,none⟩:=
 oT (fs:=[⟨false,1,az⟩,⟨false,1,az⟩]) (ps:=[(0,p1),(1,p2)]) (gs:=[⟨false,1,p1⟩,⟨false,1,p2⟩]) ht (mj (by kernel_rfl)) (λw=>⟨by simp,trivial,by simp,trivial,rfl⟩) (show bW ms G i _ [(0,x),(1,y)] _ from⟨⟨rfl,h1.imp c1,_,rfl,f1⟩,⟨rfl,h2.imp c2,_,rfl,f2⟩,trivial⟩) rfl hp
theorem zB {p q:Pred} (E:TypeId) (z:Value) (hf:Fits 1 false p) (ht:eX P T E 1:=by exact⟨by kernel_rfl,λ_=>by kernel_rfl⟩) (jJ:∀w,(zeroValue E).run P w=.ok z w:=by exactλ_=>by kernel_rfl) (lG:z.cells=#[z]:=by exact rfl) (h1:Has ms G i x q:=by exact hs) (c1:∀w v,q w v->p w v:=by exact ig) (hp:Post G i (ax 1 false 1 λk=>[p].getD k az):=by exact pt rfl):
  OpOk P ops ms c V A G i ⟨some d,.buildSlice T 1 #[(0,x)],ty,pos,au,none⟩:=wo E z ht jJ lG hf (h1.imp c1) (hp.down (ej λk hk w v h=>by rw[show k=0 by omega]; exact h))
theorem jX (E:TypeId) (z0:Value) (f1:Fits 1 false p1) (f2:Fits 1 false p2) (ht:eX P T E 1:=by exact⟨by kernel_rfl,λ_=>by kernel_rfl⟩) (jJ:∀w,(zeroValue E).run P w=.ok z0 w:=by exactλ_=>by kernel_rfl) (lG:z0.cells=[z0].toArray:=by exact rfl) (h1:Has ms G i x q1:=by exact hs) (c1:∀w v,q1 w v->p1 w v:=by exact ig) (h2:Has ms G i y q2:=by exact hs) (c2:∀w v,q2 w v->p2 w v:=by exact ig) (hp:Post G i (ax 1 false 2 λk=>[p1,p2].getD k az):=by exact pt rfl):
  OpOk P ops ms c V A G i ⟨some d,.buildSlice T 2 #[(0,x),(1,y)],ty,pos,au,none⟩:=
 cS (z:=[z0]) (fs:=[⟨false,1,az⟩,⟨false,1,az⟩]) (ps:=[(0,p1),(1,p2)]) (gs:=[⟨false,1,p1⟩,⟨false,1,p2⟩]) (p:=az) ht jJ lG rfl (by decide) (λ_=>trivial) rfl
  (show bW ms G i [⟨false,1,az⟩,⟨false,1,az⟩] [(0,x),(1,y)] [(0,p1),(1,p2)]from⟨⟨rfl,h1.imp c1,_,rfl,f1⟩,⟨rfl,h2.imp c2,_,rfl,f2⟩,trivial⟩) rfl (λk=>[p1,p2].getD k az) (λk f h=>by
   match k,h with
   |0,h=>simp at h; rw[<-h]; rfl
   |1,h=>simp at h; rw[<-h]; rfl
   |k+2,h=>simp at h) hp
theorem tR {p3 q3:Pred} (E:TypeId) (z0:Value) (f1:Fits 1 false p1) (f2:Fits 1 false p2) (f3:Fits 1 false p3) (ht:eX P T E 1:=by exact⟨by kernel_rfl,λ_=>by kernel_rfl⟩) (jJ:∀w,(zeroValue E).run P w=.ok z0 w:=by exactλ_=>by kernel_rfl) (lG:z0.cells=[z0].toArray:=by exact rfl) (h1:Has ms G i x q1:=by exact hs) (c1:∀w v,q1 w v->p1 w v:=by exact ig) (h2:Has ms G i y q2:=by exact hs) (c2:∀w v,q2 w v->p2 w v:=by exact ig) (h3:Has ms G i z q3:=by exact hs) (c3:∀w v,q3 w v->p3 w v:=by exact ig) (hp:Post G i (ax 1 false 3 λk=>[p1,p2,p3].getD k az):=by exact pt rfl):
  OpOk P ops ms c V A G i ⟨some d,.buildSlice T 3 #[(0,x),(1,y),(2,z)],ty,pos,au,none⟩:=
 cS (z:=[z0]) (fs:=[⟨false,1,az⟩,⟨false,1,az⟩,⟨false,1,az⟩]) (ps:=[(0,p1),(1,p2),(2,p3)]) (gs:=[⟨false,1,p1⟩,⟨false,1,p2⟩,⟨false,1,p3⟩]) (p:=az) ht jJ lG rfl (by decide) (λ_=>trivial) rfl
  (show bW ms G i [⟨false,1,az⟩,⟨false,1,az⟩,⟨false,1,az⟩] [(0,x),(1,y),(2,z)] [(0,p1),(1,p2),(2,p3)]from⟨⟨rfl,h1.imp c1,_,rfl,f1⟩,⟨rfl,h2.imp c2,_,rfl,f2⟩,⟨rfl,h3.imp c3,_,rfl,f3⟩,trivial⟩) rfl (λk=>[p1,p2,p3].getD k az) (λk f h=>by
   match k,h with
   |0,h=>simp at h; rw[<-h]; rfl
   |1,h=>simp at h; rw[<-h]; rfl
   |2,h=>simp at h; rw[<-h]; rfl
   |k+3,h=>simp at h) hp
variable {α:Type} {o:Oper} {K:α->Act->World->Prop}
theorem bZ {K1:α->Act->World->Prop} (h:∀x,∀a w,K x a w->aU P ops o a w (K1 x)):∀a w,(∃x,K x a w)->aU P ops o a w (λa w=>∃x,K1 x a w):=λa w ⟨x,hx⟩=>(h x a w hx).mono λa w h=>⟨x,h⟩
theorem lD {K1:Act->World->Prop} (h:∀x,∀a w,K x a w->aU P ops o a w K1):∀a w,(∃x,K x a w)->aU P ops o a w K1:=λa w ⟨x,hx⟩=>h x a w hx
theorem uc {fn:Func} {N s:Nat} {w0:World} {M:Nat->Nat->Prop} {F:Nat->Prop} {ps:List (ByteArray×Pred)} {u:Nat×List (ByteArray×Value)} (hI:Inv ⟨N,w0,M,F⟩ (AD d u.1 u.2::V) [] G none_ a w) (hr:fn.results=#[.tmp s]) (h:eO s G=some (Ff u.1 u.2 ps)) (hF:∀k,¬F k):bodyPost P fn (bX M (qx ps) w0) .ret a w:=by
 obtain⟨β,hI⟩:=hI
 obtain⟨k,hk⟩:=iz h
 have hent:=hI.gK _ (List.mem_of_getElem? hk) rfl rfl
 have hO:=(aQ rfl).1 (hI.var _ List.mem_cons_self rfl)
 obtain⟨h1,es,clock,h2,h3⟩:qi u.1 u.2 (β d) w:=hO.2.out
 have hB:β d u.1:=(h1 _).2 rfl
 have hm:=(hO.1 _ hB).1
 have hlt:u.1<w.heap.size:=(Array.getElem?_eq_some_iff.1 h2).1
 refine iA hI (v:=sl a s) (by rw[cF,hr]; simp[jr,sl]) ⟨_,rfl,λw' he=>?_,hI.below.below hF⟩
 have he':Ext (own ⟨N,w0,M,F⟩ (AD d u.1 u.2::V) none_ β) w w':=he.mono' λk o hk=>.inl hk
 obtain⟨e1,e2⟩:=hent w' he'
 exact⟨u.1,es,clock,u.2,e1,(he.block _ hlt λo=>kD hI hm).trans h2,h3,e2⟩
end
end Wx
