import Derived.Test.YtfnmkhlleanppaaGreatDoorCWNWalkP
import Derived.Test.YtfnmkhlleanppaaGreatDoorJWN32
namespace Wx
open Go Go.RowKit Go.Proofs
set_option linter.unusedVariables false
def qD (e:Int):List PanicEntry:=[{ v:=.iface 123 (.agg #[.int .i64 e]),recovered:=false }]
abbrev P2 (P:Program) (f:FuncId) (p0 p1:Pred) (tR:List PanicEntry):Prop:=∀(M:Nat->Nat->Prop) (w:World) (v0 v1:Value),cQ M w->aL M (λw=>p0 w v0) w->aL M (λw=>p1 w v1) w->Calls P f #[v0,v1] w λe w'=>∃ch,e=.panicked ch/\ch=tR/\Below w.heap.size w w'
section
variable {P:Program} {ops:Array Oper} {ms:List Nat} {c:bD} {V:List Vr} {A:List Al} {G:List aD} {i d:Nat} {x y z fx:Operand} {ty:TypeId} {pos:String} {aj:Array Edge} {a:Act} {w:World} {fn:Func}{f:FuncId} {ts:Array TypeId} {p:Pred}
theorem sO {args:Array Operand} (hf:ax P f) (hx:Has ms G i fx (aE (.func (.func f) #[] #[]))) (hp:Post G i p) (hc:∀L β a w,aT c V A G L β a w->gg ms i L->Calls P f (args.map a.eval) w (bK (own c V L β) p w)):OpOk P ops ms c V A G i ⟨some d,.call ⟨.value fx,args,ts⟩,ty,pos,aj,none⟩:=by
 refine dI (λL β a w hI hd hwf=>?_) rfl
 refine ja hf (hx.spec hI hd).out ((hc L β a w hI hd).mono ?_)
 rintro e w' ⟨v,rfl,hv,hb⟩
 exact⟨v,rfl,β,hI.value hwf (fM hwf rfl) rfl hb (λd q _ hq nH _=>by have:=hwf.aa q hq nH; cases this) λe he ht=>hv.imp λw=>hp.spec hwf he ht w v⟩
variable {H:List Bk} {p0 p1 p2 q2:Pred}
theorem Bu {v:Vr} (N:Nat) (dS:K2 P f p1 p2 p) (hr:∀B w u,bE B w H->p0 w u->p1 w u) (hn:bQ p) (hx:Has ms G i fx (aE (.func (.func f) #[] #[])):=by exact hs) (hv:lK N V=some v:=by exact rfl) (ho:bq ms i v=true:=by exact rfl) (bH:v.kd=.obj:=by exact rfl) (hst:(v.st.all λq=>(q.1==i||(ms.getD i 0).testBit q.1)||(ms.getD q.1 0).testBit i)=true:=by kernel_rfl)
  (hc:cont (λj=>(ms.getD i 0).testBit j) v.c0 v.st=po H:=by exact rfl) (h1:Has ms G i x p0:=by exact hs) (h2:Has ms G i y q2:=by exact hs) (c2:∀w v,q2 w v->p2 w v:=by exact gh) (hp:Post G i p:=by exact pt rfl) (hf:ax P f:=by exactλ_ _=>by kernel_rfl):
  OpOk P ops ms c V A G i ⟨some d,.call ⟨.value fx,#[x,y],ts⟩,ty,pos,aj,none⟩:=by
 obtain⟨⟨k,hk⟩,_⟩:=cf hv
 refine sO hf hx hp λL β a w hI hd=>(by
  rw[show(#[x,y]:Array Operand).map a.eval=#[a.eval x,a.eval y] by simp]
  have hO:=iu hI hd (List.mem_of_getElem? hk) ho bH
  have hH:bE (β v.id) w H:=by
   have:=hO.2.out
   rw[dY hd hst,hc]at this
   exact this
  let M:=minus (own c V L β) (β v.id)
  have hM:cQ M w:=λk o hk=>aF hI k o hk.1
  have hsub:∀{w'},Ext M w w'->Ext (own c V L β) w w':=λhe=>he.mono' λk o hk=>hk.1
  refine(dS M w _ _ hM (λw' he=>?_) (λw' he=>(h2.imp c2).spec hI hd w' (hsub he))).mono λe w' xA=>?_
  ·exact hr (β v.id) w' _ (hH.keep (aF hI) (hsub he) λe hm=>he.block e.b (Bk.fO (hH.2.2 e hm)) λo ho=>ho.2 ((hH.1 _).2 ⟨e,hm,rfl⟩)) (h1.spec hI hd w' (hsub he))
  ·obtain⟨v,rfl,ck,hv2⟩:=xA
   exact⟨v,rfl,hn _ w' v ((aF hI).below hv2) ck.out,hv2⟩)
variable {Λ:Type} {C:Λ->Prop} {Hl:Λ->List Bk} {id s:Nat} {q1:Pred}
theorem Bw {hd:Λ->Value} (iJ:aL (λk o=>c.M0 k o\/c.cU k) iM c.w0) (dS:L2 P f H p1 p2 C (λl=>.returned (hd l)) Hl) (hx:Has [0] G 0 fx (aE (.func (.func f) #[] #[])):=by exact hs) (h1:Has [0] G 0 x q1:=by exact hs) (c1:∀w v,q1 w v->p1 w v:=by exact gh) (h2:Has [0] G 0 y q2:=by exact hs) (c2:∀w v,q2 w v->p2 w v:=by exact gh)
  (hf:ax P f:=by exactλ_ _=>by kernel_rfl) (hd':decide (d<c.N)=true:=by kernel_rfl)
  (hV:((aM id s H::V).all λy=>(y.slot != d)&&(y.born.isNone&&y.dead.isNone))=true:=by kernel_rfl) (hu:((aM id s H::V).filter λy=>y.id==id).length=1:=by kernel_rfl) (hG:(G.all λe=>e.slot != d)=true:=by kernel_rfl):∀a w,Inv c (aM id s H::V) [] G none_ a w ->
  aQ P ops ⟨some d,.call ⟨.value fx,#[x,y],ts⟩,ty,pos,aj,none⟩ a w (λa w=>∃l,C l/\Inv c (aM id s (Hl l)::V) [] (⟨none,none,d,aE (hd l)⟩::G) none_ a w):=λa w ⟨β,hI⟩=>by
 refine .of rfl (ja hf (hx.spec hI fV).out (Calls.mono (by
  rw[show(#[x,y]:Array Operand).map a.eval=#[a.eval x,a.eval y] by simp]
  exact dS _ _ w _ _ (ir (aF hI)) (λk hk o ho=>ho.2 hk) (hI.obj (n0:=0) rfl).1 (cO hI (n0:=0) rfl (ju iJ hI)) (cO hI (n0:=0) rfl ((h1.imp c1).spec hI fV)) (cO hI (n0:=0) rfl ((h2.imp c2).spec hI fV))) ?_))
 rintro e w' ⟨l,B',k1,rfl,k2,k3,k4⟩
 exact⟨_,rfl,l,k1,hI.lu (n0:=0) rfl k2 k3 k4 (of_decide_eq_true hd') hV hu hG⟩
theorem aT.tj {β:Nat->Nat->Prop} {H':List Bk} {w':World} {B':Nat->Prop} (h:aT c (aM id s H::V) [] G none_ β a w) (hle:cI (β id) w w') (hB:∀k,B' k->β id k\/w.heap.size<=k) (hH:bE B' w' H') (hV:dW (aM id s H::V)=true) (hG:eH G=true) (hu:kD (aM id s H::V) id 0=true):Inv c (aM id s H'::V) [] G none_ a w':=by
 have vK:=aF h
 refine⟨_,h.move (n0:=0) (R:=po H) (R':=po H') (w':=w') hV hG rfl (λy n hn hy=>nA hu y n hn hy) hle hB (λk hk=>hH.lB hk) ?_⟩
 have hb:aL (minus (λk j=>own c (aM id s H::V) none_ β k j/\¬β id k) B') (λw=>bE B' w H') w':=hH.box λk j hk=>by
  obtain⟨h1,h2⟩:=hk
  obtain⟨h3,h4⟩:=vK k j h1
  refine⟨Nat.lt_of_lt_of_le h3 hle.size,λu de=>h4 u ?_⟩
  rw[World.cell?_of_block (w:=w) (a:=⟨k,j,none⟩) (hle.block k h3 h2)]at de
  exact de
 refine hb.sub λk j hk hm=>⟨hm,λyO=>?_⟩
 exact(hB k yO).elim (λh5=>hm.2 h5) λh5=>by have:=(vK k j hm.1).1; omega
variable {tR:List PanicEntry}
theorem Cp (iJ:aL (λk o=>c.M0 k o\/c.cU k) iM c.w0) (dS:L2 P f H p1 p2 C (λ_=>.panicked tR) Hl) (hx:Has [0] G 0 fx (aE (.func (.func f) #[] #[])):=by exact hs) (h1:Has [0] G 0 x q1:=by exact hs) (c1:∀w v,q1 w v->p1 w v:=by exact gh) (h2:Has [0] G 0 y q2:=by exact hs) (c2:∀w v,q2 w v->p2 w v:=by exact gh)
  (hf:ax P f:=by exactλ_ _=>by kernel_rfl) (hV:dW (aM id s H::V)=true:=by kernel_rfl) (hG:eH G=true:=by kernel_rfl) (hu:kD (aM id s H::V) id 0=true:=by kernel_rfl):
  qX P c (aM id s H::V) G ⟨some d,.call ⟨.value fx,#[x,y],ts⟩,ty,pos,aj,none⟩ (λch a w=>ch=tR/\∃l,C l/\Inv c (aM id s (Hl l)::V) [] G none_ a w):=by
 refine⟨rfl,rfl,λa w ⟨β,hI⟩=>⟨f,#[a.eval x,a.eval y],?_,Calls.mono (dS _ _ w _ _ (ir (aF hI)) (λk hk o ho=>ho.2 hk) (hI.obj (n0:=0) rfl).1 (cO hI (n0:=0) rfl (ju iJ hI)) (cO hI (n0:=0) rfl ((h1.imp c1).spec hI fV)) (cO hI (n0:=0) rfl ((h2.imp c2).spec hI fV))) ?_⟩⟩
 ·have qR:a.eval fx=.func (.func f) #[] #[]:=(hx.spec hI fV).out
  have:=hf (#[a.eval x,a.eval y]++#[]) w
  simp only[execOp,resolve,qR,Deferred.ofValue,pure_bind,invoke]
  rw[Array.append_empty]at this
  rw[show(#[x,y]:Array Operand).map a.eval=#[a.eval x,a.eval y] by simp]
  first|exact this|simpa using this
 ·rintro e w' ⟨l,B',k1,rfl,k2,k3,k4⟩
  exact⟨_,rfl,rfl,l,k1,hI.tj k2 k3 k4 hV hG hu⟩
theorem AE (dS:P2 P f p1 p2 tR) (hr:∀B w u,bE B w H->p0 w u->p1 w u) (h1:Has [0] G 0 x p0:=by exact hs) (h2:Has [0] G 0 y q2:=by exact hs) (c2:∀w v,q2 w v->p2 w v:=by exact gh)
  (hf:ax P f:=by exactλ_ _=>by kernel_rfl) (hV:dW (aM id s H::V)=true:=by kernel_rfl) (hG:eH G=true:=by kernel_rfl) (hu:kD (aM id s H::V) id 0=true:=by kernel_rfl):
  qX P c (aM id s H::V) G ⟨some d,.call ⟨.value (.func f),#[x,y],ts⟩,ty,pos,aj,none⟩ (λch a w=>ch=tR/\Inv c (aM id s H::V) [] G none_ a w):=by
 refine⟨rfl,rfl,λa w ⟨β,hI⟩=>⟨f,#[a.eval x,a.eval y],?_,?_⟩⟩
 ·have:=hf (#[a.eval x,a.eval y]++#[]) w
  have qR:a.eval (.func f)=.func (.func f) #[] #[]:=rfl
  simp only[execOp,resolve,qR,Deferred.ofValue,pure_bind,invoke]
  rw[Array.append_empty]at this
  rw[show(#[x,y]:Array Operand).map a.eval=#[a.eval x,a.eval y] by simp]
  first|exact this|simpa using this
 ·obtain⟨hH,_,_⟩:=hI.obj (n0:=0) rfl
  have hsub:∀{w'},Ext (minus (own c (aM id s H::V) none_ β) (β id)) w w'->Ext (own c (aM id s H::V) none_ β) w w':=λhe=>he.mono' λk o hk=>hk.1
  refine(dS (minus (own c (aM id s H::V) none_ β) (β id)) w _ _ (λk o hk=>aF hI k o hk.1) (λw' he=>?_) (λw' he=>(h2.imp c2).spec hI fV w' (hsub he))).mono ?_
  ·exact hr (β id) w' _ (hH.keep (aF hI) (hsub he) λe hm=>he.block e.b (Bk.fO (hH.2.2 e hm)) λo ho=>ho.2 ((hH.1 _).2 ⟨e,hm,rfl⟩)) (h1.spec hI fV w' (hsub he))
  ·rintro e w' ⟨ch,rfl,rfl,hb⟩
   exact⟨_,rfl,rfl,hI.tj (cI.bC hb) (λk hk=>.inl hk) (hH.keep (aF hI) (Ext.bC hb) λe hm=>hb.block e.b (Bk.fO (hH.2.2 e hm))) hV hG hu⟩
variable {M:Nat->Nat->Prop} {N:Nat}
theorem Cu {D:Code} {v0 v1:Value} {R:Ending->World->Prop} (hf:P.funcs[f]?=some fn) (hb:fn.body=some D) (hN:fn.ntmps=N) (hlen:decide ([v0,v1].length<=N)=true) (hM:cQ M w) (h0:aL M (λw=>p0 w v0) w) (h1:aL M (λw=>p1 w v1) w)
  (h:∀a,Inv ⟨N,w,M,λ_=>False⟩ [] [] [Uz 0 p0,Uz 1 p1] none_ a w->D.ww none [] P (bodyPost P fn R) a w):Calls P f #[v0,v1] w R:=
 calls_of_wp hf hb ((wpIn_wide (n:=0)).1 (wpIn_mono (h _ (jZ hM (by have h2:2<=N:=of_decide_eq_true hlen; simp[hN]; omega) rfl (dz.ok (show dz M w [v0,v1] [Uz 0 p0,Uz 1 p1]from⟨⟨rfl,_,rfl,h0⟩,⟨rfl,_,rfl,h1⟩,trivial⟩))) 0) λe a' w' ⟨a0,e0,h0⟩=>by subst e0; exact h0))
variable {w0:World} {B:Nat->Prop}
theorem zF (l:Λ) (hC:C l) (hI:Inv ⟨N,w0,M,B⟩ (aM id s (Hl l)::V) [] G none_ a w):bodyPost P fn (gm B C (λ_=>.panicked tR) Hl w0) (.panic tR) a w:=by
 obtain⟨β,hI⟩:=hI
 obtain⟨h1,h2,_⟩:=hI.obj (n0:=0) rfl
 exact⟨hI.defers,l,β id,hC,rfl,hI.below,λk hk'=>(h2 k hk').symm,h1⟩
theorem zE (hI:Inv ⟨N,w0,M,B⟩ V [] G none_ a w) (hB:∀k,¬B k):bodyPost P fn (λe w'=>∃ch,e=.panicked ch/\ch=tR/\Below w0.heap.size w0 w') (.panic tR) a w:=by
 obtain⟨β,hI⟩:=hI
 exact⟨hI.defers,_,rfl,rfl,hI.below.below hB⟩
end
theorem yu {c:bD} {V:List Vr} {G:List aD} {x:Operand} {ts:Array TypeId} {d:Nat} {ty:TypeId} {pos:String} {aj:Array Edge} (e:Int) (h1:Has [0] G 0 x (pB true):=by exact hs) (hf:ax Tryz.prog 127:=by exactλ_ _=>by kernel_rfl):qX Tryz.prog c V G ⟨some d,.call ⟨.value (.func 127),#[x,.const (.int .i64 e)],ts⟩,ty,pos,aj,none⟩ (λch a w=>ch=qD e/\Inv c V [] G none_ a w):=by
 refine⟨rfl,rfl,λa w hI=>⟨127,#[.bool true,.int .i64 e],?_,(oC e w).mono ?_⟩⟩
 ·obtain⟨β,hI⟩:=hI
  have hx:a.eval x=.bool true:=(h1.spec hI fV).out
  have:=hf (#[.bool true,.int .i64 e]++#[]) w
  simp only[execOp,resolve,Act.eval,Deferred.ofValue,pure_bind,invoke]
  rw[Array.append_empty]at this
  rw[show(#[x,.const (.int .i64 e)]:Array Operand).map a.eval=#[a.eval x,.int .i64 e] by simp[Act.eval],hx]
  first|exact this|simpa using this
 ·rintro en w' ⟨rfl,rfl⟩
  exact⟨_,rfl,rfl,hI⟩
end Wx
