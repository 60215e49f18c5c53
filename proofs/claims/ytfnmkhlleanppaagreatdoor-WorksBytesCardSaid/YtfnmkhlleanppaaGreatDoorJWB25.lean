import Derived.Test.YtfnmkhlleanppaaGreatDoorCWBWkC
import Derived.HandedShaped
import Derived.LaidMore
import Derived.Lay
import Derived.Lib.LaidTab
import Derived.Shelf.Vars
import Derived.Stop.Joined
import Derived.MakeChecks
namespace Wx
open Go Go.RowKit Go.Proofs Go.ChangeShapes Go.WideShapes Go.ChangeAt Go.Deep
section
variable {H:Type} {enc:TypeId×Value->H} {P:Program} {w:World}
end
end Wx

namespace Wx
open Go Go.RowKit Go.Proofs
set_option linter.unusedVariables false
def jG (w:World):Prop:=(∃m:Int,w.cell? ⟨0,0,none⟩=some (.int .i64 m))/\w.cell? ⟨7,15,none⟩=some (.int .u8 4)
abbrev J0 (P:Program) (f:FuncId) (p:Pred):Prop:=∀(M:Nat->Nat->Prop) (w:World),dm M w->aK M jG w->Calls P f #[] w (bX M p w)
abbrev J1 (P:Program) (f:FuncId) (p0 p:Pred):Prop:=∀(M:Nat->Nat->Prop) (w:World) (v0:Value),dm M w->aK M jG w->aK M (λw=>p0 w v0) w->Calls P f #[v0] w (bX M p w)
abbrev J2 (P:Program) (f:FuncId) (p0 p1 p:Pred):Prop:=∀(M:Nat->Nat->Prop) (w:World) (v0 v1:Value),dm M w->aK M jG w->aK M (λw=>p0 w v0) w->aK M (λw=>p1 w v1) w->Calls P f #[v0,v1] w (bX M p w)
variable {F:World->Prop} {w:World}
theorem eY {M:Nat->Nat->Prop} (h:aK M F w):aK (λk o=>M k o\/False) F w:=h.sub λ_ _ _ h=>h.elim id False.elim
theorem kL {c:bJ} {V:List Vr} {A:List Al} {G:List aI} {L:Nat->Bool} {β:Nat->Nat->Prop} {a:Act} (hG:aK (λk o=>c.M0 k o\/c.dx k) F c.w0) (hI:aS c V A G L β a w):aK (own c V L β) F w:=λw' he=>by
 have key:∀k o,k<c.w0.heap.size->¬(c.M0 k o\/c.dx k)->¬own c V L β k o:=by
  rintro k o hk hn (h|⟨x,hx,h1,h2,_⟩)
  ·exact hn (.inl h)
  ·rcases (hI.var x hx h1).blk h2 with⟨h3|h3,_⟩
   ·omega
   ·exact hn (.inr h3)
 refine hG w' ⟨Nat.le_trans hI.below.size he.size,λk hk hn=>?_,λk o v hn hc=>?_⟩
 ·have h1:=hI.below.block k hk λh=>hn 0 (.inr h)
  exact(he.block k (Nat.lt_of_lt_of_le hk hI.below.size) λo=>key k o hk (hn o)).trans h1
 ·have hk:=World.block_lt_of_cell? c.w0 _ hc
  refine he.cell k o v (key k o hk hn) ?_
  rw[World.cell?_of_block (w:=c.w0) (w':=w) (a:=⟨k,o,none⟩) (hI.below.block k hk λh=>hn (.inr h))]
  exact hc
section
variable {P:Program} {ops:Array Oper} {ms:List Nat} {c:bJ} {V:List Vr} {A:List Al} {G:List aI} {i d:Nat} {x y z:Operand} {ty:TypeId} {pos:String} {au:Array Edge}
theorem DB (hG:aK (λk o=>c.M0 k o\/c.dx k) jG c.w0) {f:FuncId} {ts:Array TypeId} {p:Pred} {φ:Prop} (eZ:φ->J0 P f p) (hp:Post G i p:=by exact pt rfl) (hφ:φ:=by first|omega|trivial) (hf:aA P f:=by exactλ_ _=>by kernel_rfl):OpOk P ops ms c V A G i ⟨some d,.call ⟨.value (.func f),#[],ts⟩,ty,pos,au,none⟩:=
 eU hf hp λ_ _ a w hI hd=>(by
  rw[show(#[]:Array Operand).map a.eval=#[] by simp]
  exact eZ hφ _ w (aL hI) (kL hG hI))
theorem wv (hG:aK (λk o=>c.M0 k o\/c.dx k) jG c.w0) {f:FuncId} {ts:Array TypeId} {p p1 q1:Pred} {φ:Prop} (eZ:φ->J1 P f p1 p) (h1:Has ms G i x q1:=by exact hs) (c1:∀w v,q1 w v->p1 w v:=by exact ig) (hp:Post G i p:=by exact pt rfl) (hφ:φ:=by first|omega|trivial) (hf:aA P f:=by exactλ_ _=>by kernel_rfl):OpOk P ops ms c V A G i ⟨some d,.call ⟨.value (.func f),#[x],ts⟩,ty,pos,au,none⟩:=
 eU hf hp λ_ _ a w hI hd=>(by
  rw[show(#[x]:Array Operand).map a.eval=#[a.eval x] by simp]
  exact eZ hφ _ w _ (aL hI) (kL hG hI) ((h1.imp c1).spec hI hd))
theorem zE (hG:aK (λk o=>c.M0 k o\/c.dx k) jG c.w0) {f:FuncId} {ts:Array TypeId} {p p1 p2 q1 q2:Pred} {φ:Prop} (eZ:φ->J2 P f p1 p2 p) (h1:Has ms G i x q1:=by exact hs) (c1:∀w v,q1 w v->p1 w v:=by exact ig) (h2:Has ms G i y q2:=by exact hs) (c2:∀w v,q2 w v->p2 w v:=by exact ig) (hp:Post G i p:=by exact pt rfl) (hφ:φ:=by first|omega|trivial) (hf:aA P f:=by exactλ_ _=>by kernel_rfl):OpOk P ops ms c V A G i ⟨some d,.call ⟨.value (.func f),#[x,y],ts⟩,ty,pos,au,none⟩:=
 eU hf hp λ_ _ a w hI hd=>(by
  rw[show(#[x,y]:Array Operand).map a.eval=#[a.eval x,a.eval y] by simp]
  exact eZ hφ _ w _ _ (aL hI) (kL hG hI) ((h1.imp c1).spec hI hd) ((h2.imp c2).spec hI hd))
end
abbrev CT (L:List ByteArray):Pred:=ax 1 false L.length λk=>pT (L.getD k ⟨#[]⟩)
theorem aW (s:ByteArray):Fits 1 false (pT s):=aX (fM _) rfl rfl
def pK:ByteArray:=⟨#[32]⟩
def aD (s:ByteArray):List ByteArray:=Lib.splitB pK 0 (Lib.countB s pK) s
theorem cG (s:ByteArray):(aD s).length=Lib.countB s pK+1:=Lib.splitB_all pK (by decide) 0 _ s rfl
theorem iL {s:ByteArray} (h:s.size<=1000000):J2 Tryz.prog 54 (pT s) (pT pK) (CT (aD s)):=λM w v0 v1 hM hG h0 h1=>by
 obtain rfl:v0=.string s:=h0.out
 obtain rfl:v1=.string pK:=h1.out
 obtain⟨⟨m,hm⟩,_⟩:=hG.out
 refine(Tryz.strings_Split s pK m w (by omega) hm (by decide)).mono ?_
 rintro e w' ⟨rfl,rfl⟩
 have hc:Lib.countB s pK<=s.size:=Lib.countB_le pK (by decide) s.size s (Nat.le_refl _)
 have hb:Below w.heap.size w (w.alloc (.cells ((Lib.splitB pK 0 (Lib.countB s pK) s).map Value.string).toArray 9)):=(Below.refl _ w).alloc (Nat.le_refl _) _
 refine⟨_,rfl,λw'' he=>⟨some ⟨w.heap.size,0,none⟩,Lib.countB s pK+1,by rw[cG],by rw[cG]; omega,by unfold maxLen; omega,λ_=>⟨w.heap.size,0,rfl,λk hk=>⟨[.string ((aD s).getD k ⟨#[]⟩)],rfl,λj u hu=>?_,rfl⟩⟩⟩,hb⟩
 match j,hu with
 |0,hu=>
  injection hu with hu
  subst hu
  rw[show 0+k*1+0=k by omega]
  refine he.cell w.heap.size k _ (λhm'=>by have:=(hM _ _ hm').1; omega) ?_
  have hk':k<(Lib.splitB pK 0 (Lib.countB s pK) s).length:=hk
  simp only[World.cell?,World.alloc_heap_new]
  simp[aD,List.getD_eq_getElem?_getD,hk']
end Wx

namespace Wx
set_option maxRecDepth 100000
open Go Go.RowKit Go.Proofs Go.ChangeShapes Go.WideShapes Go.ChangeAt
set_option linter.unusedVariables false
variable {f:FuncId}
theorem nB {H:Type} {enc:TypeId×Value->H} {a:Assume} {C:Checked} {os:Os} {fn:Func} {s:ChangeSpec} {conds:List PathCond} {apart fresh handsOn again:Bool} {X:World->Array Value->Prop}
  (hX:∀(w w':World) (args:Array Value),w.heap=w'.heap->X w args->X w' args)
  (own:ownKnob C.prog.godebug=none) (started:os.Started) (noInit:C.prog.inits.idxOf? f=none) (hfn:C.prog.funcs[f]?=some fn)
  (witness:∃(w:World) (tape:Tape) (i:Input),w.os=os/\(w.forCall tape i).Shaped C.prog/\i.vars=[]/\Input.okWide C.prog (w.forCall tape i) .any w.heap.size f i /\
   ((s.pre enc C.prog fn conds apart (w.forCall tape i).memory i.args/\X (w.forCall tape i).memory i.args)/\sizedMet enc C.prog fn (OpenSpec.ofChange s) apart (w.forCall tape i).memory i.args)/\a.holds C.prog (lone (Frame.enter C.prog f i.args .normal) [] (w.forCall tape i)))
  (contract:∀(W:World) (base:Nat) (args:Array Value) (ds gs:List (DataW H)) (before:List MemPlace),
   (∀(j:Nat) t v,fn.params[j]?=some t->args[j]?=some v->Value.okWide C.prog W .any base t v) ->
   DataW.Whole enc C.prog fn.params.toList s.vars apart W args.toList ds gs before->X W args->W.ShapedOpen C.prog ->
   Calls C.prog f args W λe W'=>∃v,e=.returned v/\s.post enc C.prog fn apart fresh handsOn again W args v W'):
  ReturnsInHanded a C os f .any (λw args=>(s.pre enc C.prog fn conds apart w args/\X w args)/\sizedMet enc C.prog fn (OpenSpec.ofChange s) apart w args) (s.post enc C.prog fn apart fresh handsOn again):=by
 refine returnsInHanded_of_calls own started noInit witness ?_
 intro w tape i _ hsh _ hok hpre hholds
 obtain⟨_,_,_,fn',D7,_,_,_,_,hval⟩:=hok
 have e:fn'=fn:=Option.some.inj (D7.symm.trans hfn)
 subst e
 obtain⟨⟨⟨ds,gs,before,hw,hc⟩,hx⟩,hz⟩:=hpre
 have hw':=DataW.Whole.of_heap (w':=w.forCall tape i) (by rfl) hw
 refine(contract (w.forCall tape i) w.heap.size i.args ds gs before hval hw' (hX _ _ _ (by rfl) hx) hsh).mono λe W' ⟨v,he,hp⟩=>?_
 subst he
 exact ChangeSpec.post_blind hp
abbrev lW:List (String×DataW Unit):=Go.Proofs.YtfnmkhlleanppaaGreatDoor.Rows.worksFramesRow.laid
def C2:List Int:=[0,1,56,2,57,49,28,3,61,58,42,50,38,29,17,4,62,47,59,36,45,43,51,22,53,39,33,30,24,18,12,5,63,55,48,27,60,41,37,16,46,35,44,21,52,32,23,11,54,26,40,15,34,20,31,10,25,14,19,9,13,8,7,6]
variable {W:World}
theorem Be (h:laidMetH Tryz.prog lW W):W.cell? ⟨7,15,none⟩=some (.int .u8 4):=by
 rw[MakeChecks.laidMetH_plain _ _ _ (by kernel_rfl)]at h
 obtain⟨ps,⟨g0,t0,cs0,f0,p0,q0,hg0,ht0,hv0,hd0,⟨g1,t1,cs1,f1,p1,q1,EX,Co,dH,D3,_,_⟩,_⟩,_,_⟩:=h
 have eg : Tryz.prog.globalNamed "math/bits.deBruijn64tab" = some 7 := by kernel_rfl
 have et:(Tryz.prog.globals[7]?).map (·.type)=some 245:=by kernel_rfl
 obtain rfl:=Option.some.inj (eg.symm.trans EX)
 obtain rfl:=Option.some.inj (et.symm.trans Co)
 have hD:DataW.trod _ Tryz.prog W 0 _ false f1 245 cs1.toList=some (Lib.tabData .u8 C2,p1):=D3
 have hc:=Lib.cells_of_tab (t:=245) (e:=5) (n:=64) (by kernel_rfl) (by kernel_rfl) (by kernel_rfl) (by kernel_rfl) hD
 have FO:=World.var?_cell EX dH 15
 rw[FO]
 have:cs1.toList[15]?=some (.int .u8 4):=by rw[hc]; kernel_rfl
 simpa using this
theorem zP (h:laidMetH Tryz.prog lW W) (hs:W.ShapedOpen Tryz.prog):aK (λ_ _=>False) jG W:=by
 obtain⟨m,hm⟩:=cell_of_shapedOpen_int (P:=Tryz.prog) (g:=0) (t:=3) (zero:=#[.int .i64 0]) (k:=.i64) hs (of_decide_eq_true (by kernel_rfl)) (by kernel_rfl) rfl (by kernel_rfl) (by kernel_rfl) (by kernel_rfl)
 have ht:=Be h
 exactλw' he=>⟨⟨m,he.cell _ _ _ (λh=>h) hm⟩,he.cell _ _ _ (λh=>h) ht⟩
theorem uQ {P:Program} {args:Array Value} (h:Calls P f args W (bX (λ_ _=>False) (pB true) W)):Calls P f args W λe w'=>e=.returned (.bool true)/\Below W.heap.size W w':=
 h.mono λe w' h=>by
  obtain⟨v,rfl,hv,hb⟩:=h
  have:v=.bool true:=hv.out
  exact⟨by rw[this],hb⟩
theorem xA {w:World}:dm (λ_ _=>False) w:=λ_ _ h=>h.elim
end Wx
