import Derived.HandedShaped
import Derived.LaidMore
import Derived.Lay
import Derived.Lib.LaidTab
import Derived.Shelf.Vars
import Derived.Stop.Joined
import Derived.MakeChecks
import Derived.Test.YtfnmkhlleanppaaGreatDoorJWC19
namespace Wx
open Go Go.RowKit Go.Proofs
set_option linter.unusedVariables false
def jd (w:World):Prop:=(∃m:Int,w.cell? ⟨0,0,none⟩=some (.int .i64 m))/\w.cell? ⟨7,15,none⟩=some (.int .u8 4)
abbrev J0 (P:Program) (f:FuncId) (p:Pred):Prop:=∀(M:Nat->Nat->Prop) (w:World),cS M w->aJ M jd w->Calls P f #[] w (cI M p w)
abbrev J1 (P:Program) (f:FuncId) (p0 p:Pred):Prop:=∀(M:Nat->Nat->Prop) (w:World) (v0:Value),cS M w->aJ M jd w->aJ M (λw=>p0 w v0) w->Calls P f #[v0] w (cI M p w)
abbrev J2 (P:Program) (f:FuncId) (p0 p1 p:Pred):Prop:=∀(M:Nat->Nat->Prop) (w:World) (v0 v1:Value),cS M w->aJ M jd w->aJ M (λw=>p0 w v0) w->aJ M (λw=>p1 w v1) w->Calls P f #[v0,v1] w (cI M p w)
variable {F:World->Prop} {w:World}
theorem dP {M:Nat->Nat->Prop} (h:aJ M F w):aJ (λk o=>M k o\/False) F w:=h.sub λ_ _ _ h=>h.elim id False.elim
theorem ki {c:bQ} {V:List Vr} {A:List Al} {G:List aN} {L:Nat->Bool} {β:Nat->Nat->Prop} {a:Act} (hG:aJ (λk o=>c.M0 k o\/c.dc k) F c.w0) (hI:aQ c V A G L β a w):aJ (own c V L β) F w:=λw' he=>by
 have key:∀k o,k<c.w0.heap.size->¬(c.M0 k o\/c.dc k)->¬own c V L β k o:=by
  rintro k o hk hn (h|⟨x,hx,h1,h2,_⟩)
  ·exact hn (.inl h)
  ·rcases (hI.var x hx h1).blk h2 with⟨h3|h3,_⟩
   ·omega
   ·exact hn (.inr h3)
 refine hG w' ⟨Nat.le_trans hI.below.size he.size,λk hk hn=>?_,λk o v hn hc=>?_⟩
 ·have h1:=hI.below.block k hk λh=>hn 0 (.inr h)
  exact(he.block k (Nat.lt_of_lt_of_le hk hI.below.size) λo=>key k o hk (hn o)).trans h1
 ·have hk:=World.block_lt_of_cell? c.w0 _ hc
  refine he.cell k o v (key k o hk hn) ?_
  rw[World.cell?_of_block (w:=c.w0) (w':=w) (a:=⟨k,o,none⟩) (hI.below.block k hk λh=>hn (.inr h))]
  exact hc
section
variable {P:Program} {ops:Array Oper} {ms:List Nat} {c:bQ} {V:List Vr} {A:List Al} {G:List aN} {i d:Nat} {x y z:Operand} {ty:TypeId} {pos:String} {aft:Array Edge}
theorem KS (hG:aJ (λk o=>c.M0 k o\/c.dc k) jd c.w0) {f:FuncId} {ts:Array TypeId} {p:Pred} {φ:Prop} (gj:φ->J0 P f p) (hp:Post G i p:=by exact pt rfl) (hφ:φ:=by first|omega|trivial) (hf:aK P f:=by exactλ_ _=>by kernel_rfl):OpOk P ops ms c V A G i ⟨some d,.call ⟨.value (.func f),#[],ts⟩,ty,pos,aft,none⟩:=
 fX hf hp λ_ _ a w hI hd=>(by
  rw[show(#[]:Array Operand).map a.eval=#[] by simp]
  exact gj hφ _ w (aF hI) (ki hG hI))
theorem Ai (hG:aJ (λk o=>c.M0 k o\/c.dc k) jd c.w0) {f:FuncId} {ts:Array TypeId} {p p1 q1:Pred} {φ:Prop} (gj:φ->J1 P f p1 p) (h1:Has ms G i x q1:=by exact hs) (c1:∀w v,q1 w v->p1 w v:=by exact jw) (hp:Post G i p:=by exact pt rfl) (hφ:φ:=by first|omega|trivial) (hf:aK P f:=by exactλ_ _=>by kernel_rfl):OpOk P ops ms c V A G i ⟨some d,.call ⟨.value (.func f),#[x],ts⟩,ty,pos,aft,none⟩:=
 fX hf hp λ_ _ a w hI hd=>(by
  rw[show(#[x]:Array Operand).map a.eval=#[a.eval x] by simp]
  exact gj hφ _ w _ (aF hI) (ki hG hI) ((h1.imp c1).spec hI hd))
theorem wU (hG:aJ (λk o=>c.M0 k o\/c.dc k) jd c.w0) {f:FuncId} {ts:Array TypeId} {p p1 p2 q1 q2:Pred} {φ:Prop} (gj:φ->J2 P f p1 p2 p) (h1:Has ms G i x q1:=by exact hs) (c1:∀w v,q1 w v->p1 w v:=by exact jw) (h2:Has ms G i y q2:=by exact hs) (c2:∀w v,q2 w v->p2 w v:=by exact jw) (hp:Post G i p:=by exact pt rfl) (hφ:φ:=by first|omega|trivial) (hf:aK P f:=by exactλ_ _=>by kernel_rfl):OpOk P ops ms c V A G i ⟨some d,.call ⟨.value (.func f),#[x,y],ts⟩,ty,pos,aft,none⟩:=
 fX hf hp λ_ _ a w hI hd=>(by
  rw[show(#[x,y]:Array Operand).map a.eval=#[a.eval x,a.eval y] by simp]
  exact gj hφ _ w _ _ (aF hI) (ki hG hI) ((h1.imp c1).spec hI hd) ((h2.imp c2).spec hI hd))
end
abbrev uQ (L:List ByteArray):Pred:=aI 1 false L.length λk=>pT (L.getD k ⟨#[]⟩)
theorem aE (s:ByteArray):Fits 1 false (pT s):=cg (eH _) rfl rfl
def nC:ByteArray:=⟨#[32]⟩
def ay (s:ByteArray):List ByteArray:=Lib.splitB nC 0 (Lib.countB s nC) s
theorem dw (s:ByteArray):(ay s).length=Lib.countB s nC+1:=Lib.splitB_all nC (by decide) 0 _ s rfl
theorem iT {s:ByteArray} (h:s.size<=1000000):J2 Tryz.prog 54 (pT s) (pT nC) (uQ (ay s)):=λM w v0 v1 hM hG h0 h1=>by
 obtain rfl:v0=.string s:=h0.out
 obtain rfl:v1=.string nC:=h1.out
 obtain⟨⟨m,hm⟩,_⟩:=hG.out
 refine(Tryz.strings_Split s nC m w (by omega) hm (by decide)).mono ?_
 rintro e w' ⟨rfl,rfl⟩
 have hc:Lib.countB s nC<=s.size:=Lib.countB_le nC (by decide) s.size s (Nat.le_refl _)
 have hb:Below w.heap.size w (w.alloc (.cells ((Lib.splitB nC 0 (Lib.countB s nC) s).map Value.string).toArray 9)):=(Below.refl _ w).alloc (Nat.le_refl _) _
 refine⟨_,rfl,λw'' he=>⟨some ⟨w.heap.size,0,none⟩,Lib.countB s nC+1,by rw[dw],by rw[dw]; omega,by unfold maxLen; omega,λ_=>⟨w.heap.size,0,rfl,λk hk=>⟨[.string ((ay s).getD k ⟨#[]⟩)],rfl,λj u hu=>?_,rfl⟩⟩⟩,hb⟩
 match j,hu with
 |0,hu=>
  injection hu with hu
  subst hu
  rw[show 0+k*1+0=k by omega]
  refine he.cell w.heap.size k _ (λhm'=>by have:=(hM _ _ hm').1; omega) ?_
  have hk':k<(Lib.splitB nC 0 (Lib.countB s nC) s).length:=hk
  simp only[World.cell?,World.alloc_heap_new]
  simp[ay,List.getD_eq_getElem?_getD,hk']
end Wx

namespace Wx
set_option maxRecDepth 100000
open Go Go.RowKit Go.Proofs Go.ChangeShapes Go.WideShapes Go.ChangeAt
set_option linter.unusedVariables false
variable {f:FuncId}
theorem qq {H:Type} {enc:TypeId×Value->H} {a:Assume} {C:Checked} {os:Os} {fn:Func} {s:ChangeSpec} {conds:List PathCond} {apart fresh handsOn again:Bool} {X:World->Array Value->Prop}
  (hX:∀(w w':World) (args:Array Value),w.heap=w'.heap->X w args->X w' args)
  (own:ownKnob C.prog.godebug=none) (started:os.Started) (noInit:C.prog.inits.idxOf? f=none) (hfn:C.prog.funcs[f]?=some fn)
  (witness:∃(w:World) (tape:Tape) (i:Input),w.os=os/\(w.forCall tape i).Shaped C.prog/\i.vars=[]/\Input.okWide C.prog (w.forCall tape i) .any w.heap.size f i /\
   ((s.pre enc C.prog fn conds apart (w.forCall tape i).memory i.args/\X (w.forCall tape i).memory i.args)/\sizedMet enc C.prog fn (OpenSpec.ofChange s) apart (w.forCall tape i).memory i.args)/\a.holds C.prog (lone (Frame.enter C.prog f i.args .normal) [] (w.forCall tape i)))
  (contract:∀(W:World) (base:Nat) (args:Array Value) (ds gs:List (DataW H)) (before:List MemPlace),
   (∀(j:Nat) t v,fn.params[j]?=some t->args[j]?=some v->Value.okWide C.prog W .any base t v) ->
   DataW.Whole enc C.prog fn.params.toList s.vars apart W args.toList ds gs before->X W args->W.ShapedOpen C.prog ->
   Calls C.prog f args W λe W'=>∃v,e=.returned v/\s.post enc C.prog fn apart fresh handsOn again W args v W'):
  ReturnsInHanded a C os f .any (λw args=>(s.pre enc C.prog fn conds apart w args/\X w args)/\sizedMet enc C.prog fn (OpenSpec.ofChange s) apart w args) (s.post enc C.prog fn apart fresh handsOn again):=by
 refine returnsInHanded_of_calls own started noInit witness ?_
 intro w tape i _ hsh _ hok hpre hholds
 obtain⟨_,_,_,fn',JK,_,_,_,_,hval⟩:=hok
 have e:fn'=fn:=Option.some.inj (JK.symm.trans hfn)
 subst e
 obtain⟨⟨⟨ds,gs,before,hw,hc⟩,hx⟩,hz⟩:=hpre
 have hw':=DataW.Whole.of_heap (w':=w.forCall tape i) (by rfl) hw
 refine(contract (w.forCall tape i) w.heap.size i.args ds gs before hval hw' (hX _ _ _ (by rfl) hx) hsh).mono λe W' ⟨v,he,hp⟩=>?_
 subst he
 exact ChangeSpec.post_blind hp
abbrev ow:List (String×DataW Unit):=Go.Proofs.YtfnmkhlleanppaaGreatDoor.Rows.worksFramesRow.laid
def Ip:List Int:=[0,1,56,2,57,49,28,3,61,58,42,50,38,29,17,4,62,47,59,36,45,43,51,22,53,39,33,30,24,18,12,5,63,55,48,27,60,41,37,16,46,35,44,21,52,32,23,11,54,26,40,15,34,20,31,10,25,14,19,9,13,8,7,6]
variable {W:World}
theorem FL (h:laidMetH Tryz.prog ow W):W.cell? ⟨7,15,none⟩=some (.int .u8 4):=by
 rw[MakeChecks.laidMetH_plain _ _ _ (by kernel_rfl)]at h
 obtain⟨ps,⟨g0,t0,cs0,f0,p0,q0,hg0,ht0,hv0,hd0,⟨g1,t1,cs1,f1,p1,q1,K9,MG,da,JB,_,_⟩,_⟩,_,_⟩:=h
 have eg : Tryz.prog.globalNamed "math/bits.deBruijn64tab" = some 7 := by kernel_rfl
 have et:(Tryz.prog.globals[7]?).map (·.type)=some 245:=by kernel_rfl
 obtain rfl:=Option.some.inj (eg.symm.trans K9)
 obtain rfl:=Option.some.inj (et.symm.trans MG)
 have hD:DataW.trod _ Tryz.prog W 0 _ false f1 245 cs1.toList=some (Lib.tabData .u8 Ip,p1):=JB
 have hc:=Lib.cells_of_tab (t:=245) (e:=5) (n:=64) (by kernel_rfl) (by kernel_rfl) (by kernel_rfl) (by kernel_rfl) hD
 have L3:=World.var?_cell K9 da 15
 rw[L3]
 have:cs1.toList[15]?=some (.int .u8 4):=by rw[hc]; kernel_rfl
 simpa using this
theorem D6 (h:laidMetH Tryz.prog ow W) (hs:W.ShapedOpen Tryz.prog):aJ (λ_ _=>False) jd W:=by
 obtain⟨m,hm⟩:=cell_of_shapedOpen_int (P:=Tryz.prog) (g:=0) (t:=3) (zero:=#[.int .i64 0]) (k:=.i64) hs (of_decide_eq_true (by kernel_rfl)) (by kernel_rfl) rfl (by kernel_rfl) (by kernel_rfl) (by kernel_rfl)
 have ht:=FL h
 exactλw' he=>⟨⟨m,he.cell _ _ _ (λh=>h) hm⟩,he.cell _ _ _ (λh=>h) ht⟩
theorem yI {P:Program} {args:Array Value} (h:Calls P f args W (cI (λ_ _=>False) (pB true) W)):Calls P f args W λe w'=>e=.returned (.bool true)/\Below W.heap.size W w':=
 h.mono λe w' h=>by
  obtain⟨v,rfl,hv,hb⟩:=h
  have:v=.bool true:=hv.out
  exact⟨by rw[this],hb⟩
theorem BI {w:World}:cS (λ_ _=>False) w:=λ_ _ h=>h.elim
end Wx

namespace Wx
open Go Go.RowKit
def One (b n:Nat) (q:Pred) (w:World):Prop:=∃(cs:List Value) (T:TypeId),w.heap[b]?=some (.cells cs.toArray T (0,0))/\cs.length=n/\(∀v∈cs,dB v)/\q w (aq true cs)
def jo (b n:Nat) (q:Pred):Rel:=λB w _=>(∀k,B k↔k=b)/\One b n q w
abbrev fk (id b n:Nat) (q:Pred):Vr:=cr id id (jo b n q)
variable {b n:Nat} {q:Pred} {w:World}
theorem One.qf (h:One b n q w):∀o v,w.cell? ⟨b,o,none⟩=some v->dB v:=by
 obtain⟨cs,T,h1,_,h3,_⟩:=h
 intro o v hv
 simp only[World.cell?,h1]at hv
 have:cs[o]?=some v:=by simpa using hv
 exact h3 v (List.mem_of_getElem? this)
theorem One.imp {q':Pred} (h:One b n q w) (hq:∀w v,q w v->q' w v):One b n q' w:=by
 obtain⟨cs,T,h1,h2,h3,h4⟩:=h
 exact⟨cs,T,h1,h2,h3,hq _ _ h4⟩
theorem One.box {M:Nat->Nat->Prop} {B:Nat->Prop} (h:One b n q w) (hB:B b) (hn:aO q) (hM:cS M w):aJ (minus M B) (One b n q) w:=by
 obtain⟨cs,T,h1,h2,h3,h4⟩:=h
 intro w' he
 exact⟨cs,T,(he.block b ((Array.getElem?_eq_some_iff.1 h1).1) λo ho=>ho.2 hB).trans h1,h2,h3,hn _ w _ (λk o hk=>hM k o hk.1) h4 w' he⟩
theorem vg {c:bQ} {V:List Vr} {G:List aN} {a:Act} {i T:Nat} (hI:Inv c V [] G none_ a w) (k:Nat) (hk:V[k]?=some (Vz i i T n true q)):∃b,Inv c (V.set k (fk i b n q)) [] (⟨none,none,i,aG (.pointer (some ⟨b,0,none⟩))⟩::G) none_ a w:=by
 obtain⟨β,h⟩:=hI
 have hx:=List.mem_of_getElem? hk
 have hkn:=(List.getElem?_eq_some_iff.1 hk).1
 obtain⟨g,e,h1,hb⟩:=(aY rfl).1 (h.var _ hx rfl)
 obtain⟨cs,k1,k2,k3,k4⟩:=hb.held
 have e:∀k,β i k↔k=g:=e
 have hmem:∀y,y∈V.set k (fk i g n q)->y=fk i g n q\/y∈V:=λy hy=>(List.mem_or_eq_of_mem_set hy).symm
 have yc:∀y,y∈V->y=Vz i i T n true q\/y∈V.set k (fk i g n q):=by
  intro y hy
  obtain⟨m,hm⟩:=List.mem_iff_getElem?.1 hy
  by_cases hmk:m=k
  ·subst hmk
   rw[hk]at hm
   exact .inl (Option.some.inj hm).symm
  ·exact .inr (List.mem_iff_getElem?.2 ⟨m,by rw[List.getElem?_set_ne (Ne.symm hmk)]; exact hm⟩)
 have hnew:fk i g n q∈V.set k (fk i g n q):=List.mem_iff_getElem?.2 ⟨k,by rw[List.getElem?_set_self hkn]⟩
 have eo:own c (V.set k (fk i g n q)) none_ β=own c V none_ β:=by
  funext k' o
  apply propext
  constructor
  ·rintro(h'|⟨y,hy,h1,h2,h3⟩)
   ·exact .inl h'
   ·rcases hmem y hy with rfl|hy
    ·exact .inr ⟨_,hx,rfl,h2,Nat.zero_le _⟩
    ·exact .inr ⟨y,hy,h1,h2,h3⟩
  ·rintro(h'|⟨y,hy,h1,h2,h3⟩)
   ·exact .inl h'
   ·rcases yc y hy with rfl|hy
    ·exact .inr ⟨_,hnew,rfl,h2,Nat.zero_le _⟩
    ·exact .inr ⟨y,hy,h1,h2,h3⟩
 have h4:aJ (own c V none_ β) (λw=>q w (aq true cs)) w:=k4
 refine⟨g,β,h.size,h.defers,h.below,h.old,λy hy hl=>?_,λy y' g' hy hy' hl hl' hne=>?_,(λp hp=>by cases hp),λe' he ho hf=>?_⟩
 ·rw[eo]
  rcases hmem y hy with rfl|hy
  ·refine(aB rfl).2 ⟨λk' hk'=>?_,λw' he=>⟨e,cs,T,?_,k2,k3,h4 w' (he.mono λk o _ hk=>hk.1)⟩⟩
   ·have:=(e k').1 hk'
    subst this
    exact(h.var _ hx rfl).blk hk'
   ·exact(he.block g ((Array.getElem?_eq_some_iff.1 k1).1) λo ho=>ho.2 ((e g).2 rfl)).trans k1
  ·exact h.var y hy hl
 ·have hy0:∃z,z∈V/\z.id=y.id/\live none_ z=true:=(hmem y hy).elim (λe=>⟨_,hx,by rw[e],rfl⟩) λh=>⟨y,h,rfl,hl⟩
  have Kg:∃z,z∈V/\z.id=y'.id/\live none_ z=true:=(hmem y' hy').elim (λe=>⟨_,hx,by rw[e],rfl⟩) λh=>⟨y',h,rfl,hl'⟩
  obtain⟨z,hz,ez,lz⟩:=hy0
  obtain⟨z',At,GC,Kk⟩:=Kg
  rw[<-ez,<-GC]
  exact h.apart z z' g' hz At lz Kk (by rw[ez,GC]; exact hne)
 ·rw[eo]
  rcases List.mem_cons.1 he with rfl|he
  ·exactλw' _=>h1
  ·exact h.ew e' he ho hf
section
variable {P:Program} {ops:Array Oper} {ms:List Nat} {c:bQ} {V:List Vr} {A:List Al} {G:List aN} {i:Nat}{d:Nat} {x y z:Operand} {ty:TypeId} {pos:String} {aft:Array Edge}{b n:Nat} {q:Pred} {v:Vr}
theorem ql {L:Nat->Bool} {β:Nat->Nat->Prop} {a:Act} {w:World} (hI:aQ c V A G L β a w) (hd:iY ms i L) (hv:v∈V) (ho:bC ms i v=true) (bR:v.kd=.obj) (hst:(v.st.all λq=>(q.1==i||(ms.getD i 0).testBit q.1)||(ms.getD q.1 0).testBit i)=true)
  (hc:cont (λj=>(ms.getD i 0).testBit j) v.c0 v.st=jo b n q):(∀k,β v.id k↔k=b)/\One b n q w:=by
 have hH:=(jl hI hd hv ho bR).2.out
 rw[fq hd hst,hc]at hH
 exact hH
variable {T:TypeId} {off m:Nat} {ag:Bool} {p:Pred}
theorem rY (k:Nat) (hk:V[k]?=some v) (ho:bC ms i v=true) (bR:v.kd=.obj) (hst:(v.st.all λq=>(q.1==i||(ms.getD i 0).testBit q.1)||(ms.getD q.1 0).testBit i)=true)
  (hc:cont (λj=>(ms.getD i 0).testBit j) v.c0 v.st=jo b n q) (h:Has ms G i y (aG (.pointer (some ⟨b,off,none⟩)))) (hlen:off+m<=n) (ht:Ty P T ag m) (hq:∀w cs,cs.length=n->q w (aq true cs)->p w (aq ag ((cs.drop off).take m))) (hn:aO p) (hp:Post G i p):
  OpOk P ops ms c V A G i ⟨some d,.load T y,ty,pos,aft,none⟩:=
 bD rfl rfl rfl (.inl rfl) hp λL β a w hI hd=>by
  obtain⟨_,cs,t,h1,h2,h3,h4⟩:=ql hI hd (List.mem_of_getElem? hk) ho bR hst hc
  have hy:a.eval y=.pointer (some ⟨b,off,none⟩):=(h.spec hI hd).out
  refine⟨aq ag ((cs.drop off).take m),w,?_,Below.refl _ _,hn _ w _ (aF hI) (hq w cs h2 h4)⟩
  show(do pure (Next.value (<-Instr.loadAt T (a.eval y)))).run P w=_
  rw[hy,Sem.run_bind,cT (cs:=(cs.drop off).take m) ht (gw h1 off m) (by rw[List.length_take,List.length_drop]; omega)]
  rfl
theorem kR {q':Pred} (k:Nat) (hk:V[k]?=some v) (ho:bC ms i v=true) (bR:v.kd=.obj) (hst:(v.st.all λq=>(q.1==i||(ms.getD i 0).testBit q.1)||(ms.getD q.1 0).testBit i)=true)
  (mk:Nat) (hm:v.st[mk]?=some (i,jo b n q')) (hr:((v.st.drop (mk+1)).all λr=>(ms.getD r.1 0).testBit i)=true) (eE:(V.all λy=>y.id==v.id||y.st.all λq=>q.1 != i)=true)
  (hc:cont (λj=>(ms.getD i 0).testBit j) v.c0 v.st=jo b n q) (h:Has ms G i y (aG (.pointer (some ⟨b,off,none⟩)))) (hlen:off+m<=n) (ht:Ty P T ag m) (hz:Has ms G i z p) (hf:Fits m ag p)
  (hq:∀w cs ds,cs.length=n->ds.length=m->q w (aq true cs)->p w (aq ag ds)->q' w (aq true (cs.take off++ds++cs.drop (off+m)))) (hn:aO q'):
  OpOk P ops ms c V A G i ⟨none,.store T y z,ty,pos,aft,none⟩:=by
 refine eZ (λL β a w hI hd hwf=>?_) rfl
 have hv:=List.mem_of_getElem? hk
 obtain⟨hβ,cs,t,h1,h2,h3,h4⟩:=ql hI hd hv ho bR hst hc
 have hy:a.eval y=.pointer (some ⟨b,off,none⟩):=(h.spec hI hd).out
 have hval:=hz.spec hI hd
 obtain⟨ds,e1,hl,hcells,hu⟩:=hf w _ hval.out
 have hr':(execOp a.eval ⟨none,.store T y z,ty,pos,aft,none⟩).run P w=.ok .skip (w.setRow b (cs.take off++ds++cs.drop (off+m)).toArray):=by
  show(do Instr.storeAt T (a.eval y) (a.eval z); pure Next.skip).run P w=_
  rw[hy]
  have:=er (P:=P) (off:=off) ht h1 hcells hl (by omega) (λu dH=>(hu u dH).2)
  simp only[Sem.run_bind,this,Result.andThen_ok,Sem.run_pure]
 have hgx:β v.id b:=(hβ b).2 rfl
 have hlo:v.lo=0:=by unfold Vr.lo; rw[bR]
 have og:∀o,own c V L β b o:=λo=>.inr ⟨v,hv,hd.live ho,hgx,by rw[hlo]; exact Nat.zero_le _⟩
 have hU:Ext (own c V L β) w (w.setRow b (cs.take off++ds++cs.drop (off+m)).toArray):=⟨Nat.le_of_eq size_setRow.symm,λk hk hno=>ai λe'=>hno 0 (by rw[e']; exact og 0),λk o u hno dH=>by
  have ou:k≠b:=λe'=>hno (by rw[e']; exact og o)
  rw[World.cell?_of_block (w:=w) (a:=⟨k,o,none⟩) (ai ou)]; exact dH⟩
 have hnew:q' w (aq true (cs.take off++ds++cs.drop (off+m))):=hq w cs ds h2 hl h4 (by rw[<-e1]; exact hval.out)
 have Hf:∀u∈cs.take off++ds++cs.drop (off+m),dB u:=λu dH=>by
  rcases List.mem_append.1 dH with dH|dH
  ·rcases List.mem_append.1 dH with dH|dH
   ·exact h3 u (List.mem_of_mem_take dH)
   ·exact(hu u dH).1
  ·exact h3 u (List.mem_of_mem_drop dH)
 have hlt:b<w.heap.size:=(Array.getElem?_eq_some_iff.1 h1).1
 have hone:One b n q' (w.setRow b (cs.take off++ds++cs.drop (off+m)).toArray):=⟨_,t,setRow_heap w _ _ _ _ _ h1,by rw[List.length_append,List.length_append,List.length_take,List.length_drop]; omega,Hf,hn _ w _ (aF hI) hnew _ hU⟩
 unfold Does
 rw[hr']
 refine hI.uZ hwf rfl hv (hd.live ho) bR rfl hgx h1 Hf ?_ eE _
 rw[iQ mk hm hd hr]
 have fg:cS (own c V L β) (w.setRow b (cs.take off++ds++cs.drop (off+m)).toArray):=λk o hk=>by
  obtain⟨k1,k2⟩:=aF hI k o hk
  refine⟨by rw[size_setRow]; exact k1,λu dH=>?_⟩
  by_cases ou:k=b
  ·rw[ou]at dH; exact hone.qf o u dH
  ·rw[World.cell?_of_block (w:=w) (a:=⟨k,o,none⟩) (ai ou)]at dH
   exact k2 u dH
 exact(hone.box hgx hn fg).imp λw h=>⟨hβ,h⟩
theorem iE (len sz q:Nat) (h:Has ms G i x (aG (.pointer (some ⟨b,off,none⟩))):=by exact hs) (hy:Has ms G i y (pI (q:Int)):=by exact(Wx.hs).imp (bh (by omega))) (hq:q<len:=by omega) (hp:Post G i (aG (.pointer (some ⟨b,off+q*sz,none⟩))):=by exact pt rfl) (ht:DJ P T len sz=true:=by kernel_rfl) (hA:(A.all λq=>q.tag != some i)=true:=by kernel_rfl):
  OpOk P ops ms c V A G i ⟨some d,.indexAddr T x y,ty,pos,aft,none⟩:=
 bD rfl rfl rfl (.inr hA) hp λL β a w hI hd=>by
  have hx:a.eval x=.pointer (some ⟨b,off,none⟩):=(h.spec hI hd).out
  have hi:a.eval y=.int .i64 (q:Int):=(hy.spec hI hd).out
  refine⟨_,w,?_,Below.refl _ _,λ_ _=>rfl⟩
  show(do pure (Next.value (<-Instr.indexAt T (a.eval x) (a.eval y)))).run P w=_
  rw[hx,hi,Sem.run_bind,ko ht (by omega) (by omega) w]
  rfl
theorem fE {S f:Nat} (o:Nat) (h:Has ms G i x (aG (.pointer (some ⟨b,off,none⟩))):=by exact hs) (hp:Post G i (aG (.pointer (some ⟨b,off+o,none⟩))):=by exact pt rfl) (hf:∀b off w,(Instr.fieldAt S (.pointer (some ⟨b,off,none⟩)) f).run P w=.ok (.pointer (some ⟨b,off+o,none⟩)) w:=by exactλ_ _ _=>by kernel_rfl) (hA:(A.all λq=>q.tag != some i)=true:=by kernel_rfl):
  OpOk P ops ms c V A G i ⟨some d,.fieldAddr S x f,ty,pos,aft,none⟩:=
 bD rfl rfl rfl (.inr hA) hp λL β a w hI hd=>by
  have hx:a.eval x=.pointer (some ⟨b,off,none⟩):=(h.spec hI hd).out
  refine⟨_,w,?_,Below.refl _ _,λ_ _=>rfl⟩
  show(do pure (Next.value (<-Instr.fieldAt S (a.eval x) f))).run P w=_
  rw[hx,Sem.run_bind,hf]
  rfl
theorem nc (h:Has ms G i x (aG (.pointer (some ⟨b,off,none⟩))):=by exact hs) (hp:Post G i (aG (.pointer (some ⟨b,off,none⟩))):=by exact pt rfl):OpOk P ops ms c V A G i ⟨some d,.nilCheck x,ty,pos,aft,none⟩:=
 eL rfl rfl rfl rfl h hp λρ w h=>⟨.pointer (some ⟨b,off,none⟩),by
  have h:ρ x=.pointer (some ⟨b,off,none⟩):=h
  simp only[execOp,h]
  rfl,λ_ _=>rfl⟩
end
variable {V:List Vr} {N:Nat}
theorem vO {b n:Nat} {q q':Pred} (hq:∀w v,q w v->q' w v:=by exactλ_ _ h=>h) (h:ia N V=some (fk N b n q):=by exact rfl):∃r:Rel,ia (fk N b n q').id V=some ⟨(fk N b n q').id,(fk N b n q').slot,none,none,(fk N b n q').kd,(fk N b n q').T,(fk N b n q').n,(fk N b n q').agg,r,[]⟩/\((fk N b n q').born=none/\(fk N b n q').dead=none/\(fk N b n q').st=[])/\∀F w v,r F w v->(fk N b n q').c0 F w v:=
 ⟨_,h,⟨rfl,rfl,rfl⟩,λ_ _ _ h=>⟨h.1,h.2.imp hq⟩⟩
theorem vA {s:Nat} {R:Rel} (h:ia N V=some (cr N s R):=by exact rfl):∃r:Rel,ia (cr N s R).id V=some ⟨(cr N s R).id,(cr N s R).slot,none,none,(cr N s R).kd,(cr N s R).T,(cr N s R).n,(cr N s R).agg,r,[]⟩/\((cr N s R).born=none/\(cr N s R).dead=none/\(cr N s R).st=[])/\∀F w v,r F w v->(cr N s R).c0 F w v:=⟨_,h,⟨rfl,rfl,rfl⟩,λ_ _ _ h=>h⟩
section
variable {P:Program} {c:bQ} {V:List Vr} {G:List aN} {a:Act} {w:World} {x y z:Operand} {d:Nat} {ty:TypeId} {pos:String} {aft:Array Edge}
end
end Wx
