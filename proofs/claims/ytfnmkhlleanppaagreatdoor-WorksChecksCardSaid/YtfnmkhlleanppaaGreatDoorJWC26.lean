import Derived.MapKept
import Derived.Test.YtfnmkhlleanppaaGreatDoorJWC23
namespace Wx
open Go Go.RowKit Go.Proofs
set_option linter.unusedVariables false
def MV:List (ByteArray×Value)->List (ByteArray×Pred)->World->Prop
 |[],[],_=>True
 |x::q,y::ps,w=>(x.1=y.1/\y.2 w x.2)/\MV q ps w
 |_,_,_=>False
theorem MV.snoc:∀{q:List (ByteArray×Value)} {ps:List (ByteArray×Pred)} {w:World} {k:ByteArray} {v:Value} {p:Pred},MV q ps w->p w v->MV (q++[(k,v)]) (ps++[(k,p)]) w
 |[],[],_,_,_,_,_,h=>⟨⟨rfl,h⟩,trivial⟩
 |_::_,_::_,_,_,_,_,h,h2=>⟨h.1,MV.snoc h.2 h2⟩
 |[],_::_,_,_,_,_,h,_=>h.elim
 |_::_,[],_,_,_,_,h,_=>h.elim
def dY (k:ByteArray):List (ByteArray×Pred)->Option Pred
 |[]=>none
 |y::ps=>if y.1=k then some y.2 else dY k ps
def rE (x:ByteArray×Value):Value×Value:=(.string x.1,x.2)
def tL (ps:List (ByteArray×Pred)):Pred:=λw v=>∃(r:Nat) (es:Array MapEntry) (clock:Nat) (q:List (ByteArray×Value)),v=.map (some r)/\w.heap[r]?=some (.map es clock)/\es.toList.map (λe=>(e.key,e.val))=q.map rE/\MV q ps w
theorem zN (a b:ByteArray):Instr.sameNow .string (.string a) (.string b)=some (decide (a=b)):=by
 show some (a==b)=_
 congr 1
 by_cases e:a=b
 ·rw[decide_eq_true e]; exact(MapKept.bytes_beq a b).2 e
 ·rw[decide_eq_false e]
  cases h:a==b
  ·rfl
  ·exact absurd ((MapKept.bytes_beq a b).1 h) e
def zA (ps:List (ByteArray×Pred)) (k:ByteArray) (z:Value):Pred:=dF ((dY k ps).getD (aG z)) (pB (dY k ps).isSome)
def EV (P:Program) (T:TypeId):Option (TypeId×TypeId):=match P.underlying T with
 |some (.map K E)=>match P.underlying K with
  |some .string=>some (K,E)
  |_=>none
 |_=>none
theorem yS {P:Program} {T K E:TypeId} (h:EV P T=some (K,E)):P.underlying T=some (.map K E)/\P.underlying K=some .string:=by
 unfold EV at h
 split at h
 ·rename_i h1
  split at h
  ·rename_i h2
   injection h with h
   injection h with e1 e2
   subst e1 e2
   exact⟨h1,h2⟩
  ·cases h
 ·cases h
section
variable {P:Program} {ops:Array Oper} {ms:List Nat} {c:bQ} {V:List Vr} {A:List Al} {G:List aN} {i d:Nat} {x y:Operand} {ty:TypeId} {pos:String} {aft:Array Edge} {a:Act} {w:World}
theorem rF:∀{q q':List (ByteArray×Value)},q.map rE=q'.map rE->q=q'
 |[],[],_=>rfl
 |x::q,y::q',h=>by
  rw[List.map_cons,List.map_cons]at h
  injection h with h1 h2
  have e1:Value.string x.1=.string y.1:=congrArg Prod.fst h1
  have e2:(rE x).2=(rE y).2:=congrArg Prod.snd h1
  injection e1 with e1
  rw[rF h2,show x=y from Prod.ext e1 e2]
 |[],_::_,h=>by cases h
 |_::_,[],h=>by cases h
variable {M:Nat->Nat->Prop} {ps:List (ByteArray×Pred)}
theorem BH {w:World} {v:Value} (h:aJ M (λw=>tL ps w v) w):∃(r:Nat) (es:Array MapEntry) (clock:Nat) (q:List (ByteArray×Value)),v=.map (some r)/\w.heap[r]?=some (.map es clock)/\es.toList.map (λe=>(e.key,e.val))=q.map rE/\aJ M (MV q ps) w:=by
 obtain⟨r,es,clock,q,rfl,hb,hq,hm⟩:=h.out
 have hlt:r<w.heap.size:=(Array.getElem?_eq_some_iff.1 hb).1
 have hno:∀o,¬M r o:=λo ho=>by
  have he:Ext M w (w.putObj r (.deferred none)):=⟨by rw[World.putObj_size]; exact Nat.le_refl _,λk _ hn=>World.putObj_heap_other λe=>hn o (e▸ho),λk o v _ hc=>by
   have hk:k≠r:=λe=>by
    subst e
    exact absurd hc (dy hb rfl v)
   rw[World.cell?_of_block (w:=w) (a:=⟨k,o,none⟩) (World.putObj_heap_other hk)]; exact hc⟩
  obtain⟨r',es',clock',q',e1,e2,_⟩:=h _ he
  injection e1 with e1
  injection e1 with e1
  subst e1
  rw[World.putObj_heap_same hlt]at e2
  cases e2
 refine⟨r,es,clock,q,rfl,hb,hq,λw' he=>?_⟩
 obtain⟨r',es',clock',q',e1,e2,e3,e4⟩:=h w' he
 injection e1 with e1
 injection e1 with e1
 subst e1
 rw[he.block r hlt hno,hb]at e2
 injection e2 with e2
 injection e2 with e2
 subst e2
 rw[hq]at e3
 rw[rF e3]
 exact e4
theorem kJ {k:ByteArray} {w:World} {M:Nat->Nat->Prop}:∀{es:List MapEntry} {q:List (ByteArray×Value)} {ps:List (ByteArray×Pred)} (i:Nat),es.map (λe=>(e.key,e.val))=q.map rE->aJ M (MV q ps) w ->
  (dY k ps=none/\Instr.findNow .string (.string k) es i=some none)\/∃p j v,dY k ps=some p/\Instr.findNow .string (.string k) es i=some (some (j,v))/\aJ M (λw=>p w v) w
 |[],[],[],_,_,_=>.inl ⟨rfl,rfl⟩
 |e::es,x::q,y::ps,i,h,hm=>by
  rw[List.map_cons,List.map_cons]at h
  injection h with h1 h2
  have hk:e.key=.string x.1:=congrArg Prod.fst h1
  have hv:e.val=x.2:=congrArg Prod.snd h1
  have hs:Instr.sameNow .string (.string k) e.key=some (decide (k=x.1)):=by rw[hk]; exact zN _ _
  have td:x.1=y.1:=hm.out.1.1
  by_cases hx:y.1=k
  ·refine .inr ⟨y.2,i,e.val,if_pos hx,?_,λw' he=>by rw[hv]; exact(hm w' he).1.2⟩
   unfold Instr.findNow
   rw[hs,decide_eq_true (by rw[td,hx])]
  ·have hf:Instr.findNow .string (.string k) (e::es) i=Instr.findNow .string (.string k) es (i+1):=by
    conv=>lhs; unfold Instr.findNow
    rw[hs,decide_eq_false (by rw[td]; exactλe=>hx e.symm)]
   rw[hf,show dY k (y::ps)=dY k ps from if_neg hx]
   exact kJ (i+1) h2 λw' he=>(hm w' he).2
 |[],[],_::_,_,_,hm=>hm.out.elim
 |[],_::_,_,_,h,_=>by cases h
 |_::_,[],_,_,h,_=>by cases h
 |_::_,_::_,[],_,_,hm=>hm.out.elim
variable {T K E:TypeId} {r:Nat} {k:ByteArray}
theorem zK {es:Array MapEntry} {clock:Nat} {z:Value} (ht:EV P T=some (K,E)) (hz:∀w,(zeroValue E).run P w=.ok z w) (hb:w.heap[r]?=some (.map es clock)):
  (Instr.findNow .string (.string k) es.toList 0=some none->(Instr.lookup T (.map (some r)) (.string k) true).run P w=.ok (.tuple #[z,.bool false]) w)/\∀j v,Instr.findNow .string (.string k) es.toList 0=some (some (j,v))->(Instr.lookup T (.map (some r)) (.string k) true).run P w=.ok (.tuple #[v,.bool true]) w:=by
 obtain⟨hT,hK⟩:=yS ht
 constructor
 ·intro hu
  unfold Instr.lookup
  simp only[Sem.run_bind,run_underlying hT,Result.andThen_ok,MapKept.run_getObj_map hb,Sem.run_pure,MapKept.run_checkKey hK (show MapKept.IsKey .string (.string k)from trivial),MapKept.run_findKey hK hu,hz,if_true]
 ·intro j v hu
  unfold Instr.lookup
  simp only[Sem.run_bind,run_underlying hT,Result.andThen_ok,MapKept.run_getObj_map hb,Sem.run_pure,MapKept.run_checkKey hK (show MapKept.IsKey .string (.string k)from trivial),MapKept.run_findKey hK hu,if_true]
theorem Lq (z:Value) (ht:EV P T=some (K,E):=by kernel_rfl) (hz:∀w,(zeroValue E).run P w=.ok z w:=by exactλ_=>by kernel_rfl) (h1:Has ms G i x (tL ps):=by exact hs) (h2:Has ms G i y (pT k):=by exact hs) (hp:Post G i (zA ps k z):=by exact pt rfl):
  OpOk P ops ms c V A G i ⟨some d,.lookup T x y true,ty,pos,aft,none⟩:=
 bD rfl rfl rfl (.inl rfl) hp λL β a w hI hd=>by
  obtain⟨r,es,clock,q,ex,hb,hq,G8⟩:=BH (h1.spec hI hd)
  have ey:a.eval y=.string k:=(h2.spec hI hd).out
  obtain⟨k1,k2⟩:=zK (k:=k) ht hz hb
  rcases kJ (k:=k) 0 hq G8 with⟨h3,h4⟩|⟨p,j,v,h3,h4,h5⟩
  ·refine⟨_,w,?_,Below.refl _ _,λw' he=>⟨z,.bool false,rfl,by rw[h3]; exact rfl,by rw[h3]; exact rfl⟩⟩
   show(do pure (Next.value (<-Instr.lookup T (a.eval x) (a.eval y) true))).run P w=_
   rw[ex,ey,Sem.run_bind,k1 h4]
   rfl
  ·refine⟨_,w,?_,Below.refl _ _,λw' he=>⟨v,.bool true,rfl,by rw[h3]; exact h5 w' he,by rw[h3]; exact rfl⟩⟩
   show(do pure (Next.value (<-Instr.lookup T (a.eval x) (a.eval y) true))).run P w=_
   rw[ex,ey,Sem.run_bind,k2 j v h4]
   rfl
variable {p:Pred}
theorem Kj (K E:TypeId) (z:Value) (hl:dY k ps=some p) (ht:EV P T=some (K,E):=by kernel_rfl) (hz:∀w,(zeroValue E).run P w=.ok z w:=by exactλ_=>by kernel_rfl) (h1:Has ms G i x (tL ps):=by exact hs) (h2:Has ms G i y (pT k):=by exact hs) (hp:Post G i (dF p (pB true)):=by exact pt rfl):
  OpOk P ops ms c V A G i ⟨some d,.lookup T x y true,ty,pos,aft,none⟩:=Lq z ht hz h1 h2 (by unfold zA; rw[hl]; exact hp)
theorem MY (K E:TypeId) (z:Value) (hl:dY k ps=none) (ht:EV P T=some (K,E):=by kernel_rfl) (hz:∀w,(zeroValue E).run P w=.ok z w:=by exactλ_=>by kernel_rfl) (h1:Has ms G i x (tL ps):=by exact hs) (h2:Has ms G i y (pT k):=by exact hs) (hp:Post G i (dF (aG z) (pB false)):=by exact pt rfl):
  OpOk P ops ms c V A G i ⟨some d,.lookup T x y true,ty,pos,aft,none⟩:=Lq z ht hz h1 h2 (by unfold zA; rw[hl]; exact hp)
def tw (r:Nat) (q:List (ByteArray×Value)):(Nat->Prop)->World->Prop:=λB w=>(∀k,B k↔k=r)/\∃(es:Array MapEntry) (clock:Nat),w.heap[r]?=some (.map es clock)/\es.toList.map (λe=>(e.key,e.val))=q.map rE
abbrev EU (id r:Nat) (q:List (ByteArray×Value)):Vr:=cr id id λB w _=>tw r q B w
def Lt (r:Nat) (q:List (ByteArray×Value)) (ps:List (ByteArray×Pred)):Pred:=λw v=>v=.map (some r)/\MV q ps w
abbrev ET (c:bQ) (V:List Vr) (G:List aN) (d:Nat) (ps:List (ByteArray×Pred)) (x:Nat×List (ByteArray×Value)):Act->World->Prop:=Inv c (EU d x.1 x.2::V) [] (⟨none,none,d,Lt x.1 x.2 ps⟩::G) none_
theorem rP {B:Nat->Prop} {q:List (ByteArray×Value)} {w:World} (hB:B r) (h:tw r q B w):aJ (minus M B) (tw r q B) w:=λw' he=>by
 obtain⟨h1,es,clock,h2,h3⟩:=h
 exact⟨h1,es,clock,(he.block r (Array.getElem?_eq_some_iff.1 h2).1 λo ho=>ho.2 hB).trans h2,h3⟩
theorem aQ.sD {β:Nat->Nat->Prop} {G':List aN} (h:aQ c V [] G none_ β a w) (hE:∀e,e∈G'->on none_ e.tag=true->off none_ e.till=true->aJ (own c V none_ β) (λw=>e.p w (sl a e.slot)) w):aQ c V [] G' none_ β a w:=
 ⟨h.size,h.defers,h.below,h.old,h.var,h.apart,(λp hp=>by cases hp),λe he ho hf=>hE e he ho hf⟩
theorem ji {k:ByteArray}:∀{ps:List (ByteArray×Pred)},(ps.all λx=>decide (x.1≠k))=true->dY k ps=none
 |[],_=>rfl
 |y::ps,h=>by
  rw[List.all_cons,Bool.and_eq_true,decide_eq_true_eq]at h
  exact(if_neg h.1).trans (ji h.2)
theorem Lr (hd:decide (d<c.N)=true:=by kernel_rfl) (hV:(V.all λy=>(y.slot != d&&y.id != d)&&(y.born.isNone&&y.dead.isNone))=true:=by kernel_rfl) (hG:(G.all λe=>e.slot != d)=true:=by kernel_rfl):∀a w,Inv c V [] G none_ a w ->
  aW P ops ⟨some d,.makeMap T none,ty,pos,aft,none⟩ a w (λa w=>∃x,ET c V G d [] x a w):=λa w ⟨β,hI⟩=>by
 have hb:Below w.heap.size w (w.alloc (.map #[] 0)):=Below.alloc (Below.refl _ _) (Nat.le_refl _) _
 have hnew:(w.alloc (.map #[] 0)).heap[w.heap.size]?=some (.map #[] 0):=World.alloc_heap_new _ _
 have hsz:w.heap.size<(w.alloc (.map #[] 0)).heap.size:=(Array.getElem?_eq_some_iff.1 hnew).1
 refine .of rfl (cU (v:=.map (some w.heap.size)) (w':=w.alloc (.map #[] 0)) rfl ⟨(w.heap.size,[]),?_⟩)
 obtain⟨β',h⟩:=hI.xm (b:=w.heap.size) (R:=tw w.heap.size []) (v:=.map (some w.heap.size)) hb (Nat.le_refl _) hsz (λo u hu=>absurd hu (dy hnew rfl u)) (λM _=>rP rfl ⟨λ_=>Iff.rfl,#[],0,hnew,rfl⟩) (of_decide_eq_true hd) hV hG
 refine⟨β',h.sD λe he ho hf=>?_⟩
 rcases List.mem_cons.1 he with rfl|he
 ·exact(h.ew _ List.mem_cons_self rfl rfl).imp λw (e:_=_)=>⟨e,trivial⟩
 ·exact h.ew e (List.mem_cons_of_mem _ he) ho hf
theorem gp (key:ByteArray) (ht:(EV P T).isSome=true:=by kernel_rfl) (hy:Has [0] G 0 y p:=by exact hs) (hn:(ps.all λx=>decide (x.1≠key))=true:=by kernel_rfl) (hV:bE V=true:=by kernel_rfl) (hG:bT G=true:=by kernel_rfl) (hu:(V.all λy=>y.id != d)=true:=by kernel_rfl) (Jt:(G.all λe=>e.slot != d)=true:=by kernel_rfl):
  ∀x a w,ET c V G d ps x a w->aW P ops ⟨none,.insert T (.tmp d) (.const (.string key)) y,ty,pos,aft,none⟩ a w (λa w=>∃x,ET c V G d (ps++[(key,p)]) x a w):=λ⟨r,q⟩ a w ⟨β,hI⟩=>by
 obtain⟨⟨K,E⟩,ht⟩:=Option.isSome_iff_exists.1 ht
 obtain⟨hT,hK⟩:=yS ht
 have hent:=hI.ew _ List.mem_cons_self rfl rfl
 obtain⟨IC,G8⟩:=hent.out
 have IC:sl a d=.map (some r):=IC
 have hO:=(aB rfl).1 (hI.var _ List.mem_cons_self rfl)
 obtain⟨h1,es,clock,h2,h3⟩:tw r q (β d) w:=hO.2.out
 have hlt:r<w.heap.size:=(Array.getElem?_eq_some_iff.1 h2).1
 have hfind:Instr.findNow .string (.string key) es.toList 0=some none:=by
  rcases kJ (k:=key) 0 h3 (hent.imp λ_ h=>h.2)with⟨_,h4⟩|⟨p,j,v,h4,_⟩
  ·exact h4
  ·rw[ji hn]at h4; cases h4
 have hrun:(Instr.mapUpdate T (.map (some r)) (.string key) (a.eval y)).run P w=.ok () (w.putObj r (.map (es.push ⟨.string key,a.eval y,clock⟩) (clock+1))):=by
  unfold Instr.mapUpdate
  simp only[Sem.run_bind,run_underlying hT,Result.andThen_ok,MapKept.run_getObj_map h2,MapKept.run_checkKey hK (show MapKept.IsKey .string (.string key)from trivial),MapKept.run_findKey hK hfind,MapKept.run_setObj_map _ h2]
  rfl
 have hnew:(w.putObj r (.map (es.push ⟨.string key,a.eval y,clock⟩) (clock+1))).heap[r]?=some (.map (es.push ⟨.string key,a.eval y,clock⟩) (clock+1)):=World.putObj_heap_same hlt
 have hB:β d r:=(h1 r).2 rfl
 have ry:=hI.move (n0:=0) (B':=β d) (R':=λB w _=>tw r (q++[(key,a.eval y)]) B w) (w':=w.putObj r (.map (es.push ⟨.string key,a.eval y,clock⟩) (clock+1))) (by show((true&&(true&&true))&&bE V)=true; rw[hV]; rfl) (by show((true&&true)&&bT G)=true; rw[hG]; rfl) rfl (λz n hz he=>by
   cases n with
   |zero=>rfl
   |succ n=>
    have:=List.all_eq_true.1 hu z (List.mem_of_getElem? hz)
    simp only[bne_iff_ne]at this
    exact absurd he this) (iF _ hB) (λk hk=>.inl hk) (λk hk=>by
   have e:=(h1 k).1 hk
   subst e
   exact⟨by rw[World.putObj_size]; exact hlt,λo v hv=>absurd hv (dy hnew rfl v)⟩)
  (rP hB ⟨h1,_,_,hnew,by rw[Array.toList_push,List.map_append,List.map_append,h3]; rfl⟩)
 have L6:aQ c _ [] G none_ _ a _:=ry.sD λe he ho hf=>ry.ew e (List.mem_cons_of_mem _ he) ho hf
 have hp:=hy.spec L6 gl
 have hr':(execOp a.eval ⟨none,.insert T (.tmp d) (.const (.string key)) y,ty,pos,aft,none⟩).run P w=.ok .skip (w.putObj r (.map (es.push ⟨.string key,a.eval y,clock⟩) (clock+1))):=by
  show(do Instr.mapUpdate T (a.eval (.tmp d)) (.string key) (a.eval y); pure Next.skip).run P w=_
  rw[show a.eval (.tmp d)=.map (some r)from IC,Sem.run_bind,hrun]
  rfl
 refine .of rfl ?_
 unfold Does
 rw[hr']
 refine⟨(r,q++[(key,a.eval y)]),_,ry.sD λe he ho hf=>?_⟩
 rcases List.mem_cons.1 he with rfl|he
 ·intro w'' hx
  exact⟨IC,(((ry.ew _ List.mem_cons_self rfl rfl) w'' hx).2).snoc (hp w'' hx)⟩
 ·exact ry.ew e (List.mem_cons_of_mem _ he) ho hf
end
end Wx

namespace Wx
open Go Go.RowKit Go.Proofs
set_option linter.unusedVariables false
abbrev dJ (p1 p2:Pred):Pred:=pS [⟨false,1,p1⟩,⟨false,1,p2⟩]
def Dq:Pred:=λ_ v=>∃f cs,v=.func (.func f) #[] cs
theorem mS (f:Fn) (a b:Array Value):dB (.func f a b):=λ_=>⟨(by simp),by simp⟩
theorem lR:Fits 1 false Dq:=by
 rintro w v ⟨f,cs,rfl⟩
 exact⟨[_],rfl,rfl,rfl,λu hu=>by simp at hu; subst hu; exact⟨mS _ _ _,rfl⟩⟩
theorem aX {P:Program} {C:FuncId->Prop}:Fits 1 false (wA P C):=by
 rintro w v ⟨f,rfl,_⟩
 exact⟨[_],rfl,rfl,rfl,λu hu=>by simp at hu; subst hu; exact⟨mS _ _ _,rfl⟩⟩
theorem br (f:FuncId):Fits 1 false (aG (.func (.func f) #[] #[])):=cg (mS _ _ _) rfl rfl
theorem GM (f:FuncId):∀w v,aG (.func (.func f) #[] #[]) w v->Dq w v:=λ_ _ h=>⟨f,#[],h⟩
section
variable {P:Program} {ops:Array Oper} {ms:List Nat} {c:bQ} {V:List Vr} {A:List Al} {G:List aN} {i d:Nat} {x y z:Operand} {ty:TypeId} {pos:String} {aft:Array Edge} {a:Act} {w:World}{T:TypeId} {p1 p2 q1 q2:Pred}
theorem nE (z1 z2:Value) (f1:Fits 1 false p1) (f2:Fits 1 false p2) (h1:Has ms G i x q1:=by exact hs) (c1:∀w v,q1 w v->p1 w v:=by exact jw) (h2:Has ms G i y q2:=by exact hs) (c2:∀w v,q2 w v->p2 w v:=by exact jw) (hp:Post G i (dJ p1 p2):=by exact pt rfl) (ht:oO P T #[(0,1),(1,1)] [z1,z2]:=by exactλ_=>by kernel_rfl):
  OpOk P ops ms c V A G i ⟨some d,.build T #[(0,x),(1,y)],ty,pos,aft,none⟩:=
 rU (fs:=[⟨false,1,aT⟩,⟨false,1,aT⟩]) (ps:=[(0,p1),(1,p2)]) (gs:=[⟨false,1,p1⟩,⟨false,1,p2⟩]) ht (oF (by kernel_rfl)) (λw=>⟨by simp,trivial,by simp,trivial,rfl⟩) (show bZ ms G i _ [(0,x),(1,y)] _ from⟨⟨rfl,h1.imp c1,_,rfl,f1⟩,⟨rfl,h2.imp c2,_,rfl,f2⟩,trivial⟩) rfl hp
theorem DL {p q:Pred} (E:TypeId) (z:Value) (hf:Fits 1 false p) (ht:iZ P T E 1:=by exact⟨by kernel_rfl,λ_=>by kernel_rfl⟩) (pM:∀w,(zeroValue E).run P w=.ok z w:=by exactλ_=>by kernel_rfl) (nO:z.cells=#[z]:=by exact rfl) (h1:Has ms G i x q:=by exact hs) (c1:∀w v,q w v->p w v:=by exact jw) (hp:Post G i (aI 1 false 1 λk=>[p].getD k aT):=by exact pt rfl):
  OpOk P ops ms c V A G i ⟨some d,.buildSlice T 1 #[(0,x)],ty,pos,aft,none⟩:=Gi E z ht pM nO hf (h1.imp c1) (hp.down (iN λk hk w v h=>by rw[show k=0 by omega]; exact h))
theorem mw (E:TypeId) (z0:Value) (f1:Fits 1 false p1) (f2:Fits 1 false p2) (ht:iZ P T E 1:=by exact⟨by kernel_rfl,λ_=>by kernel_rfl⟩) (pM:∀w,(zeroValue E).run P w=.ok z0 w:=by exactλ_=>by kernel_rfl) (nO:z0.cells=[z0].toArray:=by exact rfl) (h1:Has ms G i x q1:=by exact hs) (c1:∀w v,q1 w v->p1 w v:=by exact jw) (h2:Has ms G i y q2:=by exact hs) (c2:∀w v,q2 w v->p2 w v:=by exact jw) (hp:Post G i (aI 1 false 2 λk=>[p1,p2].getD k aT):=by exact pt rfl):
  OpOk P ops ms c V A G i ⟨some d,.buildSlice T 2 #[(0,x),(1,y)],ty,pos,aft,none⟩:=
 dL (z:=[z0]) (fs:=[⟨false,1,aT⟩,⟨false,1,aT⟩]) (ps:=[(0,p1),(1,p2)]) (gs:=[⟨false,1,p1⟩,⟨false,1,p2⟩]) (p:=aT) ht pM nO rfl (by decide) (λ_=>trivial) rfl
  (show bZ ms G i [⟨false,1,aT⟩,⟨false,1,aT⟩] [(0,x),(1,y)] [(0,p1),(1,p2)]from⟨⟨rfl,h1.imp c1,_,rfl,f1⟩,⟨rfl,h2.imp c2,_,rfl,f2⟩,trivial⟩) rfl (λk=>[p1,p2].getD k aT) (λk f h=>by
   match k,h with
   |0,h=>simp at h; rw[<-h]; rfl
   |1,h=>simp at h; rw[<-h]; rfl
   |k+2,h=>simp at h) hp
theorem xu {p3 q3:Pred} (E:TypeId) (z0:Value) (f1:Fits 1 false p1) (f2:Fits 1 false p2) (f3:Fits 1 false p3) (ht:iZ P T E 1:=by exact⟨by kernel_rfl,λ_=>by kernel_rfl⟩) (pM:∀w,(zeroValue E).run P w=.ok z0 w:=by exactλ_=>by kernel_rfl) (nO:z0.cells=[z0].toArray:=by exact rfl) (h1:Has ms G i x q1:=by exact hs) (c1:∀w v,q1 w v->p1 w v:=by exact jw) (h2:Has ms G i y q2:=by exact hs) (c2:∀w v,q2 w v->p2 w v:=by exact jw) (h3:Has ms G i z q3:=by exact hs) (c3:∀w v,q3 w v->p3 w v:=by exact jw) (hp:Post G i (aI 1 false 3 λk=>[p1,p2,p3].getD k aT):=by exact pt rfl):
  OpOk P ops ms c V A G i ⟨some d,.buildSlice T 3 #[(0,x),(1,y),(2,z)],ty,pos,aft,none⟩:=
 dL (z:=[z0]) (fs:=[⟨false,1,aT⟩,⟨false,1,aT⟩,⟨false,1,aT⟩]) (ps:=[(0,p1),(1,p2),(2,p3)]) (gs:=[⟨false,1,p1⟩,⟨false,1,p2⟩,⟨false,1,p3⟩]) (p:=aT) ht pM nO rfl (by decide) (λ_=>trivial) rfl
  (show bZ ms G i [⟨false,1,aT⟩,⟨false,1,aT⟩,⟨false,1,aT⟩] [(0,x),(1,y),(2,z)] [(0,p1),(1,p2),(2,p3)]from⟨⟨rfl,h1.imp c1,_,rfl,f1⟩,⟨rfl,h2.imp c2,_,rfl,f2⟩,⟨rfl,h3.imp c3,_,rfl,f3⟩,trivial⟩) rfl (λk=>[p1,p2,p3].getD k aT) (λk f h=>by
   match k,h with
   |0,h=>simp at h; rw[<-h]; rfl
   |1,h=>simp at h; rw[<-h]; rfl
   |2,h=>simp at h; rw[<-h]; rfl
   |k+3,h=>simp at h) hp
variable {α:Type} {o:Oper} {K:α->Act->World->Prop}
theorem cK {K1:α->Act->World->Prop} (h:∀x,∀a w,K x a w->aW P ops o a w (K1 x)):∀a w,(∃x,K x a w)->aW P ops o a w (λa w=>∃x,K1 x a w):=λa w ⟨x,hx⟩=>(h x a w hx).mono λa w h=>⟨x,h⟩
theorem nJ {K1:Act->World->Prop} (h:∀x,∀a w,K x a w->aW P ops o a w K1):∀a w,(∃x,K x a w)->aW P ops o a w K1:=λa w ⟨x,hx⟩=>h x a w hx
theorem xG {fn:Func} {N s:Nat} {w0:World} {M:Nat->Nat->Prop} {F:Nat->Prop} {ps:List (ByteArray×Pred)} {u:Nat×List (ByteArray×Value)} (hI:Inv ⟨N,w0,M,F⟩ (EU d u.1 u.2::V) [] G none_ a w) (hr:fn.results=#[.tmp s]) (h:dz s G=some (Lt u.1 u.2 ps)) (hF:∀k,¬F k):bodyPost P fn (cI M (tL ps) w0) .ret a w:=by
 obtain⟨β,hI⟩:=hI
 obtain⟨k,hk⟩:=cx h
 have hent:=hI.ew _ (List.mem_of_getElem? hk) rfl rfl
 have hO:=(aB rfl).1 (hI.var _ List.mem_cons_self rfl)
 obtain⟨h1,es,clock,h2,h3⟩:tw u.1 u.2 (β d) w:=hO.2.out
 have hB:β d u.1:=(h1 _).2 rfl
 have hm:=(hO.1 _ hB).1
 have hlt:u.1<w.heap.size:=(Array.getElem?_eq_some_iff.1 h2).1
 refine fU hI (v:=sl a s) (by rw[cu,hr]; simp[jq,sl]) ⟨_,rfl,λw' he=>?_,hI.below.below hF⟩
 have he':Ext (own ⟨N,w0,M,F⟩ (EU d u.1 u.2::V) none_ β) w w':=he.mono' λk o hk=>.inl hk
 obtain⟨e1,e2⟩:=hent w' he'
 exact⟨u.1,es,clock,u.2,e1,(he.block _ hlt λo=>eX hI hm).trans h2,h3,e2⟩
end
end Wx
