import Derived.MapKept
import Derived.Test.YtfnmkhlleanppaaGreatDoorJWN24
namespace Wx
open Go Go.RowKit Go.Proofs
set_option linter.unusedVariables false
def MV:List (ByteArray×Value)->List (ByteArray×Pred)->World->Prop
 |[],[],_=>True
 |x::q,y::ps,w=>(x.1=y.1/\y.2 w x.2)/\MV q ps w
 |_,_,_=>False
theorem MV.snoc:∀{q:List (ByteArray×Value)} {ps:List (ByteArray×Pred)} {w:World} {k:ByteArray} {v:Value} {p:Pred},MV q ps w->p w v->MV (q++[(k,v)]) (ps++[(k,p)]) w
 |[],[],_,_,_,_,_,h=>⟨⟨rfl,h⟩,trivial⟩
 |_::_,_::_,_,_,_,_,h,h2=>⟨h.1,MV.snoc h.2 h2⟩
 |[],_::_,_,_,_,_,h,_=>h.elim
 |_::_,[],_,_,_,_,h,_=>h.elim
def cM (k:ByteArray):List (ByteArray×Pred)->Option Pred
 |[]=>none
 |y::ps=>if y.1=k then some y.2 else cM k ps
def mH (x:ByteArray×Value):Value×Value:=(.string x.1,x.2)
def oz (ps:List (ByteArray×Pred)):Pred:=λw v=>∃(r:Nat) (es:Array MapEntry) (clock:Nat) (q:List (ByteArray×Value)),v=.map (some r)/\w.heap[r]?=some (.map es clock)/\es.toList.map (λe=>(e.key,e.val))=q.map mH/\MV q ps w
theorem tw (a b:ByteArray):Instr.sameNow .string (.string a) (.string b)=some (decide (a=b)):=by
 show some (a==b)=_
 congr 1
 by_cases e:a=b
 ·rw[decide_eq_true e]; exact(MapKept.bytes_beq a b).2 e
 ·rw[decide_eq_false e]
  cases h:a==b
  ·rfl
  ·exact absurd ((MapKept.bytes_beq a b).1 h) e
def tc (ps:List (ByteArray×Pred)) (k:ByteArray) (z:Value):Pred:=cG ((cM k ps).getD (aE z)) (pB (cM k ps).isSome)
def xX (P:Program) (T:TypeId):Option (TypeId×TypeId):=match P.underlying T with
 |some (.map K E)=>match P.underlying K with
  |some .string=>some (K,E)
  |_=>none
 |_=>none
theorem sE {P:Program} {T K E:TypeId} (h:xX P T=some (K,E)):P.underlying T=some (.map K E)/\P.underlying K=some .string:=by
 unfold xX at h
 split at h
 ·rename_i h1
  split at h
  ·rename_i h2
   injection h with h
   injection h with e1 e2
   subst e1 e2
   exact⟨h1,h2⟩
  ·cases h
 ·cases h
section
variable {P:Program} {ops:Array Oper} {ms:List Nat} {c:bD} {V:List Vr} {A:List Al} {G:List aD} {i d:Nat} {x y:Operand} {ty:TypeId} {pos:String} {aj:Array Edge} {a:Act} {w:World}
theorem mI:∀{q q':List (ByteArray×Value)},q.map mH=q'.map mH->q=q'
 |[],[],_=>rfl
 |x::q,y::q',h=>by
  rw[List.map_cons,List.map_cons]at h
  injection h with h1 h2
  have e1:Value.string x.1=.string y.1:=congrArg Prod.fst h1
  have e2:(mH x).2=(mH y).2:=congrArg Prod.snd h1
  injection e1 with e1
  rw[mI h2,show x=y from Prod.ext e1 e2]
 |[],_::_,h=>by cases h
 |_::_,[],h=>by cases h
variable {M:Nat->Nat->Prop} {ps:List (ByteArray×Pred)}
theorem uO {w:World} {v:Value} (h:aL M (λw=>oz ps w v) w):∃(r:Nat) (es:Array MapEntry) (clock:Nat) (q:List (ByteArray×Value)),v=.map (some r)/\w.heap[r]?=some (.map es clock)/\es.toList.map (λe=>(e.key,e.val))=q.map mH/\aL M (MV q ps) w:=by
 obtain⟨r,es,clock,q,rfl,hb,hq,hm⟩:=h.out
 have hlt:r<w.heap.size:=(Array.getElem?_eq_some_iff.1 hb).1
 have hno:∀o,¬M r o:=λo ho=>by
  have he:Ext M w (w.putObj r (.deferred none)):=⟨by rw[World.putObj_size]; exact Nat.le_refl _,λk _ hn=>World.putObj_heap_other λe=>hn o (e▸ho),λk o v _ hc=>by
   have hk:k≠r:=λe=>by
    subst e
    exact absurd hc (ie hb rfl v)
   rw[World.cell?_of_block (w:=w) (a:=⟨k,o,none⟩) (World.putObj_heap_other hk)]; exact hc⟩
  obtain⟨r',es',clock',q',e1,e2,_⟩:=h _ he
  injection e1 with e1
  injection e1 with e1
  subst e1
  rw[World.putObj_heap_same hlt]at e2
  cases e2
 refine⟨r,es,clock,q,rfl,hb,hq,λw' he=>?_⟩
 obtain⟨r',es',clock',q',e1,e2,e3,e4⟩:=h w' he
 injection e1 with e1
 injection e1 with e1
 subst e1
 rw[he.block r hlt hno,hb]at e2
 injection e2 with e2
 injection e2 with e2
 subst e2
 rw[hq]at e3
 rw[mI e3]
 exact e4
theorem ij {k:ByteArray} {w:World} {M:Nat->Nat->Prop}:∀{es:List MapEntry} {q:List (ByteArray×Value)} {ps:List (ByteArray×Pred)} (i:Nat),es.map (λe=>(e.key,e.val))=q.map mH->aL M (MV q ps) w ->
  (cM k ps=none/\Instr.findNow .string (.string k) es i=some none)\/∃p j v,cM k ps=some p/\Instr.findNow .string (.string k) es i=some (some (j,v))/\aL M (λw=>p w v) w
 |[],[],[],_,_,_=>.inl ⟨rfl,rfl⟩
 |e::es,x::q,y::ps,i,h,hm=>by
  rw[List.map_cons,List.map_cons]at h
  injection h with h1 h2
  have hk:e.key=.string x.1:=congrArg Prod.fst h1
  have hv:e.val=x.2:=congrArg Prod.snd h1
  have hs:Instr.sameNow .string (.string k) e.key=some (decide (k=x.1)):=by rw[hk]; exact tw _ _
  have BW:x.1=y.1:=hm.out.1.1
  by_cases hx:y.1=k
  ·refine .inr ⟨y.2,i,e.val,if_pos hx,?_,λw' he=>by rw[hv]; exact(hm w' he).1.2⟩
   unfold Instr.findNow
   rw[hs,decide_eq_true (by rw[BW,hx])]
  ·have hf:Instr.findNow .string (.string k) (e::es) i=Instr.findNow .string (.string k) es (i+1):=by
    conv=>lhs; unfold Instr.findNow
    rw[hs,decide_eq_false (by rw[BW]; exactλe=>hx e.symm)]
   rw[hf,show cM k (y::ps)=cM k ps from if_neg hx]
   exact ij (i+1) h2 λw' he=>(hm w' he).2
 |[],[],_::_,_,_,hm=>hm.out.elim
 |[],_::_,_,_,h,_=>by cases h
 |_::_,[],_,_,h,_=>by cases h
 |_::_,_::_,[],_,_,hm=>hm.out.elim
variable {T K E:TypeId} {r:Nat} {k:ByteArray}
theorem tv {es:Array MapEntry} {clock:Nat} {z:Value} (ht:xX P T=some (K,E)) (hz:∀w,(zeroValue E).run P w=.ok z w) (hb:w.heap[r]?=some (.map es clock)):
  (Instr.findNow .string (.string k) es.toList 0=some none->(Instr.lookup T (.map (some r)) (.string k) true).run P w=.ok (.tuple #[z,.bool false]) w)/\∀j v,Instr.findNow .string (.string k) es.toList 0=some (some (j,v))->(Instr.lookup T (.map (some r)) (.string k) true).run P w=.ok (.tuple #[v,.bool true]) w:=by
 obtain⟨hT,hK⟩:=sE ht
 constructor
 ·intro hu
  unfold Instr.lookup
  simp only[Sem.run_bind,run_underlying hT,Result.andThen_ok,MapKept.run_getObj_map hb,Sem.run_pure,MapKept.run_checkKey hK (show MapKept.IsKey .string (.string k)from trivial),MapKept.run_findKey hK hu,hz,if_true]
 ·intro j v hu
  unfold Instr.lookup
  simp only[Sem.run_bind,run_underlying hT,Result.andThen_ok,MapKept.run_getObj_map hb,Sem.run_pure,MapKept.run_checkKey hK (show MapKept.IsKey .string (.string k)from trivial),MapKept.run_findKey hK hu,if_true]
theorem CY (z:Value) (ht:xX P T=some (K,E):=by kernel_rfl) (hz:∀w,(zeroValue E).run P w=.ok z w:=by exactλ_=>by kernel_rfl) (h1:Has ms G i x (oz ps):=by exact hs) (h2:Has ms G i y (pT k):=by exact hs) (hp:Post G i (tc ps k z):=by exact pt rfl):
  OpOk P ops ms c V A G i ⟨some d,.lookup T x y true,ty,pos,aj,none⟩:=
 bu rfl rfl rfl (.inl rfl) hp λL β a w hI hd=>by
  obtain⟨r,es,clock,q,ex,hb,hq,CP⟩:=uO (h1.spec hI hd)
  have ey:a.eval y=.string k:=(h2.spec hI hd).out
  obtain⟨k1,k2⟩:=tv (k:=k) ht hz hb
  rcases ij (k:=k) 0 hq CP with⟨h3,h4⟩|⟨p,j,v,h3,h4,h5⟩
  ·refine⟨_,w,?_,Below.refl _ _,λw' he=>⟨z,.bool false,rfl,by rw[h3]; exact rfl,by rw[h3]; exact rfl⟩⟩
   show(do pure (Next.value (<-Instr.lookup T (a.eval x) (a.eval y) true))).run P w=_
   rw[ex,ey,Sem.run_bind,k1 h4]
   rfl
  ·refine⟨_,w,?_,Below.refl _ _,λw' he=>⟨v,.bool true,rfl,by rw[h3]; exact h5 w' he,by rw[h3]; exact rfl⟩⟩
   show(do pure (Next.value (<-Instr.lookup T (a.eval x) (a.eval y) true))).run P w=_
   rw[ex,ey,Sem.run_bind,k2 j v h4]
   rfl
variable {p:Pred}
theorem Cj (K E:TypeId) (z:Value) (hl:cM k ps=some p) (ht:xX P T=some (K,E):=by kernel_rfl) (hz:∀w,(zeroValue E).run P w=.ok z w:=by exactλ_=>by kernel_rfl) (h1:Has ms G i x (oz ps):=by exact hs) (h2:Has ms G i y (pT k):=by exact hs) (hp:Post G i (cG p (pB true)):=by exact pt rfl):
  OpOk P ops ms c V A G i ⟨some d,.lookup T x y true,ty,pos,aj,none⟩:=CY z ht hz h1 h2 (by unfold tc; rw[hl]; exact hp)
theorem Ea (K E:TypeId) (z:Value) (hl:cM k ps=none) (ht:xX P T=some (K,E):=by kernel_rfl) (hz:∀w,(zeroValue E).run P w=.ok z w:=by exactλ_=>by kernel_rfl) (h1:Has ms G i x (oz ps):=by exact hs) (h2:Has ms G i y (pT k):=by exact hs) (hp:Post G i (cG (aE z) (pB false)):=by exact pt rfl):
  OpOk P ops ms c V A G i ⟨some d,.lookup T x y true,ty,pos,aj,none⟩:=CY z ht hz h1 h2 (by unfold tc; rw[hl]; exact hp)
def od (r:Nat) (q:List (ByteArray×Value)):(Nat->Prop)->World->Prop:=λB w=>(∀k,B k↔k=r)/\∃(es:Array MapEntry) (clock:Nat),w.heap[r]?=some (.map es clock)/\es.toList.map (λe=>(e.key,e.val))=q.map mH
abbrev xW (id r:Nat) (q:List (ByteArray×Value)):Vr:=jH id id λB w _=>od r q B w
def C0 (r:Nat) (q:List (ByteArray×Value)) (ps:List (ByteArray×Pred)):Pred:=λw v=>v=.map (some r)/\MV q ps w
abbrev xV (c:bD) (V:List Vr) (G:List aD) (d:Nat) (ps:List (ByteArray×Pred)) (x:Nat×List (ByteArray×Value)):Act->World->Prop:=Inv c (xW d x.1 x.2::V) [] (⟨none,none,d,C0 x.1 x.2 ps⟩::G) none_
theorem mN {B:Nat->Prop} {q:List (ByteArray×Value)} {w:World} (hB:B r) (h:od r q B w):aL (minus M B) (od r q B) w:=λw' he=>by
 obtain⟨h1,es,clock,h2,h3⟩:=h
 exact⟨h1,es,clock,(he.block r (Array.getElem?_eq_some_iff.1 h2).1 λo ho=>ho.2 hB).trans h2,h3⟩
theorem aT.nB {β:Nat->Nat->Prop} {G':List aD} (h:aT c V [] G none_ β a w) (hE:∀e,e∈G'->on none_ e.tag=true->off none_ e.till=true->aL (own c V none_ β) (λw=>e.p w (sl a e.slot)) w):aT c V [] G' none_ β a w:=
 ⟨h.size,h.defers,h.below,h.old,h.var,h.apart,(λp hp=>by cases hp),λe he ho hf=>hE e he ho hf⟩
theorem fW {k:ByteArray}:∀{ps:List (ByteArray×Pred)},(ps.all λx=>decide (x.1≠k))=true->cM k ps=none
 |[],_=>rfl
 |y::ps,h=>by
  rw[List.all_cons,Bool.and_eq_true,decide_eq_true_eq]at h
  exact(if_neg h.1).trans (fW h.2)
theorem CZ (hd:decide (d<c.N)=true:=by kernel_rfl) (hV:(V.all λy=>(y.slot != d&&y.id != d)&&(y.born.isNone&&y.dead.isNone))=true:=by kernel_rfl) (hG:(G.all λe=>e.slot != d)=true:=by kernel_rfl):∀a w,Inv c V [] G none_ a w ->
  aQ P ops ⟨some d,.makeMap T none,ty,pos,aj,none⟩ a w (λa w=>∃x,xV c V G d [] x a w):=λa w ⟨β,hI⟩=>by
 have hb:Below w.heap.size w (w.alloc (.map #[] 0)):=Below.alloc (Below.refl _ _) (Nat.le_refl _) _
 have hnew:(w.alloc (.map #[] 0)).heap[w.heap.size]?=some (.map #[] 0):=World.alloc_heap_new _ _
 have hsz:w.heap.size<(w.alloc (.map #[] 0)).heap.size:=(Array.getElem?_eq_some_iff.1 hnew).1
 refine .of rfl (cj (v:=.map (some w.heap.size)) (w':=w.alloc (.map #[] 0)) rfl ⟨(w.heap.size,[]),?_⟩)
 obtain⟨β',h⟩:=hI.wK (b:=w.heap.size) (R:=od w.heap.size []) (v:=.map (some w.heap.size)) hb (Nat.le_refl _) hsz (λo u hu=>absurd hu (ie hnew rfl u)) (λM _=>mN rfl ⟨λ_=>Iff.rfl,#[],0,hnew,rfl⟩) (of_decide_eq_true hd) hV hG
 refine⟨β',h.nB λe he ho hf=>?_⟩
 rcases List.mem_cons.1 he with rfl|he
 ·exact(h.fq _ List.mem_cons_self rfl rfl).imp λw (e:_=_)=>⟨e,trivial⟩
 ·exact h.fq e (List.mem_cons_of_mem _ he) ho hf
theorem dV (key:ByteArray) (ht:(xX P T).isSome=true:=by kernel_rfl) (hy:Has [0] G 0 y p:=by exact hs) (hn:(ps.all λx=>decide (x.1≠key))=true:=by kernel_rfl) (hV:dW V=true:=by kernel_rfl) (hG:eH G=true:=by kernel_rfl) (hu:(V.all λy=>y.id != d)=true:=by kernel_rfl) (hGs:(G.all λe=>e.slot != d)=true:=by kernel_rfl):
  ∀x a w,xV c V G d ps x a w->aQ P ops ⟨none,.insert T (.tmp d) (.const (.string key)) y,ty,pos,aj,none⟩ a w (λa w=>∃x,xV c V G d (ps++[(key,p)]) x a w):=λ⟨r,q⟩ a w ⟨β,hI⟩=>by
 obtain⟨⟨K,E⟩,ht⟩:=Option.isSome_iff_exists.1 ht
 obtain⟨hT,hK⟩:=sE ht
 have hent:=hI.fq _ List.mem_cons_self rfl rfl
 obtain⟨A0,CP⟩:=hent.out
 have A0:sl a d=.map (some r):=A0
 have hO:=(aP rfl).1 (hI.var _ List.mem_cons_self rfl)
 obtain⟨h1,es,clock,h2,h3⟩:od r q (β d) w:=hO.2.out
 have hlt:r<w.heap.size:=(Array.getElem?_eq_some_iff.1 h2).1
 have hfind:Instr.findNow .string (.string key) es.toList 0=some none:=by
  rcases ij (k:=key) 0 h3 (hent.imp λ_ h=>h.2)with⟨_,h4⟩|⟨p,j,v,h4,_⟩
  ·exact h4
  ·rw[fW hn]at h4; cases h4
 have hrun:(Instr.mapUpdate T (.map (some r)) (.string key) (a.eval y)).run P w=.ok () (w.putObj r (.map (es.push ⟨.string key,a.eval y,clock⟩) (clock+1))):=by
  unfold Instr.mapUpdate
  simp only[Sem.run_bind,run_underlying hT,Result.andThen_ok,MapKept.run_getObj_map h2,MapKept.run_checkKey hK (show MapKept.IsKey .string (.string key)from trivial),MapKept.run_findKey hK hfind,MapKept.run_setObj_map _ h2]
  rfl
 have hnew:(w.putObj r (.map (es.push ⟨.string key,a.eval y,clock⟩) (clock+1))).heap[r]?=some (.map (es.push ⟨.string key,a.eval y,clock⟩) (clock+1)):=World.putObj_heap_same hlt
 have hB:β d r:=(h1 r).2 rfl
 have mC:=hI.move (n0:=0) (B':=β d) (R':=λB w _=>od r (q++[(key,a.eval y)]) B w) (w':=w.putObj r (.map (es.push ⟨.string key,a.eval y,clock⟩) (clock+1))) (by show((true&&(true&&true))&&dW V)=true; rw[hV]; rfl) (by show((true&&true)&&eH G)=true; rw[hG]; rfl) rfl (λz n hz he=>by
   cases n with
   |zero=>rfl
   |succ n=>
    have:=List.all_eq_true.1 hu z (List.mem_of_getElem? hz)
    simp only[bne_iff_ne]at this
    exact absurd he this) (mM _ hB) (λk hk=>.inl hk) (λk hk=>by
   have e:=(h1 k).1 hk
   subst e
   exact⟨by rw[World.putObj_size]; exact hlt,λo v hv=>absurd hv (ie hnew rfl v)⟩)
  (mN hB ⟨h1,_,_,hnew,by rw[Array.toList_push,List.map_append,List.map_append,h3]; rfl⟩)
 have Dy:aT c _ [] G none_ _ a _:=mC.nB λe he ho hf=>mC.fq e (List.mem_cons_of_mem _ he) ho hf
 have hp:=hy.spec Dy fV
 have hr':(execOp a.eval ⟨none,.insert T (.tmp d) (.const (.string key)) y,ty,pos,aj,none⟩).run P w=.ok .skip (w.putObj r (.map (es.push ⟨.string key,a.eval y,clock⟩) (clock+1))):=by
  show(do Instr.mapUpdate T (a.eval (.tmp d)) (.string key) (a.eval y); pure Next.skip).run P w=_
  rw[show a.eval (.tmp d)=.map (some r)from A0,Sem.run_bind,hrun]
  rfl
 refine .of rfl ?_
 unfold Does
 rw[hr']
 refine⟨(r,q++[(key,a.eval y)]),_,mC.nB λe he ho hf=>?_⟩
 rcases List.mem_cons.1 he with rfl|he
 ·intro w'' hx
  exact⟨A0,(((mC.fq _ List.mem_cons_self rfl rfl) w'' hx).2).snoc (hp w'' hx)⟩
 ·exact mC.fq e (List.mem_cons_of_mem _ he) ho hf
end
end Wx
