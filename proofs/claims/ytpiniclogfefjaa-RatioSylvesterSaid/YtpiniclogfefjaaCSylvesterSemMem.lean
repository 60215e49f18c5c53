import Derived.Test.YtpiniclogfefjaaCSylvesterSemOps
namespace Wx
open Go Go.RowKit

structure Ty (P:Program) (T:TypeId) (agg:Bool) (n:Nat):Prop where
 agg_:∀w,(isAgg T).run P w=.ok agg w
 size:∀w,(Go.sizeOf T).run P w=.ok n w
 one:agg=false→n=1
def Jn (n:Nat) (agg:Bool) (p:Qj):Prop:=∀w v,p w v→∃cs:List Value,v=Q6 agg cs∧cs.length=n∧v.cells=cs.toArray∧∀u∈cs,Yr u∧u.oneCell'=true
section
variable {P:Program} {ops:Array Oper} {ms:List Nat} {c:Cfg} {V:List Vr} {A:List Al} {G:List Ent} {i:Nat} {L:Nat→Bool} {β:Nat→Nat→Prop} {a:Act} {w:World} {o:Oper}
variable {d:Nat} {x y z:Operand} {ty:TypeId} {pos:String} {aft:Array Edge}

theorem Ws {T:TypeId} {agg:Bool} {n b off:Nat} {cs:List Value} (ht:Ty P T agg n) (hc:∀j v,cs[j]?=some v→w.cell? ⟨b,off+j,none⟩=some v) (hl:cs.length=n):
  (Instr.loadAt T (.pointer (some ⟨b,off,none⟩))).run P w=.ok (Q6 agg cs) w:=by
 simp only[Instr.loadAt,Instr.sureAddr,Sem.run_bind,Sem.run_pure,Result.andThen_ok,loadVar,ht.agg_]
 cases agg with
 |true=>
  have hl2:(loadCells ⟨b,off,none⟩ cs.length).run P w=.ok cs.toArray w:=
   run_loadCells_list (P:=P) w ⟨b,off,none⟩ cs (fun j v hv=>by rw[Addr.add_mid]; exact hc j v hv)
  simp only[if_true,Sem.run_bind,ht.size,Result.andThen_ok,← hl,hl2,Sem.run_pure,Q6]
 |false=>
  have h1:=ht.one rfl
  match cs,hl with
  |[u],_=>
   have:=hc 0 u rfl
   simp only[Nat.add_zero]at this
   simp[Q6,load,Sem.run,this]
  |[],hl=>simp[h1]at hl
  |_::_::_,hl=>simp[h1]at hl
theorem Qbv {T t:TypeId} {agg:Bool} {n g off:Nat} {old cs:List Value} {v:Value} (ht:Ty P T agg n) (hg:w.heap[g]?=some (.cells old.toArray t (0,0))) (hv:v.cells=cs.toArray) (hl:cs.length=n) (hlen:off+n≤old.length) (h1:∀u∈cs,u.oneCell'=true):
  (Instr.storeAt T (.pointer (some ⟨g,off,none⟩)) v).run P w=.ok () (w.setRow g (old.take off++cs++old.drop (off+n)).toArray):=by
 simp only[Instr.storeAt,Instr.sureAddr,Sem.run_bind,Sem.run_pure,Result.andThen_ok,storeVar,ht.size,hv,List.size_toArray,hl,ne_eq,not_true_eq_false,if_false]
 have:=run_storeCells_at P g off t cs 0 old.toArray w hg (by simp; omega) h1
 simp only[Nat.add_zero,hl]at this
 exact this

theorem Xj {g k:Nat} {cs:Array Value} (h:k≠g):(w.setRow g cs).heap[k]?=w.heap[k]?:=by
 unfold World.setRow
 rw[Array.getElem?_modify,if_neg (fun e=>h e.symm)]
theorem size_setRow {g:Nat} {cs:Array Value}:(w.setRow g cs).heap.size=w.heap.size:=by simp[World.setRow]
theorem ext_alloc {M M':Nat→Nat→Prop} {b:Obj} (hm:∀k o,k<w.heap.size→M' k o→M k o) {F:World→Prop} (hF:Box M F w):Box M' F (w.alloc b):=by
 intro w'' he
 have hlt:∀{k:Nat},k<w.heap.size→k<(w.alloc b).heap.size:=fun h=>by simp; omega
 refine hF w'' ⟨Nat.le_trans (by simp) he.size,fun k hk hno=>?_,fun k o v hno hc=>?_⟩
 ·rw[he.block k (hlt hk) (fun o h'=>hno o (hm k o hk h'))]
  exact Below.heap_alloc _ _ _ hk
 ·have hk:=World.block_lt_of_cell? w _ hc
  refine he.cell k o v (fun h'=>hno (hm k o hk h')) ?_
  rw[World.cell?_of_block (w:=w) (Below.heap_alloc _ _ _ hk)]
  exact hc
theorem InvB.bornAt (h:InvB c V A G L β a w) (hd:Det ms i L) (hwf:WfAt c.N ops V A G i o) {x:Vr} (hx:x∈V) (hxb:x.born=some i) (hxk:x.kd.grows=false) (hst:(x.st.all fun q=>(ms.getD q.1 0).testBit i)=true) (hdd:(V.all fun y=>y.dead != some i)=true)
  {cs:List Value} {w0:Nat} (hl:cs.length=x.n) (hn:∀u∈cs,Yr u) (hc:Box (own c V L β) (fun w=>x.c0 (·=w0) w (Q6 x.agg cs)) w) (hw0:w0=w.heap.size) (hno:(G.all fun e=>e.tag != some i)=true) (hal:(A.all fun p=>p.var != x.id||p.tag.any fun j=>(ms.getD j 0).testBit i)=true) (hs:Jl o.op=false) (hna:Kf o.op=false):
  Inv c V A G (X3 L i) (a.put o.dst (x.kd.addr w.heap.size)) (w.alloc (.cells cs.toArray x.T)):=by
 have hdst:=hwf.v2 x hx hxb
 have nd:∀y,y∈V→y.dead≠some i:=fun y hy=>by rw[List.all_eq_true]at hdd; simpa using hdd y hy
 have nV:∀y,y∈V→y.id≠x.id→y.born≠some i:=fun y hy hne hb=>hne (by rw[hwf.vo y x hy hx hb hxb])
 have nS:∀y,y∈V→y.id≠x.id→o.dst≠some y.slot:=fun y hy hne hd'=>(hwf.v1 y hy hd').elim (nV y hy hne) (nd y hy)
 have lv:∀y,y∈V→y.id≠x.id→live (X3 L i) y=live L y:=fun y hy hne=>Ja (nV y hy hne) (nd y hy)
 have st_no:∀y,y∈V→∀q,q∈y.st→q.1≠i:=fun y hy q hq hqi=>by have:=hwf.vs y hy q hq hqi; rw[hs]at this; cases this
 subst hw0
 let β':Nat→Nat→Prop:=fun s=>if s=x.id then(·=w.heap.size)else β s
 have hβ:∀y,y∈V→y.id≠x.id→β' y.id=β y.id:=fun y _ hne=>if_neg hne
 have hβx:β' x.id=(·=w.heap.size):=if_pos rfl
 have own_old:∀k j,k<w.heap.size→own c V (X3 L i) β' k j→own c V L β k j:=by
  rintro k j hk (h1|⟨y,hy,h1,h2,h3⟩)
  ·exact .inl h1
  ·by_cases hyx:y.id=x.id
   ·rw[hyx,hβx]at h2; exact absurd h2 (Nat.ne_of_lt hk)
   ·rw[lv y hy hyx]at h1
    exact .inr ⟨y,hy,h1,by rw[← hβ y hy hyx]; exact h2,h3⟩
 have lift:∀F:World→Prop,Box (own c V L β) F w→Box (own c V (X3 L i) β') F (w.alloc (.cells cs.toArray x.T)):=fun F hF=>ext_alloc own_old hF
 have liftm:∀(B:Nat→Prop) (F:World→Prop),Box (Jo (own c V L β) B) F w→Box (Jo (own c V (X3 L i) β') B) F (w.alloc (.cells cs.toArray x.T)):=fun B F hF=>ext_alloc (fun k j hk h=>⟨own_old k j hk h.1,h.2⟩) hF
 have hb0:Below w.heap.size w (w.alloc (.cells cs.toArray x.T)):=Below.alloc (Below.refl _ _) (Nat.le_refl _) _
 refine⟨β',by rw[Vb]; exact h.size,by rw[Ks]; exact h.defers,h.below.trans (Lent.of_below hb0),h.old_of fun k hk _=>hb0.block k (Nat.lt_of_lt_of_le hk h.below.size),?_,?_,?_,?_⟩
 ·intro y hy hlive
  by_cases hyx:y.id=x.id
  ·have:y=x:=hwf.vu y x hy hx hyx
   subst this
   refine(Y8 hxk).2 ⟨w.heap.size,fun k=>by rw[hβx],by rw[hdst,J6 (by rw[h.size]; exact hwf.sz _ hdst)],.inl h.below.size,cs,heap_alloc_new _ _,hl,hn,?_⟩
   have e:cont (X3 L i) y.c0 y.st=y.c0:=by
    have key:∀(st:List (Nat×Y9)) (p:Y9),(∀q∈st,X3 L i q.1=false)→cont (X3 L i) p st=p:=by
     intro st
     induction st with
     |nil=>intro p _; rfl
     |cons q st ih=>
      intro p hq
      obtain⟨j,dd⟩:=q
      rw[cont,hq (j,dd) (by simp)]
      exact ih p fun q' hq'=>hq q' (List.mem_cons_of_mem _ hq')
    refine key _ _ fun q hq=>?_
    rw[List.all_eq_true]at hst
    have h1:=hd.behind q.1 (hst q hq)
    simp[X3,st_no y hy q hq,h1]
   rw[e]
   exact lift _ hc
  ·rw[lv y hy hyx]at hlive
   exact(h.var y hy hlive).keep (Zh (nS y hy hyx)) (hβ y hy hyx) (fun g hg=>Below.heap_alloc _ _ _ (Y5 h hy hlive hg)) hb0.size lift (liftm _) (U5 (st_no y hy))
 ·intro y y' g hy hy' h1 h2 hne
  by_cases hyx:y.id=x.id
  ·have hy'x:y'.id≠x.id:=fun e=>hne (hyx.trans e.symm)
   rw[lv y' hy' hy'x]at h2
   rw[hyx,hβx,hβ y' hy' hy'x]
   intro e e'
   exact absurd e (Nat.ne_of_lt (Y5 h hy' h2 e'))
  ·rw[lv y hy hyx]at h1
   rw[hβ y hy hyx]
   by_cases hy'x:y'.id=x.id
   ·rw[hy'x,hβx]
    intro e e'
    exact absurd e' (Nat.ne_of_lt (Y5 h hy h1 e))
   ·rw[lv y' hy' hy'x]at h2
    rw[hβ y' hy' hy'x]
    exact h.apart y y' g hy hy' h1 h2 hne
 ·intro p hp hlive hcd
  have hpt:p.tag≠some i:=fun e=>by have:=hwf.aa p hp e; rw[hna]at this; cases this
  rw[Zw hpt]at hlive
  obtain⟨g,hg,hp1⟩:=h.al p hp hlive hcd
  rw[Zh fun e=>hpt (hwf.a1 p hp e),hp1]
  have hne:p.var≠x.id:=by
   intro e
   rw[List.all_eq_true]at hal
   have h1:=hal p hp
   rw[e]at h1
   simp only[bne_self_eq_false,Bool.false_or]at h1
   cases ht:p.tag with
   |none=>rw[ht]at h1; simp at h1
   |some j=>
    rw[ht]at h1 hlive
    have:=hd.behind j (by simpa using h1)
    simp only[on,this]at hlive
    cases hlive
  exact⟨g,by simpa [β',hne] using hg,rfl⟩
 ·intro e he hlive hf
  obtain⟨hf,hfi⟩:=U8 hf
  rw[List.all_eq_true]at hno
  have ht:e.tag≠some i:=by simpa using hno e he
  rw[Zw ht]at hlive
  rw[Zh fun hd'=>(hwf.g1 e he hd').elim ht hfi]
  exact lift _ (h.ent e he hlive hf)

theorem J4 {T:TypeId} {z:Value} {x:Vr} {cs:List Value} (k:Nat) (hk:V[k]?=some x) (hb:x.born=some i) (hst:((x.st.all fun q=>(ms.getD q.1 0).testBit i)&&V.all fun y=>y.dead != some i)=true) (hno:(G.all fun e=>e.tag != some i)=true) (hal:(A.all fun p=>p.var != x.id||p.tag.any fun j=>(ms.getD j 0).testBit i)=true)
  (hT:x.T=T) (hkd:x.kd=.ptr) (hz:∀w,(zeroValue T).run P w=.ok z w) (hzc:z.cells=cs.toArray) (hl:cs.length=x.n) (hn:∀u∈cs,Yr u) {q:Qj} (hcq:x.c0=pv q) (hc:∀w,q w (Q6 x.agg cs)):
  Xf P ops ms c V A G i ⟨some d,.alloc T,ty,pos,aft,none⟩:=by
 refine J9 (fun L β a w hI hd hwf=>?_) rfl
 have hr:(execOp a.eval ⟨some d,.alloc T,ty,pos,aft,none⟩).run P w=.ok (.value (.pointer (some ⟨w.heap.size,0,none⟩))) (w.alloc (.cells cs.toArray T)):=by
  show(do pure (Next.value (← Instr.alloc T true (.tuple #[])))).run P w=_
  simp only[Instr.alloc,Sem.run_bind,hz,Result.andThen_ok,newVar,newRow,hzc,Sem.run_pure]
  rfl
 rw[Bool.and_eq_true]at hst
 refine Z5 hr ?_
 rw[← hT]
 have:=hI.bornAt hd hwf (List.mem_of_getElem? hk) hb (by rw[hkd]; rfl) hst.1 hst.2 hl hn (by rw[hcq]; exact fun w' _=>hc w') rfl hno hal rfl rfl
 rwa [hkd]at this
theorem op_box {T:TypeId} {p:Qj} {v:Vr} (k:Nat) (hk:V[k]?=some v) (hb:v.born=some i) (hst:((v.st.all fun q=>(ms.getD q.1 0).testBit i)&&V.all fun y=>y.dead != some i)=true) (hno:(G.all fun e=>e.tag != some i)=true) (hal:(A.all fun p=>p.var != v.id||p.tag.any fun j=>(ms.getD j 0).testBit i)=true)
  (hT:v.T=T) (hkd:v.kd=.ptr) (h:Has ms G i x p) (hf:Jn v.n v.agg p) (hc:v.c0=pv p):
  Xf P ops ms c V A G i ⟨some d,.box T x,ty,pos,aft,none⟩:=by
 refine J9 (fun L β a w hI hd hwf=>?_) rfl
 have hp:=h.spec hI hd
 obtain⟨cs,e,hl,hcells,h1⟩:=hf w _ hp.out
 have hr:(execOp a.eval ⟨some d,.box T x,ty,pos,aft,none⟩).run P w=.ok (.value (.pointer (some ⟨w.heap.size,0,none⟩))) (w.alloc (.cells cs.toArray T)):=by
  show(do pure (Next.value (← Instr.box T (a.eval x)))).run P w=_
  simp only[Instr.box,newVar,newRow,hcells]
  rfl
 rw[Bool.and_eq_true]at hst
 refine Z5 hr ?_
 rw[← hT]
 have:=hI.bornAt hd hwf (List.mem_of_getElem? hk) hb (by rw[hkd]; rfl) hst.1 hst.2 hl (fun u hu=>(h1 u hu).1) (by rw[hc,← e]; exact hp) rfl hno hal rfl rfl
 rwa [hkd]at this

def Zm (ms:List Nat) (i:Nat) (x:Vr):Bool:=onAt ms i x.born&&offAt ms i x.dead
theorem Det.live (hd:Det ms i L) {x:Vr} (h:Zm ms i x=true):live L x=true:=by
 unfold Zm at h
 rw[Bool.and_eq_true]at h
 unfold Wx.live
 rw[hd.on h.1,hd.off h.2]; rfl
theorem Qbc (hI:InvB c V A G L β a w) (hd:Det ms i L) {x:Vr} (hx:x∈V) (ho:Zm ms i x=true) (hk:x.kd=.ptr):∃g,(∀k,β x.id k↔k=g)∧sl a x.slot=.pointer (some ⟨g,0,none⟩)∧BlkOk (own c V L β) c L a w x g:=by
 have:=(Y8 (by rw[hk]; rfl)).1 (hI.var x hx (hd.live ho))
 rwa [hk]at this
theorem Qcr (hd:Det ms i L) {st:List (Nat×Y9)} {p:Y9} (h:(st.all fun q=>(ms.getD i 0).testBit q.1||(ms.getD q.1 0).testBit i)=true):cont L p st=cont (fun j=>(ms.getD i 0).testBit j) p st:=by
 rw[List.all_eq_true]at h
 refine Up fun q hq=>?_
 have:=h q hq
 simp only[Bool.or_eq_true]at this
 rcases this with h1|h1
 ·rw[hd.before _ h1,h1]
 ·have h2:=hd.behind _ h1
  rw[h2]
  cases h3:(ms.getD i 0).testBit q.1 with
  |false=>rfl
  |true=>rw[hd.before _ h3]at h2; cases h2
theorem V5 {g:Nat} {cs:List Value} {T:TypeId} {fz:Nat×Nat} (h:w.heap[g]?=some (.cells cs.toArray T fz)) (off:Nat) (m:Nat):∀j v,((cs.drop off).take m)[j]?=some v→w.cell? ⟨g,off+j,none⟩=some v:=by
 intro j v hv
 simp only[World.cell?,h]
 rw[List.getElem?_take]at hv
 split at hv
 ·rw[List.getElem?_drop]at hv
  simpa using hv
 ·cases hv
theorem Yg {T:TypeId} {s:Nat} {x:Vr} {p:Qj} (k:Nat) (hk:V[k]?=some x) (hsl:x.slot=s) (ho:Zm ms i x=true) (hkd:x.kd=.ptr) (hst:(x.st.all fun q=>(ms.getD i 0).testBit q.1||(ms.getD q.1 0).testBit i)=true)
  (ht:Ty P T x.agg x.n) (hc:cont (fun j=>(ms.getD i 0).testBit j) x.c0 x.st=pv p) (hp:Post G i p):
  Xf P ops ms c V A G i ⟨some d,.load T (.tmp s),ty,pos,aft,none⟩:=
 J5 rfl rfl rfl (.inl rfl) hp fun L β a w hI hd=>by
  obtain⟨g,hg,hsl',hv⟩:=Qbc hI hd (List.mem_of_getElem? hk) ho hkd
  obtain⟨cs,h1,h2,h3,h4⟩:=hv.held
  rw[Qcr hd hst,hc]at h4
  refine⟨_,w,?_,Below.refl _ _,h4⟩
  show(do pure (Next.value (← Instr.loadAt T (a.eval (.tmp s))))).run P w=_
  have e:a.eval (.tmp s)=.pointer (some ⟨g,0,none⟩):=by rw[← hsl]; exact hsl'
  rw[e]
  have:=Ws (P:=P) (w:=w) (b:=g) (off:=0) ht (cs:=cs) (fun j v hj=>by simp only[World.cell?,h1]; simpa using hj) h2
  simp only[Sem.run_bind,this,Result.andThen_ok,Sem.run_pure]
theorem Kr {T:TypeId} {s n off:Nat} {agg:Bool} {x:Vr} {al:Al} {p q:Qj} (k:Nat) (hk:V[k]?=some x) (k2:Nat) (hk2:A[k2]?=some al) (hs:al.slot=s) (hv:al.var=x.id) (hoff:al.off=off) (hoA:onAt ms i al.tag=true) (hcd:al.cond) (ho:Zm ms i x=true) (hkd:x.kd=.ptr) (hst:(x.st.all fun q=>(ms.getD i 0).testBit q.1||(ms.getD q.1 0).testBit i)=true)
  (ht:Ty P T agg n) (hlen:decide (off+n≤x.n)=true) (hc:cont (fun j=>(ms.getD i 0).testBit j) x.c0 x.st=pv p) (hq:∀w cs,cs.length=x.n→p w (Q6 x.agg cs)→q w (Q6 agg ((cs.drop off).take n))) (hp:Post G i q):
  Xf P ops ms c V A G i ⟨some d,.load T (.tmp s),ty,pos,aft,none⟩:=
 J5 rfl rfl rfl (.inl rfl) hp fun L β a w hI hd=>by
  have hlen:=of_decide_eq_true hlen
  obtain⟨g,hg,hsl',hvo⟩:=Qbc hI hd (List.mem_of_getElem? hk) ho hkd
  obtain⟨cs,h1,h2,h3,h4⟩:=hvo.held
  rw[Qcr hd hst,hc]at h4
  refine⟨_,w,?_,Below.refl _ _,h4.imp fun w=>hq w cs h2⟩
  show(do pure (Next.value (← Instr.loadAt T (a.eval (.tmp s))))).run P w=_
  have e:a.eval (.tmp s)=.pointer (some ⟨g,off,none⟩):=by
   obtain⟨g',hg',this⟩:=hI.al al (List.mem_of_getElem? hk2) (hd.on hoA) hcd
   rw[hv]at hg'
   rw[hs,hoff,(hg g').1 hg']at this
   exact this
  rw[e]
  have:=Ws (P:=P) (w:=w) (b:=g) (off:=off) ht (cs:=(cs.drop off).take n) (V5 h1 off n) (by simp; omega)
  simp only[Sem.run_bind,this,Result.andThen_ok,Sem.run_pure]
theorem Wh {S s f off0 off:Nat} {al:Al} {x:Vr} (k:Nat) (hk:V[k]?=some x) (ho:Zm ms i x=true) (hkd:x.kd=.ptr) (k2:Nat) (hk2:A[k2]?=some al) (htag:al.tag=some i) (hvar:al.var=x.id) (hal:al.off=off)
  (hs:s=x.slot∧off0=0∨∃(k3:Nat) (al0:Al),A[k3]?=some al0∧al0.slot=s∧al0.var=x.id∧al0.off=off0∧onAt ms i al0.tag=true∧al0.cond) (hu:(A.filter fun q=>q.tag==some i).length=1) (hno:(G.all fun e=>e.tag != some i)=true)
  (hf:∀b w,(Instr.fieldAt S (.pointer (some ⟨b,off0,none⟩)) f).run P w=.ok (.pointer (some ⟨b,off,none⟩)) w):
  Xf P ops ms c V A G i ⟨some d,.fieldAddr S (.tmp s) f,ty,pos,aft,none⟩:=by
 refine J9 (fun L β a w hI hd hwf=>?_) rfl
 obtain⟨g,hg,hsl',hvo⟩:=Qbc hI hd (List.mem_of_getElem? hk) ho hkd
 have e:a.eval (.tmp s)=.pointer (some ⟨g,off0,none⟩):=by
  rcases hs with⟨rfl,rfl⟩|⟨k3,al0,hk3,rfl,h2,h3,h4,h5⟩
  ·exact hsl'
  ·obtain⟨g',hg',this⟩:=hI.al al0 (List.mem_of_getElem? hk3) (hd.on h4) h5
   rw[h2]at hg'
   rw[h3,(hg g').1 hg']at this
   exact this
 have hr:(execOp a.eval ⟨some d,.fieldAddr S (.tmp s) f,ty,pos,aft,none⟩).run P w=.ok (.value (.pointer (some ⟨g,off,none⟩))) w:=by
  show(do pure (Next.value (← Instr.fieldAt S (a.eval (.tmp s)) f))).run P w=_
  rw[e]
  simp only[Sem.run_bind,hf,Result.andThen_ok,Sem.run_pure]
 refine Z5 hr ⟨β,hI.value hwf (nb_of hwf rfl) rfl (Below.refl _ _) (fun d' q _ hq hqt _=>?_) fun e' he' ht'=>?_⟩
 ·have:q=al:=Zr hu hq (List.mem_of_getElem? hk2) (by simp[hqt]) (by simp[htag])
  exact⟨g,by rw[this,hvar]; exact(hg g).2 rfl,by rw[this,hal]⟩
 ·rw[List.all_eq_true]at hno
  have:=hno e' he'
  simp[ht']at this

theorem InvB.stored (h:InvB c V A G L β a w) (hwf:WfAt c.N ops V A G i o) (hnone:o.dst=none) {x:Vr} (hx:x∈V) (hlive:live L x=true) (hxk:x.kd.grows=false) (hnb:K5 o.op=false) {g:Nat} (hg:∀k,β x.id k↔k=g)
  {cs cs':List Value} (hcs:w.heap[g]?=some (.cells cs.toArray x.T (0,0))) (hl:cs'.length=x.n) (hn:∀u∈cs',Yr u)
  (hc:Box (own c V L β) (fun w=>cont (X3 L i) x.c0 x.st (·=g) w (Q6 x.agg cs')) w) (hothers:(V.all fun y=>y.id==x.id||y.st.all fun q=>q.1 != i)=true) (u:Value):
  Inv c V A G (X3 L i) (a.put o.dst u) (w.setRow g cs'.toArray):=by
 have nb:=nb_of hwf hnb
 have hgx:β x.id g:=(hg g).2 rfl
 have og:∀o,own c V L β g o:=fun o=>.inr ⟨x,hx,hlive,hgx,by rw[lo_zero hxk]; exact Nat.zero_le _⟩
 have ext:∀M:Nat→Nat→Prop,(∀o,M g o)→Ext M w (w.setRow g cs'.toArray):=fun M hM=>⟨Nat.le_of_eq size_setRow.symm,fun k hk hno=>Xj fun e=>hno 0 (by rw[e]; exact hM 0),fun k o v hno hv=>by
  have hkg:k≠g:=fun e=>hno (by rw[e]; exact hM o)
  rw[World.cell?_of_block (w:=w) (a:=⟨k,o,none⟩) (Xj hkg)]; exact hv⟩
 have he:Ext (own c V L β) w (w.setRow g cs'.toArray):=ext _ og
 have hvx:=h.var x hx hlive
 have hnew:=(hvx.blk hgx).1
 have hput:a.put o.dst u=a:=by rw[hnone]; rfl
 have hne0:∀k,k<c.w0.heap.size→¬c.lent k→k≠g:=fun k h1 h2 e=>hnew.elim (fun h3=>by omega) (fun h3=>h2 (e▸h3))
 rw[hput]
 refine⟨β,h.size,h.defers,⟨h.below.os,h.below.tape,h.below.output,Nat.le_trans h.below.size (Nat.le_of_eq size_setRow.symm),fun k hk hn=>(Xj (hne0 k hk hn)).trans (h.below.block k hk hn)⟩,h.old_of fun k hk hn=>Xj (hne0 k hk hn),?_,?_,?_,?_⟩
 ·intro y hy hl'
  rw[Ja (nb y hy).1 (nb y hy).2]at hl'
  rw[Wr nb]
  by_cases hyx:y.id=x.id
  ·have:y=x:=hwf.vu y x hy hx hyx
   subst this
   obtain⟨g',e,h1,_⟩:=(Y8 hxk).1 hvx
   have e':=(e g).1 hgx
   subst e'
   exact(Y8 hxk).2 ⟨g,hg,h1,hnew,cs',setRow_heap w _ _ _ _ _ hcs,hl,hn,hc.ext he⟩
  ·rw[List.all_eq_true]at hothers
   have h5:=hothers y hy
   simp only[Bool.or_eq_true,beq_iff_eq,hyx,false_or,List.all_eq_true,bne_iff_ne]at h5
   have hny:¬β y.id g:=fun e=>h.apart y x g hy hx hl' hlive hyx e hgx
   exact(h.var y hy hl').keep rfl rfl (fun g' hg'=>Xj fun e=>hny (e▸hg')) (Nat.le_of_eq size_setRow.symm) (fun F hF=>hF.ext he) (fun F hF=>hF.ext (ext _ fun o=>⟨og o,hny⟩)) (U5 h5)
 ·intro y y' g' hy hy' h1 h2 hne
  rw[Ja (nb y hy).1 (nb y hy).2]at h1
  rw[Ja (nb y' hy').1 (nb y' hy').2]at h2
  exact h.apart y y' g' hy hy' h1 h2 hne
 ·intro p hp hl' hcd
  have hpt:p.tag≠some i:=fun e=>by have:=hwf.a2 p hp e; rw[hnone]at this; cases this
  rw[Zw hpt]at hl'
  exact h.al p hp hl' hcd
 ·intro e heG hl' hf
  obtain⟨hf,hfi⟩:=U8 hf
  have ht:e.tag≠some i:=fun e'=>by have:=hwf.g2 e heG e'; rw[hnone]at this; cases this
  rw[Zw ht]at hl'
  rw[Wr nb]
  exact(h.ent e heG hl' hf).ext he
theorem Qd0 {st:List (Nat×Y9)} {q:Y9} (m:Nat) (hm:st[m]?=some (i,q)) (hd:Det ms i L) (hr:((st.drop (m+1)).all fun r=>(ms.getD r.1 0).testBit i)=true) (c0:Y9):cont (X3 L i) c0 st=q:=by
 have no:∀(st:List (Nat×Y9)) (p:Y9),(∀r∈st,X3 L i r.1=false)→cont (X3 L i) p st=p:=by
  intro st
  induction st with
  |nil=>intro p _; rfl
  |cons r st ih=>
   intro p hq
   obtain⟨j,dd⟩:=r
   rw[cont,hq (j,dd) (by simp)]
   exact ih p fun q' hq'=>hq q' (List.mem_cons_of_mem _ hq')
 induction st generalizing m c0 with
 |nil=>simp at hm
 |cons r st ih=>
  obtain⟨j,dd⟩:=r
  rw[cont]
  cases m with
  |zero=>
   simp at hm
   obtain⟨rfl,rfl⟩:=hm
   rw[upd_self,if_pos rfl]
   refine no st _ fun r hr'=>?_
   rw[List.all_eq_true]at hr
   have h1:=hr r (by simpa using hr')
   have hne:r.1≠j:=fun e=>by rw[e,hd.irrefl]at h1; cases h1
   simp[X3,hne,hd.behind _ h1]
  |succ m=>exact ih m (by simpa using hm) (by simpa using hr) _
theorem Zo {T:TypeId} {s:Nat} {v:Vr} {p:Qj} (k:Nat) (hk:V[k]?=some v) (hsl:v.slot=s) (ho:Zm ms i v=true) (hkd:v.kd=.ptr) (m:Nat) (hm:v.st[m]?=some (i,pv p)) (hr:((v.st.drop (m+1)).all fun r=>(ms.getD r.1 0).testBit i)=true) (hoth:(V.all fun y=>y.id==v.id||y.st.all fun q=>q.1 != i)=true)
  (ht:Ty P T v.agg v.n) (h:Has ms G i y p) (hf:Jn v.n v.agg p):
  Xf P ops ms c V A G i ⟨none,.store T (.tmp s) y,ty,pos,aft,none⟩:=by
 refine J9 (fun L β a w hI hd hwf=>?_) rfl
 have hx:=List.mem_of_getElem? hk
 obtain⟨g,hg,hsl',hvo⟩:=Qbc hI hd hx ho hkd
 obtain⟨cs,h1,h2,h3,h4⟩:=hvo.held
 have hp:=h.spec hI hd
 obtain⟨ds,e,hl,hcells,hu⟩:=hf w _ hp.out
 have e0:a.eval (.tmp s)=.pointer (some ⟨g,0,none⟩):=by rw[← hsl]; exact hsl'
 have hr':(execOp a.eval ⟨none,.store T (.tmp s) y,ty,pos,aft,none⟩).run P w=.ok .skip (w.setRow g ds.toArray):=by
  show(do Instr.storeAt T (a.eval (.tmp s)) (a.eval y); pure Next.skip).run P w=_
  rw[e0]
  have:=Qbv (P:=P) (off:=0) ht h1 hcells hl (by omega) (fun u hu'=>(hu u hu').2)
  simp only[List.take_zero,List.nil_append,Nat.zero_add,List.drop_of_length_le (Nat.le_of_eq h2),List.append_nil]at this
  simp only[Sem.run_bind,this,Result.andThen_ok,Sem.run_pure]
 unfold Does
 rw[hr']
 exact hI.stored hwf rfl hx (hd.live ho) (by rw[hkd]; rfl) rfl hg h1 hl (fun u hu'=>(hu u hu').1) (by rw[Qd0 m hm hd hr,← e]; exact hp) hoth _
end
end Wx
