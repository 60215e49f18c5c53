import Derived.Test.YtikkgpljpglnbaaGreatCRMSemOps
namespace Wx
open Go Go.RowKit
structure Ty (P:Program) (T:TypeId) (agg:Bool) (n:Nat):Prop where
 Rb:∀w,(isAgg T).run P w=.ok agg w
 size:∀w,(Go.sizeOf T).run P w=.ok n w
 one:agg=false->n=1
def Fits (n:Nat) (agg:Bool) (p:Pred):Prop:=∀w v,p w v->∃cs:List Value,v=au agg cs/\cs.length=n/\v.cells=cs.toArray/\∀u∈cs,gv u/\u.oneCell'=true
section
variable {P:Program} {ops:Array Oper} {ms:List Nat} {c:cM} {V:List Vr} {A:List Al} {G:List aV} {i:Nat} {L:Nat->Bool} {β:Nat->Nat->Prop} {a:Act} {w:World} {o:Oper}{d:Nat} {x y z:Operand} {ty:TypeId} {pos:String} {aL:Array Edge}{T:TypeId} {agg:Bool} {n off:Nat} {cs:List Value}
theorem eO {b:Nat} (ht:Ty P T agg n) (hc:∀j v,cs[j]?=some v->w.cell? ⟨b,off+j,none⟩=some v) (hl:cs.length=n):
  (Instr.loadAt T (.pointer (some ⟨b,off,none⟩))).run P w=.ok (au agg cs) w:=by
 simp only[Instr.loadAt,Instr.sureAddr,Sem.run_bind,Sem.run_pure,Result.andThen_ok,loadVar,ht.Rb]
 cases agg with
 |true=>
  have hl2:(loadCells ⟨b,off,none⟩ cs.length).run P w=.ok cs.toArray w:=
   run_loadCells_list (P:=P) w ⟨b,off,none⟩ cs (λj v hv=>by rw[Addr.add_mid]; exact hc j v hv)
  simp only[if_true,Sem.run_bind,ht.size,Result.andThen_ok,<-hl,hl2,Sem.run_pure,au]
 |false=>
  have h1:=ht.one rfl
  match cs,hl with
  |[u],_=>
   have:=hc 0 u rfl
   simp only[Nat.add_zero]at this
   simp[au,load,Sem.run,this]
  |[],hl=>simp[h1]at hl
  |_::_::_,hl=>simp[h1]at hl
variable {g:Nat}
theorem ki {t:TypeId} {old:List Value} {v:Value} (ht:Ty P T agg n) (hg:w.heap[g]?=some (.cells old.toArray t (0,0))) (hv:v.cells=cs.toArray) (hl:cs.length=n) (hlen:off+n<=old.length) (h1:∀u∈cs,u.oneCell'=true):
  (Instr.storeAt T (.pointer (some ⟨g,off,none⟩)) v).run P w=.ok () (w.setRow g (old.take off++cs++old.drop (off+n)).toArray):=by
 simp only[Instr.storeAt,Instr.sureAddr,Sem.run_bind,Sem.run_pure,Result.andThen_ok,storeVar,ht.size,hv,List.size_toArray,hl,ne_eq,not_true_eq_false,if_false]
 have:=run_storeCells_at P g off t cs 0 old.toArray w hg (by simp; omega) h1
 simp only[Nat.add_zero,hl]at this
 exact this
theorem aC {k:Nat} {cs:Array Value} (h:k≠g):(w.setRow g cs).heap[k]?=w.heap[k]?:=by
 unfold World.setRow
 rw[Array.getElem?_modify,if_neg (λe=>h e.symm)]
theorem size_setRow {cs:Array Value}:(w.setRow g cs).heap.size=w.heap.size:=by simp[World.setRow]
theorem uR {M M':Nat->Nat->Prop} {b:Obj} (hm:∀k o,k<w.heap.size->M' k o->M k o) {F:World->Prop} (hF:aM M F w):aM M' F (w.alloc b):=by
 intro w'' he
 have hlt:∀{k:Nat},k<w.heap.size->k<(w.alloc b).heap.size:=λh=>by simp; omega
 refine hF w'' ⟨Nat.le_trans (by simp) he.size,λk hk hno=>?_,λk o v hno hc=>?_⟩
 ·rw[he.block k (hlt hk) (λo h'=>hno o (hm k o hk h'))]
  exact Below.heap_alloc _ _ _ hk
 ·have hk:=World.block_lt_of_cell? w _ hc
  refine he.cell k o v (λh'=>hno (hm k o hk h')) ?_
  rw[World.cell?_of_block (w:=w) (Below.heap_alloc _ _ _ hk)]
  exact hc
theorem aT.ES (h:aT c V A G L β a w) (hd:mB ms i L) (hwf:kD c.N ops V A G i o) {x:Vr} (hx:x∈V) (kF:x.born=some i) (I5:x.kd.qv=false) (hst:(x.st.all λq=>(ms.getD q.1 0).testBit i)=true) (hdd:(V.all λy=>y.dead != some i)=true)
  {cs:List Value} {w0:Nat} (hl:cs.length=x.n) (hn:∀u∈cs,gv u) (hc:aM (own c V L β) (λw=>x.c0 (·=w0) w (au x.agg cs)) w) (WR:w0=w.heap.size) (hno:(G.all λe=>e.tag != some i)=true) (fC:(A.all λp=>p.var != x.id||p.tag.any λj=>(ms.getD j 0).testBit i)=true) (hs:eD o.op=false) (Mn:iw o.op=false):
  Inv c V A G (upd L i) (a.put o.dst (x.kd.addr w.heap.size)) (w.alloc (.cells cs.toArray x.T)):=by
 have qM:=hwf.v2 x hx kF
 have nd:∀y,y∈V->y.dead≠some i:=λy hy=>by rw[List.all_eq_true]at hdd; simpa using hdd y hy
 have nV:∀y,y∈V->y.id≠x.id->y.born≠some i:=λy hy hne hb=>hne (by rw[hwf.vo y x hy hx hb kF])
 have nS:∀y,y∈V->y.id≠x.id->o.dst≠some y.slot:=λy hy hne hd'=>(hwf.v1 y hy hd').elim (nV y hy hne) (nd y hy)
 have lv:∀y,y∈V->y.id≠x.id->live (upd L i) y=live L y:=λy hy hne=>cE (nV y hy hne) (nd y hy)
 have C2:∀y,y∈V->∀q,q∈y.st->q.1≠i:=λy hy q hq Pz=>by have:=hwf.vs y hy q hq Pz; rw[hs]at this; cases this
 subst WR
 let β':Nat->Nat->Prop:=λs=>if s=x.id then(·=w.heap.size)else β s
 have hβ:∀y,y∈V->y.id≠x.id->β' y.id=β y.id:=λy _ hne=>if_neg hne
 have FN:β' x.id=(·=w.heap.size):=if_pos rfl
 have gW:∀k j,k<w.heap.size->own c V (upd L i) β' k j->own c V L β k j:=by
  rintro k j hk (h1|⟨y,hy,h1,h2,h3⟩)
  ·exact .inl h1
  ·by_cases qO:y.id=x.id
   ·rw[qO,FN]at h2; exact absurd h2 (Nat.ne_of_lt hk)
   ·rw[lv y hy qO]at h1
    exact .inr ⟨y,hy,h1,by rw[<-hβ y hy qO]; exact h2,h3⟩
 have lift:∀F:World->Prop,aM (own c V L β) F w->aM (own c V (upd L i) β') F (w.alloc (.cells cs.toArray x.T)):=λF hF=>uR gW hF
 have F0:∀(B:Nat->Prop) (F:World->Prop),aM (minus (own c V L β) B) F w->aM (minus (own c V (upd L i) β') B) F (w.alloc (.cells cs.toArray x.T)):=λB F hF=>uR (λk j hk h=>⟨gW k j hk h.1,h.2⟩) hF
 have hb0:Below w.heap.size w (w.alloc (.cells cs.toArray x.T)):=Below.alloc (Below.refl _ _) (Nat.le_refl _) _
 refine⟨β',by rw[jt]; exact h.size,by rw[put_defers]; exact h.defers,h.below.trans (cz.bI hb0),h.pZ λk hk _=>hb0.block k (Nat.lt_of_lt_of_le hk h.below.size),?_,?_,?_,?_⟩
 ·intro y hy eI
  by_cases qO:y.id=x.id
  ·have:y=x:=hwf.vu y x hy hx qO
   subst this
   refine(bB I5).2 ⟨w.heap.size,λk=>by rw[FN],by rw[qM,iG (by rw[h.size]; exact hwf.sz _ qM)],.inl h.below.size,cs,heap_alloc_new _ _,hl,hn,?_⟩
   have e:cont (upd L i) y.c0 y.st=y.c0:=by
    have key:∀(st:List (Nat×Rel)) (p:Rel),(∀q∈st,upd L i q.1=false)->cont (upd L i) p st=p:=by
     intro st
     induction st with
     |nil=>intro p _; rfl
     |cons q st ih=>
      intro p hq
      obtain⟨j,dd⟩:=q
      rw[cont,hq (j,dd) (by simp)]
      exact ih p λq' Px=>hq q' (List.mem_cons_of_mem _ Px)
    refine key _ _ λq hq=>?_
    rw[List.all_eq_true]at hst
    have h1:=hd.behind q.1 (hst q hq)
    simp[upd,C2 y hy q hq,h1]
   rw[e]
   exact lift _ hc
  ·rw[lv y hy qO]at eI
   exact(h.var y hy eI).keep (bZ (nS y hy qO)) (hβ y hy qO) (λg hg=>Below.heap_alloc _ _ _ (fW h hy eI hg)) hb0.size lift (F0 _) (jo (C2 y hy))
 ·intro y y' g hy hy' h1 h2 hne
  by_cases qO:y.id=x.id
  ·have DA:y'.id≠x.id:=λe=>hne (qO.trans e.symm)
   rw[lv y' hy' DA]at h2
   rw[qO,FN,hβ y' hy' DA]
   intro e e'
   exact absurd e (Nat.ne_of_lt (fW h hy' h2 e'))
  ·rw[lv y hy qO]at h1
   rw[hβ y hy qO]
   by_cases DA:y'.id=x.id
   ·rw[DA,FN]
    intro e e'
    exact absurd e' (Nat.ne_of_lt (fW h hy h1 e))
   ·rw[lv y' hy' DA]at h2
    rw[hβ y' hy' DA]
    exact h.apart y y' g hy hy' h1 h2 hne
 ·intro p hp eI hcd
  have hpt:p.tag≠some i:=λe=>by have:=hwf.aa p hp e; rw[Mn]at this; cases this
  rw[bX hpt]at eI
  obtain⟨g,hg,hp1⟩:=h.al p hp eI hcd
  rw[bZ λe=>hpt (hwf.a1 p hp e),hp1]
  have hne:p.var≠x.id:=by
   intro e
   rw[List.all_eq_true]at fC
   have h1:=fC p hp
   rw[e]at h1
   simp only[bne_self_eq_false,Bool.false_or]at h1
   cases ht:p.tag with
   |none=>rw[ht]at h1; simp at h1
   |some j=>
    rw[ht]at h1 eI
    have:=hd.behind j (by simpa using h1)
    simp only[on,this]at eI
    cases eI
  exact⟨g,by simpa [β',hne] using hg,rfl⟩
 ·intro e he eI hf
  obtain⟨hf,IU⟩:=jW hf
  rw[List.all_eq_true]at hno
  have ht:e.tag≠some i:=by simpa using hno e he
  rw[bX ht]at eI
  rw[bZ λhd'=>(hwf.g1 e he hd').elim ht IU]
  exact lift _ (h.gY e he eI hf)
theorem lC {z:Value} {x:Vr} (k:Nat) (hk:V[k]?=some x) (hb:x.born=some i) (hst:((x.st.all λq=>(ms.getD q.1 0).testBit i)&&V.all λy=>y.dead != some i)=true) (hno:(G.all λe=>e.tag != some i)=true) (fC:(A.all λp=>p.var != x.id||p.tag.any λj=>(ms.getD j 0).testBit i)=true)
  (hT:x.T=T) (bS:x.kd=.ptr) (hz:∀w,(zeroValue T).run P w=.ok z w) (AR:z.cells=cs.toArray) (hl:cs.length=x.n) (hn:∀u∈cs,gv u) {q:Pred} (Wd:x.c0=pv q) (hc:∀w,q w (au x.agg cs)):
  OpOk P ops ms c V A G i ⟨some d,.alloc T,ty,pos,aL,none⟩:=by
 refine iR (λL β a w hI hd hwf=>?_) rfl
 have hr:(execOp a.eval ⟨some d,.alloc T,ty,pos,aL,none⟩).run P w=.ok (.value (.pointer (some ⟨w.heap.size,0,none⟩))) (w.alloc (.cells cs.toArray T)):=by
  show(do pure (Next.value (<-Instr.alloc T true (.tuple #[])))).run P w=_
  simp only[Instr.alloc,Sem.run_bind,hz,Result.andThen_ok,newVar,newRow,AR,Sem.run_pure]
  rfl
 rw[Bool.and_eq_true]at hst
 refine eE hr ?_
 rw[<-hT]
 have:=hI.ES hd hwf (List.mem_of_getElem? hk) hb (by rw[bS]; rfl) hst.1 hst.2 hl hn (by rw[Wd]; exactλw' _=>hc w') rfl hno fC rfl rfl
 rwa [bS]at this
variable {v:Vr} {p:Pred}
theorem Bj (k:Nat) (hk:V[k]?=some v) (hb:v.born=some i) (hst:((v.st.all λq=>(ms.getD q.1 0).testBit i)&&V.all λy=>y.dead != some i)=true) (hno:(G.all λe=>e.tag != some i)=true) (fC:(A.all λp=>p.var != v.id||p.tag.any λj=>(ms.getD j 0).testBit i)=true)
  (hT:v.T=T) (bS:v.kd=.ptr) (h:Has ms G i x p) (hf:Fits v.n v.agg p) (hc:v.c0=pv p):
  OpOk P ops ms c V A G i ⟨some d,.box T x,ty,pos,aL,none⟩:=by
 refine iR (λL β a w hI hd hwf=>?_) rfl
 have hp:=h.spec hI hd
 obtain⟨cs,e,hl,hcells,h1⟩:=hf w _ hp.out
 have hr:(execOp a.eval ⟨some d,.box T x,ty,pos,aL,none⟩).run P w=.ok (.value (.pointer (some ⟨w.heap.size,0,none⟩))) (w.alloc (.cells cs.toArray T)):=by
  show(do pure (Next.value (<-Instr.box T (a.eval x)))).run P w=_
  simp only[Instr.box,newVar,newRow,hcells]
  rfl
 rw[Bool.and_eq_true]at hst
 refine eE hr ?_
 rw[<-hT]
 have:=hI.ES hd hwf (List.mem_of_getElem? hk) hb (by rw[bS]; rfl) hst.1 hst.2 hl (λu hu=>(h1 u hu).1) (by rw[hc,<-e]; exact hp) rfl hno fC rfl rfl
 rwa [bS]at this
def bA (ms:List Nat) (i:Nat) (x:Vr):Bool:=qQ ms i x.born&&iQ ms i x.dead
theorem mB.live (hd:mB ms i L) {x:Vr} (h:bA ms i x=true):live L x=true:=by
 unfold bA at h
 rw[Bool.and_eq_true]at h
 unfold Wx.live
 rw[hd.on h.1,hd.off h.2]; rfl
theorem mg (hI:aT c V A G L β a w) (hd:mB ms i L) {x:Vr} (hx:x∈V) (ho:bA ms i x=true) (hk:x.kd=.ptr):∃g,(∀k,β x.id k↔k=g)/\sl a x.slot=.pointer (some ⟨g,0,none⟩)/\ED (own c V L β) c L a w x g:=by
 have:=(bB (by rw[hk]; rfl)).1 (hI.var x hx (hd.live ho))
 rwa [hk]at this
theorem Cb (hd:mB ms i L) {st:List (Nat×Rel)} {p:Rel} (h:(st.all λq=>(ms.getD i 0).testBit q.1||(ms.getD q.1 0).testBit i)=true):cont L p st=cont (λj=>(ms.getD i 0).testBit j) p st:=by
 rw[List.all_eq_true]at h
 refine ir λq hq=>?_
 have:=h q hq
 simp only[Bool.or_eq_true]at this
 rcases this with h1|h1
 ·rw[hd.before _ h1,h1]
 ·have h2:=hd.behind _ h1
  rw[h2]
  cases h3:(ms.getD i 0).testBit q.1 with
  |false=>rfl
  |true=>rw[hd.before _ h3]at h2; cases h2
theorem iq {fz:Nat×Nat} (h:w.heap[g]?=some (.cells cs.toArray T fz)) (off:Nat) (m:Nat):∀j v,((cs.drop off).take m)[j]?=some v->w.cell? ⟨g,off+j,none⟩=some v:=by
 intro j v hv
 simp only[World.cell?,h]
 rw[List.getElem?_take]at hv
 split at hv
 ·rw[List.getElem?_drop]at hv
  simpa using hv
 ·cases hv
variable {s:Nat}
theorem Jy {x:Vr} (k:Nat) (hk:V[k]?=some x) (AM:x.slot=s) (ho:bA ms i x=true) (bS:x.kd=.ptr) (hst:(x.st.all λq=>(ms.getD i 0).testBit q.1||(ms.getD q.1 0).testBit i)=true)
  (ht:Ty P T x.agg x.n) (hc:cont (λj=>(ms.getD i 0).testBit j) x.c0 x.st=pv p) (hp:Post G i p):
  OpOk P ops ms c V A G i ⟨some d,.load T (.tmp s),ty,pos,aL,none⟩:=
 cq rfl rfl rfl (.inl rfl) hp λL β a w hI hd=>by
  obtain⟨g,hg,wF,hv⟩:=mg hI hd (List.mem_of_getElem? hk) ho bS
  obtain⟨cs,h1,h2,h3,h4⟩:=hv.held
  rw[Cb hd hst,hc]at h4
  refine⟨_,w,?_,Below.refl _ _,h4⟩
  show(do pure (Next.value (<-Instr.loadAt T (a.eval (.tmp s))))).run P w=_
  have e:a.eval (.tmp s)=.pointer (some ⟨g,0,none⟩):=by rw[<-AM]; exact wF
  rw[e]
  have:=eO (P:=P) (w:=w) (b:=g) (off:=0) ht (cs:=cs) (λj v hj=>by simp only[World.cell?,h1]; simpa using hj) h2
  simp only[Sem.run_bind,this,Result.andThen_ok,Sem.run_pure]
variable {al:Al} {q:Pred}
theorem dw {x:Vr} (k:Nat) (hk:V[k]?=some x) (k2:Nat) (hk2:A[k2]?=some al) (hs:al.slot=s) (hv:al.var=x.id) (hoff:al.off=off) (Sz:qQ ms i al.tag=true) (hcd:al.cond) (ho:bA ms i x=true) (bS:x.kd=.ptr) (hst:(x.st.all λq=>(ms.getD i 0).testBit q.1||(ms.getD q.1 0).testBit i)=true)
  (ht:Ty P T agg n) (hlen:decide (off+n<=x.n)=true) (hc:cont (λj=>(ms.getD i 0).testBit j) x.c0 x.st=pv p) (hq:∀w cs,cs.length=x.n->p w (au x.agg cs)->q w (au agg ((cs.drop off).take n))) (hp:Post G i q):
  OpOk P ops ms c V A G i ⟨some d,.load T (.tmp s),ty,pos,aL,none⟩:=
 cq rfl rfl rfl (.inl rfl) hp λL β a w hI hd=>by
  have hlen:=of_decide_eq_true hlen
  obtain⟨g,hg,wF,Mw⟩:=mg hI hd (List.mem_of_getElem? hk) ho bS
  obtain⟨cs,h1,h2,h3,h4⟩:=Mw.held
  rw[Cb hd hst,hc]at h4
  refine⟨_,w,?_,Below.refl _ _,h4.imp λw=>hq w cs h2⟩
  show(do pure (Next.value (<-Instr.loadAt T (a.eval (.tmp s))))).run P w=_
  have e:a.eval (.tmp s)=.pointer (some ⟨g,off,none⟩):=by
   obtain⟨g',sF,this⟩:=hI.al al (List.mem_of_getElem? hk2) (hd.on Sz) hcd
   rw[hv]at sF
   rw[hs,hoff,(hg g').1 sF]at this
   exact this
  rw[e]
  have:=eO (P:=P) (w:=w) (b:=g) (off:=off) ht (cs:=(cs.drop off).take n) (iq h1 off n) (by simp; omega)
  simp only[Sem.run_bind,this,Result.andThen_ok,Sem.run_pure]
variable {S zc:Nat}
theorem dM {f:Nat} {x:Vr} (k:Nat) (hk:V[k]?=some x) (ho:bA ms i x=true) (bS:x.kd=.ptr) (k2:Nat) (hk2:A[k2]?=some al) (Mt:al.tag=some i) (Mu:al.var=x.id) (fC:al.off=off)
  (hs:s=x.slot/\zc=0\/∃(k3:Nat) (pq:Al),A[k3]?=some pq/\pq.slot=s/\pq.var=x.id/\pq.off=zc/\qQ ms i pq.tag=true/\pq.cond) (hu:(A.filter λq=>q.tag==some i).length=1) (hno:(G.all λe=>e.tag != some i)=true)
  (hf:∀b w,(Instr.fieldAt S (.pointer (some ⟨b,zc,none⟩)) f).run P w=.ok (.pointer (some ⟨b,off,none⟩)) w):
  OpOk P ops ms c V A G i ⟨some d,.fieldAddr S (.tmp s) f,ty,pos,aL,none⟩:=by
 refine iR (λL β a w hI hd hwf=>?_) rfl
 obtain⟨g,hg,wF,Mw⟩:=mg hI hd (List.mem_of_getElem? hk) ho bS
 have e:a.eval (.tmp s)=.pointer (some ⟨g,zc,none⟩):=by
  rcases hs with⟨rfl,rfl⟩|⟨k3,pq,hk3,rfl,h2,h3,h4,h5⟩
  ·exact wF
  ·obtain⟨g',sF,this⟩:=hI.al pq (List.mem_of_getElem? hk3) (hd.on h4) h5
   rw[h2]at sF
   rw[h3,(hg g').1 sF]at this
   exact this
 have hr:(execOp a.eval ⟨some d,.fieldAddr S (.tmp s) f,ty,pos,aL,none⟩).run P w=.ok (.value (.pointer (some ⟨g,off,none⟩))) w:=by
  show(do pure (Next.value (<-Instr.fieldAt S (a.eval (.tmp s)) f))).run P w=_
  rw[e]
  simp only[Sem.run_bind,hf,Result.andThen_ok,Sem.run_pure]
 refine eE hr ⟨β,hI.value hwf (qA hwf rfl) rfl (Below.refl _ _) (λd' q _ hq Ez _=>?_) λe' he' ht'=>?_⟩
 ·have:q=al:=cw hu hq (List.mem_of_getElem? hk2) (by simp[Ez]) (by simp[Mt])
  exact⟨g,by rw[this,Mu]; exact(hg g).2 rfl,by rw[this,fC]⟩
 ·rw[List.all_eq_true]at hno
  have:=hno e' he'
  simp[ht']at this
theorem zf {n:Int} {x:Vr} (k:Nat) (hk:V[k]?=some x) (ho:bA ms i x=true) (bS:x.kd=.ptr) (k2:Nat) (hk2:A[k2]?=some al) (Mt:al.tag=some i) (Mu:al.var=x.id) (fC:al.off=off)
  (hs:s=x.slot/\zc=0\/∃(k3:Nat) (pq:Al),A[k3]?=some pq/\pq.slot=s/\pq.var=x.id/\pq.off=zc/\qQ ms i pq.tag=true/\pq.cond) (hu:(A.filter λq=>q.tag==some i).length=1) (hno:(G.all λe=>e.tag != some i)=true)
  (Pk:Has ms G i y (pI n)) (hf:∀b w,(Instr.indexAt S (.pointer (some ⟨b,zc,none⟩)) (.int .i64 n)).run P w=.ok (.pointer (some ⟨b,off,none⟩)) w):
  OpOk P ops ms c V A G i ⟨some d,.indexAddr S (.tmp s) y,ty,pos,aL,none⟩:=by
 refine iR (λL β a w hI hd hwf=>?_) rfl
 obtain⟨g,hg,wF,Mw⟩:=mg hI hd (List.mem_of_getElem? hk) ho bS
 have e:a.eval (.tmp s)=.pointer (some ⟨g,zc,none⟩):=by
  rcases hs with⟨rfl,rfl⟩|⟨k3,pq,hk3,rfl,h2,h3,h4,h5⟩
  ·exact wF
  ·obtain⟨g',sF,this⟩:=hI.al pq (List.mem_of_getElem? hk3) (hd.on h4) h5
   rw[h2]at sF
   rw[h3,(hg g').1 sF]at this
   exact this
 have ei:a.eval y=.int .i64 n:=(Pk.spec hI hd).out
 have hr:(execOp a.eval ⟨some d,.indexAddr S (.tmp s) y,ty,pos,aL,none⟩).run P w=.ok (.value (.pointer (some ⟨g,off,none⟩))) w:=by
  show(do pure (Next.value (<-Instr.indexAt S (a.eval (.tmp s)) (a.eval y)))).run P w=_
  rw[e,ei]
  simp only[Sem.run_bind,hf,Result.andThen_ok,Sem.run_pure]
 refine eE hr ⟨β,hI.value hwf (qA hwf rfl) rfl (Below.refl _ _) (λd' q _ hq Ez _=>?_) λe' he' ht'=>?_⟩
 ·have:q=al:=cw hu hq (List.mem_of_getElem? hk2) (by simp[Ez]) (by simp[Mt])
  exact⟨g,by rw[this,Mu]; exact(hg g).2 rfl,by rw[this,fC]⟩
 ·rw[List.all_eq_true]at hno
  have:=hno e' he'
  simp[ht']at this
theorem aT.stored (h:aT c V A G L β a w) (hwf:kD c.N ops V A G i o) (hnone:o.dst=none) {x:Vr} (hx:x∈V) (eI:live L x=true) (I5:x.kd.qv=false) (hnb:gj o.op=false) {g:Nat} (hg:∀k,β x.id k↔k=g)
  {cs cs':List Value} (hcs:w.heap[g]?=some (.cells cs.toArray x.T (0,0))) (hl:cs'.length=x.n) (hn:∀u∈cs',gv u)
  (hc:aM (own c V L β) (λw=>cont (upd L i) x.c0 x.st (·=g) w (au x.agg cs')) w) (nW:(V.all λy=>y.id==x.id||y.st.all λq=>q.1 != i)=true) (u:Value):
  Inv c V A G (upd L i) (a.put o.dst u) (w.setRow g cs'.toArray):=by
 have nb:=qA hwf hnb
 have hgx:β x.id g:=(hg g).2 rfl
 have og:∀o,own c V L β g o:=λo=>.inr ⟨x,hx,eI,hgx,by rw[Jk I5]; exact Nat.zero_le _⟩
 have ext:∀M:Nat->Nat->Prop,(∀o,M g o)->Ext M w (w.setRow g cs'.toArray):=λM hM=>⟨Nat.le_of_eq size_setRow.symm,λk hk hno=>aC λe=>hno 0 (by rw[e]; exact hM 0),λk o v hno hv=>by
  have xu:k≠g:=λe=>hno (by rw[e]; exact hM o)
  rw[World.cell?_of_block (w:=w) (a:=⟨k,o,none⟩) (aC xu)]; exact hv⟩
 have he:Ext (own c V L β) w (w.setRow g cs'.toArray):=ext _ og
 have qw:=h.var x hx eI
 have hnew:=(qw.blk hgx).1
 have hput:a.put o.dst u=a:=by rw[hnone]; rfl
 have AK:∀k,k<c.w0.heap.size->¬c.gw k->k≠g:=λk h1 h2 e=>hnew.elim (λh3=>by omega) (λh3=>h2 (e▸h3))
 rw[hput]
 refine⟨β,h.size,h.defers,⟨h.below.os,h.below.tape,h.below.output,Nat.le_trans h.below.size (Nat.le_of_eq size_setRow.symm),λk hk hn=>(aC (AK k hk hn)).trans (h.below.block k hk hn)⟩,h.pZ λk hk hn=>aC (AK k hk hn),?_,?_,?_,?_⟩
 ·intro y hy hl'
  rw[cE (nb y hy).1 (nb y hy).2]at hl'
  rw[gm nb]
  by_cases qO:y.id=x.id
  ·have:y=x:=hwf.vu y x hy hx qO
   subst this
   obtain⟨g',e,h1,_⟩:=(bB I5).1 qw
   have e':=(e g).1 hgx
   subst e'
   exact(bB I5).2 ⟨g,hg,h1,hnew,cs',setRow_heap w _ _ _ _ _ hcs,hl,hn,hc.ext he⟩
  ·rw[List.all_eq_true]at nW
   have h5:=nW y hy
   simp only[Bool.or_eq_true,beq_iff_eq,qO,false_or,List.all_eq_true,bne_iff_ne]at h5
   have KA:¬β y.id g:=λe=>h.apart y x g hy hx hl' eI qO e hgx
   exact(h.var y hy hl').keep rfl rfl (λg' sF=>aC λe=>KA (e▸sF)) (Nat.le_of_eq size_setRow.symm) (λF hF=>hF.ext he) (λF hF=>hF.ext (ext _ λo=>⟨og o,KA⟩)) (jo h5)
 ·intro y y' g' hy hy' h1 h2 hne
  rw[cE (nb y hy).1 (nb y hy).2]at h1
  rw[cE (nb y' hy').1 (nb y' hy').2]at h2
  exact h.apart y y' g' hy hy' h1 h2 hne
 ·intro p hp hl' hcd
  have hpt:p.tag≠some i:=λe=>by have:=hwf.a2 p hp e; rw[hnone]at this; cases this
  rw[bX hpt]at hl'
  exact h.al p hp hl' hcd
 ·intro e AH hl' hf
  obtain⟨hf,IU⟩:=jW hf
  have ht:e.tag≠some i:=λe'=>by have:=hwf.g2 e AH e'; rw[hnone]at this; cases this
  rw[bX ht]at hl'
  rw[gm nb]
  exact(h.gY e AH hl' hf).ext he
theorem pJ {st:List (Nat×Rel)} {q:Rel} (m:Nat) (hm:st[m]?=some (i,q)) (hd:mB ms i L) (hr:((st.drop (m+1)).all λr=>(ms.getD r.1 0).testBit i)=true) (c0:Rel):cont (upd L i) c0 st=q:=by
 have no:∀(st:List (Nat×Rel)) (p:Rel),(∀r∈st,upd L i r.1=false)->cont (upd L i) p st=p:=by
  intro st
  induction st with
  |nil=>intro p _; rfl
  |cons r st ih=>
   intro p hq
   obtain⟨j,dd⟩:=r
   rw[cont,hq (j,dd) (by simp)]
   exact ih p λq' Px=>hq q' (List.mem_cons_of_mem _ Px)
 induction st generalizing m c0 with
 |nil=>simp at hm
 |cons r st ih=>
  obtain⟨j,dd⟩:=r
  rw[cont]
  cases m with
  |zero=>
   simp at hm
   obtain⟨rfl,rfl⟩:=hm
   rw[Hg,if_pos rfl]
   refine no st _ λr hr'=>?_
   rw[List.all_eq_true]at hr
   have h1:=hr r (by simpa using hr')
   have hne:r.1≠j:=λe=>by rw[e,hd.irrefl]at h1; cases h1
   simp[upd,hne,hd.behind _ h1]
  |succ m=>exact ih m (by simpa using hm) (by simpa using hr) _
theorem oC (k:Nat) (hk:V[k]?=some v) (AM:v.slot=s) (ho:bA ms i v=true) (bS:v.kd=.ptr) (m:Nat) (hm:v.st[m]?=some (i,pv p)) (hr:((v.st.drop (m+1)).all λr=>(ms.getD r.1 0).testBit i)=true) (nU:(V.all λy=>y.id==v.id||y.st.all λq=>q.1 != i)=true)
  (ht:Ty P T v.agg v.n) (h:Has ms G i y p) (hf:Fits v.n v.agg p):
  OpOk P ops ms c V A G i ⟨none,.store T (.tmp s) y,ty,pos,aL,none⟩:=by
 refine iR (λL β a w hI hd hwf=>?_) rfl
 have hx:=List.mem_of_getElem? hk
 obtain⟨g,hg,wF,Mw⟩:=mg hI hd hx ho bS
 obtain⟨cs,h1,h2,h3,h4⟩:=Mw.held
 have hp:=h.spec hI hd
 obtain⟨ds,e,hl,hcells,hu⟩:=hf w _ hp.out
 have e0:a.eval (.tmp s)=.pointer (some ⟨g,0,none⟩):=by rw[<-AM]; exact wF
 have hr':(execOp a.eval ⟨none,.store T (.tmp s) y,ty,pos,aL,none⟩).run P w=.ok .skip (w.setRow g ds.toArray):=by
  show(do Instr.storeAt T (a.eval (.tmp s)) (a.eval y); pure Next.skip).run P w=_
  rw[e0]
  have:=ki (P:=P) (off:=0) ht h1 hcells hl (by omega) (λu gh=>(hu u gh).2)
  simp only[List.take_zero,List.nil_append,Nat.zero_add,List.drop_of_length_le (Nat.le_of_eq h2),List.append_nil]at this
  simp only[Sem.run_bind,this,Result.andThen_ok,Sem.run_pure]
 unfold Does
 rw[hr']
 exact hI.stored hwf rfl hx (hd.live ho) (by rw[bS]; rfl) rfl hg h1 hl (λu gh=>(hu u gh).1) (by rw[pJ m hm hd hr,<-e]; exact hp) nU _
theorem Bn {q0:Pred} (k:Nat) (hk:V[k]?=some v) (k2:Nat) (hk2:A[k2]?=some al) (hs:al.slot=s) (hv:al.var=v.id) (hoff:al.off=off) (Sz:qQ ms i al.tag=true) (hcd:al.cond) (ho:bA ms i v=true) (bS:v.kd=.ptr) (hst:(v.st.all λq=>q.1==i||((ms.getD i 0).testBit q.1||(ms.getD q.1 0).testBit i))=true)
  (m:Nat) (hm:v.st[m]?=some (i,pv q)) (hr:((v.st.drop (m+1)).all λr=>(ms.getD r.1 0).testBit i)=true) (nU:(V.all λy=>y.id==v.id||y.st.all λq=>q.1 != i)=true)
  (ht:Ty P T agg n) (hlen:decide (off+n<=v.n)=true) (hc:cont (λj=>(ms.getD i 0).testBit j) v.c0 v.st=pv q0) (h:Has ms G i y p) (hf:Fits n agg p)
  (hq:∀w cs ds,cs.length=v.n->ds.length=n->q0 w (au v.agg cs)->p w (au agg ds)->q w (au v.agg (cs.take off++ds++cs.drop (off+n)))):
  OpOk P ops ms c V A G i ⟨none,.store T (.tmp s) y,ty,pos,aL,none⟩:=by
 refine iR (λL β a w hI hd hwf=>?_) rfl
 have hlen:=of_decide_eq_true hlen
 have hx:=List.mem_of_getElem? hk
 obtain⟨g,hg,wF,Mw⟩:=mg hI hd hx ho bS
 obtain⟨cs,h1,h2,h3,h4⟩:=Mw.held
 have SH:cont L v.c0 v.st=cont (λj=>(ms.getD i 0).testBit j) v.c0 v.st:=by
  rw[List.all_eq_true]at hst
  refine ir λr hr'=>?_
  have:=hst r hr'
  simp only[Bool.or_eq_true,beq_iff_eq]at this
  rcases this with h5|h5|h5
  ·rw[h5,hd.no,hd.irrefl]
  ·rw[hd.before _ h5,h5]
  ·have h6:=hd.behind _ h5
   rw[h6]
   cases h7:(ms.getD i 0).testBit r.1 with
   |false=>rfl
   |true=>rw[hd.before _ h7]at h6; cases h6
 rw[SH,hc]at h4
 have hp:=h.spec hI hd
 obtain⟨ds,e,hl,hcells,hu⟩:=hf w _ hp.out
 have e0:a.eval (.tmp s)=.pointer (some ⟨g,off,none⟩):=by
  obtain⟨g',sF,this⟩:=hI.al al (List.mem_of_getElem? hk2) (hd.on Sz) hcd
  rw[hv]at sF
  rw[hs,hoff,(hg g').1 sF]at this
  exact this
 have hr':(execOp a.eval ⟨none,.store T (.tmp s) y,ty,pos,aL,none⟩).run P w=.ok .skip (w.setRow g (cs.take off++ds++cs.drop (off+n)).toArray):=by
  show(do Instr.storeAt T (a.eval (.tmp s)) (a.eval y); pure Next.skip).run P w=_
  rw[e0]
  have:=ki (P:=P) (off:=off) ht h1 hcells hl (by omega) (λu gh=>(hu u gh).2)
  simp only[Sem.run_bind,this,Result.andThen_ok,Sem.run_pure]
 unfold Does
 rw[hr']
 refine hI.stored hwf rfl hx (hd.live ho) (by rw[bS]; rfl) rfl hg h1 (by simp; omega) (λu gh=>?_) ?_ nU _
 ·simp only[List.mem_append]at gh
  rcases gh with(h5|h5)|h5
  ·exact h3 u (List.mem_of_mem_take h5)
  ·exact(hu u h5).1
  ·exact h3 u (List.mem_of_mem_drop h5)
 ·rw[pJ m hm hd hr]
  exactλw' he=>hq w' cs ds h2 hl (h4 w' he) (by rw[<-e]; exact hp w' he)
end
end Wx
