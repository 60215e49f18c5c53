import Derived.Deep.MidRow
import Derived.Laws.CopyRow
import Derived.KernelRfl
import Derived.Test.YtfnmkhlleanppaaGreatDoorCWCSem
namespace Wx
open Go Go.RowKit
def nR (ms:List Nat) (i:Nat):Option Nat->Bool
 |none=>true
 |some j=>(ms.getD i 0).testBit j
theorem iY.on {ms:List Nat} {i:Nat} {L:Nat->Bool} (h:iY ms i L) {t:Option Nat} (ht:nR ms i t=true):on L t=true:=by
 cases t with
 |none=>rfl
 |some j=>exact h.before j ht
def fN (ms:List Nat) (i:Nat):Option Nat->Bool
 |none=>true
 |some j=>j==i||(ms.getD j 0).testBit i
theorem iY.off {ms:List Nat} {i:Nat} {L:Nat->Bool} (h:iY ms i L) {t:Option Nat} (ht:fN ms i t=true):off L t=true:=by
 cases t with
 |none=>rfl
 |some j=>
  simp only[fN,Bool.or_eq_true,beq_iff_eq]at ht
  rcases ht with rfl|ht
  ·simp[Wx.off,h.no]
  ·simp[Wx.off,h.behind j ht]
variable {L:Nat->Bool} {i:Nat}
theorem gT {t:Option Nat} (h:off (upd L i) t=true):off L t=true/\t≠some i:=by
 cases t with
 |none=>exact⟨rfl,by simp⟩
 |some j=>
  simp only[off,upd]at h ⊢
  by_cases hj:j=i
  ·simp[hj]at h
  ·simp only[hj,if_false]at h
   exact⟨h,λe=>hj (by injection e)⟩
theorem iY.irrefl {ms:List Nat} (h:iY ms i L):(ms.getD i 0).testBit i=false:=by
 cases hb:(ms.getD i 0).testBit i with
 |false=>rfl
 |true=>have:=h.before i hb; rw[h.no]at this; cases this
def aG (v:Value):Pred:=λ_ u=>u=v
def pB (b:Bool):Pred:=aG (.bool b)
def pI (n:Int):Pred:=aG (.int .i64 n)
def aT:Pred:=λ_ _=>True
theorem cQ {b c:Bool} (h:b=c):∀w v,pB b w v->pB c w v:=λ_ _ k=>h▸k
theorem bh {b c:Int} (h:b=c):∀w v,pI b w v->pI c w v:=λ_ _ k=>h▸k
theorem aV (v:Value):aO (aG v):=λ_ _ _ _ h _ _=>h
theorem rT:aO aT:=λ_ _ _ _ _ _ _=>trivial
inductive Has (ms:List Nat) (G:List aN) (i:Nat):Operand->Pred->Prop
 |tmp {s:Nat} {t f:Option Nat} {p:Pred} (k:Nat) (h:G[k]?=some ⟨t,f,s,p⟩) (ht:(nR ms i t&&fN ms i f)=true):Has ms G i (.tmp s) p
 |const (v:Value):Has ms G i (.const v) (aG v)
 |func (f:FuncId):Has ms G i (.func f) (aG (.func (.func f) #[] #[]))
 |any (x:Operand):Has ms G i x aT
 |imp {x:Operand} {p q:Pred} (h:Has ms G i x p) (hq:∀w v,p w v->q w v):Has ms G i x q
inductive Post (G:List aN) (i:Nat) (p:Pred):Prop
 |at_ (k s:Nat) (q:Pred) {f:Option Nat} (h:G[k]?=some ⟨some i,f,s,q⟩) (hq:∀w v,p w v->q w v):Post G i p
 |none (h:(G.all λe=>e.tag != some i)=true):Post G i p
inductive me (A:List Al) (i:Nat):Prop
 |none (h:(A.all λq=>q.tag != some i)=true)
 |at_ (k:Nat) {al:Al} (hk:A[k]?=some al) (ht:al.tag=some i) (hu:(A.filter λq=>q.tag==some i).length=1) (hn:¬al.cond)
theorem me.spec {A:List Al} (h:me A i):∀p,p∈A->p.tag=some i->¬p.cond:=by
 intro p hp ht
 cases h with
 |none h=>
  rw[List.all_eq_true]at h
  have:=h p hp
  simp[ht]at this
 |at_ k hk hat hu hn=>
  rw[ck hu hp (List.mem_of_getElem? hk) (by simp[ht]) (by simp[hat])]
  exact hn
theorem Post.here {G:List aN} {p:Pred} (k:Nat) {s:Nat} {f:Option Nat} (h:G[k]?=some ⟨some i,f,s,p⟩):Post G i p:=.at_ k s p h λ_ _ h=>h
section
variable {P:Program} {ops:Array Oper} {ms:List Nat} {c:bQ} {V:List Vr} {A:List Al} {G:List aN} {i:Nat} {L:Nat->Bool} {β:Nat->Nat->Prop} {a:Act} {w:World} {o:Oper}{p:Pred}
theorem Has.spec {x:Operand} (h:Has ms G i x p) (hI:aQ c V A G L β a w) (hd:iY ms i L):aJ (own c V L β) (λw=>p w (a.eval x)) w:=by
 induction h with
 |tmp k h ht=>rw[Bool.and_eq_true]at ht; exact hI.ew _ (List.mem_of_getElem? h) (hd.on ht.1) (hd.off ht.2)
 |const v=>exactλ_ _=>rfl
 |func f=>exactλ_ _=>rfl
 |any x=>exactλ_ _=>trivial
 |imp _ hq ih=>exact ih.imp λw=>hq w _
theorem Post.spec (h:Post G i p) (hwf:gO c.N ops V A G i o) {e:aN} (he:e∈G) (ht:e.tag=some i):∀w v,p w v->e.p w v:=by
 cases h with
 |at_ k s q h hq=>
  have:=hwf.gu _ _ he (List.mem_of_getElem? h) ht rfl
  rw[this]; exact hq
 |none h=>
  rw[List.all_eq_true]at h
  have:=h e he
  simp[ht]at this
theorem kB (hI:aQ c V A G L β a w) {x:Vr} (hx:x∈V) (hl:live L x=true) {g:Nat} (hg:β x.id g):mine c g/\g<w.heap.size/\∀o v,w.cell? ⟨g,o,none⟩=some v->dB v:=(hI.var x hx hl).blk hg
theorem cE (hI:aQ c V A G L β a w) {x:Vr} (hx:x∈V) (hl:live L x=true) {g:Nat} (hg:β x.id g):g<w.heap.size:=(kB hI hx hl hg).2.1
theorem kS (hI:aQ c V A G L β a w) {k o:Nat} (h:own c V L β k o):k<w.heap.size:=by
 rcases h with h|⟨x,hx,h1,h2,_⟩
 ·exact Nat.lt_of_lt_of_le (hI.old k o h).1.1 hI.below.size
 ·exact cE hI hx h1 h2
theorem aF (hI:aQ c V A G L β a w):cS (own c V L β) w:=by
 intro k o h
 refine⟨kS hI h,λv hc=>?_⟩
 rcases h with h|⟨x,hx,h1,h2,_⟩
 ·exact(hI.old k o h).2 v hc
 ·exact(kB hI hx h1 h2).2.2 o v hc
theorem aQ.iK (hI:aQ c V A G L β a w) {w':World} (hb:∀k,k<c.w0.heap.size->¬c.dc k->w'.heap[k]?=w.heap[k]?):∀k o,c.M0 k o->(k<c.w0.heap.size/\¬c.dc k)/\∀v,w'.cell? ⟨k,o,none⟩=some v->dB v:=
 λk o hk=>⟨(hI.old k o hk).1,λv hc=>(hI.old k o hk).2 v (by rw[<-World.cell?_of_block (w:=w) (w':=w') (a:=⟨k,o,none⟩) (hb k (hI.old k o hk).1.1 (hI.old k o hk).1.2)]; exact hc)⟩
variable {M:Nat->Nat->Prop} {w':World}
theorem aJ.below {F:World->Prop} {w:World} (h:aJ M F w) (hb:Below w.heap.size w w'):aJ M F w':=h.ext (Ext.bH hb)
theorem cS.below {w:World} (h:cS M w) (hb:Below w.heap.size w w'):cS M w':=λk o hk=>⟨Nat.lt_of_lt_of_le (h k o hk).1 hb.size,λv hc=>(h k o hk).2 v (by rw[<-World.cell?_of_block (w:=w) (w':=w') (hb.block k (h k o hk).1)]; exact hc)⟩
variable {t:Option Nat}
theorem bY (h:t≠some i):on (upd L i) t=on L t:=by
 cases t with
 |none=>rfl
 |some j=>
  have:j≠i:=λe=>h (by rw[e])
  simp[on,upd,this]
theorem tE (h:t≠some i):off (upd L i) t=off L t:=by
 cases t with
 |none=>rfl
 |some j=>
  have:j≠i:=λe=>h (by rw[e])
  simp[off,upd,this]
theorem ct {x:Vr} (h1:x.born≠some i) (h2:x.dead≠some i):live (upd L i) x=live L x:=by unfold live; rw[bY h1,tE h2]
theorem eO (hV:∀x,x∈V->x.born≠some i/\x.dead≠some i):own c V (upd L i) β=own c V L β:=by
 funext k o
 apply propext
 constructor
 ·rintro(h|⟨x,hx,h1,h2⟩)
  ·exact .inl h
  ·exact .inr ⟨x,hx,by rw[<-ct (hV x hx).1 (hV x hx).2]; exact h1,h2⟩
 ·rintro(h|⟨x,hx,h1,h2⟩)
  ·exact .inl h
  ·exact .inr ⟨x,hx,by rw[ct (hV x hx).1 (hV x hx).2]; exact h1,h2⟩
theorem gy {st:List (Nat×Rel)} {p:Rel} (h:∀q∈st,q.1≠i):cont (upd L i) p st=cont L p st:=
 fu λq hq=>by simp[upd,h q hq]
theorem aQ.value (h:aQ c V A G L β a w) (hwf:gO c.N ops V A G i o) (nb:∀x,x∈V->x.born≠some i/\x.dead≠some i) (hs:dO o.op=false) {w':World} {v:Value} (he:Below w.heap.size w w')
  (hA:∀d p,o.dst=some d->p∈A->p.tag=some i->p.cond->∃g,β p.var g/\v=.pointer (some ⟨g,p.off,none⟩))
  (hG:∀e,e∈G->e.tag=some i->aJ (own c V L β) (λw=>e.p w v) w'):aQ c V A G (upd L i) β (a.put o.dst v) w':=by
 have hx:=Ext.bH (M:=own c V L β) he
 refine⟨by rw[fc]; exact h.size,by rw[put_defers]; exact h.defers,h.below.trans (bX.bH he),h.iK λk hk _=>he.block k (Nat.lt_of_lt_of_le hk h.below.size),?_,?_,?_,?_⟩
 ·intro x lT hl
  rw[ct (nb x lT).1 (nb x lT).2]at hl
  refine(h.var x lT hl).keep (bG λhd=>(hwf.v1 x lT hd).elim (nb x lT).1 (nb x lT).2) rfl (λg hg=>he.block g (cE h lT hl hg)) he.size (λF hF=>?_) (λF hF=>?_) (gy λq hq Ho=>by have:=hwf.vs x lT q hq Ho; rw[hs]at this; cases this)
  ·rw[eO nb]
   exact hF.ext hx
  ·rw[eO nb]
   exact hF.below he
 ·intro x y g lT eB h1 h2
  rw[ct (nb x lT).1 (nb x lT).2]at h1
  rw[ct (nb y eB).1 (nb y eB).2]at h2
  exact h.apart x y g lT eB h1 h2
 ·intro p hp hl hcd
  by_cases ht:p.tag=some i
  ·have hd:=hwf.a2 p hp ht
   obtain⟨g,hg,MM⟩:=hA _ p hd hp ht hcd
   subst MM
   refine⟨g,hg,?_⟩
   rw[hd]
   exact dr (by rw[h.size]; exact hwf.sz _ hd)
  ·rw[bY ht]at hl
   rw[bG λhd=>ht (hwf.a1 p hp hd)]
   exact h.al p hp hl hcd
 ·intro e sZ hl hf
  obtain⟨hf,A4⟩:=gT hf
  rw[eO nb]
  by_cases ht:e.tag=some i
  ·have hd:=hwf.g2 e sZ ht
   rw[hd,dr (by rw[h.size]; exact hwf.sz _ hd)]
   exact hG e sZ ht
  ·rw[bY ht]at hl
   rw[bG λhd=>(hwf.g1 e sZ hd).elim ht A4]
   exact(h.ew e sZ hl hf).ext hx
theorem aQ.skip (h:aQ c V A G L β a w) (hwf:gO c.N ops V A G i o) (nb:∀x,x∈V->(x.born≠some i/\x.dead≠some i)/\∀q,q∈x.st->q.1≠i) (hA:∀p,p∈A->p.tag=some i->¬p.cond)
  (hG:∀e,e∈G->e.tag=some i->aJ (own c V L β) (λw=>e.p w undef) w):aQ c V A G (upd L i) β (a.put o.dst undef) w:=by
 have yV:∀x,x∈V->x.born≠some i/\x.dead≠some i:=λx hx=>(nb x hx).1
 refine⟨by rw[fc]; exact h.size,by rw[put_defers]; exact h.defers,h.below,h.old,?_,?_,?_,?_⟩
 ·intro x lT hl
  rw[ct (yV x lT).1 (yV x lT).2]at hl
  refine(h.var x lT hl).keep (bG λhd=>(hwf.v1 x lT hd).elim (yV x lT).1 (yV x lT).2) rfl (λg hg=>rfl) (Nat.le_refl _) (λF hF=>?_) (λF hF=>?_) (gy λq hq=>(nb x lT).2 q hq)
  ·rw[eO yV]
   exact hF
  ·rw[eO yV]
   exact hF
 ·intro x y g lT eB h1 h2
  rw[ct (yV x lT).1 (yV x lT).2]at h1
  rw[ct (yV y eB).1 (yV y eB).2]at h2
  exact h.apart x y g lT eB h1 h2
 ·intro p hp hl hcd
  have wY:p.tag≠some i:=λe=>hA p hp e hcd
  rw[bY wY]at hl
  rw[bG λhd=>wY (hwf.a1 p hp hd)]
  exact h.al p hp hl hcd
 ·intro e sZ hl hf
  obtain⟨hf,A4⟩:=gT hf
  rw[eO yV]
  by_cases ht:e.tag=some i
  ·have hd:=hwf.g2 e sZ ht
   rw[hd,dr (by rw[h.size]; exact hwf.sz _ hd)]
   exact hG e sZ ht
  ·rw[bY ht]at hl
   rw[bG λhd=>(hwf.g1 e sZ hd).elim ht A4]
   exact h.ew e sZ hl hf
theorem lA (hwf:gO c.N ops V A G i o) (hb:fh o.op=false):∀x,x∈V->x.born≠some i/\x.dead≠some i:=by
 intro x hx
 constructor
 ·intro h
  have:=hwf.vk x hx (.inl h)
  rw[hb]at this
  cases this
 ·intro h
  have:=hwf.vk x hx (.inr h)
  rw[hb]at this
  cases this
theorem tC (h:(V.all λx=>x.born != some i&&x.dead != some i)=true):∀x,x∈V->x.born≠some i/\x.dead≠some i:=λx hx=>by
 rw[List.all_eq_true]at h
 have:=h x hx
 simpa using this
theorem eZ (h:∀L β a w,aQ c V A G L β a w->iY ms i L->gO c.N ops V A G i o->Does P o a w (Inv c V A G (upd L i))) (hg:o.guard=none):OpOk P ops ms c V A G i o:=by
 rintro L a w ⟨β,hI⟩ hd hwf
 unfold aW
 rw[if_pos (by simp[Region.wanted,hg])]
 exact h L β a w hI hd hwf
theorem cU {K:Act->World->Prop} {v:Value} (hr:(execOp a.eval o).run P w=.ok (.value v) w') (hK:K (a.put o.dst v) w'):Does P o a w K:=by
 unfold Does; rw[hr]; exact hK
theorem lW (hg:o.guard=none) (nb:gO c.N ops V A G i o->∀x,x∈V->x.born≠some i/\x.dead≠some i) (hs:dO o.op=false) (ha:fJ o.op=false\/(A.all λq=>q.tag != some i)=true) (hp:Post G i p)
  (hrun:∀L β a w,aQ c V A G L β a w->iY ms i L->∃v w',(execOp a.eval o).run P w=.ok (.value v) w'/\Below w.heap.size w w'/\aJ (own c V L β) (λw=>p w v) w'):OpOk P ops ms c V A G i o:=by
 refine eZ (λL β a w hI hd hwf=>?_) hg
 obtain⟨v,w',hr,hbl,hv⟩:=hrun L β a w hI hd
 refine cU hr ⟨β,hI.value hwf (nb hwf) hs hbl (λd q _ hq xb _=>?_) λe he ht=>hv.imp λw=>hp.spec hwf he ht w v⟩
 exfalso
 rcases ha with ha|ha
 ·have:=hwf.aa q hq xb; rw[ha]at this; cases this
 ·rw[List.all_eq_true]at ha; have:=ha q hq; simp[xb]at this
theorem bD (hg:o.guard=none) (hb:fh o.op=false) (hs:dO o.op=false) (ha:fJ o.op=false\/(A.all λq=>q.tag != some i)=true) (hp:Post G i p)
  (hrun:∀L β a w,aQ c V A G L β a w->iY ms i L->∃v w',(execOp a.eval o).run P w=.ok (.value v) w'/\Below w.heap.size w w'/\aJ (own c V L β) (λw=>p w v) w'):OpOk P ops ms c V A G i o:=
 lW hg (λhwf=>lA hwf hb) hs ha hp hrun
variable {p1:Pred} {x1:Operand}
theorem eL (hg:o.guard=none) (hb:fh o.op=false) (hs:dO o.op=false) (ha:fJ o.op=false) (h1:Has ms G i x1 p1) (hp:Post G i p)
  (hrun:∀(ρ:Operand->Value) w,p1 w (ρ x1)->∃v,(execOp ρ o).run P w=.ok (.value v) w/\∀w,p1 w (ρ x1)->p w v):OpOk P ops ms c V A G i o:=
 bD hg hb hs (.inl ha) hp λL β a w hI hd=>by
  have k1:=h1.spec hI hd
  obtain⟨v,h2,h3⟩:=hrun a.eval w k1.out
  exact⟨v,w,h2,Below.refl _ _,λw' he=>h3 w' (k1 w' he)⟩
theorem eM {p2:Pred} {x2:Operand} (hg:o.guard=none) (hb:fh o.op=false) (hs:dO o.op=false) (ha:fJ o.op=false) (h1:Has ms G i x1 p1) (h2:Has ms G i x2 p2) (hp:Post G i p)
  (hrun:∀(ρ:Operand->Value) w,p1 w (ρ x1)->p2 w (ρ x2)->∃v,(execOp ρ o).run P w=.ok (.value v) w/\∀w,p1 w (ρ x1)->p2 w (ρ x2)->p w v):OpOk P ops ms c V A G i o:=
 bD hg hb hs (.inl ha) hp λL β a w hI hd=>by
  have k1:=h1.spec hI hd
  have k2:=h2.spec hI hd
  obtain⟨v,h3,h4⟩:=hrun a.eval w k1.out k2.out
  exact⟨v,w,h3,Below.refl _ _,λw' he=>h4 w' (k1 w' he) (k2 w' he)⟩
variable {d:Nat} {x y z:Operand} {ty:TypeId} {pos:String} {aft:Array Edge}{p:Pred}
theorem uM (h:Has ms G i x p) (hp:Post G i p) (hnb:(V.all λx=>x.born != some i&&x.dead != some i)=true:=by kernel_rfl):OpOk P ops ms c V A G i ⟨some d,.move x,ty,pos,aft,none⟩:=
 lW rfl (λ_=>tC hnb) rfl (.inl rfl) hp λ_ _ a w hI hd=>⟨a.eval x,w,rfl,Below.refl _ _,h.spec hI hd⟩
theorem oB (h:Has ms G i x p) (hp:Post G i p) (hnb:(V.all λx=>x.born != some i&&x.dead != some i)=true:=by kernel_rfl):OpOk P ops ms c V A G i ⟨some d,.assign x,ty,pos,aft,none⟩:=
 lW rfl (λ_=>tC hnb) rfl (.inl rfl) hp λ_ _ a w hI hd=>⟨a.eval x,w,rfl,Below.refl _ _,h.spec hI hd⟩
variable {b:Bool}
theorem zo {F6:TypeId} (h:Has ms G i x (pB b)) (hp:Post G i (pB (!b))):OpOk P ops ms c V A G i ⟨some d,.unOp .not F6 x,ty,pos,aft,none⟩:=
 eL rfl rfl rfl rfl h hp λρ w h=>⟨.bool !b,by have h:ρ x=.bool b:=h; show(do pure (Next.value (<-Op.unary .not (ρ x)))).run P w=_; rw[h]; rfl,λ_ _=>rfl⟩
variable {q:Pred}
theorem dQ {n:Nat} (h:Has ms G i x p) (hx:∀w v,p w v->∃vs u,v=.tuple vs/\vs[n]?=some u/\q w u) (hp:Post G i q):OpOk P ops ms c V A G i ⟨some d,.extract x n,ty,pos,aft,none⟩:=
 eL rfl rfl rfl rfl h hp λρ w h=>by
  obtain⟨vs,u,e,h1,h2⟩:=hx w _ h
  refine⟨u,?_,λw' h'=>?_⟩
  ·show(do pure (Next.value (<-Instr.extract (ρ x) n))).run P w=_
   have hx:Instr.extract (ρ x) n=pure u:=by rw[e]; unfold Instr.extract; simp only[h1]
   rw[hx]
   rfl
  ·obtain⟨vs',u',e',ID,L4⟩:=hx w' _ h'
   rw[e]at e'
   injection e' with e'
   subst e'
   rw[h1]at ID
   injection ID with ID
   rw[ID]
   exact L4
theorem qm (h:Has ms G i x (pB b)) (ht:b=true->Has ms G i y q) (hf:b=false->Has ms G i z q) (hp:Post G i q):OpOk P ops ms c V A G i ⟨some d,.pick x y z,ty,pos,aft,none⟩:=
 bD rfl rfl rfl (.inl rfl) hp λL β a w hI hd=>by
  have k:=(h.spec hI hd).out
  have k:a.eval x=.bool b:=k
  cases b with
  |true=>
   refine⟨a.eval y,w,?_,Below.refl _ _,(ht rfl).spec hI hd⟩
   show(do pure (Next.value (if <-asBool (a.eval x)then a.eval y else a.eval z))).run P w=_
   rw[k]; rfl
  |false=>
   refine⟨a.eval z,w,?_,Below.refl _ _,(hf rfl).spec hI hd⟩
   show(do pure (Next.value (if <-asBool (a.eval x)then a.eval y else a.eval z))).run P w=_
   rw[k]; rfl
variable {v:Value}
theorem cD {op:BinOp} {xt yt:TypeId} {k k':IntKind} {m n:Int} (h1:Has ms G i x (aG (.int k m))) (h2:Has ms G i y (aG (.int k' n))) (hr:∀w,(Go.binOp op xt (.int k m) (.int k' n)).run P w=.ok v w) (hp:Post G i (aG v)):
  OpOk P ops ms c V A G i ⟨some d,.binOp op xt x y yt,ty,pos,aft,none⟩:=
 eM rfl rfl rfl rfl h1 h2 hp λρ w h1 h2=>⟨v,by
  have h1:ρ x=.int k m:=h1
  have h2:ρ y=.int k' n:=h2
  show(do pure (Next.value (<-(do eqGuard op xt x y (ρ x) (ρ y); Go.binOp op xt (ρ x) (ρ y))))).run P w=_
  rw[h1,h2]
  have hgd:eqGuard op xt x y (.int k m) (.int k' n)=pure ():=by unfold eqGuard; split<;>rfl
  rw[hgd]
  have:=hr w
  simp only[pure_bind,Sem.run_bind,this,Result.andThen_ok,Sem.run_pure],λ_ _ _=>rfl⟩
theorem fY {S D:TypeId} {u:Value} (h:Has ms G i x (aG v)) (hr:∀w,(Go.convert S D v).run P w=.ok u w) (hp:Post G i (aG u)):OpOk P ops ms c V A G i ⟨some d,.convert S D x,ty,pos,aft,none⟩:=
 eL rfl rfl rfl rfl h hp λρ w h=>⟨u,by
  have h:ρ x=v:=h
  show(do pure (Next.value (<-Go.convert S D (ρ x)))).run P w=_
  rw[h,Sem.run_bind,hr]
  rfl,λ_ _=>rfl⟩
def cI (M:Nat->Nat->Prop) (p:Pred) (w:World) (e:Ending) (w':World):Prop:=∃v,e=.returned v/\aJ M (λw=>p w v) w'/\Below w.heap.size w w'
def aK (P:Program) (f:FuncId):Prop:=∀args w,(callFunc f args).run P w=.ok (.enter f args) w
variable {f:FuncId} {args:Array Operand} {ts:Array TypeId}
theorem gB {K:Act->World->Prop} (hf:aK P f) (h:Calls P f (args.map a.eval) w λe w'=>∃v,e=.returned v/\K (a.put (some d) v) w'):
  Does P ⟨some d,.call ⟨.value (.func f),args,ts⟩,ty,pos,aft,none⟩ a w K:=by
 have hr:(execOp a.eval ⟨some d,.call ⟨.value (.func f),args,ts⟩,ty,pos,aft,none⟩).run P w=.ok (.enter f (args.map a.eval)) w:=by
  have:=hf (args.map a.eval++#[]) w
  simp only[execOp,resolve,Act.eval,Deferred.ofValue,pure_bind,invoke]
  rw[Array.append_empty]at this
  first|exact this|simpa using this
 unfold Does
 rw[hr]
 exact h
theorem fX (hf:aK P f) (hp:Post G i p)
  (hc:∀L β a w,aQ c V A G L β a w->iY ms i L->Calls P f (args.map a.eval) w (cI (own c V L β) p w)):
  OpOk P ops ms c V A G i ⟨some d,.call ⟨.value (.func f),args,ts⟩,ty,pos,aft,none⟩:=by
 refine eZ (λL β a w hI hd hwf=>gB hf ((hc L β a w hI hd).mono ?_)) rfl
 rintro e w' ⟨v,rfl,hv,hb⟩
 exact⟨v,rfl,β,hI.value hwf (lA hwf rfl) rfl hb (λd q _ hq xb _=>by have:=hwf.aa q hq xb; cases this) λe he ht=>hv.imp λw=>hp.spec hwf he ht w v⟩
variable {p1:Pred}
theorem wm (hf:aK P f) (h1:Has ms G i x p1) (hp:Post G i p)
  (hc:∀M w v1,cS M w->aJ M (λw=>p1 w v1) w->Calls P f #[v1] w (cI M p w)):OpOk P ops ms c V A G i ⟨some d,.call ⟨.value (.func f),#[x],ts⟩,ty,pos,aft,none⟩:=
 fX hf hp λ_ _ a w hI hd=>(by
  rw[show(#[x]:Array Operand).map a.eval=#[a.eval x] by simp]
  exact hc _ w _ (aF hI) (h1.spec hI hd))
theorem oC {p2:Pred} (hf:aK P f) (h1:Has ms G i x p1) (h2:Has ms G i y p2) (hp:Post G i p)
  (hc:∀M w v1 v2,cS M w->aJ M (λw=>p1 w v1) w->aJ M (λw=>p2 w v2) w->Calls P f #[v1,v2] w (cI M p w)):OpOk P ops ms c V A G i ⟨some d,.call ⟨.value (.func f),#[x,y],ts⟩,ty,pos,aft,none⟩:=
 fX hf hp λ_ _ a w hI hd=>(by
  rw[show(#[x,y]:Array Operand).map a.eval=#[a.eval x,a.eval y] by simp]
  exact hc _ w _ _ (aF hI) (h1.spec hI hd) (h2.spec hI hd))
variable {j:Nat} {φ:Prop}
theorem zq [Decidable φ] {op:Op} {dst:Option Nat} {p:Pred} (k:Nat) {s:Nat} {f:Option Nat} (hk:G[k]?=some ⟨some j,f,s,p⟩) (hj:((ms.getD i 0).testBit j&&fN ms i f)=true)
  (hy:∀w v,p w v->φ->v=.bool b) (hn:∀w v,p w v->¬φ->v≠.bool b)
  (h:φ->OpOk P ops ms c V A G i ⟨dst,op,ty,pos,aft,none⟩)
  (hb:¬φ->(V.all λx=>(x.born != some i&&x.dead != some i)&&x.st.all λq=>q.1 != i)=true) (hA:¬φ->me A i) (hp:¬φ->Post G i (aG undef)):
  OpOk P ops ms c V A G i ⟨dst,op,ty,pos,aft,some (j,b)⟩:=by
 rintro L a w ⟨β,hI⟩ hd hwf
 have CU:=List.mem_of_getElem? hk
 rw[Bool.and_eq_true]at hj
 have hv:=(hI.ew _ CU (hd.before j hj.1) (hd.off hj.2)).out
 have CZ:=hwf.g3 _ j CU rfl
 simp only at CZ
 have hs:s<a.tmps.size:=by rw[hI.size]; exact hwf.sg _ CU
 have IW:yielded ops a.tmps j=match sl a s with|.bool b=>some b|_=>none:=by
  unfold yielded
  rw[CZ]
  simp only[Option.bind_some,Array.getElem?_eq_getElem hs,sl,Array.getD_eq_getD_getElem?,Option.getD_some]
  cases a.tmps[s]<;>rfl
 by_cases hφ:φ
 ·have hv':=hy w _ hv hφ
  have hw:Region.wanted (⟨dst,op,ty,pos,aft,some (j,b)⟩:Oper) (yielded ops a.tmps)=true:=by
   simp only[Region.wanted,IW,hv',beq_self_eq_true]
  have h1:=h hφ L a w ⟨β,hI⟩ hd hwf.Co
  unfold aW at h1 ⊢
  rw[if_pos hw]
  rw[if_pos (by simp[Region.wanted])]at h1
  exact h1
 ·have hv':=hn w _ hv hφ
  have hw:¬Region.wanted (⟨dst,op,ty,pos,aft,some (j,b)⟩:Oper) (yielded ops a.tmps)=true:=by
   simp only[Region.wanted,IW]
   intro h
   apply hv'
   revert h
   cases sl a s<;>simp
  unfold aW
  rw[if_neg hw]
  refine⟨β,hI.skip hwf ?_ ?_ λe he ht=>?_⟩
  ·have:=hb hφ
   rw[List.all_eq_true]at this
   intro x hx
   have:=this x hx
   simp only[Bool.and_eq_true,List.all_eq_true,bne_iff_ne,ne_eq]at this
   exact this
  ·exact(hA hφ).spec
  ·exactλw' _=>(hp hφ).spec hwf he ht w' _ rfl
def jc (φ:Prop) (q:Pred):Pred:=λw v=>(φ->q w v)/\(¬φ->v=undef)
theorem Has.F5 {x:Operand} (h:Has ms G i x (jc φ q)) (hφ:φ):Has ms G i x q:=h.imp λ_ _ h=>h.1 hφ
theorem Post.F5 (hφ:φ) (k:Nat) {s:Nat} {f:Option Nat} (h:G[k]?=some ⟨some i,f,s,jc φ p⟩):Post G i p:=.at_ k s _ h λ_ _ h=>⟨λ_=>h,λhn=>absurd hφ hn⟩
theorem Post.FF (hφ:¬φ) (k:Nat) {s:Nat} {f:Option Nat} (h:G[k]?=some ⟨some i,f,s,jc φ q⟩):Post G i (aG undef):=.at_ k s _ h λ_ _ h=>⟨λhp=>absurd hp hφ,λ_=>h⟩
variable {op:Op} {cb:Bool} {dst:Option Nat}
theorem HW (k:Nat) {s:Nat} {f:Option Nat} (hk:G[k]?=some ⟨some j,f,s,pB cb⟩) (hj:((ms.getD i 0).testBit j&&fN ms i f)=true)
  (h:cb=b->OpOk P ops ms c V A G i ⟨dst,op,ty,pos,aft,none⟩)
  (hb:(V.all λx=>(x.born != some i&&x.dead != some i)&&x.st.all λq=>q.1 != i)=true) (hA:¬cb=b->me A i) (hp:¬cb=b->Post G i (aG undef)):OpOk P ops ms c V A G i ⟨dst,op,ty,pos,aft,some (j,b)⟩:=
 zq (φ:=cb=b) k hk hj (λ_ _ h e=>by rw[show _=Value.bool cb from h,e]) (λ_ _ h e e'=>e (by rw[show _=Value.bool cb from h]at e'; injection e')) h (λ_=>hb) hA hp
theorem Fb [Decidable φ] (k:Nat) {s:Nat} {f:Option Nat} (hk:G[k]?=some ⟨some j,f,s,jc φ (pB cb)⟩) (hj:((ms.getD i 0).testBit j&&fN ms i f)=true)
  (h:(φ/\cb=b)->OpOk P ops ms c V A G i ⟨dst,op,ty,pos,aft,none⟩)
  (hb:(V.all λx=>(x.born != some i&&x.dead != some i)&&x.st.all λq=>q.1 != i)=true) (hA:¬(φ/\cb=b)->me A i) (hp:¬(φ/\cb=b)->Post G i (aG undef)):OpOk P ops ms c V A G i ⟨dst,op,ty,pos,aft,some (j,b)⟩:=
 zq (φ:=φ/\cb=b) k hk hj (λ_ _ h e=>by rw[show _=Value.bool cb from h.1 e.1,e.2]) (λ_ u h e e'=>by
  by_cases hφ:φ
  ·have h1:u=Value.bool cb:=h.1 hφ
   rw[h1]at e'
   injection e' with e'
   exact e ⟨hφ,e'⟩
  ·rw[h.2 hφ]at e'
   simp[undef]at e') h (λ_=>hb) hA hp
end
end Wx
