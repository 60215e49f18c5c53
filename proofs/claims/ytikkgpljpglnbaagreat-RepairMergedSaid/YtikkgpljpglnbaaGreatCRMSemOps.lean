import Derived.Deep.MidRow
import Derived.Laws.CopyRow
import Derived.KernelRfl
import Derived.Test.YtikkgpljpglnbaaGreatCRMSem
namespace Wx
open Go Go.RowKit
def qQ (ms:List Nat) (i:Nat):Option Nat->Bool
 |none=>true
 |some j=>(ms.getD i 0).testBit j
theorem mB.on {ms:List Nat} {i:Nat} {L:Nat->Bool} (h:mB ms i L) {t:Option Nat} (ht:qQ ms i t=true):on L t=true:=by
 cases t with
 |none=>rfl
 |some j=>exact h.before j ht
def iQ (ms:List Nat) (i:Nat):Option Nat->Bool
 |none=>true
 |some j=>j==i||(ms.getD j 0).testBit i
theorem mB.off {ms:List Nat} {i:Nat} {L:Nat->Bool} (h:mB ms i L) {t:Option Nat} (ht:iQ ms i t=true):off L t=true:=by
 cases t with
 |none=>rfl
 |some j=>
  simp only[iQ,Bool.or_eq_true,beq_iff_eq]at ht
  rcases ht with rfl|ht
  ·simp[Wx.off,h.no]
  ·simp[Wx.off,h.behind j ht]
variable {L:Nat->Bool} {i:Nat}
theorem jW {t:Option Nat} (h:off (upd L i) t=true):off L t=true/\t≠some i:=by
 cases t with
 |none=>exact⟨rfl,by simp⟩
 |some j=>
  simp only[off,upd]at h ⊢
  by_cases hj:j=i
  ·simp[hj]at h
  ·simp only[hj,if_false]at h
   exact⟨h,λe=>hj (by injection e)⟩
theorem mB.irrefl {ms:List Nat} (h:mB ms i L):(ms.getD i 0).testBit i=false:=by
 cases hb:(ms.getD i 0).testBit i with
 |false=>rfl
 |true=>have:=h.before i hb; rw[h.no]at this; cases this
def bp (v:Value):Pred:=λ_ u=>u=v
def pB (b:Bool):Pred:=bp (.bool b)
def pI (n:Int):Pred:=bp (.int .i64 n)
def iC:Pred:=λ_ _=>True
theorem cK {b c:Bool} (h:b=c):∀w v,pB b w v->pB c w v:=λ_ _ k=>h▸k
theorem cG {b c:Int} (h:b=c):∀w v,pI b w v->pI c w v:=λ_ _ k=>h▸k
theorem bO (v:Value):aA (bp v):=λ_ _ _ _ h _ _=>h
inductive Has (ms:List Nat) (G:List aV) (i:Nat):Operand->Pred->Prop
 |tmp {s:Nat} {t f:Option Nat} {p:Pred} (k:Nat) (h:G[k]?=some ⟨t,f,s,p⟩) (ht:(qQ ms i t&&iQ ms i f)=true):Has ms G i (.tmp s) p
 |const (v:Value):Has ms G i (.const v) (bp v)
 |func (f:FuncId):Has ms G i (.func f) (bp (.func (.func f) #[] #[]))
 |any (x:Operand):Has ms G i x iC
 |imp {x:Operand} {p q:Pred} (h:Has ms G i x p) (hq:∀w v,p w v->q w v):Has ms G i x q
inductive Post (G:List aV) (i:Nat) (p:Pred):Prop
 |at_ (k s:Nat) (q:Pred) {f:Option Nat} (h:G[k]?=some ⟨some i,f,s,q⟩) (hq:∀w v,p w v->q w v):Post G i p
 |none (h:(G.all λe=>e.tag != some i)=true):Post G i p
inductive ud (A:List Al) (i:Nat):Prop
 |none (h:(A.all λq=>q.tag != some i)=true)
 |at_ (k:Nat) {al:Al} (hk:A[k]?=some al) (ht:al.tag=some i) (hu:(A.filter λq=>q.tag==some i).length=1) (hn:¬al.cond)
theorem ud.spec {A:List Al} (h:ud A i):∀p,p∈A->p.tag=some i->¬p.cond:=by
 intro p hp ht
 cases h with
 |none h=>
  rw[List.all_eq_true]at h
  have:=h p hp
  simp[ht]at this
 |at_ k hk hat hu hn=>
  rw[cw hu hp (List.mem_of_getElem? hk) (by simp[ht]) (by simp[hat])]
  exact hn
theorem Post.here {G:List aV} {p:Pred} (k:Nat) {s:Nat} {f:Option Nat} (h:G[k]?=some ⟨some i,f,s,p⟩):Post G i p:=.at_ k s p h λ_ _ h=>h
section
variable {P:Program} {ops:Array Oper} {ms:List Nat} {c:cM} {V:List Vr} {A:List Al} {G:List aV} {i:Nat} {L:Nat->Bool} {β:Nat->Nat->Prop} {a:Act} {w:World} {o:Oper}{p:Pred}
theorem Has.spec {x:Operand} (h:Has ms G i x p) (hI:aT c V A G L β a w) (hd:mB ms i L):aM (own c V L β) (λw=>p w (a.eval x)) w:=by
 induction h with
 |tmp k h ht=>rw[Bool.and_eq_true]at ht; exact hI.gY _ (List.mem_of_getElem? h) (hd.on ht.1) (hd.off ht.2)
 |const v=>exactλ_ _=>rfl
 |func f=>exactλ_ _=>rfl
 |any x=>exactλ_ _=>trivial
 |imp _ hq ih=>exact ih.imp λw=>hq w _
theorem Post.spec (h:Post G i p) (hwf:kD c.N ops V A G i o) {e:aV} (he:e∈G) (ht:e.tag=some i):∀w v,p w v->e.p w v:=by
 cases h with
 |at_ k s q h hq=>
  have:=hwf.gu _ _ he (List.mem_of_getElem? h) ht rfl
  rw[this]; exact hq
 |none h=>
  rw[List.all_eq_true]at h
  have:=h e he
  simp[ht]at this
theorem C6 (hI:aT c V A G L β a w) {x:Vr} (hx:x∈V) (hl:live L x=true) {g:Nat} (hg:β x.id g):mine c g/\g<w.heap.size/\∀o v,w.cell? ⟨g,o,none⟩=some v->gv v:=(hI.var x hx hl).blk hg
theorem fW (hI:aT c V A G L β a w) {x:Vr} (hx:x∈V) (hl:live L x=true) {g:Nat} (hg:β x.id g):g<w.heap.size:=(C6 hI hx hl hg).2.1
theorem wO (hI:aT c V A G L β a w) {k o:Nat} (h:own c V L β k o):k<w.heap.size:=by
 rcases h with h|⟨x,hx,h1,h2,_⟩
 ·exact Nat.lt_of_lt_of_le (hI.old k o h).1.1 hI.below.size
 ·exact fW hI hx h1 h2
theorem aZ (hI:aT c V A G L β a w):cR (own c V L β) w:=by
 intro k o h
 refine⟨wO hI h,λv hc=>?_⟩
 rcases h with h|⟨x,hx,h1,h2,_⟩
 ·exact(hI.old k o h).2 v hc
 ·exact(C6 hI hx h1 h2).2.2 o v hc
theorem aT.pZ (hI:aT c V A G L β a w) {w':World} (hb:∀k,k<c.w0.heap.size->¬c.gw k->w'.heap[k]?=w.heap[k]?):∀k o,c.M0 k o->(k<c.w0.heap.size/\¬c.gw k)/\∀v,w'.cell? ⟨k,o,none⟩=some v->gv v:=
 λk o hk=>⟨(hI.old k o hk).1,λv hc=>(hI.old k o hk).2 v (by rw[<-World.cell?_of_block (w:=w) (w':=w') (a:=⟨k,o,none⟩) (hb k (hI.old k o hk).1.1 (hI.old k o hk).1.2)]; exact hc)⟩
variable {M:Nat->Nat->Prop} {w':World}
theorem aM.below {F:World->Prop} {w:World} (h:aM M F w) (hb:Below w.heap.size w w'):aM M F w':=h.ext (Ext.bI hb)
theorem cR.below {w:World} (h:cR M w) (hb:Below w.heap.size w w'):cR M w':=λk o hk=>⟨Nat.lt_of_lt_of_le (h k o hk).1 hb.size,λv hc=>(h k o hk).2 v (by rw[<-World.cell?_of_block (w:=w) (w':=w') (hb.block k (h k o hk).1)]; exact hc)⟩
variable {t:Option Nat}
theorem bX (h:t≠some i):on (upd L i) t=on L t:=by
 cases t with
 |none=>rfl
 |some j=>
  have:j≠i:=λe=>h (by rw[e])
  simp[on,upd,this]
theorem Bf (h:t≠some i):off (upd L i) t=off L t:=by
 cases t with
 |none=>rfl
 |some j=>
  have:j≠i:=λe=>h (by rw[e])
  simp[off,upd,this]
theorem cE {x:Vr} (h1:x.born≠some i) (h2:x.dead≠some i):live (upd L i) x=live L x:=by unfold live; rw[bX h1,Bf h2]
theorem gm (hV:∀x,x∈V->x.born≠some i/\x.dead≠some i):own c V (upd L i) β=own c V L β:=by
 funext k o
 apply propext
 constructor
 ·rintro(h|⟨x,hx,h1,h2⟩)
  ·exact .inl h
  ·exact .inr ⟨x,hx,by rw[<-cE (hV x hx).1 (hV x hx).2]; exact h1,h2⟩
 ·rintro(h|⟨x,hx,h1,h2⟩)
  ·exact .inl h
  ·exact .inr ⟨x,hx,by rw[cE (hV x hx).1 (hV x hx).2]; exact h1,h2⟩
theorem jo {st:List (Nat×Rel)} {p:Rel} (h:∀q∈st,q.1≠i):cont (upd L i) p st=cont L p st:=
 ir λq hq=>by simp[upd,h q hq]
theorem aT.value (h:aT c V A G L β a w) (hwf:kD c.N ops V A G i o) (nb:∀x,x∈V->x.born≠some i/\x.dead≠some i) (hs:eD o.op=false) {w':World} {v:Value} (he:Below w.heap.size w w')
  (hA:∀d p,o.dst=some d->p∈A->p.tag=some i->p.cond->∃g,β p.var g/\v=.pointer (some ⟨g,p.off,none⟩))
  (hG:∀e,e∈G->e.tag=some i->aM (own c V L β) (λw=>e.p w v) w'):aT c V A G (upd L i) β (a.put o.dst v) w':=by
 have hx:=Ext.bI (M:=own c V L β) he
 refine⟨by rw[jt]; exact h.size,by rw[put_defers]; exact h.defers,h.below.trans (cz.bI he),h.pZ λk hk _=>he.block k (Nat.lt_of_lt_of_le hk h.below.size),?_,?_,?_,?_⟩
 ·intro x ry hl
  rw[cE (nb x ry).1 (nb x ry).2]at hl
  refine(h.var x ry hl).keep (bZ λhd=>(hwf.v1 x ry hd).elim (nb x ry).1 (nb x ry).2) rfl (λg hg=>he.block g (fW h ry hl hg)) he.size (λF hF=>?_) (λF hF=>?_) (jo λq hq Pz=>by have:=hwf.vs x ry q hq Pz; rw[hs]at this; cases this)
  ·rw[gm nb]
   exact hF.ext hx
  ·rw[gm nb]
   exact hF.below he
 ·intro x y g ry qx h1 h2
  rw[cE (nb x ry).1 (nb x ry).2]at h1
  rw[cE (nb y qx).1 (nb y qx).2]at h2
  exact h.apart x y g ry qx h1 h2
 ·intro p hp hl hcd
  by_cases ht:p.tag=some i
  ·have hd:=hwf.a2 p hp ht
   obtain⟨g,hg,Cs⟩:=hA _ p hd hp ht hcd
   subst Cs
   refine⟨g,hg,?_⟩
   rw[hd]
   exact iG (by rw[h.size]; exact hwf.sz _ hd)
  ·rw[bX ht]at hl
   rw[bZ λhd=>ht (hwf.a1 p hp hd)]
   exact h.al p hp hl hcd
 ·intro e AH hl hf
  obtain⟨hf,IU⟩:=jW hf
  rw[gm nb]
  by_cases ht:e.tag=some i
  ·have hd:=hwf.g2 e AH ht
   rw[hd,iG (by rw[h.size]; exact hwf.sz _ hd)]
   exact hG e AH ht
  ·rw[bX ht]at hl
   rw[bZ λhd=>(hwf.g1 e AH hd).elim ht IU]
   exact(h.gY e AH hl hf).ext hx
theorem aT.skip (h:aT c V A G L β a w) (hwf:kD c.N ops V A G i o) (nb:∀x,x∈V->(x.born≠some i/\x.dead≠some i)/\∀q,q∈x.st->q.1≠i) (hA:∀p,p∈A->p.tag=some i->¬p.cond)
  (hG:∀e,e∈G->e.tag=some i->aM (own c V L β) (λw=>e.p w undef) w):aT c V A G (upd L i) β (a.put o.dst undef) w:=by
 have Ge:∀x,x∈V->x.born≠some i/\x.dead≠some i:=λx hx=>(nb x hx).1
 refine⟨by rw[jt]; exact h.size,by rw[put_defers]; exact h.defers,h.below,h.old,?_,?_,?_,?_⟩
 ·intro x ry hl
  rw[cE (Ge x ry).1 (Ge x ry).2]at hl
  refine(h.var x ry hl).keep (bZ λhd=>(hwf.v1 x ry hd).elim (Ge x ry).1 (Ge x ry).2) rfl (λg hg=>rfl) (Nat.le_refl _) (λF hF=>?_) (λF hF=>?_) (jo λq hq=>(nb x ry).2 q hq)
  ·rw[gm Ge]
   exact hF
  ·rw[gm Ge]
   exact hF
 ·intro x y g ry qx h1 h2
  rw[cE (Ge x ry).1 (Ge x ry).2]at h1
  rw[cE (Ge y qx).1 (Ge y qx).2]at h2
  exact h.apart x y g ry qx h1 h2
 ·intro p hp hl hcd
  have hpt:p.tag≠some i:=λe=>hA p hp e hcd
  rw[bX hpt]at hl
  rw[bZ λhd=>hpt (hwf.a1 p hp hd)]
  exact h.al p hp hl hcd
 ·intro e AH hl hf
  obtain⟨hf,IU⟩:=jW hf
  rw[gm Ge]
  by_cases ht:e.tag=some i
  ·have hd:=hwf.g2 e AH ht
   rw[hd,iG (by rw[h.size]; exact hwf.sz _ hd)]
   exact hG e AH ht
  ·rw[bX ht]at hl
   rw[bZ λhd=>(hwf.g1 e AH hd).elim ht IU]
   exact h.gY e AH hl hf
theorem qA (hwf:kD c.N ops V A G i o) (hb:gj o.op=false):∀x,x∈V->x.born≠some i/\x.dead≠some i:=by
 intro x hx
 constructor
 ·intro h
  have:=hwf.vk x hx (.inl h)
  rw[hb]at this
  cases this
 ·intro h
  have:=hwf.vk x hx (.inr h)
  rw[hb]at this
  cases this
theorem A8 (h:(V.all λx=>x.born != some i&&x.dead != some i)=true):∀x,x∈V->x.born≠some i/\x.dead≠some i:=λx hx=>by
 rw[List.all_eq_true]at h
 have:=h x hx
 simpa using this
theorem iR (h:∀L β a w,aT c V A G L β a w->mB ms i L->kD c.N ops V A G i o->Does P o a w (Inv c V A G (upd L i))) (hg:o.guard=none):OpOk P ops ms c V A G i o:=by
 rintro L a w ⟨β,hI⟩ hd hwf
 unfold cO
 rw[if_pos (by simp[Region.wanted,hg])]
 exact h L β a w hI hd hwf
theorem eE {K:Act->World->Prop} {v:Value} (hr:(execOp a.eval o).run P w=.ok (.value v) w') (hK:K (a.put o.dst v) w'):Does P o a w K:=by
 unfold Does; rw[hr]; exact hK
theorem rB (hg:o.guard=none) (nb:kD c.N ops V A G i o->∀x,x∈V->x.born≠some i/\x.dead≠some i) (hs:eD o.op=false) (ha:iw o.op=false\/(A.all λq=>q.tag != some i)=true) (hp:Post G i p)
  (hrun:∀L β a w,aT c V A G L β a w->mB ms i L->∃v w',(execOp a.eval o).run P w=.ok (.value v) w'/\Below w.heap.size w w'/\aM (own c V L β) (λw=>p w v) w'):OpOk P ops ms c V A G i o:=by
 refine iR (λL β a w hI hd hwf=>?_) hg
 obtain⟨v,w',hr,hbl,hv⟩:=hrun L β a w hI hd
 refine eE hr ⟨β,hI.value hwf (nb hwf) hs hbl (λd q _ hq Ez _=>?_) λe he ht=>hv.imp λw=>hp.spec hwf he ht w v⟩
 exfalso
 rcases ha with ha|ha
 ·have:=hwf.aa q hq Ez; rw[ha]at this; cases this
 ·rw[List.all_eq_true]at ha; have:=ha q hq; simp[Ez]at this
theorem cq (hg:o.guard=none) (hb:gj o.op=false) (hs:eD o.op=false) (ha:iw o.op=false\/(A.all λq=>q.tag != some i)=true) (hp:Post G i p)
  (hrun:∀L β a w,aT c V A G L β a w->mB ms i L->∃v w',(execOp a.eval o).run P w=.ok (.value v) w'/\Below w.heap.size w w'/\aM (own c V L β) (λw=>p w v) w'):OpOk P ops ms c V A G i o:=
 rB hg (λhwf=>qA hwf hb) hs ha hp hrun
variable {p1:Pred} {x1:Operand}
theorem iT (hg:o.guard=none) (hb:gj o.op=false) (hs:eD o.op=false) (ha:iw o.op=false) (h1:Has ms G i x1 p1) (hp:Post G i p)
  (hrun:∀(ρ:Operand->Value) w,p1 w (ρ x1)->∃v,(execOp ρ o).run P w=.ok (.value v) w/\∀w,p1 w (ρ x1)->p w v):OpOk P ops ms c V A G i o:=
 cq hg hb hs (.inl ha) hp λL β a w hI hd=>by
  have k1:=h1.spec hI hd
  obtain⟨v,h2,h3⟩:=hrun a.eval w k1.out
  exact⟨v,w,h2,Below.refl _ _,λw' he=>h3 w' (k1 w' he)⟩
variable {p2:Pred} {x2:Operand}
theorem jX (hg:o.guard=none) (hb:gj o.op=false) (hs:eD o.op=false) (ha:iw o.op=false) (h1:Has ms G i x1 p1) (h2:Has ms G i x2 p2) (hp:Post G i p)
  (hrun:∀(ρ:Operand->Value) w,p1 w (ρ x1)->p2 w (ρ x2)->∃v,(execOp ρ o).run P w=.ok (.value v) w/\∀w,p1 w (ρ x1)->p2 w (ρ x2)->p w v):OpOk P ops ms c V A G i o:=
 cq hg hb hs (.inl ha) hp λL β a w hI hd=>by
  have k1:=h1.spec hI hd
  have k2:=h2.spec hI hd
  obtain⟨v,h3,h4⟩:=hrun a.eval w k1.out k2.out
  exact⟨v,w,h3,Below.refl _ _,λw' he=>h4 w' (k1 w' he) (k2 w' he)⟩
theorem JA {p3:Pred} {x3:Operand} (hg:o.guard=none) (hb:gj o.op=false) (hs:eD o.op=false) (ha:iw o.op=false) (h1:Has ms G i x1 p1) (h2:Has ms G i x2 p2) (h3:Has ms G i x3 p3) (hp:Post G i p)
  (hrun:∀(ρ:Operand->Value) w,p1 w (ρ x1)->p2 w (ρ x2)->p3 w (ρ x3)->∃v,(execOp ρ o).run P w=.ok (.value v) w/\∀w,p1 w (ρ x1)->p2 w (ρ x2)->p3 w (ρ x3)->p w v):OpOk P ops ms c V A G i o:=
 cq hg hb hs (.inl ha) hp λL β a w hI hd=>by
  have k1:=h1.spec hI hd
  have k2:=h2.spec hI hd
  have k3:=h3.spec hI hd
  obtain⟨v,h4,h5⟩:=hrun a.eval w k1.out k2.out k3.out
  exact⟨v,w,h4,Below.refl _ _,λw' he=>h5 w' (k1 w' he) (k2 w' he) (k3 w' he)⟩
variable {d:Nat} {x y z:Operand} {ty:TypeId} {pos:String} {aL:Array Edge}{p:Pred}
theorem cJ (h:Has ms G i x p) (hp:Post G i p) (hnb:(V.all λx=>x.born != some i&&x.dead != some i)=true:=by kernel_rfl):OpOk P ops ms c V A G i ⟨some d,.move x,ty,pos,aL,none⟩:=
 rB rfl (λ_=>A8 hnb) rfl (.inl rfl) hp λ_ _ a w hI hd=>⟨a.eval x,w,rfl,Below.refl _ _,h.spec hI hd⟩
theorem dU (h:Has ms G i x p) (hp:Post G i p) (hnb:(V.all λx=>x.born != some i&&x.dead != some i)=true:=by kernel_rfl):OpOk P ops ms c V A G i ⟨some d,.assign x,ty,pos,aL,none⟩:=
 rB rfl (λ_=>A8 hnb) rfl (.inl rfl) hp λ_ _ a w hI hd=>⟨a.eval x,w,rfl,Below.refl _ _,h.spec hI hd⟩
variable {b:Bool}
theorem Gt {NM:TypeId} (h:Has ms G i x (pB b)) (hp:Post G i (pB (!b))):OpOk P ops ms c V A G i ⟨some d,.unOp .not NM x,ty,pos,aL,none⟩:=
 iT rfl rfl rfl rfl h hp λρ w h=>⟨.bool !b,by have h:ρ x=.bool b:=h; show(do pure (Next.value (<-Op.unary .not (ρ x)))).run P w=_; rw[h]; rfl,λ_ _=>rfl⟩
variable {q:Pred}
theorem iB {n:Nat} (h:Has ms G i x p) (hx:∀w v,p w v->∃vs u,v=.tuple vs/\vs[n]?=some u/\q w u) (hp:Post G i q):OpOk P ops ms c V A G i ⟨some d,.extract x n,ty,pos,aL,none⟩:=
 iT rfl rfl rfl rfl h hp λρ w h=>by
  obtain⟨vs,u,e,h1,h2⟩:=hx w _ h
  refine⟨u,?_,λw' h'=>?_⟩
  ·show(do pure (Next.value (<-Instr.extract (ρ x) n))).run P w=_
   have hx:Instr.extract (ρ x) n=pure u:=by rw[e]; unfold Instr.extract; simp only[h1]
   rw[hx]
   rfl
  ·obtain⟨vs',u',e',Qq,VI⟩:=hx w' _ h'
   rw[e]at e'
   injection e' with e'
   subst e'
   rw[h1]at Qq
   injection Qq with Qq
   rw[Qq]
   exact VI
theorem CO (h:Has ms G i x (pB b)) (ht:b=true->Has ms G i y q) (hf:b=false->Has ms G i z q) (hp:Post G i q):OpOk P ops ms c V A G i ⟨some d,.pick x y z,ty,pos,aL,none⟩:=
 cq rfl rfl rfl (.inl rfl) hp λL β a w hI hd=>by
  have k:=(h.spec hI hd).out
  have k:a.eval x=.bool b:=k
  cases b with
  |true=>
   refine⟨a.eval y,w,?_,Below.refl _ _,(ht rfl).spec hI hd⟩
   show(do pure (Next.value (if <-asBool (a.eval x)then a.eval y else a.eval z))).run P w=_
   rw[k]; rfl
  |false=>
   refine⟨a.eval z,w,?_,Below.refl _ _,(hf rfl).spec hI hd⟩
   show(do pure (Next.value (if <-asBool (a.eval x)then a.eval y else a.eval z))).run P w=_
   rw[k]; rfl
variable {op:BinOp} {xt yt:TypeId} {v:Value}
theorem fu {k k':IntKind} {m n:Int} (h1:Has ms G i x (bp (.int k m))) (h2:Has ms G i y (bp (.int k' n))) (hr:∀w,(Go.binOp op xt (.int k m) (.int k' n)).run P w=.ok v w) (hp:Post G i (bp v)):
  OpOk P ops ms c V A G i ⟨some d,.binOp op xt x y yt,ty,pos,aL,none⟩:=
 jX rfl rfl rfl rfl h1 h2 hp λρ w h1 h2=>⟨v,by
  have h1:ρ x=.int k m:=h1
  have h2:ρ y=.int k' n:=h2
  show(do pure (Next.value (<-(do eqGuard op xt x y (ρ x) (ρ y); Go.binOp op xt (ρ x) (ρ y))))).run P w=_
  rw[h1,h2]
  have hgd:eqGuard op xt x y (.int k m) (.int k' n)=pure ():=by unfold eqGuard; split<;>rfl
  rw[hgd]
  have:=hr w
  simp only[pure_bind,Sem.run_bind,this,Result.andThen_ok,Sem.run_pure],λ_ _ _=>rfl⟩
theorem qB {m n:Bool} (h1:Has ms G i x (pB m)) (h2:Has ms G i y (pB n)) (hr:∀w,(Go.binOp op xt (.bool m) (.bool n)).run P w=.ok v w) (hp:Post G i (bp v)):
  OpOk P ops ms c V A G i ⟨some d,.binOp op xt x y yt,ty,pos,aL,none⟩:=
 jX rfl rfl rfl rfl h1 h2 hp λρ w h1 h2=>⟨v,by
  have h1:ρ x=.bool m:=h1
  have h2:ρ y=.bool n:=h2
  show(do pure (Next.value (<-(do eqGuard op xt x y (ρ x) (ρ y); Go.binOp op xt (ρ x) (ρ y))))).run P w=_
  rw[h1,h2]
  have hgd:eqGuard op xt x y (.bool m) (.bool n)=pure ():=by unfold eqGuard; split<;>rfl
  rw[hgd]
  have:=hr w
  simp only[pure_bind,Sem.run_bind,this,Result.andThen_ok,Sem.run_pure],λ_ _ _=>rfl⟩
theorem qC {neq:Bool} {m:ByteArray} (h1:Has ms G i x (bp (.string m))) (h2:Has ms G i y (bp (.string m))) (hp:Post G i (pB (!neq))):
  OpOk P ops ms c V A G i ⟨some d,.binOp (if neq then .neq else .eql) xt x y yt,ty,pos,aL,none⟩:=
 jX rfl rfl rfl rfl h1 h2 hp λρ w h1 h2=>⟨.bool (!neq),by
  have h1:ρ x=.string m:=h1
  have h2:ρ y=.string m:=h2
  show(do pure (Next.value (<-(do eqGuard (if neq then .neq else .eql) xt x y (ρ x) (ρ y); Go.binOp (if neq then .neq else .eql) xt (ρ x) (ρ y))))).run P w=_
  rw[h1,h2]
  cases neq
  ·have hgd:eqGuard .eql xt x y (.string m) (.string m)=pure ():=by unfold eqGuard; rfl
   have Mb:Go.binOp .eql xt (.string m) (.string m)=pure (.bool true):=by
    show Op.stringOp .eql m m=_
    unfold Op.stringOp
    simp
   show(do pure (Next.value (<-(do eqGuard .eql xt x y (.string m) (.string m); Go.binOp .eql xt (.string m) (.string m))))).run P w=_
   rw[hgd,Mb]
   rfl
  ·have hgd:eqGuard .neq xt x y (.string m) (.string m)=pure ():=by unfold eqGuard; rfl
   have Mb:Go.binOp .neq xt (.string m) (.string m)=pure (.bool false):=by
    show Op.stringOp .neq m m=_
    unfold Op.stringOp
    simp
   show(do pure (Next.value (<-(do eqGuard .neq xt x y (.string m) (.string m); Go.binOp .neq xt (.string m) (.string m))))).run P w=_
   rw[hgd,Mb]
   rfl,λ_ _ _=>rfl⟩
theorem Jx {S D:TypeId} {u:Value} (h:Has ms G i x (bp v)) (hr:∀w,(Go.convert S D v).run P w=.ok u w) (hp:Post G i (bp u)):OpOk P ops ms c V A G i ⟨some d,.convert S D x,ty,pos,aL,none⟩:=
 iT rfl rfl rfl rfl h hp λρ w h=>⟨u,by
  have h:ρ x=v:=h
  show(do pure (Next.value (<-Go.convert S D (ρ x)))).run P w=_
  rw[h,Sem.run_bind,hr]
  rfl,λ_ _=>rfl⟩
def jb (p:Pred) (w:World) (e:Ending) (w':World):Prop:=∃v,e=.returned v/\p w' v/\Below w.heap.size w w'
def bD (M:Nat->Nat->Prop) (p:Pred) (w:World) (e:Ending) (w':World):Prop:=∃v,e=.returned v/\aM M (λw=>p w v) w'/\Below w.heap.size w w'
def aN (P:Program) (f:FuncId):Prop:=∀args w,(callFunc f args).run P w=.ok (.enter f args) w
variable {f:FuncId} {args:Array Operand} {ts:Array TypeId}
theorem lX {K:Act->World->Prop} (hf:aN P f) (h:Calls P f (args.map a.eval) w λe w'=>∃v,e=.returned v/\K (a.put (some d) v) w'):
  Does P ⟨some d,.call ⟨.value (.func f),args,ts⟩,ty,pos,aL,none⟩ a w K:=by
 have hr:(execOp a.eval ⟨some d,.call ⟨.value (.func f),args,ts⟩,ty,pos,aL,none⟩).run P w=.ok (.enter f (args.map a.eval)) w:=by
  have:=hf (args.map a.eval++#[]) w
  simp only[execOp,resolve,Act.eval,Deferred.ofValue,pure_bind,invoke]
  rw[Array.append_empty]at this
  first|exact this|simpa using this
 unfold Does
 rw[hr]
 exact h
theorem iS (hf:aN P f) (hp:Post G i p)
  (hc:∀L β a w,aT c V A G L β a w->mB ms i L->Calls P f (args.map a.eval) w (bD (own c V L β) p w)):
  OpOk P ops ms c V A G i ⟨some d,.call ⟨.value (.func f),args,ts⟩,ty,pos,aL,none⟩:=by
 refine iR (λL β a w hI hd hwf=>lX hf ((hc L β a w hI hd).mono ?_)) rfl
 rintro e w' ⟨v,rfl,hv,hb⟩
 exact⟨v,rfl,β,hI.value hwf (qA hwf rfl) rfl hb (λd q _ hq Ez _=>by have:=hwf.aa q hq Ez; cases this) λe he ht=>hv.imp λw=>hp.spec hwf he ht w v⟩
theorem wX (hn:aA p) {M:Nat->Nat->Prop} {w:World} (hM:cR M w) {e:Ending} {w':World} (h:jb p w e w'):bD M p w e w':=by
 obtain⟨v,rfl,h1,h2⟩:=h
 exact⟨v,rfl,hn M w' v (hM.below h2) h1,h2⟩
variable {p1:Pred}
theorem oB (hf:aN P f) (hn:aA p) (h1:Has ms G i x p1) (hp:Post G i p)
  (hc:∀w v1,p1 w v1->Calls P f #[v1] w (jb p w)):OpOk P ops ms c V A G i ⟨some d,.call ⟨.value (.func f),#[x],ts⟩,ty,pos,aL,none⟩:=
 iS hf hp λ_ _ a w hI hd=>(by
  rw[show(#[x]:Array Operand).map a.eval=#[a.eval x] by simp]
  exact(hc w _ (h1.spec hI hd).out).mono λ_ _ h=>wX hn (aZ hI) h)
variable {p2:Pred}
theorem gB (hf:aN P f) (hn:aA p) (h1:Has ms G i x p1) (h2:Has ms G i y p2) (hp:Post G i p)
  (hc:∀w v1 v2,p1 w v1->p2 w v2->Calls P f #[v1,v2] w (jb p w)):OpOk P ops ms c V A G i ⟨some d,.call ⟨.value (.func f),#[x,y],ts⟩,ty,pos,aL,none⟩:=
 iS hf hp λ_ _ a w hI hd=>(by
  rw[show(#[x,y]:Array Operand).map a.eval=#[a.eval x,a.eval y] by simp]
  exact(hc w _ _ (h1.spec hI hd).out (h2.spec hI hd).out).mono λ_ _ h=>wX hn (aZ hI) h)
theorem tg {p3:Pred} (hf:aN P f) (hn:aA p) (h1:Has ms G i x p1) (h2:Has ms G i y p2) (h3:Has ms G i z p3) (hp:Post G i p)
  (hc:∀w v1 v2 v3,p1 w v1->p2 w v2->p3 w v3->Calls P f #[v1,v2,v3] w (jb p w)):OpOk P ops ms c V A G i ⟨some d,.call ⟨.value (.func f),#[x,y,z],ts⟩,ty,pos,aL,none⟩:=
 iS hf hp λ_ _ a w hI hd=>(by
  rw[show(#[x,y,z]:Array Operand).map a.eval=#[a.eval x,a.eval y,a.eval z] by simp]
  exact(hc w _ _ _ (h1.spec hI hd).out (h2.spec hI hd).out (h3.spec hI hd).out).mono λ_ _ h=>wX hn (aZ hI) h)
theorem D1 (hf:aN P f) (h1:Has ms G i x p1) (hp:Post G i p)
  (hc:∀M w v1,cR M w->aM M (λw=>p1 w v1) w->Calls P f #[v1] w (bD M p w)):OpOk P ops ms c V A G i ⟨some d,.call ⟨.value (.func f),#[x],ts⟩,ty,pos,aL,none⟩:=
 iS hf hp λ_ _ a w hI hd=>(by
  rw[show(#[x]:Array Operand).map a.eval=#[a.eval x] by simp]
  exact hc _ w _ (aZ hI) (h1.spec hI hd))
theorem vB (hf:aN P f) (h1:Has ms G i x p1) (h2:Has ms G i y p2) (hp:Post G i p)
  (hc:∀M w v1 v2,cR M w->aM M (λw=>p1 w v1) w->aM M (λw=>p2 w v2) w->Calls P f #[v1,v2] w (bD M p w)):OpOk P ops ms c V A G i ⟨some d,.call ⟨.value (.func f),#[x,y],ts⟩,ty,pos,aL,none⟩:=
 iS hf hp λ_ _ a w hI hd=>(by
  rw[show(#[x,y]:Array Operand).map a.eval=#[a.eval x,a.eval y] by simp]
  exact hc _ w _ _ (aZ hI) (h1.spec hI hd) (h2.spec hI hd))
variable {j:Nat} {φ:Prop}
theorem Gu [Decidable φ] {op:Op} {dst:Option Nat} {p:Pred} (k:Nat) {s:Nat} {f:Option Nat} (hk:G[k]?=some ⟨some j,f,s,p⟩) (hj:((ms.getD i 0).testBit j&&iQ ms i f)=true)
  (hy:∀w v,p w v->φ->v=.bool b) (hn:∀w v,p w v->¬φ->v≠.bool b)
  (h:φ->OpOk P ops ms c V A G i ⟨dst,op,ty,pos,aL,none⟩)
  (hb:¬φ->(V.all λx=>(x.born != some i&&x.dead != some i)&&x.st.all λq=>q.1 != i)=true) (hA:¬φ->ud A i) (hp:¬φ->Post G i (bp undef)):
  OpOk P ops ms c V A G i ⟨dst,op,ty,pos,aL,some (j,b)⟩:=by
 rintro L a w ⟨β,hI⟩ hd hwf
 have hke:=List.mem_of_getElem? hk
 rw[Bool.and_eq_true]at hj
 have hv:=(hI.gY _ hke (hd.before j hj.1) (hd.off hj.2)).out
 have KG:=hwf.g3 _ j hke rfl
 simp only at KG
 have hs:s<a.tmps.size:=by rw[hI.size]; exact hwf.sg _ hke
 have UF:yielded ops a.tmps j=match sl a s with|.bool b=>some b|_=>none:=by
  unfold yielded
  rw[KG]
  simp only[Option.bind_some,Array.getElem?_eq_getElem hs,sl,Array.getD_eq_getD_getElem?,Option.getD_some]
  cases a.tmps[s]<;>rfl
 by_cases hφ:φ
 ·have hv':=hy w _ hv hφ
  have hw:Region.wanted (⟨dst,op,ty,pos,aL,some (j,b)⟩:Oper) (yielded ops a.tmps)=true:=by
   simp only[Region.wanted,UF,hv',beq_self_eq_true]
  have h1:=h hφ L a w ⟨β,hI⟩ hd hwf.JV
  unfold cO at h1 ⊢
  rw[if_pos hw]
  rw[if_pos (by simp[Region.wanted])]at h1
  exact h1
 ·have hv':=hn w _ hv hφ
  have hw:¬Region.wanted (⟨dst,op,ty,pos,aL,some (j,b)⟩:Oper) (yielded ops a.tmps)=true:=by
   simp only[Region.wanted,UF]
   intro h
   apply hv'
   revert h
   cases sl a s<;>simp
  unfold cO
  rw[if_neg hw]
  refine⟨β,hI.skip hwf ?_ ?_ λe he ht=>?_⟩
  ·have:=hb hφ
   rw[List.all_eq_true]at this
   intro x hx
   have:=this x hx
   simp only[Bool.and_eq_true,List.all_eq_true,bne_iff_ne,ne_eq]at this
   exact this
  ·exact(hA hφ).spec
  ·exactλw' _=>(hp hφ).spec hwf he ht w' _ rfl
def qb (φ:Prop) (q:Pred):Pred:=λw v=>(φ->q w v)/\(¬φ->v=undef)
theorem Has.NJ {x:Operand} (h:Has ms G i x (qb φ q)) (hφ:φ):Has ms G i x q:=h.imp λ_ _ h=>h.1 hφ
theorem Post.NJ (hφ:φ) (k:Nat) {s:Nat} {f:Option Nat} (h:G[k]?=some ⟨some i,f,s,qb φ p⟩):Post G i p:=.at_ k s _ h λ_ _ h=>⟨λ_=>h,λhn=>absurd hφ hn⟩
theorem Post.Na (hφ:¬φ) (k:Nat) {s:Nat} {f:Option Nat} (h:G[k]?=some ⟨some i,f,s,qb φ q⟩):Post G i (bp undef):=.at_ k s _ h λ_ _ h=>⟨λhp=>absurd hp hφ,λ_=>h⟩
variable {cb:Bool} {dst:Option Nat}
theorem PZ {op:Op} (k:Nat) {s:Nat} {f:Option Nat} (hk:G[k]?=some ⟨some j,f,s,pB cb⟩) (hj:((ms.getD i 0).testBit j&&iQ ms i f)=true)
  (h:cb=b->OpOk P ops ms c V A G i ⟨dst,op,ty,pos,aL,none⟩)
  (hb:(V.all λx=>(x.born != some i&&x.dead != some i)&&x.st.all λq=>q.1 != i)=true) (hA:¬cb=b->ud A i) (hp:¬cb=b->Post G i (bp undef)):OpOk P ops ms c V A G i ⟨dst,op,ty,pos,aL,some (j,b)⟩:=
 Gu (φ:=cb=b) k hk hj (λ_ _ h e=>by rw[show _=Value.bool cb from h,e]) (λ_ _ h e e'=>e (by rw[show _=Value.bool cb from h]at e'; injection e')) h (λ_=>hb) hA hp
theorem ML {op:Op} [Decidable φ] (k:Nat) {s:Nat} {f:Option Nat} (hk:G[k]?=some ⟨some j,f,s,qb φ (pB cb)⟩) (hj:((ms.getD i 0).testBit j&&iQ ms i f)=true)
  (h:(φ/\cb=b)->OpOk P ops ms c V A G i ⟨dst,op,ty,pos,aL,none⟩)
  (hb:(V.all λx=>(x.born != some i&&x.dead != some i)&&x.st.all λq=>q.1 != i)=true) (hA:¬(φ/\cb=b)->ud A i) (hp:¬(φ/\cb=b)->Post G i (bp undef)):OpOk P ops ms c V A G i ⟨dst,op,ty,pos,aL,some (j,b)⟩:=
 Gu (φ:=φ/\cb=b) k hk hj (λ_ _ h e=>by rw[show _=Value.bool cb from h.1 e.1,e.2]) (λ_ u h e e'=>by
  by_cases hφ:φ
  ·have h1:u=Value.bool cb:=h.1 hφ
   rw[h1]at e'
   injection e' with e'
   exact e ⟨hφ,e'⟩
  ·rw[h.2 hφ]at e'
   simp[undef]at e') h (λ_=>hb) hA hp
end
end Wx
