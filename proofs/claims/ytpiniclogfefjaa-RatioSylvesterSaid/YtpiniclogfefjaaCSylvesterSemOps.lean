import Derived.Deep.MidRow
import Derived.Laws.CopyRow
import Derived.KernelRfl
import Derived.Test.YtpiniclogfefjaaCSylvesterSem
namespace Wx
open Go Go.RowKit

def onAt (ms:List Nat) (i:Nat):Option Nat→Bool
 |none=>true
 |some j=>(ms.getD i 0).testBit j
theorem Det.on {ms:List Nat} {i:Nat} {L:Nat→Bool} (h:Det ms i L) {t:Option Nat} (ht:onAt ms i t=true):on L t=true:=by
 cases t with
 |none=>rfl
 |some j=>exact h.before j ht
def offAt (ms:List Nat) (i:Nat):Option Nat→Bool
 |none=>true
 |some j=>j==i||(ms.getD j 0).testBit i
theorem Det.off {ms:List Nat} {i:Nat} {L:Nat→Bool} (h:Det ms i L) {t:Option Nat} (ht:offAt ms i t=true):off L t=true:=by
 cases t with
 |none=>rfl
 |some j=>
  simp only[offAt,Bool.or_eq_true,beq_iff_eq]at ht
  rcases ht with rfl|ht
  ·simp[Wx.off,h.no]
  ·simp[Wx.off,h.behind j ht]
theorem U8 {L:Nat→Bool} {i:Nat} {t:Option Nat} (h:off (X3 L i) t=true):off L t=true∧t≠some i:=by
 cases t with
 |none=>exact⟨rfl,by simp⟩
 |some j=>
  simp only[off,X3]at h ⊢
  by_cases hj:j=i
  ·simp[hj]at h
  ·simp only[hj,if_false]at h
   exact⟨h,fun e=>hj (by injection e)⟩
theorem Det.irrefl {ms:List Nat} {i:Nat} {L:Nat→Bool} (h:Det ms i L):(ms.getD i 0).testBit i=false:=by
 cases hb:(ms.getD i 0).testBit i with
 |false=>rfl
 |true=>have:=h.before i hb; rw[h.no]at this; cases this
def Qe (v:Value):Qj:=fun _ u=>u=v
def pB (b:Bool):Qj:=Qe (.bool b)
def pI (n:Int):Qj:=Qe (.int .i64 n)
def Zb:Qj:=fun _ _=>True
theorem Zy {b c:Bool} (h:b=c):∀w v,pB b w v→pB c w v:=fun _ _ k=>h▸k
theorem Xa {b c:Int} (h:b=c):∀w v,pI b w v→pI c w v:=fun _ _ k=>h▸k
theorem Xt (v:Value):Zs (Qe v):=fun _ _ _ _ h _ _=>h
theorem numlike_any:Zs Zb:=fun _ _ _ _ _ _ _=>trivial
inductive Has (ms:List Nat) (G:List Ent) (i:Nat):Operand→Qj→Prop
 |tmp {s:Nat} {t f:Option Nat} {p:Qj} (k:Nat) (h:G[k]?=some ⟨t,f,s,p⟩) (ht:(onAt ms i t&&offAt ms i f)=true):Has ms G i (.tmp s) p
 |const (v:Value):Has ms G i (.const v) (Qe v)
 |func (f:FuncId):Has ms G i (.func f) (Qe (.func (.func f) #[] #[]))
 |any (x:Operand):Has ms G i x Zb
 |imp {x:Operand} {p q:Qj} (h:Has ms G i x p) (hq:∀w v,p w v→q w v):Has ms G i x q
inductive Post (G:List Ent) (i:Nat) (p:Qj):Prop
 |at_ (k s:Nat) (q:Qj) {f:Option Nat} (h:G[k]?=some ⟨some i,f,s,q⟩) (hq:∀w v,p w v→q w v):Post G i p
 |none (h:(G.all fun e=>e.tag != some i)=true):Post G i p
inductive AlNo (A:List Al) (i:Nat):Prop
 |none (h:(A.all fun q=>q.tag != some i)=true)
 |at_ (k:Nat) {al:Al} (hk:A[k]?=some al) (ht:al.tag=some i) (hu:(A.filter fun q=>q.tag==some i).length=1) (hn:¬al.cond)
theorem AlNo.spec {A:List Al} {i:Nat} (h:AlNo A i):∀p,p∈A→p.tag=some i→¬p.cond:=by
 intro p hp ht
 cases h with
 |none h=>
  rw[List.all_eq_true]at h
  have:=h p hp
  simp[ht]at this
 |at_ k hk hat hu hn=>
  rw[Zr hu hp (List.mem_of_getElem? hk) (by simp[ht]) (by simp[hat])]
  exact hn
theorem Post.here {G:List Ent} {i:Nat} {p:Qj} (k:Nat) {s:Nat} {f:Option Nat} (h:G[k]?=some ⟨some i,f,s,p⟩):Post G i p:=.at_ k s p h fun _ _ h=>h
section
variable {P:Program} {ops:Array Oper} {ms:List Nat} {c:Cfg} {V:List Vr} {A:List Al} {G:List Ent} {i:Nat} {L:Nat→Bool} {β:Nat→Nat→Prop} {a:Act} {w:World} {o:Oper}

theorem Has.spec {x:Operand} {p:Qj} (h:Has ms G i x p) (hI:InvB c V A G L β a w) (hd:Det ms i L):Box (own c V L β) (fun w=>p w (a.eval x)) w:=by
 induction h with
 |tmp k h ht=>rw[Bool.and_eq_true]at ht; exact hI.ent _ (List.mem_of_getElem? h) (hd.on ht.1) (hd.off ht.2)
 |const v=>exact fun _ _=>rfl
 |func f=>exact fun _ _=>rfl
 |any x=>exact fun _ _=>trivial
 |imp _ hq ih=>exact ih.imp fun w=>hq w _
theorem Post.spec {p:Qj} (h:Post G i p) (hwf:WfAt c.N ops V A G i o) {e:Ent} (he:e∈G) (ht:e.tag=some i):∀w v,p w v→e.p w v:=by
 cases h with
 |at_ k s q h hq=>
  have:=hwf.gu _ _ he (List.mem_of_getElem? h) ht rfl
  rw[this]; exact hq
 |none h=>
  rw[List.all_eq_true]at h
  have:=h e he
  simp[ht]at this

theorem Qbf (hI:InvB c V A G L β a w) {x:Vr} (hx:x∈V) (hl:live L x=true) {g:Nat} (hg:β x.id g):mine c g∧g<w.heap.size∧∀o v,w.cell? ⟨g,o,none⟩=some v→Yr v:=(hI.var x hx hl).blk hg
theorem Y5 (hI:InvB c V A G L β a w) {x:Vr} (hx:x∈V) (hl:live L x=true) {g:Nat} (hg:β x.id g):g<w.heap.size:=(Qbf hI hx hl hg).2.1
theorem own_lt (hI:InvB c V A G L β a w) {k o:Nat} (h:own c V L β k o):k<w.heap.size:=by
 rcases h with h|⟨x,hx,h1,h2,_⟩
 ·exact Nat.lt_of_lt_of_le (hI.old k o h).1.1 hI.below.size
 ·exact Y5 hI hx h1 h2
theorem X8 (hI:InvB c V A G L β a w):Mid (own c V L β) w:=by
 intro k o h
 refine⟨own_lt hI h,fun v hc=>?_⟩
 rcases h with h|⟨x,hx,h1,h2,_⟩
 ·exact(hI.old k o h).2 v hc
 ·exact(Qbf hI hx h1 h2).2.2 o v hc
theorem InvB.old_of (hI:InvB c V A G L β a w) {w':World} (hb:∀k,k<c.w0.heap.size→¬c.lent k→w'.heap[k]?=w.heap[k]?):∀k o,c.M0 k o→(k<c.w0.heap.size∧¬c.lent k)∧∀v,w'.cell? ⟨k,o,none⟩=some v→Yr v:=
 fun k o hk=>⟨(hI.old k o hk).1,fun v hc=>(hI.old k o hk).2 v (by rw[← World.cell?_of_block (w:=w) (w':=w') (a:=⟨k,o,none⟩) (hb k (hI.old k o hk).1.1 (hI.old k o hk).1.2)]; exact hc)⟩
theorem Box.below {M:Nat→Nat→Prop} {F:World→Prop} {w w':World} (h:Box M F w) (hb:Below w.heap.size w w'):Box M F w':=h.ext (Ext.of_below hb)
theorem Mid.below {M:Nat→Nat→Prop} {w w':World} (h:Mid M w) (hb:Below w.heap.size w w'):Mid M w':=fun k o hk=>⟨Nat.lt_of_lt_of_le (h k o hk).1 hb.size,fun v hc=>(h k o hk).2 v (by rw[← World.cell?_of_block (w:=w) (w':=w') (hb.block k (h k o hk).1)]; exact hc)⟩
theorem Zw {t:Option Nat} (h:t≠some i):on (X3 L i) t=on L t:=by
 cases t with
 |none=>rfl
 |some j=>
  have:j≠i:=fun e=>h (by rw[e])
  simp[on,X3,this]
theorem off_upd_ne {t:Option Nat} (h:t≠some i):off (X3 L i) t=off L t:=by
 cases t with
 |none=>rfl
 |some j=>
  have:j≠i:=fun e=>h (by rw[e])
  simp[off,X3,this]
theorem Ja {x:Vr} (h1:x.born≠some i) (h2:x.dead≠some i):live (X3 L i) x=live L x:=by unfold live; rw[Zw h1,off_upd_ne h2]
theorem Wr (hV:∀x,x∈V→x.born≠some i∧x.dead≠some i):own c V (X3 L i) β=own c V L β:=by
 funext k o
 apply propext
 constructor
 ·rintro(h|⟨x,hx,h1,h2⟩)
  ·exact .inl h
  ·exact .inr ⟨x,hx,by rw[← Ja (hV x hx).1 (hV x hx).2]; exact h1,h2⟩
 ·rintro(h|⟨x,hx,h1,h2⟩)
  ·exact .inl h
  ·exact .inr ⟨x,hx,by rw[Ja (hV x hx).1 (hV x hx).2]; exact h1,h2⟩
theorem U5 {st:List (Nat×Y9)} {p:Y9} (h:∀q∈st,q.1≠i):cont (X3 L i) p st=cont L p st:=
 Up fun q hq=>by simp[X3,h q hq]

theorem InvB.value (h:InvB c V A G L β a w) (hwf:WfAt c.N ops V A G i o) (nb:∀x,x∈V→x.born≠some i∧x.dead≠some i) (hs:Jl o.op=false) {w':World} {v:Value} (he:Below w.heap.size w w')
  (hA:∀d p,o.dst=some d→p∈A→p.tag=some i→p.cond→∃g,β p.var g∧v=.pointer (some ⟨g,p.off,none⟩))
  (hG:∀e,e∈G→e.tag=some i→Box (own c V L β) (fun w=>e.p w v) w'):InvB c V A G (X3 L i) β (a.put o.dst v) w':=by
 have hx:=Ext.of_below (M:=own c V L β) he
 refine⟨by rw[Vb]; exact h.size,by rw[Ks]; exact h.defers,h.below.trans (Lent.of_below he),h.old_of fun k hk _=>he.block k (Nat.lt_of_lt_of_le hk h.below.size),?_,?_,?_,?_⟩
 ·intro x hxV hl
  rw[Ja (nb x hxV).1 (nb x hxV).2]at hl
  refine(h.var x hxV hl).keep (Zh fun hd=>(hwf.v1 x hxV hd).elim (nb x hxV).1 (nb x hxV).2) rfl (fun g hg=>he.block g (Y5 h hxV hl hg)) he.size (fun F hF=>?_) (fun F hF=>?_) (U5 fun q hq hqi=>by have:=hwf.vs x hxV q hq hqi; rw[hs]at this; cases this)
  ·rw[Wr nb]
   exact hF.ext hx
  ·rw[Wr nb]
   exact hF.below he
 ·intro x y g hxV hyV h1 h2
  rw[Ja (nb x hxV).1 (nb x hxV).2]at h1
  rw[Ja (nb y hyV).1 (nb y hyV).2]at h2
  exact h.apart x y g hxV hyV h1 h2
 ·intro p hp hl hcd
  by_cases ht:p.tag=some i
  ·have hd:=hwf.a2 p hp ht
   obtain⟨g,hg,hva⟩:=hA _ p hd hp ht hcd
   subst hva
   refine⟨g,hg,?_⟩
   rw[hd]
   exact J6 (by rw[h.size]; exact hwf.sz _ hd)
  ·rw[Zw ht]at hl
   rw[Zh fun hd=>ht (hwf.a1 p hp hd)]
   exact h.al p hp hl hcd
 ·intro e heG hl hf
  obtain⟨hf,hfi⟩:=U8 hf
  rw[Wr nb]
  by_cases ht:e.tag=some i
  ·have hd:=hwf.g2 e heG ht
   rw[hd,J6 (by rw[h.size]; exact hwf.sz _ hd)]
   exact hG e heG ht
  ·rw[Zw ht]at hl
   rw[Zh fun hd=>(hwf.g1 e heG hd).elim ht hfi]
   exact(h.ent e heG hl hf).ext hx

theorem InvB.skip (h:InvB c V A G L β a w) (hwf:WfAt c.N ops V A G i o) (nb:∀x,x∈V→(x.born≠some i∧x.dead≠some i)∧∀q,q∈x.st→q.1≠i) (hA:∀p,p∈A→p.tag=some i→¬p.cond)
  (hG:∀e,e∈G→e.tag=some i→Box (own c V L β) (fun w=>e.p w undef) w):InvB c V A G (X3 L i) β (a.put o.dst undef) w:=by
 have nb1:∀x,x∈V→x.born≠some i∧x.dead≠some i:=fun x hx=>(nb x hx).1
 refine⟨by rw[Vb]; exact h.size,by rw[Ks]; exact h.defers,h.below,h.old,?_,?_,?_,?_⟩
 ·intro x hxV hl
  rw[Ja (nb1 x hxV).1 (nb1 x hxV).2]at hl
  refine(h.var x hxV hl).keep (Zh fun hd=>(hwf.v1 x hxV hd).elim (nb1 x hxV).1 (nb1 x hxV).2) rfl (fun g hg=>rfl) (Nat.le_refl _) (fun F hF=>?_) (fun F hF=>?_) (U5 fun q hq=>(nb x hxV).2 q hq)
  ·rw[Wr nb1]
   exact hF
  ·rw[Wr nb1]
   exact hF
 ·intro x y g hxV hyV h1 h2
  rw[Ja (nb1 x hxV).1 (nb1 x hxV).2]at h1
  rw[Ja (nb1 y hyV).1 (nb1 y hyV).2]at h2
  exact h.apart x y g hxV hyV h1 h2
 ·intro p hp hl hcd
  have hpt:p.tag≠some i:=fun e=>hA p hp e hcd
  rw[Zw hpt]at hl
  rw[Zh fun hd=>hpt (hwf.a1 p hp hd)]
  exact h.al p hp hl hcd
 ·intro e heG hl hf
  obtain⟨hf,hfi⟩:=U8 hf
  rw[Wr nb1]
  by_cases ht:e.tag=some i
  ·have hd:=hwf.g2 e heG ht
   rw[hd,J6 (by rw[h.size]; exact hwf.sz _ hd)]
   exact hG e heG ht
  ·rw[Zw ht]at hl
   rw[Zh fun hd=>(hwf.g1 e heG hd).elim ht hfi]
   exact h.ent e heG hl hf

theorem nb_of (hwf:WfAt c.N ops V A G i o) (hb:K5 o.op=false):∀x,x∈V→x.born≠some i∧x.dead≠some i:=by
 intro x hx
 constructor
 ·intro h
  have:=hwf.vk x hx (.inl h)
  rw[hb]at this
  cases this
 ·intro h
  have:=hwf.vk x hx (.inr h)
  rw[hb]at this
  cases this
theorem nb_all (h:(V.all fun x=>x.born != some i&&x.dead != some i)=true):∀x,x∈V→x.born≠some i∧x.dead≠some i:=fun x hx=>by
 rw[List.all_eq_true]at h
 have:=h x hx
 simpa using this
theorem J9 (h:∀L β a w,InvB c V A G L β a w→Det ms i L→WfAt c.N ops V A G i o→Does P o a w (Inv c V A G (X3 L i))) (hg:o.guard=none):Xf P ops ms c V A G i o:=by
 rintro L a w ⟨β,hI⟩ hd hwf
 unfold DoesG
 rw[if_pos (by simp[Region.wanted,hg])]
 exact h L β a w hI hd hwf
theorem Z5 {K:Act→World→Prop} {v:Value} {w':World} (hr:(execOp a.eval o).run P w=.ok (.value v) w') (hK:K (a.put o.dst v) w'):Does P o a w K:=by
 unfold Does; rw[hr]; exact hK
theorem op_valN {p:Qj} (hg:o.guard=none) (nb:WfAt c.N ops V A G i o→∀x,x∈V→x.born≠some i∧x.dead≠some i) (hs:Jl o.op=false) (ha:Kf o.op=false∨(A.all fun q=>q.tag != some i)=true) (hp:Post G i p)
  (hrun:∀L β a w,InvB c V A G L β a w→Det ms i L→∃v w',(execOp a.eval o).run P w=.ok (.value v) w'∧Below w.heap.size w w'∧Box (own c V L β) (fun w=>p w v) w'):Xf P ops ms c V A G i o:=by
 refine J9 (fun L β a w hI hd hwf=>?_) hg
 obtain⟨v,w',hr,hbl,hv⟩:=hrun L β a w hI hd
 refine Z5 hr ⟨β,hI.value hwf (nb hwf) hs hbl (fun d q _ hq hqt _=>?_) fun e he ht=>hv.imp fun w=>hp.spec hwf he ht w v⟩
 exfalso
 rcases ha with ha|ha
 ·have:=hwf.aa q hq hqt; rw[ha]at this; cases this
 ·rw[List.all_eq_true]at ha; have:=ha q hq; simp[hqt]at this
theorem J5 {p:Qj} (hg:o.guard=none) (hb:K5 o.op=false) (hs:Jl o.op=false) (ha:Kf o.op=false∨(A.all fun q=>q.tag != some i)=true) (hp:Post G i p)
  (hrun:∀L β a w,InvB c V A G L β a w→Det ms i L→∃v w',(execOp a.eval o).run P w=.ok (.value v) w'∧Below w.heap.size w w'∧Box (own c V L β) (fun w=>p w v) w'):Xf P ops ms c V A G i o:=
 op_valN hg (fun hwf=>nb_of hwf hb) hs ha hp hrun
theorem op_val0 {p:Qj} (hg:o.guard=none) (hb:K5 o.op=false) (hs:Jl o.op=false) (ha:Kf o.op=false) (hp:Post G i p)
  (hrun:∀(ρ:Operand→Value) w,∃v,(execOp ρ o).run P w=.ok (.value v) w∧∀w,p w v):Xf P ops ms c V A G i o:=
 J5 hg hb hs (.inl ha) hp fun L β a w _ _=>by
  obtain⟨v,h1,h2⟩:=hrun a.eval w
  exact⟨v,w,h1,Below.refl _ _,fun w' _=>h2 w'⟩
theorem Qaa {p p1:Qj} {x1:Operand} (hg:o.guard=none) (hb:K5 o.op=false) (hs:Jl o.op=false) (ha:Kf o.op=false) (h1:Has ms G i x1 p1) (hp:Post G i p)
  (hrun:∀(ρ:Operand→Value) w,p1 w (ρ x1)→∃v,(execOp ρ o).run P w=.ok (.value v) w∧∀w,p1 w (ρ x1)→p w v):Xf P ops ms c V A G i o:=
 J5 hg hb hs (.inl ha) hp fun L β a w hI hd=>by
  have k1:=h1.spec hI hd
  obtain⟨v,h2,h3⟩:=hrun a.eval w k1.out
  exact⟨v,w,h2,Below.refl _ _,fun w' he=>h3 w' (k1 w' he)⟩
theorem op_val2 {p p1 p2:Qj} {x1 x2:Operand} (hg:o.guard=none) (hb:K5 o.op=false) (hs:Jl o.op=false) (ha:Kf o.op=false) (h1:Has ms G i x1 p1) (h2:Has ms G i x2 p2) (hp:Post G i p)
  (hrun:∀(ρ:Operand→Value) w,p1 w (ρ x1)→p2 w (ρ x2)→∃v,(execOp ρ o).run P w=.ok (.value v) w∧∀w,p1 w (ρ x1)→p2 w (ρ x2)→p w v):Xf P ops ms c V A G i o:=
 J5 hg hb hs (.inl ha) hp fun L β a w hI hd=>by
  have k1:=h1.spec hI hd
  have k2:=h2.spec hI hd
  obtain⟨v,h3,h4⟩:=hrun a.eval w k1.out k2.out
  exact⟨v,w,h3,Below.refl _ _,fun w' he=>h4 w' (k1 w' he) (k2 w' he)⟩
theorem op_val3 {p p1 p2 p3:Qj} {x1 x2 x3:Operand} (hg:o.guard=none) (hb:K5 o.op=false) (hs:Jl o.op=false) (ha:Kf o.op=false) (h1:Has ms G i x1 p1) (h2:Has ms G i x2 p2) (h3:Has ms G i x3 p3) (hp:Post G i p)
  (hrun:∀(ρ:Operand→Value) w,p1 w (ρ x1)→p2 w (ρ x2)→p3 w (ρ x3)→∃v,(execOp ρ o).run P w=.ok (.value v) w∧∀w,p1 w (ρ x1)→p2 w (ρ x2)→p3 w (ρ x3)→p w v):Xf P ops ms c V A G i o:=
 J5 hg hb hs (.inl ha) hp fun L β a w hI hd=>by
  have k1:=h1.spec hI hd
  have k2:=h2.spec hI hd
  have k3:=h3.spec hI hd
  obtain⟨v,h4,h5⟩:=hrun a.eval w k1.out k2.out k3.out
  exact⟨v,w,h4,Below.refl _ _,fun w' he=>h5 w' (k1 w' he) (k2 w' he) (k3 w' he)⟩
variable {d:Nat} {x y z:Operand} {ty:TypeId} {pos:String} {aft:Array Edge}
theorem Qa {p:Qj} (h:Has ms G i x p) (hp:Post G i p) (hnb:(V.all fun x=>x.born != some i&&x.dead != some i)=true:=by kernel_rfl):Xf P ops ms c V A G i ⟨some d,.move x,ty,pos,aft,none⟩:=
 op_valN rfl (fun _=>nb_all hnb) rfl (.inl rfl) hp fun _ _ a w hI hd=>⟨a.eval x,w,rfl,Below.refl _ _,h.spec hI hd⟩
theorem Qc {p:Qj} (h:Has ms G i x p) (hp:Post G i p) (hnb:(V.all fun x=>x.born != some i&&x.dead != some i)=true:=by kernel_rfl):Xf P ops ms c V A G i ⟨some d,.assign x,ty,pos,aft,none⟩:=
 op_valN rfl (fun _=>nb_all hnb) rfl (.inl rfl) hp fun _ _ a w hI hd=>⟨a.eval x,w,rfl,Below.refl _ _,h.spec hI hd⟩
theorem Vw {b:Bool} {ty1:TypeId} (h:Has ms G i x (pB b)) (hp:Post G i (pB (!b))):Xf P ops ms c V A G i ⟨some d,.unOp .not ty1 x,ty,pos,aft,none⟩:=
 Qaa rfl rfl rfl rfl h hp fun ρ w h=>⟨.bool !b,by have h:ρ x=.bool b:=h; show(do pure (Next.value (← Op.unary .not (ρ x)))).run P w=_; rw[h]; rfl,fun _ _=>rfl⟩
theorem Xo {n:Nat} {p q:Qj} (h:Has ms G i x p) (hx:∀w v,p w v→∃vs u,v=.tuple vs∧vs[n]?=some u∧q w u) (hp:Post G i q):Xf P ops ms c V A G i ⟨some d,.extract x n,ty,pos,aft,none⟩:=
 Qaa rfl rfl rfl rfl h hp fun ρ w h=>by
  obtain⟨vs,u,e,h1,h2⟩:=hx w _ h
  refine⟨u,?_,fun w' h'=>?_⟩
  ·show(do pure (Next.value (← Instr.extract (ρ x) n))).run P w=_
   have hx:Instr.extract (ρ x) n=pure u:=by rw[e]; unfold Instr.extract; simp only[h1]
   rw[hx]
   rfl
  ·obtain⟨vs',u',e',h1',h2'⟩:=hx w' _ h'
   rw[e]at e'
   injection e' with e'
   subst e'
   rw[h1]at h1'
   injection h1' with h1'
   rw[h1']
   exact h2'
theorem Yf {b:Bool} {q:Qj} (h:Has ms G i x (pB b)) (ht:b=true→Has ms G i y q) (hf:b=false→Has ms G i z q) (hp:Post G i q):Xf P ops ms c V A G i ⟨some d,.pick x y z,ty,pos,aft,none⟩:=
 J5 rfl rfl rfl (.inl rfl) hp fun L β a w hI hd=>by
  have k:=(h.spec hI hd).out
  have k:a.eval x=.bool b:=k
  cases b with
  |true=>
   refine⟨a.eval y,w,?_,Below.refl _ _,(ht rfl).spec hI hd⟩
   show(do pure (Next.value (if ← asBool (a.eval x)then a.eval y else a.eval z))).run P w=_
   rw[k]; rfl
  |false=>
   refine⟨a.eval z,w,?_,Below.refl _ _,(hf rfl).spec hI hd⟩
   show(do pure (Next.value (if ← asBool (a.eval x)then a.eval y else a.eval z))).run P w=_
   rw[k]; rfl
theorem Qo {op:BinOp} {xt yt:TypeId} {k k':IntKind} {m n:Int} {v:Value} (h1:Has ms G i x (Qe (.int k m))) (h2:Has ms G i y (Qe (.int k' n))) (hr:∀w,(Go.binOp op xt (.int k m) (.int k' n)).run P w=.ok v w) (hp:Post G i (Qe v)):
  Xf P ops ms c V A G i ⟨some d,.binOp op xt x y yt,ty,pos,aft,none⟩:=
 op_val2 rfl rfl rfl rfl h1 h2 hp fun ρ w h1 h2=>⟨v,by
  have h1:ρ x=.int k m:=h1
  have h2:ρ y=.int k' n:=h2
  show(do pure (Next.value (← (do eqGuard op xt x y (ρ x) (ρ y); Go.binOp op xt (ρ x) (ρ y))))).run P w=_
  rw[h1,h2]
  have hgd:eqGuard op xt x y (.int k m) (.int k' n)=pure ():=by unfold eqGuard; split<;>rfl
  rw[hgd]
  have:=hr w
  simp only[pure_bind,Sem.run_bind,this,Result.andThen_ok,Sem.run_pure],fun _ _ _=>rfl⟩

theorem Qcn {op:BinOp} {xt yt:TypeId} {m n:Bool} {v:Value} (h1:Has ms G i x (pB m)) (h2:Has ms G i y (pB n)) (hr:∀w,(Go.binOp op xt (.bool m) (.bool n)).run P w=.ok v w) (hp:Post G i (Qe v)):
  Xf P ops ms c V A G i ⟨some d,.binOp op xt x y yt,ty,pos,aft,none⟩:=
 op_val2 rfl rfl rfl rfl h1 h2 hp fun ρ w h1 h2=>⟨v,by
  have h1:ρ x=.bool m:=h1
  have h2:ρ y=.bool n:=h2
  show(do pure (Next.value (← (do eqGuard op xt x y (ρ x) (ρ y); Go.binOp op xt (ρ x) (ρ y))))).run P w=_
  rw[h1,h2]
  have hgd:eqGuard op xt x y (.bool m) (.bool n)=pure ():=by unfold eqGuard; split<;>rfl
  rw[hgd]
  have:=hr w
  simp only[pure_bind,Sem.run_bind,this,Result.andThen_ok,Sem.run_pure],fun _ _ _=>rfl⟩
theorem op_conv {S D:TypeId} {v u:Value} (h:Has ms G i x (Qe v)) (hr:∀w,(Go.convert S D v).run P w=.ok u w) (hp:Post G i (Qe u)):Xf P ops ms c V A G i ⟨some d,.convert S D x,ty,pos,aft,none⟩:=
 Qaa rfl rfl rfl rfl h hp fun ρ w h=>⟨u,by
  have h:ρ x=v:=h
  show(do pure (Next.value (← Go.convert S D (ρ x)))).run P w=_
  rw[h,Sem.run_bind,hr]
  rfl,fun _ _=>rfl⟩

def Kx (p:Qj) (w:World) (e:Ending) (w':World):Prop:=∃v,e=.returned v∧p w' v∧Below w.heap.size w w'
def RetB (M:Nat→Nat→Prop) (p:Qj) (w:World) (e:Ending) (w':World):Prop:=∃v,e=.returned v∧Box M (fun w=>p w v) w'∧Below w.heap.size w w'
def Y1 (P:Program) (f:FuncId):Prop:=∀args w,(callFunc f args).run P w=.ok (.enter f args) w
theorem Qas {f:FuncId} {args:Array Operand} {ts:Array TypeId} {K:Act→World→Prop} (hf:Y1 P f) (h:Calls P f (args.map a.eval) w fun e w'=>∃v,e=.returned v∧K (a.put (some d) v) w'):
  Does P ⟨some d,.call ⟨.value (.func f),args,ts⟩,ty,pos,aft,none⟩ a w K:=by
 have hr:(execOp a.eval ⟨some d,.call ⟨.value (.func f),args,ts⟩,ty,pos,aft,none⟩).run P w=.ok (.enter f (args.map a.eval)) w:=by
  have:=hf (args.map a.eval++#[]) w
  simp only[execOp,resolve,Act.eval,Deferred.ofValue,pure_bind,invoke]
  rw[Array.append_empty]at this
  first|exact this|simpa using this
 unfold Does
 rw[hr]
 exact h
theorem Vp {f:FuncId} {args:Array Operand} {ts:Array TypeId} {p:Qj} (hf:Y1 P f) (hp:Post G i p)
  (hc:∀L β a w,InvB c V A G L β a w→Det ms i L→Calls P f (args.map a.eval) w (RetB (own c V L β) p w)):
  Xf P ops ms c V A G i ⟨some d,.call ⟨.value (.func f),args,ts⟩,ty,pos,aft,none⟩:=by
 refine J9 (fun L β a w hI hd hwf=>Qas hf ((hc L β a w hI hd).mono ?_)) rfl
 rintro e w' ⟨v,rfl,hv,hb⟩
 exact⟨v,rfl,β,hI.value hwf (nb_of hwf rfl) rfl hb (fun d q _ hq hqt _=>by have:=hwf.aa q hq hqt; cases this) fun e he ht=>hv.imp fun w=>hp.spec hwf he ht w v⟩
theorem ret_box {p:Qj} (hn:Zs p) {M:Nat→Nat→Prop} {w:World} (hM:Mid M w) {e:Ending} {w':World} (h:Kx p w e w'):RetB M p w e w':=by
 obtain⟨v,rfl,h1,h2⟩:=h
 exact⟨v,rfl,hn M w' v (hM.below h2) h1,h2⟩
theorem op_call0 {f:FuncId} {ts:Array TypeId} {p:Qj} (hf:Y1 P f) (hn:Zs p) (hp:Post G i p)
  (hc:∀w,Calls P f #[] w (Kx p w)):Xf P ops ms c V A G i ⟨some d,.call ⟨.value (.func f),#[],ts⟩,ty,pos,aft,none⟩:=
 Vp hf hp fun _ _ a w hI _=>(by
  rw[show(#[]:Array Operand).map a.eval=#[] by simp]
  exact(hc w).mono fun _ _ h=>ret_box hn (X8 hI) h)
theorem Y2 {f:FuncId} {ts:Array TypeId} {p p1:Qj} (hf:Y1 P f) (hn:Zs p) (h1:Has ms G i x p1) (hp:Post G i p)
  (hc:∀w v1,p1 w v1→Calls P f #[v1] w (Kx p w)):Xf P ops ms c V A G i ⟨some d,.call ⟨.value (.func f),#[x],ts⟩,ty,pos,aft,none⟩:=
 Vp hf hp fun _ _ a w hI hd=>(by
  rw[show(#[x]:Array Operand).map a.eval=#[a.eval x] by simp]
  exact(hc w _ (h1.spec hI hd).out).mono fun _ _ h=>ret_box hn (X8 hI) h)
theorem Y6 {f:FuncId} {ts:Array TypeId} {p p1 p2:Qj} (hf:Y1 P f) (hn:Zs p) (h1:Has ms G i x p1) (h2:Has ms G i y p2) (hp:Post G i p)
  (hc:∀w v1 v2,p1 w v1→p2 w v2→Calls P f #[v1,v2] w (Kx p w)):Xf P ops ms c V A G i ⟨some d,.call ⟨.value (.func f),#[x,y],ts⟩,ty,pos,aft,none⟩:=
 Vp hf hp fun _ _ a w hI hd=>(by
  rw[show(#[x,y]:Array Operand).map a.eval=#[a.eval x,a.eval y] by simp]
  exact(hc w _ _ (h1.spec hI hd).out (h2.spec hI hd).out).mono fun _ _ h=>ret_box hn (X8 hI) h)
theorem op_call3 {f:FuncId} {ts:Array TypeId} {p p1 p2 p3:Qj} (hf:Y1 P f) (hn:Zs p) (h1:Has ms G i x p1) (h2:Has ms G i y p2) (h3:Has ms G i z p3) (hp:Post G i p)
  (hc:∀w v1 v2 v3,p1 w v1→p2 w v2→p3 w v3→Calls P f #[v1,v2,v3] w (Kx p w)):Xf P ops ms c V A G i ⟨some d,.call ⟨.value (.func f),#[x,y,z],ts⟩,ty,pos,aft,none⟩:=
 Vp hf hp fun _ _ a w hI hd=>(by
  rw[show(#[x,y,z]:Array Operand).map a.eval=#[a.eval x,a.eval y,a.eval z] by simp]
  exact(hc w _ _ _ (h1.spec hI hd).out (h2.spec hI hd).out (h3.spec hI hd).out).mono fun _ _ h=>ret_box hn (X8 hI) h)
theorem Zn {f:FuncId} {ts:Array TypeId} {p p1:Qj} (hf:Y1 P f) (h1:Has ms G i x p1) (hp:Post G i p)
  (hc:∀M w v1,Mid M w→Box M (fun w=>p1 w v1) w→Calls P f #[v1] w (RetB M p w)):Xf P ops ms c V A G i ⟨some d,.call ⟨.value (.func f),#[x],ts⟩,ty,pos,aft,none⟩:=
 Vp hf hp fun _ _ a w hI hd=>(by
  rw[show(#[x]:Array Operand).map a.eval=#[a.eval x] by simp]
  exact hc _ w _ (X8 hI) (h1.spec hI hd))
theorem W9 {f:FuncId} {ts:Array TypeId} {p p1 p2:Qj} (hf:Y1 P f) (h1:Has ms G i x p1) (h2:Has ms G i y p2) (hp:Post G i p)
  (hc:∀M w v1 v2,Mid M w→Box M (fun w=>p1 w v1) w→Box M (fun w=>p2 w v2) w→Calls P f #[v1,v2] w (RetB M p w)):Xf P ops ms c V A G i ⟨some d,.call ⟨.value (.func f),#[x,y],ts⟩,ty,pos,aft,none⟩:=
 Vp hf hp fun _ _ a w hI hd=>(by
  rw[show(#[x,y]:Array Operand).map a.eval=#[a.eval x,a.eval y] by simp]
  exact hc _ w _ _ (X8 hI) (h1.spec hI hd) (h2.spec hI hd))
theorem op_callB3 {f:FuncId} {ts:Array TypeId} {p p1 p2 p3:Qj} (hf:Y1 P f) (h1:Has ms G i x p1) (h2:Has ms G i y p2) (h3:Has ms G i z p3) (hp:Post G i p)
  (hc:∀M w v1 v2 v3,Mid M w→Box M (fun w=>p1 w v1) w→Box M (fun w=>p2 w v2) w→Box M (fun w=>p3 w v3) w→Calls P f #[v1,v2,v3] w (RetB M p w)):Xf P ops ms c V A G i ⟨some d,.call ⟨.value (.func f),#[x,y,z],ts⟩,ty,pos,aft,none⟩:=
 Vp hf hp fun _ _ a w hI hd=>(by
  rw[show(#[x,y,z]:Array Operand).map a.eval=#[a.eval x,a.eval y,a.eval z] by simp]
  exact hc _ w _ _ _ (X8 hI) (h1.spec hI hd) (h2.spec hI hd) (h3.spec hI hd))

theorem op_sel {j:Nat} {b:Bool} {φ:Prop} [Decidable φ] {op:Op} {dst:Option Nat} {p:Qj} (k:Nat) {s:Nat} {f:Option Nat} (hk:G[k]?=some ⟨some j,f,s,p⟩) (hj:((ms.getD i 0).testBit j&&offAt ms i f)=true)
  (hy:∀w v,p w v→φ→v=.bool b) (hn:∀w v,p w v→¬φ→v≠.bool b)
  (h:φ→Xf P ops ms c V A G i ⟨dst,op,ty,pos,aft,none⟩)
  (hb:¬φ→(V.all fun x=>(x.born != some i&&x.dead != some i)&&x.st.all fun q=>q.1 != i)=true) (hA:¬φ→AlNo A i) (hp:¬φ→Post G i (Qe undef)):
  Xf P ops ms c V A G i ⟨dst,op,ty,pos,aft,some (j,b)⟩:=by
 rintro L a w ⟨β,hI⟩ hd hwf
 have hke:=List.mem_of_getElem? hk
 rw[Bool.and_eq_true]at hj
 have hv:=(hI.ent _ hke (hd.before j hj.1) (hd.off hj.2)).out
 have hslot:=hwf.g3 _ j hke rfl
 simp only at hslot
 have hs:s<a.tmps.size:=by rw[hI.size]; exact hwf.sg _ hke
 have hyd:yielded ops a.tmps j=match sl a s with|.bool b=>some b|_=>none:=by
  unfold yielded
  rw[hslot]
  simp only[Option.bind_some,Array.getElem?_eq_getElem hs,sl,Array.getD_eq_getD_getElem?,Option.getD_some]
  cases a.tmps[s]<;>rfl
 by_cases hφ:φ
 ·have hv':=hy w _ hv hφ
  have hw:Region.wanted (⟨dst,op,ty,pos,aft,some (j,b)⟩:Oper) (yielded ops a.tmps)=true:=by
   simp only[Region.wanted,hyd,hv',beq_self_eq_true]
  have h1:=h hφ L a w ⟨β,hI⟩ hd hwf.unguard
  unfold DoesG at h1 ⊢
  rw[if_pos hw]
  rw[if_pos (by simp[Region.wanted])]at h1
  exact h1
 ·have hv':=hn w _ hv hφ
  have hw:¬Region.wanted (⟨dst,op,ty,pos,aft,some (j,b)⟩:Oper) (yielded ops a.tmps)=true:=by
   simp only[Region.wanted,hyd]
   intro h
   apply hv'
   revert h
   cases sl a s<;>simp
  unfold DoesG
  rw[if_neg hw]
  refine⟨β,hI.skip hwf ?_ ?_ fun e he ht=>?_⟩
  ·have:=hb hφ
   rw[List.all_eq_true]at this
   intro x hx
   have:=this x hx
   simp only[Bool.and_eq_true,List.all_eq_true,bne_iff_ne,ne_eq]at this
   exact this
  ·exact(hA hφ).spec
  ·exact fun w' _=>(hp hφ).spec hwf he ht w' _ rfl

def Yp (φ:Prop) (q:Qj):Qj:=fun w v=>(φ→q w v)∧(¬φ→v=undef)
theorem Has.sel {x:Operand} {φ:Prop} {q:Qj} (h:Has ms G i x (Yp φ q)) (hφ:φ):Has ms G i x q:=h.imp fun _ _ h=>h.1 hφ
theorem Post.sel {p:Qj} {φ:Prop} (hφ:φ) (k:Nat) {s:Nat} {f:Option Nat} (h:G[k]?=some ⟨some i,f,s,Yp φ p⟩):Post G i p:=.at_ k s _ h fun _ _ h=>⟨fun _=>h,fun hn=>absurd hφ hn⟩
theorem Post.sel_no {q:Qj} {φ:Prop} (hφ:¬φ) (k:Nat) {s:Nat} {f:Option Nat} (h:G[k]?=some ⟨some i,f,s,Yp φ q⟩):Post G i (Qe undef):=.at_ k s _ h fun _ _ h=>⟨fun hp=>absurd hp hφ,fun _=>h⟩
theorem Q9 {j:Nat} {b:Bool} {op:Op} {dst:Option Nat} (k:Nat) {s:Nat} {f:Option Nat} (hk:G[k]?=some ⟨some j,f,s,pB b⟩) (hj:((ms.getD i 0).testBit j&&offAt ms i f)=true)
  (h:Xf P ops ms c V A G i ⟨dst,op,ty,pos,aft,none⟩):Xf P ops ms c V A G i ⟨dst,op,ty,pos,aft,some (j,b)⟩:=
 op_sel (φ:=True) k hk hj (fun _ _ h _=>h) (fun _ _ _ h=>absurd trivial h) (fun _=>h) (fun h=>absurd trivial h) (fun h=>absurd trivial h) (fun h=>absurd trivial h)
theorem Yo {j:Nat} {b cb:Bool} {op:Op} {dst:Option Nat} (k:Nat) {s:Nat} {f:Option Nat} (hk:G[k]?=some ⟨some j,f,s,pB cb⟩) (hj:((ms.getD i 0).testBit j&&offAt ms i f)=true)
  (h:cb=b→Xf P ops ms c V A G i ⟨dst,op,ty,pos,aft,none⟩)
  (hb:(V.all fun x=>(x.born != some i&&x.dead != some i)&&x.st.all fun q=>q.1 != i)=true) (hA:¬cb=b→AlNo A i) (hp:¬cb=b→Post G i (Qe undef)):Xf P ops ms c V A G i ⟨dst,op,ty,pos,aft,some (j,b)⟩:=
 op_sel (φ:=cb=b) k hk hj (fun _ _ h e=>by rw[show _=Value.bool cb from h,e]) (fun _ _ h e e'=>e (by rw[show _=Value.bool cb from h]at e'; injection e')) h (fun _=>hb) hA hp
theorem op_if2 {j:Nat} {b cb:Bool} {op:Op} {dst:Option Nat} {φ:Prop} [Decidable φ] (k:Nat) {s:Nat} {f:Option Nat} (hk:G[k]?=some ⟨some j,f,s,Yp φ (pB cb)⟩) (hj:((ms.getD i 0).testBit j&&offAt ms i f)=true)
  (h:(φ∧cb=b)→Xf P ops ms c V A G i ⟨dst,op,ty,pos,aft,none⟩)
  (hb:(V.all fun x=>(x.born != some i&&x.dead != some i)&&x.st.all fun q=>q.1 != i)=true) (hA:¬(φ∧cb=b)→AlNo A i) (hp:¬(φ∧cb=b)→Post G i (Qe undef)):Xf P ops ms c V A G i ⟨dst,op,ty,pos,aft,some (j,b)⟩:=
 op_sel (φ:=φ∧cb=b) k hk hj (fun _ _ h e=>by rw[show _=Value.bool cb from h.1 e.1,e.2]) (fun _ u h e e'=>by
  by_cases hφ:φ
  ·have h1:u=Value.bool cb:=h.1 hφ
   rw[h1]at e'
   injection e' with e'
   exact e ⟨hφ,e'⟩
  ·rw[h.2 hφ]at e'
   simp[undef]at e') h (fun _=>hb) hA hp

end
end Wx
