import Derived.Deep.MidRow
import Derived.Laws.CopyRow
import Derived.KernelRfl
import Derived.Test.YtpiniclogfefjaaGreatCSolvesSem
namespace Wx
open Go Go.RowKit

def onAt (ms:List Nat) (i:Nat):Option Nat→Bool
 |none=>true
 |some j=>(ms.getD i 0).testBit j
theorem Det.on {ms:List Nat} {i:Nat} {L:Nat→Bool} (h:Det ms i L) {t:Option Nat} (ht:onAt ms i t=true):on L t=true:=by
 cases t with
 |none=>rfl
 |some j=>exact h.before j ht
def Qab (ms:List Nat) (i:Nat):Option Nat→Bool
 |none=>true
 |some j=>j==i||(ms.getD j 0).testBit i
theorem Det.off {ms:List Nat} {i:Nat} {L:Nat→Bool} (h:Det ms i L) {t:Option Nat} (ht:Qab ms i t=true):off L t=true:=by
 cases t with
 |none=>rfl
 |some j=>
  simp only[Qab,Bool.or_eq_true,beq_iff_eq]at ht
  rcases ht with rfl|ht
  ·simp[Wx.off,h.no]
  ·simp[Wx.off,h.behind j ht]
theorem Qcx {L:Nat→Bool} {i:Nat} {t:Option Nat} (h:off (Yp L i) t=true):off L t=true∧t≠some i:=by
 cases t with
 |none=>exact⟨rfl,by simp⟩
 |some j=>
  simp only[off,Yp]at h ⊢
  by_cases hj:j=i
  ·simp[hj]at h
  ·simp only[hj,if_false]at h
   exact⟨h,fun e=>hj (by injection e)⟩
theorem Det.irrefl {ms:List Nat} {i:Nat} {L:Nat→Bool} (h:Det ms i L):(ms.getD i 0).testBit i=false:=by
 cases hb:(ms.getD i 0).testBit i with
 |false=>rfl
 |true=>have:=h.before i hb; rw[h.no]at this; cases this
def Qi (v:Value):Qg:=fun _ u=>u=v
def pB (b:Bool):Qg:=Qi (.bool b)
def pI (n:Int):Qg:=Qi (.int .i64 n)
def Q4:Qg:=fun _ _=>True
theorem Yt {b c:Bool} (h:b=c):∀w v,pB b w v→pB c w v:=fun _ _ k=>h▸k
theorem Qw {b c:Int} (h:b=c):∀w v,pI b w v→pI c w v:=fun _ _ k=>h▸k
theorem Y2 (v:Value):Zg (Qi v):=fun _ _ _ _ h _ _=>h
theorem numlike_any:Zg Q4:=fun _ _ _ _ _ _ _=>trivial
inductive Has (ms:List Nat) (G:List Ent) (i:Nat):Operand→Qg→Prop
 |tmp {s:Nat} {t f:Option Nat} {p:Qg} (k:Nat) (h:G[k]?=some ⟨t,f,s,p⟩) (ht:(onAt ms i t&&Qab ms i f)=true):Has ms G i (.tmp s) p
 |const (v:Value):Has ms G i (.const v) (Qi v)
 |func (f:FuncId):Has ms G i (.func f) (Qi (.func (.func f) #[] #[]))
 |any (x:Operand):Has ms G i x Q4
 |imp {x:Operand} {p q:Qg} (h:Has ms G i x p) (hq:∀w v,p w v→q w v):Has ms G i x q
inductive Post (G:List Ent) (i:Nat) (p:Qg):Prop
 |at_ (k s:Nat) (q:Qg) {f:Option Nat} (h:G[k]?=some ⟨some i,f,s,q⟩) (hq:∀w v,p w v→q w v):Post G i p
 |none (h:(G.all fun e=>e.tag != some i)=true):Post G i p
inductive AlNo (A:List Al) (i:Nat):Prop
 |none (h:(A.all fun q=>q.tag != some i)=true)
 |at_ (k:Nat) {al:Al} (hk:A[k]?=some al) (ht:al.tag=some i) (hu:(A.filter fun q=>q.tag==some i).length=1) (hn:¬al.cond)
theorem AlNo.spec {A:List Al} {i:Nat} (h:AlNo A i):∀p,p∈A→p.tag=some i→¬p.cond:=by
 intro p hp ht
 cases h with
 |none h=>
  rw[List.all_eq_true]at h
  have:=h p hp
  simp[ht]at this
 |at_ k hk hat hu hn=>
  rw[Jn hu hp (List.mem_of_getElem? hk) (by simp[ht]) (by simp[hat])]
  exact hn
theorem Post.here {G:List Ent} {i:Nat} {p:Qg} (k:Nat) {s:Nat} {f:Option Nat} (h:G[k]?=some ⟨some i,f,s,p⟩):Post G i p:=.at_ k s p h fun _ _ h=>h
section
variable {P:Program} {ops:Array Oper} {ms:List Nat} {c:Cfg} {V:List Vr} {A:List Al} {G:List Ent} {i:Nat} {L:Nat→Bool} {β:Nat→Nat→Prop} {a:Act} {w:World} {o:Oper}

theorem Has.spec {x:Operand} {p:Qg} (h:Has ms G i x p) (hI:InvB c V A G L β a w) (hd:Det ms i L):Box (own c V L β) (fun w=>p w (a.eval x)) w:=by
 induction h with
 |tmp k h ht=>rw[Bool.and_eq_true]at ht; exact hI.ent _ (List.mem_of_getElem? h) (hd.on ht.1) (hd.off ht.2)
 |const v=>exact fun _ _=>rfl
 |func f=>exact fun _ _=>rfl
 |any x=>exact fun _ _=>trivial
 |imp _ hq ih=>exact ih.imp fun w=>hq w _
theorem Post.spec {p:Qg} (h:Post G i p) (hwf:WfAt c.N ops V A G i o) {e:Ent} (he:e∈G) (ht:e.tag=some i):∀w v,p w v→e.p w v:=by
 cases h with
 |at_ k s q h hq=>
  have:=hwf.gu _ _ he (List.mem_of_getElem? h) ht rfl
  rw[this]; exact hq
 |none h=>
  rw[List.all_eq_true]at h
  have:=h e he
  simp[ht]at this

theorem Qeg (hI:InvB c V A G L β a w) {x:Vr} (hx:x∈V) (hl:live L x=true) {g:Nat} (hg:β x.id g):mine c g∧g<w.heap.size∧∀o v,w.cell? ⟨g,o,none⟩=some v→Yw v:=(hI.var x hx hl).blk hg
theorem Ze (hI:InvB c V A G L β a w) {x:Vr} (hx:x∈V) (hl:live L x=true) {g:Nat} (hg:β x.id g):g<w.heap.size:=(Qeg hI hx hl hg).2.1
theorem own_lt (hI:InvB c V A G L β a w) {k o:Nat} (h:own c V L β k o):k<w.heap.size:=by
 rcases h with h|⟨x,hx,h1,h2,_⟩
 ·exact Nat.lt_of_lt_of_le (hI.old k o h).1.1 hI.below.size
 ·exact Ze hI hx h1 h2
theorem Yq (hI:InvB c V A G L β a w):Mid (own c V L β) w:=by
 intro k o h
 refine⟨own_lt hI h,fun v hc=>?_⟩
 rcases h with h|⟨x,hx,h1,h2,_⟩
 ·exact(hI.old k o h).2 v hc
 ·exact(Qeg hI hx h1 h2).2.2 o v hc
theorem InvB.old_of (hI:InvB c V A G L β a w) {w':World} (hb:∀k,k<c.w0.heap.size→¬c.lent k→w'.heap[k]?=w.heap[k]?):∀k o,c.M0 k o→(k<c.w0.heap.size∧¬c.lent k)∧∀v,w'.cell? ⟨k,o,none⟩=some v→Yw v:=
 fun k o hk=>⟨(hI.old k o hk).1,fun v hc=>(hI.old k o hk).2 v (by rw[← World.cell?_of_block (w:=w) (w':=w') (a:=⟨k,o,none⟩) (hb k (hI.old k o hk).1.1 (hI.old k o hk).1.2)]; exact hc)⟩
theorem Box.below {M:Nat→Nat→Prop} {F:World→Prop} {w w':World} (h:Box M F w) (hb:Below w.heap.size w w'):Box M F w':=h.ext (Ext.of_below hb)
theorem Mid.below {M:Nat→Nat→Prop} {w w':World} (h:Mid M w) (hb:Below w.heap.size w w'):Mid M w':=fun k o hk=>⟨Nat.lt_of_lt_of_le (h k o hk).1 hb.size,fun v hc=>(h k o hk).2 v (by rw[← World.cell?_of_block (w:=w) (w':=w') (hb.block k (h k o hk).1)]; exact hc)⟩
theorem J0 {t:Option Nat} (h:t≠some i):on (Yp L i) t=on L t:=by
 cases t with
 |none=>rfl
 |some j=>
  have:j≠i:=fun e=>h (by rw[e])
  simp[on,Yp,this]
theorem off_upd_ne {t:Option Nat} (h:t≠some i):off (Yp L i) t=off L t:=by
 cases t with
 |none=>rfl
 |some j=>
  have:j≠i:=fun e=>h (by rw[e])
  simp[off,Yp,this]
theorem Ke {x:Vr} (h1:x.born≠some i) (h2:x.dead≠some i):live (Yp L i) x=live L x:=by unfold live; rw[J0 h1,off_upd_ne h2]
theorem U9 (hV:∀x,x∈V→x.born≠some i∧x.dead≠some i):own c V (Yp L i) β=own c V L β:=by
 funext k o
 apply propext
 constructor
 ·rintro(h|⟨x,hx,h1,h2⟩)
  ·exact .inl h
  ·exact .inr ⟨x,hx,by rw[← Ke (hV x hx).1 (hV x hx).2]; exact h1,h2⟩
 ·rintro(h|⟨x,hx,h1,h2⟩)
  ·exact .inl h
  ·exact .inr ⟨x,hx,by rw[Ke (hV x hx).1 (hV x hx).2]; exact h1,h2⟩
theorem Qcs {st:List (Nat×Zz)} {p:Zz} (h:∀q∈st,q.1≠i):cont (Yp L i) p st=cont L p st:=
 Qcf fun q hq=>by simp[Yp,h q hq]

theorem InvB.value (h:InvB c V A G L β a w) (hwf:WfAt c.N ops V A G i o) (nb:∀x,x∈V→x.born≠some i∧x.dead≠some i) (hs:Wg o.op=false) {w':World} {v:Value} (he:Below w.heap.size w w')
  (hA:∀d p,o.dst=some d→p∈A→p.tag=some i→p.cond→∃g,β p.var g∧v=.pointer (some ⟨g,p.off,none⟩))
  (hG:∀e,e∈G→e.tag=some i→Box (own c V L β) (fun w=>e.p w v) w'):InvB c V A G (Yp L i) β (a.put o.dst v) w':=by
 have hx:=Ext.of_below (M:=own c V L β) he
 refine⟨by rw[Qaq]; exact h.size,by rw[Vw]; exact h.defers,h.below.trans (Lent.of_below he),h.old_of fun k hk _=>he.block k (Nat.lt_of_lt_of_le hk h.below.size),?_,?_,?_,?_⟩
 ·intro x hxV hl
  rw[Ke (nb x hxV).1 (nb x hxV).2]at hl
  refine(h.var x hxV hl).keep (Z7 fun hd=>(hwf.v1 x hxV hd).elim (nb x hxV).1 (nb x hxV).2) rfl (fun g hg=>he.block g (Ze h hxV hl hg)) he.size (fun F hF=>?_) (fun F hF=>?_) (Qcs fun q hq hqi=>by have:=hwf.vs x hxV q hq hqi; rw[hs]at this; cases this)
  ·rw[U9 nb]
   exact hF.ext hx
  ·rw[U9 nb]
   exact hF.below he
 ·intro x y g hxV hyV h1 h2
  rw[Ke (nb x hxV).1 (nb x hxV).2]at h1
  rw[Ke (nb y hyV).1 (nb y hyV).2]at h2
  exact h.apart x y g hxV hyV h1 h2
 ·intro p hp hl hcd
  by_cases ht:p.tag=some i
  ·have hd:=hwf.a2 p hp ht
   obtain⟨g,hg,hva⟩:=hA _ p hd hp ht hcd
   subst hva
   refine⟨g,hg,?_⟩
   rw[hd]
   exact Wn (by rw[h.size]; exact hwf.sz _ hd)
  ·rw[J0 ht]at hl
   rw[Z7 fun hd=>ht (hwf.a1 p hp hd)]
   exact h.al p hp hl hcd
 ·intro e heG hl hf
  obtain⟨hf,hfi⟩:=Qcx hf
  rw[U9 nb]
  by_cases ht:e.tag=some i
  ·have hd:=hwf.g2 e heG ht
   rw[hd,Wn (by rw[h.size]; exact hwf.sz _ hd)]
   exact hG e heG ht
  ·rw[J0 ht]at hl
   rw[Z7 fun hd=>(hwf.g1 e heG hd).elim ht hfi]
   exact(h.ent e heG hl hf).ext hx

theorem InvB.skip (h:InvB c V A G L β a w) (hwf:WfAt c.N ops V A G i o) (nb:∀x,x∈V→(x.born≠some i∧x.dead≠some i)∧∀q,q∈x.st→q.1≠i) (hA:∀p,p∈A→p.tag=some i→¬p.cond)
  (hG:∀e,e∈G→e.tag=some i→Box (own c V L β) (fun w=>e.p w undef) w):InvB c V A G (Yp L i) β (a.put o.dst undef) w:=by
 have nb1:∀x,x∈V→x.born≠some i∧x.dead≠some i:=fun x hx=>(nb x hx).1
 refine⟨by rw[Qaq]; exact h.size,by rw[Vw]; exact h.defers,h.below,h.old,?_,?_,?_,?_⟩
 ·intro x hxV hl
  rw[Ke (nb1 x hxV).1 (nb1 x hxV).2]at hl
  refine(h.var x hxV hl).keep (Z7 fun hd=>(hwf.v1 x hxV hd).elim (nb1 x hxV).1 (nb1 x hxV).2) rfl (fun g hg=>rfl) (Nat.le_refl _) (fun F hF=>?_) (fun F hF=>?_) (Qcs fun q hq=>(nb x hxV).2 q hq)
  ·rw[U9 nb1]
   exact hF
  ·rw[U9 nb1]
   exact hF
 ·intro x y g hxV hyV h1 h2
  rw[Ke (nb1 x hxV).1 (nb1 x hxV).2]at h1
  rw[Ke (nb1 y hyV).1 (nb1 y hyV).2]at h2
  exact h.apart x y g hxV hyV h1 h2
 ·intro p hp hl hcd
  have hpt:p.tag≠some i:=fun e=>hA p hp e hcd
  rw[J0 hpt]at hl
  rw[Z7 fun hd=>hpt (hwf.a1 p hp hd)]
  exact h.al p hp hl hcd
 ·intro e heG hl hf
  obtain⟨hf,hfi⟩:=Qcx hf
  rw[U9 nb1]
  by_cases ht:e.tag=some i
  ·have hd:=hwf.g2 e heG ht
   rw[hd,Wn (by rw[h.size]; exact hwf.sz _ hd)]
   exact hG e heG ht
  ·rw[J0 ht]at hl
   rw[Z7 fun hd=>(hwf.g1 e heG hd).elim ht hfi]
   exact h.ent e heG hl hf

theorem nb_of (hwf:WfAt c.N ops V A G i o) (hb:Qaz o.op=false):∀x,x∈V→x.born≠some i∧x.dead≠some i:=by
 intro x hx
 constructor
 ·intro h
  have:=hwf.vk x hx (.inl h)
  rw[hb]at this
  cases this
 ·intro h
  have:=hwf.vk x hx (.inr h)
  rw[hb]at this
  cases this
theorem nb_all (h:(V.all fun x=>x.born != some i&&x.dead != some i)=true):∀x,x∈V→x.born≠some i∧x.dead≠some i:=fun x hx=>by
 rw[List.all_eq_true]at h
 have:=h x hx
 simpa using this
theorem Wh (h:∀L β a w,InvB c V A G L β a w→Det ms i L→WfAt c.N ops V A G i o→Does P o a w (Inv c V A G (Yp L i))) (hg:o.guard=none):Q0 P ops ms c V A G i o:=by
 rintro L a w ⟨β,hI⟩ hd hwf
 unfold DoesG
 rw[if_pos (by simp[Region.wanted,hg])]
 exact h L β a w hI hd hwf
theorem Jq {K:Act→World→Prop} {v:Value} {w':World} (hr:(execOp a.eval o).run P w=.ok (.value v) w') (hK:K (a.put o.dst v) w'):Does P o a w K:=by
 unfold Does; rw[hr]; exact hK
theorem op_valN {p:Qg} (hg:o.guard=none) (nb:WfAt c.N ops V A G i o→∀x,x∈V→x.born≠some i∧x.dead≠some i) (hs:Wg o.op=false) (ha:Uk o.op=false∨(A.all fun q=>q.tag != some i)=true) (hp:Post G i p)
  (hrun:∀L β a w,InvB c V A G L β a w→Det ms i L→∃v w',(execOp a.eval o).run P w=.ok (.value v) w'∧Below w.heap.size w w'∧Box (own c V L β) (fun w=>p w v) w'):Q0 P ops ms c V A G i o:=by
 refine Wh (fun L β a w hI hd hwf=>?_) hg
 obtain⟨v,w',hr,hbl,hv⟩:=hrun L β a w hI hd
 refine Jq hr ⟨β,hI.value hwf (nb hwf) hs hbl (fun d q _ hq hqt _=>?_) fun e he ht=>hv.imp fun w=>hp.spec hwf he ht w v⟩
 exfalso
 rcases ha with ha|ha
 ·have:=hwf.aa q hq hqt; rw[ha]at this; cases this
 ·rw[List.all_eq_true]at ha; have:=ha q hq; simp[hqt]at this
theorem Vu {p:Qg} (hg:o.guard=none) (hb:Qaz o.op=false) (hs:Wg o.op=false) (ha:Uk o.op=false∨(A.all fun q=>q.tag != some i)=true) (hp:Post G i p)
  (hrun:∀L β a w,InvB c V A G L β a w→Det ms i L→∃v w',(execOp a.eval o).run P w=.ok (.value v) w'∧Below w.heap.size w w'∧Box (own c V L β) (fun w=>p w v) w'):Q0 P ops ms c V A G i o:=
 op_valN hg (fun hwf=>nb_of hwf hb) hs ha hp hrun
theorem Qc2 {p p1:Qg} {x1:Operand} (hg:o.guard=none) (hb:Qaz o.op=false) (hs:Wg o.op=false) (ha:Uk o.op=false) (h1:Has ms G i x1 p1) (hp:Post G i p)
  (hrun:∀(ρ:Operand→Value) w,p1 w (ρ x1)→∃v,(execOp ρ o).run P w=.ok (.value v) w∧∀w,p1 w (ρ x1)→p w v):Q0 P ops ms c V A G i o:=
 Vu hg hb hs (.inl ha) hp fun L β a w hI hd=>by
  have k1:=h1.spec hI hd
  obtain⟨v,h2,h3⟩:=hrun a.eval w k1.out
  exact⟨v,w,h2,Below.refl _ _,fun w' he=>h3 w' (k1 w' he)⟩
theorem op_val2 {p p1 p2:Qg} {x1 x2:Operand} (hg:o.guard=none) (hb:Qaz o.op=false) (hs:Wg o.op=false) (ha:Uk o.op=false) (h1:Has ms G i x1 p1) (h2:Has ms G i x2 p2) (hp:Post G i p)
  (hrun:∀(ρ:Operand→Value) w,p1 w (ρ x1)→p2 w (ρ x2)→∃v,(execOp ρ o).run P w=.ok (.value v) w∧∀w,p1 w (ρ x1)→p2 w (ρ x2)→p w v):Q0 P ops ms c V A G i o:=
 Vu hg hb hs (.inl ha) hp fun L β a w hI hd=>by
  have k1:=h1.spec hI hd
  have k2:=h2.spec hI hd
  obtain⟨v,h3,h4⟩:=hrun a.eval w k1.out k2.out
  exact⟨v,w,h3,Below.refl _ _,fun w' he=>h4 w' (k1 w' he) (k2 w' he)⟩
variable {d:Nat} {x y z:Operand} {ty:TypeId} {pos:String} {aft:Array Edge}
theorem Qx {p:Qg} (h:Has ms G i x p) (hp:Post G i p) (hnb:(V.all fun x=>x.born != some i&&x.dead != some i)=true:=by kernel_rfl):Q0 P ops ms c V A G i ⟨some d,.move x,ty,pos,aft,none⟩:=
 op_valN rfl (fun _=>nb_all hnb) rfl (.inl rfl) hp fun _ _ a w hI hd=>⟨a.eval x,w,rfl,Below.refl _ _,h.spec hI hd⟩
theorem Ys {p:Qg} (h:Has ms G i x p) (hp:Post G i p) (hnb:(V.all fun x=>x.born != some i&&x.dead != some i)=true:=by kernel_rfl):Q0 P ops ms c V A G i ⟨some d,.assign x,ty,pos,aft,none⟩:=
 op_valN rfl (fun _=>nb_all hnb) rfl (.inl rfl) hp fun _ _ a w hI hd=>⟨a.eval x,w,rfl,Below.refl _ _,h.spec hI hd⟩
theorem op_not {b:Bool} {ty1:TypeId} (h:Has ms G i x (pB b)) (hp:Post G i (pB (!b))):Q0 P ops ms c V A G i ⟨some d,.unOp .not ty1 x,ty,pos,aft,none⟩:=
 Qc2 rfl rfl rfl rfl h hp fun ρ w h=>⟨.bool !b,by have h:ρ x=.bool b:=h; show(do pure (Next.value (← Op.unary .not (ρ x)))).run P w=_; rw[h]; rfl,fun _ _=>rfl⟩
theorem Uy {n:Nat} {p q:Qg} (h:Has ms G i x p) (hx:∀w v,p w v→∃vs u,v=.tuple vs∧vs[n]?=some u∧q w u) (hp:Post G i q):Q0 P ops ms c V A G i ⟨some d,.extract x n,ty,pos,aft,none⟩:=
 Qc2 rfl rfl rfl rfl h hp fun ρ w h=>by
  obtain⟨vs,u,e,h1,h2⟩:=hx w _ h
  refine⟨u,?_,fun w' h'=>?_⟩
  ·show(do pure (Next.value (← Instr.extract (ρ x) n))).run P w=_
   have hx:Instr.extract (ρ x) n=pure u:=by rw[e]; unfold Instr.extract; simp only[h1]
   rw[hx]
   rfl
  ·obtain⟨vs',u',e',h1',h2'⟩:=hx w' _ h'
   rw[e]at e'
   injection e' with e'
   subst e'
   rw[h1]at h1'
   injection h1' with h1'
   rw[h1']
   exact h2'
theorem Zt {b:Bool} {q:Qg} (h:Has ms G i x (pB b)) (ht:b=true→Has ms G i y q) (hf:b=false→Has ms G i z q) (hp:Post G i q):Q0 P ops ms c V A G i ⟨some d,.pick x y z,ty,pos,aft,none⟩:=
 Vu rfl rfl rfl (.inl rfl) hp fun L β a w hI hd=>by
  have k:=(h.spec hI hd).out
  have k:a.eval x=.bool b:=k
  cases b with
  |true=>
   refine⟨a.eval y,w,?_,Below.refl _ _,(ht rfl).spec hI hd⟩
   show(do pure (Next.value (if ← asBool (a.eval x)then a.eval y else a.eval z))).run P w=_
   rw[k]; rfl
  |false=>
   refine⟨a.eval z,w,?_,Below.refl _ _,(hf rfl).spec hI hd⟩
   show(do pure (Next.value (if ← asBool (a.eval x)then a.eval y else a.eval z))).run P w=_
   rw[k]; rfl
theorem Q6 {op:BinOp} {xt yt:TypeId} {k k':IntKind} {m n:Int} {v:Value} (h1:Has ms G i x (Qi (.int k m))) (h2:Has ms G i y (Qi (.int k' n))) (hr:∀w,(Go.binOp op xt (.int k m) (.int k' n)).run P w=.ok v w) (hp:Post G i (Qi v)):
  Q0 P ops ms c V A G i ⟨some d,.binOp op xt x y yt,ty,pos,aft,none⟩:=
 op_val2 rfl rfl rfl rfl h1 h2 hp fun ρ w h1 h2=>⟨v,by
  have h1:ρ x=.int k m:=h1
  have h2:ρ y=.int k' n:=h2
  show(do pure (Next.value (← (do eqGuard op xt x y (ρ x) (ρ y); Go.binOp op xt (ρ x) (ρ y))))).run P w=_
  rw[h1,h2]
  have hgd:eqGuard op xt x y (.int k m) (.int k' n)=pure ():=by unfold eqGuard; split<;>rfl
  rw[hgd]
  have:=hr w
  simp only[pure_bind,Sem.run_bind,this,Result.andThen_ok,Sem.run_pure],fun _ _ _=>rfl⟩

theorem Qik {op:BinOp} {xt yt:TypeId} {m n:Bool} {v:Value} (h1:Has ms G i x (pB m)) (h2:Has ms G i y (pB n)) (hr:∀w,(Go.binOp op xt (.bool m) (.bool n)).run P w=.ok v w) (hp:Post G i (Qi v)):
  Q0 P ops ms c V A G i ⟨some d,.binOp op xt x y yt,ty,pos,aft,none⟩:=
 op_val2 rfl rfl rfl rfl h1 h2 hp fun ρ w h1 h2=>⟨v,by
  have h1:ρ x=.bool m:=h1
  have h2:ρ y=.bool n:=h2
  show(do pure (Next.value (← (do eqGuard op xt x y (ρ x) (ρ y); Go.binOp op xt (ρ x) (ρ y))))).run P w=_
  rw[h1,h2]
  have hgd:eqGuard op xt x y (.bool m) (.bool n)=pure ():=by unfold eqGuard; split<;>rfl
  rw[hgd]
  have:=hr w
  simp only[pure_bind,Sem.run_bind,this,Result.andThen_ok,Sem.run_pure],fun _ _ _=>rfl⟩
theorem op_conv {S D:TypeId} {v u:Value} (h:Has ms G i x (Qi v)) (hr:∀w,(Go.convert S D v).run P w=.ok u w) (hp:Post G i (Qi u)):Q0 P ops ms c V A G i ⟨some d,.convert S D x,ty,pos,aft,none⟩:=
 Qc2 rfl rfl rfl rfl h hp fun ρ w h=>⟨u,by
  have h:ρ x=v:=h
  show(do pure (Next.value (← Go.convert S D (ρ x)))).run P w=_
  rw[h,Sem.run_bind,hr]
  rfl,fun _ _=>rfl⟩

def Kb (p:Qg) (w:World) (e:Ending) (w':World):Prop:=∃v,e=.returned v∧p w' v∧Below w.heap.size w w'
def RetB (M:Nat→Nat→Prop) (p:Qg) (w:World) (e:Ending) (w':World):Prop:=∃v,e=.returned v∧Box M (fun w=>p w v) w'∧Below w.heap.size w w'
def Y0 (P:Program) (f:FuncId):Prop:=∀args w,(callFunc f args).run P w=.ok (.enter f args) w
theorem Qdi {f:FuncId} {args:Array Operand} {ts:Array TypeId} {K:Act→World→Prop} (hf:Y0 P f) (h:Calls P f (args.map a.eval) w fun e w'=>∃v,e=.returned v∧K (a.put (some d) v) w'):
  Does P ⟨some d,.call ⟨.value (.func f),args,ts⟩,ty,pos,aft,none⟩ a w K:=by
 have hr:(execOp a.eval ⟨some d,.call ⟨.value (.func f),args,ts⟩,ty,pos,aft,none⟩).run P w=.ok (.enter f (args.map a.eval)) w:=by
  have:=hf (args.map a.eval++#[]) w
  simp only[execOp,resolve,Act.eval,Deferred.ofValue,pure_bind,invoke]
  rw[Array.append_empty]at this
  first|exact this|simpa using this
 unfold Does
 rw[hr]
 exact h
theorem Qb0 {f:FuncId} {args:Array Operand} {ts:Array TypeId} {p:Qg} (hf:Y0 P f) (hp:Post G i p)
  (hc:∀L β a w,InvB c V A G L β a w→Det ms i L→Calls P f (args.map a.eval) w (RetB (own c V L β) p w)):
  Q0 P ops ms c V A G i ⟨some d,.call ⟨.value (.func f),args,ts⟩,ty,pos,aft,none⟩:=by
 refine Wh (fun L β a w hI hd hwf=>Qdi hf ((hc L β a w hI hd).mono ?_)) rfl
 rintro e w' ⟨v,rfl,hv,hb⟩
 exact⟨v,rfl,β,hI.value hwf (nb_of hwf rfl) rfl hb (fun d q _ hq hqt _=>by have:=hwf.aa q hq hqt; cases this) fun e he ht=>hv.imp fun w=>hp.spec hwf he ht w v⟩
theorem ret_box {p:Qg} (hn:Zg p) {M:Nat→Nat→Prop} {w:World} (hM:Mid M w) {e:Ending} {w':World} (h:Kb p w e w'):RetB M p w e w':=by
 obtain⟨v,rfl,h1,h2⟩:=h
 exact⟨v,rfl,hn M w' v (hM.below h2) h1,h2⟩
theorem op_call0 {f:FuncId} {ts:Array TypeId} {p:Qg} (hf:Y0 P f) (hn:Zg p) (hp:Post G i p)
  (hc:∀w,Calls P f #[] w (Kb p w)):Q0 P ops ms c V A G i ⟨some d,.call ⟨.value (.func f),#[],ts⟩,ty,pos,aft,none⟩:=
 Qb0 hf hp fun _ _ a w hI _=>(by
  rw[show(#[]:Array Operand).map a.eval=#[] by simp]
  exact(hc w).mono fun _ _ h=>ret_box hn (Yq hI) h)
theorem Qan {f:FuncId} {ts:Array TypeId} {p p1:Qg} (hf:Y0 P f) (hn:Zg p) (h1:Has ms G i x p1) (hp:Post G i p)
  (hc:∀w v1,p1 w v1→Calls P f #[v1] w (Kb p w)):Q0 P ops ms c V A G i ⟨some d,.call ⟨.value (.func f),#[x],ts⟩,ty,pos,aft,none⟩:=
 Qb0 hf hp fun _ _ a w hI hd=>(by
  rw[show(#[x]:Array Operand).map a.eval=#[a.eval x] by simp]
  exact(hc w _ (h1.spec hI hd).out).mono fun _ _ h=>ret_box hn (Yq hI) h)
theorem Kf {f:FuncId} {ts:Array TypeId} {p p1 p2:Qg} (hf:Y0 P f) (hn:Zg p) (h1:Has ms G i x p1) (h2:Has ms G i y p2) (hp:Post G i p)
  (hc:∀w v1 v2,p1 w v1→p2 w v2→Calls P f #[v1,v2] w (Kb p w)):Q0 P ops ms c V A G i ⟨some d,.call ⟨.value (.func f),#[x,y],ts⟩,ty,pos,aft,none⟩:=
 Qb0 hf hp fun _ _ a w hI hd=>(by
  rw[show(#[x,y]:Array Operand).map a.eval=#[a.eval x,a.eval y] by simp]
  exact(hc w _ _ (h1.spec hI hd).out (h2.spec hI hd).out).mono fun _ _ h=>ret_box hn (Yq hI) h)
theorem Qc0 {f:FuncId} {ts:Array TypeId} {p p1 p2 p3:Qg} (hf:Y0 P f) (hn:Zg p) (h1:Has ms G i x p1) (h2:Has ms G i y p2) (h3:Has ms G i z p3) (hp:Post G i p)
  (hc:∀w v1 v2 v3,p1 w v1→p2 w v2→p3 w v3→Calls P f #[v1,v2,v3] w (Kb p w)):Q0 P ops ms c V A G i ⟨some d,.call ⟨.value (.func f),#[x,y,z],ts⟩,ty,pos,aft,none⟩:=
 Qb0 hf hp fun _ _ a w hI hd=>(by
  rw[show(#[x,y,z]:Array Operand).map a.eval=#[a.eval x,a.eval y,a.eval z] by simp]
  exact(hc w _ _ _ (h1.spec hI hd).out (h2.spec hI hd).out (h3.spec hI hd).out).mono fun _ _ h=>ret_box hn (Yq hI) h)
theorem Qhn {f:FuncId} {ts:Array TypeId} {p p1:Qg} (hf:Y0 P f) (h1:Has ms G i x p1) (hp:Post G i p)
  (hc:∀M w v1,Mid M w→Box M (fun w=>p1 w v1) w→Calls P f #[v1] w (RetB M p w)):Q0 P ops ms c V A G i ⟨some d,.call ⟨.value (.func f),#[x],ts⟩,ty,pos,aft,none⟩:=
 Qb0 hf hp fun _ _ a w hI hd=>(by
  rw[show(#[x]:Array Operand).map a.eval=#[a.eval x] by simp]
  exact hc _ w _ (Yq hI) (h1.spec hI hd))
theorem op_callB2 {f:FuncId} {ts:Array TypeId} {p p1 p2:Qg} (hf:Y0 P f) (h1:Has ms G i x p1) (h2:Has ms G i y p2) (hp:Post G i p)
  (hc:∀M w v1 v2,Mid M w→Box M (fun w=>p1 w v1) w→Box M (fun w=>p2 w v2) w→Calls P f #[v1,v2] w (RetB M p w)):Q0 P ops ms c V A G i ⟨some d,.call ⟨.value (.func f),#[x,y],ts⟩,ty,pos,aft,none⟩:=
 Qb0 hf hp fun _ _ a w hI hd=>(by
  rw[show(#[x,y]:Array Operand).map a.eval=#[a.eval x,a.eval y] by simp]
  exact hc _ w _ _ (Yq hI) (h1.spec hI hd) (h2.spec hI hd))
theorem op_sel {j:Nat} {b:Bool} {φ:Prop} [Decidable φ] {op:Op} {dst:Option Nat} {p:Qg} (k:Nat) {s:Nat} {f:Option Nat} (hk:G[k]?=some ⟨some j,f,s,p⟩) (hj:((ms.getD i 0).testBit j&&Qab ms i f)=true)
  (hy:∀w v,p w v→φ→v=.bool b) (hn:∀w v,p w v→¬φ→v≠.bool b)
  (h:φ→Q0 P ops ms c V A G i ⟨dst,op,ty,pos,aft,none⟩)
  (hb:¬φ→(V.all fun x=>(x.born != some i&&x.dead != some i)&&x.st.all fun q=>q.1 != i)=true) (hA:¬φ→AlNo A i) (hp:¬φ→Post G i (Qi undef)):
  Q0 P ops ms c V A G i ⟨dst,op,ty,pos,aft,some (j,b)⟩:=by
 rintro L a w ⟨β,hI⟩ hd hwf
 have hke:=List.mem_of_getElem? hk
 rw[Bool.and_eq_true]at hj
 have hv:=(hI.ent _ hke (hd.before j hj.1) (hd.off hj.2)).out
 have hslot:=hwf.g3 _ j hke rfl
 simp only at hslot
 have hs:s<a.tmps.size:=by rw[hI.size]; exact hwf.sg _ hke
 have hyd:yielded ops a.tmps j=match sl a s with|.bool b=>some b|_=>none:=by
  unfold yielded
  rw[hslot]
  simp only[Option.bind_some,Array.getElem?_eq_getElem hs,sl,Array.getD_eq_getD_getElem?,Option.getD_some]
  cases a.tmps[s]<;>rfl
 by_cases hφ:φ
 ·have hv':=hy w _ hv hφ
  have hw:Region.wanted (⟨dst,op,ty,pos,aft,some (j,b)⟩:Oper) (yielded ops a.tmps)=true:=by
   simp only[Region.wanted,hyd,hv',beq_self_eq_true]
  have h1:=h hφ L a w ⟨β,hI⟩ hd hwf.unguard
  unfold DoesG at h1 ⊢
  rw[if_pos hw]
  rw[if_pos (by simp[Region.wanted])]at h1
  exact h1
 ·have hv':=hn w _ hv hφ
  have hw:¬Region.wanted (⟨dst,op,ty,pos,aft,some (j,b)⟩:Oper) (yielded ops a.tmps)=true:=by
   simp only[Region.wanted,hyd]
   intro h
   apply hv'
   revert h
   cases sl a s<;>simp
  unfold DoesG
  rw[if_neg hw]
  refine⟨β,hI.skip hwf ?_ ?_ fun e he ht=>?_⟩
  ·have:=hb hφ
   rw[List.all_eq_true]at this
   intro x hx
   have:=this x hx
   simp only[Bool.and_eq_true,List.all_eq_true,bne_iff_ne,ne_eq]at this
   exact this
  ·exact(hA hφ).spec
  ·exact fun w' _=>(hp hφ).spec hwf he ht w' _ rfl

def Z2 (φ:Prop) (q:Qg):Qg:=fun w v=>(φ→q w v)∧(¬φ→v=undef)
theorem Has.sel {x:Operand} {φ:Prop} {q:Qg} (h:Has ms G i x (Z2 φ q)) (hφ:φ):Has ms G i x q:=h.imp fun _ _ h=>h.1 hφ
theorem Post.sel {p:Qg} {φ:Prop} (hφ:φ) (k:Nat) {s:Nat} {f:Option Nat} (h:G[k]?=some ⟨some i,f,s,Z2 φ p⟩):Post G i p:=.at_ k s _ h fun _ _ h=>⟨fun _=>h,fun hn=>absurd hφ hn⟩
theorem Post.sel_no {q:Qg} {φ:Prop} (hφ:¬φ) (k:Nat) {s:Nat} {f:Option Nat} (h:G[k]?=some ⟨some i,f,s,Z2 φ q⟩):Post G i (Qi undef):=.at_ k s _ h fun _ _ h=>⟨fun hp=>absurd hp hφ,fun _=>h⟩
theorem op_yes {j:Nat} {b:Bool} {op:Op} {dst:Option Nat} (k:Nat) {s:Nat} {f:Option Nat} (hk:G[k]?=some ⟨some j,f,s,pB b⟩) (hj:((ms.getD i 0).testBit j&&Qab ms i f)=true)
  (h:Q0 P ops ms c V A G i ⟨dst,op,ty,pos,aft,none⟩):Q0 P ops ms c V A G i ⟨dst,op,ty,pos,aft,some (j,b)⟩:=
 op_sel (φ:=True) k hk hj (fun _ _ h _=>h) (fun _ _ _ h=>absurd trivial h) (fun _=>h) (fun h=>absurd trivial h) (fun h=>absurd trivial h) (fun h=>absurd trivial h)
theorem op_no {j:Nat} {b:Bool} {op:Op} {dst:Option Nat} {v:Value} (k:Nat) {s:Nat} {f:Option Nat} (hk:G[k]?=some ⟨some j,f,s,Qi v⟩) (hj:((ms.getD i 0).testBit j&&Qab ms i f)=true) (hne:v≠.bool b)
  (hb:(V.all fun x=>(x.born != some i&&x.dead != some i)&&x.st.all fun q=>q.1 != i)=true) (hA:AlNo A i) (hp:Post G i (Qi undef)):Q0 P ops ms c V A G i ⟨dst,op,ty,pos,aft,some (j,b)⟩:=
 op_sel (φ:=False) k hk hj (fun _ _ _ h=>h.elim) (fun _ u e _=>by have e:u=v:=e; rw[e]; exact hne) (fun h=>h.elim) (fun _=>hb) (fun _=>hA) (fun _=>hp)
theorem Jg {j:Nat} {b cb:Bool} {op:Op} {dst:Option Nat} (k:Nat) {s:Nat} {f:Option Nat} (hk:G[k]?=some ⟨some j,f,s,pB cb⟩) (hj:((ms.getD i 0).testBit j&&Qab ms i f)=true)
  (h:cb=b→Q0 P ops ms c V A G i ⟨dst,op,ty,pos,aft,none⟩)
  (hb:(V.all fun x=>(x.born != some i&&x.dead != some i)&&x.st.all fun q=>q.1 != i)=true) (hA:¬cb=b→AlNo A i) (hp:¬cb=b→Post G i (Qi undef)):Q0 P ops ms c V A G i ⟨dst,op,ty,pos,aft,some (j,b)⟩:=
 op_sel (φ:=cb=b) k hk hj (fun _ _ h e=>by rw[show _=Value.bool cb from h,e]) (fun _ _ h e e'=>e (by rw[show _=Value.bool cb from h]at e'; injection e')) h (fun _=>hb) hA hp
end
end Wx

namespace Wx
open Go Go.RowKit

structure Ty (P:Program) (T:TypeId) (agg:Bool) (n:Nat):Prop where
 agg_:∀w,(isAgg T).run P w=.ok agg w
 size:∀w,(Go.sizeOf T).run P w=.ok n w
 one:agg=false→n=1
def J4 (n:Nat) (agg:Bool) (p:Qg):Prop:=∀w v,p w v→∃cs:List Value,v=Xd agg cs∧cs.length=n∧v.cells=cs.toArray∧∀u∈cs,Yw u∧u.oneCell'=true
section
variable {P:Program} {ops:Array Oper} {ms:List Nat} {c:Cfg} {V:List Vr} {A:List Al} {G:List Ent} {i:Nat} {L:Nat→Bool} {β:Nat→Nat→Prop} {a:Act} {w:World} {o:Oper}
variable {d:Nat} {x y z:Operand} {ty:TypeId} {pos:String} {aft:Array Edge}

theorem V9 {T:TypeId} {agg:Bool} {n b off:Nat} {cs:List Value} (ht:Ty P T agg n) (hc:∀j v,cs[j]?=some v→w.cell? ⟨b,off+j,none⟩=some v) (hl:cs.length=n):
  (Instr.loadAt T (.pointer (some ⟨b,off,none⟩))).run P w=.ok (Xd agg cs) w:=by
 simp only[Instr.loadAt,Instr.sureAddr,Sem.run_bind,Sem.run_pure,Result.andThen_ok,loadVar,ht.agg_]
 cases agg with
 |true=>
  have hl2:(loadCells ⟨b,off,none⟩ cs.length).run P w=.ok cs.toArray w:=
   run_loadCells_list (P:=P) w ⟨b,off,none⟩ cs (fun j v hv=>by rw[Addr.add_mid]; exact hc j v hv)
  simp only[if_true,Sem.run_bind,ht.size,Result.andThen_ok,← hl,hl2,Sem.run_pure,Xd]
 |false=>
  have h1:=ht.one rfl
  match cs,hl with
  |[u],_=>
   have:=hc 0 u rfl
   simp only[Nat.add_zero]at this
   simp[Xd,load,Sem.run,this]
  |[],hl=>simp[h1]at hl
  |_::_::_,hl=>simp[h1]at hl
theorem Qe7 {T t:TypeId} {agg:Bool} {n g off:Nat} {old cs:List Value} {v:Value} (ht:Ty P T agg n) (hg:w.heap[g]?=some (.cells old.toArray t (0,0))) (hv:v.cells=cs.toArray) (hl:cs.length=n) (hlen:off+n≤old.length) (h1:∀u∈cs,u.oneCell'=true):
  (Instr.storeAt T (.pointer (some ⟨g,off,none⟩)) v).run P w=.ok () (w.setRow g (old.take off++cs++old.drop (off+n)).toArray):=by
 simp only[Instr.storeAt,Instr.sureAddr,Sem.run_bind,Sem.run_pure,Result.andThen_ok,storeVar,ht.size,hv,List.size_toArray,hl,ne_eq,not_true_eq_false,if_false]
 have:=run_storeCells_at P g off t cs 0 old.toArray w hg (by simp; omega) h1
 simp only[Nat.add_zero,hl]at this
 exact this

theorem X4 {g k:Nat} {cs:Array Value} (h:k≠g):(w.setRow g cs).heap[k]?=w.heap[k]?:=by
 unfold World.setRow
 rw[Array.getElem?_modify,if_neg (fun e=>h e.symm)]
theorem size_setRow {g:Nat} {cs:Array Value}:(w.setRow g cs).heap.size=w.heap.size:=by simp[World.setRow]
theorem ext_alloc {M M':Nat→Nat→Prop} {b:Obj} (hm:∀k o,k<w.heap.size→M' k o→M k o) {F:World→Prop} (hF:Box M F w):Box M' F (w.alloc b):=by
 intro w'' he
 have hlt:∀{k:Nat},k<w.heap.size→k<(w.alloc b).heap.size:=fun h=>by simp; omega
 refine hF w'' ⟨Nat.le_trans (by simp) he.size,fun k hk hno=>?_,fun k o v hno hc=>?_⟩
 ·rw[he.block k (hlt hk) (fun o h'=>hno o (hm k o hk h'))]
  exact Below.heap_alloc _ _ _ hk
 ·have hk:=World.block_lt_of_cell? w _ hc
  refine he.cell k o v (fun h'=>hno (hm k o hk h')) ?_
  rw[World.cell?_of_block (w:=w) (Below.heap_alloc _ _ _ hk)]
  exact hc
theorem InvB.bornAt (h:InvB c V A G L β a w) (hd:Det ms i L) (hwf:WfAt c.N ops V A G i o) {x:Vr} (hx:x∈V) (hxb:x.born=some i) (hxk:x.kd.grows=false) (hst:(x.st.all fun q=>(ms.getD q.1 0).testBit i)=true) (hdd:(V.all fun y=>y.dead != some i)=true)
  {cs:List Value} {w0:Nat} (hl:cs.length=x.n) (hn:∀u∈cs,Yw u) (hc:Box (own c V L β) (fun w=>x.c0 (·=w0) w (Xd x.agg cs)) w) (hw0:w0=w.heap.size) (hno:(G.all fun e=>e.tag != some i)=true) (hal:(A.all fun p=>p.var != x.id||p.tag.any fun j=>(ms.getD j 0).testBit i)=true) (hs:Wg o.op=false) (hna:Uk o.op=false):
  Inv c V A G (Yp L i) (a.put o.dst (x.kd.addr w.heap.size)) (w.alloc (.cells cs.toArray x.T)):=by
 have hdst:=hwf.v2 x hx hxb
 have nd:∀y,y∈V→y.dead≠some i:=fun y hy=>by rw[List.all_eq_true]at hdd; simpa using hdd y hy
 have nV:∀y,y∈V→y.id≠x.id→y.born≠some i:=fun y hy hne hb=>hne (by rw[hwf.vo y x hy hx hb hxb])
 have nS:∀y,y∈V→y.id≠x.id→o.dst≠some y.slot:=fun y hy hne hd'=>(hwf.v1 y hy hd').elim (nV y hy hne) (nd y hy)
 have lv:∀y,y∈V→y.id≠x.id→live (Yp L i) y=live L y:=fun y hy hne=>Ke (nV y hy hne) (nd y hy)
 have st_no:∀y,y∈V→∀q,q∈y.st→q.1≠i:=fun y hy q hq hqi=>by have:=hwf.vs y hy q hq hqi; rw[hs]at this; cases this
 subst hw0
 let β':Nat→Nat→Prop:=fun s=>if s=x.id then(·=w.heap.size)else β s
 have hβ:∀y,y∈V→y.id≠x.id→β' y.id=β y.id:=fun y _ hne=>if_neg hne
 have hβx:β' x.id=(·=w.heap.size):=if_pos rfl
 have own_old:∀k j,k<w.heap.size→own c V (Yp L i) β' k j→own c V L β k j:=by
  rintro k j hk (h1|⟨y,hy,h1,h2,h3⟩)
  ·exact .inl h1
  ·by_cases hyx:y.id=x.id
   ·rw[hyx,hβx]at h2; exact absurd h2 (Nat.ne_of_lt hk)
   ·rw[lv y hy hyx]at h1
    exact .inr ⟨y,hy,h1,by rw[← hβ y hy hyx]; exact h2,h3⟩
 have lift:∀F:World→Prop,Box (own c V L β) F w→Box (own c V (Yp L i) β') F (w.alloc (.cells cs.toArray x.T)):=fun F hF=>ext_alloc own_old hF
 have liftm:∀(B:Nat→Prop) (F:World→Prop),Box (Kr (own c V L β) B) F w→Box (Kr (own c V (Yp L i) β') B) F (w.alloc (.cells cs.toArray x.T)):=fun B F hF=>ext_alloc (fun k j hk h=>⟨own_old k j hk h.1,h.2⟩) hF
 have hb0:Below w.heap.size w (w.alloc (.cells cs.toArray x.T)):=Below.alloc (Below.refl _ _) (Nat.le_refl _) _
 refine⟨β',by rw[Qaq]; exact h.size,by rw[Vw]; exact h.defers,h.below.trans (Lent.of_below hb0),h.old_of fun k hk _=>hb0.block k (Nat.lt_of_lt_of_le hk h.below.size),?_,?_,?_,?_⟩
 ·intro y hy hlive
  by_cases hyx:y.id=x.id
  ·have:y=x:=hwf.vu y x hy hx hyx
   subst this
   refine(Zy hxk).2 ⟨w.heap.size,fun k=>by rw[hβx],by rw[hdst,Wn (by rw[h.size]; exact hwf.sz _ hdst)],.inl h.below.size,cs,heap_alloc_new _ _,hl,hn,?_⟩
   have e:cont (Yp L i) y.c0 y.st=y.c0:=by
    have key:∀(st:List (Nat×Zz)) (p:Zz),(∀q∈st,Yp L i q.1=false)→cont (Yp L i) p st=p:=by
     intro st
     induction st with
     |nil=>intro p _; rfl
     |cons q st ih=>
      intro p hq
      obtain⟨j,dd⟩:=q
      rw[cont,hq (j,dd) (by simp)]
      exact ih p fun q' hq'=>hq q' (List.mem_cons_of_mem _ hq')
    refine key _ _ fun q hq=>?_
    rw[List.all_eq_true]at hst
    have h1:=hd.behind q.1 (hst q hq)
    simp[Yp,st_no y hy q hq,h1]
   rw[e]
   exact lift _ hc
  ·rw[lv y hy hyx]at hlive
   exact(h.var y hy hlive).keep (Z7 (nS y hy hyx)) (hβ y hy hyx) (fun g hg=>Below.heap_alloc _ _ _ (Ze h hy hlive hg)) hb0.size lift (liftm _) (Qcs (st_no y hy))
 ·intro y y' g hy hy' h1 h2 hne
  by_cases hyx:y.id=x.id
  ·have hy'x:y'.id≠x.id:=fun e=>hne (hyx.trans e.symm)
   rw[lv y' hy' hy'x]at h2
   rw[hyx,hβx,hβ y' hy' hy'x]
   intro e e'
   exact absurd e (Nat.ne_of_lt (Ze h hy' h2 e'))
  ·rw[lv y hy hyx]at h1
   rw[hβ y hy hyx]
   by_cases hy'x:y'.id=x.id
   ·rw[hy'x,hβx]
    intro e e'
    exact absurd e' (Nat.ne_of_lt (Ze h hy h1 e))
   ·rw[lv y' hy' hy'x]at h2
    rw[hβ y' hy' hy'x]
    exact h.apart y y' g hy hy' h1 h2 hne
 ·intro p hp hlive hcd
  have hpt:p.tag≠some i:=fun e=>by have:=hwf.aa p hp e; rw[hna]at this; cases this
  rw[J0 hpt]at hlive
  obtain⟨g,hg,hp1⟩:=h.al p hp hlive hcd
  rw[Z7 fun e=>hpt (hwf.a1 p hp e),hp1]
  have hne:p.var≠x.id:=by
   intro e
   rw[List.all_eq_true]at hal
   have h1:=hal p hp
   rw[e]at h1
   simp only[bne_self_eq_false,Bool.false_or]at h1
   cases ht:p.tag with
   |none=>rw[ht]at h1; simp at h1
   |some j=>
    rw[ht]at h1 hlive
    have:=hd.behind j (by simpa using h1)
    simp only[on,this]at hlive
    cases hlive
  exact⟨g,by simpa [β',hne] using hg,rfl⟩
 ·intro e he hlive hf
  obtain⟨hf,hfi⟩:=Qcx hf
  rw[List.all_eq_true]at hno
  have ht:e.tag≠some i:=by simpa using hno e he
  rw[J0 ht]at hlive
  rw[Z7 fun hd'=>(hwf.g1 e he hd').elim ht hfi]
  exact lift _ (h.ent e he hlive hf)

theorem Jv {T:TypeId} {z:Value} {x:Vr} {cs:List Value} (k:Nat) (hk:V[k]?=some x) (hb:x.born=some i) (hst:((x.st.all fun q=>(ms.getD q.1 0).testBit i)&&V.all fun y=>y.dead != some i)=true) (hno:(G.all fun e=>e.tag != some i)=true) (hal:(A.all fun p=>p.var != x.id||p.tag.any fun j=>(ms.getD j 0).testBit i)=true)
  (hT:x.T=T) (hkd:x.kd=.ptr) (hz:∀w,(zeroValue T).run P w=.ok z w) (hzc:z.cells=cs.toArray) (hl:cs.length=x.n) (hn:∀u∈cs,Yw u) {q:Qg} (hcq:x.c0=pv q) (hc:∀w,q w (Xd x.agg cs)):
  Q0 P ops ms c V A G i ⟨some d,.alloc T,ty,pos,aft,none⟩:=by
 refine Wh (fun L β a w hI hd hwf=>?_) rfl
 have hr:(execOp a.eval ⟨some d,.alloc T,ty,pos,aft,none⟩).run P w=.ok (.value (.pointer (some ⟨w.heap.size,0,none⟩))) (w.alloc (.cells cs.toArray T)):=by
  show(do pure (Next.value (← Instr.alloc T true (.tuple #[])))).run P w=_
  simp only[Instr.alloc,Sem.run_bind,hz,Result.andThen_ok,newVar,newRow,hzc,Sem.run_pure]
  rfl
 rw[Bool.and_eq_true]at hst
 refine Jq hr ?_
 rw[← hT]
 have:=hI.bornAt hd hwf (List.mem_of_getElem? hk) hb (by rw[hkd]; rfl) hst.1 hst.2 hl hn (by rw[hcq]; exact fun w' _=>hc w') rfl hno hal rfl rfl
 rwa [hkd]at this
theorem Qa8 {T:TypeId} {p:Qg} {v:Vr} (k:Nat) (hk:V[k]?=some v) (hb:v.born=some i) (hst:((v.st.all fun q=>(ms.getD q.1 0).testBit i)&&V.all fun y=>y.dead != some i)=true) (hno:(G.all fun e=>e.tag != some i)=true) (hal:(A.all fun p=>p.var != v.id||p.tag.any fun j=>(ms.getD j 0).testBit i)=true)
  (hT:v.T=T) (hkd:v.kd=.ptr) (h:Has ms G i x p) (hf:J4 v.n v.agg p) (hc:v.c0=pv p):
  Q0 P ops ms c V A G i ⟨some d,.box T x,ty,pos,aft,none⟩:=by
 refine Wh (fun L β a w hI hd hwf=>?_) rfl
 have hp:=h.spec hI hd
 obtain⟨cs,e,hl,hcells,h1⟩:=hf w _ hp.out
 have hr:(execOp a.eval ⟨some d,.box T x,ty,pos,aft,none⟩).run P w=.ok (.value (.pointer (some ⟨w.heap.size,0,none⟩))) (w.alloc (.cells cs.toArray T)):=by
  show(do pure (Next.value (← Instr.box T (a.eval x)))).run P w=_
  simp only[Instr.box,newVar,newRow,hcells]
  rfl
 rw[Bool.and_eq_true]at hst
 refine Jq hr ?_
 rw[← hT]
 have:=hI.bornAt hd hwf (List.mem_of_getElem? hk) hb (by rw[hkd]; rfl) hst.1 hst.2 hl (fun u hu=>(h1 u hu).1) (by rw[hc,← e]; exact hp) rfl hno hal rfl rfl
 rwa [hkd]at this

def Zi (ms:List Nat) (i:Nat) (x:Vr):Bool:=onAt ms i x.born&&Qab ms i x.dead
theorem Det.live (hd:Det ms i L) {x:Vr} (h:Zi ms i x=true):live L x=true:=by
 unfold Zi at h
 rw[Bool.and_eq_true]at h
 unfold Wx.live
 rw[hd.on h.1,hd.off h.2]; rfl
theorem Qed (hI:InvB c V A G L β a w) (hd:Det ms i L) {x:Vr} (hx:x∈V) (ho:Zi ms i x=true) (hk:x.kd=.ptr):∃g,(∀k,β x.id k↔k=g)∧sl a x.slot=.pointer (some ⟨g,0,none⟩)∧BlkOk (own c V L β) c L a w x g:=by
 have:=(Zy (by rw[hk]; rfl)).1 (hI.var x hx (hd.live ho))
 rwa [hk]at this
theorem Qd7 (hd:Det ms i L) {st:List (Nat×Zz)} {p:Zz} (h:(st.all fun q=>(ms.getD i 0).testBit q.1||(ms.getD q.1 0).testBit i)=true):cont L p st=cont (fun j=>(ms.getD i 0).testBit j) p st:=by
 rw[List.all_eq_true]at h
 refine Qcf fun q hq=>?_
 have:=h q hq
 simp only[Bool.or_eq_true]at this
 rcases this with h1|h1
 ·rw[hd.before _ h1,h1]
 ·have h2:=hd.behind _ h1
  rw[h2]
  cases h3:(ms.getD i 0).testBit q.1 with
  |false=>rfl
  |true=>rw[hd.before _ h3]at h2; cases h2
theorem W4 {g:Nat} {cs:List Value} {T:TypeId} {fz:Nat×Nat} (h:w.heap[g]?=some (.cells cs.toArray T fz)) (off:Nat) (m:Nat):∀j v,((cs.drop off).take m)[j]?=some v→w.cell? ⟨g,off+j,none⟩=some v:=by
 intro j v hv
 simp only[World.cell?,h]
 rw[List.getElem?_take]at hv
 split at hv
 ·rw[List.getElem?_drop]at hv
  simpa using hv
 ·cases hv
theorem Xy {T:TypeId} {s:Nat} {x:Vr} {p:Qg} (k:Nat) (hk:V[k]?=some x) (hsl:x.slot=s) (ho:Zi ms i x=true) (hkd:x.kd=.ptr) (hst:(x.st.all fun q=>(ms.getD i 0).testBit q.1||(ms.getD q.1 0).testBit i)=true)
  (ht:Ty P T x.agg x.n) (hc:cont (fun j=>(ms.getD i 0).testBit j) x.c0 x.st=pv p) (hp:Post G i p):
  Q0 P ops ms c V A G i ⟨some d,.load T (.tmp s),ty,pos,aft,none⟩:=
 Vu rfl rfl rfl (.inl rfl) hp fun L β a w hI hd=>by
  obtain⟨g,hg,hsl',hv⟩:=Qed hI hd (List.mem_of_getElem? hk) ho hkd
  obtain⟨cs,h1,h2,h3,h4⟩:=hv.held
  rw[Qd7 hd hst,hc]at h4
  refine⟨_,w,?_,Below.refl _ _,h4⟩
  show(do pure (Next.value (← Instr.loadAt T (a.eval (.tmp s))))).run P w=_
  have e:a.eval (.tmp s)=.pointer (some ⟨g,0,none⟩):=by rw[← hsl]; exact hsl'
  rw[e]
  have:=V9 (P:=P) (w:=w) (b:=g) (off:=0) ht (cs:=cs) (fun j v hj=>by simp only[World.cell?,h1]; simpa using hj) h2
  simp only[Sem.run_bind,this,Result.andThen_ok,Sem.run_pure]
theorem Zs {T:TypeId} {s n off:Nat} {agg:Bool} {x:Vr} {al:Al} {p q:Qg} (k:Nat) (hk:V[k]?=some x) (k2:Nat) (hk2:A[k2]?=some al) (hs:al.slot=s) (hv:al.var=x.id) (hoff:al.off=off) (hoA:onAt ms i al.tag=true) (hcd:al.cond) (ho:Zi ms i x=true) (hkd:x.kd=.ptr) (hst:(x.st.all fun q=>(ms.getD i 0).testBit q.1||(ms.getD q.1 0).testBit i)=true)
  (ht:Ty P T agg n) (hlen:decide (off+n≤x.n)=true) (hc:cont (fun j=>(ms.getD i 0).testBit j) x.c0 x.st=pv p) (hq:∀w cs,cs.length=x.n→p w (Xd x.agg cs)→q w (Xd agg ((cs.drop off).take n))) (hp:Post G i q):
  Q0 P ops ms c V A G i ⟨some d,.load T (.tmp s),ty,pos,aft,none⟩:=
 Vu rfl rfl rfl (.inl rfl) hp fun L β a w hI hd=>by
  have hlen:=of_decide_eq_true hlen
  obtain⟨g,hg,hsl',hvo⟩:=Qed hI hd (List.mem_of_getElem? hk) ho hkd
  obtain⟨cs,h1,h2,h3,h4⟩:=hvo.held
  rw[Qd7 hd hst,hc]at h4
  refine⟨_,w,?_,Below.refl _ _,h4.imp fun w=>hq w cs h2⟩
  show(do pure (Next.value (← Instr.loadAt T (a.eval (.tmp s))))).run P w=_
  have e:a.eval (.tmp s)=.pointer (some ⟨g,off,none⟩):=by
   obtain⟨g',hg',this⟩:=hI.al al (List.mem_of_getElem? hk2) (hd.on hoA) hcd
   rw[hv]at hg'
   rw[hs,hoff,(hg g').1 hg']at this
   exact this
  rw[e]
  have:=V9 (P:=P) (w:=w) (b:=g) (off:=off) ht (cs:=(cs.drop off).take n) (W4 h1 off n) (by simp; omega)
  simp only[Sem.run_bind,this,Result.andThen_ok,Sem.run_pure]
theorem Zw {S s f off0 off:Nat} {al:Al} {x:Vr} (k:Nat) (hk:V[k]?=some x) (ho:Zi ms i x=true) (hkd:x.kd=.ptr) (k2:Nat) (hk2:A[k2]?=some al) (htag:al.tag=some i) (hvar:al.var=x.id) (hal:al.off=off)
  (hs:s=x.slot∧off0=0∨∃(k3:Nat) (al0:Al),A[k3]?=some al0∧al0.slot=s∧al0.var=x.id∧al0.off=off0∧onAt ms i al0.tag=true∧al0.cond) (hu:(A.filter fun q=>q.tag==some i).length=1) (hno:(G.all fun e=>e.tag != some i)=true)
  (hf:∀b w,(Instr.fieldAt S (.pointer (some ⟨b,off0,none⟩)) f).run P w=.ok (.pointer (some ⟨b,off,none⟩)) w):
  Q0 P ops ms c V A G i ⟨some d,.fieldAddr S (.tmp s) f,ty,pos,aft,none⟩:=by
 refine Wh (fun L β a w hI hd hwf=>?_) rfl
 obtain⟨g,hg,hsl',hvo⟩:=Qed hI hd (List.mem_of_getElem? hk) ho hkd
 have e:a.eval (.tmp s)=.pointer (some ⟨g,off0,none⟩):=by
  rcases hs with⟨rfl,rfl⟩|⟨k3,al0,hk3,rfl,h2,h3,h4,h5⟩
  ·exact hsl'
  ·obtain⟨g',hg',this⟩:=hI.al al0 (List.mem_of_getElem? hk3) (hd.on h4) h5
   rw[h2]at hg'
   rw[h3,(hg g').1 hg']at this
   exact this
 have hr:(execOp a.eval ⟨some d,.fieldAddr S (.tmp s) f,ty,pos,aft,none⟩).run P w=.ok (.value (.pointer (some ⟨g,off,none⟩))) w:=by
  show(do pure (Next.value (← Instr.fieldAt S (a.eval (.tmp s)) f))).run P w=_
  rw[e]
  simp only[Sem.run_bind,hf,Result.andThen_ok,Sem.run_pure]
 refine Jq hr ⟨β,hI.value hwf (nb_of hwf rfl) rfl (Below.refl _ _) (fun d' q _ hq hqt _=>?_) fun e' he' ht'=>?_⟩
 ·have:q=al:=Jn hu hq (List.mem_of_getElem? hk2) (by simp[hqt]) (by simp[htag])
  exact⟨g,by rw[this,hvar]; exact(hg g).2 rfl,by rw[this,hal]⟩
 ·rw[List.all_eq_true]at hno
  have:=hno e' he'
  simp[ht']at this

theorem InvB.stored (h:InvB c V A G L β a w) (hwf:WfAt c.N ops V A G i o) (hnone:o.dst=none) {x:Vr} (hx:x∈V) (hlive:live L x=true) (hxk:x.kd.grows=false) (hnb:Qaz o.op=false) {g:Nat} (hg:∀k,β x.id k↔k=g)
  {cs cs':List Value} (hcs:w.heap[g]?=some (.cells cs.toArray x.T (0,0))) (hl:cs'.length=x.n) (hn:∀u∈cs',Yw u)
  (hc:Box (own c V L β) (fun w=>cont (Yp L i) x.c0 x.st (·=g) w (Xd x.agg cs')) w) (hothers:(V.all fun y=>y.id==x.id||y.st.all fun q=>q.1 != i)=true) (u:Value):
  Inv c V A G (Yp L i) (a.put o.dst u) (w.setRow g cs'.toArray):=by
 have nb:=nb_of hwf hnb
 have hgx:β x.id g:=(hg g).2 rfl
 have og:∀o,own c V L β g o:=fun o=>.inr ⟨x,hx,hlive,hgx,by rw[lo_zero hxk]; exact Nat.zero_le _⟩
 have ext:∀M:Nat→Nat→Prop,(∀o,M g o)→Ext M w (w.setRow g cs'.toArray):=fun M hM=>⟨Nat.le_of_eq size_setRow.symm,fun k hk hno=>X4 fun e=>hno 0 (by rw[e]; exact hM 0),fun k o v hno hv=>by
  have hkg:k≠g:=fun e=>hno (by rw[e]; exact hM o)
  rw[World.cell?_of_block (w:=w) (a:=⟨k,o,none⟩) (X4 hkg)]; exact hv⟩
 have he:Ext (own c V L β) w (w.setRow g cs'.toArray):=ext _ og
 have hvx:=h.var x hx hlive
 have hnew:=(hvx.blk hgx).1
 have hput:a.put o.dst u=a:=by rw[hnone]; rfl
 have hne0:∀k,k<c.w0.heap.size→¬c.lent k→k≠g:=fun k h1 h2 e=>hnew.elim (fun h3=>by omega) (fun h3=>h2 (e▸h3))
 rw[hput]
 refine⟨β,h.size,h.defers,⟨h.below.os,h.below.tape,h.below.output,Nat.le_trans h.below.size (Nat.le_of_eq size_setRow.symm),fun k hk hn=>(X4 (hne0 k hk hn)).trans (h.below.block k hk hn)⟩,h.old_of fun k hk hn=>X4 (hne0 k hk hn),?_,?_,?_,?_⟩
 ·intro y hy hl'
  rw[Ke (nb y hy).1 (nb y hy).2]at hl'
  rw[U9 nb]
  by_cases hyx:y.id=x.id
  ·have:y=x:=hwf.vu y x hy hx hyx
   subst this
   obtain⟨g',e,h1,_⟩:=(Zy hxk).1 hvx
   have e':=(e g).1 hgx
   subst e'
   exact(Zy hxk).2 ⟨g,hg,h1,hnew,cs',setRow_heap w _ _ _ _ _ hcs,hl,hn,hc.ext he⟩
  ·rw[List.all_eq_true]at hothers
   have h5:=hothers y hy
   simp only[Bool.or_eq_true,beq_iff_eq,hyx,false_or,List.all_eq_true,bne_iff_ne]at h5
   have hny:¬β y.id g:=fun e=>h.apart y x g hy hx hl' hlive hyx e hgx
   exact(h.var y hy hl').keep rfl rfl (fun g' hg'=>X4 fun e=>hny (e▸hg')) (Nat.le_of_eq size_setRow.symm) (fun F hF=>hF.ext he) (fun F hF=>hF.ext (ext _ fun o=>⟨og o,hny⟩)) (Qcs h5)
 ·intro y y' g' hy hy' h1 h2 hne
  rw[Ke (nb y hy).1 (nb y hy).2]at h1
  rw[Ke (nb y' hy').1 (nb y' hy').2]at h2
  exact h.apart y y' g' hy hy' h1 h2 hne
 ·intro p hp hl' hcd
  have hpt:p.tag≠some i:=fun e=>by have:=hwf.a2 p hp e; rw[hnone]at this; cases this
  rw[J0 hpt]at hl'
  exact h.al p hp hl' hcd
 ·intro e heG hl' hf
  obtain⟨hf,hfi⟩:=Qcx hf
  have ht:e.tag≠some i:=fun e'=>by have:=hwf.g2 e heG e'; rw[hnone]at this; cases this
  rw[J0 ht]at hl'
  rw[U9 nb]
  exact(h.ent e heG hl' hf).ext he
theorem Qhb {st:List (Nat×Zz)} {q:Zz} (m:Nat) (hm:st[m]?=some (i,q)) (hd:Det ms i L) (hr:((st.drop (m+1)).all fun r=>(ms.getD r.1 0).testBit i)=true) (c0:Zz):cont (Yp L i) c0 st=q:=by
 have no:∀(st:List (Nat×Zz)) (p:Zz),(∀r∈st,Yp L i r.1=false)→cont (Yp L i) p st=p:=by
  intro st
  induction st with
  |nil=>intro p _; rfl
  |cons r st ih=>
   intro p hq
   obtain⟨j,dd⟩:=r
   rw[cont,hq (j,dd) (by simp)]
   exact ih p fun q' hq'=>hq q' (List.mem_cons_of_mem _ hq')
 induction st generalizing m c0 with
 |nil=>simp at hm
 |cons r st ih=>
  obtain⟨j,dd⟩:=r
  rw[cont]
  cases m with
  |zero=>
   simp at hm
   obtain⟨rfl,rfl⟩:=hm
   rw[upd_self,if_pos rfl]
   refine no st _ fun r hr'=>?_
   rw[List.all_eq_true]at hr
   have h1:=hr r (by simpa using hr')
   have hne:r.1≠j:=fun e=>by rw[e,hd.irrefl]at h1; cases h1
   simp[Yp,hne,hd.behind _ h1]
  |succ m=>exact ih m (by simpa using hm) (by simpa using hr) _
theorem Za {T:TypeId} {s:Nat} {v:Vr} {p:Qg} (k:Nat) (hk:V[k]?=some v) (hsl:v.slot=s) (ho:Zi ms i v=true) (hkd:v.kd=.ptr) (m:Nat) (hm:v.st[m]?=some (i,pv p)) (hr:((v.st.drop (m+1)).all fun r=>(ms.getD r.1 0).testBit i)=true) (hoth:(V.all fun y=>y.id==v.id||y.st.all fun q=>q.1 != i)=true)
  (ht:Ty P T v.agg v.n) (h:Has ms G i y p) (hf:J4 v.n v.agg p):
  Q0 P ops ms c V A G i ⟨none,.store T (.tmp s) y,ty,pos,aft,none⟩:=by
 refine Wh (fun L β a w hI hd hwf=>?_) rfl
 have hx:=List.mem_of_getElem? hk
 obtain⟨g,hg,hsl',hvo⟩:=Qed hI hd hx ho hkd
 obtain⟨cs,h1,h2,h3,h4⟩:=hvo.held
 have hp:=h.spec hI hd
 obtain⟨ds,e,hl,hcells,hu⟩:=hf w _ hp.out
 have e0:a.eval (.tmp s)=.pointer (some ⟨g,0,none⟩):=by rw[← hsl]; exact hsl'
 have hr':(execOp a.eval ⟨none,.store T (.tmp s) y,ty,pos,aft,none⟩).run P w=.ok .skip (w.setRow g ds.toArray):=by
  show(do Instr.storeAt T (a.eval (.tmp s)) (a.eval y); pure Next.skip).run P w=_
  rw[e0]
  have:=Qe7 (P:=P) (off:=0) ht h1 hcells hl (by omega) (fun u hu'=>(hu u hu').2)
  simp only[List.take_zero,List.nil_append,Nat.zero_add,List.drop_of_length_le (Nat.le_of_eq h2),List.append_nil]at this
  simp only[Sem.run_bind,this,Result.andThen_ok,Sem.run_pure]
 unfold Does
 rw[hr']
 exact hI.stored hwf rfl hx (hd.live ho) (by rw[hkd]; rfl) rfl hg h1 hl (fun u hu'=>(hu u hu').1) (by rw[Qhb m hm hd hr,← e]; exact hp) hoth _
end
end Wx
