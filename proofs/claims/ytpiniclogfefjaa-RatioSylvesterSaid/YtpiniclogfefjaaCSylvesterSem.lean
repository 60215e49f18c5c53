import Derived.Test.YtpiniclogfefjaaJSylvester1
namespace Wx
open Go Go.RowKit


def sl (a:Act) (s:Nat):Value:=a.tmps.getD s undef
abbrev Qj:=World→Value→Prop

structure Ext (M:Nat→Nat→Prop) (w w':World):Prop where
 size:w.heap.size≤w'.heap.size
 block:∀k,k<w.heap.size→(∀o,¬M k o)→w'.heap[k]?=w.heap[k]?
 cell:∀k o v,¬M k o→w.cell? ⟨k,o,none⟩=some v→w'.cell? ⟨k,o,none⟩=some v
theorem Ext.refl (M:Nat→Nat→Prop) (w:World):Ext M w w:=⟨Nat.le_refl _,fun _ _ _=>rfl,fun _ _ _ _ h=>h⟩
theorem Ext.trans {M:Nat→Nat→Prop} {w1 w2 w3:World} (h:Ext M w1 w2) (k:Ext M w2 w3):Ext M w1 w3:=
 ⟨Nat.le_trans h.size k.size,fun i hi hm=>(k.block i (Nat.lt_of_lt_of_le hi h.size) hm).trans (h.block i hi hm),fun b o v hm hc=>k.cell b o v hm (h.cell b o v hm hc)⟩
theorem Ext.of_below {M:Nat→Nat→Prop} {w w':World} (h:Below w.heap.size w w'):Ext M w w':=
 ⟨h.size,fun k hk _=>h.block k hk,fun k o v _ hc=>by rw[World.cell?_of_block (w:=w) (h.block k (World.block_lt_of_cell? w _ hc))]; exact hc⟩
theorem Ext.mono {M M':Nat→Nat→Prop} {w w':World} (h:Ext M w w') (hm:∀k o,k<w.heap.size→M k o→M' k o):Ext M' w w':=
 ⟨h.size,fun k hk hn=>h.block k hk fun o h'=>hn o (hm k o hk h'),fun k o v hn hc=>h.cell k o v (fun h'=>hn (hm k o (World.block_lt_of_cell? w _ hc) h')) hc⟩

def Box (M:Nat→Nat→Prop) (F:World→Prop) (w:World):Prop:=∀w',Ext M w w'→F w'
theorem Box.out {M:Nat→Nat→Prop} {F:World→Prop} {w:World} (h:Box M F w):F w:=h w (Ext.refl _ _)
theorem Box.ext {M:Nat→Nat→Prop} {F:World→Prop} {w w':World} (h:Box M F w) (he:Ext M w w'):Box M F w':=fun w'' h'=>h w'' (he.trans h')
theorem Box.imp {M:Nat→Nat→Prop} {F F':World→Prop} {w:World} (h:Box M F w) (hf:∀w,F w→F' w):Box M F' w:=fun w' h'=>hf _ (h w' h')
theorem Box.sub {M M':Nat→Nat→Prop} {F:World→Prop} {w:World} (h:Box M F w) (hm:∀k o,k<w.heap.size→M' k o→M k o):Box M' F w:=fun w' h'=>h w' (h'.mono hm)
def Yr (v:Value):Prop:=∀n,v≠.int .u64 n∧v≠.int .u32 n
def Mid (M:Nat→Nat→Prop) (w:World):Prop:=∀k o,M k o→k<w.heap.size∧∀v,w.cell? ⟨k,o,none⟩=some v→Yr v
def Jo (M:Nat→Nat→Prop) (F:Nat→Prop) (k o:Nat):Prop:=M k o∧¬F k
structure Lent (W:Nat→Prop) (w w':World):Prop where
 os:w'.os=w.os
 tape:w'.tape=w.tape
 output:w'.output=w.output
 size:w.heap.size≤w'.heap.size
 block:∀k,k<w.heap.size→¬W k→w'.heap[k]?=w.heap[k]?
theorem Lent.refl (W:Nat→Prop) (w:World):Lent W w w:=⟨rfl,rfl,rfl,Nat.le_refl _,fun _ _ _=>rfl⟩
theorem Lent.trans {W:Nat→Prop} {a b c:World} (h:Lent W a b) (k:Lent W b c):Lent W a c:=
 ⟨k.os.trans h.os,k.tape.trans h.tape,k.output.trans h.output,Nat.le_trans h.size k.size,fun i hi hn=>(k.block i (Nat.lt_of_lt_of_le hi h.size) hn).trans (h.block i hi hn)⟩
theorem Lent.of_below {W:Nat→Prop} {w w':World} (h:Below w.heap.size w w'):Lent W w w':=⟨h.os,h.tape,h.output,h.size,fun k hk _=>h.block k hk⟩
theorem Lent.below {W:Nat→Prop} {w w':World} (h:Lent W w w') (hn:∀k,¬W k):Below w.heap.size w w':=⟨h.os,h.tape,h.output,h.size,fun k hk=>h.block k hk (hn k)⟩
theorem Ext.of_lent {M:Nat→Nat→Prop} {W:Nat→Prop} {w w':World} (h:Lent W w w') (hm:∀k o,k<w.heap.size→W k→M k o):Ext M w w':=
 ⟨h.size,fun k hk hn=>h.block k hk fun hw=>hn 0 (hm k 0 hk hw),fun k o v hn hc=>by
  have hk:=World.block_lt_of_cell? w _ hc
  rw[World.cell?_of_block (w:=w) (a:=⟨k,o,none⟩) (h.block k hk fun hw=>hn (hm k o hk hw))]; exact hc⟩

def Zs (p:Qj):Prop:=∀(M:Nat→Nat→Prop) w v,Mid M w→p w v→Box M (fun w=>p w v) w

structure Ent where
 tag:Option Nat
 till:Option Nat
 slot:Nat
 p:Qj
abbrev Y9:=(Nat→Prop)→World→Value→Prop
abbrev pv (p:Qj):Y9:=fun _=>p
inductive Kd
 |ptr
 |row (m:Nat)
 |grow (m sz:Nat)
 |obj
structure Vr where
 id:Nat
 slot:Nat
 born:Option Nat
 dead:Option Nat
 kd:Kd
 T:TypeId
 n:Nat
 agg:Bool
 c0:Y9
 st:List (Nat×Y9)
structure Al where
 tag:Option Nat
 slot:Nat
 var:Nat
 off:Nat
 cond:Prop
def on (L:Nat→Bool):Option Nat→Bool
 |none=>true
 |some i=>L i
def off (L:Nat→Bool):Option Nat→Bool
 |none=>true
 |some i=>!L i
def live (L:Nat→Bool) (x:Vr):Bool:=on L x.born&&off L x.dead
def cont (L:Nat→Bool):Y9→List (Nat×Y9)→Y9
 |c,[]=>c
 |c,(j,d)::r=>cont L (if L j then d else c) r
def Q6 (agg:Bool) (cs:List Value):Value:=if agg then .agg cs.toArray else cs.headD undef

structure Cfg where
 N:Nat
 w0:World
 M0:Nat→Nat→Prop
 lent:Nat→Prop
def mine (c:Cfg) (g:Nat):Prop:=c.w0.heap.size≤g∨c.lent g
def Vr.lo (x:Vr):Nat:=match x.kd with
 |.grow m sz=>m*sz
 |_=>0
def own (c:Cfg) (V:List Vr) (L:Nat→Bool) (β:Nat→Nat→Prop) (k o:Nat):Prop:=c.M0 k o∨∃x,x∈V∧live L x=true∧β x.id k∧x.lo≤o
structure BlkOk (M:Nat→Nat→Prop) (c:Cfg) (L:Nat→Bool) (a:Act) (w:World) (x:Vr) (g:Nat):Prop where
 new:mine c g
 held:∃cs:List Value,w.heap[g]?=some (.cells cs.toArray x.T (0,0))∧cs.length=x.n∧(∀v∈cs,Yr v)∧Box M (fun w=>cont L x.c0 x.st (·=g) w (Q6 x.agg cs)) w
def GrowOk (c:Cfg) (a:Act) (w:World) (x:Vr) (m sz:Nat) (B:Nat→Prop):Prop:=
 ((∀k,¬B k)∧m=0∧sl a x.slot=.slice none 0 0) ∨
 ∃(b cap:Nat) (cur:List Value),(∀k,B k↔k=b)∧sl a x.slot=.slice (some ⟨b,0,none⟩) m cap∧mine c b∧w.heap[b]?=some (.cells cur.toArray x.T (0,0))∧cur.length=cap*sz∧m≤cap∧cap≤maxLen∧∀v∈cur,Yr v
def ObjOk (M:Nat→Nat→Prop) (c:Cfg) (L:Nat→Bool) (a:Act) (w:World) (x:Vr) (B:Nat→Prop):Prop:=
 (∀k,B k→mine c k∧k<w.heap.size∧∀o v,w.cell? ⟨k,o,none⟩=some v→Yr v)∧Box (Jo M B) (fun w=>cont L x.c0 x.st B w (sl a x.slot)) w
def Kd.addr:Kd→Nat→Value
 |.row m,g=>.slice (some ⟨g,0,none⟩) m m
 |_,g=>.pointer (some ⟨g,0,none⟩)
def Kd.grows:Kd→Bool
 |.ptr|.row _=>false
 |_=>true
def VrOk (M:Nat→Nat→Prop) (c:Cfg) (L:Nat→Bool) (β:Nat→Nat→Prop) (a:Act) (w:World) (x:Vr):Prop:=match x.kd with
 |.grow m sz=>GrowOk c a w x m sz (β x.id)
 |.obj=>ObjOk M c L a w x (β x.id)
 |kd=>∃g,(∀k,β x.id k↔k=g)∧sl a x.slot=kd.addr g∧BlkOk M c L a w x g
theorem Y8 {M:Nat→Nat→Prop} {c:Cfg} {L:Nat→Bool} {β:Nat→Nat→Prop} {a:Act} {w:World} {x:Vr} (hk:x.kd.grows=false):VrOk M c L β a w x↔∃g,(∀k,β x.id k↔k=g)∧sl a x.slot=x.kd.addr g∧BlkOk M c L a w x g:=by
 unfold VrOk
 cases h:x.kd with
 |ptr=>exact Iff.rfl
 |row m=>exact Iff.rfl
 |grow m sz=>rw[h]at hk; cases hk
 |obj=>rw[h]at hk; cases hk
theorem Yu {M:Nat→Nat→Prop} {c:Cfg} {L:Nat→Bool} {β:Nat→Nat→Prop} {a:Act} {w:World} {x:Vr} {m sz:Nat} (hk:x.kd=.grow m sz):VrOk M c L β a w x↔GrowOk c a w x m sz (β x.id):=by
 unfold VrOk; rw[hk]
theorem Yk {M:Nat→Nat→Prop} {c:Cfg} {L:Nat→Bool} {β:Nat→Nat→Prop} {a:Act} {w:World} {x:Vr} (hk:x.kd=.obj):VrOk M c L β a w x↔ObjOk M c L a w x (β x.id):=by
 unfold VrOk; rw[hk]
theorem lo_zero {x:Vr} (hk:x.kd.grows=false):x.lo=0:=by
 unfold Vr.lo
 cases h:x.kd with
 |grow m sz=>rw[h]at hk; cases hk
 |_=>rfl
theorem Qbq (kd:Kd):kd.grows=false∨(∃m sz,kd=.grow m sz)∨kd=.obj:=by
 cases kd with
 |ptr=>exact .inl rfl
 |row m=>exact .inl rfl
 |grow m sz=>exact .inr (.inl ⟨m,sz,rfl⟩)
 |obj=>exact .inr (.inr rfl)
structure InvB (c:Cfg) (V:List Vr) (A:List Al) (G:List Ent) (L:Nat→Bool) (β:Nat→Nat→Prop) (a:Act) (w:World):Prop where
 size:a.tmps.size=c.N
 defers:a.defers=[]
 below:Lent c.lent c.w0 w
 old:∀k o,c.M0 k o→(k<c.w0.heap.size∧¬c.lent k)∧∀v,w.cell? ⟨k,o,none⟩=some v→Yr v
 var:∀x,x∈V→live L x=true→VrOk (own c V L β) c L β a w x
 apart:∀x y g,x∈V→y∈V→live L x=true→live L y=true→x.id≠y.id→β x.id g→¬β y.id g
 al:∀p,p∈A→on L p.tag=true→p.cond→∃g,β p.var g∧sl a p.slot=.pointer (some ⟨g,p.off,none⟩)
 ent:∀e,e∈G→on L e.tag=true→off L e.till=true→Box (own c V L β) (fun w=>e.p w (sl a e.slot)) w
def Inv (c:Cfg) (V:List Vr) (A:List Al) (G:List Ent) (L:Nat→Bool) (a:Act) (w:World):Prop:=∃β,InvB c V A G L β a w
abbrev Qf:Nat→Bool:=fun _=>false
theorem VrOk.blk {M:Nat→Nat→Prop} {c:Cfg} {L:Nat→Bool} {β:Nat→Nat→Prop} {a:Act} {w:World} {x:Vr} {g:Nat} (h:VrOk M c L β a w x) (hg:β x.id g):mine c g∧g<w.heap.size∧∀o v,w.cell? ⟨g,o,none⟩=some v→Yr v:=by
 have cells:∀{cs:List Value} {T:TypeId},w.heap[g]?=some (.cells cs.toArray T (0,0))→(∀v∈cs,Yr v)→g<w.heap.size∧∀o v,w.cell? ⟨g,o,none⟩=some v→Yr v:=by
  intro cs T h1 h2
  refine⟨?_,fun o v hc=>?_⟩
  ·rcases Nat.lt_or_ge g w.heap.size with h'|h'
   ·exact h'
   ·rw[Array.getElem?_eq_none h']at h1; cases h1
  ·simp only[World.cell?,h1]at hc
   have:cs[o]?=some v:=by simpa using hc
   exact h2 v (List.mem_of_getElem? this)
 rcases Qbq x.kd with hk|⟨m,sz,hk⟩|hk
 ·obtain⟨g',e,_,hb⟩:=(Y8 hk).1 h
  have e':=(e g).1 hg
  subst e'
  obtain⟨cs,h1,_,h3,_⟩:=hb.held
  exact⟨hb.new,cells h1 h3⟩
 ·rcases (Yu hk).1 h with⟨e,_⟩|⟨b,cap,cur,e,_,h2,h3,_,_,_,h5⟩
  ·exact absurd hg (e g)
  ·have e':=(e g).1 hg
   subst e'
   exact⟨h2,cells h3 h5⟩
 ·exact((Yk hk).1 h).1 g hg
theorem VrOk.keep {M M':Nat→Nat→Prop} {c:Cfg} {L L':Nat→Bool} {β β':Nat→Nat→Prop} {a a':Act} {w w':World} {x:Vr} (h:VrOk M c L β a w x) (hs:sl a' x.slot=sl a x.slot) (hβ:β' x.id=β x.id)
  (hb:∀g,β x.id g→w'.heap[g]?=w.heap[g]?) (hz:w.heap.size≤w'.heap.size) (hbox:∀F:World→Prop,Box M F w→Box M' F w') (hbo:∀F:World→Prop,Box (Jo M (β x.id)) F w→Box (Jo M' (β x.id)) F w') (hc:cont L' x.c0 x.st=cont L x.c0 x.st):VrOk M' c L' β' a' w' x:=by
 rcases Qbq x.kd with hk|⟨m,sz,hk⟩|hk
 ·obtain⟨g,e,h1,h2⟩:=(Y8 hk).1 h
  obtain⟨cs,h3,h4,h5,h6⟩:=h2.held
  exact(Y8 hk).2 ⟨g,fun k=>by rw[hβ]; exact e k,hs.trans h1,h2.new,cs,(hb g ((e g).2 rfl)).trans h3,h4,h5,by rw[hc]; exact hbox _ h6⟩
 ·rcases (Yu hk).1 h with⟨e,h1,h2⟩|⟨b,cap,cur,e,h1,h2,h3,h4,h5,h6,h7⟩
  ·exact(Yu hk).2 (.inl ⟨by rw[hβ]; exact e,h1,hs.trans h2⟩)
  ·exact(Yu hk).2 (.inr ⟨b,cap,cur,by rw[hβ]; exact e,hs.trans h1,h2,(hb b ((e b).2 rfl)).trans h3,h4,h5,h6,h7⟩)
 ·obtain⟨h1,h2⟩:=(Yk hk).1 h
  refine(Yk hk).2 ⟨fun k hk'=>?_,?_⟩
  ·rw[hβ]at hk'
   obtain⟨h3,h4,h5⟩:=h1 k hk'
   exact⟨h3,Nat.lt_of_lt_of_le h4 hz,fun o v hv=>h5 o v (by rw[← World.cell?_of_block (w:=w) (w':=w') (a:=⟨k,o,none⟩) (hb k hk')]; exact hv)⟩
  ·rw[hβ,hc,hs]
   exact hbo _ h2

theorem Zh {a:Act} {d:Option Nat} {v:Value} {s:Nat} (h:d≠some s):sl (a.put d v) s=sl a s:=by
 cases d with
 |none=>rfl
 |some d=>
  have:d≠s:=fun e=>h (by rw[e])
  simp[sl,Act.put,Array.getElem?_setIfInBounds_ne this]
theorem J6 {a:Act} {d:Nat} {v:Value} (h:d<a.tmps.size):sl (a.put (some d) v) d=v:=by
 simp[sl,Act.put,h]
theorem Vb {a:Act} {d:Option Nat} {v:Value}:(a.put d v).tmps.size=a.tmps.size:=by cases d<;>simp[Act.put]
theorem Ks {a:Act} {d:Option Nat} {v:Value}:(a.put d v).defers=a.defers:=by cases d<;>rfl

theorem Up {L L':Nat→Bool}:∀{st:List (Nat×Y9)} {c:Y9},(∀p∈st,L p.1=L' p.1)→cont L c st=cont L' c st:=by
 intro st
 induction st with
 |nil=>intro c _; rfl
 |cons p st ih=>
  intro c h
  obtain⟨j,d⟩:=p
  have h1:=h (j,d) (by simp)
  simp only at h1
  rw[cont,cont,h1]
  exact ih fun p hp=>h p (List.mem_cons_of_mem _ hp)
def tagOk (n:Nat):Option Nat→Bool
 |none=>true
 |some i=>decide (i<n)
theorem on_congr {n:Nat} {L L':Nat→Bool} (h:∀i,i<n→L i=L' i) {t:Option Nat} (ht:tagOk n t=true):on L t=on L' t:=by
 cases t with
 |none=>rfl
 |some i=>exact h i (by simpa [tagOk] using ht)
theorem off_congr {n:Nat} {L L':Nat→Bool} (h:∀i,i<n→L i=L' i) {t:Option Nat} (ht:tagOk n t=true):off L t=off L' t:=by
 cases t with
 |none=>rfl
 |some i=>simp only[off,h i (by simpa [tagOk] using ht)]
def marksB (V:List Vr) (A:List Al) (G:List Ent) (n:Nat):Bool:=
 (V.all fun x=>(tagOk n x.born&&tagOk n x.dead)&&x.st.all fun p=>decide (p.1<n))&&(A.all fun p=>tagOk n p.tag)&&G.all fun e=>tagOk n e.tag&&tagOk n e.till
theorem InvB.congr {c:Cfg} {V:List Vr} {A:List Al} {G:List Ent} {L L':Nat→Bool} {β:Nat→Nat→Prop} {a:Act} {w:World} {n:Nat} (hm:marksB V A G n=true) (h:InvB c V A G L β a w) (he:∀i,i<n→L i=L' i):InvB c V A G L' β a w:=by
 simp only[marksB,Bool.and_eq_true,List.all_eq_true,decide_eq_true_eq]at hm
 obtain⟨⟨hV,hA⟩,hG⟩:=hm
 have ho:∀x,x∈V→live L x=live L' x:=fun x hx=>by unfold live; rw[on_congr he (hV x hx).1.1,off_congr he (hV x hx).1.2]
 have eo:own c V L β=own c V L' β:=by
  funext k o
  apply propext
  constructor
  ·rintro(h|⟨x,hx,h1,h2⟩)
   ·exact .inl h
   ·exact .inr ⟨x,hx,by rw[← ho x hx]; exact h1,h2⟩
  ·rintro(h|⟨x,hx,h1,h2⟩)
   ·exact .inl h
   ·exact .inr ⟨x,hx,by rw[ho x hx]; exact h1,h2⟩
 refine⟨h.size,h.defers,h.below,h.old,fun x hx hl=>?_,fun x y g hx hy h1 h2=>h.apart x y g hx hy (by rw[ho x hx]; exact h1) (by rw[ho y hy]; exact h2),fun p hp hl hcd=>h.al p hp (by rw[on_congr he (hA p hp)]; exact hl) hcd,fun e hx hl hf=>?_⟩
 ·have:=h.var x hx (by rw[ho x hx]; exact hl)
  rw[eo]at this
  exact this.keep rfl rfl (fun _ _=>rfl) (Nat.le_refl _) (fun _ h=>h) (fun _ h=>h) (Up fun p hp=>(he _ ((hV x hx).2 p hp)).symm)
 ·rw[← eo]
  exact h.ent e hx (by rw[on_congr he (hG e hx).1]; exact hl) (by rw[off_congr he (hG e hx).2]; exact hf)

def Does (P:Program) (o:Oper) (a:Act) (w:World) (K:Act→World→Prop):Prop:=
 match (execOp a.eval o).run P w with
 |.ok (.value v) w'=>K (a.put o.dst v) w'
 |.ok .skip w'=>K (a.put o.dst undef) w'
 |.ok (.enter f args) w'=>Calls P f args w' fun e w''=>∃v,e=.returned v∧K (a.put o.dst v) w''
 |_=>False
theorem Does.wp {P:Program} {o:Oper} {a:Act} {w:World} {K:Act→World→Prop} {Q:Exit→Act→World→Prop} (h:Does P o a w K):o.wp P a w K Q:=by
 unfold Does at h
 unfold Oper.wp
 generalize (execOp a.eval o).run P w=r at *
 cases r with
 |ok n w'=>
  cases n<;>simp only[Oper.upon]at h ⊢<;>first|exact h|exact h.elim|skip
  case enter f args=>
   refine Calls.mono h fun e w'' he=>?_
   obtain⟨v,rfl,hk⟩:=he
   exact hk
 |halt x w'=>cases x<;>exact h.elim
def DoesG (P:Program) (ops:Array Oper) (o:Oper) (a:Act) (w:World) (K:Act→World→Prop):Prop:=
 if Region.wanted o (yielded ops a.tmps)=true then Does P o a w K else K (a.put o.dst undef) w
theorem DoesG.list {P:Program} {ops:Array Oper} {o:Oper} {rest:List Oper} {a:Act} {w:World} {K:Act→World→Prop} {Q:Exit→Act→World→Prop} (h:DoesG P ops o a w K) (hK:∀a w,K a w→wpList P ops Q rest a w):wpList P ops Q (o::rest) a w:=by
 unfold DoesG at h
 unfold wpList
 split
 ·rename_i hw
  rw[if_pos hw]at h
  exact .inl (Oper.wp_mono hK h.wp)
 ·rename_i hw
  rw[if_neg hw]at h
  exact hK _ _ h

def maskOf (acc:List Nat) (o:Oper):Nat:=o.after.toList.foldl (fun s e=>if Region.binds .any e then s ||| (2^e.on ||| acc.getD e.on 0)else s) 0
def Qd5:List Nat→List Oper→List Nat
 |acc,[]=>acc
 |acc,o::os=>Qd5 (acc++[maskOf acc o]) os
def masks (l:List Oper):List Nat:=Qd5 [] l
def Ym (n:Nat):List Nat:=(List.range n).map fun i=>2^i-1

structure Det (ms:List Nat) (i:Nat) (L:Nat→Bool):Prop where
 no:L i=false
 before:∀j,(ms.getD i 0).testBit j=true→L j=true
 behind:∀j,(ms.getD j 0).testBit i=true→L j=false

def Qa9 (l:List Oper) (L:Nat→Bool):Prop:=∀i o,l[i]?=some o→L i=true→∀j∈preL o,L j=true
theorem maskOf_spec {acc:List Nat} {o:Oper} {j:Nat} (h:(maskOf acc o).testBit j=true):∃k∈preL o,j=k∨(acc.getD k 0).testBit j=true:=by
 have key:∀(es:List Edge) (s:Nat),(es.foldl (fun s e=>if Region.binds .any e then s ||| (2^e.on ||| acc.getD e.on 0)else s) s).testBit j=true→s.testBit j=true∨∃e∈es,Region.binds .any e=true∧(j=e.on∨(acc.getD e.on 0).testBit j=true):=by
  intro es
  induction es with
  |nil=>intro s h; exact .inl h
  |cons e es ih=>
   intro s h
   simp only[List.foldl_cons]at h
   rcases ih _ h with h1|⟨e',he',h2⟩
   ·split at h1
    ·rename_i hb
     rw[Nat.testBit_or,Nat.testBit_or,Bool.or_eq_true,Bool.or_eq_true]at h1
     rcases h1 with h1|h1|h1
     ·exact .inl h1
     ·refine .inr ⟨e,by simp,hb,.inl ?_⟩
      rw[Nat.testBit_two_pow]at h1
      simpa using (of_decide_eq_true h1).symm
     ·exact .inr ⟨e,by simp,hb,.inr h1⟩
    ·exact .inl h1
   ·exact .inr ⟨e',by simp[he'],h2⟩
 rcases key _ 0 h with h1|⟨e,he,hb,h2⟩
 ·simp at h1
 ·refine⟨e.on,?_,h2⟩
  simp only[preL,List.mem_map,List.mem_filter]
  exact⟨e,⟨he,hb⟩,rfl⟩
def MasksOk (l:List Oper) (acc:List Nat):Prop:=acc.length≤l.length∧∀L,Qa9 l L→∀i o,l[i]?=some o→(∀j∈preL o,L j=true)→∀j,(acc.getD i 0).testBit j=true→L j=true
theorem masksFrom_ok {l:List Oper}:∀(os:List Oper) (acc:List Nat) (pre:List Oper),l=pre++os→acc.length=pre.length→MasksOk l acc→MasksOk l (Qd5 acc os):=by
 intro os
 induction os with
 |nil=>intro acc pre _ _ h; exact h
 |cons o os ih=>
  intro acc pre hl hlen h
  refine ih (acc++[maskOf acc o]) (pre++[o]) (by rw[hl]; simp) (by simp[hlen]) ⟨by rw[hl]; simp; omega,?_⟩
  intro L hc i o' hi hpre j hj
  rcases Nat.lt_trichotomy i acc.length with hlt|heq|hgt
  ·rw[List.getD_eq_getElem?_getD,List.getElem?_append_left hlt,← List.getD_eq_getElem?_getD]at hj
   exact h.2 L hc i o' hi hpre j hj
  ·have ho:o'=o:=by
    rw[hl,heq,hlen,List.getElem?_append_right (Nat.le_refl _)]at hi
    simpa using hi.symm
   subst ho
   rw[heq,List.getD_eq_getElem?_getD,List.getElem?_append_right (Nat.le_refl _)]at hj
   simp only[Nat.sub_self,List.getElem?_cons_zero,Option.getD_some]at hj
   obtain⟨k,hk,h1⟩:=maskOf_spec hj
   rcases h1 with rfl|h1
   ·exact hpre _ hk
   ·cases hok:l[k]? with
    |none=>
     have:acc.getD k 0=0:=by
      rw[List.getD_eq_getElem?_getD,List.getElem?_eq_none (by have:=List.getElem?_eq_none_iff.1 hok; have:=h.1; omega)]
      rfl
     rw[this]at h1
     simp at h1
    |some ok=>exact h.2 L hc k ok hok (fun m hm=>hc k ok hok (hpre k hk) m hm) j h1
  ·rw[List.getD_eq_getElem?_getD,List.getElem?_eq_none (by simp; omega)]at hj
   simp at hj
theorem masks_ok (l:List Oper):MasksOk l (masks l):=by
 refine masksFrom_ok l [] [] rfl rfl ⟨by simp,?_⟩
 intro L _ i o _ _ j hj
 simp at hj

def K5:Op→Bool
 |.alloc _|.box _ _|.move _|.assign _|.makeSlice _ _ _|.call ⟨.builtin .append,_,_⟩=>true
 |_=>false
def Jl:Op→Bool
 |.store _ _ _=>true
 |_=>false
def Kf:Op→Bool
 |.fieldAddr _ _ _|.indexAddr _ _ _=>true
 |_=>false
structure WfAt (N:Nat) (ops:Array Oper) (V:List Vr) (A:List Al) (G:List Ent) (i:Nat) (o:Oper):Prop where
 sz:∀d,o.dst=some d→d<N
 sg:∀e,e∈G→e.slot<N
 aa:∀p,p∈A→p.tag=some i→Kf o.op=true
 g1:∀e,e∈G→o.dst=some e.slot→e.tag=some i∨e.till=some i
 g2:∀e,e∈G→e.tag=some i→o.dst=some e.slot
 g3:∀e j,e∈G→e.tag=some j→(ops[j]?).bind (·.dst)=some e.slot
 gu:∀e e',e∈G→e'∈G→e.tag=some i→e'.tag=some i→e=e'
 a1:∀p,p∈A→o.dst=some p.slot→p.tag=some i
 a2:∀p,p∈A→p.tag=some i→o.dst=some p.slot
 v1:∀x,x∈V→o.dst=some x.slot→x.born=some i∨x.dead=some i
 v2:∀x,x∈V→x.born=some i→o.dst=some x.slot
 vk:∀x,x∈V→x.born=some i∨x.dead=some i→K5 o.op=true
 vb:∀x,x∈V→x.dead≠some i∨x.born≠some i
 vs:∀x,x∈V→∀p∈x.st,p.1=i→Jl o.op=true
 vu:∀x y,x∈V→y∈V→x.id=y.id→x=y
 vo:∀x y,x∈V→y∈V→x.born=some i→y.born=some i→x=y
theorem WfAt.unguard {N:Nat} {ops:Array Oper} {V:List Vr} {A:List Al} {G:List Ent} {i:Nat} {dst:Option Nat} {op:Op} {ty:TypeId} {pos:String} {aft:Array Edge} {g:Option (Nat×Bool)} (h:WfAt N ops V A G i ⟨dst,op,ty,pos,aft,g⟩):WfAt N ops V A G i ⟨dst,op,ty,pos,aft,none⟩:=
 ⟨h.sz,h.sg,h.aa,h.g1,h.g2,h.g3,h.gu,h.a1,h.a2,h.v1,h.v2,h.vk,h.vb,h.vs,h.vu,h.vo⟩
def Xf (P:Program) (ops:Array Oper) (ms:List Nat) (c:Cfg) (V:List Vr) (A:List Al) (G:List Ent) (i:Nat) (o:Oper):Prop:=
 ∀L a w,Inv c V A G L a w→Det ms i L→WfAt c.N ops V A G i o→DoesG P ops o a w (Inv c V A G (X3 L i))
def Oks (P:Program) (ops:Array Oper) (ms:List Nat) (c:Cfg) (V:List Vr) (A:List Al) (G:List Ent):Nat→List Oper→Prop
 |_,[]=>True
 |i,o::os=>Xf P ops ms c V A G i o∧Oks P ops ms c V A G (i+1) os
theorem Oks.get {P:Program} {ops:Array Oper} {ms:List Nat} {c:Cfg} {V:List Vr} {A:List Al} {G:List Ent}:∀{os:List Oper} {i:Nat},Oks P ops ms c V A G i os→∀{j:Nat} {o:Oper},os[j]?=some o→Xf P ops ms c V A G (i+j) o:=by
 intro os
 induction os with
 |nil=>intro i _ j o h; simp at h
 |cons o' os ih=>
  intro i hs j o h
  cases j with
  |zero=>simp at h; subst h; exact hs.1
  |succ j=>have:=ih hs.2 (by simpa using h); rwa [show i+1+j=i+(j+1) by omega]at this

def slotsB (V:List Vr):Bool:=V.all fun x=>x.dead.isSome||(V.filter fun y=>y.dead.isNone&&y.slot==x.slot).length==1
def Wy (N:Nat) (l:List Oper) (V:List Vr) (A:List Al) (G:List Ent):Bool:=
 slotsB V&&(((marksB V A G l.length&&G.all fun e=>decide (e.slot<N))&&l.all fun o=>o.dst.all fun d=>decide (d<N)) &&
 (G.all fun e=>(l.zipIdx.all fun q=>q.1.dst != some e.slot||(e.tag==some q.2||e.till==some q.2))&&(match e.tag with
  |none=>true
  |some j=>((l[j]?).bind (·.dst))==some e.slot&&(G.filter fun e'=>e'.tag==some j).length==1)) &&
 (A.all fun p=>(l.zipIdx.all fun q=>q.1.dst != some p.slot||p.tag==some q.2)&&(match p.tag with
  |none=>true
  |some j=>((l[j]?).bind (·.dst))==some p.slot&&((l[j]?).any fun o=>Kf o.op))) &&
 (V.all fun x=>((l.zipIdx.all fun q=>q.1.dst != some x.slot||(x.born==some q.2||x.dead==some q.2))&&(match x.born with
  |none=>true
  |some j=>((l[j]?).bind (·.dst))==some x.slot&&(x.dead != some j&&((V.filter fun y=>y.born==some j).length==1&&(l[j]?).any fun o=>K5 o.op)))) &&
  (match x.dead with
  |none=>true
  |some j=>(l[j]?).any fun o=>K5 o.op) &&
  ((x.st.all fun p=>(l[p.1]?).any fun o=>Jl o.op)&&(V.filter fun y=>y.id==x.id).length==1)))
theorem Zr {α:Type} {l:List α} {f:α→Bool} (h:(l.filter f).length=1) {x y:α} (hx:x∈l) (hy:y∈l) (fx:f x=true) (fy:f y=true):x=y:=by
 have hx':x∈l.filter f:=List.mem_filter.2 ⟨hx,fx⟩
 have hy':y∈l.filter f:=List.mem_filter.2 ⟨hy,fy⟩
 match hm:l.filter f,h with
 |[z],_=>
  rw[hm]at hx' hy'
  simp at hx' hy'
  rw[hx',hy']
theorem wfB_at {N:Nat} {l:List Oper} {V:List Vr} {A:List Al} {G:List Ent} (h:Wy N l V A G=true) {i:Nat} {o:Oper} (hi:l[i]?=some o):WfAt N l.toArray V A G i o:=by
 simp only[Wy,Bool.and_eq_true,List.all_eq_true]at h
 obtain⟨_,⟨⟨⟨⟨hm,hsg⟩,hN⟩,hG⟩,hA⟩,hV⟩:=h
 have hz:(o,i)∈l.zipIdx:=List.mem_iff_getElem?.2 ⟨i,by simp[List.getElem?_zipIdx,hi]⟩
 refine⟨fun d hd=>?_,fun e he=>by simpa using hsg e he,fun p hp ht=>?_,?_,?_,?_,?_,?_,?_,?_,?_,?_,?_,?_,?_,?_⟩
 ·have:=hN o (List.mem_of_getElem? hi)
  rw[hd]at this
  simpa using this
 ·have h1:=(hA p hp).2
  rw[ht]at h1
  simp only[Bool.and_eq_true,beq_iff_eq]at h1
  have h2:=h1.2
  rw[hi]at h2
  simpa using h2
 ·intro e he ho
  have h1:=(hG e he).1 (o,i) hz
  simpa [ho] using h1
 ·intro e he ht
  have h1:=(hG e he).2
  rw[ht]at h1
  simp only[Bool.and_eq_true,beq_iff_eq]at h1
  have h2:=h1.1
  rw[hi]at h2
  exact h2
 ·intro e j he ht
  have h1:=(hG e he).2
  rw[ht]at h1
  simp only[Bool.and_eq_true,beq_iff_eq]at h1
  simpa using h1.1
 ·intro e e' he he' ht ht'
  have h1:=(hG e he).2
  rw[ht]at h1
  simp only[Bool.and_eq_true,beq_iff_eq]at h1
  exact Zr h1.2 he he' (by simp[ht]) (by simp[ht'])
 ·intro p hp ho
  have h1:=(hA p hp).1 (o,i) hz
  simpa [ho] using h1
 ·intro p hp ht
  have h1:=(hA p hp).2
  rw[ht]at h1
  simp only[Bool.and_eq_true,beq_iff_eq]at h1
  have h2:=h1.1
  rw[hi]at h2
  exact h2
 ·intro x hx ho
  have h1:=(hV x hx).1.1.1 (o,i) hz
  simpa [ho] using h1
 ·intro x hx ht
  have h1:=(hV x hx).1.1.2
  rw[ht]at h1
  simp only[Bool.and_eq_true,beq_iff_eq]at h1
  have h2:=h1.1
  rw[hi]at h2
  exact h2
 ·rintro x hx (ht|ht)
  ·have h1:=(hV x hx).1.1.2
   rw[ht]at h1
   simp only[Bool.and_eq_true,beq_iff_eq]at h1
   have h2:=h1.2.2.2
   rw[hi]at h2
   simpa using h2
  ·have h1:=(hV x hx).1.2
   rw[ht]at h1
   simp only at h1
   rw[hi]at h1
   simpa using h1
 ·intro x hx
  by_cases hb:x.born=some i
  ·have h1:=(hV x hx).1.1.2
   rw[hb]at h1
   simp only[Bool.and_eq_true,beq_iff_eq,bne_iff_ne]at h1
   exact .inl h1.2.1
  ·exact .inr hb
 ·intro x hx p hp hpi
  have h2:=(hV x hx).2.1 p hp
  rw[hpi,hi]at h2
  simpa using h2
 ·intro x y hx hy hs
  have h1:=(hV x hx).2.2
  rw[beq_iff_eq]at h1
  exact Zr h1 hx hy (by simp) (by simp[hs])
 ·intro x y hx hy h1 h2
  have h3:=(hV x hx).1.1.2
  rw[h1]at h3
  simp only[Bool.and_eq_true,beq_iff_eq]at h3
  exact Zr h3.2.2.1 hx hy (by simp[h1]) (by simp[h2])
theorem Ul {N:Nat} {l:List Oper} {V:List Vr} {A:List Al} {G:List Ent} (h:Wy N l V A G=true):marksB V A G l.length=true:=by
 simp only[Wy,Bool.and_eq_true]at h
 exact h.2.1.1.1.1.1
theorem Qce {N:Nat} {l:List Oper} {V:List Vr} {A:List Al} {G:List Ent} (h:Wy N l V A G=true):slotsB V=true:=by
 simp only[Wy,Bool.and_eq_true]at h
 exact h.1

theorem wfB_ids {N:Nat} {l:List Oper} {V:List Vr} {A:List Al} {G:List Ent} (h:Wy N l V A G=true):∀x y,x∈V→y∈V→x.id=y.id→x=y:=by
 simp only[Wy,Bool.and_eq_true,List.all_eq_true]at h
 obtain⟨_,_,hV⟩:=h
 intro x y hx hy hs
 have h1:=(hV x hx).2.2
 rw[beq_iff_eq]at h1
 exact Zr h1 hx hy (by simp) (by simp[hs])
theorem InvB.draws {c:Cfg} {V:List Vr} {A:List Al} {G:List Ent} {L:Nat→Bool} {β:Nat→Nat→Prop} {a:Act} {w:World} (h:InvB c V A G L β a w):InvB c V A G L β a w.drew:=by
 have he:∀M,Ext M w w.drew:=fun M=>⟨Nat.le_refl _,fun _ _ _=>rfl,fun _ _ _ _ h=>h⟩
 have hl:Lent c.lent c.w0 w.drew:=h.below.trans (Lent.of_below (Below.drew (Below.refl _ w)))
 exact⟨h.size,h.defers,hl,h.old,fun x hx hl=>(h.var x hx hl).keep rfl rfl (fun _ _=>rfl) (Nat.le_refl _) (fun _ h=>h.ext (he _)) (fun _ h=>h.ext (he _)) rfl,h.apart,h.al,fun e hx hl hf=>(h.ent e hx hl hf).ext (he _)⟩

section
variable {P:Program} {Q:Exit→Act→World→Prop} {c:Cfg} {V:List Vr} {A:List Al} {G:List Ent} {a:Act} {w:World}
theorem Qec {id:Nat} {l:List Oper} (ms:List Nat) (hm:P.follows .mixedOrders=true) (hok:Uf l.toArray=true) (hms:masks l=ms) (hwf:Wy c.N l V A G=true)
  (h0:Inv c V A G Qf a w) (hs:Oks P l.toArray ms c V A G 0 l) (hk:∀a w,Inv c V A G (fun _=>true) a w→Q .normal a w):(Code.region id l.toArray true).wp P Q a w:=by
 have hms2:=masks_ok l
 rw[hms]at hms2
 refine Qcu hm hok (fun L a w=>Inv c V A G L a w∧Qa9 l L) ⟨?_,fun i o _ h=>by cases h⟩ ?_ ?_
 ·obtain⟨β,hβ⟩:=h0
  exact⟨β,hβ.draws⟩
 ·have key:∀(os:List Oper) (i:Nat) (pre:List Oper),l=pre++os→pre.length=i→Oks P l.toArray ms c V A G i os→StepsN P l.toArray Q (fun L a w=>Inv c V A G L a w∧Qa9 l L) i os:=by
   intro os
   induction os with
   |nil=>intro i pre _ _ _; trivial
   |cons o os ih=>
    intro i pre hl hp hs
    refine⟨?_,ih (i+1) (pre++[o]) (by rw[hl]; simp) (by simp[hp]) hs.2⟩
    rintro L a w ⟨hI,hc⟩ hno hpre
    have hi:l[i]?=some o:=by rw[hl,List.getElem?_append_right (by omega),hp]; simp
    have hdet:Det ms i L:=⟨hno,fun j hj=>hms2.2 L hc i o hi hpre j hj,fun j hj=>by
     cases hL:L j with
     |false=>rfl
     |true=>
      cases hoj:l[j]? with
      |none=>
       have h1:=hms2.1
       rw[List.getD_eq_getElem?_getD,List.getElem?_eq_none (by have:=List.getElem?_eq_none_iff.1 hoj; omega)]at hj
       simp at hj
      |some oj=>
       have:=hms2.2 L hc j oj hoj (fun m hm=>hc j oj hoj hL m hm) i hj
       rw[hno]at this
       cases this⟩
    have hcl:Qa9 l (X3 L i):=by
     intro k ok hok' hL j hj
     by_cases hki:k=i
     ·subst hki
      rw[hi]at hok'
      injection hok' with hok'
      subst hok'
      have:=hpre j hj
      unfold X3
      split
      ·rfl
      ·exact this
     ·have:=hc k ok hok' (upd_of hL hki) j hj
      unfold X3
      split
      ·rfl
      ·exact this
    exact(hs.1 L a w hI hdet (wfB_at hwf hi)).list (K:=Inv c V A G (X3 L i)) fun a' w' h'=>⟨h',hcl⟩
  exact key l 0 [] rfl rfl hs
 ·rintro L a w ⟨⟨β,hI⟩,_⟩ hall
  exact hk a w ⟨β,hI.congr (Ul hwf) hall⟩
theorem Qez {id:Nat} {l:List Oper} (hwf:Wy c.N l V A G=true)
  (h0:Inv c V A G Qf a w) (hs:Oks P l.toArray (Ym l.length) c V A G 0 l) (hk:∀a w,Inv c V A G (fun _=>true) a w→Q .normal a w):(Code.region id l.toArray false).wp P Q a w:=by
 refine wp_region_lit ?_
 have key:∀(os:List Oper) (i:Nat) (pre:List Oper),l=pre++os→pre.length=i→Oks P l.toArray (Ym l.length) c V A G i os→∀(a:Act) (w:World),Inv c V A G (fun j=>decide (j<i)) a w→wpList P l.toArray Q os a w:=by
  intro os
  induction os with
  |nil=>
   rintro i pre hl hp _ a w ⟨β,hI⟩
   refine hk a w ⟨β,hI.congr (Ul hwf) fun j hj=>?_⟩
   rw[hl]at hj
   simp at hj
   simp; omega
  |cons o os ih=>
   rintro i pre hl hp hs a w hI
   have hi:l[i]?=some o:=by rw[hl,List.getElem?_append_right (by omega),hp]; simp
   have hlen:i<l.length:=by rw[hl]; simp; omega
   have tm:∀k j,((Ym l.length).getD k 0).testBit j=true→j<k:=by
    intro k j h
    rcases Nat.lt_or_ge k l.length with h'|h'
    ·have e:(Ym l.length).getD k 0=2^k-1:=by simp[Ym,h']
     rw[e,Nat.testBit_two_pow_sub_one]at h
     simpa using h
    ·have e:(Ym l.length).getD k 0=0:=by simp[Ym,Nat.not_lt.2 h']
     rw[e]at h
     simp at h
   have hdet:Det (Ym l.length) i (fun j=>decide (j<i)):=⟨by simp,fun j hj=>by simpa using tm i j hj,fun j hj=>by have:=tm j i hj; simp; omega⟩
   refine(hs.1 _ a w hI hdet (wfB_at hwf hi)).list fun a' w' h'=>ih (i+1) (pre++[o]) (by rw[hl]; simp) (by simp[hp]) hs.2 a' w' ?_
   have e:X3 (fun j=>decide (j<i)) i=(fun j=>decide (j<i+1)):=by
    funext j
    unfold X3
    by_cases h:j=i
    ·simp[h]
    ·rw[if_neg h]
     by_cases h2:j<i
     ·simp[h2]; omega
     ·simp[h2]; omega
   rw[← e]
   exact h'
 refine key l 0 [] rfl rfl hs a w ?_
 have e:(fun j=>decide (j<0))=Qf:=by funext j; simp
 rw[e]
 exact h0
end
end Wx
