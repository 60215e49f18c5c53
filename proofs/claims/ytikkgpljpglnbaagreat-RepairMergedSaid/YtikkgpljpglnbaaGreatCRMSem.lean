import Derived.Test.YtikkgpljpglnbaaGreatJRM1
namespace Wx
open Go Go.RowKit
def sl (a:Act) (s:Nat):Value:=a.tmps.getD s undef
abbrev Pred:=World->Value->Prop
structure Ext (M:Nat->Nat->Prop) (w w':World):Prop where
 size:w.heap.size<=w'.heap.size
 block:∀k,k<w.heap.size->(∀o,¬M k o)->w'.heap[k]?=w.heap[k]?
 cell:∀k o v,¬M k o->w.cell? ⟨k,o,none⟩=some v->w'.cell? ⟨k,o,none⟩=some v
theorem Ext.refl (M:Nat->Nat->Prop) (w:World):Ext M w w:=⟨Nat.le_refl _,λ_ _ _=>rfl,λ_ _ _ _ h=>h⟩
variable {M:Nat->Nat->Prop}
theorem Ext.trans {w1 w2 w3:World} (h:Ext M w1 w2) (k:Ext M w2 w3):Ext M w1 w3:=
 ⟨Nat.le_trans h.size k.size,λi hi hm=>(k.block i (Nat.lt_of_lt_of_le hi h.size) hm).trans (h.block i hi hm),λb o v hm hc=>k.cell b o v hm (h.cell b o v hm hc)⟩
variable {w w':World}
theorem Ext.bI (h:Below w.heap.size w w'):Ext M w w':=
 ⟨h.size,λk hk _=>h.block k hk,λk o v _ hc=>by rw[World.cell?_of_block (w:=w) (h.block k (World.block_lt_of_cell? w _ hc))]; exact hc⟩
variable {M':Nat->Nat->Prop}
theorem Ext.mono (h:Ext M w w') (hm:∀k o,k<w.heap.size->M k o->M' k o):Ext M' w w':=
 ⟨h.size,λk hk hn=>h.block k hk λo h'=>hn o (hm k o hk h'),λk o v hn hc=>h.cell k o v (λh'=>hn (hm k o (World.block_lt_of_cell? w _ hc) h')) hc⟩
def aM (M:Nat->Nat->Prop) (F:World->Prop) (w:World):Prop:=∀w',Ext M w w'->F w'
variable {F:World->Prop}
theorem aM.out (h:aM M F w):F w:=h w (Ext.refl _ _)
theorem aM.ext (h:aM M F w) (he:Ext M w w'):aM M F w':=λw'' h'=>h w'' (he.trans h')
theorem aM.imp {F':World->Prop} (h:aM M F w) (hf:∀w,F w->F' w):aM M F' w:=λw' h'=>hf _ (h w' h')
theorem aM.sub (h:aM M F w) (hm:∀k o,k<w.heap.size->M' k o->M k o):aM M' F w:=λw' h'=>h w' (h'.mono hm)
theorem aM.always {p:Prop} (h:p) (w:World):aM M (λ_=>p) w:=λ_ _=>h
def gv (v:Value):Prop:=∀n,v≠.int .u64 n/\v≠.int .u32 n
def cR (M:Nat->Nat->Prop) (w:World):Prop:=∀k o,M k o->k<w.heap.size/\∀v,w.cell? ⟨k,o,none⟩=some v->gv v
def minus (M:Nat->Nat->Prop) (F:Nat->Prop) (k o:Nat):Prop:=M k o/\¬F k
structure cz (W:Nat->Prop) (w w':World):Prop where
 os:w'.os=w.os
 tape:w'.tape=w.tape
 output:w'.output=w.output
 size:w.heap.size<=w'.heap.size
 block:∀k,k<w.heap.size->¬W k->w'.heap[k]?=w.heap[k]?
theorem cz.refl (W:Nat->Prop) (w:World):cz W w w:=⟨rfl,rfl,rfl,Nat.le_refl _,λ_ _ _=>rfl⟩
variable {W:Nat->Prop}
theorem cz.trans {a b c:World} (h:cz W a b) (k:cz W b c):cz W a c:=
 ⟨k.os.trans h.os,k.tape.trans h.tape,k.output.trans h.output,Nat.le_trans h.size k.size,λi hi hn=>(k.block i (Nat.lt_of_lt_of_le hi h.size) hn).trans (h.block i hi hn)⟩
theorem cz.bI (h:Below w.heap.size w w'):cz W w w':=⟨h.os,h.tape,h.output,h.size,λk hk _=>h.block k hk⟩
theorem cz.below (h:cz W w w') (hn:∀k,¬W k):Below w.heap.size w w':=⟨h.os,h.tape,h.output,h.size,λk hk=>h.block k hk (hn k)⟩
theorem Ext.CL (h:cz W w w') (hm:∀k o,k<w.heap.size->W k->M k o):Ext M w w':=
 ⟨h.size,λk hk hn=>h.block k hk λhw=>hn 0 (hm k 0 hk hw),λk o v hn hc=>by
  have hk:=World.block_lt_of_cell? w _ hc
  rw[World.cell?_of_block (w:=w) (a:=⟨k,o,none⟩) (h.block k hk λhw=>hn (hm k o hk hw))]; exact hc⟩
def aA (p:Pred):Prop:=∀(M:Nat->Nat->Prop) w v,cR M w->p w v->aM M (λw=>p w v) w
structure aV where
 tag:Option Nat
 till:Option Nat
 slot:Nat
 p:Pred
abbrev Rel:=(Nat->Prop)->World->Value->Prop
abbrev pv (p:Pred):Rel:=λ_=>p
inductive Kd
 |ptr
 |row (m:Nat)
 |grow (m sz:Nat)
 |obj
structure Vr where
 id:Nat
 slot:Nat
 born:Option Nat
 dead:Option Nat
 kd:Kd
 T:TypeId
 n:Nat
 agg:Bool
 c0:Rel
 st:List (Nat×Rel)
structure Al where
 tag:Option Nat
 slot:Nat
 var:Nat
 off:Nat
 cond:Prop
def on (L:Nat->Bool):Option Nat->Bool
 |none=>true
 |some i=>L i
def off (L:Nat->Bool):Option Nat->Bool
 |none=>true
 |some i=>!L i
def live (L:Nat->Bool) (x:Vr):Bool:=on L x.born&&off L x.dead
def cont (L:Nat->Bool):Rel->List (Nat×Rel)->Rel
 |c,[]=>c
 |c,(j,d)::r=>cont L (if L j then d else c) r
def au (agg:Bool) (cs:List Value):Value:=if agg then .agg cs.toArray else cs.headD undef
structure cM where
 N:Nat
 w0:World
 M0:Nat->Nat->Prop
 gw:Nat->Prop
def mine (c:cM) (g:Nat):Prop:=c.w0.heap.size<=g\/c.gw g
def Vr.lo (x:Vr):Nat:=match x.kd with
 |.grow m sz=>m*sz
 |_=>0
def own (c:cM) (V:List Vr) (L:Nat->Bool) (β:Nat->Nat->Prop) (k o:Nat):Prop:=c.M0 k o\/∃x,x∈V/\live L x=true/\β x.id k/\x.lo<=o
structure ED (M:Nat->Nat->Prop) (c:cM) (L:Nat->Bool) (a:Act) (w:World) (x:Vr) (g:Nat):Prop where
 new:mine c g
 held:∃cs:List Value,w.heap[g]?=some (.cells cs.toArray x.T (0,0))/\cs.length=x.n/\(∀v∈cs,gv v)/\aM M (λw=>cont L x.c0 x.st (·=g) w (au x.agg cs)) w
def zZ (c:cM) (a:Act) (w:World) (x:Vr) (m sz:Nat) (B:Nat->Prop):Prop:=
 ((∀k,¬B k)/\m=0/\sl a x.slot=.slice none 0 0) \/
 ∃(b cap:Nat) (cur:List Value),(∀k,B k↔k=b)/\sl a x.slot=.slice (some ⟨b,0,none⟩) m cap/\mine c b/\w.heap[b]?=some (.cells cur.toArray x.T (0,0))/\cur.length=cap*sz/\m<=cap/\cap<=maxLen/\∀v∈cur,gv v
def xz (M:Nat->Nat->Prop) (c:cM) (L:Nat->Bool) (a:Act) (w:World) (x:Vr) (B:Nat->Prop):Prop:=
 (∀k,B k->mine c k/\k<w.heap.size/\∀o v,w.cell? ⟨k,o,none⟩=some v->gv v)/\aM (minus M B) (λw=>cont L x.c0 x.st B w (sl a x.slot)) w
def Kd.addr:Kd->Nat->Value
 |.row m,g=>.slice (some ⟨g,0,none⟩) m m
 |_,g=>.pointer (some ⟨g,0,none⟩)
def Kd.qv:Kd->Bool
 |.ptr|.row _=>false
 |_=>true
def kL (M:Nat->Nat->Prop) (c:cM) (L:Nat->Bool) (β:Nat->Nat->Prop) (a:Act) (w:World) (x:Vr):Prop:=match x.kd with
 |.grow m sz=>zZ c a w x m sz (β x.id)
 |.obj=>xz M c L a w x (β x.id)
 |kd=>∃g,(∀k,β x.id k↔k=g)/\sl a x.slot=kd.addr g/\ED M c L a w x g
variable {a:Act} {c:cM} {L:Nat->Bool} {β:Nat->Nat->Prop} {x:Vr}
theorem bB (hk:x.kd.qv=false):kL M c L β a w x↔∃g,(∀k,β x.id k↔k=g)/\sl a x.slot=x.kd.addr g/\ED M c L a w x g:=by
 unfold kL
 cases h:x.kd with
 |ptr=>exact Iff.rfl
 |row m=>exact Iff.rfl
 |grow m sz=>rw[h]at hk; cases hk
 |obj=>rw[h]at hk; cases hk
theorem bt {m sz:Nat} (hk:x.kd=.grow m sz):kL M c L β a w x↔zZ c a w x m sz (β x.id):=by
 unfold kL; rw[hk]
theorem aK (hk:x.kd=.obj):kL M c L β a w x↔xz M c L a w x (β x.id):=by
 unfold kL; rw[hk]
theorem Jk (hk:x.kd.qv=false):x.lo=0:=by
 unfold Vr.lo
 cases h:x.kd with
 |grow m sz=>rw[h]at hk; cases hk
 |_=>rfl
theorem iz (kd:Kd):kd.qv=false\/(∃m sz,kd=.grow m sz)\/kd=.obj:=by
 cases kd with
 |ptr=>exact .inl rfl
 |row m=>exact .inl rfl
 |grow m sz=>exact .inr (.inl ⟨m,sz,rfl⟩)
 |obj=>exact .inr (.inr rfl)
structure aT (c:cM) (V:List Vr) (A:List Al) (G:List aV) (L:Nat->Bool) (β:Nat->Nat->Prop) (a:Act) (w:World):Prop where
 size:a.tmps.size=c.N
 defers:a.defers=[]
 below:cz c.gw c.w0 w
 old:∀k o,c.M0 k o->(k<c.w0.heap.size/\¬c.gw k)/\∀v,w.cell? ⟨k,o,none⟩=some v->gv v
 var:∀x,x∈V->live L x=true->kL (own c V L β) c L β a w x
 apart:∀x y g,x∈V->y∈V->live L x=true->live L y=true->x.id≠y.id->β x.id g->¬β y.id g
 al:∀p,p∈A->on L p.tag=true->p.cond->∃g,β p.var g/\sl a p.slot=.pointer (some ⟨g,p.off,none⟩)
 gY:∀e,e∈G->on L e.tag=true->off L e.till=true->aM (own c V L β) (λw=>e.p w (sl a e.slot)) w
def Inv (c:cM) (V:List Vr) (A:List Al) (G:List aV) (L:Nat->Bool) (a:Act) (w:World):Prop:=∃β,aT c V A G L β a w
abbrev none_:Nat->Bool:=λ_=>false
theorem kL.blk {g:Nat} (h:kL M c L β a w x) (hg:β x.id g):mine c g/\g<w.heap.size/\∀o v,w.cell? ⟨g,o,none⟩=some v->gv v:=by
 have cells:∀{cs:List Value} {T:TypeId},w.heap[g]?=some (.cells cs.toArray T (0,0))->(∀v∈cs,gv v)->g<w.heap.size/\∀o v,w.cell? ⟨g,o,none⟩=some v->gv v:=by
  intro cs T h1 h2
  refine⟨?_,λo v hc=>?_⟩
  ·rcases Nat.lt_or_ge g w.heap.size with h'|h'
   ·exact h'
   ·rw[Array.getElem?_eq_none h']at h1; cases h1
  ·simp only[World.cell?,h1]at hc
   have:cs[o]?=some v:=by simpa using hc
   exact h2 v (List.mem_of_getElem? this)
 rcases iz x.kd with hk|⟨m,sz,hk⟩|hk
 ·obtain⟨g',e,_,hb⟩:=(bB hk).1 h
  have e':=(e g).1 hg
  subst e'
  obtain⟨cs,h1,_,h3,_⟩:=hb.held
  exact⟨hb.new,cells h1 h3⟩
 ·rcases (bt hk).1 h with⟨e,_⟩|⟨b,cap,cur,e,_,h2,h3,_,_,_,h5⟩
  ·exact absurd hg (e g)
  ·have e':=(e g).1 hg
   subst e'
   exact⟨h2,cells h3 h5⟩
 ·exact((aK hk).1 h).1 g hg
variable {L':Nat->Bool}
theorem kL.keep {β':Nat->Nat->Prop} {a':Act} (h:kL M c L β a w x) (hs:sl a' x.slot=sl a x.slot) (hβ:β' x.id=β x.id)
  (hb:∀g,β x.id g->w'.heap[g]?=w.heap[g]?) (hz:w.heap.size<=w'.heap.size) (RY:∀F:World->Prop,aM M F w->aM M' F w') (Mb:∀F:World->Prop,aM (minus M (β x.id)) F w->aM (minus M' (β x.id)) F w') (hc:cont L' x.c0 x.st=cont L x.c0 x.st):kL M' c L' β' a' w' x:=by
 rcases iz x.kd with hk|⟨m,sz,hk⟩|hk
 ·obtain⟨g,e,h1,h2⟩:=(bB hk).1 h
  obtain⟨cs,h3,h4,h5,h6⟩:=h2.held
  exact(bB hk).2 ⟨g,λk=>by rw[hβ]; exact e k,hs.trans h1,h2.new,cs,(hb g ((e g).2 rfl)).trans h3,h4,h5,by rw[hc]; exact RY _ h6⟩
 ·rcases (bt hk).1 h with⟨e,h1,h2⟩|⟨b,cap,cur,e,h1,h2,h3,h4,h5,h6,h7⟩
  ·exact(bt hk).2 (.inl ⟨by rw[hβ]; exact e,h1,hs.trans h2⟩)
  ·exact(bt hk).2 (.inr ⟨b,cap,cur,by rw[hβ]; exact e,hs.trans h1,h2,(hb b ((e b).2 rfl)).trans h3,h4,h5,h6,h7⟩)
 ·obtain⟨h1,h2⟩:=(aK hk).1 h
  refine(aK hk).2 ⟨λk hk'=>?_,?_⟩
  ·rw[hβ]at hk'
   obtain⟨h3,h4,h5⟩:=h1 k hk'
   exact⟨h3,Nat.lt_of_lt_of_le h4 hz,λo v hv=>h5 o v (by rw[<-World.cell?_of_block (w:=w) (w':=w') (a:=⟨k,o,none⟩) (hb k hk')]; exact hv)⟩
  ·rw[hβ,hc,hs]
   exact Mb _ h2
variable {d:Option Nat} {v:Value}
theorem bZ {s:Nat} (h:d≠some s):sl (a.put d v) s=sl a s:=by
 cases d with
 |none=>rfl
 |some d=>
  have:d≠s:=λe=>h (by rw[e])
  simp[sl,Act.put,Array.getElem?_setIfInBounds_ne this]
theorem iG {d:Nat} (h:d<a.tmps.size):sl (a.put (some d) v) d=v:=by
 simp[sl,Act.put,h]
theorem jt:(a.put d v).tmps.size=a.tmps.size:=by cases d<;>simp[Act.put]
theorem put_defers:(a.put d v).defers=a.defers:=by cases d<;>rfl
theorem ir:∀{st:List (Nat×Rel)} {c:Rel},(∀p∈st,L p.1=L' p.1)->cont L c st=cont L' c st:=by
 intro st
 induction st with
 |nil=>intro c _; rfl
 |cons p st ih=>
  intro c h
  obtain⟨j,d⟩:=p
  have h1:=h (j,d) (by simp)
  simp only at h1
  rw[cont,cont,h1]
  exact ih λp hp=>h p (List.mem_cons_of_mem _ hp)
def mG (n:Nat):Option Nat->Bool
 |none=>true
 |some i=>decide (i<n)
variable {n:Nat}
theorem sZ (h:∀i,i<n->L i=L' i) {t:Option Nat} (ht:mG n t=true):on L t=on L' t:=by
 cases t with
 |none=>rfl
 |some i=>exact h i (by simpa [mG] using ht)
theorem vz (h:∀i,i<n->L i=L' i) {t:Option Nat} (ht:mG n t=true):off L t=off L' t:=by
 cases t with
 |none=>rfl
 |some i=>simp only[off,h i (by simpa [mG] using ht)]
def sS (V:List Vr) (A:List Al) (G:List aV) (n:Nat):Bool:=
 (V.all λx=>(mG n x.born&&mG n x.dead)&&x.st.all λp=>decide (p.1<n))&&(A.all λp=>mG n p.tag)&&G.all λe=>mG n e.tag&&mG n e.till
variable {V:List Vr} {A:List Al} {G:List aV}
theorem aT.congr (hm:sS V A G n=true) (h:aT c V A G L β a w) (he:∀i,i<n->L i=L' i):aT c V A G L' β a w:=by
 simp only[sS,Bool.and_eq_true,List.all_eq_true,decide_eq_true_eq]at hm
 obtain⟨⟨hV,hA⟩,hG⟩:=hm
 have ho:∀x,x∈V->live L x=live L' x:=λx hx=>by unfold live; rw[sZ he (hV x hx).1.1,vz he (hV x hx).1.2]
 have eo:own c V L β=own c V L' β:=by
  funext k o
  apply propext
  constructor
  ·rintro(h|⟨x,hx,h1,h2⟩)
   ·exact .inl h
   ·exact .inr ⟨x,hx,by rw[<-ho x hx]; exact h1,h2⟩
  ·rintro(h|⟨x,hx,h1,h2⟩)
   ·exact .inl h
   ·exact .inr ⟨x,hx,by rw[ho x hx]; exact h1,h2⟩
 refine⟨h.size,h.defers,h.below,h.old,λx hx hl=>?_,λx y g hx hy h1 h2=>h.apart x y g hx hy (by rw[ho x hx]; exact h1) (by rw[ho y hy]; exact h2),λp hp hl hcd=>h.al p hp (by rw[sZ he (hA p hp)]; exact hl) hcd,λe hx hl hf=>?_⟩
 ·have:=h.var x hx (by rw[ho x hx]; exact hl)
  rw[eo]at this
  exact this.keep rfl rfl (λ_ _=>rfl) (Nat.le_refl _) (λ_ h=>h) (λ_ h=>h) (ir λp hp=>(he _ ((hV x hx).2 p hp)).symm)
 ·rw[<-eo]
  exact h.gY e hx (by rw[sZ he (hG e hx).1]; exact hl) (by rw[vz he (hG e hx).2]; exact hf)
def Does (P:Program) (o:Oper) (a:Act) (w:World) (K:Act->World->Prop):Prop:=
 match (execOp a.eval o).run P w with
 |.ok (.value v) w'=>K (a.put o.dst v) w'
 |.ok .skip w'=>K (a.put o.dst undef) w'
 |.ok (.enter f args) w'=>Calls P f args w' λe w''=>∃v,e=.returned v/\K (a.put o.dst v) w''
 |_=>False
variable {P:Program} {o:Oper} {K:Act->World->Prop} {Q:Exit->Act->World->Prop}
theorem Does.wp (h:Does P o a w K):o.wp P a w K Q:=by
 unfold Does at h
 unfold Oper.wp
 generalize (execOp a.eval o).run P w=r at *
 cases r with
 |ok n w'=>
  cases n<;>simp only[Oper.upon]at h ⊢<;>first|exact h|exact h.elim|skip
  case enter f args=>
   refine Calls.mono h λe w'' he=>?_
   obtain⟨v,rfl,hk⟩:=he
   exact hk
 |halt x w'=>cases x<;>exact h.elim
def cO (P:Program) (ops:Array Oper) (o:Oper) (a:Act) (w:World) (K:Act->World->Prop):Prop:=
 if Region.wanted o (yielded ops a.tmps)=true then Does P o a w K else K (a.put o.dst undef) w
variable {ops:Array Oper}
theorem cO.list {rest:List Oper} (h:cO P ops o a w K) (hK:∀a w,K a w->wpList P ops Q rest a w):wpList P ops Q (o::rest) a w:=by
 unfold cO at h
 unfold wpList
 split
 ·rename_i hw
  rw[if_pos hw]at h
  exact .inl (Oper.wp_mono hK h.wp)
 ·rename_i hw
  rw[if_neg hw]at h
  exact hK _ _ h
def A6 (acc:List Nat) (o:Oper):Nat:=o.after.toList.foldl (λs e=>if Region.binds .any e then s ||| (2^e.on ||| acc.getD e.on 0)else s) 0
def pU:List Nat->List Oper->List Nat
 |acc,[]=>acc
 |acc,o::os=>pU (acc++[A6 acc o]) os
def ve (l:List Oper):List Nat:=pU [] l
def aU (n:Nat):List Nat:=(List.range n).map λi=>2^i-1
structure mB (ms:List Nat) (i:Nat) (L:Nat->Bool):Prop where
 no:L i=false
 before:∀j,(ms.getD i 0).testBit j=true->L j=true
 behind:∀j,(ms.getD j 0).testBit i=true->L j=false
def lR (l:List Oper) (L:Nat->Bool):Prop:=∀i o,l[i]?=some o->L i=true->∀j∈wQ o,L j=true
theorem yT {acc:List Nat} {j:Nat} (h:(A6 acc o).testBit j=true):∃k∈wQ o,j=k\/(acc.getD k 0).testBit j=true:=by
 have key:∀(es:List Edge) (s:Nat),(es.foldl (λs e=>if Region.binds .any e then s ||| (2^e.on ||| acc.getD e.on 0)else s) s).testBit j=true->s.testBit j=true\/∃e∈es,Region.binds .any e=true/\(j=e.on\/(acc.getD e.on 0).testBit j=true):=by
  intro es
  induction es with
  |nil=>intro s h; exact .inl h
  |cons e es ih=>
   intro s h
   simp only[List.foldl_cons]at h
   rcases ih _ h with h1|⟨e',he',h2⟩
   ·split at h1
    ·rename_i hb
     rw[Nat.testBit_or,Nat.testBit_or,Bool.or_eq_true,Bool.or_eq_true]at h1
     rcases h1 with h1|h1|h1
     ·exact .inl h1
     ·refine .inr ⟨e,by simp,hb,.inl ?_⟩
      rw[Nat.testBit_two_pow]at h1
      simpa using (of_decide_eq_true h1).symm
     ·exact .inr ⟨e,by simp,hb,.inr h1⟩
    ·exact .inl h1
   ·exact .inr ⟨e',by simp[he'],h2⟩
 rcases key _ 0 h with h1|⟨e,he,hb,h2⟩
 ·simp at h1
 ·refine⟨e.on,?_,h2⟩
  simp only[wQ,List.mem_map,List.mem_filter]
  exact⟨e,⟨he,hb⟩,rfl⟩
def vR (l:List Oper) (acc:List Nat):Prop:=acc.length<=l.length/\∀L,lR l L->∀i o,l[i]?=some o->(∀j∈wQ o,L j=true)->∀j,(acc.getD i 0).testBit j=true->L j=true
variable {l:List Oper}
theorem wJ:∀(os:List Oper) (acc:List Nat) (pre:List Oper),l=pre++os->acc.length=pre.length->vR l acc->vR l (pU acc os):=by
 intro os
 induction os with
 |nil=>intro acc pre _ _ h; exact h
 |cons o os ih=>
  intro acc pre hl hlen h
  refine ih (acc++[A6 acc o]) (pre++[o]) (by rw[hl]; simp) (by simp[hlen]) ⟨by rw[hl]; simp; omega,?_⟩
  intro L hc i o' hi hpre j hj
  rcases Nat.lt_trichotomy i acc.length with hlt|heq|hgt
  ·rw[List.getD_eq_getElem?_getD,List.getElem?_append_left hlt,<-List.getD_eq_getElem?_getD]at hj
   exact h.2 L hc i o' hi hpre j hj
  ·have ho:o'=o:=by
    rw[hl,heq,hlen,List.getElem?_append_right (Nat.le_refl _)]at hi
    simpa using hi.symm
   subst ho
   rw[heq,List.getD_eq_getElem?_getD,List.getElem?_append_right (Nat.le_refl _)]at hj
   simp only[Nat.sub_self,List.getElem?_cons_zero,Option.getD_some]at hj
   obtain⟨k,hk,h1⟩:=yT hj
   rcases h1 with rfl|h1
   ·exact hpre _ hk
   ·cases hok:l[k]? with
    |none=>
     have:acc.getD k 0=0:=by
      rw[List.getD_eq_getElem?_getD,List.getElem?_eq_none (by have:=List.getElem?_eq_none_iff.1 hok; have:=h.1; omega)]
      rfl
     rw[this]at h1
     simp at h1
    |some ok=>exact h.2 L hc k ok hok (λm hm=>hc k ok hok (hpre k hk) m hm) j h1
  ·rw[List.getD_eq_getElem?_getD,List.getElem?_eq_none (by simp; omega)]at hj
   simp at hj
theorem yU (l:List Oper):vR l (ve l):=by
 refine wJ l [] [] rfl rfl ⟨by simp,?_⟩
 intro L _ i o _ _ j hj
 simp at hj
def gj:Op->Bool
 |.alloc _|.box _ _|.move _|.assign _|.makeSlice _ _ _|.call ⟨.builtin .append,_,_⟩=>true
 |_=>false
def eD:Op->Bool
 |.store _ _ _=>true
 |_=>false
def iw:Op->Bool
 |.fieldAddr _ _ _|.indexAddr _ _ _=>true
 |_=>false
structure kD (N:Nat) (ops:Array Oper) (V:List Vr) (A:List Al) (G:List aV) (i:Nat) (o:Oper):Prop where
 sz:∀d,o.dst=some d->d<N
 sg:∀e,e∈G->e.slot<N
 aa:∀p,p∈A->p.tag=some i->iw o.op=true
 g1:∀e,e∈G->o.dst=some e.slot->e.tag=some i\/e.till=some i
 g2:∀e,e∈G->e.tag=some i->o.dst=some e.slot
 g3:∀e j,e∈G->e.tag=some j->(ops[j]?).bind (·.dst)=some e.slot
 gu:∀e e',e∈G->e'∈G->e.tag=some i->e'.tag=some i->e=e'
 a1:∀p,p∈A->o.dst=some p.slot->p.tag=some i
 a2:∀p,p∈A->p.tag=some i->o.dst=some p.slot
 v1:∀x,x∈V->o.dst=some x.slot->x.born=some i\/x.dead=some i
 v2:∀x,x∈V->x.born=some i->o.dst=some x.slot
 vk:∀x,x∈V->x.born=some i\/x.dead=some i->gj o.op=true
 vb:∀x,x∈V->x.dead≠some i\/x.born≠some i
 vs:∀x,x∈V->∀p∈x.st,p.1=i->eD o.op=true
 vu:∀x y,x∈V->y∈V->x.id=y.id->x=y
 vo:∀x y,x∈V->y∈V->x.born=some i->y.born=some i->x=y
variable {N:Nat}
theorem kD.JV {i:Nat} {dst:Option Nat} {op:Op} {ty:TypeId} {pos:String} {aL:Array Edge} {g:Option (Nat×Bool)} (h:kD N ops V A G i ⟨dst,op,ty,pos,aL,g⟩):kD N ops V A G i ⟨dst,op,ty,pos,aL,none⟩:=
 ⟨h.sz,h.sg,h.aa,h.g1,h.g2,h.g3,h.gu,h.a1,h.a2,h.v1,h.v2,h.vk,h.vb,h.vs,h.vu,h.vo⟩
def OpOk (P:Program) (ops:Array Oper) (ms:List Nat) (c:cM) (V:List Vr) (A:List Al) (G:List aV) (i:Nat) (o:Oper):Prop:=
 ∀L a w,Inv c V A G L a w->mB ms i L->kD c.N ops V A G i o->cO P ops o a w (Inv c V A G (upd L i))
def qH (P:Program) (ops:Array Oper) (ms:List Nat) (c:cM) (V:List Vr) (A:List Al) (G:List aV):Nat->List Oper->Prop
 |_,[]=>True
 |i,o::os=>OpOk P ops ms c V A G i o/\qH P ops ms c V A G (i+1) os
theorem qH.get {ms:List Nat}:∀{os:List Oper} {i:Nat},qH P ops ms c V A G i os->∀{j:Nat} {o:Oper},os[j]?=some o->OpOk P ops ms c V A G (i+j) o:=by
 intro os
 induction os with
 |nil=>intro i _ j o h; simp at h
 |cons o' os ih=>
  intro i hs j o h
  cases j with
  |zero=>simp at h; subst h; exact hs.1
  |succ j=>have:=ih hs.2 (by simpa using h); rwa [show i+1+j=i+(j+1) by omega]at this
def xe (V:List Vr):Bool:=V.all λx=>x.dead.isSome||(V.filter λy=>y.dead.isNone&&y.slot==x.slot).length==1
def tU (N:Nat) (l:List Oper) (V:List Vr) (A:List Al) (G:List aV):Bool:=
 xe V&&(((sS V A G l.length&&G.all λe=>decide (e.slot<N))&&l.all λo=>o.dst.all λd=>decide (d<N)) &&
 (G.all λe=>(l.zipIdx.all λq=>q.1.dst != some e.slot||(e.tag==some q.2||e.till==some q.2))&&(match e.tag with
  |none=>true
  |some j=>((l[j]?).bind (·.dst))==some e.slot&&(G.filter λe'=>e'.tag==some j).length==1)) &&
 (A.all λp=>(l.zipIdx.all λq=>q.1.dst != some p.slot||p.tag==some q.2)&&(match p.tag with
  |none=>true
  |some j=>((l[j]?).bind (·.dst))==some p.slot&&((l[j]?).any λo=>iw o.op))) &&
 (V.all λx=>((l.zipIdx.all λq=>q.1.dst != some x.slot||(x.born==some q.2||x.dead==some q.2))&&(match x.born with
  |none=>true
  |some j=>((l[j]?).bind (·.dst))==some x.slot&&(x.dead != some j&&((V.filter λy=>y.born==some j).length==1&&(l[j]?).any λo=>gj o.op)))) &&
  (match x.dead with
  |none=>true
  |some j=>(l[j]?).any λo=>gj o.op) &&
  ((x.st.all λp=>(l[p.1]?).any λo=>eD o.op)&&(V.filter λy=>y.id==x.id).length==1)))
theorem cw {α:Type} {l:List α} {f:α->Bool} (h:(l.filter f).length=1) {x y:α} (hx:x∈l) (hy:y∈l) (fx:f x=true) (fy:f y=true):x=y:=by
 have hx':x∈l.filter f:=List.mem_filter.2 ⟨hx,fx⟩
 have hy':y∈l.filter f:=List.mem_filter.2 ⟨hy,fy⟩
 match hm:l.filter f,h with
 |[z],_=>
  rw[hm]at hx' hy'
  simp at hx' hy'
  rw[hx',hy']
theorem tV (h:tU N l V A G=true) {i:Nat} {o:Oper} (hi:l[i]?=some o):kD N l.toArray V A G i o:=by
 simp only[tU,Bool.and_eq_true,List.all_eq_true]at h
 obtain⟨_,⟨⟨⟨⟨hm,WL⟩,hN⟩,hG⟩,hA⟩,hV⟩:=h
 have hz:(o,i)∈l.zipIdx:=List.mem_iff_getElem?.2 ⟨i,by simp[List.getElem?_zipIdx,hi]⟩
 refine⟨λd hd=>?_,λe he=>by simpa using WL e he,λp hp ht=>?_,?_,?_,?_,?_,?_,?_,?_,?_,?_,?_,?_,?_,?_⟩
 ·have:=hN o (List.mem_of_getElem? hi)
  rw[hd]at this
  simpa using this
 ·have h1:=(hA p hp).2
  rw[ht]at h1
  simp only[Bool.and_eq_true,beq_iff_eq]at h1
  have h2:=h1.2
  rw[hi]at h2
  simpa using h2
 ·intro e he ho
  have h1:=(hG e he).1 (o,i) hz
  simpa [ho] using h1
 ·intro e he ht
  have h1:=(hG e he).2
  rw[ht]at h1
  simp only[Bool.and_eq_true,beq_iff_eq]at h1
  have h2:=h1.1
  rw[hi]at h2
  exact h2
 ·intro e j he ht
  have h1:=(hG e he).2
  rw[ht]at h1
  simp only[Bool.and_eq_true,beq_iff_eq]at h1
  simpa using h1.1
 ·intro e e' he he' ht ht'
  have h1:=(hG e he).2
  rw[ht]at h1
  simp only[Bool.and_eq_true,beq_iff_eq]at h1
  exact cw h1.2 he he' (by simp[ht]) (by simp[ht'])
 ·intro p hp ho
  have h1:=(hA p hp).1 (o,i) hz
  simpa [ho] using h1
 ·intro p hp ht
  have h1:=(hA p hp).2
  rw[ht]at h1
  simp only[Bool.and_eq_true,beq_iff_eq]at h1
  have h2:=h1.1
  rw[hi]at h2
  exact h2
 ·intro x hx ho
  have h1:=(hV x hx).1.1.1 (o,i) hz
  simpa [ho] using h1
 ·intro x hx ht
  have h1:=(hV x hx).1.1.2
  rw[ht]at h1
  simp only[Bool.and_eq_true,beq_iff_eq]at h1
  have h2:=h1.1
  rw[hi]at h2
  exact h2
 ·rintro x hx (ht|ht)
  ·have h1:=(hV x hx).1.1.2
   rw[ht]at h1
   simp only[Bool.and_eq_true,beq_iff_eq]at h1
   have h2:=h1.2.2.2
   rw[hi]at h2
   simpa using h2
  ·have h1:=(hV x hx).1.2
   rw[ht]at h1
   simp only at h1
   rw[hi]at h1
   simpa using h1
 ·intro x hx
  by_cases hb:x.born=some i
  ·have h1:=(hV x hx).1.1.2
   rw[hb]at h1
   simp only[Bool.and_eq_true,beq_iff_eq,bne_iff_ne]at h1
   exact .inl h1.2.1
  ·exact .inr hb
 ·intro x hx p hp hpi
  have h2:=(hV x hx).2.1 p hp
  rw[hpi,hi]at h2
  simpa using h2
 ·intro x y hx hy hs
  have h1:=(hV x hx).2.2
  rw[beq_iff_eq]at h1
  exact cw h1 hx hy (by simp) (by simp[hs])
 ·intro x y hx hy h1 h2
  have h3:=(hV x hx).1.1.2
  rw[h1]at h3
  simp only[Bool.and_eq_true,beq_iff_eq]at h3
  exact cw h3.2.2.1 hx hy (by simp[h1]) (by simp[h2])
theorem ig (h:tU N l V A G=true):sS V A G l.length=true:=by
 simp only[tU,Bool.and_eq_true]at h
 exact h.2.1.1.1.1.1
theorem qh (h:tU N l V A G=true):xe V=true:=by
 simp only[tU,Bool.and_eq_true]at h
 exact h.1
theorem xk (h:tU N l V A G=true):∀x y,x∈V->y∈V->x.id=y.id->x=y:=by
 simp only[tU,Bool.and_eq_true,List.all_eq_true]at h
 obtain⟨_,_,hV⟩:=h
 intro x y hx hy hs
 have h1:=(hV x hx).2.2
 rw[beq_iff_eq]at h1
 exact cw h1 hx hy (by simp) (by simp[hs])
theorem aT.draws (h:aT c V A G L β a w):aT c V A G L β a w.drew:=by
 have he:∀M,Ext M w w.drew:=λM=>⟨Nat.le_refl _,λ_ _ _=>rfl,λ_ _ _ _ h=>h⟩
 have hl:cz c.gw c.w0 w.drew:=h.below.trans (cz.bI (Below.drew (Below.refl _ w)))
 exact⟨h.size,h.defers,hl,h.old,λx hx hl=>(h.var x hx hl).keep rfl rfl (λ_ _=>rfl) (Nat.le_refl _) (λ_ h=>h.ext (he _)) (λ_ h=>h.ext (he _)) rfl,h.apart,h.al,λe hx hl hf=>(h.gY e hx hl hf).ext (he _)⟩
section
variable {P:Program} {Q:Exit->Act->World->Prop} {c:cM} {V:List Vr} {A:List Al} {G:List aV} {a:Act} {w:World}{id:Nat} {l:List Oper}
theorem wU (ms:List Nat) (hm:P.follows .mixedOrders=true) (hok:gX l.toArray=true) (yC:ve l=ms) (hwf:tU c.N l V A G=true)
  (h0:Inv c V A G none_ a w) (hs:qH P l.toArray ms c V A G 0 l) (hk:∀a w,Inv c V A G (λ_=>true) a w->Q .normal a w):(Code.region id l.toArray true).wp P Q a w:=by
 have wE:=yU l
 rw[yC]at wE
 refine tF hm hok (λL a w=>Inv c V A G L a w/\lR l L) ⟨?_,λi o _ h=>by cases h⟩ ?_ ?_
 ·obtain⟨β,hβ⟩:=h0
  exact⟨β,hβ.draws⟩
 ·have key:∀(os:List Oper) (i:Nat) (pre:List Oper),l=pre++os->pre.length=i->qH P l.toArray ms c V A G i os->rP P l.toArray Q (λL a w=>Inv c V A G L a w/\lR l L) i os:=by
   intro os
   induction os with
   |nil=>intro i pre _ _ _; trivial
   |cons o os ih=>
    intro i pre hl hp hs
    refine⟨?_,ih (i+1) (pre++[o]) (by rw[hl]; simp) (by simp[hp]) hs.2⟩
    rintro L a w ⟨hI,hc⟩ hno hpre
    have hi:l[i]?=some o:=by rw[hl,List.getElem?_append_right (by omega),hp]; simp
    have wD:mB ms i L:=⟨hno,λj hj=>wE.2 L hc i o hi hpre j hj,λj hj=>by
     cases hL:L j with
     |false=>rfl
     |true=>
      cases Mp:l[j]? with
      |none=>
       have h1:=wE.1
       rw[List.getD_eq_getElem?_getD,List.getElem?_eq_none (by have:=List.getElem?_eq_none_iff.1 Mp; omega)]at hj
       simp at hj
      |some oj=>
       have:=wE.2 L hc j oj Mp (λm hm=>hc j oj Mp hL m hm) i hj
       rw[hno]at this
       cases this⟩
    have nR:lR l (upd L i):=by
     intro k ok sI hL j hj
     by_cases Pn:k=i
     ·subst Pn
      rw[hi]at sI
      injection sI with sI
      subst sI
      have:=hpre j hj
      unfold upd
      split
      ·rfl
      ·exact this
     ·have:=hc k ok sI (Hf hL Pn) j hj
      unfold upd
      split
      ·rfl
      ·exact this
    exact(hs.1 L a w hI wD (tV hwf hi)).list (K:=Inv c V A G (upd L i)) λa' w' h'=>⟨h',nR⟩
  exact key l 0 [] rfl rfl hs
 ·rintro L a w ⟨⟨β,hI⟩,_⟩ hall
  exact hk a w ⟨β,hI.congr (ig hwf) hall⟩
theorem zB (hwf:tU c.N l V A G=true)
  (h0:Inv c V A G none_ a w) (hs:qH P l.toArray (aU l.length) c V A G 0 l) (hk:∀a w,Inv c V A G (λ_=>true) a w->Q .normal a w):(Code.region id l.toArray false).wp P Q a w:=by
 refine wp_region_lit ?_
 have key:∀(os:List Oper) (i:Nat) (pre:List Oper),l=pre++os->pre.length=i->qH P l.toArray (aU l.length) c V A G i os->∀(a:Act) (w:World),Inv c V A G (λj=>decide (j<i)) a w->wpList P l.toArray Q os a w:=by
  intro os
  induction os with
  |nil=>
   rintro i pre hl hp _ a w ⟨β,hI⟩
   refine hk a w ⟨β,hI.congr (ig hwf) λj hj=>?_⟩
   rw[hl]at hj
   simp at hj
   simp; omega
  |cons o os ih=>
   rintro i pre hl hp hs a w hI
   have hi:l[i]?=some o:=by rw[hl,List.getElem?_append_right (by omega),hp]; simp
   have hlen:i<l.length:=by rw[hl]; simp; omega
   have tm:∀k j,((aU l.length).getD k 0).testBit j=true->j<k:=by
    intro k j h
    rcases Nat.lt_or_ge k l.length with h'|h'
    ·have e:(aU l.length).getD k 0=2^k-1:=by simp[aU,h']
     rw[e,Nat.testBit_two_pow_sub_one]at h
     simpa using h
    ·have e:(aU l.length).getD k 0=0:=by simp[aU,Nat.not_lt.2 h']
     rw[e]at h
     simp at h
   have wD:mB (aU l.length) i (λj=>decide (j<i)):=⟨by simp,λj hj=>by simpa using tm i j hj,λj hj=>by have:=tm j i hj; simp; omega⟩
   refine(hs.1 _ a w hI wD (tV hwf hi)).list λa' w' h'=>ih (i+1) (pre++[o]) (by rw[hl]; simp) (by simp[hp]) hs.2 a' w' ?_
   have e:upd (λj=>decide (j<i)) i=(λj=>decide (j<i+1)):=by
    funext j
    unfold upd
    by_cases h:j=i
    ·simp[h]
    ·rw[if_neg h]
     by_cases h2:j<i
     ·simp[h2]; omega
     ·simp[h2]; omega
   rw[<-e]
   exact h'
 refine key l 0 [] rfl rfl hs a w ?_
 have e:(λj=>decide (j<0))=none_:=by funext j; simp
 rw[e]
 exact h0
end
end Wx
