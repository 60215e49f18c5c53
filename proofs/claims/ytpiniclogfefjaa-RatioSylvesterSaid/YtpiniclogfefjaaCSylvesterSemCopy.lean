import Derived.Test.YtpiniclogfefjaaJSylvester27
namespace Wx
open Go Go.RowKit

def noUB:Value→Bool
 |.int .u64 _=>false
 |.int .u32 _=>false
 |_=>true
theorem noUB_spec {v:Value} (h:noUB v=true):Yr v:=by
 intro n
 refine⟨?_,?_⟩<;>intro e<;>rw[e]at h<;>cases h
def appB (P:Program) (T tx E:TypeId) (sz:Nat):Bool:=
 (match P.underlying T with|some (.slice E')=>E'==E|_=>false)&&(match P.underlying tx with|some (.slice _)=>true|_=>false) &&
 (match P.info? E with
  |some ti=>(ti.size==sz&&decide (ti.bytes≤4096))&&(match ti.zero with|some zv=>zv.cells.size==sz&&zv.cells.toList.all noUB|none=>false)
  |none=>false)
theorem appTy_of {P:Program} {T tx E:TypeId} {sz:Nat} (h:appB P T tx E sz=true):AppTy P T tx E sz:=by
 unfold appB at h
 simp only[Bool.and_eq_true]at h
 obtain⟨⟨h1,h2⟩,h3⟩:=h
 refine⟨?_,?_,?_⟩
 ·split at h1
  ·rename_i E' he
   rw[he,eq_of_beq h1]
  ·cases h1
 ·split at h2
  ·rename_i E' he
   exact⟨E',he⟩
  ·cases h2
 ·split at h3
  ·rename_i ti he
   simp only[Bool.and_eq_true]at h3
   obtain⟨⟨h4,h5⟩,h6⟩:=h3
   split at h6
   ·rename_i zv hz
    simp only[Bool.and_eq_true,List.all_eq_true]at h6
    exact⟨ti,zv,he,eq_of_beq h4,hz,eq_of_beq h6.1,fun u hu=>noUB_spec (h6.2 u hu),of_decide_eq_true h5⟩
   ·cases h6
  ·cases h3
def pEmpty:Qj:=fun _ v=>∃A,v=.slice A 0 0
def Kn (r:RowL) (l:List Rat):Qj:=fun w v=>v=r.hdr∧r.n=l.length∧r.n≤r.cap∧r.cap≤maxLen∧(⟨r.b,3,true,Qw l r.cap⟩:Bk).ok w
theorem fits_own (r:RowL) (l:List Rat):Jn 1 false (Kn r l):=by
 rintro w v ⟨rfl,_⟩
 exact⟨[_],rfl,rfl,rfl,fun u hu=>by simp at hu; subst hu; exact⟨Kp _ _ _,rfl⟩⟩
def RetRow (l:List Rat) (w:World) (e:Ending) (w':World):Prop:=∃r:RowL,e=.returned r.hdr∧Below w.heap.size w w'∧w.heap.size≤r.b∧Kn r l w' r.hdr
section
variable {P:Program} {ops:Array Oper} {ms:List Nat} {c:Cfg} {V:List Vr} {A:List Al} {G:List Ent} {i:Nat} {L:Nat→Bool} {β:Nat→Nat→Prop} {a:Act} {w:World} {o:Oper}
variable {d:Nat} {x y z:Operand} {ty:TypeId} {pos:String} {aft:Array Edge}
theorem op_eqlNil {T T' E:TypeId} {sz n:Nat} {agg:Bool} {f:Nat→Qj} (h:Has ms G i x (Qg sz agg n f)) (hn:0<n) (ht:P.underlying T=some (.slice E)) (hp:Post G i (pB false)):
  Xf P ops ms c V A G i ⟨some d,.binOp .eql T x (.const (.slice none 0 0)) T',ty,pos,aft,none⟩:=
 J5 rfl rfl rfl (.inl rfl) hp fun L β a w hI hd=>⟨.bool false,w,by
  obtain⟨A',cap,e,_,_,k⟩:=(h.spec hI hd).out
  obtain⟨b,o,rfl,_⟩:=k hn
  show(do pure (Next.value (← (do eqGuard .eql T x (.const (.slice none 0 0)) (a.eval x) (.slice none 0 0); Go.binOp .eql T (a.eval x) (.slice none 0 0))))).run P w=_
  rw[e]
  have hgd:eqGuard .eql T x (.const (.slice none 0 0)) (.slice (some ⟨b,o,none⟩) n cap) (.slice none 0 0)=pure ():=by unfold eqGuard; rfl
  have hbo:Go.binOp .eql T (.slice (some ⟨b,o,none⟩) n cap) (.slice none 0 0)=(do pure (.bool (← Op.equal T (.slice (some ⟨b,o,none⟩) n cap) (.slice none 0 0)))):=rfl
  rw[hgd,hbo]
  have he:(Op.equal T (.slice (some ⟨b,o,none⟩) n cap) (.slice none 0 0)).run P w=.ok false w:=by
   show(Op.equalIn (9999+1) T _ _).run P w=_
   rw[Op.equalIn,Sem.run_bind,run_underlying ht]
   rfl
  simp only[pure_bind,Sem.run_bind,he,Result.andThen_ok,Sem.run_pure],Below.refl _ _,fun _ _=>rfl⟩
theorem op_buildSlice0 {T E:TypeId} {sz:Nat} (ht:SlTy P T E sz) (hp:Post G i pEmpty):Xf P ops ms c V A G i ⟨some d,.buildSlice T 0 #[],ty,pos,aft,none⟩:=
 J5 rfl rfl rfl (.inl rfl) hp fun L β a w hI hd=>by
  refine⟨.slice (some ⟨w.heap.size,0,none⟩) 0 0,w.alloc (.cells #[] E),?_,Below.alloc (Below.refl _ _) (Nat.le_refl _) _,fun w' _=>⟨_,rfl⟩⟩
  show(do pure (Next.value (← Instr.buildSlice T 0 ((#[]:Array (Nat×Operand)).map fun(i,x)=>(i,a.eval x))))).run P w=_
  have hu:(underlying T).run P w=.ok (.slice E) w:=run_underlying ht.under w
  have hrun:(Instr.buildSlice T 0 ((#[]:Array (Nat×Operand)).map fun(i,x)=>(i,a.eval x))).run P w=.ok (.slice (some ⟨w.heap.size,0,none⟩) 0 0) (w.alloc (.cells #[] E)):=by
   simp only[Instr.buildSlice,Sem.run_bind,hu,Result.andThen_ok,ht.size,Nat.zero_mul]
   rw[if_neg (by omega),if_pos trivial]
   have e:Array.map (fun x=>(#[]:Array Value)[x%(#[]:Array Value).size]!) (Array.range 0)=#[]:=by simp
   have e2:(Array.map (fun x:Nat×Operand=>(x.fst,a.eval x.snd)) #[]).toList=[]:=by simp
   simp only[pure_bind,e,e2,Instr.fill]
   rfl
  rw[Sem.run_bind,hrun]
  rfl
theorem U9 {T E:TypeId} {z:List Value} {zv:Value} {sz:Nat} {agg:Bool} {p:Qj} (ht:SlTy P T E sz) (hzv:∀w,(zeroValue E).run P w=.ok zv w) (hzc:zv.cells=z.toArray) (hzl:z.length=sz) (hsz:0<sz∧sz≤16777216) (h1:Has ms G i x p) (hf:Jn sz agg p) (hp:Post G i (Qg sz agg 1 fun _=>p)):
  Xf P ops ms c V A G i ⟨some d,.buildSlice T 1 #[(0,x)],ty,pos,aft,none⟩:=
 Qa1 (fs:=[⟨agg,sz,Zb⟩]) (ps:=[(0,p)]) (gs:=[⟨agg,sz,p⟩]) ht hzv hzc rfl (decide_eq_true ⟨hsz.1,Nat.one_pos,by omega⟩) (fun _=>trivial) hzl (show U3 ms G i [⟨agg,sz,Zb⟩] [(0,x)] [(0,p)]from⟨⟨rfl,h1,_,rfl,hf⟩,trivial⟩) rfl (fun _=>p) (fun k f h=>by cases k with
  |zero=>simp at h; rw[← h]
  |succ k=>simp at h) hp
theorem Qc4 {n:Nat} {f:Nat→Qj} {sz:Nat} {agg:Bool}:Jn 1 false (Qg sz agg n f):=by
 rintro w v ⟨A,c,rfl,_⟩
 exact⟨[_],rfl,rfl,rfl,fun u hu=>by simp at hu; subst hu; exact⟨Kp _ _ _,rfl⟩⟩
theorem op_callRP {f:FuncId} {ts:Array TypeId} {v2:Vr} {g:Nat} {cf:FuncId} {p p0 q:Qj} (hf:Y1 P f) (k2:Nat) (hk2:V[k2]?=some v2) (ho2:Zm ms i v2=true) (hkd2:v2.kd=.ptr) (hst2:(v2.st.all fun q=>(ms.getD i 0).testBit q.1||(ms.getD q.1 0).testBit i)=true) (hc2:cont (fun j=>(ms.getD i 0).testBit j) v2.c0 v2.st=pv q)
  (hg:Has ms G i (.tmp v2.slot) (Qe (.pointer (some ⟨g,0,none⟩)))) (h1:Has ms G i x p0) (h2:Has ms G i y (Qe (.func (.func cf) #[] #[.pointer (some ⟨g,0,none⟩)]))) (hn:Zs p) (hp:Post G i p)
  (hc:∀(M:Nat→Nat→Prop) (w:World) (u1 u2:Value),Mid M w→Box M (fun w=>p0 w u1) w→Box M (fun w=>Uz cf v2.n v2.agg q w u2) w→Calls P f #[u1,u2] w (RetB M p w)):
  Xf P ops ms c V A G i ⟨some d,.call ⟨.value (.func f),#[x,y],ts⟩,ty,pos,aft,none⟩:=
 Vp hf hp fun L β a w hI hd=>(by
  rw[show(#[x,y]:Array Operand).map a.eval=#[a.eval x,a.eval y] by simp]
  obtain⟨g',hg',hs',hv⟩:=Qbc hI hd (List.mem_of_getElem? hk2) ho2 hkd2
  have e1:sl a v2.slot=.pointer (some ⟨g,0,none⟩):=(hg.spec hI hd).out
  rw[hs']at e1
  injection e1 with e1
  injection e1 with e1
  injection e1 with e1
  subst e1
  obtain⟨cs,j1,j2,j3,j4⟩:=hv.held
  rw[Qcr hd hst2,hc2]at j4
  have j4:Box (own c V L β) (fun w=>q w (Q6 v2.agg cs)) w:=j4
  have hy:a.eval y=.func (.func cf) #[] #[.pointer (some ⟨g',0,none⟩)]:=(h2.spec hI hd).out
  let M:=Jo (own c V L β) fun k=>k=g'
  have hM:Mid M w:=fun k o hk=>X8 hI k o hk.1
  have hsub:∀{w'},Ext M w w'→Ext (own c V L β) w w':=fun he=>he.mono' fun k o hk=>hk.1
  refine(hc M w _ _ hM (fun w' he=>h1.spec hI hd w' (hsub he)) (fun w' he=>?_)).mono fun e w' hret=>?_
  ·refine⟨.pointer (some ⟨g',0,none⟩),hy,g',0,cs,rfl,j2,fun j u hj=>?_,j4 w' (hsub he)⟩
   rw[Nat.zero_add]
   refine he.cell g' j u (fun ho=>ho.2 rfl) ?_
   simp only[World.cell?,j1]
   simpa using hj
  ·obtain⟨v,rfl,hv1,hv2⟩:=hret
   exact⟨v,rfl,hn _ w' v ((X8 hI).below hv2) hv1.out,hv2⟩)
theorem op_append0 {T tx E:TypeId} {sz n:Nat} {agg:Bool} {g:Nat→Qj} {yv:Vr} (k2:Nat) (hk2:V[k2]?=some yv) (hb:yv.born=some i) (hkd2:yv.kd=.grow n sz)
  (hT2:yv.T=E) (hal:(A.all fun p=>p.var != yv.id||p.tag.any fun j=>(ms.getD j 0).testBit i)=true)
  (h1:Has ms G i x pEmpty) (h2:Has ms G i y (Qg sz agg n g)) (ht:AppTy P T tx E sz) (hagg:agg=false→sz=1) (hg:∀i,i<n→Jn sz agg (g i)) (hn:0<n) (hmax:n≤1073741824)
  (hp:Post G i (Qg sz agg n g)):
  Xf P ops ms c V A G i ⟨some d,.call ⟨.builtin .append,#[x,y],#[T,tx]⟩,ty,pos,aft,none⟩:=by
 refine J9 (fun L β a w hI hd hwf=>?_) rfl
 have hy:=List.mem_of_getElem? hk2
 obtain⟨A1,ev1⟩:=(h1.spec hI hd).out
 obtain⟨A2,cap2,news,ev2,hm2,hc2,hnl,hnu,hnc,hnf⟩:=Qdi hagg hg (h2.spec hI hd)
 obtain⟨E',htx⟩:=ht.src
 obtain⟨ti,zv,hi,hsz,hz,hzs,hzn,hby⟩:=ht.info
 subst hsz
 have hS:Src P ti.size tx (a.eval y) n news w:=by
  rw[ev2]
  exact src_of htx hnl (fun u hu=>(hnu u hu).2) fun h=>by
   obtain⟨b,o,e,hc⟩:=hnc h
   exact⟨b,o,e,fun j u hj=>(hc j u hj).1⟩
 have hold:(Builtin.firstCells ti.size 0 (.slice A1 0 0)).run P w.drew=.ok ([]:List Value).toArray w.drew:=by
  cases A1 with
  |none=>exact run_firstCells_none w.drew ti.size 0 0 0
  |some p=>exact run_firstCells_some w.drew ti.size 0 p 0 0 [] (by simp) fun j u hj=>by simp at hj
 have hrun:=run_append_grow_src (P:=P) w T tx ty E ti zv ht.under hi hz A1 0 0 ([]:List Value) hold (a.eval y) n news hS (by omega) (by omega) (growslice_fits (by omega) (by
   have:(0+n)*ti.bytes≤1073741824*4096:=Nat.mul_le_mul (by omega) hby
   omega))
 have hge:=grownCap_ge w (0+n) 0 E
 have hb0:Below w.heap.size w (w.drew.alloc (.cells (news++(Builtin.zeroCells zv.cells (grownCap w (0+n) 0 E-(0+n))).toList).toArray E)):=Below.alloc (Below.drew (Below.refl _ _)) (Nat.le_refl _) _
 refine Vt (v:=.slice (some ⟨w.heap.size,0,none⟩) (0+n) (grownCap w (0+n) 0 E)) (w':=w.drew.alloc (.cells (news++(Builtin.zeroCells zv.cells (grownCap w (0+n) 0 E-(0+n))).toList).toArray E)) ?_ ?_
 ·rw[ev1,hrun]
  congr 3
  apply Array.ext'
  simp
 ·refine hI.appended hd hwf (E:=E) (f:=fun _ _ _=>True) (g:=g) (agg:=agg) (olds:=[]) (m:=0) hy hb (by rw[Nat.zero_add]; exact hkd2) hT2 rfl rfl hal (by simp) hnl (fun i hi=>by omega) hnf (by simpa using hp) (heap_alloc_new w.drew _) ?_ hge (grownCap_le_maxLen w (0+n) 0 E (by unfold maxLen; omega)) ?_ ?_ (.inl hI.below.size) ⟨hb0.os,hb0.tape,hb0.output,hb0.size⟩ (fun k hk _=>hb0.block k (Nat.lt_of_lt_of_le hk hI.below.size))
   (fun z hz hl _ k hk=>⟨hb0.block k (Y5 hI hz hl hk),fun e=>absurd e (Nat.ne_of_lt (Y5 hI hz hl hk))⟩) (Ext.of_below hb0) (fun z hz hl _=>Ext.of_below hb0) (fun j hj=>absurd hj (Nat.lt_irrefl _))
  ·rw[List.length_append,hnl,Array.length_toList,size_zeroCells,hzs,← Nat.add_mul]
   congr 1; omega
  ·intro u hu
   rcases List.mem_append.1 hu with hu|hu
   ·exact(hnu u hu).1
   ·exact Qa0 hzn _ u hu
  ·rw[List.nil_append,Nat.zero_add,← hnl,List.take_left]
theorem grow_block {id s n0 n:Nat} {w0:World} {N:Nat} {M:Nat→Nat→Prop} {T:TypeId} {f:Nat→Qj} {sz m':Nat} {agg ag:Bool} {p0:Y9} {st:List (Nat×Y9)} (hI:InvB ⟨N,w0,M,fun _=>False⟩ V [] G Qf β a w) (hk:V[n0]?=some ⟨id,s,none,none,.grow n sz,T,m',ag,p0,st⟩) (hn:0<n) {k:Nat} (hg:G[k]?=some ⟨none,none,s,Qg sz agg n f⟩):
  ∃(b cap:Nat) (cur:List Value),sl a s=.slice (some ⟨b,0,none⟩) n cap∧w0.heap.size≤b∧w.heap[b]?=some (.cells cur.toArray T (0,0))∧cur.length=cap*sz∧n≤cap∧cap≤maxLen∧(∀v∈cur,Yr v)∧∀i,i<n→f i w (Q6 agg ((cur.drop (i*sz)).take sz)):=by
 have hx:=List.mem_of_getElem? hk
 rcases (Yu (m:=n) (sz:=sz) rfl).1 (hI.var _ hx rfl)with⟨_,h0,_⟩|⟨b,cap,cur,hB,hsv,hmine,hblk,hcl,hmc,hcm,hcu⟩
 ·omega
 ·refine⟨b,cap,cur,hsv,hmine.elim (fun h=>h) (fun h=>h.elim),hblk,hcl,hmc,hcm,hcu,fun i hi=>?_⟩
  obtain⟨A',cap',e,_,_,hel⟩:=(hI.ent _ (List.mem_of_getElem? hg) rfl rfl).out
  have e:sl a s=.slice A' n cap':=e
  rw[hsv]at e
  injection e with eA _ _
  obtain⟨b',o',eb,hel⟩:=hel hn
  rw[← eA]at eb
  injection eb with eb
  injection eb with e1 e2
  subst e1 e2
  obtain⟨cs,hl,hc,hf⟩:=hel i hi
  have hle:(i+1)*sz≤cap*sz:=Nat.mul_le_mul_right _ (by omega)
  rw[Nat.add_mul,Nat.one_mul]at hle
  have:(cur.drop (i*sz)).take sz=cs:=by
   refine W1 (w:=w) (b:=b) (o:=i*sz) (by rw[List.length_take,List.length_drop,hl,hcl]; omega) (fun j u hj=>?_) (fun j u hj=>by have:=hc j u hj; rwa [Nat.zero_add]at this)
   rw[List.getElem?_take]at hj
   split at hj
   ·rw[List.getElem?_drop]at hj
    simp only[World.cell?,hblk]
    simpa using hj
   ·cases hj
  rw[this]
  exact hf
variable {fn:Func}
theorem finRow {id s n0:Nat} {w0:World} {N:Nat} {M:Nat→Nat→Prop} {T:TypeId} {l:List Rat} {m':Nat} {ag:Bool} {p0:Y9} {st:List (Nat×Y9)} (hI:Inv ⟨N,w0,M,fun _=>False⟩ V [] G Qf a w) (hr:fn.results=#[.tmp s]) (hk:V[n0]?=some ⟨id,s,none,none,.grow l.length 3,T,m',ag,p0,st⟩) (hn:0<l.length) {k:Nat} (hg:G[k]?=some ⟨none,none,s,Qd l⟩):bodyPost P fn (RetRow l w0) .ret a w:=by
 obtain⟨β,hI⟩:=hI
 obtain⟨b,cap,cur,h1,h2,h3,h4,h5,h6,h7,h8⟩:=grow_block hI hk hn hg
 refine Ke hI (v:=sl a s) ?_ ⟨⟨b,l.length,cap⟩,by rw[h1]; rfl,hI.below.below (fun _ h=>h),h2,rfl,rfl,h5,h6,cur,T,h3,?_,h7,fun i it hi=>?_⟩
 ·rw[Jy,hr]
  simp[resRun,sl]
 ·show(Qw l cap).length*3≤cur.length
  rw[Vc,h4]
  exact Nat.mul_le_mul_right _ (by omega)
 ·have hi:(Qw l cap)[i]?=some it:=hi
  rcases Nat.lt_or_ge i l.length with hil|hil
  ·rw[X5 hil]at hi
   injection hi with hi
   subst hi
   exact h8 i hil
  ·rw[Qee hil hi]
   trivial
theorem own_box {M:Nat→Nat→Prop} {r:RowL} {l:List Rat} {v:Value} (hM:Mid M w) (h:Kn r l w v) (hn:∀o,¬M r.b o):Box M (fun w=>Kn r l w v) w:=fun _ he=>
 ⟨h.1,h.2.1,h.2.2.1,h.2.2.2.1,Bk.ok_keep h.2.2.2.2 hM he (he.block _ (Bk.ok_lt h.2.2.2.2) hn)⟩
theorem step_callRow {f:FuncId} {ts:Array TypeId} {ops:Array Oper} {l:List Rat} {p1:Qj} (hf:Y1 P f) (h:Inv c V [] G Qf a w) (h1:Has [0] G 0 x p1)
  (hc:∀(M:Nat→Nat→Prop) w v1,Mid M w→Box M (fun w=>p1 w v1) w→Calls P f #[v1] w (RetRow l w)) (hd':decide (d<c.N)=true) (hV:(V.all fun y=>(y.slot != d)&&(y.born.isNone&&y.dead.isNone))=true) (hG:(G.all fun e=>e.slot != d)=true):
  DoesG P ops ⟨some d,.call ⟨.value (.func f),#[x],ts⟩,ty,pos,aft,none⟩ a w (fun a' w'=>∃r:RowL,w.heap.size≤r.b∧Inv c V [] (⟨none,none,d,Kn r l⟩::G) Qf a' w'):=by
 obtain⟨β,hI⟩:=h
 refine .of rfl (Qas hf (Calls.mono (by
  rw[show(#[x]:Array Operand).map a.eval=#[a.eval x] by simp]
  exact hc _ w _ (X8 hI) (h1.spec hI det0)) ?_))
 rintro e w' ⟨r,rfl,hb,hrb,ho⟩
 refine⟨_,rfl,r,hrb,β,?_⟩
 have hV:∀y,y∈V→y.slot≠d∧live Qf y=true:=fun y hy=>by
  rw[List.all_eq_true]at hV
  have:=hV y hy
  simp only[Bool.and_eq_true,bne_iff_ne]at this
  refine⟨this.1,?_⟩
  unfold live
  cases hb:y.born with
  |some j=>rw[hb]at this; cases this.2.1
  |none=>cases hd:y.dead with
   |some j=>rw[hd]at this; cases this.2.2
   |none=>rfl
 have hG:∀e,e∈G→e.slot≠d:=fun e he=>by
  rw[List.all_eq_true]at hG
  simpa using hG e he
 have hd:=of_decide_eq_true hd'
 have e3:Ext (own c V Qf β) w w':=Ext.of_below hb
 have hmid:Mid (own c V Qf β) w':=by
  rintro k j hk
  obtain⟨h1,h2⟩:=X8 hI k j hk
  refine⟨Nat.lt_of_lt_of_le h1 hb.size,fun u hu=>h2 u ?_⟩
  rw[World.cell?_of_block (w:=w) (a:=⟨k,j,none⟩) (hb.block k h1)]at hu
  exact hu
 have sd:∀v s,s≠d→sl (a.put (some d) v) s=sl a s:=fun v s hs=>Zh fun e=>hs (Option.some.inj e).symm
 refine⟨by rw[Vb]; exact hI.size,by rw[Ks]; exact hI.defers,hI.below.trans (Lent.of_below hb),hI.old_of fun k hk hn=>hb.block k (Nat.lt_of_lt_of_le hk hI.below.size),fun y hy hl=>?_,hI.apart,(fun p hp=>by cases hp),fun e he ho' hf'=>?_⟩
 ·exact(hI.var y hy hl).keep (sd _ _ (hV y hy).1) rfl (fun g hg=>hb.block g (Y5 hI hy hl hg)) hb.size (fun F hF=>hF.ext e3) (fun F hF=>hF.ext (Ext.of_below hb)) rfl
 ·rcases List.mem_cons.1 he with rfl|he
  ·show Box _ (fun w=>Kn r l w (sl (a.put (some d) _) d)) w'
   rw[J6 (by rw[hI.size]; exact hd)]
   exact own_box hmid ho fun o hm=>by have:=own_lt hI hm; omega
  ·have:=hI.ent e he ho' hf'
   show Box _ (fun w=>e.p w (sl (a.put (some d) _) e.slot)) w'
   rw[sd _ _ (hG e he)]
   exact this.ext e3
theorem row_snoc {sz m:Nat} {agg:Bool} {f g f':Nat→Qj} (h1:∀i,i<m→∀w v,f i w v→f' i w v) (h2:∀w v,g 0 w v→f' m w v):∀w v,Qg sz agg (m+1) (fun j=>if j<m then f j else g (j-m)) w v→Qg sz agg (m+1) f' w v:=by
 rintro w v ⟨A',cap,e,k1,k2,k3⟩
 refine⟨A',cap,e,k1,k2,fun hp=>?_⟩
 obtain⟨b,o,e2,k4⟩:=k3 hp
 refine⟨b,o,e2,fun i hi=>?_⟩
 obtain⟨cs,k5,k6,k7⟩:=k4 i hi
 refine⟨cs,k5,k6,?_⟩
 split at k7
 ·rename_i h
  exact h1 i h w _ k7
 ·rename_i h
  have:i=m:=by omega
  subst this
  rw[Nat.sub_self]at k7
  exact h2 w _ k7
theorem row_snoc1 {sz m:Nat} {agg:Bool} {f f':Nat→Qj} {q:Qj} (h1:∀i,i<m→∀w v,f i w v→f' i w v) (h2:∀w v,q w v→f' m w v):∀w v,Qg sz agg (m+1) (fun j=>if j<m then f j else q) w v→Qg sz agg (m+1) f' w v:=row_snoc (g:=fun _=>q) h1 h2
theorem Ug {sz m m':Nat} {agg:Bool} {f f':Nat→Qj} (hm:m=m') (h1:∀i,i<m→∀w v,f i w v→f' i w v):∀w v,Qg sz agg m f w v→Qg sz agg m' f' w v:=by
 subst hm
 rintro w v ⟨A',cap,e,k1,k2,k3⟩
 refine⟨A',cap,e,k1,k2,fun hp=>?_⟩
 obtain⟨b,o,e2,k4⟩:=k3 hp
 refine⟨b,o,e2,fun i hi=>?_⟩
 obtain⟨cs,k5,k6,k7⟩:=k4 i hi
 exact⟨cs,k5,k6,h1 i hi w _ k7⟩
def Q0 (R:List RowL) (i:Nat):RowL:=R.getD i ⟨0,0,0⟩
theorem Kc {R:List RowL} {i:Nat} (h:i<R.length):R[i]?=some (Q0 R i):=by
 unfold Q0
 rw[List.getD_eq_getElem?_getD,List.getElem?_eq_getElem h]
 rfl
theorem rowAt_app {R:List RowL} {r:RowL} {i:Nat} (h:i<R.length):Q0 (R++[r]) i=Q0 R i:=by
 unfold Q0
 rw[List.getD_eq_getElem?_getD,List.getD_eq_getElem?_getD,List.getElem?_append_left h]
theorem rowAt_last {R:List RowL} {r:RowL}:Q0 (R++[r]) R.length=r:=by
 unfold Q0
 rw[List.getD_eq_getElem?_getD,List.getElem?_append_right (Nat.le_refl _),Nat.sub_self]
 rfl
theorem rows_lt {s k:Nat} {R:List RowL} {X:List (List Rat)} (hI:Inv c V [] G Qf a w) (hg:G[k]?=some ⟨none,none,s,Qg 1 false R.length (fun i=>Kn (Q0 R i) (X.getD i []))⟩):∀q,q∈R→q.b<w.heap.size:=by
 intro q hq
 obtain⟨β,hI⟩:=hI
 obtain⟨A',cap,e,_,_,k3⟩:=(hI.ent _ (List.mem_of_getElem? hg) rfl rfl).out
 obtain⟨i,hi⟩:=List.mem_iff_getElem?.1 hq
 have hil:i<R.length:=by
  rcases Nat.lt_or_ge i R.length with h|h
  ·exact h
  ·rw[List.getElem?_eq_none h]at hi; cases hi
 obtain⟨b,o,_,k4⟩:=k3 (by omega)
 obtain⟨cs,_,_,k5⟩:=k4 i hil
 rw[Kc hil]at hi
 injection hi with hi
 subst hi
 exact Bk.ok_lt k5.2.2.2.2
def matH (g:Nat) (R:List RowL) (X:List (List Rat)):List Bk:=⟨g,1,false,Y7 R⟩::(List.range R.length).map fun i=>⟨(Q0 R i).b,3,true,Qw (X.getD i []) (Q0 R i).cap⟩
abbrev MatC (X:List (List Rat)) (l:MatL):Prop:=MatOk l.g l.cap l.R X l.H
theorem finCopied {id s n0 k:Nat} {w0:World} {N:Nat} {M:Nat→Nat→Prop} {T:TypeId} {X:List (List Rat)} {R:List RowL} {m':Nat} {agg:Bool} {p0:Y9} {st:List (Nat×Y9)} (hI:Inv ⟨N,w0,M,fun _=>False⟩ V [] G Qf a w) (hr:fn.results=#[.tmp s]) (hk:V[n0]?=some ⟨id,s,none,none,.grow R.length 1,T,m',agg,p0,st⟩)
  (hn:0<X.length) (hX:∀i,i<X.length→0<(X.getD i []).length) (hR:R.length=X.length) (hap:R.Pairwise fun x y=>x.b≠y.b) (hold:∀r,r∈R→w0.heap.size≤r.b) (hg:G[k]?=some ⟨none,none,s,Qg 1 false R.length (fun i=>Kn (Q0 R i) (X.getD i []))⟩):
  bodyPost P fn (RetO (MatC X) (MatL.hd X.length) (fun l=>l.H) w0) .ret a w:=by
 obtain⟨β,hI⟩:=hI
 obtain⟨b,cap,cur,h1,h2,h3,h4,h5,h6,h7,h8⟩:∃(b cap:Nat) (cur:List Value),sl a s=.slice (some ⟨b,0,none⟩) R.length cap∧w0.heap.size≤b∧w.heap[b]?=some (.cells cur.toArray T (0,0))∧cur.length=cap*1∧R.length≤cap∧cap≤maxLen∧(∀v∈cur,Yr v)∧∀i,i<R.length→Kn (Q0 R i) (X.getD i []) w (Q6 false ((cur.drop (i*1)).take 1)):=by
  have hx:=List.mem_of_getElem? hk
  rcases (Yu (m:=R.length) (sz:=1) rfl).1 (hI.var _ hx rfl)with⟨_,h0,_⟩|⟨b,cap,cur,hB,hsv,hmine,hblk,hcl,hmc,hcm,hcu⟩
  ·omega
  ·refine⟨b,cap,cur,hsv,hmine.elim (fun h=>h) (fun h=>h.elim),hblk,hcl,hmc,hcm,hcu,fun i hi=>?_⟩
   obtain⟨A',cap',e,_,_,hel⟩:=(hI.ent _ (List.mem_of_getElem? hg) rfl rfl).out
   have e:sl a s=.slice A' R.length cap':=e
   rw[hsv]at e
   injection e with eA _ _
   obtain⟨b',o',eb,hel⟩:=hel (by omega)
   rw[← eA]at eb
   injection eb with eb
   injection eb with e1 e2
   subst e1 e2
   obtain⟨cs,hl,hc,hf⟩:=hel i hi
   have:(cur.drop (i*1)).take 1=cs:=by
    refine W1 (w:=w) (b:=b) (o:=i*1) (by rw[List.length_take,List.length_drop,hl,hcl]; omega) (fun j u hj=>?_) (fun j u hj=>by have:=hc j u hj; rwa [Nat.zero_add]at this)
    rw[List.getElem?_take]at hj
    split at hj
    ·rw[List.getElem?_drop]at hj
     simp only[World.cell?,hblk]
     simpa using hj
    ·cases hj
   rw[this]
   exact hf
 have get:∀{i:Nat} {r:RowL},R[i]?=some r→i<R.length∧r=Q0 R i:=fun {i r} h=>by
  have hil:i<R.length:=by
   rcases Nat.lt_or_ge i R.length with h'|h'
   ·exact h'
   ·rw[List.getElem?_eq_none h']at h; cases h
  rw[Kc hil]at h
  exact⟨hil,(Option.some.inj h).symm⟩
 have hne:∀i,i<R.length→b≠(Q0 R i).b:=by
  intro i hi e
  have k1:=(h8 0 (by omega)).1
  obtain⟨_,_,_,_,cs,T',k2,k3,_,k4⟩:=h8 i hi
  have k2:w.heap[(Q0 R i).b]?=some (.cells cs.toArray T' (0,0)):=k2
  rw[← e,h3]at k2
  injection k2 with k2
  injection k2 with k2 _ _
  have k2:cur=cs:=by simpa using k2
  subst k2
  have hl:=hX i (by omega)
  obtain⟨vn,vd,k5,_⟩:=k4 0 _ (X5 hl)
  have k5:(.agg ((cur.drop (0*3)).take 3).toArray:Value)=_:=k5
  have k3:(Qw (X.getD i []) (Q0 R i).cap).length*3≤cur.length:=k3
  rw[Vc]at k3
  cases cur with
  |nil=>exact absurd (show max (X.getD i []).length (Q0 R i).cap*3≤0 from k3) (by omega)
  |cons c0 cur=>
   have k1:c0=(Q0 R 0).hdr:=k1
   injection k5 with k5
   have k5:=congrArg (fun z=>z.toList.head?) k5
   simp at k5
   rw[k1]at k5
   cases k5
 refine Ke hI (v:=sl a s) ?_ ⟨⟨b,cap,R,matH b R X⟩,fun k=>k=b∨∃i,i<R.length∧(Q0 R i).b=k,⟨?_,fun i r hr=>?_,hR,fun i r hr=>?_,fun i j r q hr hq hne'=>?_,fun r hr=>?_,h5,h6⟩,?_,hI.below.below (fun _ h=>h),?_,?_⟩
 ·rw[Jy,hr]
  simp[resRun,sl]
 ·exact List.mem_cons_self ..
 ·obtain⟨hi,rfl⟩:=get hr
  exact List.mem_cons_of_mem _ (List.mem_map.2 ⟨i,List.mem_range.2 hi,rfl⟩)
 ·obtain⟨hi,rfl⟩:=get hr
  have:=h8 i hi
  exact⟨this.2.1,this.2.2.1,this.2.2.2.1⟩
 ·have hpw:=List.pairwise_iff_getElem.1 hap
  obtain⟨hi,_⟩:=get hr
  obtain⟨hj,_⟩:=get hq
  rw[List.getElem?_eq_getElem hi]at hr
  rw[List.getElem?_eq_getElem hj]at hq
  injection hr with hr
  injection hq with hq
  subst hr hq
  rcases Nat.lt_or_ge i j with h|h
  ·exact hpw i j hi hj h
  ·exact Ne.symm (hpw j i hj hi (by omega))
 ·obtain⟨i,hi⟩:=List.mem_iff_getElem?.1 hr
  have hi:R[i]?=some r:=hi
  obtain⟨hil,rfl⟩:=get hi
  exact Ne.symm (hne i hil)
 ·rw[h1,hR]
  rfl
 ·rintro k (rfl|⟨i,hi,rfl⟩)
  ·exact h2
  ·exact hold _ (List.mem_of_getElem? (Kc hi))
 ·refine⟨fun k=>⟨?_,?_⟩,?_,fun e he=>?_⟩
  ·rintro(rfl|⟨i,hi,rfl⟩)
   ·exact⟨_,List.mem_cons_self ..,rfl⟩
   ·exact⟨_,List.mem_cons_of_mem _ (List.mem_map.2 ⟨i,List.mem_range.2 hi,rfl⟩),rfl⟩
  ·rintro⟨e,he,rfl⟩
   rcases List.mem_cons.1 he with rfl|he
   ·exact .inl rfl
   ·obtain⟨i,hi,rfl⟩:=List.mem_map.1 he
    exact .inr ⟨i,List.mem_range.1 hi,rfl⟩
  ·refine List.pairwise_cons.2 ⟨fun e he=>?_,List.pairwise_map.2 (List.pairwise_lt_range.imp_of_mem fun {i j} hi hj hij=>?_)⟩
   ·obtain⟨i,hi,rfl⟩:=List.mem_map.1 he
    exact hne i (List.mem_range.1 hi)
   ·have hi:=List.mem_range.1 hi
    have hj:=List.mem_range.1 hj
    have:=List.pairwise_iff_getElem.1 hap i j hi hj hij
    have e1:=Kc hi
    have e2:=Kc hj
    rw[List.getElem?_eq_getElem hi]at e1
    rw[List.getElem?_eq_getElem hj]at e2
    injection e1 with e1
    injection e2 with e2
    show(Q0 R i).b≠(Q0 R j).b
    rw[← e1,← e2]
    exact this
  ·rcases List.mem_cons.1 he with rfl|he
   ·refine⟨cur,T,h3,?_,h7,fun i it hi=>?_⟩
    ·show(Y7 R).length*1≤cur.length
     rw[Qbx,h4]
     omega
    ·have hi:(Y7 R)[i]?=some it:=hi
     have hil:i<R.length:=by
      rcases Nat.lt_or_ge i R.length with h'|h'
      ·exact h'
      ·rw[List.getElem?_eq_none (by rw[Qbx]; exact h')]at hi; cases hi
     rw[Ju (Kc hil)]at hi
     injection hi with hi
     subst hi
     exact(h8 i hil).1
   ·obtain⟨i,hi,rfl⟩:=List.mem_map.1 he
    exact(h8 i (List.mem_range.1 hi)).2.2.2.2
theorem Jz {f:FuncId} {C0:Code} {vs:List Value} {M:Nat→Nat→Prop} {R:World→Ending→World→Prop} {N:Nat} (hf:P.funcs[f]?=some fn) (hb:fn.body=some C0) (hN:fn.ntmps=N) (hlen:decide (vs.length≤N)=true) (hM:Mid M w) (hG:EntsA M w vs G)
  (h:∀a,Inv ⟨N,w,M,fun _=>False⟩ [] [] G Qf a w→C0.wp P (bodyPost P fn (R w)) a w):Calls P f vs.toArray w (R w):=
 calls_of_wp hf hb (h _ (inv_start hM (by have:=of_decide_eq_true hlen; simp[hN]; omega) rfl hG.ok))
theorem Inv.grown (h:Inv c V A G Qf a w):c.w0.heap.size≤w.heap.size:=by
 obtain⟨β,h⟩:=h
 exact h.below.size
theorem copied_snoc {R:List RowL} {l:RowL} {X:List (List Rat)}:∀w v,Qg 1 false (R.length+1) (fun j=>if j<R.length then Kn (Q0 R j) (X.getD j [])else Kn l (X.getD R.length [])) w v→Qg 1 false (R++[l]).length (fun i=>Kn (Q0 (R++[l]) i) (X.getD i [])) w v:=fun w v h=>
 Ug (m:=R.length+1) (by simp) (fun i _ _ _ k=>k) w v (row_snoc (g:=fun _=>Kn l (X.getD R.length [])) (f':=fun i=>Kn (Q0 (R++[l]) i) (X.getD i [])) (fun i hi w v k=>by rw[rowAt_app hi]; exact k) (fun w v k=>by rw[rowAt_last]; exact k) w v h)
theorem pairwise_snoc {R:List RowL} {l:RowL} (h:R.Pairwise fun x y=>x.b≠y.b) (hl:∀q,q∈R→q.b≠l.b):(R++[l]).Pairwise fun x y=>x.b≠y.b:=by
 rw[List.pairwise_append]
 exact⟨h,List.pairwise_singleton _ _,fun a ha b hb=>by rw[List.mem_singleton.1 hb]; exact hl a ha⟩
end
end Wx
