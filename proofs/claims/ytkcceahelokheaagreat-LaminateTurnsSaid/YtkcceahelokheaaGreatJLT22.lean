import Derived.Test.YtkcceahelokheaaGreatJLT21
import Derived.Test.YtkcceahelokheaaGreatJLT20
namespace Wx
open Go Go.RowKit
def ZA:Value->Bool
 |.int .u64 _=>false
 |.int .u32 _=>false
 |_=>true
theorem Mt {v:Value} (h:ZA v=true):iw v:=by
 intro n
 refine⟨?_,?_⟩<;>intro e<;>rw[e]at h<;>cases h
def CP (P:Program) (T tx E:TypeId) (sz:Nat):Bool:=
 (match P.underlying T with|some (.slice E')=>E'==E|_=>false)&&(match P.underlying tx with|some (.slice _)=>true|_=>false) &&
 (match P.info? E with
  |some ti=>(ti.size==sz&&decide (ti.bytes<=4096))&&(match ti.zero with|some zv=>zv.cells.size==sz&&zv.cells.toList.all ZA|none=>false)
  |none=>false)
theorem jt {P:Program} {T tx E:TypeId} {sz:Nat} (h:CP P T tx E sz=true):tW P T tx E sz:=by
 unfold CP at h
 simp only[Bool.and_eq_true]at h
 obtain⟨⟨h1,h2⟩,h3⟩:=h
 refine⟨?_,?_,?_⟩
 ·split at h1
  ·rename_i E' he
   rw[he,eq_of_beq h1]
  ·cases h1
 ·split at h2
  ·rename_i E' he
   exact⟨E',he⟩
  ·cases h2
 ·split at h3
  ·rename_i ti he
   simp only[Bool.and_eq_true]at h3
   obtain⟨⟨h4,h5⟩,h6⟩:=h3
   split at h6
   ·rename_i zv hz
    simp only[Bool.and_eq_true,List.all_eq_true]at h6
    exact⟨ti,zv,he,eq_of_beq h4,hz,eq_of_beq h6.1,λu hu=>Mt (h6.2 u hu),of_decide_eq_true h5⟩
   ·cases h6
  ·cases h3
def wI:Pred:=λ_ v=>∃A,v=.slice A 0 0
def ni (r:ct) (l:List Rat):Pred:=λw v=>v=r.hdr/\r.n=l.length/\r.n<=r.cap/\r.cap<=maxLen/\(⟨r.b,3,true,bq l r.cap⟩:Bk).ok w
theorem zg (r:ct) (l:List Rat):Fits 1 false (ni r l):=by
 rintro w v ⟨rfl,_⟩
 exact⟨[_],rfl,rfl,rfl,λu hu=>by simp at hu; subst hu; exact⟨ee _ _ _,rfl⟩⟩
def CI (l:List Rat) (w:World) (e:Ending) (w':World):Prop:=∃r:ct,e=.returned r.hdr/\Below w.heap.size w w'/\w.heap.size<=r.b/\ni r l w' r.hdr
section
variable {P:Program} {ops:Array Oper} {ms:List Nat} {c:fT} {V:List Vr} {A:List Al} {G:List bz} {i:Nat} {L:Nat->Bool} {β:Nat->Nat->Prop} {a:Act} {w:World} {o:Oper}{d:Nat} {x y z:Operand} {ty:TypeId} {pos:String} {aft:Array Edge}{T E:TypeId} {sz n:Nat} {agg:Bool} {f:Nat->Pred}
theorem Cc {T':TypeId} (h:Has ms G i x (aA sz agg n f)) (hn:0<n) (ht:P.underlying T=some (.slice E)) (hp:Post G i (pB false)):
  OpOk P ops ms c V A G i ⟨some d,.binOp .eql T x (.const (.slice none 0 0)) T',ty,pos,aft,none⟩:=
 cC rfl rfl rfl (.inl rfl) hp λL β a w hI hd=>⟨.bool false,w,by
  obtain⟨A',cap,e,_,_,k⟩:=(h.spec hI hd).out
  obtain⟨b,o,rfl,_⟩:=k hn
  show(do pure (Next.value (<-(do eqGuard .eql T x (.const (.slice none 0 0)) (a.eval x) (.slice none 0 0); Go.binOp .eql T (a.eval x) (.slice none 0 0))))).run P w=_
  rw[e]
  have hgd:eqGuard .eql T x (.const (.slice none 0 0)) (.slice (some ⟨b,o,none⟩) n cap) (.slice none 0 0)=pure ():=by unfold eqGuard; rfl
  have Ve:Go.binOp .eql T (.slice (some ⟨b,o,none⟩) n cap) (.slice none 0 0)=(do pure (.bool (<-Op.equal T (.slice (some ⟨b,o,none⟩) n cap) (.slice none 0 0)))):=rfl
  rw[hgd,Ve]
  have he:(Op.equal T (.slice (some ⟨b,o,none⟩) n cap) (.slice none 0 0)).run P w=.ok false w:=by
   show(Op.equalIn (9999+1) T _ _).run P w=_
   rw[Op.equalIn,Sem.run_bind,run_underlying ht]
   rfl
  simp only[pure_bind,Sem.run_bind,he,Result.andThen_ok,Sem.run_pure],Below.refl _ _,λ_ _=>rfl⟩
theorem qY (ht:mV P T E sz) (hp:Post G i wI):OpOk P ops ms c V A G i ⟨some d,.buildSlice T 0 #[],ty,pos,aft,none⟩:=
 cC rfl rfl rfl (.inl rfl) hp λL β a w hI hd=>by
  refine⟨.slice (some ⟨w.heap.size,0,none⟩) 0 0,w.alloc (.cells #[] E),?_,Below.alloc (Below.refl _ _) (Nat.le_refl _) _,λw' _=>⟨_,rfl⟩⟩
  show(do pure (Next.value (<-Instr.buildSlice T 0 ((#[]:Array (Nat×Operand)).map λ(i,x)=>(i,a.eval x))))).run P w=_
  have hu:(underlying T).run P w=.ok (.slice E) w:=run_underlying ht.under w
  have hrun:(Instr.buildSlice T 0 ((#[]:Array (Nat×Operand)).map λ(i,x)=>(i,a.eval x))).run P w=.ok (.slice (some ⟨w.heap.size,0,none⟩) 0 0) (w.alloc (.cells #[] E)):=by
   simp only[Instr.buildSlice,Sem.run_bind,hu,Result.andThen_ok,ht.size,Nat.zero_mul]
   rw[if_neg (by omega),if_pos trivial]
   have e:Array.map (λx=>(#[]:Array Value)[x%(#[]:Array Value).size]!) (Array.range 0)=#[]:=by simp
   have e2:(Array.map (λx:Nat×Operand=>(x.fst,a.eval x.snd)) #[]).toList=[]:=by simp
   simp only[pure_bind,e,e2,Instr.fill]
   rfl
  rw[Sem.run_bind,hrun]
  rfl
variable {p:Pred}
theorem gJ {z:List Value} {zv:Value} (ht:mV P T E sz) (Dq:∀w,(zeroValue E).run P w=.ok zv w) (zB:zv.cells=z.toArray) (we:z.length=sz) (hsz:0<sz/\sz<=16777216) (h1:Has ms G i x p) (hf:Fits sz agg p) (hp:Post G i (aA sz agg 1 λ_=>p)):
  OpOk P ops ms c V A G i ⟨some d,.buildSlice T 1 #[(0,x)],ty,pos,aft,none⟩:=
 iF (fs:=[⟨agg,sz,cY⟩]) (ps:=[(0,p)]) (gs:=[⟨agg,sz,p⟩]) ht Dq zB rfl (decide_eq_true ⟨hsz.1,Nat.one_pos,by omega⟩) (λ_=>trivial) we (show dy ms G i [⟨agg,sz,cY⟩] [(0,x)] [(0,p)]from⟨⟨rfl,h1,_,rfl,hf⟩,trivial⟩) rfl (λ_=>p) (λk f h=>by cases k with
  |zero=>simp at h; rw[<-h]
  |succ k=>simp at h) hp
theorem uu:Fits 1 false (aA sz agg n f):=by
 rintro w v ⟨A,c,rfl,_⟩
 exact⟨[_],rfl,rfl,rfl,λu hu=>by simp at hu; subst hu; exact⟨ee _ _ _,rfl⟩⟩
theorem Mz {f:FuncId} {ts:Array TypeId} {v2:Vr} {g:Nat} {cf:FuncId} {p0 q:Pred} (hf:aR P f) (k2:Nat) (hk2:V[k2]?=some v2) (RP:bE ms i v2=true) (cW:v2.kd=.ptr) (VE:(v2.st.all λq=>(ms.getD i 0).testBit q.1||(ms.getD q.1 0).testBit i)=true) (hc2:cont (λj=>(ms.getD i 0).testBit j) v2.c0 v2.st=pv q)
  (hg:Has ms G i (.tmp v2.slot) (bg (.pointer (some ⟨g,0,none⟩)))) (h1:Has ms G i x p0) (h2:Has ms G i y (bg (.func (.func cf) #[] #[.pointer (some ⟨g,0,none⟩)]))) (hn:aK p) (hp:Post G i p)
  (hc:∀(M:Nat->Nat->Prop) (w:World) (u1 u2:Value),cL M w->aO M (λw=>p0 w u1) w->aO M (λw=>tE cf v2.n v2.agg q w u2) w->Calls P f #[u1,u2] w (bH M p w)):
  OpOk P ops ms c V A G i ⟨some d,.call ⟨.value (.func f),#[x,y],ts⟩,ty,pos,aft,none⟩:=
 jG hf hp λL β a w hI hd=>(by
  rw[show(#[x,y]:Array Operand).map a.eval=#[a.eval x,a.eval y] by simp]
  obtain⟨g',zw,hs',hv⟩:=nK hI hd (List.mem_of_getElem? hk2) RP cW
  have e1:sl a v2.slot=.pointer (some ⟨g,0,none⟩):=(hg.spec hI hd).out
  rw[hs']at e1
  injection e1 with e1
  injection e1 with e1
  injection e1 with e1
  subst e1
  obtain⟨cs,j1,j2,j3,j4⟩:=hv.held
  rw[uj hd VE,hc2]at j4
  have j4:aO (own c V L β) (λw=>q w (aj v2.agg cs)) w:=j4
  have hy:a.eval y=.func (.func cf) #[] #[.pointer (some ⟨g',0,none⟩)]:=(h2.spec hI hd).out
  let M:=minus (own c V L β) λk=>k=g'
  have hM:cL M w:=λk o hk=>aS hI k o hk.1
  have hsub:∀{w'},Ext M w w'->Ext (own c V L β) w w':=λhe=>he.mono' λk o hk=>hk.1
  refine(hc M w _ _ hM (λw' he=>h1.spec hI hd w' (hsub he)) (λw' he=>?_)).mono λe w' VC=>?_
  ·refine⟨.pointer (some ⟨g',0,none⟩),hy,g',0,cs,rfl,j2,λj u hj=>?_,j4 w' (hsub he)⟩
   rw[Nat.zero_add]
   refine he.cell g' j u (λho=>ho.2 rfl) ?_
   simp only[World.cell?,j1]
   simpa using hj
  ·obtain⟨v,rfl,eI,hv2⟩:=VC
   exact⟨v,rfl,hn _ w' v ((aS hI).below hv2) eI.out,hv2⟩)
theorem tB {tx:TypeId} {g:Nat->Pred} {yv:Vr} (k2:Nat) (hk2:V[k2]?=some yv) (hb:yv.born=some i) (cW:yv.kd=.grow n sz)
  (TG:yv.T=E) (dX:(A.all λp=>p.var != yv.id||p.tag.any λj=>(ms.getD j 0).testBit i)=true)
  (h1:Has ms G i x wI) (h2:Has ms G i y (aA sz agg n g)) (ht:tW P T tx E sz) (hagg:agg=false->sz=1) (hg:∀i,i<n->Fits sz agg (g i)) (hn:0<n) (hmax:n<=1073741824)
  (hp:Post G i (aA sz agg n g)):
  OpOk P ops ms c V A G i ⟨some d,.call ⟨.builtin .append,#[x,y],#[T,tx]⟩,ty,pos,aft,none⟩:=by
 refine gI (λL β a w hI hd hwf=>?_) rfl
 have hy:=List.mem_of_getElem? hk2
 obtain⟨A1,QW⟩:=(h1.spec hI hd).out
 obtain⟨A2,yS,news,Rs,Nz,hc2,ql,uy,hnc,Ej⟩:=mO hagg hg (h2.spec hI hd)
 obtain⟨E',RQ⟩:=ht.src
 obtain⟨ti,zv,hi,hsz,hz,hzs,RT,hby⟩:=ht.info
 subst hsz
 have hS:Src P ti.size tx (a.eval y) n news w:=by
  rw[Rs]
  exact Am RQ ql (λu hu=>(uy u hu).2) λh=>by
   obtain⟨b,o,e,hc⟩:=hnc h
   exact⟨b,o,e,λj u hj=>(hc j u hj).1⟩
 have hold:(Builtin.firstCells ti.size 0 (.slice A1 0 0)).run P w.drew=.ok ([]:List Value).toArray w.drew:=by
  cases A1 with
  |none=>exact run_firstCells_none w.drew ti.size 0 0 0
  |some p=>exact run_firstCells_some w.drew ti.size 0 p 0 0 [] (by simp) λj u hj=>by simp at hj
 have hrun:=run_append_grow_src (P:=P) w T tx ty E ti zv ht.under hi hz A1 0 0 ([]:List Value) hold (a.eval y) n news hS (by omega) (by omega) (growslice_fits (by omega) (by
   have:(0+n)*ti.bytes<=1073741824*4096:=Nat.mul_le_mul (by omega) hby
   omega))
 have hge:=grownCap_ge w (0+n) 0 E
 have hb0:Below w.heap.size w (w.drew.alloc (.cells (news++(Builtin.zeroCells zv.cells (grownCap w (0+n) 0 E-(0+n))).toList).toArray E)):=Below.alloc (Below.drew (Below.refl _ _)) (Nat.le_refl _) _
 refine fD (v:=.slice (some ⟨w.heap.size,0,none⟩) (0+n) (grownCap w (0+n) 0 E)) (w':=w.drew.alloc (.cells (news++(Builtin.zeroCells zv.cells (grownCap w (0+n) 0 E-(0+n))).toList).toArray E)) ?_ ?_
 ·rw[QW,hrun]
  congr 3
  apply Array.ext'
  simp
 ·refine hI.appended hd hwf (E:=E) (f:=λ_ _ _=>True) (g:=g) (agg:=agg) (olds:=[]) (m:=0) hy hb (by rw[Nat.zero_add]; exact cW) TG rfl rfl dX (by simp) ql (λi hi=>by omega) Ej (by simpa using hp) (heap_alloc_new w.drew _) ?_ hge (grownCap_le_maxLen w (0+n) 0 E (by unfold maxLen; omega)) ?_ ?_ (.inl hI.below.size) ⟨hb0.os,hb0.tape,hb0.output,hb0.size⟩ (λk hk _=>hb0.block k (Nat.lt_of_lt_of_le hk hI.below.size))
   (λz hz hl _ k hk=>⟨hb0.block k (cG hI hz hl hk),λe=>absurd e (Nat.ne_of_lt (cG hI hz hl hk))⟩) (Ext.bC hb0) (λz hz hl _=>Ext.bC hb0) (λj hj=>absurd hj (Nat.lt_irrefl _))
  ·rw[List.length_append,ql,Array.length_toList,size_zeroCells,hzs,<-Nat.add_mul]
   congr 1; omega
  ·intro u hu
   rcases List.mem_append.1 hu with hu|hu
   ·exact(uy u hu).1
   ·exact iz RT _ u hu
  ·rw[List.nil_append,Nat.zero_add,<-ql,List.take_left]
theorem zn {id s n0:Nat} {w0:World} {N:Nat} {M:Nat->Nat->Prop} {m':Nat} {ag:Bool} {p0:Rel} {st:List (Nat×Rel)} (hI:bu ⟨N,w0,M,λ_=>False⟩ V [] G none_ β a w) (hk:V[n0]?=some ⟨id,s,none,none,.grow n sz,T,m',ag,p0,st⟩) (hn:0<n) {k:Nat} (hg:G[k]?=some ⟨none,none,s,aA sz agg n f⟩):
  ∃(b cap:Nat) (cur:List Value),sl a s=.slice (some ⟨b,0,none⟩) n cap/\w0.heap.size<=b/\w.heap[b]?=some (.cells cur.toArray T (0,0))/\cur.length=cap*sz/\n<=cap/\cap<=maxLen/\(∀v∈cur,iw v)/\∀i,i<n->f i w (aj agg ((cur.drop (i*sz)).take sz)):=by
 have hx:=List.mem_of_getElem? hk
 rcases (bT (m:=n) (sz:=sz) rfl).1 (hI.var _ hx rfl)with⟨_,h0,_⟩|⟨b,cap,cur,hB,BV,fF,jq,qo,Vp,hcm,yg⟩
 ·omega
 ·refine⟨b,cap,cur,BV,fF.elim (λh=>h) (λh=>h.elim),jq,qo,Vp,hcm,yg,λi hi=>?_⟩
  obtain⟨A',cap',e,_,_,hel⟩:=(hI.jM _ (List.mem_of_getElem? hg) rfl rfl).out
  have e:sl a s=.slice A' n cap':=e
  rw[BV]at e
  injection e with eA _ _
  obtain⟨b',o',eb,hel⟩:=hel hn
  rw[<-eA]at eb
  injection eb with eb
  injection eb with e1 e2
  subst e1 e2
  obtain⟨cs,hl,hc,hf⟩:=hel i hi
  have hle:(i+1)*sz<=cap*sz:=Nat.mul_le_mul_right _ (by omega)
  rw[Nat.add_mul,Nat.one_mul]at hle
  have:(cur.drop (i*sz)).take sz=cs:=by
   refine lK (w:=w) (b:=b) (o:=i*sz) (by rw[List.length_take,List.length_drop,hl,qo]; omega) (λj u hj=>?_) (λj u hj=>by have:=hc j u hj; rwa [Nat.zero_add]at this)
   rw[List.getElem?_take]at hj
   split at hj
   ·rw[List.getElem?_drop]at hj
    simp only[World.cell?,jq]
    simpa using hj
   ·cases hj
  rw[this]
  exact hf
variable {fn:Func}{id s n0:Nat} {w0:World} {N:Nat} {M:Nat->Nat->Prop} {T:TypeId} {l:List Rat} {m':Nat} {p0:Rel} {st:List (Nat×Rel)}
theorem U5 {ag:Bool} (hI:Inv ⟨N,w0,M,λ_=>False⟩ V [] G none_ a w) (hr:fn.results=#[.tmp s]) (hk:V[n0]?=some ⟨id,s,none,none,.grow l.length 3,T,m',ag,p0,st⟩) (hn:0<l.length) {k:Nat} (hg:G[k]?=some ⟨none,none,s,aD l⟩):bodyPost P fn (CI l w0) .ret a w:=by
 obtain⟨β,hI⟩:=hI
 obtain⟨b,cap,cur,h1,h2,h3,h4,h5,h6,h7,h8⟩:=zn hI hk hn hg
 refine iM hI (v:=sl a s) ?_ ⟨⟨b,l.length,cap⟩,by rw[h1]; rfl,hI.below.below (λ_ h=>h),h2,rfl,rfl,h5,h6,cur,T,h3,?_,h7,λi it hi=>?_⟩
 ·rw[eD,hr]
  simp[wR,sl]
 ·show(bq l cap).length*3<=cur.length
  rw[kD,h4]
  exact Nat.mul_le_mul_right _ (by omega)
 ·have hi:(bq l cap)[i]?=some it:=hi
  rcases Nat.lt_or_ge i l.length with nZ|nZ
  ·rw[fq nZ]at hi
   injection hi with hi
   subst hi
   exact h8 i nZ
  ·rw[Cm nZ hi]
   trivial
variable {r:ct}
theorem Sy {v:Value} (hM:cL M w) (h:ni r l w v) (hn:∀o,¬M r.b o):aO M (λw=>ni r l w v) w:=λ_ he=>
 ⟨h.1,h.2.1,h.2.2.1,h.2.2.2.1,Bk.yy h.2.2.2.2 hM he (he.block _ (Bk.uQ h.2.2.2.2) hn)⟩
theorem D5 {f:FuncId} {ts:Array TypeId} {ops:Array Oper} {p1:Pred} (hf:aR P f) (h:Inv c V [] G none_ a w) (h1:Has [0] G 0 x p1)
  (hc:∀(M:Nat->Nat->Prop) w v1,cL M w->aO M (λw=>p1 w v1) w->Calls P f #[v1] w (CI l w)) (hd':decide (d<c.N)=true) (hV:(V.all λy=>(y.slot != d)&&(y.born.isNone&&y.dead.isNone))=true) (hG:(G.all λe=>e.slot != d)=true):
  bV P ops ⟨some d,.call ⟨.value (.func f),#[x],ts⟩,ty,pos,aft,none⟩ a w (λa' w'=>∃r:ct,w.heap.size<=r.b/\Inv c V [] (⟨none,none,d,ni r l⟩::G) none_ a' w'):=by
 obtain⟨β,hI⟩:=h
 refine .of rfl (jX hf (Calls.mono (by
  rw[show(#[x]:Array Operand).map a.eval=#[a.eval x] by simp]
  exact hc _ w _ (aS hI) (h1.spec hI oG)) ?_))
 rintro e w' ⟨r,rfl,hb,hrb,ho⟩
 refine⟨_,rfl,r,hrb,β,?_⟩
 have hV:∀y,y∈V->y.slot≠d/\live none_ y=true:=λy hy=>by
  rw[List.all_eq_true]at hV
  have:=hV y hy
  simp only[Bool.and_eq_true,bne_iff_ne]at this
  refine⟨this.1,?_⟩
  unfold live
  cases hb:y.born with
  |some j=>rw[hb]at this; cases this.2.1
  |none=>cases hd:y.dead with
   |some j=>rw[hd]at this; cases this.2.2
   |none=>rfl
 have hG:∀e,e∈G->e.slot≠d:=λe he=>by
  rw[List.all_eq_true]at hG
  simpa using hG e he
 have hd:=of_decide_eq_true hd'
 have e3:Ext (own c V none_ β) w w':=Ext.bC hb
 have ki:cL (own c V none_ β) w':=by
  rintro k j hk
  obtain⟨h1,h2⟩:=aS hI k j hk
  refine⟨Nat.lt_of_lt_of_le h1 hb.size,λu hu=>h2 u ?_⟩
  rw[World.cell?_of_block (w:=w) (a:=⟨k,j,none⟩) (hb.block k h1)]at hu
  exact hu
 have sd:∀v s,s≠d->sl (a.put (some d) v) s=sl a s:=λv s hs=>cz λe=>hs (Option.some.inj e).symm
 refine⟨by rw[iH]; exact hI.size,by rw[put_defers]; exact hI.defers,hI.below.trans (dN.bC hb),hI.oa λk hk hn=>hb.block k (Nat.lt_of_lt_of_le hk hI.below.size),λy hy hl=>?_,hI.apart,(λp hp=>by cases hp),λe he yl hf'=>?_⟩
 ·exact(hI.var y hy hl).keep (sd _ _ (hV y hy).1) rfl (λg hg=>hb.block g (cG hI hy hl hg)) hb.size (λF hF=>hF.ext e3) (λF hF=>hF.ext (Ext.bC hb)) rfl
 ·rcases List.mem_cons.1 he with rfl|he
  ·show aO _ (λw=>ni r l w (sl (a.put (some d) _) d)) w'
   rw[fO (by rw[hI.size]; exact hd)]
   exact Sy ki ho λo hm=>by have:=tC hI hm; omega
  ·have:=hI.jM e he yl hf'
   show aO _ (λw=>e.p w (sl (a.put (some d) _) e.slot)) w'
   rw[sd _ _ (hG e he)]
   exact this.ext e3
variable {f:Nat->Pred} {sz m:Nat} {agg:Bool} {f':Nat->Pred}
theorem Ga {g:Nat->Pred} (h1:∀i,i<m->∀w v,f i w v->f' i w v) (h2:∀w v,g 0 w v->f' m w v):∀w v,aA sz agg (m+1) (λj=>if j<m then f j else g (j-m)) w v->aA sz agg (m+1) f' w v:=by
 rintro w v ⟨A',cap,e,k1,k2,k3⟩
 refine⟨A',cap,e,k1,k2,λhp=>?_⟩
 obtain⟨b,o,e2,k4⟩:=k3 hp
 refine⟨b,o,e2,λi hi=>?_⟩
 obtain⟨cs,k5,k6,k7⟩:=k4 i hi
 refine⟨cs,k5,k6,?_⟩
 split at k7
 ·rename_i h
  exact h1 i h w _ k7
 ·rename_i h
  have:i=m:=by omega
  subst this
  rw[Nat.sub_self]at k7
  exact h2 w _ k7
theorem MU {q:Pred} (h1:∀i,i<m->∀w v,f i w v->f' i w v) (h2:∀w v,q w v->f' m w v):∀w v,aA sz agg (m+1) (λj=>if j<m then f j else q) w v->aA sz agg (m+1) f' w v:=Ga (g:=λ_=>q) h1 h2
theorem Co (hm:m=m') (h1:∀i,i<m->∀w v,f i w v->f' i w v):∀w v,aA sz agg m f w v->aA sz agg m' f' w v:=by
 subst hm
 rintro w v ⟨A',cap,e,k1,k2,k3⟩
 refine⟨A',cap,e,k1,k2,λhp=>?_⟩
 obtain⟨b,o,e2,k4⟩:=k3 hp
 refine⟨b,o,e2,λi hi=>?_⟩
 obtain⟨cs,k5,k6,k7⟩:=k4 i hi
 exact⟨cs,k5,k6,h1 i hi w _ k7⟩
def rowAt (R:List ct) (i:Nat):ct:=R.getD i ⟨0,0,0⟩
variable {R:List ct}
theorem gX {i:Nat} (h:i<R.length):R[i]?=some (rowAt R i):=by
 unfold rowAt
 rw[List.getD_eq_getElem?_getD,List.getElem?_eq_getElem h]
 rfl
theorem MN {i:Nat} (h:i<R.length):rowAt (R++[r]) i=rowAt R i:=by
 unfold rowAt
 rw[List.getD_eq_getElem?_getD,List.getD_eq_getElem?_getD,List.getElem?_append_left h]
theorem Jc:rowAt (R++[r]) R.length=r:=by
 unfold rowAt
 rw[List.getD_eq_getElem?_getD,List.getElem?_append_right (Nat.le_refl _),Nat.sub_self]
 rfl
variable {k:Nat} {X:List (List Rat)}
theorem SP (hI:Inv c V [] G none_ a w) (hg:G[k]?=some ⟨none,none,s,aA 1 false R.length (λi=>ni (rowAt R i) (X.getD i []))⟩):∀q,q∈R->q.b<w.heap.size:=by
 intro q hq
 obtain⟨β,hI⟩:=hI
 obtain⟨A',cap,e,_,_,k3⟩:=(hI.jM _ (List.mem_of_getElem? hg) rfl rfl).out
 obtain⟨i,hi⟩:=List.mem_iff_getElem?.1 hq
 have nZ:i<R.length:=by
  rcases Nat.lt_or_ge i R.length with h|h
  ·exact h
  ·rw[List.getElem?_eq_none h]at hi; cases hi
 obtain⟨b,o,_,k4⟩:=k3 (by omega)
 obtain⟨cs,_,_,k5⟩:=k4 i nZ
 rw[gX nZ]at hi
 injection hi with hi
 subst hi
 exact Bk.uQ k5.2.2.2.2
def adm (g:Nat) (R:List ct) (X:List (List Rat)):List Bk:=⟨g,1,false,gv R⟩::(List.range R.length).map λi=>⟨(rowAt R i).b,3,true,bq (X.getD i []) (rowAt R i).cap⟩
abbrev Xw (X:List (List Rat)) (l:NM):Prop:=fe l.g l.cap l.R X l.H
theorem LG (hI:Inv ⟨N,w0,M,λ_=>False⟩ V [] G none_ a w) (hr:fn.results=#[.tmp s]) (hk:V[n0]?=some ⟨id,s,none,none,.grow R.length 1,T,m',agg,p0,st⟩)
  (hn:0<X.length) (hX:∀i,i<X.length->0<(X.getD i []).length) (hR:R.length=X.length) (hap:R.Pairwise λx y=>x.b≠y.b) (hold:∀r,r∈R->w0.heap.size<=r.b) (hg:G[k]?=some ⟨none,none,s,aA 1 false R.length (λi=>ni (rowAt R i) (X.getD i []))⟩):
  bodyPost P fn (Re (Xw X) (NM.hd X.length) (λl=>l.H) w0) .ret a w:=by
 obtain⟨β,hI⟩:=hI
 obtain⟨b,cap,cur,h1,h2,h3,h4,h5,h6,h7,h8⟩:∃(b cap:Nat) (cur:List Value),sl a s=.slice (some ⟨b,0,none⟩) R.length cap/\w0.heap.size<=b/\w.heap[b]?=some (.cells cur.toArray T (0,0))/\cur.length=cap*1/\R.length<=cap/\cap<=maxLen/\(∀v∈cur,iw v)/\∀i,i<R.length->ni (rowAt R i) (X.getD i []) w (aj false ((cur.drop (i*1)).take 1)):=by
  have hx:=List.mem_of_getElem? hk
  rcases (bT (m:=R.length) (sz:=1) rfl).1 (hI.var _ hx rfl)with⟨_,h0,_⟩|⟨b,cap,cur,hB,BV,fF,jq,qo,Vp,hcm,yg⟩
  ·omega
  ·refine⟨b,cap,cur,BV,fF.elim (λh=>h) (λh=>h.elim),jq,qo,Vp,hcm,yg,λi hi=>?_⟩
   obtain⟨A',cap',e,_,_,hel⟩:=(hI.jM _ (List.mem_of_getElem? hg) rfl rfl).out
   have e:sl a s=.slice A' R.length cap':=e
   rw[BV]at e
   injection e with eA _ _
   obtain⟨b',o',eb,hel⟩:=hel (by omega)
   rw[<-eA]at eb
   injection eb with eb
   injection eb with e1 e2
   subst e1 e2
   obtain⟨cs,hl,hc,hf⟩:=hel i hi
   have:(cur.drop (i*1)).take 1=cs:=by
    refine lK (w:=w) (b:=b) (o:=i*1) (by rw[List.length_take,List.length_drop,hl,qo]; omega) (λj u hj=>?_) (λj u hj=>by have:=hc j u hj; rwa [Nat.zero_add]at this)
    rw[List.getElem?_take]at hj
    split at hj
    ·rw[List.getElem?_drop]at hj
     simp only[World.cell?,jq]
     simpa using hj
    ·cases hj
   rw[this]
   exact hf
 have get:∀{i:Nat} {r:ct},R[i]?=some r->i<R.length/\r=rowAt R i:=λ{i r} h=>by
  have nZ:i<R.length:=by
   rcases Nat.lt_or_ge i R.length with h'|h'
   ·exact h'
   ·rw[List.getElem?_eq_none h']at h; cases h
  rw[gX nZ]at h
  exact⟨nZ,(Option.some.inj h).symm⟩
 have hne:∀i,i<R.length->b≠(rowAt R i).b:=by
  intro i hi e
  have k1:=(h8 0 (by omega)).1
  obtain⟨_,_,_,_,cs,T',k2,k3,_,k4⟩:=h8 i hi
  have k2:w.heap[(rowAt R i).b]?=some (.cells cs.toArray T' (0,0)):=k2
  rw[<-e,h3]at k2
  injection k2 with k2
  injection k2 with k2 _ _
  have k2:cur=cs:=by simpa using k2
  subst k2
  have hl:=hX i (by omega)
  obtain⟨vn,vd,k5,_⟩:=k4 0 _ (fq hl)
  have k5:(.agg ((cur.drop (0*3)).take 3).toArray:Value)=_:=k5
  have k3:(bq (X.getD i []) (rowAt R i).cap).length*3<=cur.length:=k3
  rw[kD]at k3
  cases cur with
  |nil=>exact absurd (show max (X.getD i []).length (rowAt R i).cap*3<=0 from k3) (by omega)
  |cons c0 cur=>
   have k1:c0=(rowAt R 0).hdr:=k1
   injection k5 with k5
   have k5:=congrArg (λz=>z.toList.head?) k5
   simp at k5
   rw[k1]at k5
   cases k5
 refine iM hI (v:=sl a s) ?_ ⟨⟨b,cap,R,adm b R X⟩,λk=>k=b\/∃i,i<R.length/\(rowAt R i).b=k,⟨?_,λi r hr=>?_,hR,λi r hr=>?_,λi j r q hr hq O0=>?_,λr hr=>?_,h5,h6⟩,?_,hI.below.below (λ_ h=>h),?_,?_⟩
 ·rw[eD,hr]
  simp[wR,sl]
 ·exact List.mem_cons_self ..
 ·obtain⟨hi,rfl⟩:=get hr
  exact List.mem_cons_of_mem _ (List.mem_map.2 ⟨i,List.mem_range.2 hi,rfl⟩)
 ·obtain⟨hi,rfl⟩:=get hr
  have:=h8 i hi
  exact⟨this.2.1,this.2.2.1,this.2.2.2.1⟩
 ·have hpw:=List.pairwise_iff_getElem.1 hap
  obtain⟨hi,_⟩:=get hr
  obtain⟨hj,_⟩:=get hq
  rw[List.getElem?_eq_getElem hi]at hr
  rw[List.getElem?_eq_getElem hj]at hq
  injection hr with hr
  injection hq with hq
  subst hr hq
  rcases Nat.lt_or_ge i j with h|h
  ·exact hpw i j hi hj h
  ·exact Ne.symm (hpw j i hj hi (by omega))
 ·obtain⟨i,hi⟩:=List.mem_iff_getElem?.1 hr
  have hi:R[i]?=some r:=hi
  obtain⟨nZ,rfl⟩:=get hi
  exact Ne.symm (hne i nZ)
 ·rw[h1,hR]
  rfl
 ·rintro k (rfl|⟨i,hi,rfl⟩)
  ·exact h2
  ·exact hold _ (List.mem_of_getElem? (gX hi))
 ·refine⟨λk=>⟨?_,?_⟩,?_,λe he=>?_⟩
  ·rintro(rfl|⟨i,hi,rfl⟩)
   ·exact⟨_,List.mem_cons_self ..,rfl⟩
   ·exact⟨_,List.mem_cons_of_mem _ (List.mem_map.2 ⟨i,List.mem_range.2 hi,rfl⟩),rfl⟩
  ·rintro⟨e,he,rfl⟩
   rcases List.mem_cons.1 he with rfl|he
   ·exact .inl rfl
   ·obtain⟨i,hi,rfl⟩:=List.mem_map.1 he
    exact .inr ⟨i,List.mem_range.1 hi,rfl⟩
  ·refine List.pairwise_cons.2 ⟨λe he=>?_,List.pairwise_map.2 (List.pairwise_lt_range.imp_of_mem λ{i j} hi hj hij=>?_)⟩
   ·obtain⟨i,hi,rfl⟩:=List.mem_map.1 he
    exact hne i (List.mem_range.1 hi)
   ·have hi:=List.mem_range.1 hi
    have hj:=List.mem_range.1 hj
    have:=List.pairwise_iff_getElem.1 hap i j hi hj hij
    have e1:=gX hi
    have e2:=gX hj
    rw[List.getElem?_eq_getElem hi]at e1
    rw[List.getElem?_eq_getElem hj]at e2
    injection e1 with e1
    injection e2 with e2
    show(rowAt R i).b≠(rowAt R j).b
    rw[<-e1,<-e2]
    exact this
  ·rcases List.mem_cons.1 he with rfl|he
   ·refine⟨cur,T,h3,?_,h7,λi it hi=>?_⟩
    ·show(gv R).length*1<=cur.length
     rw[rB,h4]
     omega
    ·have hi:(gv R)[i]?=some it:=hi
     have nZ:i<R.length:=by
      rcases Nat.lt_or_ge i R.length with h'|h'
      ·exact h'
      ·rw[List.getElem?_eq_none (by rw[rB]; exact h')]at hi; cases hi
     rw[gO (gX nZ)]at hi
     injection hi with hi
     subst hi
     exact(h8 i nZ).1
   ·obtain⟨i,hi,rfl⟩:=List.mem_map.1 he
    exact(h8 i (List.mem_range.1 hi)).2.2.2.2
theorem dr {f:FuncId} {C0:Code} {vs:List Value} {R:World->Ending->World->Prop} (hf:P.funcs[f]?=some fn) (hb:fn.body=some C0) (hN:fn.ntmps=N) (hlen:decide (vs.length<=N)=true) (hM:cL M w) (hG:cF M w vs G)
  (h:∀a,Inv ⟨N,w,M,λ_=>False⟩ [] [] G none_ a w->C0.wp P (bodyPost P fn (R w)) a w):Calls P f vs.toArray w (R w):=
 calls_of_wp hf hb (h _ (wh hM (by have:=of_decide_eq_true hlen; simp[hN]; omega) rfl hG.ok))
theorem Inv.grown (h:Inv c V A G none_ a w):c.w0.heap.size<=w.heap.size:=by
 obtain⟨β,h⟩:=h
 exact h.below.size
theorem EK {l:ct}:∀w v,aA 1 false (R.length+1) (λj=>if j<R.length then ni (rowAt R j) (X.getD j [])else ni l (X.getD R.length [])) w v->aA 1 false (R++[l]).length (λi=>ni (rowAt (R++[l]) i) (X.getD i [])) w v:=λw v h=>
 Co (m:=R.length+1) (by simp) (λi _ _ _ k=>k) w v (Ga (g:=λ_=>ni l (X.getD R.length [])) (f':=λi=>ni (rowAt (R++[l]) i) (X.getD i [])) (λi hi w v k=>by rw[MN hi]; exact k) (λw v k=>by rw[Jc]; exact k) w v h)
theorem A8 {l:ct} (h:R.Pairwise λx y=>x.b≠y.b) (hl:∀q,q∈R->q.b≠l.b):(R++[l]).Pairwise λx y=>x.b≠y.b:=by
 rw[List.pairwise_append]
 exact⟨h,List.pairwise_singleton _ _,λa ha b hb=>by rw[List.mem_singleton.1 hb]; exact hl a ha⟩
end
end Wx

namespace Wx
open Go Go.RowKit
section
variable {P:Program} {ops:Array Oper} {ms:List Nat} {c:fT} {V:List Vr} {A:List Al} {G:List bz} {i:Nat}{d:Nat} {x y z:Operand} {ty:TypeId} {pos:String} {aft:Array Edge}{T:TypeId} {n:Nat} {p:Pred}
theorem Sq {ag:Bool} (hnb:(V.all λx=>x.born != some i&&x.dead != some i)=true) (h:Has ms G i x p) (hf:Fits n ag p) (hp:Post G i (cZ n ag p)):
  OpOk P ops ms c V A G i ⟨some d,.box T x,ty,pos,aft,none⟩:=
 yz rfl (λ_=>IE hnb) rfl (.inl rfl) hp λL β a w hI hd=>by
  have hq:=h.spec hI hd
  obtain⟨cs,e,hl,hcells,h1⟩:=hf w _ hq.out
  have hb:Below w.heap.size w (w.alloc (.cells cs.toArray T)):=Below.alloc (Below.refl _ _) (Nat.le_refl _) _
  refine⟨.pointer (some ⟨w.heap.size,0,none⟩),w.alloc (.cells cs.toArray T),?_,hb,λw' he=>?_⟩
  ·show(do pure (Next.value (<-Instr.box T (a.eval x)))).run P w=_
   simp only[Instr.box,newVar,newRow,hcells]
   rfl
  ·have hgt:w'.heap[w.heap.size]?=some (.cells cs.toArray T (0,0)):=by
    rw[he.block w.heap.size (by simp) (λo h=>by have:=tC hI h; omega)]
    exact heap_alloc_new _ _
   have k:=hq w' ((Ext.bC hb).trans he)
   rw[e]at k
   refine⟨w.heap.size,0,cs,rfl,hl,λj u hj=>?_,k⟩
   simp only[World.cell?,hgt,Nat.zero_add]
   simpa using hj
theorem AK (n:Nat) (ag:Bool) (h:Has ms G i x p:=by exact hs) (hf:Fits n ag p:=by exact oK) (hp:Post G i (cZ n ag p):=by exact pt rfl) (hnb:(V.all λx=>x.born != some i&&x.dead != some i)=true:=by kernel_rfl):
  OpOk P ops ms c V A G i ⟨some d,.box T x,ty,pos,aft,none⟩:=Sq hnb h hf hp
variable {sz b o:Nat}
theorem u6 {P:Program} (h:GN P T n sz=true) (w:World):(Instr.sliceAt T (.pointer (some ⟨b,o,none⟩)) none none none).run P w=.ok (.slice (some ⟨b,o,none⟩) n n) w:=by
 unfold GN at h
 split at h
 ·rename_i m E hE
  rw[Bool.and_eq_true]at h
  have e:=Nat.eq_of_beq_eq_true h.1
  subst e
  have hu:(underlying T).run P w=.ok (.array m E) w:=run_underlying hE w
  have hz:(Go.sizeOf E).run P w=.ok sz w:=yD h.2 w
  simp only[Instr.sliceAt,Sem.run_bind,hu,Result.andThen_ok,Instr.sureAddr,Instr.sliceBounds,pure_bind,Sem.run_pure,hz,Nat.sub_zero]
  by_cases hm:m=0
  ·rw[if_pos hm]
  ·rw[if_neg hm,Nat.zero_mul]; rfl
 ·cases h
variable {F:Rat->Pred} {j:Nat} {l:List Rat}
theorem IW (h:Has ms G i x (cZ (n*3) true (pV F j l))) (hn:n<=l.length) (hm:n<=1000000) (ht:GN P T n 3=true) (hp:Post G i (aA 3 true n λk=>pQ F j (l.getD k 0))):
  OpOk P ops ms c V A G i ⟨some d,.slice T x none none none,ty,pos,aft,none⟩:=
 iO rfl rfl rfl rfl h hp λρ w h1=>by
  obtain⟨b,o,cs,e,hl,hc,hv⟩:=h1
  refine⟨.slice (some ⟨b,o,none⟩) n n,?_,?_⟩
  ·show(do pure (Next.value (<-Instr.sliceAt T (ρ x) none none none))).run P w=_
   rw[e,Sem.run_bind,u6 ht]
   rfl
  ·rintro w' ⟨b',o',cs',e',hl',hc',hv'⟩
   rw[e]at e'
   cases e'
   refine⟨_,n,rfl,Nat.le_refl _,by unfold maxLen; omega,λ_=>⟨b,o,rfl,λk hk=>⟨(cs'.drop (k*3)).take 3,?_,λq u hq=>?_,wL k rfl (by omega) (N:=cs'.length) w' cs' rfl hv'⟩⟩⟩
   ·rw[List.length_take,List.length_drop,hl']; omega
   ·rw[List.getElem?_take]at hq
    split at hq
    ·rw[List.getElem?_drop]at hq
     have:=hc' _ _ hq
     rwa [Nat.add_assoc]
    ·cases hq
variable {tx E:TypeId} {m:Nat} {agg:Bool} {f g:Nat->Pred} {yv:Vr}
theorem IP (k2:Nat) (hk2:V[k2]?=some yv) (hb:yv.born=some i) (cW:yv.kd=.grow (m+n) sz)
  (TG:yv.T=E) (dX:(A.all λp=>p.var != yv.id||p.tag.any λj=>(ms.getD j 0).testBit i)=true)
  (h1:Has ms G i x (PZ sz agg m f)) (h2:Has ms G i y (aA sz agg n g)) (ht:tW P T tx E sz) (hagg:agg=false->sz=1) (hf:∀i,i<m->Fits sz agg (f i)) (hg:∀i,i<n->Fits sz agg (g i)) (hn:0<n) (hmax:m+n<=1073741824)
  (hp:Post G i (aA sz agg (m+n) λj=>if j<m then f j else g (j-m))):
  OpOk P ops ms c V A G i ⟨some d,.call ⟨.builtin .append,#[x,y],#[T,tx]⟩,ty,pos,aft,none⟩:=by
 refine gI (λL β a w hI hd hwf=>?_) rfl
 have hy:=List.mem_of_getElem? hk2
 obtain⟨⟨A0,e0⟩,_⟩:=(h1.spec hI hd).out
 obtain⟨A1,kR,olds,QW,LU,uw,dB,Vv,hoc,Ic⟩:=mO hagg hf ((h1.spec hI hd).imp λ_ h=>h.2)
 obtain⟨A2,yS,news,Rs,Nz,hc2,ql,uy,hnc,Ej⟩:=mO hagg hg (h2.spec hI hd)
 obtain⟨E',RQ⟩:=ht.src
 obtain⟨ti,zv,hi,hsz,hz,hzs,RT,hby⟩:=ht.info
 subst hsz
 have hS:Src P ti.size tx (a.eval y) n news w:=by
  rw[Rs]
  exact Am RQ ql (λu hu=>(uy u hu).2) λh=>by
   obtain⟨b,o,e,hc⟩:=hnc h
   exact⟨b,o,e,λj u hj=>(hc j u hj).1⟩
 have hcap:kR=m:=by
  rw[QW]at e0
  injection e0 with _ _ e
 subst hcap
 have hold:(Builtin.firstCells ti.size kR (.slice A1 kR kR)).run P w.drew=.ok olds.toArray w.drew:=by
  rcases Nat.eq_zero_or_pos kR with h0|hpos
  ·subst h0
   have ho0:olds=[]:=List.eq_nil_of_length_eq_zero (by rw[dB]; simp)
   rw[ho0]
   cases A1 with
   |none=>exact run_firstCells_none w.drew ti.size 0 0 0
   |some p=>exact run_firstCells_some w.drew ti.size 0 p 0 0 [] (by simp) λj u hj=>by simp at hj
  ·obtain⟨b,o,rfl,hc⟩:=hoc hpos
   exact run_firstCells_some w.drew ti.size kR ⟨b,o,none⟩ kR kR olds dB λj u hj=>by rw[Addr.add_mid]; exact(hc j u hj).1
 have hrun:=run_append_grow_src (P:=P) w T tx ty E ti zv ht.under hi hz A1 kR kR olds hold (a.eval y) n news hS (by omega) (by omega) (growslice_fits (by omega) (by
   have:(kR+n)*ti.bytes<=1073741824*4096:=Nat.mul_le_mul hmax hby
   omega))
 have hge:=grownCap_ge w (kR+n) kR E
 have hb0:Below w.heap.size w (w.drew.alloc (.cells (olds++news++(Builtin.zeroCells zv.cells (grownCap w (kR+n) kR E-(kR+n))).toList).toArray E)):=Below.alloc (Below.drew (Below.refl _ _)) (Nat.le_refl _) _
 refine fD (v:=.slice (some ⟨w.heap.size,0,none⟩) (kR+n) (grownCap w (kR+n) kR E)) (w':=w.drew.alloc (.cells (olds++news++(Builtin.zeroCells zv.cells (grownCap w (kR+n) kR E-(kR+n))).toList).toArray E)) ?_ ?_
 ·rw[QW,hrun]
  congr 3
  apply Array.ext'
  simp
 ·refine hI.appended hd hwf (E:=E) (f:=f) (g:=g) (agg:=agg) hy hb cW TG rfl rfl dX dB ql Ic Ej hp (heap_alloc_new w.drew _) ?_ hge (grownCap_le_maxLen w (kR+n) kR E (by unfold maxLen; omega)) ?_ ?_ (.inl hI.below.size) ⟨hb0.os,hb0.tape,hb0.output,hb0.size⟩ (λk hk _=>hb0.block k (Nat.lt_of_lt_of_le hk hI.below.size))
   (λz hz hl _ k hk=>⟨hb0.block k (cG hI hz hl hk),λe=>absurd e (Nat.ne_of_lt (cG hI hz hl hk))⟩) (Ext.bC hb0) (λz hz hl _=>Ext.bC hb0) (λj hj=>absurd hj (Nat.lt_irrefl _))
  ·rw[List.length_append,List.length_append,dB,ql,Array.length_toList,size_zeroCells,hzs,<-Nat.add_mul,<-Nat.add_mul]
   congr 1; omega
  ·intro u hu
   rcases List.mem_append.1 hu with hu|hu
   ·rcases List.mem_append.1 hu with hu|hu
    ·exact(Vv u hu).1
    ·exact(uy u hu).1
   ·exact iz RT _ u hu
  ·rw[<-show(olds++news).length=(kR+n)*ti.size by rw[List.length_append,dB,ql,Nat.add_mul],List.take_left]
theorem mN {M:Nat->Nat->Prop} {w w':World} {off:Nat} {q:Pred} {v:Value} (he:Ext M w w') (h:aO M (λw=>cZ sz true p w v) w) (e:v=.pointer (some ⟨b,o,none⟩)) (hq:∀w cs,cs.length=sz->p w (aj true cs)->q w (aj true ((cs.drop off).take n))) (hle:off+n<=sz):cZ n true q w' (.pointer (some ⟨b,o+off,none⟩)):=by
 obtain⟨b',o',cs,e',hl,hc,hp'⟩:=h w' he
 rw[e]at e'
 cases e'
 refine⟨b,o+off,(cs.drop off).take n,rfl,by rw[List.length_take,List.length_drop]; omega,λj u hj=>?_,hq w' cs hl hp'⟩
 rw[List.getElem?_take]at hj
 split at hj
 ·rw[List.getElem?_drop]at hj
  have:=hc _ _ hj
  rwa [Nat.add_assoc]
 ·cases hj
variable {S:Nat}
theorem fW {f:Nat} (q m:Nat) (h:Has ms G i x (cZ sz true (pV F j l)):=by exact hs) (hle:q*3+m*3<=sz:=by decide) (hp:Post G i (cZ (m*3) true (pV F j ((l.drop q).take m))):=by exact pt rfl) (hf:∀b o w,(Instr.fieldAt S (.pointer (some ⟨b,o,none⟩)) f).run P w=.ok (.pointer (some ⟨b,o+q*3,none⟩)) w:=by exactλ_ _ _=>by kernel_rfl)
  (hA:(A.all λq=>q.tag != some i)=true:=by kernel_rfl):OpOk P ops ms c V A G i ⟨some d,.fieldAddr S x f,ty,pos,aft,none⟩:=
 cC rfl rfl rfl (.inr hA) hp λL β a w hI hd=>by
  have hr:=h.spec hI hd
  obtain⟨b,o,cs,e,_⟩:=hr.out
  refine⟨.pointer (some ⟨b,o+q*3,none⟩),w,?_,Below.refl _ _,λw' he=>mN he hr e (λw cs hl=>zW q m rfl w cs hl) hle⟩
  show(do pure (Next.value (<-Instr.fieldAt S (a.eval x) f))).run P w=_
  rw[e,Sem.run_bind,hf]
  rfl
theorem fQ {f:Nat} (q:Nat) (h:Has ms G i x (cZ sz true (pV F j l)):=by exact hs) (hl:q<l.length:=by omega) (hle:q*3+3<=sz:=by decide) (hp:Post G i (cZ 3 true (pQ F j (l.getD q 0))):=by exact pt rfl) (hf:∀b o w,(Instr.fieldAt S (.pointer (some ⟨b,o,none⟩)) f).run P w=.ok (.pointer (some ⟨b,o+q*3,none⟩)) w:=by exactλ_ _ _=>by kernel_rfl)
  (hA:(A.all λq=>q.tag != some i)=true:=by kernel_rfl):OpOk P ops ms c V A G i ⟨some d,.fieldAddr S x f,ty,pos,aft,none⟩:=
 cC rfl rfl rfl (.inr hA) hp λL β a w hI hd=>by
  have hr:=h.spec hI hd
  obtain⟨b,o,cs,e,_⟩:=hr.out
  refine⟨.pointer (some ⟨b,o+q*3,none⟩),w,?_,Below.refl _ _,λw' he=>mN he hr e (λw cs hl2=>wL q rfl hl w cs hl2) hle⟩
  show(do pure (Next.value (<-Instr.fieldAt S (a.eval x) f))).run P w=_
  rw[e,Sem.run_bind,hf]
  rfl
abbrev FQ (j n:Nat) (l:List Rat):Pred:=aA 3 true n λk=>pR j (l.getD k 0)
abbrev pFw (j n:Nat) (l:List Rat):Pred:=PZ 3 true n λk=>pR j (l.getD k 0)
theorem lj (h:∀k,k<n->∀w v,f k w v->g k w v):∀w v,aA sz agg n f w v->aA sz agg n g w v:=λ_ _ ⟨A,cap,e,h1,h2,h3⟩=>⟨A,cap,e,h1,h2,λh0=>(h3 h0).elim λb h4=>h4.elim λo h5=>⟨b,o,h5.1,λi hi=>(h5.2 i hi).elim λcs h6=>⟨cs,h6.1,h6.2.1,h i hi _ _ h6.2.2⟩⟩⟩
variable {l':List Rat}
theorem JN (hm:m=l.length):∀w v,aA 3 true (m+n) (λq=>if q<m then pR j (l.getD q 0)else pR j (l'.getD (q-m) 0)) w v->FQ j (m+n) (l++l') w v:=
 lj λk _ w v h=>by
  subst hm
  by_cases hk:k<l.length
  ·rw[if_pos hk]at h
   have e:(l++l').getD k 0=l.getD k 0:=by rw[List.getD_eq_getElem?_getD,List.getD_eq_getElem?_getD,List.getElem?_append_left hk]
   rw[e]; exact h
  ·rw[if_neg hk]at h
   have e:(l++l').getD k 0=l'.getD (k-l.length) 0:=by rw[List.getD_eq_getElem?_getD,List.getD_eq_getElem?_getD,List.getElem?_append_right (by omega)]
   rw[e]; exact h
theorem apF (hv:AF i V=some yv:=by exact rfl) (h1:Has ms G i x (pFw j m l):=by exact hs) (h2:Has ms G i y (FQ j n l'):=by exact hs) (hp:Post G i (FQ j (m+n) (l++l')):=by exact pt rfl) (cW:yv.kd=.grow (m+n) 3:=by exact rfl) (hm:m=l.length:=by kernel_rfl) (hn:0<n:=by decide) (hmax:m+n<=1073741824:=by decide)
  (ht:CP P T tx yv.T 3=true:=by kernel_rfl) (dX:(A.all λp=>p.var != yv.id||p.tag.any λj=>(ms.getD j 0).testBit i)=true:=by kernel_rfl):OpOk P ops ms c V A G i ⟨some d,.call ⟨.builtin .append,#[x,y],#[T,tx]⟩,ty,pos,aft,none⟩:=by
 obtain⟨⟨k,hk⟩,hb⟩:=eY hv
 exact IP k hk hb cW rfl dX h1 h2 (jt ht) (λh=>by cases h) (λ_ _=>cE) (λ_ _=>cE) hn hmax (hp.down (JN hm))
variable {s:Nat} {xv:Vr}
theorem Z7 (hx:QH ms i s V=some xv:=by exact rfl) (hv:AF i V=some yv:=by exact rfl) (h1:Has ms G i (.tmp s) (FQ j m l):=by exact hs) (h2:Has ms G i y (FQ j n l'):=by exact hs) (hp:Post G i (FQ j (m+n) (l++l')):=by exact pt rfl) (bR:xv.kd=.grow m 3:=by exact rfl) (gb:xv.dead=some i:=by exact rfl) (cW:yv.kd=.grow (m+n) 3:=by exact rfl) (hT:xv.T=yv.T:=by exact rfl) (hm:m=l.length:=by(simp only[List.length_append,List.length_take,List.length_drop,List.length_cons,List.length_nil]<;>omega)) (hmax:m+n<=1073741824:=by decide)
  (ht:CP P T tx yv.T 3=true:=by kernel_rfl) (gg:(V.all λz=>z.dead != some i||z.id==xv.id)=true:=by kernel_rfl) (dX:(A.all λp=>p.var != yv.id||p.tag.any λj=>(ms.getD j 0).testBit i)=true:=by kernel_rfl):OpOk P ops ms c V A G i ⟨some d,.call ⟨.builtin .append,#[.tmp s,y],#[T,tx]⟩,ty,pos,aft,none⟩:=by
 obtain⟨⟨k,hk⟩,hb⟩:=eY hv
 obtain⟨⟨k1,ot⟩,qO,ho⟩:=nQ hx
 exact rR k1 ot qO ho bR gb k hk hb cW hT rfl gg dX h1 h2 (jt ht) (λh=>by cases h) (λ_ _=>cE) (λ_ _=>cE) hmax (hp.down (JN hm))
theorem asG (hx:QH ms i s V=some xv:=by exact rfl) (hv:AF i V=some yv:=by exact rfl) (h1:Has ms G i (.tmp s) (FQ j m l):=by exact hs) (hp:Post G i (FQ j m l):=by exact pt rfl) (bR:xv.kd=.grow m 3:=by exact rfl) (gb:xv.dead=some i:=by exact rfl) (cW:yv.kd=.grow m 3:=by exact rfl) (hT:yv.T=xv.T:=by exact rfl) (dX:(A.all λp=>p.var != yv.id||p.tag.any λj=>(ms.getD j 0).testBit i)=true:=by kernel_rfl):
  OpOk P ops ms c V A G i ⟨some d,.assign (.tmp s),ty,pos,aft,none⟩:=by
 obtain⟨⟨k,hk⟩,hb⟩:=eY hv
 obtain⟨⟨k1,ot⟩,qO,ho⟩:=nQ hx
 exact jb k1 ot qO ho bR gb k hk hb cW hT dX h1 hp
def fd0:Fd:=⟨true,3,pR 1 0⟩
theorem w7.get {fs:List Fd} (h:w7 au j fs l):∀k,k<l.length->∀w v,((fs.map (·.p)).getD k cY) w v->pR j (l.getD k 0) w v:=by
 induction h with
 |z=>intro k hk; exact absurd hk (Nat.not_lt_zero _)
 |c hi _ ih=>
  intro k hk w v h
  cases k with
  |zero=>exact nF hi w v h
  |succ k=>exact ih k (by rw[List.length_cons]at hk; omega) w v h
variable {parts:Array (Nat×Operand)} {gs:List Fd}
theorem bsF (ps:List (Nat×Pred)) (ht:mV P T E 3) (Dq:∀w,(zeroValue E).run P w=.ok (.agg Zl.r.cs.toArray) w) (hps:dy ms G i (List.replicate n fd0) parts.toList ps) (hg:rq (List.replicate n fd0) ps=gs) (hL:w7 au j gs l) (hn:n=l.length) (hsz:decide (0<3/\0<n/\n*3<=16777216)=true) (hp:Post G i (pFw j n l)):
  OpOk P ops ms c V A G i ⟨some d,.buildSlice T n parts,ty,pos,aft,none⟩:=
 qZ (z:=Zl.r.cs) ht Dq rfl rfl hsz (λw=>⟨XC,ew w⟩) rfl hps hg (λk=>(gs.map (·.p)).getD k cY) (λk f h=>by rw[List.getD_eq_getElem?_getD,List.getElem?_map,h]; rfl)
  (hp.down λw v h=>⟨h.1,lj (λk hk=>hL.get k (hn▸hk)) w v h.2⟩)
theorem WC (n k:Nat) (h:Has ms G i x (cZ (n*3) true (pV au j l)):=by exact hs) (hk:j<=k:=by omega) (hp:Post G i (FQ k n l):=by exact pt rfl) (hn:n<=l.length:=by(simp only[List.length_take,List.length_drop]; omega)) (hm:n<=1000000:=by decide) (ht:GN P T n 3=true:=by kernel_rfl):OpOk P ops ms c V A G i ⟨some d,.slice T x none none none,ty,pos,aft,none⟩:=
 IW h hn hm ht (hp.down (lj λ_ _=>nF hk))
theorem bsA (E:TypeId) (k:Nat) (ps:List (Nat×Pred)) (ht:mV P T E 3:=by exact⟨by kernel_rfl,λ_=>by kernel_rfl⟩) (Dq:∀w,(zeroValue E).run P w=.ok (.agg Zl.r.cs.toArray) w:=by exactλ_=>by kernel_rfl) (hps:dy ms G i (List.replicate n fd0) parts.toList ps:=by repeat' (first|exact trivial|refine⟨⟨rfl,Wx.hs,_,rfl,oK⟩,?_⟩)) (hg:rq (List.replicate n fd0) ps=gs:=by exact rfl) (hj:j=k:=by exact rfl) (hL:w7 au j gs l:=by repeat' (first|exact w7.z|apply w7.c|omega)) (hn:n=l.length:=by kernel_rfl) (hsz:decide (0<3/\0<n/\n*3<=16777216)=true:=by kernel_rfl) (hp:Post G i (pFw j n l):=by exact pt rfl):
  OpOk P ops ms c V A G i ⟨some d,.buildSlice T n parts,ty,pos,aft,none⟩:=(λ_:j=k=>bsF ps ht Dq hps hg hL hn hsz hp) hj
theorem RD {f:FuncId} {x y:Operand} {ts:Array TypeId} {p1 p2 q1 q2:Pred} {φ ψ:Prop} (hψ:ψ) (sk:φ->∀M w v1 v2,cL M w->aO M (λw=>p1 w v1) w->aO M (λw=>p2 w v2) w->Calls P f #[v1,v2] w (bH M p w)) (h1:Has ms G i x q1:=by exact hg) (c1:∀w v,q1 w v->p1 w v:=by exact uk) (h2:Has ms G i y q2:=by exact hg) (c2:∀w v,q2 w v->p2 w v:=by exact uk) (hp:Post G i p:=by exact pg (by assumption) rfl) (hφ:φ:=by first|omega|trivial) (hf:aR P f:=by exactλ_ _=>by kernel_rfl):
  OpOk P ops ms c V A G i ⟨some d,.call ⟨.value (.func f),#[x,y],ts⟩,ty,pos,aft,none⟩:=(λ_:ψ=>wF hf (h1.imp c1) (h2.imp c2) hp (sk hφ)) hψ
theorem Wr {n':Nat} (e:n=n'):∀w v,FQ j n l w v->aA 3 true n' (λk=>pR j (l.getD k 0)) w v:=e▸λ_ _ h=>h
end
end Wx
