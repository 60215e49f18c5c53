import Derived.Test.YtkcceahelokheaaGreatCLTSemOne
namespace Wx
open Go Go.RowKit
set_option linter.unusedVariables false
def NJ (sz m:Nat) (ag:Bool) (E:TypeId) (f:Nat->Pred) (s:Value) (X:Nat->Prop) (w:World):Prop:=
 (s=.slice none 0 0/\m=0/\∀k,¬X k) \/
 ∃(bb cap:Nat) (cur:List Value),s=.slice (some ⟨bb,0,none⟩) m cap/\(∀k,X k↔k=bb)/\w.heap[bb]?=some (.cells cur.toArray E (0,0))/\cur.length=cap*sz/\m<=cap/\cap<=maxLen/\(∀u∈cur,iw u)/\∀i,i<m->f i w (aj ag ((cur.drop (i*sz)).take sz))
def wH (b:Nat) (sz m:Nat) (ag:Bool) (E:TypeId) (f:Nat->Pred) (s0 s:Value):Rel:=λB w _=>∃(X:Nat->Prop) (T:TypeId),(∀k,B k↔k=b\/X k)/\¬X b/\w.heap[b]?=some (.cells #[s0] T (0,0))/\iw s0/\NJ sz m ag E f s X w
def Xk (b sz m:Nat) (ag:Bool) (E:TypeId) (f:Nat->Pred):Rel:=λB w v=>∃s,wH b sz m ag E f s s B w v
abbrev uf (id b sz m:Nat) (ag:Bool) (E:TypeId) (f:Nat->Pred):Vr:=eH id id (Xk b sz m ag E f)
abbrev bxS (id b sz m:Nat) (ag:Bool) (E:TypeId) (f:Nat->Pred) (s:Value):Vr:=eH id id (wH b sz m ag E f s s)
theorem vBx {V:List Vr} {N b sz m m':Nat} {ag:Bool} {E:TypeId} {f f':Nat->Pred} (hm:m=m':=by first|rfl|omega) (hf:∀i,i<m->∀w v,f i w v->f' i w v:=by exactλ_ _ _ _ h=>h) (h:mU N V=some (uf N b sz m ag E f):=by exact rfl):∃r:Rel,mU (uf N b sz m' ag E f').id V=some ⟨(uf N b sz m' ag E f').id,(uf N b sz m' ag E f').slot,none,none,(uf N b sz m' ag E f').kd,(uf N b sz m' ag E f').T,(uf N b sz m' ag E f').n,(uf N b sz m' ag E f').agg,r,[]⟩/\((uf N b sz m' ag E f').born=none/\(uf N b sz m' ag E f').dead=none/\(uf N b sz m' ag E f').st=[])/\∀F w v,r F w v->(uf N b sz m' ag E f').c0 F w v:=by
 subst hm
 refine⟨_,h,⟨rfl,rfl,rfl⟩,?_⟩
 rintro F w v ⟨s,X,T,h1,h2,h3,h4,h5⟩
 refine⟨s,X,T,h1,h2,h3,h4,h5.imp (λh=>h) ?_⟩
 rintro⟨bb,cap,cur,k1,k2,k3,k4,k5,k6,k7,k8⟩
 exact⟨bb,cap,cur,k1,k2,k3,k4,k5,k6,k7,λi hi=>hf i hi _ _ (k8 i hi)⟩
section
variable {P:Program} {c:fT} {V:List Vr} {G:List bz} {a:Act} {w:World}{b sz m:Nat} {ag:Bool} {E:TypeId} {f:Nat->Pred} {s0 s:Value} {B:Nat->Prop}
theorem yQ {w:World} {v:Value} (h:wH b sz m ag E f s0 s B w v):∀k,B k->k<w.heap.size/\∀o v,w.cell? ⟨k,o,none⟩=some v->iw v:=by
 obtain⟨X,T,h1,_,h3,h4,h5⟩:=h
 have cells:∀{k:Nat} {cs:List Value} {T:TypeId},w.heap[k]?=some (.cells cs.toArray T (0,0))->(∀v∈cs,iw v)->k<w.heap.size/\∀o v,w.cell? ⟨k,o,none⟩=some v->iw v:=by
  intro k cs T h1 h2
  refine⟨(Array.getElem?_eq_some_iff.1 h1).1,λo v hc=>?_⟩
  simp only[World.cell?,h1]at hc
  have:cs[o]?=some v:=by simpa using hc
  exact h2 v (List.mem_of_getElem? this)
 intro k hk
 rcases (h1 k).1 hk with rfl|hk
 ·exact cells (cs:=[s0]) h3 (λv hv=>by rw[List.mem_singleton.1 hv]; exact h4)
 ·rcases h5 with⟨_,_,h6⟩|⟨bb,cap,cur,_,k2,k3,_,_,_,k7,_⟩
  ·exact absurd hk (h6 k)
  ·have:=(k2 k).1 hk
   subst this
   exact cells k3 k7
variable {i:Nat}
theorem adI {T:Nat} (f:Nat->Pred) (hI:Inv c V [] G none_ a w) (k:Nat) (hk:V[k]?=some (Vz i i T 1 false (bg (.slice none 0 0)))):∃b,Inv c (V.set k (uf i b sz 0 ag E f)) [] (⟨none,none,i,bg (.pointer (some ⟨b,0,none⟩))⟩::G) none_ a w:=by
 obtain⟨β,h⟩:=hI
 have hx:=List.mem_of_getElem? hk
 have hkn:=(List.getElem?_eq_some_iff.1 hk).1
 obtain⟨g,e,h1,hb⟩:=(bJ rfl).1 (h.var _ hx rfl)
 obtain⟨cs,k1,k2,k3,k4⟩:=hb.held
 have e:∀k,β i k↔k=g:=e
 have k2:cs.length=1:=k2
 obtain⟨s,rfl⟩:∃s,cs=[s]:=by
  cases cs with
  |nil=>cases k2
  |cons s r=>cases r with
   |nil=>exact⟨s,rfl⟩
   |cons _ _=>simp at k2
 have es:s=.slice none 0 0:=k4.out
 subst es
 have hmem:∀y,y∈V.set k (uf i g sz 0 ag E f)->y=uf i g sz 0 ag E f\/y∈V:=λy hy=>(List.mem_or_eq_of_mem_set hy).symm
 have OY:∀y,y∈V->y=Vz i i T 1 false (bg (.slice none 0 0))\/y∈V.set k (uf i g sz 0 ag E f):=by
  intro y hy
  obtain⟨m,hm⟩:=List.mem_iff_getElem?.1 hy
  by_cases hmk:m=k
  ·subst hmk
   rw[hk]at hm
   exact .inl (Option.some.inj hm).symm
  ·exact .inr (List.mem_iff_getElem?.2 ⟨m,by rw[List.getElem?_set_ne (Ne.symm hmk)]; exact hm⟩)
 have hnew:uf i g sz 0 ag E f∈V.set k (uf i g sz 0 ag E f):=List.mem_iff_getElem?.2 ⟨k,by rw[List.getElem?_set_self hkn]⟩
 have eo:own c (V.set k (uf i g sz 0 ag E f)) none_ β=own c V none_ β:=by
  funext k' o
  apply propext
  constructor
  ·rintro(h'|⟨y,hy,h1,h2,h3⟩)
   ·exact .inl h'
   ·rcases hmem y hy with rfl|hy
    ·exact .inr ⟨_,hx,rfl,h2,Nat.zero_le _⟩
    ·exact .inr ⟨y,hy,h1,h2,h3⟩
  ·rintro(h'|⟨y,hy,h1,h2,h3⟩)
   ·exact .inl h'
   ·rcases OY y hy with rfl|hy
    ·exact .inr ⟨_,hnew,rfl,h2,Nat.zero_le _⟩
    ·exact .inr ⟨y,hy,h1,h2,h3⟩
 refine⟨g,β,h.size,h.defers,h.below,h.old,λy hy hl=>?_,λy y' g' hy hy' hl hl' hne=>?_,(λp hp=>by cases hp),λe' he ho hf=>?_⟩
 ·rw[eo]
  rcases hmem y hy with rfl|hy
  ·refine(aN rfl).2 ⟨λk' hk'=>?_,λw' he=>⟨_,λ_=>False,T,λk'=>by rw[show β (uf i g sz 0 ag E f).id k'↔k'=g from e k']; simp,λh=>h,?_,ee _ _ _,.inl ⟨rfl,rfl,λ_ h=>h⟩⟩⟩
   ·have:=(e k').1 hk'
    subst this
    exact(h.var _ hx rfl).blk hk'
   ·exact(he.block g ((Array.getElem?_eq_some_iff.1 k1).1) λo ho=>ho.2 ((e g).2 rfl)).trans k1
  ·exact h.var y hy hl
 ·have hy0:∃z,z∈V/\z.id=y.id/\live none_ z=true:=(hmem y hy).elim (λe=>⟨_,hx,by rw[e],rfl⟩) λh=>⟨y,h,rfl,hl⟩
  have AE:∃z,z∈V/\z.id=y'.id/\live none_ z=true:=(hmem y' hy').elim (λe=>⟨_,hx,by rw[e],rfl⟩) λh=>⟨y',h,rfl,hl'⟩
  obtain⟨z,hz,ez,lz⟩:=hy0
  obtain⟨z',L3,Yd,lz'⟩:=AE
  rw[<-ez,<-Yd]
  exact h.apart z z' g' hz L3 lz lz' (by rw[ez,Yd]; exact hne)
 ·rw[eo]
  rcases List.mem_cons.1 he with rfl|he
  ·exactλw' _=>h1
  ·exact h.jM e' he ho hf
variable {id n0:Nat}
theorem Tm {β:Nat->Nat->Prop} (h:bu c V [] G none_ β a w) (hk:V[n0]?=some (eH id id (wH b sz m ag E f s0 s))):aO (minus (own c V none_ β) (β id)) (λw=>wH b sz m ag E f s0 s (β id) w (sl a id)) w:=((aN rfl).1 (h.var _ (List.mem_of_getElem? hk) rfl)).2
theorem V5 (hI:Inv c V [] G none_ a w) (n0:Nat) (hk:V[n0]?=some (uf id b sz m ag E f)) (hV:cQ V=true:=by kernel_rfl) (hG:eC G=true:=by kernel_rfl) (hu:jo V id n0=true:=by kernel_rfl):∃s,Inv c (V.set n0 (bxS id b sz m ag E f s)) [] G none_ a w:=by
 obtain⟨β,h⟩:=hI
 have hB:aO (minus (own c V none_ β) (β id)) (λw=>Xk b sz m ag E f (β id) w (sl a id)) w:=((aN rfl).1 (h.var _ (List.mem_of_getElem? hk) rfl)).2
 obtain⟨s,hs⟩:=hB.out
 have jq:=yQ hs
 obtain⟨X0,T0,c1,_,c3,_,_⟩:=hs
 have hbl:b<w.heap.size:=(Array.getElem?_eq_some_iff.1 c3).1
 refine⟨s,_,h.move (B':=β id) (R':=wH b sz m ag E f s s) hV hG hk (iJ hu) (dN.refl _ _) (λk hk=>.inl hk) jq ?_⟩
 intro w' he
 obtain⟨s',hs'⟩:=hB w' he
 obtain⟨X,T,d1,d2,d3,d4,d5⟩:=hs'
 have e1:w'.heap[b]?=w.heap[b]?:=he.block b hbl λo ho=>ho.2 ((c1 b).2 (.inl rfl))
 rw[e1,c3]at d3
 injection d3 with d3
 injection d3 with d3
 have:s=s':=by simpa using d3
 subst this
 exact⟨X,T0,d1,d2,e1.trans c3,d4,d5⟩
variable {T:TypeId} {ops:Array Oper} {d:Nat} {y:Operand} {ty:TypeId} {pos:String} {aft:Array Edge}
theorem lBx {ms:List Nat} {A:List Al} {v:Vr} (N:Nat) (hv:mU N V=some v:=by exact rfl) (ho:bE ms i v=true:=by exact rfl) (bR:v.kd=.obj:=by exact rfl) (hst:(v.st.all λq=>(q.1==i||(ms.getD i 0).testBit q.1)||(ms.getD q.1 0).testBit i)=true:=by kernel_rfl)
  (hc:cont (λj=>(ms.getD i 0).testBit j) v.c0 v.st=wH b sz m ag E f s0 s:=by exact rfl) (h:Has ms G i y (bg (.pointer (some ⟨b,0,none⟩))):=by exact hs) (hp:Post G i (bg s0):=by exact pt rfl) (ht:Gu P T false 1=true:=by kernel_rfl):OpOk P ops ms c V A G i ⟨some d,.load T y,ty,pos,aft,none⟩:=by
 obtain⟨⟨k,hk⟩,_⟩:=fS hv
 exact cC rfl rfl rfl (.inl rfl) hp λL β a w hI hd=>by
  have hH:=(wD hI hd (List.mem_of_getElem? hk) ho bR).2.out
  rw[oA hd hst,hc]at hH
  obtain⟨X,T0,_,_,c3,_,_⟩:=hH
  have hy:a.eval y=.pointer (some ⟨b,0,none⟩):=(h.spec hI hd).out
  refine⟨s0,w,?_,Below.refl _ _,λ_ _=>rfl⟩
  show(do pure (Next.value (<-Instr.loadAt T (a.eval y)))).run P w=_
  rw[hy,Sem.run_bind,fJ (cs:=[s0]) (aY ht) (λj u hj=>by simp only[World.cell?,c3]; rw[Nat.zero_add]; simpa using hj) rfl]
  rfl
variable {X:Nat->Prop} {M:Nat->Nat->Prop}
theorem NJ.keep {w w':World} (h:NJ sz m ag E f s X w) (hn:∀i,aK (f i)) (hM:cL M w) (he:Ext M w w') (hb:∀k,X k->w'.heap[k]?=w.heap[k]?):NJ sz m ag E f s X w':=by
 refine h.imp (λh=>h) ?_
 rintro⟨bb,cap,cur,k1,k2,k3,k4,k5,k6,k7,k8⟩
 exact⟨bb,cap,cur,k1,k2,(hb bb ((k2 bb).2 rfl)).trans k3,k4,k5,k6,k7,λi hi=>hn i M w _ hM (k8 i hi) w' he⟩
variable {tx:TypeId} {p:Pred}
theorem BN {yv:Value} (Yo:cL M w) (YB:∀k,X k->∀o,M k o) (c5:NJ sz m ag E f s X w) (hy:aO M (λw=>aA sz ag 1 (λ_=>p) w yv) w) (ht:tW P T tx E sz) (hagg:ag=false->sz=1) (hfit:Fits sz ag p) (hn:∀i,aK (f i)) (hnp:aK p) (hmax:m+1<=1073741824):
  ∃(w':World) (X':Nat->Prop) (s':Value),(Builtin.append_ #[T,tx] ty #[s,yv]).run P w=.ok s' w'/\dN X w w'/\(∀k,X' k->X k\/w.heap.size<=k)/\NJ sz (m+1) ag E (λi=>if i<m then f i else p) s' X' w':=by
 obtain⟨A2,yS,news,Rs,Nz,hc2,ql,uy,hnc,Ej⟩:=mO hagg (λ_ _=>hfit) hy
 rw[Nat.one_mul]at ql
 have Vu:=Ej 0 Nat.one_pos
 rw[Nat.zero_mul,List.drop_zero,List.take_of_length_le (Nat.le_of_eq ql)]at Vu
 obtain⟨E',RQ⟩:=ht.src
 obtain⟨ti,zv,hi,hsz,hz,hzs,RT,hby⟩:=ht.info
 subst hsz
 have hS:Src P ti.size tx yv 1 news w:=by
  rw[Rs]
  exact Am RQ (by rw[ql,Nat.one_mul]) (λu hu=>(uy u hu).2) λh=>by
   obtain⟨b,o,e,hc⟩:=hnc h
   exact⟨b,o,e,λj u hj=>(hc j u hj).1⟩
 have fresh:∀(bs:Option Addr) (sc:Nat) (olds:List Value),s=.slice bs m sc->sc<m+1->olds.length=m*ti.size->(∀u∈olds,iw u)->(∀i,i<m->f i w (aj ag ((olds.drop (i*ti.size)).take ti.size)))->(Builtin.firstCells ti.size m (.slice bs m sc)).run P w.drew=.ok olds.toArray w.drew ->
   ∃(w':World) (X':Nat->Prop) (s':Value),(Builtin.append_ #[T,tx] ty #[s,yv]).run P w=.ok s' w'/\dN X w w'/\(∀k,X' k->X k\/w.heap.size<=k)/\NJ ti.size (m+1) ag E (λi=>if i<m then f i else p) s' X' w':=by
  intro bs sc olds e hlt dB Vv Ic hold
  have hrun:=run_append_grow_src (P:=P) w T tx ty E ti zv ht.under hi hz bs m sc olds hold yv 1 news hS hlt (by omega) (growslice_fits hlt (by
   have:(m+1)*ti.bytes<=1073741824*4096:=Nat.mul_le_mul hmax hby
   omega))
  have hge:=grownCap_ge w (m+1) sc E
  have hN:(olds++news).length=(m+1)*ti.size:=by rw[List.length_append,dB,ql,Nat.succ_mul]
  have hb0:Below w.heap.size w (w.drew.alloc (.cells (olds++news++(Builtin.zeroCells zv.cells (grownCap w (m+1) sc E-(m+1))).toList).toArray E)):=Below.alloc (Below.drew (Below.refl _ _)) (Nat.le_refl _) _
  have YQ:∀{q:Pred} {v:Value},aK q->q w v->q (w.drew.alloc (.cells (olds++news++(Builtin.zeroCells zv.cells (grownCap w (m+1) sc E-(m+1))).toList).toArray E)) v:=λhq hv=>hq _ w _ (Yo) hv _ (Ext.bC hb0)
  refine⟨_,λk=>k=w.heap.size,.slice (some ⟨w.heap.size,0,none⟩) (m+1) (grownCap w (m+1) sc E),?_,dN.bC hb0,λk hk=>.inr (by omega),.inr ⟨w.heap.size,_,_,rfl,λ_=>Iff.rfl,heap_alloc_new w.drew _,?_,hge,grownCap_le_maxLen w (m+1) sc E (by unfold maxLen; omega),?_,λi hi=>?_⟩⟩
  ·rw[e,hrun]
   congr 3
   apply Array.ext'
   simp
  ·rw[List.length_append,hN,Array.length_toList,size_zeroCells,hzs,<-Nat.add_mul]
   congr 1; omega
  ·intro u hu
   rcases List.mem_append.1 hu with hu|hu
   ·rcases List.mem_append.1 hu with hu|hu
    ·exact Vv u hu
    ·exact(uy u hu).1
   ·exact iz RT _ u hu
  ·have hle:(i+1)*ti.size<=(m+1)*ti.size:=Nat.mul_le_mul_right _ hi
   rw[Nat.succ_mul]at hle
   rw[List.drop_append_of_le_length (by rw[hN]; omega),List.take_append_of_le_length (by rw[List.length_drop,hN]; omega)]
   by_cases BQ:i<m
   ·have OX:(i+1)*ti.size<=m*ti.size:=Nat.mul_le_mul_right _ BQ
    rw[Nat.succ_mul]at OX
    simp only[BQ,if_true]
    rw[List.drop_append_of_le_length (by omega),List.take_append_of_le_length (by rw[List.length_drop]; omega)]
    exact YQ (hn i) (Ic i BQ)
   ·simp only[BQ,if_false]
    have eim:i=m:=by omega
    rw[eim,<-dB,List.drop_left,List.take_of_length_le (Nat.le_of_eq ql)]
    exact YQ hnp Vu.out
 rcases c5 with⟨e,hm0,hX⟩|⟨bb,cap,cur,e,hX,jq,qo,Vp,hcm,yg,hf⟩
 ·subst hm0
  refine fresh none 0 [] e (by omega) (by simp) (λu hu=>by cases hu) (λi hi=>absurd hi (Nat.not_lt_zero _)) (run_firstCells_none w.drew ti.size 0 0 0)
 ·have AU:(cur.take (m*ti.size)).length=m*ti.size:=by
   rw[List.length_take,qo,Nat.min_eq_left (Nat.mul_le_mul_right _ Vp)]
  have Dk:∀i,i<m->((cur.take (m*ti.size)).drop (i*ti.size)).take ti.size=(cur.drop (i*ti.size)).take ti.size:=λi hi=>by
   have OX:(i+1)*ti.size<=m*ti.size:=Nat.mul_le_mul_right _ hi
   rw[Nat.succ_mul]at OX
   rw[List.drop_take,List.take_take,Nat.min_eq_left (by omega)]
  by_cases hroom:m+1<=cap
  ·have hN:m*ti.size+ti.size<=cap*ti.size:=by
    have:=Nat.mul_le_mul_right ti.size hroom
    rwa [Nat.succ_mul]at this
   have hsome:∀j,j<news.length->(w.cell? ⟨bb,0+m*ti.size+j,none⟩).isSome=true:=by
    intro j hj
    simp only[World.cell?,jq]
    rw[List.getElem?_toArray,List.getElem?_eq_getElem (by rw[qo]; omega)]
    rfl
   have hfz:∀j,j<news.length->w.frozen? ⟨bb,0+m*ti.size+j,none⟩=false:=by
    intro j hj
    simp[World.frozen?,jq]
   have hrun:=run_append_room_src (P:=P) w T tx ty E ti ht.under hi bb 0 m cap yv 1 news hS hroom hsome hfz
   have gH:w.setCells bb (0+m*ti.size) news=w.setRow bb (cur.take (m*ti.size)++news++cur.drop (m*ti.size+news.length)).toArray:=by
    have r1:=run_storeCells_cells (P:=P) bb (0+m*ti.size) news 0 w (by simpa using hsome) (by simpa using hfz) λu hu=>(uy u hu).2
    have r2:=run_storeCells_at P bb (0+m*ti.size) E news 0 cur.toArray w jq (by simp; omega) λu hu=>(uy u hu).2
    rw[r1]at r2
    injection r2 with _ r2
    simpa using r2
   rw[gH]at hrun
   have og:∀j,M bb j:=λj=>YB bb ((hX bb).2 rfl) j
   have sn:Ext M w (w.setRow bb (cur.take (m*ti.size)++news++cur.drop (m*ti.size+news.length)).toArray):=⟨Nat.le_of_eq size_setRow.symm,λk hk hno=>aE λe'=>hno 0 (by rw[e']; exact og 0),λk o u hno gB=>by
    have BR:k≠bb:=λe'=>hno (by rw[e']; exact og o)
    rw[World.cell?_of_block (w:=w) (a:=⟨k,o,none⟩) (aE BR)]; exact gB⟩
   have YQ:∀{q:Pred} {v:Value},aK q->q w v->q (w.setRow bb (cur.take (m*ti.size)++news++cur.drop (m*ti.size+news.length)).toArray) v:=λhq hv=>hq _ w _ (Yo) hv _ sn
   refine⟨w.setRow bb (cur.take (m*ti.size)++news++cur.drop (m*ti.size+news.length)).toArray,X,.slice (some ⟨bb,0,none⟩) (m+1) cap,by rw[e,hrun],⟨rfl,rfl,rfl,Nat.le_of_eq size_setRow.symm,λk hk hno=>aE λe'=>hno ((hX k).2 e')⟩,λk hk=>.inl hk,.inr ⟨bb,cap,cur.take (m*ti.size)++news++cur.drop (m*ti.size+news.length),rfl,hX,setRow_heap w _ _ _ _ _ jq,?_,hroom,hcm,λu hu=>?_,λi hi=>?_⟩⟩
   ·rw[List.length_append,List.length_append,AU,List.length_drop,qo,ql]; omega
   ·rcases List.mem_append.1 hu with hu|hu
    ·rcases List.mem_append.1 hu with hu|hu
     ·exact yg u (List.mem_of_mem_take hu)
     ·exact(uy u hu).1
    ·exact yg u (List.mem_of_mem_drop hu)
   ·have hNN:(cur.take (m*ti.size)++news).length=(m+1)*ti.size:=by rw[List.length_append,AU,ql,Nat.succ_mul]
    have hle:(i+1)*ti.size<=(m+1)*ti.size:=Nat.mul_le_mul_right _ hi
    rw[Nat.succ_mul]at hle
    rw[List.drop_append_of_le_length (by rw[hNN]; omega),List.take_append_of_le_length (by rw[List.length_drop,hNN]; omega)]
    by_cases BQ:i<m
    ·have OX:(i+1)*ti.size<=m*ti.size:=Nat.mul_le_mul_right _ BQ
     rw[Nat.succ_mul]at OX
     simp only[BQ,if_true]
     rw[List.drop_append_of_le_length (by rw[AU]; omega),List.take_append_of_le_length (by rw[List.length_drop,AU]; omega),Dk i BQ]
     exact YQ (hn i) (hf i BQ)
    ·simp only[BQ,if_false]
     have eim:i=m:=by omega
     rw[eim]
     have:List.drop (m*ti.size) (cur.take (m*ti.size)++news)=news:=by
      have:=List.drop_left (l₁:=cur.take (m*ti.size)) (l₂:=news)
      rwa [AU]at this
     rw[this,List.take_of_length_le (Nat.le_of_eq ql)]
     exact YQ hnp Vu.out
  ·refine fresh (some ⟨bb,0,none⟩) cap (cur.take (m*ti.size)) e (by omega) AU (λu hu=>yg u (List.mem_of_mem_take hu)) (λi hi=>by rw[Dk i hi]; exact hf i hi) (run_firstCells_some w.drew ti.size m ⟨bb,0,none⟩ m cap _ AU λj u hj=>?_)
   rw[Addr.add_mid,Nat.zero_add]
   have hdr:w.drew.heap=w.heap:=rfl
   simp only[World.cell?,hdr,jq]
   rw[List.getElem?_take]at hj
   split at hj
   ·simpa using hj
   ·cases hj
variable {x:Operand}
theorem Jl (h1:Has [0] G 0 x (bg s)) (h2:Has [0] G 0 y (aA sz ag 1 λ_=>p)) (ht:tW P T tx E sz) (hagg:ag=false->sz=1) (hfit:Fits sz ag p) (hn:∀i,aK (f i)) (hnp:aK p) (hmax:m+1<=1073741824)
  (hk:V[n0]?=some (bxS id b sz m ag E f s)) (hV:cQ V=true) (hG:eC G=true) (hu:jo V id n0=true) (hd':decide (d<c.N)=true) (OP:(V.all λx=>x.slot != d)=true) (RG:(G.all λx=>x.slot != d)=true):
  ∀a w,Inv c V [] G none_ a w->bV P ops ⟨some d,.call ⟨.builtin .append,#[x,y],#[T,tx]⟩,ty,pos,aft,none⟩ a w λa w=>∃s',Inv c (V.set n0 (eH id id (wH b sz (m+1) ag E (λi=>if i<m then f i else p) s s'))) [] (⟨none,none,d,bg s'⟩::G) none_ a w:=by
 rintro a w ⟨β,hI⟩
 have hB:=Tm hI hk
 obtain⟨X,T0,c1,c2,c3,c4,c5⟩:=hB.out
 have hx0:=List.mem_of_getElem? hk
 have fF:∀k,β id k->mine c k:=λk hk'=>(((aN rfl).1 (hI.var _ hx0 rfl)).1 k hk').1
 have hlt:∀k,β id k->k<w.heap.size:=λk hk'=>(((aN rfl).1 (hI.var _ hx0 rfl)).1 k hk').2.1
 have hbl:b<w.heap.size:=hlt b ((c1 b).2 (.inl rfl))
 have ex:a.eval x=s:=(h1.spec hI oG).out
 have YB:∀k,X k->∀o,own c V none_ β k o:=λk hk o=>.inr ⟨_,hx0,rfl,(c1 k).2 (.inr hk),Nat.zero_le _⟩
 obtain⟨w',X',s',hr,hle,W6,hgr⟩:=BN (ty:=ty) (yv:=a.eval y) (aS hI) YB c5 (h2.spec hI oG) ht hagg hfit hn hnp hmax
 rw[<-ex]at hr
 refine .of rfl (fD hr ?_)
 have hb':w'.heap[b]?=w.heap[b]?:=hle.block b hbl c2
 have Yx:¬X' b:=λh=>(W6 b h).elim c2 λh=>absurd hbl (Nat.not_lt.2 h)
 have hrel:wH b sz (m+1) ag E (λi=>if i<m then f i else p) s s' (λk=>k=b\/X' k) w' (sl a id):=⟨X',T0,λ_=>Iff.rfl,Yx,hb'.trans c3,c4,hgr⟩
 have hm:=hI.move (B':=λk=>k=b\/X' k) (R':=wH b sz (m+1) ag E (λi=>if i<m then f i else p) s s') (w':=w') hV hG hk (iJ hu) ⟨hle.os,hle.tape,hle.output,hle.size,λk hk hn=>hle.block k hk λh=>hn ((c1 k).2 (.inr h))⟩ (λk hk=>hk.elim (λe=>.inl ((c1 k).2 (.inl e))) λh=>(W6 k h).imp (λh=>(c1 k).2 (.inr h)) λh=>h) (yQ hrel) ?_
 ·refine⟨s',_,hm.DR (of_decide_eq_true hd') (λx hx=>?_) (λe he=>by rw[List.all_eq_true]at RG; simpa using RG e he) λ_ _=>rfl⟩
  rw[List.all_eq_true]at OP
  rcases List.mem_or_eq_of_mem_set hx with hx|rfl
  ·simpa using OP x hx
  ·simpa using OP _ hx0
 ·intro w'' he
  have ki:cL (λk o=>own c V none_ β k o/\¬(k=b\/X k)) w':=λk o hk=>by
   obtain⟨k1,k2⟩:=aS hI k o hk.1
   exact⟨Nat.lt_of_lt_of_le k1 hle.size,λu gB=>k2 u (by rw[<-World.cell?_of_block (w:=w) (w':=w') (a:=⟨k,o,none⟩) (hle.block k k1 λh=>hk.2 (.inr h))]; exact gB)⟩
  have he2:Ext (λk o=>own c V none_ β k o/\¬(k=b\/X k)) w' w'':=he.mono' λk o hk=>⟨hk.1,λh=>hk.2 ((c1 k).2 h)⟩
  have hnb:∀k,k=b\/X' k->∀o,¬minus (own c V none_ β) (β id) k o:=λk hk o ho=>by
   rcases hk with rfl|hk
   ·exact ho.2 ((c1 k).2 (.inl rfl))
   ·rcases W6 k hk with h|h
    ·exact ho.2 ((c1 k).2 (.inr h))
    ·exact absurd (aS hI k o ho.1).1 (Nat.not_lt.2 h)
  exact⟨X',T0,λ_=>Iff.rfl,Yx,(he.block b (Nat.lt_of_lt_of_le hbl hle.size) (hnb b (.inl rfl))).trans (hb'.trans c3),c4,hgr.keep (λi=>by by_cases h:i<m<;>simp only[h,if_true,if_false]; exact hn i; exact hnp) ki he2 λk hk=>he.block k (yQ hrel k (.inr hk)).1 (hnb k (.inr hk))⟩
variable {z:Operand}
theorem M7 (hk:V[n0]?=some (eH id id (wH b sz m ag E f s0 s))) (h1:Has [0] G 0 y (bg (.pointer (some ⟨b,0,none⟩)))) (h2:Has [0] G 0 z (bg s)) (ht:Ty P T false 1) (hn:∀i,aK (f i)) (hV:cQ V=true) (hG:eC G=true) (hu:jo V id n0=true):
  ∀a w,Inv c V [] G none_ a w->bV P ops ⟨none,.store T y z,ty,pos,aft,none⟩ a w (Inv c (V.set n0 (uf id b sz m ag E f)) [] G none_):=by
 rintro a w ⟨β,hI⟩
 obtain⟨X,T0,c1,c2,c3,c4,c5⟩:=(Tm hI hk).out
 have ey:a.eval y=.pointer (some ⟨b,0,none⟩):=(h1.spec hI oG).out
 have ez:a.eval z=s:=(h2.spec hI oG).out
 obtain⟨A',l',cp,es⟩:∃A' l' cp,s=.slice A' l' cp:=by
  rcases c5 with⟨e,_⟩|⟨bb,cap,cur,e,_⟩
  ·exact⟨_,_,_,e⟩
  ·exact⟨_,_,_,e⟩
 have uy:iw s:=by rw[es]; exact ee _ _ _
 have hr:(execOp a.eval ⟨none,.store T y z,ty,pos,aft,none⟩).run P w=.ok .skip (w.setRow b #[s]):=by
  show(do Instr.storeAt T (a.eval y) (a.eval z); pure Next.skip).run P w=_
  rw[ey,ez]
  have:=gZ (P:=P) (off:=0) (cs:=[s]) (v:=s) ht (old:=[s0]) c3 (by rw[es]; rfl) rfl (by simp) (λu hu=>by rw[List.mem_singleton.1 hu,es]; rfl)
  simp only[Sem.run_bind,this,Result.andThen_ok,Sem.run_pure]
  rfl
 have hx0:=List.mem_of_getElem? hk
 have hgx:β id b:=(c1 b).2 (.inl rfl)
 have og:∀j,own c V none_ β b j:=λj=>.inr ⟨_,hx0,rfl,hgx,Nat.zero_le _⟩
 have sn:Ext (own c V none_ β) w (w.setRow b #[s]):=⟨Nat.le_of_eq size_setRow.symm,λk hk hno=>aE λe'=>hno 0 (by rw[e']; exact og 0),λk o u hno gB=>by
  have BR:k≠b:=λe'=>hno (by rw[e']; exact og o)
  rw[World.cell?_of_block (w:=w) (a:=⟨k,o,none⟩) (aE BR)]; exact gB⟩
 have YC:∀k,X k->(w.setRow b #[s]).heap[k]?=w.heap[k]?:=λk hk=>aE λe=>c2 (e▸hk)
 have hrel:wH b sz m ag E f s s (β id) (w.setRow b #[s]) (sl a id):=⟨X,T0,c1,c2,setRow_heap w _ _ _ _ _ c3,uy,c5.keep hn (aS hI) sn YC⟩
 refine .of rfl ?_
 unfold Does
 rw[hr]
 refine⟨_,hI.move (B':=β id) (R':=Xk b sz m ag E f) (w':=w.setRow b #[s]) hV hG hk (iJ hu) ⟨rfl,rfl,rfl,Nat.le_of_eq size_setRow.symm,λk hk hn=>aE λe=>hn (e▸hgx)⟩ (λk hk=>.inl hk) (yQ hrel) ?_⟩
 intro w'' he
 have hlt:∀k,β id k->k<(w.setRow b #[s]).heap.size:=λk hk=>(yQ hrel k hk).1
 have hb:∀k,β id k->w''.heap[k]?=(w.setRow b #[s]).heap[k]?:=λk hk=>he.block k (hlt k hk) λo ho=>ho.2 hk
 obtain⟨_,_,_,_,d3,_,d5⟩:=hrel
 have ki:cL (minus (own c V none_ β) (β id)) (w.setRow b #[s]):=λk o hk=>by
  obtain⟨k1,k2⟩:=aS hI k o hk.1
  exact⟨by rw[size_setRow]; exact k1,λu gB=>k2 u (by rw[<-World.cell?_of_block (w:=w) (w':=w.setRow b #[s]) (a:=⟨k,o,none⟩) (aE (show k≠b fromλe=>hk.2 (by rw[e]; exact hgx)))]; exact gB)⟩
 exact⟨s,X,T0,c1,c2,(hb b hgx).trans (setRow_heap w _ _ _ _ _ c3),uy,(c5.keep hn (aS hI) sn YC).keep hn ki he λk hk=>hb k ((c1 k).2 (.inr hk))⟩
variable {NG:TypeId} {pos2:String} {xE:Array Edge}
theorem abl {T2:TypeId} (f':Nat->Pred) (hf':∀i w v,(if i<m then f i else p) w v->i<m+1->f' i w v) (hk:V[n0]?=some (bxS id b sz m ag E f s):=by exact rfl) (h1:Has [0] G 0 x (bg s):=by exact hs) (h2:Has [0] G 0 y (aA sz ag 1 λ_=>p):=by exact hs) (h3:∀s',Has [0] (⟨none,none,d,bg s'⟩::G) 0 z (bg (.pointer (some ⟨b,0,none⟩))):=by intro s'; exact hs) (hmax:m+1<=1073741824:=by omega)
  (Ej:∀i,aK (f i):=by intro i; exact Q8) (hnp:aK p:=by exact Q8) (hfit:Fits sz ag p:=by exact oK) (hagg:ag=false->sz=1:=by intro h; first|cases h|rfl) (ht:CP P T tx E sz=true:=by kernel_rfl) (kj:Gu P T2 false 1=true:=by kernel_rfl) (hV:cQ V=true:=by kernel_rfl) (hG:eC G=true:=by kernel_rfl) (hu:jo V id n0=true:=by kernel_rfl) (hd':decide (d<c.N)=true:=by kernel_rfl) (OP:(V.all λx=>x.slot != d)=true:=by kernel_rfl) (RG:(G.all λx=>x.slot != d)=true:=by kernel_rfl):
  js P ops (Inv c V [] G none_) [⟨some d,.call ⟨.builtin .append,#[x,y],#[T,tx]⟩,ty,pos,aft,none⟩,⟨none,.store T2 z (.tmp d),NG,pos2,xE,none⟩] (Inv c (V.set n0 (uf id b sz (m+1) ag E f')) [] G none_):=by
 have Fh:=(List.getElem?_eq_some_iff.1 hk).1
 refine⟨_,Jl h1 h2 (jt ht) hagg hfit Ej hnp hmax hk hV hG hu hd' OP RG,_,λa w h=>?_,rfl⟩
 obtain⟨s',hI⟩:=h
 have gH:∀(l:List Vr) (x y:Vr),(l.set n0 x).set n0 y=l.set n0 y:=λl x y=>by simp
 have Ig:∀{R:Rel},cQ (V.set n0 (eH id id R))=true:=λ{R}=>by
  unfold cQ at hV ⊢
  rw[List.all_eq_true]at hV ⊢
  intro x hx
  rcases List.mem_or_eq_of_mem_set hx with hx|rfl
  ·exact hV x hx
  ·rfl
 have huq:∀{R:Rel},jo (V.set n0 (eH id id R)) id n0=true:=λ{R}=>by
  unfold jo
  rw[List.all_eq_true]
  rintro⟨y,q⟩ hy
  have hy:=List.mem_iff_getElem?.1 hy
  obtain⟨i,hi⟩:=hy
  simp only[List.getElem?_zipIdx,Option.map_eq_some_iff]at hi
  obtain⟨y',hy',e⟩:=hi
  simp only[Prod.mk.injEq]at e
  obtain⟨rfl,rfl⟩:=e
  by_cases hin:i=n0
  ·subst hin; simp
  ·rw[List.getElem?_set_ne (Ne.symm hin)]at hy'
   have:=iJ hu y' i hy'
   by_cases hid:y'.id=id
   ·exact absurd (this hid) hin
   ·simp[hid]
 have hg:eC (⟨none,none,d,bg s'⟩::G)=true:=by unfold eC at hG ⊢; rw[List.all_cons,hG]; rfl
 have hst:=M7 (ops:=ops) (n0:=n0) (T:=T2) (ty:=NG) (pos:=pos2) (aft:=xE) (V:=V.set n0 (eH id id (wH b sz (m+1) ag E (λi=>if i<m then f i else p) s s'))) (by rw[List.getElem?_set_self Fh]) (h3 s') (.tmp 0 rfl rfl) (aY kj) (λi=>by by_cases h:i<m<;>simp only[h,if_true,if_false]; exact Ej i; exact hnp) Ig hg huq a w hI
 rw[gH]at hst
 unfold bV at hst ⊢
 simp only[Region.wanted]at hst ⊢
 refine Does.mono hst λa w ⟨β,h⟩=>⟨β,?_⟩
 have h:=h.Km (G':=G) λe he=>List.mem_cons_of_mem _ he
 have hx0:(V.set n0 (uf id b sz (m+1) ag E λi=>if i<m then f i else p))[n0]?=some (uf id b sz (m+1) ag E λi=>if i<m then f i else p):=by rw[List.getElem?_set_self Fh]
 have hB:aO (minus (own c (V.set n0 (uf id b sz (m+1) ag E λi=>if i<m then f i else p)) none_ β) (β id)) (λw=>Xk b sz (m+1) ag E (λi=>if i<m then f i else p) (β id) w (sl a id)) w:=((aN rfl).1 (h.var _ (List.mem_of_getElem? hx0) rfl)).2
 have hm:=h.move (B':=β id) (R':=Xk b sz (m+1) ag E f') Ig hG hx0 (iJ huq) (dN.refl _ _) (λk hk=>.inl hk) (λk hk=>(((aN rfl).1 (h.var _ (List.mem_of_getElem? hx0) rfl)).1 k hk).2) (hB.imp λw ⟨s,X,T,k1,k2,k3,k4,k5⟩=>⟨s,X,T,k1,k2,k3,k4,k5.imp (λh=>h) λ⟨bb,cap,cur,j1,j2,j3,j4,j5,j6,j7,j8⟩=>⟨bb,cap,cur,j1,j2,j3,j4,j5,j6,j7,λi hi=>hf' i _ _ (j8 i hi) hi⟩⟩)
 rw[gH]at hm
 have eβ:pW β id (β id)=β:=by
  funext q
  by_cases hq:q=id
  ·subst hq; exact rV
  ·exact yC hq
 rw[eβ]at hm
 exact hm
theorem x6 {F:Nat->Pred} (hp:∀w v,p w v->F m w v):∀i w v,(if i<m then F i else p) w v->i<m+1->F i w v:=λi w v h hi=>by
 by_cases BQ:i<m
 ·rw[if_pos BQ]at h; exact h
 ·rw[if_neg BQ]at h
  have e:i=m:=by omega
  subst e
  exact hp w v h
theorem Wn (hI:Inv c V [] G none_ a w) (k:Nat) (hk:V[k]?=some (uf i b sz m ag E f)) (hu:((V.eraseIdx k).all λy=>y.id != i)=true) (h1:kT i G=some (bg (.pointer (some ⟨b,0,none⟩))):=by exact rfl):Inv c (V.eraseIdx k) [] (⟨none,none,i,cZ 1 false (aA sz ag m f)⟩::G) none_ a w:=by
 obtain⟨β,h⟩:=hI
 have hx:=List.mem_of_getElem? hk
 have hsub:∀y,y∈V.eraseIdx k->y∈V/\y.id≠i:=λy hy=>⟨List.mem_of_mem_eraseIdx hy,by
  have:=List.all_eq_true.1 hu y hy
  simpa using this⟩
 have hO:=(aN rfl).1 (h.var _ hx rfl)
 have hB:aO (minus (own c V none_ β) (β i)) (λw=>Xk b sz m ag E f (β i) w (sl a i)) w:=hO.2
 have fF:∀k,β i k->mine c k:=λk hk'=>(hO.1 k hk').1
 obtain⟨k1,ot⟩:=gG h1
 have es:sl a i=.pointer (some ⟨b,0,none⟩):=(h.jM _ (List.mem_of_getElem? ot) rfl rfl).out
 have eo:∀k' o,own c (V.eraseIdx k) none_ β k' o->minus (own c V none_ β) (β i) k' o:=by
  rintro k' o (hM|⟨y,hy,q1,q2,q3⟩)
  ·exact⟨.inl hM,λhb=>jE h (fF k' hb) hM⟩
  ·obtain⟨hy,hid⟩:=hsub y hy
   exact⟨.inr ⟨y,hy,q1,q2,q3⟩,λhb=>h.apart y _ k' hy hx q1 rfl hid q2 hb⟩
 refine⟨β,h.size,h.defers,h.below,h.old,λy hy hl=>(h.var y (hsub y hy).1 hl).keep rfl rfl (λ_ _=>rfl) (Nat.le_refl _) (λF hF=>hF.sub λk o _ hh=>(eo k o hh).1) (λF hF=>hF.sub λk o _ hh=>⟨(eo k o hh.1).1,hh.2⟩) rfl,λy z g hy hz=>h.apart y z g (hsub y hy).1 (hsub z hz).1,(λp hp=>by cases hp),λe he ho hf'=>?_⟩
 rcases List.mem_cons.1 he with rfl|he
 ·intro w' hw'
  show cZ 1 false (aA sz ag m f) w' (sl a i)
  rw[es]
  obtain⟨s,X,T,c1,c2,c3,c4,c5⟩:=hB w' (hw'.mono λk o _ hh=>eo k o hh)
  refine⟨b,0,[s],rfl,rfl,λj v hj=>?_,?_⟩
  ·simp only[World.cell?,c3]
   rw[Nat.zero_add]
   simpa using hj
  ·show aA sz ag m f w' s
   rcases c5 with⟨e,hm,_⟩|⟨bb,cap,cur,e,_,d3,d4,d5,d6,_,d8⟩
   ·subst e hm
    exact⟨none,0,rfl,Nat.le_refl _,Nat.zero_le _,λh=>absurd h (Nat.lt_irrefl 0)⟩
   ·subst e
    refine⟨_,cap,rfl,d5,d6,λ_=>⟨bb,0,rfl,λq hq=>⟨(cur.drop (q*sz)).take sz,?_,λj v hj=>?_,d8 q hq⟩⟩⟩
    ·have:=Nat.mul_le_mul_right sz (Nat.lt_of_lt_of_le hq d5)
     rw[Nat.succ_mul]at this
     rw[List.length_take,List.length_drop]
     omega
    ·rw[Nat.zero_add]
     exact fY d3 _ _ j v hj
 ·exact(h.jM e he ho hf').sub λk o _ hh=>(eo k o hh).1
def pGr (sz m:Nat) (ag:Bool) (E:TypeId) (f:Nat->Pred) (s:Value):Rel:=λB w _=>NJ sz m ag E f s B w
abbrev AO (id sz m:Nat) (ag:Bool) (E:TypeId) (f:Nat->Pred) (s:Value):Vr:=eH id id (pGr sz m ag E f s)
theorem OJ {w:World} (h:NJ sz m ag E f s B w):∀k,B k->k<w.heap.size/\∀o v,w.cell? ⟨k,o,none⟩=some v->iw v:=by
 intro k hk
 rcases h with⟨_,_,h6⟩|⟨bb,cap,cur,_,k2,k3,_,_,_,k7,_⟩
 ·exact absurd hk (h6 k)
 ·have:=(k2 k).1 hk
  subst this
  refine⟨(Array.getElem?_eq_some_iff.1 k3).1,λo v hc=>?_⟩
  simp only[World.cell?,k3]at hc
  have:cur[o]?=some v:=by simpa using hc
  exact k7 v (List.mem_of_getElem? this)
theorem ZY {V:List Vr} {N m':Nat} {f':Nat->Pred} (hm:m=m':=by first|rfl|omega) (hf:∀i,i<m->∀w v,f i w v->f' i w v:=by exactλ_ _ _ _ h=>h) (h:mU N V=some (AO N sz m ag E f s):=by exact rfl):∃r:Rel,mU (AO N sz m' ag E f' s).id V=some ⟨(AO N sz m' ag E f' s).id,(AO N sz m' ag E f' s).slot,none,none,(AO N sz m' ag E f' s).kd,(AO N sz m' ag E f' s).T,(AO N sz m' ag E f' s).n,(AO N sz m' ag E f' s).agg,r,[]⟩/\((AO N sz m' ag E f' s).born=none/\(AO N sz m' ag E f' s).dead=none/\(AO N sz m' ag E f' s).st=[])/\∀F w v,r F w v->(AO N sz m' ag E f' s).c0 F w v:=by
 subst hm
 refine⟨_,h,⟨rfl,rfl,rfl⟩,λF w v h5=>h5.imp (λh=>h) ?_⟩
 rintro⟨bb,cap,cur,k1,k2,k3,k4,k5,k6,k7,k8⟩
 exact⟨bb,cap,cur,k1,k2,k3,k4,k5,k6,k7,λi hi=>hf i hi _ _ (k8 i hi)⟩
theorem Zz (f:Nat->Pred) (hI:Inv c V [] G none_ a w) (hid:(V.all λy=>y.id != id)=true:=by kernel_rfl):Inv c (V++[AO id sz 0 ag E f (.slice none 0 0)]) [] G none_ a w:=by
 obtain⟨β,h⟩:=hI
 rw[List.all_eq_true]at hid
 have hne:∀y,y∈V->y.id≠id:=λy hy=>by simpa using hid y hy
 have e1:∀y,y∈V->pW β id (λ_=>False) y.id=β y.id:=λy hy=>yC (hne y hy)
 have eN:∀k,¬pW β id (λ_=>False) id k:=λk hk=>by rw[rV]at hk; exact hk
 have hmem:∀y,y∈V++[AO id sz 0 ag E f (.slice none 0 0)]->y∈V\/y=AO id sz 0 ag E f (.slice none 0 0):=λy hy=>by simpa using hy
 have hown:∀k o,own c (V++[AO id sz 0 ag E f (.slice none 0 0)]) none_ (pW β id λ_=>False) k o->own c V none_ β k o:=by
  rintro k o (h1|⟨y,hy,h1,h2,h3⟩)
  ·exact .inl h1
  ·rcases hmem y hy with hy|rfl
   ·rw[e1 y hy]at h2
    exact .inr ⟨y,hy,h1,h2,h3⟩
   ·exact absurd h2 (eN k)
 refine⟨pW β id λ_=>False,h.size,h.defers,h.below,h.old,λy hy hl=>?_,λy y' g hy hy' hl hl' O0=>?_,(λp hp=>by cases hp),λe he ho hf=>(h.jM e he ho hf).sub λk o _ hk=>hown k o hk⟩
 ·rcases hmem y hy with hy|rfl
  ·exact(h.var y hy hl).keep rfl (e1 y hy) (λ_ _=>rfl) (Nat.le_refl _) (λ_ hF=>hF.sub λk o _ hk=>hown k o hk) (λ_ hF=>hF.sub λk o _ hk=>⟨hown k o hk.1,hk.2⟩) rfl
  ·exact(aN rfl).2 ⟨λk hk=>absurd hk (eN k),λ_ _=>.inl ⟨rfl,rfl,eN⟩⟩
 ·rcases hmem y hy with hy|rfl<;>rcases hmem y' hy' with hy'|rfl
  ·rw[e1 y hy,e1 y' hy']
   exact h.apart y y' g hy hy' hl hl' O0
  ·exactλ_=>eN g
  ·exactλh2=>absurd h2 (eN g)
  ·exact absurd rfl O0
theorem UQ {e:Nat} (f':Nat->Pred) (hf':∀i w v,(if i<m then f i else p) w v->i<m+1->f' i w v) (hk:V[n0]?=some (AO id sz m ag E f s):=by exact rfl) (h1:Has [0] G 0 x (bg s):=by exact hs) (h2:Has [0] G 0 y (aA sz ag 1 λ_=>p):=by exact hs) (hmax:m+1<=1073741824:=by omega)
  (Ej:∀i,aK (f i):=by intro i; exact Q8) (hnp:aK p:=by exact Q8) (hfit:Fits sz ag p:=by exact oK) (hagg:ag=false->sz=1:=by intro h; first|cases h|rfl) (ht:CP P T tx E sz=true:=by kernel_rfl) (hV:cQ V=true:=by kernel_rfl) (hG:eC G=true:=by kernel_rfl) (hu:jo V id n0=true:=by kernel_rfl) (hfr:J9 V G d e c.N=true:=by kernel_rfl):
  js P ops (Inv c V [] G none_) [⟨some d,.call ⟨.builtin .append,#[x,y],#[T,tx]⟩,ty,pos,aft,none⟩,⟨some e,.assign (.tmp d),NG,pos2,xE,none⟩] (λa w=>∃s',Inv c (V.set n0 (AO id sz (m+1) ag E f' s')) [] (⟨none,none,e,bg s'⟩::G) none_ a w):=by
 unfold J9 at hfr
 simp only[Bool.and_eq_true,List.all_eq_true,decide_eq_true_eq,bne_iff_ne]at hfr
 obtain⟨fV,fG,Vh,heN,Q3⟩:=hfr
 refine⟨λa w=>∃s',Inv c (V.set n0 (AO id sz (m+1) ag E f' s')) [] (⟨none,none,d,bg s'⟩::G) none_ a w,?_,_,?_,rfl⟩
 ·rintro a w ⟨β,hI⟩
  have hx0:=List.mem_of_getElem? hk
  have hO:=(aN rfl).1 (hI.var _ hx0 rfl)
  have hB:aO (minus (own c V none_ β) (β id)) (λw=>NJ sz m ag E f s (β id) w) w:=hO.2
  have YB:∀k,β id k->∀o,own c V none_ β k o:=λk hk o=>.inr ⟨_,hx0,rfl,hk,Nat.zero_le _⟩
  obtain⟨w',X',s',hr,hle,W6,hgr⟩:=BN (ty:=ty) (yv:=a.eval y) (aS hI) YB hB.out (h2.spec hI oG) (jt ht) hagg hfit Ej hnp hmax
  have ex:a.eval x=s:=(h1.spec hI oG).out
  rw[<-ex]at hr
  have hn':∀i,aK (if i<m then f i else p):=λi=>by by_cases h:i<m<;>simp only[h,if_true,if_false]; exact Ej i; exact hnp
  refine .of rfl (fD hr ⟨s',pW β id X',?_⟩)
  have hm:=hI.move (B':=X') (R':=pGr sz (m+1) ag E f' s') (w':=w') hV hG hk (iJ hu) hle W6 (OJ hgr) ?_
  ·refine hm.DR Vh (λx hx=>?_) (λe he=>(fG e he).1) λ_ _=>rfl
   rcases List.mem_or_eq_of_mem_set hx with hx|rfl
   ·exact(fV x hx).1
   ·exact(fV _ hx0).1
  ·intro w'' he
   have ki:cL (minus (own c V none_ β) (β id)) w':=λk o hk=>by
    obtain⟨k1,k2⟩:=aS hI k o hk.1
    exact⟨Nat.lt_of_lt_of_le k1 hle.size,λu gB=>k2 u (by rw[<-World.cell?_of_block (w:=w) (w':=w') (a:=⟨k,o,none⟩) (hle.block k k1 hk.2)]; exact gB)⟩
   have hb:∀k,X' k->w''.heap[k]?=w'.heap[k]?:=λk hk=>he.block k (OJ hgr k hk).1 λo ho=>(W6 k hk).elim ho.2 λh=>absurd (aS hI k o ho.1).1 (Nat.not_lt.2 h)
   refine(hgr.keep hn' ki he hb).imp (λh=>h) ?_
   rintro⟨bb,cap,cur,j1,j2,j3,j4,j5,j6,j7,j8⟩
   exact⟨bb,cap,cur,j1,j2,j3,j4,j5,j6,j7,λi hi=>hf' i _ _ (j8 i hi) hi⟩
 ·rintro a w ⟨s',β,hI⟩
  have hv:a.eval (.tmp d)=s':=(hI.jM ⟨none,none,d,bg s'⟩ (List.mem_cons_self ..) rfl rfl).out
  have TF:=hI.Km (G':=G) λe he=>List.mem_cons_of_mem _ he
  have hx0:=List.mem_of_getElem? hk
  refine .of rfl ?_
  unfold Does
  have hr:(execOp a.eval ⟨some e,.assign (.tmp d),NG,pos2,xE,none⟩).run P w=.ok (.value s') w:=by rw[<-hv]; rfl
  rw[hr]
  refine⟨s',β,TF.DR heN (λx hx=>?_) (λe he=>(fG e he).2) λ_ _=>rfl⟩
  rcases List.mem_or_eq_of_mem_set hx with hx|rfl
  ·exact(fV x hx).2
  ·exact(fV _ hx0).2
theorem Wo (hI:Inv c V [] G none_ a w) (k slot:Nat) (hk:V[k]?=some (AO id sz m ag E f s)) (hu:((V.eraseIdx k).all λy=>y.id != id)=true) (h1:kT slot G=some (bg s):=by exact rfl):Inv c (V.eraseIdx k) [] (⟨none,none,slot,aA sz ag m f⟩::G) none_ a w:=by
 obtain⟨β,h⟩:=hI
 have hx:=List.mem_of_getElem? hk
 have hsub:∀y,y∈V.eraseIdx k->y∈V/\y.id≠id:=λy hy=>⟨List.mem_of_mem_eraseIdx hy,by
  have:=List.all_eq_true.1 hu y hy
  simpa using this⟩
 have hO:=(aN rfl).1 (h.var _ hx rfl)
 have hB:aO (minus (own c V none_ β) (β id)) (λw=>NJ sz m ag E f s (β id) w) w:=hO.2
 have fF:∀k,β id k->mine c k:=λk hk'=>(hO.1 k hk').1
 obtain⟨k1,ot⟩:=gG h1
 have es:sl a slot=s:=(h.jM _ (List.mem_of_getElem? ot) rfl rfl).out
 have eo:∀k' o,own c (V.eraseIdx k) none_ β k' o->minus (own c V none_ β) (β id) k' o:=by
  rintro k' o (hM|⟨y,hy,q1,q2,q3⟩)
  ·exact⟨.inl hM,λhb=>jE h (fF k' hb) hM⟩
  ·obtain⟨hy,hid⟩:=hsub y hy
   exact⟨.inr ⟨y,hy,q1,q2,q3⟩,λhb=>h.apart y _ k' hy hx q1 rfl hid q2 hb⟩
 refine⟨β,h.size,h.defers,h.below,h.old,λy hy hl=>(h.var y (hsub y hy).1 hl).keep rfl rfl (λ_ _=>rfl) (Nat.le_refl _) (λF hF=>hF.sub λk o _ hh=>(eo k o hh).1) (λF hF=>hF.sub λk o _ hh=>⟨(eo k o hh.1).1,hh.2⟩) rfl,λy z g hy hz=>h.apart y z g (hsub y hy).1 (hsub z hz).1,(λp hp=>by cases hp),λe he ho hf'=>?_⟩
 rcases List.mem_cons.1 he with rfl|he
 ·intro w' hw'
  show aA sz ag m f w' (sl a slot)
  rw[es]
  rcases hB w' (hw'.mono λk o _ hh=>eo k o hh)with⟨e,hm,_⟩|⟨bb,cap,cur,e,_,d3,d4,d5,d6,_,d8⟩
  ·subst e hm
   exact⟨none,0,rfl,Nat.le_refl _,Nat.zero_le _,λh=>absurd h (Nat.lt_irrefl 0)⟩
  ·subst e
   refine⟨_,cap,rfl,d5,d6,λ_=>⟨bb,0,rfl,λq hq=>⟨(cur.drop (q*sz)).take sz,?_,λj v hj=>?_,d8 q hq⟩⟩⟩
   ·have:=Nat.mul_le_mul_right sz (Nat.lt_of_lt_of_le hq d5)
    rw[Nat.succ_mul]at this
    rw[List.length_take,List.length_drop]
    omega
   ·rw[Nat.zero_add]
    exact fY d3 _ _ j v hj
 ·exact(h.jM e he ho hf').sub λk o _ hh=>(eo k o hh).1
end
end Wx
