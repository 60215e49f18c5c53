import Derived.Test.YtkcceahelokheaaGreatJLT15
namespace Wx
open Go Go.RowKit
variable {sz:Nat}
theorem OA {α:Type}:∀(n:Nat) (g:Nat->List α),(∀i,i<n->(g i).length=sz)->((List.range n).flatMap g).length=n*sz/\∀i,i<n->(((List.range n).flatMap g).drop (i*sz)).take sz=g i:=by
 intro n
 induction n with
 |zero=>intro g _; exact⟨by simp,λi h=>absurd h (Nat.not_lt_zero i)⟩
 |succ n ih=>
  intro g h
  obtain⟨h1,h2⟩:=ih g λi hi=>h i (by omega)
  have hn:=h n (by omega)
  have e:(List.range (n+1)).flatMap g=(List.range n).flatMap g++g n:=by rw[List.range_succ,List.flatMap_append]; simp
  rw[e]
  refine⟨by rw[List.length_append,h1,hn,Nat.add_mul,Nat.one_mul],λi hi=>?_⟩
  rcases Nat.lt_or_ge i n with hin|hin
  ·have hle:(i+1)*sz<=n*sz:=Nat.mul_le_mul_right _ hin
   rw[Nat.add_mul,Nat.one_mul]at hle
   rw[List.drop_append_of_le_length (by omega),List.take_append_of_le_length (by rw[List.length_drop]; omega)]
   exact h2 i hin
  ·have hi':i=n:=by omega
   subst hi'
   rw[<-h1,List.drop_left,<-hn,List.take_length]
variable {M:Nat->Nat->Prop} {w:World} {agg:Bool}
theorem MG {p:Pred} {b o:Nat} (h1:agg=false->sz=1) (hf:Fits sz agg p) (h:aO M (λw=>cZ sz agg p w (.pointer (some ⟨b,o,none⟩))) w):
  ∃cs:List Value,cs.length=sz/\(∀j u,cs[j]?=some u->w.cell? ⟨b,o+j,none⟩=some u/\¬M b (o+j))/\(∀u∈cs,iw u/\u.oneCell'=true)/\aO M (λw=>p w (aj agg cs)) w:=by
 have Lf:∀{cs ds:List Value},cs.length=sz->ds.length=sz->aj agg cs=aj agg ds->cs=ds:=by
  intro cs ds e1 e2 e
  cases agg with
  |true=>exact bG e
  |false=>
   have:=h1 rfl
   match cs,ds,e1,e2 with
   |[x],[y],_,_=>simp only[aj,Bool.false_eq_true,if_false,List.headD_cons]at e; rw[e]
   |[],_,e1,_=>simp at e1; omega
   |_::_::_,_,e1,_=>simp at e1; omega
   |[_],[],_,e2=>simp at e2; omega
   |[_],_::_::_,_,e2=>simp at e2; omega
 obtain⟨b0,o0,cs,e,hl,hc,hb⟩:=FY h1 hf h
 injection e with e
 injection e with e
 injection e with e2 e3
 subst e2 e3
 have hfit:∀u∈cs,iw u/\u.oneCell'=true:=by
  obtain⟨ds,e4,hl4,_,h4⟩:=hf w _ hb.out
  rw[Lf hl hl4 e4]
  exact h4
 refine⟨cs,hl,λj u hj=>⟨hc j u hj,EA h (hc j u hj) ?_⟩,hfit,hb⟩
 rintro w' hw' ⟨b',o',cs',e,hl',hc',hp'⟩
 injection e with e
 injection e with e
 injection e with e2 e3
 subst e2 e3
 obtain⟨ds,e4,hl4,_,h4⟩:=hf w' _ hp'
 have e5:=Lf hl' hl4 e4
 subst e5
 have hj':j<cs'.length:=by
  rcases Nat.lt_or_ge j cs.length with h'|h'
  ·omega
  ·rw[List.getElem?_eq_none h']at hj; cases hj
 have h6:=hc' j _ (List.getElem?_eq_getElem hj')
 rw[hw']at h6
 injection h6 with h6
 exact((h4 _ (List.getElem_mem hj')).1 0).1 h6.symm
variable {n:Nat} {f:Nat->Pred}
theorem mO {v:Value} (h1:agg=false->sz=1) (hf:∀i,i<n->Fits sz agg (f i)) (h:aO M (λw=>aA sz agg n f w v) w):
  ∃(A:Option Addr) (cap:Nat) (cs:List Value),v=.slice A n cap/\n<=cap/\cap<=maxLen/\cs.length=n*sz/\(∀u∈cs,iw u/\u.oneCell'=true) /\
   (0<n->∃b o,A=some ⟨b,o,none⟩/\∀j u,cs[j]?=some u->w.cell? ⟨b,o+j,none⟩=some u/\¬M b (o+j))/\∀i,i<n->aO M (λw=>f i w (aj agg ((cs.drop (i*sz)).take sz))) w:=by
 obtain⟨A,cap,rfl,hn,hcap,hel⟩:=h.out
 rcases Nat.eq_zero_or_pos n with h0|hpos
 ·subst h0
  exact⟨A,cap,[],rfl,hn,hcap,by simp,(λu hu=>by cases hu),(λh=>absurd h (Nat.lt_irrefl 0)),λi hi=>absurd hi (Nat.not_lt_zero i)⟩
 ·obtain⟨b,o,rfl,_⟩:=hel hpos
  have el:∀i,i<n->∃cs:List Value,cs.length=sz/\(∀j u,cs[j]?=some u->w.cell? ⟨b,o+i*sz+j,none⟩=some u/\¬M b (o+i*sz+j))/\(∀u∈cs,iw u/\u.oneCell'=true)/\aO M (λw=>f i w (aj agg cs)) w:=by
   intro i hi
   refine MG h1 (hf i hi) λw' he=>?_
   obtain⟨A',cap',e,_,_,ack⟩:=h w' he
   injection e with e _ _
   obtain⟨b',o',e',YP⟩:=ack hpos
   rw[<-e]at e'
   injection e' with e'
   injection e' with e2 e3
   subst e2 e3
   obtain⟨cs,k1,k2,k3⟩:=YP i hi
   exact⟨_,_,cs,rfl,k1,k2,k3⟩
  let g:Nat->List Value:=λi=>if h:i<n then Classical.choose (el i h)else[]
  have hg:∀i (hi:i<n),(g i).length=sz/\(∀j u,(g i)[j]?=some u->w.cell? ⟨b,o+i*sz+j,none⟩=some u/\¬M b (o+i*sz+j))/\(∀u∈g i,iw u/\u.oneCell'=true)/\aO M (λw=>f i w (aj agg (g i))) w:=by
   intro i hi
   have e:g i=Classical.choose (el i hi):=dif_pos hi
   rw[e]
   exact Classical.choose_spec (el i hi)
  obtain⟨hl,Dk⟩:=OA n g λi hi=>(hg i hi).1
  refine⟨_,cap,(List.range n).flatMap g,rfl,hn,hcap,hl,?_,λ_=>⟨b,o,rfl,?_⟩,λi hi=>?_⟩
  ·intro u hu
   rw[List.mem_flatMap]at hu
   obtain⟨i,hi,hu⟩:=hu
   exact(hg i (List.mem_range.1 hi)).2.2.1 u hu
  ·intro j u hj
   have Fg:j<n*sz:=by
    rw[<-hl]
    rcases Nat.lt_or_ge j ((List.range n).flatMap g).length with h'|h'
    ·exact h'
    ·rw[List.getElem?_eq_none h']at hj; cases hj
   have hsz:0<sz:=by
    rcases Nat.eq_zero_or_pos sz with hz|hz
    ·rw[hz]at Fg; simp at Fg
    ·exact hz
   have hi:j/sz<n:=Nat.div_lt_of_lt_mul (by rw[Nat.mul_comm]; exact Fg)
   have hr:j%sz<sz:=Nat.mod_lt _ hsz
   have hd:j/sz*sz+j%sz=j:=by rw[Nat.mul_comm]; exact Nat.div_add_mod j sz
   have hk:(g (j/sz))[j%sz]?=some u:=by
    rw[<-Dk _ hi,List.getElem?_take,if_pos hr,List.getElem?_drop,hd]
    exact hj
   have:=(hg _ hi).2.1 _ _ hk
   rwa [Nat.add_assoc,hd]at this
  ·rw[Dk i hi]
   exact(hg i hi).2.2.2
theorem Wq {cap:Nat} {A:Option Addr} {cs:List Value} (hn:n<=cap) (hcap:cap<=maxLen) (hl:cs.length=n*sz)
  (hc:0<n->∃b o,A=some ⟨b,o,none⟩/\∀j u,cs[j]?=some u->w.cell? ⟨b,o+j,none⟩=some u) (hf:∀i,i<n->f i w (aj agg ((cs.drop (i*sz)).take sz))):aA sz agg n f w (.slice A n cap):=by
 refine⟨A,cap,rfl,hn,hcap,λhpos=>?_⟩
 obtain⟨b,o,e,hc⟩:=hc hpos
 refine⟨b,o,e,λi hi=>⟨(cs.drop (i*sz)).take sz,?_,λj u hj=>?_,hf i hi⟩⟩
 ·have hle:(i+1)*sz<=n*sz:=Nat.mul_le_mul_right _ hi
  rw[Nat.add_mul,Nat.one_mul]at hle
  rw[List.length_take,List.length_drop,hl]
  omega
 ·rw[List.getElem?_take]at hj
  split at hj
  ·rw[List.getElem?_drop]at hj
   have:=hc _ _ hj
   rwa [<-Nat.add_assoc]at this
  ·cases hj
section
variable {P:Program} {ops:Array Oper} {ms:List Nat} {c:fT} {V:List Vr} {A:List Al} {G:List bz} {i:Nat} {L:Nat->Bool} {β:Nat->Nat->Prop} {a:Act} {w:World} {o:Oper}{d:Nat} {x y z:Operand} {ty:TypeId} {pos:String} {aft:Array Edge}
structure tW (P:Program) (T tx E:TypeId) (sz:Nat):Prop where
 under:P.underlying T=some (.slice E)
 src:∃E',P.underlying tx=some (.slice E')
 info:∃ti zv,P.info? E=some ti/\ti.size=sz/\ti.zero=some zv/\zv.cells.size=sz/\(∀u∈zv.cells.toList,iw u)/\ti.bytes<=4096
theorem iz {zs:Array Value} (h:∀u∈zs.toList,iw u) (n:Nat):∀u∈(Builtin.zeroCells zs n).toList,iw u:=by
 intro u hu
 simp only[Builtin.zeroCells,Array.toList_map,List.mem_map,Array.mem_toList_iff,Array.mem_range]at hu
 obtain⟨k,hk,rfl⟩:=hu
 have hpos:0<zs.size:=by
  rcases Nat.eq_zero_or_pos zs.size with hz|hz
  ·rw[hz]at hk; simp at hk
  ·exact hz
 have hlt:k%zs.size<zs.size:=Nat.mod_lt _ hpos
 rw[getElem!_pos zs _ hlt]
 exact h _ (by simp)
variable {w':World}
theorem gF {M M':Nat->Nat->Prop} {w:World} (e3:Ext M w w') (hown:∀k j,k<w.heap.size->M' k j->M k j) {F:World->Prop} (hF:aO M F w):aO M' F w':=λw'' he=>by
 refine hF w'' ⟨Nat.le_trans e3.size he.size,λk hk hno=>?_,λk j v hno hv=>?_⟩
 ·rw[he.block k (Nat.lt_of_lt_of_le hk e3.size) λj h'=>hno j (hown k j hk h')]
  exact e3.block k hk hno
 ·have hk:=World.block_lt_of_cell? w _ hv
  exact he.cell k j v (λh'=>hno (hown k j hk h')) (e3.cell k j v hno hv)
theorem bu.appended (h:bu c V A G L β a w) (hd:qc ms i L) (hwf:nR c.N ops V A G i o) {yv:Vr} {E:TypeId} {sz m n:Nat} {agg:Bool} {f g:Nat->Pred} {olds news:List Value} (hy:yv∈V) (qp:yv.born=some i) (cW:yv.kd=.grow (m+n) sz) (TG:yv.T=E) (hst:eU o.op=false) (LV:iY o.op=false)
  (dX:(A.all λp=>p.var != yv.id||p.tag.any λj=>(ms.getD j 0).testBit i)=true) (dB:olds.length=m*sz) (ql:news.length=n*sz)
  (Ic:∀i,i<m->aO (own c V L β) (λw=>f i w (aj agg ((olds.drop (i*sz)).take sz))) w) (Ej:∀i,i<n->aO (own c V L β) (λw=>g i w (aj agg ((news.drop (i*sz)).take sz))) w)
  (hp:Post G i (aA sz agg (m+n) λj=>if j<m then f j else g (j-m)))
  {w':World} {blk cap':Nat} {cur':List Value} (jq:w'.heap[blk]?=some (.cells cur'.toArray E (0,0))) (qo:cur'.length=cap'*sz) (hle:m+n<=cap') (hmx:cap'<=maxLen) (uy:∀u∈cur',iw u) (Ih:cur'.take ((m+n)*sz)=olds++news) (fF:mine c blk)
  (e0:w'.os=w.os/\w'.tape=w.tape/\w'.output=w.output/\w.heap.size<=w'.heap.size)
  (e1:∀k,k<c.w0.heap.size->¬c.kr k->w'.heap[k]?=w.heap[k]?)
  (e2:∀z,z∈V->live L z=true->z.dead≠some i->∀k,β z.id k->w'.heap[k]?=w.heap[k]?/\¬k=blk)
  (e3:Ext (own c V L β) w w') (e4:∀z,z∈V->live L z=true->z.dead≠some i->Ext (minus (own c V L β) (β z.id)) w w')
  (e5:∀j,blk<w.heap.size->(m+n)*sz<=j->own c V L β blk j):
  Inv c V A G (upd L i) (a.put o.dst (.slice (some ⟨blk,0,none⟩) (m+n) cap')) w':=by
 have hlo:yv.lo=(m+n)*sz:=by unfold Vr.lo; rw[cW]
 have lR:=hwf.v2 yv hy qp
 have hN:(olds++news).length=(m+n)*sz:=by rw[List.length_append,dB,ql,Nat.add_mul]
 refine h.tH hd hwf hy qp hst LV dX (B':=(·=blk)) e0 e1 e2 e3 e4 (λk j hk e hj=>by subst e; exact e5 j hk (hlo▸hj)) (λβ' Dr hown _=>?_) (λβ' Dr hown sE e he ht=>?_)
 ·refine(bT cW).2 (.inr ⟨blk,cap',cur',λk=>by rw[Dr],?_,fF,by rw[TG]; exact jq,qo,hle,hmx,uy⟩)
  rw[lR,fO (by rw[h.size]; exact hwf.sz _ lR)]
 ·refine aO.imp (F:=λw=>aA sz agg (m+n) (λj=>if j<m then f j else g (j-m)) w (.slice (some ⟨blk,0,none⟩) (m+n) cap')) (λw'' sn=>?_) λw=>hp.spec hwf he ht w _
  refine Wq hle hmx hN (λ_=>⟨blk,0,rfl,λj u hj=>?_⟩) (λj hj=>?_)
  ·have Fg:j<(m+n)*sz:=by
    rw[<-hN]
    rcases Nat.lt_or_ge j (olds++news).length with h'|h'
    ·exact h'
    ·rw[List.getElem?_eq_none h']at hj; cases hj
   refine sn.cell blk (0+j) u ?_ ?_
   ·rw[Nat.zero_add]
    intro ho
    rcases sE _ _ ho with⟨_,h3⟩|h1|⟨z,hz,k1,k2,h2⟩
    ·rw[hlo]at h3; omega
    ·obtain⟨⟨k1,k2⟩,_⟩:=h.old _ _ h1
     exact fF.elim (λh=>by omega) k2
    ·exact(e2 z hz k1 k2 blk h2).2 rfl
   ·rw[Nat.zero_add]
    simp only[World.cell?,jq]
    rw[<-Ih,List.getElem?_take,if_pos Fg]at hj
    simpa using hj
  ·have Dk:∀(l r:List Value) (q:Nat),(q+1)*sz<=l.length->((l++r).drop (q*sz)).take sz=(l.drop (q*sz)).take sz:=λl r q hq=>by
    rw[Nat.add_mul,Nat.one_mul]at hq
    rw[List.drop_append_of_le_length (by omega),List.take_append_of_le_length (by rw[List.length_drop]; omega)]
   by_cases hjm:j<m
   ·rw[if_pos hjm,Dk _ _ _ (by rw[dB]; exact Nat.mul_le_mul_right _ hjm)]
    exact gF e3 hown (Ic j hjm) w'' sn
   ·rw[if_neg hjm]
    have e:(olds++news).drop (j*sz)=news.drop ((j-m)*sz):=by
     have:j*sz=olds.length+(j-m)*sz:=by rw[dB,<-Nat.add_mul]; congr 1; omega
     rw[this,<-List.drop_drop,List.drop_left]
    rw[e]
    exact gF e3 hown (Ej (j-m) (by omega)) w'' sn
variable {sz n:Nat} {tx:TypeId}
theorem Am {cap:Nat} {E':TypeId} {A':Option Addr} {news:List Value} (hk:P.underlying tx=some (.slice E')) (hl:news.length=n*sz) (h1:∀u∈news,u.oneCell'=true) (hc:0<n->∃b o,A'=some ⟨b,o,none⟩/\∀j u,news[j]?=some u->w.cell? ⟨b,o+j,none⟩=some u):Src P sz tx (.slice A' n cap) n news w:=by
 rcases Nat.eq_zero_or_pos n with h0|hpos
 ·subst h0
  have hn:news=[]:=List.eq_nil_of_length_eq_zero (by rw[hl]; simp)
  subst hn
  cases A' with
  |none=>exact Src.ofNil w hk cap
  |some b=>exact Src.ofSlice w hk b 0 cap [] (by simp) (λj u hj=>by simp at hj) (λu hu=>by cases hu)
 ·obtain⟨b,o,rfl,hcell⟩:=hc hpos
  exact Src.ofSlice w hk ⟨b,o,none⟩ n cap news hl (λj u hj=>by rw[Addr.add_mid]; exact hcell j u hj) h1
variable {T:TypeId}
theorem fD {x y:Operand} {v:Value} {K:Act->World->Prop} (hr:(Builtin.append_ #[T,tx] ty #[a.eval x,a.eval y]).run P w=.ok v w') (hK:K (a.put (some d) v) w'):Does P ⟨some d,.call ⟨.builtin .append,#[x,y],#[T,tx]⟩,ty,pos,aft,none⟩ a w K:=by
 have hrun:(execOp a.eval ⟨some d,.call ⟨.builtin .append,#[x,y],#[T,tx]⟩,ty,pos,aft,none⟩).run P w=.ok (.value v) w':=by
  show(do let d <-resolve a.eval ⟨.builtin .append,#[x,y],#[T,tx]⟩ ty; invoke d.target d.args).run P w=_
  simp only[resolve,invoke,pure_bind,builtin]
  rw[show(#[x,y]:Array Operand).map a.eval=#[a.eval x,a.eval y] by simp,Sem.run_bind,hr]
  rfl
 exact dH hrun hK
variable {m s:Nat} {agg:Bool} {f:Nat->Pred} {xv yv:Vr}
theorem rR {E:TypeId} {g:Nat->Pred} (k:Nat) (hk:V[k]?=some xv) (qO:xv.slot=s) (ho:bE ms i xv=true) (bR:xv.kd=.grow m sz) (gb:xv.dead=some i) (k2:Nat) (hk2:V[k2]?=some yv) (hb:yv.born=some i) (cW:yv.kd=.grow (m+n) sz)
  (hT:xv.T=E) (TG:yv.T=E) (gg:(V.all λz=>z.dead != some i||z.id==xv.id)=true) (dX:(A.all λp=>p.var != yv.id||p.tag.any λj=>(ms.getD j 0).testBit i)=true)
  (h1:Has ms G i (.tmp s) (aA sz agg m f)) (h2:Has ms G i y (aA sz agg n g)) (ht:tW P T tx E sz) (hagg:agg=false->sz=1) (hf:∀i,i<m->Fits sz agg (f i)) (hg:∀i,i<n->Fits sz agg (g i)) (hmax:m+n<=1073741824)
  (hp:Post G i (aA sz agg (m+n) λj=>if j<m then f j else g (j-m))):
  OpOk P ops ms c V A G i ⟨some d,.call ⟨.builtin .append,#[.tmp s,y],#[T,tx]⟩,ty,pos,aft,none⟩:=by
 refine gI (λL β a w hI hd hwf=>?_) rfl
 have hx:=List.mem_of_getElem? hk
 have hy:=List.mem_of_getElem? hk2
 have BU:=hd.live ho
 have sF:=(bT bR).1 (hI.var xv hx BU)
 obtain⟨A1,kR,olds,QW,LU,uw,dB,Vv,hoc,Ic⟩:=mO hagg hf (h1.spec hI hd)
 obtain⟨A2,yS,news,Rs,Nz,hc2,ql,uy,hnc,Ej⟩:=mO hagg hg (h2.spec hI hd)
 obtain⟨E',RQ⟩:=ht.src
 obtain⟨ti,zv,hi,hsz,hz,hzs,RT,hby⟩:=ht.info
 subst hsz
 have hsrc:∀w0:World,w0.heap=w.heap->Src P ti.size tx (a.eval y) n news w:=λ_ _=>by
  rw[Rs]
  exact Am RQ ql (λu hu=>(uy u hu).2) λh=>by
   obtain⟨b,o,e,hc⟩:=hnc h
   exact⟨b,o,e,λj u hj=>(hc j u hj).1⟩
 have hS:=hsrc w rfl
 have es:sl a xv.slot=a.eval (.tmp s):=by rw[qO]; rfl
 -- others' blocks
 have only:∀z,z∈V->live L z=true->z.dead≠some i->z.id≠xv.id:=λz hz _ sD e=>by
  have:=hwf.vu z xv hz hx e
  subst this
  exact sD gb
 -- a new block
 have fresh:∀(cur':List Value) (cap':Nat),cur'.length=cap'*ti.size->m+n<=cap'->cap'<=maxLen->(∀u∈cur',iw u)->cur'.take ((m+n)*ti.size)=olds++news ->
   (Builtin.append_ #[T,tx] ty #[a.eval (.tmp s),a.eval y]).run P w=.ok (.slice (some ⟨w.heap.size,0,none⟩) (m+n) cap') (w.drew.alloc (.cells cur'.toArray E)) ->
   Does P ⟨some d,.call ⟨.builtin .append,#[.tmp s,y],#[T,tx]⟩,ty,pos,aft,none⟩ a w (Inv c V A G (upd L i)):=by
  intro cur' cap' k1 k2 k3 k4 k5 hr
  have hb0:Below w.heap.size w (w.drew.alloc (.cells cur'.toArray E)):=Below.alloc (Below.drew (Below.refl _ _)) (Nat.le_refl _) _
  refine fD hr ?_
  exact hI.appended hd hwf (E:=E) (f:=f) (g:=g) (agg:=agg) hy hb cW TG rfl rfl dX dB ql Ic Ej hp (heap_alloc_new w.drew _) k1 k2 k3 k4 k5 (.inl hI.below.size) ⟨hb0.os,hb0.tape,hb0.output,hb0.size⟩ (λk hk _=>hb0.block k (Nat.lt_of_lt_of_le hk hI.below.size))
   (λz hz hl _ k hk=>⟨hb0.block k (cG hI hz hl hk),λe=>absurd e (Nat.ne_of_lt (cG hI hz hl hk))⟩) (Ext.bC hb0) (λz hz hl _=>Ext.bC hb0) (λj hj=>absurd hj (Nat.lt_irrefl _))
 have xj:∀(bs:Option Addr) (sc:Nat),a.eval (.tmp s)=.slice bs m sc->sc<m+n->(Builtin.firstCells ti.size m (.slice bs m sc)).run P w.drew=.ok olds.toArray w.drew ->
   Does P ⟨some d,.call ⟨.builtin .append,#[.tmp s,y],#[T,tx]⟩,ty,pos,aft,none⟩ a w (Inv c V A G (upd L i)):=by
  intro bs sc e hlt hold
  have hrun:=run_append_grow_src (P:=P) w T tx ty E ti zv ht.under hi hz bs m sc olds hold (a.eval y) n news hS hlt (by omega) (growslice_fits hlt (by
   have:(m+n)*ti.bytes<=1073741824*4096:=Nat.mul_le_mul hmax hby
   omega))
  have hge:=grownCap_ge w (m+n) sc E
  refine fresh (olds++news++(Builtin.zeroCells zv.cells (grownCap w (m+n) sc E-(m+n))).toList) (grownCap w (m+n) sc E) ?_ hge (grownCap_le_maxLen w (m+n) sc E (by unfold maxLen; omega)) ?_ ?_ ?_
  ·rw[List.length_append,List.length_append,dB,ql,Array.length_toList,size_zeroCells,hzs,<-Nat.add_mul,<-Nat.add_mul]
   congr 1; omega
  ·intro u hu
   rcases List.mem_append.1 hu with hu|hu
   ·rcases List.mem_append.1 hu with hu|hu
    ·exact(Vv u hu).1
    ·exact(uy u hu).1
   ·exact iz RT _ u hu
  ·rw[<-show(olds++news).length=(m+n)*ti.size by rw[List.length_append,dB,ql,Nat.add_mul],List.take_left]
  ·rw[e,hrun]
   congr 3
   apply Array.ext'
   simp
 rcases sF with⟨hB,hm0,BV⟩|⟨b,cap,cur,hB,BV,fF,jq,qo,Vp,hcm,yg⟩
 ·-- nil
  subst hm0
  have ho0:olds=[]:=List.eq_nil_of_length_eq_zero (by rw[dB]; simp)
  rw[es]at BV
  rcases Nat.eq_zero_or_pos n with h0|hpos
  ·subst h0
   have Fh:news=[]:=List.eq_nil_of_length_eq_zero (by rw[ql]; simp)
   subst Fh
   have hrun:=run_append_nothing (P:=P) w T tx ty E ti ht.under hi none 0 0 (Nat.le_refl 0) (a.eval y) hS
   rw[<-BV]at hrun
   refine fD hrun ?_
   refine hI.tH hd hwf hy hb rfl rfl dX (B':=λ_=>False) ⟨rfl,rfl,rfl,Nat.le_refl _⟩ (λ_ _ _=>rfl) (λ_ _ _ _ _ _=>⟨rfl,λh=>h⟩) (Ext.refl _ _) (λ_ _ _ _=>Ext.refl _ _) (λ_ _ _ h=>h.elim) (λβ' Dr _ _=>?_) (λβ' Dr hown _ e he ht'=>?_)
   ·have lR:=hwf.v2 yv hy hb
    refine(bT cW).2 (.inl ⟨λk=>by rw[Dr]; exactλh=>h,rfl,?_⟩)
    rw[lR,fO (by rw[hI.size]; exact hwf.sz _ lR)]
    exact BV
   ·refine aO.imp (F:=λw=>aA ti.size agg (0+0) (λj=>if j<0 then f j else g (j-0)) w (a.eval (.tmp s))) (λw'' _=>?_) λw=>hp.spec hwf he ht' w _
    rw[BV]
    exact⟨none,0,rfl,Nat.le_refl _,Nat.zero_le _,λh=>absurd h (Nat.lt_irrefl 0)⟩
  ·refine xj none 0 BV (by omega) ?_
   rw[ho0]
   exact run_firstCells_none w.drew ti.size 0 0 0
 ·-- a block
  rw[hT]at jq
  rw[es]at BV
  rw[BV]at QW
  injection QW with eA _ abt
  subst abt
  have AU:cur.take (m*ti.size)=olds:=by
   rcases Nat.eq_zero_or_pos m with h0|hpos
   ·subst h0
    rw[Nat.zero_mul,List.take_zero]
    exact(List.eq_nil_of_length_eq_zero (by rw[dB]; simp)).symm
   ·obtain⟨b',o',e,hc⟩:=hoc hpos
    rw[<-eA]at e
    injection e with e
    injection e with e2 e3
    subst e2 e3
    have hle:m*ti.size<=cap*ti.size:=Nat.mul_le_mul_right _ Vp
    refine lK (w:=w) (b:=b) (o:=0) (by rw[List.length_take,dB,qo]; omega) (λj u hj=>?_) (λj u hj=>(hc j u hj).1)
    rw[List.getElem?_take]at hj
    split at hj
    ·rw[Nat.zero_add]
     simp only[World.cell?,jq]
     simpa using hj
    ·cases hj
  by_cases hroom:m+n<=cap
  ·-- there is room
   have hN:m*ti.size+n*ti.size<=cap*ti.size:=by rw[<-Nat.add_mul]; exact Nat.mul_le_mul_right _ hroom
   have hsome:∀j,j<news.length->(w.cell? ⟨b,0+m*ti.size+j,none⟩).isSome=true:=by
    intro j hj
    simp only[World.cell?,jq]
    rw[List.getElem?_toArray,List.getElem?_eq_getElem (by rw[qo]; omega)]
    rfl
   have hfz:∀j,j<news.length->w.frozen? ⟨b,0+m*ti.size+j,none⟩=false:=by
    intro j hj
    simp[World.frozen?,jq]
   have hrun:=run_append_room_src (P:=P) w T tx ty E ti ht.under hi b 0 m cap (a.eval y) n news hS hroom hsome hfz
   rw[<-BV]at hrun
   have gH:w.setCells b (0+m*ti.size) news=w.setRow b (cur.take (m*ti.size)++news++cur.drop (m*ti.size+news.length)).toArray:=by
    have r1:=run_storeCells_cells (P:=P) b (0+m*ti.size) news 0 w (by simpa using hsome) (by simpa using hfz) λu hu=>(uy u hu).2
    have r2:=run_storeCells_at P b (0+m*ti.size) E news 0 cur.toArray w jq (by simp; omega) λu hu=>(uy u hu).2
    rw[r1]at r2
    injection r2 with _ r2
    simpa using r2
   rw[gH]at hrun
   refine fD hrun ?_
   have hgx:β xv.id b:=(hB b).2 rfl
   have acJ:xv.lo=m*ti.size:=by unfold Vr.lo; rw[bR]
   have og:∀j,m*ti.size<=j->own c V L β b j:=λj hj=>.inr ⟨xv,hx,BU,hgx,by rw[acJ]; exact hj⟩
   have ux:∀k,k<c.w0.heap.size->¬c.kr k->k≠b:=λk h1 h2 e=>fF.elim (λh3=>by omega) (λh3=>h2 (e▸h3))
   have ext:∀M:Nat->Nat->Prop,(∀j,m*ti.size<=j->M b j)->Ext M w (w.setRow b (cur.take (m*ti.size)++news++cur.drop (m*ti.size+news.length)).toArray):=by
    intro M hM
    refine⟨Nat.le_of_eq size_setRow.symm,λk hk hno=>aE λe=>hno (m*ti.size) (by rw[e]; exact hM _ (Nat.le_refl _)),λk o v hno hv=>?_⟩
    by_cases hkb:k=b
    ·subst hkb
     have hlt:o<m*ti.size:=by
      rcases Nat.lt_or_ge o (m*ti.size)with h'|h'
      ·exact h'
      ·exact absurd (hM o h') hno
     have hb':(w.setRow k (cur.take (m*ti.size)++news++cur.drop (m*ti.size+news.length)).toArray).heap[k]?=some (.cells (cur.take (m*ti.size)++news++cur.drop (m*ti.size+news.length)).toArray E (0,0)):=setRow_heap w _ _ _ _ _ jq
     simp only[World.cell?,jq]at hv
     simp only[World.cell?,hb']
     have hv':cur[o]?=some v:=by simpa using hv
     have:(cur.take (m*ti.size)++news++cur.drop (m*ti.size+news.length))[o]?=some v:=by
      rw[List.append_assoc,List.getElem?_append_left (by rw[List.length_take,qo]; omega),List.getElem?_take,if_pos hlt]
      exact hv'
     simpa using this
    ·rw[World.cell?_of_block (w:=w) (a:=⟨k,o,none⟩) (aE hkb)]; exact hv
   refine hI.appended hd hwf (E:=E) (f:=f) (g:=g) (agg:=agg) (cur':=cur.take (m*ti.size)++news++cur.drop (m*ti.size+news.length)) hy hb cW TG rfl rfl dX dB ql Ic Ej hp (setRow_heap w _ _ _ _ _ jq) ?_ hroom hcm ?_ ?_ fF ⟨rfl,rfl,rfl,Nat.le_of_eq size_setRow.symm⟩ (λk hk hn=>aE (ux k hk hn))
    (λz hz hl sD k hk=>?_) (ext _ og) (λz hz hl sD=>ext _ λj hj=>⟨og j hj,λe=>hI.apart z xv b hz hx hl BU (only z hz hl sD) e hgx⟩) (λj _ hj=>og j (Nat.le_trans (Nat.mul_le_mul_right _ (Nat.le_add_right m n)) hj))
   ·simp only[List.length_append,List.length_take,List.length_drop,qo,ql]; omega
   ·intro u hu
    simp only[List.mem_append]at hu
    rcases hu with(hu|hu)|hu
    ·exact yg u (List.mem_of_mem_take hu)
    ·exact(uy u hu).1
    ·exact yg u (List.mem_of_mem_drop hu)
   ·rw[AU]
    rw[<-show(olds++news).length=(m+n)*ti.size by rw[List.length_append,dB,ql,Nat.add_mul],List.take_left]
   ·have hkb:¬k=b:=λe=>hI.apart z xv k hz hx hl BU (only z hz hl sD) hk (e▸hgx)
    exact⟨aE hkb,hkb⟩
  ·refine xj (some ⟨b,0,none⟩) cap BV (by omega) ?_
   refine run_firstCells_some w.drew ti.size m ⟨b,0,none⟩ m cap olds dB λj u hj=>?_
   rw[Addr.add_mid]
   have Fg:j<m*ti.size:=by
    rw[<-dB]
    rcases Nat.lt_or_ge j olds.length with h'|h'
    ·exact h'
    ·rw[List.getElem?_eq_none h']at hj; cases hj
   show w.cell? ⟨b,0+j,none⟩=some u
   rw[Nat.zero_add]
   simp only[World.cell?,jq]
   rw[<-AU,List.getElem?_take,if_pos Fg]at hj
   simpa using hj
theorem bu.handed (hI:bu c V A G L β a w) (hd:qc ms i L) (hwf:nR c.N ops V A G i o) {xv yv:Vr} {m sz s:Nat} {p:Pred} (hx:xv∈V) (qO:xv.slot=s) (ho:bE ms i xv=true) (bR:xv.kd=.grow m sz) (gb:xv.dead=some i) (hy:yv∈V) (hb:yv.born=some i) (cW:yv.kd=.grow m sz)
  (hT:yv.T=xv.T) (dX:(A.all λp=>p.var != yv.id||p.tag.any λj=>(ms.getD j 0).testBit i)=true) (hst:eU o.op=false) (LV:iY o.op=false) (h1:Has ms G i (.tmp s) p) (hp:Post G i p):Inv c V A G (upd L i) (a.put o.dst (a.eval (.tmp s))) w:=by
 have BU:=hd.live ho
 have sF:=(bT bR).1 (hI.var xv hx BU)
 have es:sl a xv.slot=a.eval (.tmp s):=by rw[qO]; rfl
 have hlo:yv.lo=xv.lo:=by unfold Vr.lo; rw[bR,cW]
 have lR:=hwf.v2 yv hy hb
 have only:∀z,z∈V->live L z=true->z.dead≠some i->z.id≠xv.id:=λz hz _ sD e=>by
  have:=hwf.vu z xv hz hx e
  subst this
  exact sD gb
 refine hI.tH hd hwf hy hb hst LV dX (B':=β xv.id) ⟨rfl,rfl,rfl,Nat.le_refl _⟩ (λ_ _ _=>rfl) (λz hz hl sD k hk=>⟨rfl,λe=>hI.apart z xv k hz hx hl BU (only z hz hl sD) hk e⟩) (Ext.refl _ _) (λ_ _ _ _=>Ext.refl _ _) (λk j _ hk hj=>.inr ⟨xv,hx,BU,hk,hlo▸hj⟩) (λβ' Dr _ _=>?_) (λβ' Dr hown _ e he ht'=>?_)
 ·have hs:sl (a.put o.dst (a.eval (.tmp s))) yv.slot=sl a xv.slot:=by rw[lR,fO (by rw[hI.size]; exact hwf.sz _ lR),es]
  refine(bT cW).2 ?_
  rw[Dr]
  rcases sF with⟨hB,hm0,BV⟩|⟨b,cap,cur,hB,BV,fF,jq,hr⟩
  ·exact .inl ⟨hB,hm0,hs.trans BV⟩
  ·exact .inr ⟨b,cap,cur,hB,hs.trans BV,fF,by rw[hT]; exact jq,hr⟩
 ·exact((h1.spec hI hd).sub hown).imp λw=>hp.spec hwf he ht' w _
variable {p:Pred}
theorem q8 (k:Nat) (hk:V[k]?=some xv) (qO:xv.slot=s) (ho:bE ms i xv=true) (bR:xv.kd=.grow m sz) (gb:xv.dead=some i) (k2:Nat) (hk2:V[k2]?=some yv) (hb:yv.born=some i) (cW:yv.kd=.grow m sz) (hT:yv.T=xv.T)
  (dX:(A.all λp=>p.var != yv.id||p.tag.any λj=>(ms.getD j 0).testBit i)=true) (h1:Has ms G i (.tmp s) p) (hp:Post G i p):OpOk P ops ms c V A G i ⟨some d,.move (.tmp s),ty,pos,aft,none⟩:=
 gI (λ_ _ a w hI hd hwf=>dH (v:=a.eval (.tmp s)) (w':=w) rfl (hI.handed hd hwf (List.mem_of_getElem? hk) qO ho bR gb (List.mem_of_getElem? hk2) hb cW hT dX rfl rfl h1 hp)) rfl
theorem jb (k:Nat) (hk:V[k]?=some xv) (qO:xv.slot=s) (ho:bE ms i xv=true) (bR:xv.kd=.grow m sz) (gb:xv.dead=some i) (k2:Nat) (hk2:V[k2]?=some yv) (hb:yv.born=some i) (cW:yv.kd=.grow m sz) (hT:yv.T=xv.T)
  (dX:(A.all λp=>p.var != yv.id||p.tag.any λj=>(ms.getD j 0).testBit i)=true) (h1:Has ms G i (.tmp s) p) (hp:Post G i p):OpOk P ops ms c V A G i ⟨some d,.assign (.tmp s),ty,pos,aft,none⟩:=
 gI (λ_ _ a w hI hd hwf=>dH (v:=a.eval (.tmp s)) (w':=w) rfl (hI.handed hd hwf (List.mem_of_getElem? hk) qO ho bR gb (List.mem_of_getElem? hk2) hb cW hT dX rfl rfl h1 hp)) rfl
theorem bu.Sd (hI:bu c V A G L β a w) (hd:qc ms i L) (hwf:nR c.N ops V A G i o) {yv:Vr} {sz:Nat} {agg:Bool} {f:Nat->Pred} (hy:yv∈V) (hb:yv.born=some i) (cW:yv.kd=.grow 0 sz) (dX:(A.all λp=>p.var != yv.id||p.tag.any λj=>(ms.getD j 0).testBit i)=true) (hst:eU o.op=false) (LV:iY o.op=false)
  (hp:Post G i (aA sz agg 0 f)):Inv c V A G (upd L i) (a.put o.dst (.slice none 0 0)) w:=by
 have lR:=hwf.v2 yv hy hb
 refine hI.tH hd hwf hy hb hst LV dX (B':=λ_=>False) ⟨rfl,rfl,rfl,Nat.le_refl _⟩ (λ_ _ _=>rfl) (λ_ _ _ _ _ _=>⟨rfl,λh=>h⟩) (Ext.refl _ _) (λ_ _ _ _=>Ext.refl _ _) (λ_ _ _ h=>h.elim) (λβ' Dr _ _=>?_) (λβ' Dr hown _ e he ht'=>?_)
 ·refine(bT cW).2 (.inl ⟨λk=>by rw[Dr]; exactλh=>h,rfl,?_⟩)
  rw[lR,fO (by rw[hI.size]; exact hwf.sz _ lR)]
 ·exactλw'' _=>hp.spec hwf he ht' w'' _ ⟨none,0,rfl,Nat.le_refl _,Nat.zero_le _,λh=>absurd h (Nat.lt_irrefl 0)⟩
theorem DG (k2:Nat) (hk2:V[k2]?=some yv) (hb:yv.born=some i) (cW:yv.kd=.grow 0 sz) (dX:(A.all λp=>p.var != yv.id||p.tag.any λj=>(ms.getD j 0).testBit i)=true) (hp:Post G i (aA sz agg 0 f)):
  OpOk P ops ms c V A G i ⟨some d,.assign (.const (.slice none 0 0)),ty,pos,aft,none⟩:=
 gI (λ_ _ _ w hI hd hwf=>dH (v:=.slice none 0 0) (w':=w) rfl (hI.Sd (agg:=agg) (f:=f) hd hwf (List.mem_of_getElem? hk2) hb cW dX rfl rfl hp)) rfl
end
end Wx

namespace Wx
open Go Go.RowKit
structure It where
 p:Pred
 nl:aK p
structure Bk where
 b:Nat
 sz:Nat
 agg:Bool
 items:List It
def Bk.ok (e:Bk) (w:World):Prop:=∃(cs:List Value) (T:TypeId),w.heap[e.b]?=some (.cells cs.toArray T (0,0))/\e.items.length*e.sz<=cs.length/\(∀v∈cs,iw v)/\∀(i:Nat) (it:It),e.items[i]?=some it->it.p w (aj e.agg ((cs.drop (i*e.sz)).take e.sz))
def dn (B:Nat->Prop) (w:World) (H:List Bk):Prop:=(∀k,B k↔∃e,e∈H/\e.b=k)/\(H.Pairwise λx y=>x.b≠y.b)/\∀e,e∈H->e.ok w
def wJ (H:List Bk):Rel:=λB w _=>dn B w H
def Bk.put (e:Bk) (b idx:Nat) (it:It):Bk:=if e.b=b then { e with items:=e.items.set idx it }else e
def gH (H:List Bk) (b idx:Nat) (it:It):List Bk:=H.map λe=>e.put b idx it
theorem Bk.KM (e:Bk) (b idx:Nat) (it:It):(e.put b idx it).b=e.b:=by unfold Bk.put; split<;>rfl
variable {e:Bk} {w:World}
theorem Bk.uQ (h:e.ok w):e.b<w.heap.size:=by
 obtain⟨cs,T,h1,_⟩:=h
 rcases Nat.lt_or_ge e.b w.heap.size with h'|h'
 ·exact h'
 ·rw[Array.getElem?_eq_none h']at h1; cases h1
variable {M:Nat->Nat->Prop} {w':World}
theorem Ext.mono' {M':Nat->Nat->Prop} (h:Ext M' w w') (hm:∀k o,M' k o->M k o):Ext M w w':=⟨h.size,λk hk hno=>h.block k hk λo ho=>hno o (hm k o ho),λk o v hno hv=>h.cell k o v (λho=>hno (hm k o ho)) hv⟩
theorem Bk.yy (h:e.ok w) (hM:cL M w) (he:Ext M w w') (hb:w'.heap[e.b]?=w.heap[e.b]?):e.ok w':=by
 obtain⟨cs,T,h1,h2,h3,h4⟩:=h
 exact⟨cs,T,hb.trans h1,h2,h3,λi it hi=>it.nl M w _ hM (h4 i it hi) w' he⟩
variable {B:Nat->Prop} {H:List Bk}
theorem dn.keep (h:dn B w H) (hM:cL M w) (he:Ext M w w') (hb:∀e,e∈H->w'.heap[e.b]?=w.heap[e.b]?):dn B w' H:=
 ⟨h.1,h.2.1,λe hm=>Bk.yy (h.2.2 e hm) hM he (hb e hm)⟩
theorem dn.box (h:dn B w H) (hM:cL M w):aO (minus M B) (λw=>dn B w H) w:=λ_ he=>
 h.keep hM (he.mono' λ_ _ h=>h.1) λe hm=>he.block e.b (Bk.uQ (h.2.2 e hm)) λ_ ho=>ho.2 ((h.1 _).2 ⟨e,hm,rfl⟩)
theorem dn.tS (h:dn B w H) {k:Nat} (hk:B k):k<w.heap.size/\∀o v,w.cell? ⟨k,o,none⟩=some v->iw v:=by
 obtain⟨e,hm,rfl⟩:=(h.1 k).1 hk
 have hok:=h.2.2 e hm
 refine⟨Bk.uQ hok,λo v hv=>?_⟩
 obtain⟨cs,T,h1,_,h3,_⟩:=hok
 simp only[World.cell?,h1]at hv
 have:cs[o]?=some v:=by simpa using hv
 exact h3 v (List.mem_of_getElem? this)
theorem wN (h:H.Pairwise λx y=>x.b≠y.b) {x y:Bk} (hx:x∈H) (hy:y∈H) (e:x.b=y.b):x=y:=by
 induction H with
 |nil=>cases hx
 |cons z H ih=>
  obtain⟨h1,h2⟩:=List.pairwise_cons.1 h
  rcases List.mem_cons.1 hx with rfl|hx'<;>rcases List.mem_cons.1 hy with rfl|hy'
  ·rfl
  ·exact absurd e (h1 y hy')
  ·exact absurd e.symm (h1 x hx')
  ·exact ih h2 hx' hy'
theorem KV {α:Type} {cs ds:List α} {sz idx j n:Nat} (hl:n*sz<=cs.length) (hi:idx<n) (hds:ds.length=sz) (hj:j<n):
  (((cs.take (idx*sz)++ds++cs.drop (idx*sz+sz)).drop (j*sz)).take sz)=if j=idx then ds else(cs.drop (j*sz)).take sz:=by
 have h1:(idx+1)*sz<=n*sz:=Nat.mul_le_mul_right _ hi
 have h2:(j+1)*sz<=n*sz:=Nat.mul_le_mul_right _ hj
 rw[Nat.add_mul,Nat.one_mul]at h1 h2
 have hlt:(cs.take (idx*sz)).length=idx*sz:=by rw[List.length_take]; omega
 apply List.ext_getElem?
 intro k
 by_cases hk:k<sz
 ·rw[List.getElem?_take,if_pos hk,List.getElem?_drop]
  split
  ·rename_i e
   subst e
   rw[List.append_assoc,List.getElem?_append_right (by omega),hlt,List.getElem?_append_left (by omega)]
   congr 1
   omega
  ·rename_i hne
   rw[List.getElem?_take,if_pos hk,List.getElem?_drop]
   rcases Nat.lt_or_ge j idx with RN|hge
   ·have h3:(j+1)*sz<=idx*sz:=Nat.mul_le_mul_right _ RN
    rw[Nat.add_mul,Nat.one_mul]at h3
    rw[List.append_assoc,List.getElem?_append_left (by omega),List.getElem?_take,if_pos (by omega)]
   ·have h3:(idx+1)*sz<=j*sz:=Nat.mul_le_mul_right _ (by omega)
    rw[Nat.add_mul,Nat.one_mul]at h3
    rw[List.getElem?_append_right (by rw[List.length_append]; omega),List.getElem?_drop,List.length_append,hlt,hds]
    congr 1
    omega
 ·rw[List.getElem?_eq_none (by rw[List.length_take]; omega)]
  split
  ·rw[List.getElem?_eq_none (by omega)]
  ·rw[List.getElem?_eq_none (by rw[List.length_take]; omega)]
theorem dn.set (h:dn B w H) (hM:cL M w) {e:Bk} (he:e∈H) {idx:Nat} (hi:idx<e.items.length) {it:It} {cs ds:List Value} {T:TypeId}
  (hcs:w.heap[e.b]?=some (.cells cs.toArray T (0,0))) (hlen:e.items.length*e.sz<=cs.length) (yg:∀v∈cs,iw v) (acB:∀(i:Nat) (it:It),e.items[i]?=some it->it.p w (aj e.agg ((cs.drop (i*e.sz)).take e.sz)))
  (hds:ds.length=e.sz) (hdu:∀v∈ds,iw v) (hv:it.p w (aj e.agg ds)) (sn:Ext M w (w.setRow e.b (cs.take (idx*e.sz)++ds++cs.drop (idx*e.sz+e.sz)).toArray)):
  dn B (w.setRow e.b (cs.take (idx*e.sz)++ds++cs.drop (idx*e.sz+e.sz)).toArray) (gH H e.b idx it):=by
 have h1:(idx+1)*e.sz<=e.items.length*e.sz:=Nat.mul_le_mul_right _ hi
 rw[Nat.add_mul,Nat.one_mul]at h1
 refine⟨λk=>(h.1 k).trans ⟨λ⟨x,hx,hb⟩=>⟨x.put e.b idx it,List.mem_map.2 ⟨x,hx,rfl⟩,(x.KM _ _ _).trans hb⟩,λ⟨y,hy,hb⟩=>?_⟩,?_,λy hy=>?_⟩
 ·obtain⟨x,hx,rfl⟩:=List.mem_map.1 hy
  exact⟨x,hx,(x.KM _ _ _).symm.trans hb⟩
 ·unfold gH
  rw[List.pairwise_map]
  exact h.2.1.imp λ{x y} hne=>by rw[x.KM,y.KM]; exact hne
 ·obtain⟨x,hx,rfl⟩:=List.mem_map.1 hy
  by_cases hxe:x.b=e.b
  ·have:=wN h.2.1 hx he hxe
   subst this
   have ep:x.put x.b idx it={ x with items:=x.items.set idx it }:=if_pos rfl
   rw[ep]
   refine⟨_,T,setRow_heap w _ _ _ _ _ hcs,?_,?_,λj it' hj=>?_⟩
   ·show(x.items.set idx it).length*x.sz<=_
    rw[List.length_set,List.length_append,List.length_append,List.length_take,List.length_drop]
    omega
   ·intro v hv'
    rcases List.mem_append.1 hv' with hv'|hv'
    ·rcases List.mem_append.1 hv' with hv'|hv'
     ·exact yg v (List.mem_of_mem_take hv')
     ·exact hdu v hv'
    ·exact yg v (List.mem_of_mem_drop hv')
   ·have hj':(x.items.set idx it)[j]?=some it':=hj
    show it'.p _ (aj x.agg _)
    have Fg:j<x.items.length:=by
     rcases Nat.lt_or_ge j x.items.length with h'|h'
     ·exact h'
     ·rw[List.getElem?_eq_none (by rw[List.length_set]; exact h')]at hj'; cases hj'
    rw[KV hlen hi hds Fg]
    by_cases YX:j=idx
    ·subst YX
     rw[if_pos rfl]
     rw[List.getElem?_set_self Fg]at hj'
     injection hj' with hj'
     subst hj'
     exact it.nl M w _ hM hv _ sn
    ·rw[if_neg YX]
     rw[List.getElem?_set_ne (Ne.symm YX)]at hj'
     exact it'.nl M w _ hM (acB j it' hj') _ sn
  ·have ep:x.put e.b idx it=x:=if_neg hxe
   rw[ep]
   exact Bk.yy (h.2.2 x hx) hM sn (aE hxe)
section
variable {P:Program} {ops:Array Oper} {ms:List Nat} {c:fT} {V:List Vr} {A:List Al} {G:List bz} {i:Nat} {L:Nat->Bool} {β:Nat->Nat->Prop} {a:Act} {w:World} {o:Oper}{d:Nat} {x y z:Operand} {ty:TypeId} {pos:String} {aft:Array Edge}
theorem bu.K7 (h:bu c V A G L β a w) (hwf:nR c.N ops V A G i o) (hnone:o.dst=none) {x:Vr} (hx:x∈V) (jh:live L x=true) (Q7:x.kd=.obj) (hnb:jD o.op=false) {g:Nat} (hgx:β x.id g)
  {cs cs':List Value} {T:TypeId} (hcs:w.heap[g]?=some (.cells cs.toArray T (0,0))) (hn:∀u∈cs',iw u)
  (hc:aO (minus (own c V L β) (β x.id)) (λw=>cont (upd L i) x.c0 x.st (β x.id) w (sl a x.slot)) (w.setRow g cs'.toArray)) (uz:(V.all λy=>y.id==x.id||y.st.all λq=>q.1 != i)=true) (u:Value):
  Inv c V A G (upd L i) (a.put o.dst u) (w.setRow g cs'.toArray):=by
 have nb:=xp hwf hnb
 have hlo:x.lo=0:=by unfold Vr.lo; rw[Q7]
 have og:∀o,own c V L β g o:=λo=>.inr ⟨x,hx,jh,hgx,by rw[hlo]; exact Nat.zero_le _⟩
 have ext:∀M:Nat->Nat->Prop,(∀o,M g o)->Ext M w (w.setRow g cs'.toArray):=λM hM=>⟨Nat.le_of_eq size_setRow.symm,λk hk hno=>aE λe=>hno 0 (by rw[e]; exact hM 0),λk o v hno hv=>by
  have BR:k≠g:=λe=>hno (by rw[e]; exact hM o)
  rw[World.cell?_of_block (w:=w) (a:=⟨k,o,none⟩) (aE BR)]; exact hv⟩
 have he:Ext (own c V L β) w (w.setRow g cs'.toArray):=ext _ og
 have sF:=h.var x hx jh
 have hnew:=(sF.blk hgx).1
 have hput:a.put o.dst u=a:=by rw[hnone]; rfl
 have ux:∀k,k<c.w0.heap.size->¬c.kr k->k≠g:=λk h1 h2 e=>hnew.elim (λh3=>by omega) (λh3=>h2 (e▸h3))
 rw[hput]
 refine⟨β,h.size,h.defers,⟨h.below.os,h.below.tape,h.below.output,Nat.le_trans h.below.size (Nat.le_of_eq size_setRow.symm),λk hk hn=>(aE (ux k hk hn)).trans (h.below.block k hk hn)⟩,h.oa λk hk hn=>aE (ux k hk hn),?_,?_,?_,?_⟩
 ·intro y hy hl'
  rw[eB (nb y hy).1 (nb y hy).2]at hl'
  rw[kN nb]
  by_cases xM:y.id=x.id
  ·have:y=x:=hwf.vu y x hy hx xM
   subst this
   refine(aN Q7).2 ⟨λk hk=>?_,hc⟩
   obtain⟨h1,h2,h3⟩:=((aN Q7).1 sF).1 k hk
   refine⟨h1,by rw[size_setRow]; exact h2,λo v hv=>?_⟩
   by_cases BR:k=g
   ·subst BR
    simp only[World.cell?,setRow_heap w _ _ _ _ _ hcs]at hv
    have:cs'[o]?=some v:=by simpa using hv
    exact hn v (List.mem_of_getElem? this)
   ·rw[World.cell?_of_block (w:=w) (a:=⟨k,o,none⟩) (aE BR)]at hv
    exact h3 o v hv
  ·rw[List.all_eq_true]at uz
   have h5:=uz y hy
   simp only[Bool.or_eq_true,beq_iff_eq,xM,false_or,List.all_eq_true,bne_iff_ne]at h5
   have O1:¬β y.id g:=λe=>h.apart y x g hy hx hl' jh xM e hgx
   exact(h.var y hy hl').keep rfl rfl (λg' zw=>aE λe=>O1 (e▸zw)) (Nat.le_of_eq size_setRow.symm) (λF hF=>hF.ext he) (λF hF=>hF.ext (ext _ λo=>⟨og o,O1⟩)) (oC h5)
 ·intro y y' g' hy hy' h1 h2 hne
  rw[eB (nb y hy).1 (nb y hy).2]at h1
  rw[eB (nb y' hy').1 (nb y' hy').2]at h2
  exact h.apart y y' g' hy hy' h1 h2 hne
 ·intro p hp hl' hcd
  have NB:p.tag≠some i:=λe=>by have:=hwf.a2 p hp e; rw[hnone]at this; cases this
  rw[dG NB]at hl'
  exact h.al p hp hl' hcd
 ·intro e Ib hl' hf
  obtain⟨hf,OU⟩:=pL hf
  have ht:e.tag≠some i:=λe'=>by have:=hwf.g2 e Ib e'; rw[hnone]at this; cases this
  rw[dG ht]at hl'
  rw[kN nb]
  exact(h.jM e Ib hl' hf).ext he
theorem wD (hI:bu c V A G L β a w) (hd:qc ms i L) {v:Vr} (hv:v∈V) (ho:bE ms i v=true) (bR:v.kd=.obj):yI (own c V L β) c L a w v (β v.id):=(aN bR).1 (hI.var v hv (hd.live ho))
theorem oA (hd:qc ms i L) {st:List (Nat×Rel)} {p:Rel} (h:(st.all λq=>(q.1==i||(ms.getD i 0).testBit q.1)||(ms.getD q.1 0).testBit i)=true):cont L p st=cont (λj=>(ms.getD i 0).testBit j) p st:=by
 rw[List.all_eq_true]at h
 refine jU λq hq=>?_
 have:=h q hq
 simp only[Bool.or_eq_true,beq_iff_eq]at this
 rcases this with(h5|h5)|h5
 ·rw[h5,hd.no,hd.irrefl]
 ·rw[hd.before _ h5,h5]
 ·have h6:=hd.behind _ h5
  rw[h6]
  cases h7:(ms.getD i 0).testBit q.1 with
  |false=>rfl
  |true=>rw[hd.before _ h7]at h6; cases h6
variable {T:TypeId} {v:Vr} {H:List Bk} {e:Bk} {it:It} {b idx off:Nat}
theorem dA (k:Nat) (hk:V[k]?=some v) (ho:bE ms i v=true) (bR:v.kd=.obj) (hst:(v.st.all λq=>(q.1==i||(ms.getD i 0).testBit q.1)||(ms.getD q.1 0).testBit i)=true)
  (hc:cont (λj=>(ms.getD i 0).testBit j) v.c0 v.st=wJ H) (h:Has ms G i y (bg (.pointer (some ⟨b,off,none⟩)))) (he:e∈H) (hb:e.b=b) (hi:e.items[idx]?=some it) (hoff:off=idx*e.sz) (ht:Ty P T e.agg e.sz) (hp:Post G i it.p):
  OpOk P ops ms c V A G i ⟨some d,.load T y,ty,pos,aft,none⟩:=
 cC rfl rfl rfl (.inl rfl) hp λL β a w hI hd=>by
  have hO:=wD hI hd (List.mem_of_getElem? hk) ho bR
  have hH:=hO.2.out
  rw[oA hd hst,hc]at hH
  obtain⟨cs,t,h1,h2,h3,h4⟩:=hH.2.2 e he
  have hy:a.eval y=.pointer (some ⟨b,off,none⟩):=(h.spec hI hd).out
  have nZ:idx<e.items.length:=by
   rcases Nat.lt_or_ge idx e.items.length with h'|h'
   ·exact h'
   ·rw[List.getElem?_eq_none h']at hi; cases hi
  have hle:(idx+1)*e.sz<=e.items.length*e.sz:=Nat.mul_le_mul_right _ nZ
  rw[Nat.add_mul,Nat.one_mul]at hle
  refine⟨aj e.agg ((cs.drop (idx*e.sz)).take e.sz),w,?_,Below.refl _ _,it.nl _ w _ (aS hI) (h4 idx it hi)⟩
  show(do pure (Next.value (<-Instr.loadAt T (a.eval y)))).run P w=_
  rw[hy,<-hb,hoff,Sem.run_bind,fJ (cs:=(cs.drop (idx*e.sz)).take e.sz) ht (fY h1 (idx*e.sz) e.sz) (by rw[List.length_take,List.length_drop]; omega)]
  rfl
theorem kA (k:Nat) (hk:V[k]?=some v) (ho:bE ms i v=true) (bR:v.kd=.obj) (hst:(v.st.all λq=>(q.1==i||(ms.getD i 0).testBit q.1)||(ms.getD q.1 0).testBit i)=true)
  (m:Nat) (hm:v.st[m]?=some (i,wJ (gH H b idx it))) (hr:((v.st.drop (m+1)).all λr=>(ms.getD r.1 0).testBit i)=true) (gg:(V.all λy=>y.id==v.id||y.st.all λq=>q.1 != i)=true)
  (hc:cont (λj=>(ms.getD i 0).testBit j) v.c0 v.st=wJ H) (h:Has ms G i y (bg (.pointer (some ⟨b,off,none⟩)))) (he:e∈H) (hb:e.b=b) (hi:idx<e.items.length) (hoff:off=idx*e.sz) (ht:Ty P T e.agg e.sz) (hz:Has ms G i z it.p) (hf:Fits e.sz e.agg it.p):
  OpOk P ops ms c V A G i ⟨none,.store T y z,ty,pos,aft,none⟩:=by
 refine gI (λL β a w hI hd hwf=>?_) rfl
 have hv:=List.mem_of_getElem? hk
 have hO:=wD hI hd hv ho bR
 have hH:=hO.2.out
 rw[oA hd hst,hc]at hH
 have hH:dn (β v.id) w H:=hH
 obtain⟨cs,t,h1,h2,h3,h4⟩:=hH.2.2 e he
 have hy:a.eval y=.pointer (some ⟨b,off,none⟩):=(h.spec hI hd).out
 have hval:=hz.spec hI hd
 obtain⟨ds,e1,hl,hcells,hu⟩:=hf w _ hval.out
 have hle:(idx+1)*e.sz<=e.items.length*e.sz:=Nat.mul_le_mul_right _ hi
 rw[Nat.add_mul,Nat.one_mul]at hle
 subst hb
 subst hoff
 have hr':(execOp a.eval ⟨none,.store T y z,ty,pos,aft,none⟩).run P w=.ok .skip (w.setRow e.b (cs.take (idx*e.sz)++ds++cs.drop (idx*e.sz+e.sz)).toArray):=by
  show(do Instr.storeAt T (a.eval y) (a.eval z); pure Next.skip).run P w=_
  rw[hy]
  have:=gZ (P:=P) (off:=idx*e.sz) ht h1 hcells hl (by omega) (λu gB=>(hu u gB).2)
  simp only[Sem.run_bind,this,Result.andThen_ok,Sem.run_pure]
 have hgx:β v.id e.b:=(hH.1 _).2 ⟨e,he,rfl⟩
 have hlo:v.lo=0:=by unfold Vr.lo; rw[bR]
 have sn:Ext (own c V L β) w (w.setRow e.b (cs.take (idx*e.sz)++ds++cs.drop (idx*e.sz+e.sz)).toArray):=⟨Nat.le_of_eq size_setRow.symm,λk hk hno=>aE λe'=>hno 0 (by rw[e']; exact .inr ⟨v,hv,hd.live ho,hgx,by rw[hlo]; exact Nat.zero_le _⟩),λk o u hno gB=>by
  have BR:k≠e.b:=λe'=>hno (by rw[e']; exact .inr ⟨v,hv,hd.live ho,hgx,by rw[hlo]; exact Nat.zero_le _⟩)
  rw[World.cell?_of_block (w:=w) (a:=⟨k,o,none⟩) (aE BR)]; exact gB⟩
 have TV:=hH.set (aS hI) he hi (it:=it) h1 h2 h3 h4 hl (λu gB=>(hu u gB).1) (by rw[<-e1]; exact hval.out) sn
 unfold Does
 rw[hr']
 refine hI.K7 hwf rfl hv (hd.live ho) bR rfl hgx h1 (λu gB=>?_) ?_ gg _
 ·rcases List.mem_append.1 gB with gB|gB
  ·rcases List.mem_append.1 gB with gB|gB
   ·exact h3 u (List.mem_of_mem_take gB)
   ·exact(hu u gB).1
  ·exact h3 u (List.mem_of_mem_drop gB)
 ·rw[oB m hm hd hr]
  refine TV.box λk o hk=>?_
  obtain⟨k1,k2⟩:=aS hI k o hk
  refine⟨by rw[size_setRow]; exact k1,λu gB=>?_⟩
  by_cases BR:k=e.b
  ·exact(TV.tS (by rw[BR]; exact hgx)).2 o u gB
  ·rw[World.cell?_of_block (w:=w) (a:=⟨k,o,none⟩) (aE BR)]at gB
   exact k2 u gB
variable {E:TypeId} {n cap:Nat}
theorem bt {sz o':Nat} {m:Int} (h:Has ms G i x (bg (.slice (some ⟨b,o',none⟩) n cap))) (hy:Has ms G i y (pI m)) (ht:mV P T E sz) (h0:0<=m) (h1:m<n) (hA:(A.all λq=>q.tag != some i)=true) (hp:Post G i (bg (.pointer (some ⟨b,o'+m.toNat*sz,none⟩)))):
  OpOk P ops ms c V A G i ⟨some d,.indexAddr T x y,ty,pos,aft,none⟩:=
 cC rfl rfl rfl (.inr hA) hp λL β a w hI hd=>by
  have hx:a.eval x=.slice (some ⟨b,o',none⟩) n cap:=(h.spec hI hd).out
  have hi:a.eval y=.int .i64 m:=(hy.spec hI hd).out
  refine⟨_,w,?_,Below.refl _ _,λ_ _=>rfl⟩
  show(do pure (Next.value (<-Instr.indexAt T (a.eval x) (a.eval y)))).run P w=_
  rw[hx,hi,Sem.run_bind,xB ht h0 h1]
  rfl
theorem mI {A':Option Addr} (h:Has ms G i x (bg (.slice A' n cap))) (ht:P.underlying T=some (.slice E)) (hp:Post G i (pI (n:Int))):
  OpOk P ops ms c V A G i ⟨some d,.call ⟨.builtin .len,#[x],#[T]⟩,ty,pos,aft,none⟩:=
 iO rfl rfl rfl rfl h hp λρ w h=>⟨.int .i64 n,by
  have h:ρ x=.slice A' n cap:=h
  have hr:(Builtin.len_ #[T] ty #[ρ x]).run P w=.ok (.int .i64 n) w:=by
   rw[h]
   unfold Builtin.len_
   simp[run_underlying ht,goInt]
  show(do let d <-resolve ρ ⟨.builtin .len,#[x],#[T]⟩ ty; invoke d.target d.args).run P w=_
  simp only[resolve,invoke,pure_bind,builtin]
  rw[show(#[x]:Array Operand).map ρ=#[ρ x] by simp,Sem.run_bind,hr]
  rfl,λ_ _=>rfl⟩
end
end Wx
