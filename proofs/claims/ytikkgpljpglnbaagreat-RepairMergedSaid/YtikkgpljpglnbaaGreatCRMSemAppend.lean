import Derived.Test.YtikkgpljpglnbaaGreatJRM15
namespace Wx
open Go Go.RowKit
variable {sz:Nat}
theorem Fq {α:Type}:∀(n:Nat) (g:Nat->List α),(∀i,i<n->(g i).length=sz)->((List.range n).flatMap g).length=n*sz/\∀i,i<n->(((List.range n).flatMap g).drop (i*sz)).take sz=g i:=by
 intro n
 induction n with
 |zero=>intro g _; exact⟨by simp,λi h=>absurd h (Nat.not_lt_zero i)⟩
 |succ n ih=>
  intro g h
  obtain⟨h1,h2⟩:=ih g λi hi=>h i (by omega)
  have hn:=h n (by omega)
  have e:(List.range (n+1)).flatMap g=(List.range n).flatMap g++g n:=by rw[List.range_succ,List.flatMap_append]; simp
  rw[e]
  refine⟨by rw[List.length_append,h1,hn,Nat.add_mul,Nat.one_mul],λi hi=>?_⟩
  rcases Nat.lt_or_ge i n with hin|hin
  ·have hle:(i+1)*sz<=n*sz:=Nat.mul_le_mul_right _ hin
   rw[Nat.add_mul,Nat.one_mul]at hle
   rw[List.drop_append_of_le_length (by omega),List.take_append_of_le_length (by rw[List.length_drop]; omega)]
   exact h2 i hin
  ·have hi':i=n:=by omega
   subst hi'
   rw[<-h1,List.drop_left,<-hn,List.take_length]
variable {M:Nat->Nat->Prop} {w:World} {agg:Bool}
theorem D9 {p:Pred} {b o:Nat} (h1:agg=false->sz=1) (hf:Fits sz agg p) (h:aM M (λw=>dD sz agg p w (.pointer (some ⟨b,o,none⟩))) w):
  ∃cs:List Value,cs.length=sz/\(∀j u,cs[j]?=some u->w.cell? ⟨b,o+j,none⟩=some u/\¬M b (o+j))/\(∀u∈cs,gv u/\u.oneCell'=true)/\aM M (λw=>p w (au agg cs)) w:=by
 have C8:∀{cs ds:List Value},cs.length=sz->ds.length=sz->au agg cs=au agg ds->cs=ds:=by
  intro cs ds e1 e2 e
  cases agg with
  |true=>exact cg e
  |false=>
   have:=h1 rfl
   match cs,ds,e1,e2 with
   |[x],[y],_,_=>simp only[au,Bool.false_eq_true,if_false,List.headD_cons]at e; rw[e]
   |[],_,e1,_=>simp at e1; omega
   |_::_::_,_,e1,_=>simp at e1; omega
   |[_],[],_,e2=>simp at e2; omega
   |[_],_::_::_,_,e2=>simp at e2; omega
 obtain⟨b0,o0,cs,e,hl,hc,hb⟩:=zo h1 hf h
 injection e with e
 injection e with e
 injection e with e2 e3
 subst e2 e3
 have hfit:∀u∈cs,gv u/\u.oneCell'=true:=by
  obtain⟨ds,e4,hl4,_,h4⟩:=hf w _ hb.out
  rw[C8 hl hl4 e4]
  exact h4
 refine⟨cs,hl,λj u hj=>⟨hc j u hj,xM h (hc j u hj) ?_⟩,hfit,hb⟩
 rintro w' hw' ⟨b',o',cs',e,hl',hc',hp'⟩
 injection e with e
 injection e with e
 injection e with e2 e3
 subst e2 e3
 obtain⟨ds,e4,hl4,_,h4⟩:=hf w' _ hp'
 have e5:=C8 hl' hl4 e4
 subst e5
 have hj':j<cs'.length:=by
  rcases Nat.lt_or_ge j cs.length with h'|h'
  ·omega
  ·rw[List.getElem?_eq_none h']at hj; cases hj
 have h6:=hc' j _ (List.getElem?_eq_getElem hj')
 rw[hw']at h6
 injection h6 with h6
 exact((h4 _ (List.getElem_mem hj')).1 0).1 h6.symm
variable {n:Nat} {f:Nat->Pred}
theorem oM {v:Value} (h1:agg=false->sz=1) (hf:∀i,i<n->Fits sz agg (f i)) (h:aM M (λw=>bK sz agg n f w v) w):
  ∃(A:Option Addr) (cap:Nat) (cs:List Value),v=.slice A n cap/\n<=cap/\cap<=maxLen/\cs.length=n*sz/\(∀u∈cs,gv u/\u.oneCell'=true) /\
   (0<n->∃b o,A=some ⟨b,o,none⟩/\∀j u,cs[j]?=some u->w.cell? ⟨b,o+j,none⟩=some u/\¬M b (o+j))/\∀i,i<n->aM M (λw=>f i w (au agg ((cs.drop (i*sz)).take sz))) w:=by
 obtain⟨A,cap,rfl,hn,hcap,hel⟩:=h.out
 rcases Nat.eq_zero_or_pos n with h0|hpos
 ·subst h0
  exact⟨A,cap,[],rfl,hn,hcap,by simp,(λu hu=>by cases hu),(λh=>absurd h (Nat.lt_irrefl 0)),λi hi=>absurd hi (Nat.not_lt_zero i)⟩
 ·obtain⟨b,o,rfl,_⟩:=hel hpos
  have el:∀i,i<n->∃cs:List Value,cs.length=sz/\(∀j u,cs[j]?=some u->w.cell? ⟨b,o+i*sz+j,none⟩=some u/\¬M b (o+i*sz+j))/\(∀u∈cs,gv u/\u.oneCell'=true)/\aM M (λw=>f i w (au agg cs)) w:=by
   intro i hi
   refine D9 h1 (hf i hi) λw' he=>?_
   obtain⟨A',cap',e,_,_,Sb⟩:=h w' he
   injection e with e _ _
   obtain⟨b',o',e',Pa⟩:=Sb hpos
   rw[<-e]at e'
   injection e' with e'
   injection e' with e2 e3
   subst e2 e3
   obtain⟨cs,k1,k2,k3⟩:=Pa i hi
   exact⟨_,_,cs,rfl,k1,k2,k3⟩
  let g:Nat->List Value:=λi=>if h:i<n then Classical.choose (el i h)else[]
  have hg:∀i (hi:i<n),(g i).length=sz/\(∀j u,(g i)[j]?=some u->w.cell? ⟨b,o+i*sz+j,none⟩=some u/\¬M b (o+i*sz+j))/\(∀u∈g i,gv u/\u.oneCell'=true)/\aM M (λw=>f i w (au agg (g i))) w:=by
   intro i hi
   have e:g i=Classical.choose (el i hi):=dif_pos hi
   rw[e]
   exact Classical.choose_spec (el i hi)
  obtain⟨hl,AL⟩:=Fq n g λi hi=>(hg i hi).1
  refine⟨_,cap,(List.range n).flatMap g,rfl,hn,hcap,hl,?_,λ_=>⟨b,o,rfl,?_⟩,λi hi=>?_⟩
  ·intro u hu
   rw[List.mem_flatMap]at hu
   obtain⟨i,hi,hu⟩:=hu
   exact(hg i (List.mem_range.1 hi)).2.2.1 u hu
  ·intro j u hj
   have IW:j<n*sz:=by
    rw[<-hl]
    rcases Nat.lt_or_ge j ((List.range n).flatMap g).length with h'|h'
    ·exact h'
    ·rw[List.getElem?_eq_none h']at hj; cases hj
   have hsz:0<sz:=by
    rcases Nat.eq_zero_or_pos sz with hz|hz
    ·rw[hz]at IW; simp at IW
    ·exact hz
   have hi:j/sz<n:=Nat.div_lt_of_lt_mul (by rw[Nat.mul_comm]; exact IW)
   have hr:j%sz<sz:=Nat.mod_lt _ hsz
   have hd:j/sz*sz+j%sz=j:=by rw[Nat.mul_comm]; exact Nat.div_add_mod j sz
   have hk:(g (j/sz))[j%sz]?=some u:=by
    rw[<-AL _ hi,List.getElem?_take,if_pos hr,List.getElem?_drop,hd]
    exact hj
   have:=(hg _ hi).2.1 _ _ hk
   rwa [Nat.add_assoc,hd]at this
  ·rw[AL i hi]
   exact(hg i hi).2.2.2
theorem M8 {cap:Nat} {A:Option Addr} {cs:List Value} (hn:n<=cap) (hcap:cap<=maxLen) (hl:cs.length=n*sz)
  (hc:0<n->∃b o,A=some ⟨b,o,none⟩/\∀j u,cs[j]?=some u->w.cell? ⟨b,o+j,none⟩=some u) (hf:∀i,i<n->f i w (au agg ((cs.drop (i*sz)).take sz))):bK sz agg n f w (.slice A n cap):=by
 refine⟨A,cap,rfl,hn,hcap,λhpos=>?_⟩
 obtain⟨b,o,e,hc⟩:=hc hpos
 refine⟨b,o,e,λi hi=>⟨(cs.drop (i*sz)).take sz,?_,λj u hj=>?_,hf i hi⟩⟩
 ·have hle:(i+1)*sz<=n*sz:=Nat.mul_le_mul_right _ hi
  rw[Nat.add_mul,Nat.one_mul]at hle
  rw[List.length_take,List.length_drop,hl]
  omega
 ·rw[List.getElem?_take]at hj
  split at hj
  ·rw[List.getElem?_drop]at hj
   have:=hc _ _ hj
   rwa [<-Nat.add_assoc]at this
  ·cases hj
section
variable {P:Program} {ops:Array Oper} {ms:List Nat} {c:cM} {V:List Vr} {A:List Al} {G:List aV} {i:Nat} {L:Nat->Bool} {β:Nat->Nat->Prop} {a:Act} {w:World} {o:Oper}{d:Nat} {x y z:Operand} {ty:TypeId} {pos:String} {aL:Array Edge}
structure xx (P:Program) (T tx E:TypeId) (sz:Nat):Prop where
 under:P.underlying T=some (.slice E)
 src:∃E',P.underlying tx=some (.slice E')
 info:∃ti zv,P.info? E=some ti/\ti.size=sz/\ti.zero=some zv/\zv.cells.size=sz/\(∀u∈zv.cells.toList,gv u)/\ti.bytes<=4096
theorem eB {zs:Array Value} (h:∀u∈zs.toList,gv u) (n:Nat):∀u∈(Builtin.zeroCells zs n).toList,gv u:=by
 intro u hu
 simp only[Builtin.zeroCells,Array.toList_map,List.mem_map,Array.mem_toList_iff,Array.mem_range]at hu
 obtain⟨k,hk,rfl⟩:=hu
 have hpos:0<zs.size:=by
  rcases Nat.eq_zero_or_pos zs.size with hz|hz
  ·rw[hz]at hk; simp at hk
  ·exact hz
 have hlt:k%zs.size<zs.size:=Nat.mod_lt _ hpos
 rw[getElem!_pos zs _ hlt]
 exact h _ (by simp)
variable {w':World}
theorem kM {M M':Nat->Nat->Prop} {w:World} (e3:Ext M w w') (hown:∀k j,k<w.heap.size->M' k j->M k j) {F:World->Prop} (hF:aM M F w):aM M' F w':=λw'' he=>by
 refine hF w'' ⟨Nat.le_trans e3.size he.size,λk hk hno=>?_,λk j v hno hv=>?_⟩
 ·rw[he.block k (Nat.lt_of_lt_of_le hk e3.size) λj h'=>hno j (hown k j hk h')]
  exact e3.block k hk hno
 ·have hk:=World.block_lt_of_cell? w _ hv
  exact he.cell k j v (λh'=>hno (hown k j hk h')) (e3.cell k j v hno hv)
theorem aT.appended (h:aT c V A G L β a w) (hd:mB ms i L) (hwf:kD c.N ops V A G i o) {yv:Vr} {E:TypeId} {sz m n:Nat} {agg:Bool} {f g:Nat->Pred} {olds news:List Value} (hy:yv∈V) (tZ:yv.born=some i) (jQ:yv.kd=.grow (m+n) sz) (Ku:yv.T=E) (hst:eD o.op=false) (Mn:iw o.op=false)
  (fC:(A.all λp=>p.var != yv.id||p.tag.any λj=>(ms.getD j 0).testBit i)=true) (ek:olds.length=m*sz) (hnl:news.length=n*sz)
  (NF:∀i,i<m->aM (own c V L β) (λw=>f i w (au agg ((olds.drop (i*sz)).take sz))) w) (hnf:∀i,i<n->aM (own c V L β) (λw=>g i w (au agg ((news.drop (i*sz)).take sz))) w)
  (hp:Post G i (bK sz agg (m+n) λj=>if j<m then f j else g (j-m)))
  {w':World} {blk cap':Nat} {cur':List Value} (hblk:w'.heap[blk]?=some (.cells cur'.toArray E (0,0))) (nR:cur'.length=cap'*sz) (hle:m+n<=cap') (hmx:cap'<=maxLen) (zW:∀u∈cur',gv u) (AO:cur'.take ((m+n)*sz)=olds++news) (gJ:mine c blk)
  (e0:w'.os=w.os/\w'.tape=w.tape/\w'.output=w.output/\w.heap.size<=w'.heap.size)
  (e1:∀k,k<c.w0.heap.size->¬c.gw k->w'.heap[k]?=w.heap[k]?)
  (e2:∀z,z∈V->live L z=true->z.dead≠some i->∀k,β z.id k->w'.heap[k]?=w.heap[k]?/\¬k=blk)
  (e3:Ext (own c V L β) w w') (e4:∀z,z∈V->live L z=true->z.dead≠some i->Ext (minus (own c V L β) (β z.id)) w w')
  (e5:∀j,blk<w.heap.size->(m+n)*sz<=j->own c V L β blk j):
  Inv c V A G (upd L i) (a.put o.dst (.slice (some ⟨blk,0,none⟩) (m+n) cap')) w':=by
 have hlo:yv.lo=(m+n)*sz:=by unfold Vr.lo; rw[jQ]
 have qM:=hwf.v2 yv hy tZ
 have hN:(olds++news).length=(m+n)*sz:=by rw[List.length_append,ek,hnl,Nat.add_mul]
 refine h.By hd hwf hy tZ hst Mn fC (B':=(·=blk)) e0 e1 e2 e3 e4 (λk j hk e hj=>by subst e; exact e5 j hk (hlo▸hj)) (λβ' KM hown _=>?_) (λβ' KM hown Co e he ht=>?_)
 ·refine(bt jQ).2 (.inr ⟨blk,cap',cur',λk=>by rw[KM],?_,gJ,by rw[Ku]; exact hblk,nR,hle,hmx,zW⟩)
  rw[qM,iG (by rw[h.size]; exact hwf.sz _ qM)]
 ·refine aM.imp (F:=λw=>bK sz agg (m+n) (λj=>if j<m then f j else g (j-m)) w (.slice (some ⟨blk,0,none⟩) (m+n) cap')) (λw'' AI=>?_) λw=>hp.spec hwf he ht w _
  refine M8 hle hmx hN (λ_=>⟨blk,0,rfl,λj u hj=>?_⟩) (λj hj=>?_)
  ·have IW:j<(m+n)*sz:=by
    rw[<-hN]
    rcases Nat.lt_or_ge j (olds++news).length with h'|h'
    ·exact h'
    ·rw[List.getElem?_eq_none h']at hj; cases hj
   refine AI.cell blk (0+j) u ?_ ?_
   ·rw[Nat.zero_add]
    intro ho
    rcases Co _ _ ho with⟨_,h3⟩|h1|⟨z,hz,k1,k2,h2⟩
    ·rw[hlo]at h3; omega
    ·obtain⟨⟨k1,k2⟩,_⟩:=h.old _ _ h1
     exact gJ.elim (λh=>by omega) k2
    ·exact(e2 z hz k1 k2 blk h2).2 rfl
   ·rw[Nat.zero_add]
    simp only[World.cell?,hblk]
    rw[<-AO,List.getElem?_take,if_pos IW]at hj
    simpa using hj
  ·have AL:∀(l r:List Value) (q:Nat),(q+1)*sz<=l.length->((l++r).drop (q*sz)).take sz=(l.drop (q*sz)).take sz:=λl r q hq=>by
    rw[Nat.add_mul,Nat.one_mul]at hq
    rw[List.drop_append_of_le_length (by omega),List.take_append_of_le_length (by rw[List.length_drop]; omega)]
   by_cases Qz:j<m
   ·rw[if_pos Qz,AL _ _ _ (by rw[ek]; exact Nat.mul_le_mul_right _ Qz)]
    exact kM e3 hown (NF j Qz) w'' AI
   ·rw[if_neg Qz]
    have e:(olds++news).drop (j*sz)=news.drop ((j-m)*sz):=by
     have:j*sz=olds.length+(j-m)*sz:=by rw[ek,<-Nat.add_mul]; congr 1; omega
     rw[this,<-List.drop_drop,List.drop_left]
    rw[e]
    exact kM e3 hown (hnf (j-m) (by omega)) w'' AI
variable {sz n:Nat} {tx:TypeId}
theorem BD {cap:Nat} {E':TypeId} {A':Option Addr} {news:List Value} (hk:P.underlying tx=some (.slice E')) (hl:news.length=n*sz) (h1:∀u∈news,u.oneCell'=true) (hc:0<n->∃b o,A'=some ⟨b,o,none⟩/\∀j u,news[j]?=some u->w.cell? ⟨b,o+j,none⟩=some u):Src P sz tx (.slice A' n cap) n news w:=by
 rcases Nat.eq_zero_or_pos n with h0|hpos
 ·subst h0
  have hn:news=[]:=List.eq_nil_of_length_eq_zero (by rw[hl]; simp)
  subst hn
  cases A' with
  |none=>exact Src.ofNil w hk cap
  |some b=>exact Src.ofSlice w hk b 0 cap [] (by simp) (λj u hj=>by simp at hj) (λu hu=>by cases hu)
 ·obtain⟨b,o,rfl,hcell⟩:=hc hpos
  exact Src.ofSlice w hk ⟨b,o,none⟩ n cap news hl (λj u hj=>by rw[Addr.add_mid]; exact hcell j u hj) h1
variable {T:TypeId}
theorem eH {x y:Operand} {v:Value} {K:Act->World->Prop} (hr:(Builtin.append_ #[T,tx] ty #[a.eval x,a.eval y]).run P w=.ok v w') (hK:K (a.put (some d) v) w'):Does P ⟨some d,.call ⟨.builtin .append,#[x,y],#[T,tx]⟩,ty,pos,aL,none⟩ a w K:=by
 have hrun:(execOp a.eval ⟨some d,.call ⟨.builtin .append,#[x,y],#[T,tx]⟩,ty,pos,aL,none⟩).run P w=.ok (.value v) w':=by
  show(do let d <-resolve a.eval ⟨.builtin .append,#[x,y],#[T,tx]⟩ ty; invoke d.target d.args).run P w=_
  simp only[resolve,invoke,pure_bind,builtin]
  rw[show(#[x,y]:Array Operand).map a.eval=#[a.eval x,a.eval y] by simp,Sem.run_bind,hr]
  rfl
 exact eE hrun hK
variable {m s:Nat} {xv yv:Vr}
theorem DY {E:TypeId} {agg:Bool} {f g:Nat->Pred} (k:Nat) (hk:V[k]?=some xv) (AM:xv.slot=s) (ho:bA ms i xv=true) (bS:xv.kd=.grow m sz) (nT:xv.dead=some i) (k2:Nat) (hk2:V[k2]?=some yv) (hb:yv.born=some i) (jQ:yv.kd=.grow (m+n) sz)
  (hT:xv.T=E) (Ku:yv.T=E) (nU:(V.all λz=>z.dead != some i||z.id==xv.id)=true) (fC:(A.all λp=>p.var != yv.id||p.tag.any λj=>(ms.getD j 0).testBit i)=true)
  (h1:Has ms G i (.tmp s) (bK sz agg m f)) (h2:Has ms G i y (bK sz agg n g)) (ht:xx P T tx E sz) (hagg:agg=false->sz=1) (hf:∀i,i<m->Fits sz agg (f i)) (hg:∀i,i<n->Fits sz agg (g i)) (hmax:m+n<=1073741824)
  (hp:Post G i (bK sz agg (m+n) λj=>if j<m then f j else g (j-m))):
  OpOk P ops ms c V A G i ⟨some d,.call ⟨.builtin .append,#[.tmp s,y],#[T,tx]⟩,ty,pos,aL,none⟩:=by
 refine iR (λL β a w hI hd hwf=>?_) rfl
 have hx:=List.mem_of_getElem? hk
 have hy:=List.mem_of_getElem? hk2
 have Hz:=hd.live ho
 have qw:=(bt bS).1 (hI.var xv hx Hz)
 obtain⟨A1,Vx,olds,Qm,IX,xq,ek,SA,WE,NF⟩:=oM hagg hf (h1.spec hI hd)
 obtain⟨A2,dY,news,Ou,NC,hc2,hnl,zW,hnc,hnf⟩:=oM hagg hg (h2.spec hI hd)
 obtain⟨E',PD⟩:=ht.src
 obtain⟨ti,zv,hi,hsz,hz,hzs,PK,hby⟩:=ht.info
 subst hsz
 have hsrc:∀w0:World,w0.heap=w.heap->Src P ti.size tx (a.eval y) n news w:=λ_ _=>by
  rw[Ou]
  exact BD PD hnl (λu hu=>(zW u hu).2) λh=>by
   obtain⟨b,o,e,hc⟩:=hnc h
   exact⟨b,o,e,λj u hj=>(hc j u hj).1⟩
 have hS:=hsrc w rfl
 have es:sl a xv.slot=a.eval (.tmp s):=by rw[AM]; rfl
 -- others' blocks
 have only:∀z,z∈V->live L z=true->z.dead≠some i->z.id≠xv.id:=λz hz _ yB e=>by
  have:=hwf.vu z xv hz hx e
  subst this
  exact yB nT
 -- a new block
 have fresh:∀(cur':List Value) (cap':Nat),cur'.length=cap'*ti.size->m+n<=cap'->cap'<=maxLen->(∀u∈cur',gv u)->cur'.take ((m+n)*ti.size)=olds++news ->
   (Builtin.append_ #[T,tx] ty #[a.eval (.tmp s),a.eval y]).run P w=.ok (.slice (some ⟨w.heap.size,0,none⟩) (m+n) cap') (w.drew.alloc (.cells cur'.toArray E)) ->
   Does P ⟨some d,.call ⟨.builtin .append,#[.tmp s,y],#[T,tx]⟩,ty,pos,aL,none⟩ a w (Inv c V A G (upd L i)):=by
  intro cur' cap' k1 k2 k3 k4 k5 hr
  have hb0:Below w.heap.size w (w.drew.alloc (.cells cur'.toArray E)):=Below.alloc (Below.drew (Below.refl _ _)) (Nat.le_refl _) _
  refine eH hr ?_
  exact hI.appended hd hwf (E:=E) (f:=f) (g:=g) (agg:=agg) hy hb jQ Ku rfl rfl fC ek hnl NF hnf hp (heap_alloc_new w.drew _) k1 k2 k3 k4 k5 (.inl hI.below.size) ⟨hb0.os,hb0.tape,hb0.output,hb0.size⟩ (λk hk _=>hb0.block k (Nat.lt_of_lt_of_le hk hI.below.size))
   (λz hz hl _ k hk=>⟨hb0.block k (fW hI hz hl hk),λe=>absurd e (Nat.ne_of_lt (fW hI hz hl hk))⟩) (Ext.bI hb0) (λz hz hl _=>Ext.bI hb0) (λj hj=>absurd hj (Nat.lt_irrefl _))
 have qv:∀(bs:Option Addr) (sc:Nat),a.eval (.tmp s)=.slice bs m sc->sc<m+n->(Builtin.firstCells ti.size m (.slice bs m sc)).run P w.drew=.ok olds.toArray w.drew ->
   Does P ⟨some d,.call ⟨.builtin .append,#[.tmp s,y],#[T,tx]⟩,ty,pos,aL,none⟩ a w (Inv c V A G (upd L i)):=by
  intro bs sc e hlt hold
  have hrun:=run_append_grow_src (P:=P) w T tx ty E ti zv ht.under hi hz bs m sc olds hold (a.eval y) n news hS hlt (by omega) (growslice_fits hlt (by
   have:(m+n)*ti.bytes<=1073741824*4096:=Nat.mul_le_mul hmax hby
   omega))
  have hge:=grownCap_ge w (m+n) sc E
  refine fresh (olds++news++(Builtin.zeroCells zv.cells (grownCap w (m+n) sc E-(m+n))).toList) (grownCap w (m+n) sc E) ?_ hge (grownCap_le_maxLen w (m+n) sc E (by unfold maxLen; omega)) ?_ ?_ ?_
  ·rw[List.length_append,List.length_append,ek,hnl,Array.length_toList,size_zeroCells,hzs,<-Nat.add_mul,<-Nat.add_mul]
   congr 1; omega
  ·intro u hu
   rcases List.mem_append.1 hu with hu|hu
   ·rcases List.mem_append.1 hu with hu|hu
    ·exact(SA u hu).1
    ·exact(zW u hu).1
   ·exact eB PK _ u hu
  ·rw[<-show(olds++news).length=(m+n)*ti.size by rw[List.length_append,ek,hnl,Nat.add_mul],List.take_left]
  ·rw[e,hrun]
   congr 3
   apply Array.ext'
   simp
 rcases qw with⟨hB,hm0,yE⟩|⟨b,cap,cur,hB,yE,gJ,hblk,nR,Ps,hcm,yA⟩
 ·-- nil
  subst hm0
  have WD:olds=[]:=List.eq_nil_of_length_eq_zero (by rw[ek]; simp)
  rw[es]at yE
  rcases Nat.eq_zero_or_pos n with h0|hpos
  ·subst h0
   have AJ:news=[]:=List.eq_nil_of_length_eq_zero (by rw[hnl]; simp)
   subst AJ
   have hrun:=run_append_nothing (P:=P) w T tx ty E ti ht.under hi none 0 0 (Nat.le_refl 0) (a.eval y) hS
   rw[<-yE]at hrun
   refine eH hrun ?_
   refine hI.By hd hwf hy hb rfl rfl fC (B':=λ_=>False) ⟨rfl,rfl,rfl,Nat.le_refl _⟩ (λ_ _ _=>rfl) (λ_ _ _ _ _ _=>⟨rfl,λh=>h⟩) (Ext.refl _ _) (λ_ _ _ _=>Ext.refl _ _) (λ_ _ _ h=>h.elim) (λβ' KM _ _=>?_) (λβ' KM hown _ e he ht'=>?_)
   ·have qM:=hwf.v2 yv hy hb
    refine(bt jQ).2 (.inl ⟨λk=>by rw[KM]; exactλh=>h,rfl,?_⟩)
    rw[qM,iG (by rw[hI.size]; exact hwf.sz _ qM)]
    exact yE
   ·refine aM.imp (F:=λw=>bK ti.size agg (0+0) (λj=>if j<0 then f j else g (j-0)) w (a.eval (.tmp s))) (λw'' _=>?_) λw=>hp.spec hwf he ht' w _
    rw[yE]
    exact⟨none,0,rfl,Nat.le_refl _,Nat.zero_le _,λh=>absurd h (Nat.lt_irrefl 0)⟩
  ·refine qv none 0 yE (by omega) ?_
   rw[WD]
   exact run_firstCells_none w.drew ti.size 0 0 0
 ·-- a block
  rw[hT]at hblk
  rw[es]at yE
  rw[yE]at Qm
  injection Qm with eA _ Rq
  subst Rq
  have uo:cur.take (m*ti.size)=olds:=by
   rcases Nat.eq_zero_or_pos m with h0|hpos
   ·subst h0
    rw[Nat.zero_mul,List.take_zero]
    exact(List.eq_nil_of_length_eq_zero (by rw[ek]; simp)).symm
   ·obtain⟨b',o',e,hc⟩:=WE hpos
    rw[<-eA]at e
    injection e with e
    injection e with e2 e3
    subst e2 e3
    have hle:m*ti.size<=cap*ti.size:=Nat.mul_le_mul_right _ Ps
    refine jE (w:=w) (b:=b) (o:=0) (by rw[List.length_take,ek,nR]; omega) (λj u hj=>?_) (λj u hj=>(hc j u hj).1)
    rw[List.getElem?_take]at hj
    split at hj
    ·rw[Nat.zero_add]
     simp only[World.cell?,hblk]
     simpa using hj
    ·cases hj
  by_cases hroom:m+n<=cap
  ·-- there is room
   have hN:m*ti.size+n*ti.size<=cap*ti.size:=by rw[<-Nat.add_mul]; exact Nat.mul_le_mul_right _ hroom
   have hsome:∀j,j<news.length->(w.cell? ⟨b,0+m*ti.size+j,none⟩).isSome=true:=by
    intro j hj
    simp only[World.cell?,hblk]
    rw[List.getElem?_toArray,List.getElem?_eq_getElem (by rw[nR]; omega)]
    rfl
   have hfz:∀j,j<news.length->w.frozen? ⟨b,0+m*ti.size+j,none⟩=false:=by
    intro j hj
    simp[World.frozen?,hblk]
   have hrun:=run_append_room_src (P:=P) w T tx ty E ti ht.under hi b 0 m cap (a.eval y) n news hS hroom hsome hfz
   rw[<-yE]at hrun
   have yD:w.setCells b (0+m*ti.size) news=w.setRow b (cur.take (m*ti.size)++news++cur.drop (m*ti.size+news.length)).toArray:=by
    have r1:=run_storeCells_cells (P:=P) b (0+m*ti.size) news 0 w (by simpa using hsome) (by simpa using hfz) λu hu=>(zW u hu).2
    have r2:=run_storeCells_at P b (0+m*ti.size) E news 0 cur.toArray w hblk (by simp; omega) λu hu=>(zW u hu).2
    rw[r1]at r2
    injection r2 with _ r2
    simpa using r2
   rw[yD]at hrun
   refine eH hrun ?_
   have hgx:β xv.id b:=(hB b).2 rfl
   have Su:xv.lo=m*ti.size:=by unfold Vr.lo; rw[bS]
   have og:∀j,m*ti.size<=j->own c V L β b j:=λj hj=>.inr ⟨xv,hx,Hz,hgx,by rw[Su]; exact hj⟩
   have AK:∀k,k<c.w0.heap.size->¬c.gw k->k≠b:=λk h1 h2 e=>gJ.elim (λh3=>by omega) (λh3=>h2 (e▸h3))
   have ext:∀M:Nat->Nat->Prop,(∀j,m*ti.size<=j->M b j)->Ext M w (w.setRow b (cur.take (m*ti.size)++news++cur.drop (m*ti.size+news.length)).toArray):=by
    intro M hM
    refine⟨Nat.le_of_eq size_setRow.symm,λk hk hno=>aC λe=>hno (m*ti.size) (by rw[e]; exact hM _ (Nat.le_refl _)),λk o v hno hv=>?_⟩
    by_cases hkb:k=b
    ·subst hkb
     have hlt:o<m*ti.size:=by
      rcases Nat.lt_or_ge o (m*ti.size)with h'|h'
      ·exact h'
      ·exact absurd (hM o h') hno
     have hb':(w.setRow k (cur.take (m*ti.size)++news++cur.drop (m*ti.size+news.length)).toArray).heap[k]?=some (.cells (cur.take (m*ti.size)++news++cur.drop (m*ti.size+news.length)).toArray E (0,0)):=setRow_heap w _ _ _ _ _ hblk
     simp only[World.cell?,hblk]at hv
     simp only[World.cell?,hb']
     have hv':cur[o]?=some v:=by simpa using hv
     have:(cur.take (m*ti.size)++news++cur.drop (m*ti.size+news.length))[o]?=some v:=by
      rw[List.append_assoc,List.getElem?_append_left (by rw[List.length_take,nR]; omega),List.getElem?_take,if_pos hlt]
      exact hv'
     simpa using this
    ·rw[World.cell?_of_block (w:=w) (a:=⟨k,o,none⟩) (aC hkb)]; exact hv
   refine hI.appended hd hwf (E:=E) (f:=f) (g:=g) (agg:=agg) (cur':=cur.take (m*ti.size)++news++cur.drop (m*ti.size+news.length)) hy hb jQ Ku rfl rfl fC ek hnl NF hnf hp (setRow_heap w _ _ _ _ _ hblk) ?_ hroom hcm ?_ ?_ gJ ⟨rfl,rfl,rfl,Nat.le_of_eq size_setRow.symm⟩ (λk hk hn=>aC (AK k hk hn))
    (λz hz hl yB k hk=>?_) (ext _ og) (λz hz hl yB=>ext _ λj hj=>⟨og j hj,λe=>hI.apart z xv b hz hx hl Hz (only z hz hl yB) e hgx⟩) (λj _ hj=>og j (Nat.le_trans (Nat.mul_le_mul_right _ (Nat.le_add_right m n)) hj))
   ·simp only[List.length_append,List.length_take,List.length_drop,nR,hnl]; omega
   ·intro u hu
    simp only[List.mem_append]at hu
    rcases hu with(hu|hu)|hu
    ·exact yA u (List.mem_of_mem_take hu)
    ·exact(zW u hu).1
    ·exact yA u (List.mem_of_mem_drop hu)
   ·rw[uo]
    rw[<-show(olds++news).length=(m+n)*ti.size by rw[List.length_append,ek,hnl,Nat.add_mul],List.take_left]
   ·have hkb:¬k=b:=λe=>hI.apart z xv k hz hx hl Hz (only z hz hl yB) hk (e▸hgx)
    exact⟨aC hkb,hkb⟩
  ·refine qv (some ⟨b,0,none⟩) cap yE (by omega) ?_
   refine run_firstCells_some w.drew ti.size m ⟨b,0,none⟩ m cap olds ek λj u hj=>?_
   rw[Addr.add_mid]
   have IW:j<m*ti.size:=by
    rw[<-ek]
    rcases Nat.lt_or_ge j olds.length with h'|h'
    ·exact h'
    ·rw[List.getElem?_eq_none h']at hj; cases hj
   show w.cell? ⟨b,0+j,none⟩=some u
   rw[Nat.zero_add]
   simp only[World.cell?,hblk]
   rw[<-uo,List.getElem?_take,if_pos IW]at hj
   simpa using hj
theorem aT.handed (hI:aT c V A G L β a w) (hd:mB ms i L) (hwf:kD c.N ops V A G i o) {xv yv:Vr} {m sz s:Nat} {p:Pred} (hx:xv∈V) (AM:xv.slot=s) (ho:bA ms i xv=true) (bS:xv.kd=.grow m sz) (nT:xv.dead=some i) (hy:yv∈V) (hb:yv.born=some i) (jQ:yv.kd=.grow m sz)
  (hT:yv.T=xv.T) (fC:(A.all λp=>p.var != yv.id||p.tag.any λj=>(ms.getD j 0).testBit i)=true) (hst:eD o.op=false) (Mn:iw o.op=false) (h1:Has ms G i (.tmp s) p) (hp:Post G i p):Inv c V A G (upd L i) (a.put o.dst (a.eval (.tmp s))) w:=by
 have Hz:=hd.live ho
 have qw:=(bt bS).1 (hI.var xv hx Hz)
 have es:sl a xv.slot=a.eval (.tmp s):=by rw[AM]; rfl
 have hlo:yv.lo=xv.lo:=by unfold Vr.lo; rw[bS,jQ]
 have qM:=hwf.v2 yv hy hb
 have only:∀z,z∈V->live L z=true->z.dead≠some i->z.id≠xv.id:=λz hz _ yB e=>by
  have:=hwf.vu z xv hz hx e
  subst this
  exact yB nT
 refine hI.By hd hwf hy hb hst Mn fC (B':=β xv.id) ⟨rfl,rfl,rfl,Nat.le_refl _⟩ (λ_ _ _=>rfl) (λz hz hl yB k hk=>⟨rfl,λe=>hI.apart z xv k hz hx hl Hz (only z hz hl yB) hk e⟩) (Ext.refl _ _) (λ_ _ _ _=>Ext.refl _ _) (λk j _ hk hj=>.inr ⟨xv,hx,Hz,hk,hlo▸hj⟩) (λβ' KM _ _=>?_) (λβ' KM hown _ e he ht'=>?_)
 ·have hs:sl (a.put o.dst (a.eval (.tmp s))) yv.slot=sl a xv.slot:=by rw[qM,iG (by rw[hI.size]; exact hwf.sz _ qM),es]
  refine(bt jQ).2 ?_
  rw[KM]
  rcases qw with⟨hB,hm0,yE⟩|⟨b,cap,cur,hB,yE,gJ,hblk,hr⟩
  ·exact .inl ⟨hB,hm0,hs.trans yE⟩
  ·exact .inr ⟨b,cap,cur,hB,hs.trans yE,gJ,by rw[hT]; exact hblk,hr⟩
 ·exact((h1.spec hI hd).sub hown).imp λw=>hp.spec hwf he ht' w _
theorem Bi {p:Pred} (k:Nat) (hk:V[k]?=some xv) (AM:xv.slot=s) (ho:bA ms i xv=true) (bS:xv.kd=.grow m sz) (nT:xv.dead=some i) (k2:Nat) (hk2:V[k2]?=some yv) (hb:yv.born=some i) (jQ:yv.kd=.grow m sz) (hT:yv.T=xv.T)
  (fC:(A.all λp=>p.var != yv.id||p.tag.any λj=>(ms.getD j 0).testBit i)=true) (h1:Has ms G i (.tmp s) p) (hp:Post G i p):OpOk P ops ms c V A G i ⟨some d,.assign (.tmp s),ty,pos,aL,none⟩:=
 iR (λ_ _ a w hI hd hwf=>eE (v:=a.eval (.tmp s)) (w':=w) rfl (hI.handed hd hwf (List.mem_of_getElem? hk) AM ho bS nT (List.mem_of_getElem? hk2) hb jQ hT fC rfl rfl h1 hp)) rfl
end
end Wx
