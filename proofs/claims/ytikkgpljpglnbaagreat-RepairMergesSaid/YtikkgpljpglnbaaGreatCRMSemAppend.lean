import Derived.Test.YtikkgpljpglnbaaGreatJRM16
namespace Wx
open Go Go.RowKit
variable {sz:Nat}
theorem C5 {α:Type}:∀(n:Nat) (g:Nat->List α),(∀i,i<n->(g i).length=sz)->((List.range n).flatMap g).length=n*sz/\∀i,i<n->(((List.range n).flatMap g).drop (i*sz)).take sz=g i:=by
 intro n
 induction n with
 |zero=>intro g _; exact⟨by simp,λi h=>absurd h (Nat.not_lt_zero i)⟩
 |succ n ih=>
  intro g h
  obtain⟨h1,h2⟩:=ih g λi hi=>h i (by omega)
  have hn:=h n (by omega)
  have e:(List.range (n+1)).flatMap g=(List.range n).flatMap g++g n:=by rw[List.range_succ,List.flatMap_append]; simp
  rw[e]
  refine⟨by rw[List.length_append,h1,hn,Nat.add_mul,Nat.one_mul],λi hi=>?_⟩
  rcases Nat.lt_or_ge i n with hin|hin
  ·have hle:(i+1)*sz<=n*sz:=Nat.mul_le_mul_right _ hin
   rw[Nat.add_mul,Nat.one_mul]at hle
   rw[List.drop_append_of_le_length (by omega),List.take_append_of_le_length (by rw[List.length_drop]; omega)]
   exact h2 i hin
  ·have hi':i=n:=by omega
   subst hi'
   rw[<-h1,List.drop_left,<-hn,List.take_length]
variable {M:Nat->Nat->Prop} {w:World} {agg:Bool}
theorem BZ {p:Pred} {b o:Nat} (h1:agg=false->sz=1) (hf:Fits sz agg p) (h:aL M (λw=>cZ sz agg p w (.pointer (some ⟨b,o,none⟩))) w):
  ∃cs:List Value,cs.length=sz/\(∀j u,cs[j]?=some u->w.cell? ⟨b,o+j,none⟩=some u/\¬M b (o+j))/\(∀u∈cs,fq u/\u.oneCell'=true)/\aL M (λw=>p w (aq agg cs)) w:=by
 have A6:∀{cs ds:List Value},cs.length=sz->ds.length=sz->aq agg cs=aq agg ds->cs=ds:=by
  intro cs ds e1 e2 e
  cases agg with
  |true=>exact bU e
  |false=>
   have:=h1 rfl
   match cs,ds,e1,e2 with
   |[x],[y],_,_=>simp only[aq,Bool.false_eq_true,if_false,List.headD_cons]at e; rw[e]
   |[],_,e1,_=>simp at e1; omega
   |_::_::_,_,e1,_=>simp at e1; omega
   |[_],[],_,e2=>simp at e2; omega
   |[_],_::_::_,_,e2=>simp at e2; omega
 obtain⟨b0,o0,cs,e,hl,hc,hb⟩:=wU h1 hf h
 injection e with e
 injection e with e
 injection e with e2 e3
 subst e2 e3
 have hfit:∀u∈cs,fq u/\u.oneCell'=true:=by
  obtain⟨ds,e4,hl4,_,h4⟩:=hf w _ hb.out
  rw[A6 hl hl4 e4]
  exact h4
 refine⟨cs,hl,λj u hj=>⟨hc j u hj,vm h (hc j u hj) ?_⟩,hfit,hb⟩
 rintro w' hw' ⟨b',o',cs',e,hl',hc',hp'⟩
 injection e with e
 injection e with e
 injection e with e2 e3
 subst e2 e3
 obtain⟨ds,e4,hl4,_,h4⟩:=hf w' _ hp'
 have e5:=A6 hl' hl4 e4
 subst e5
 have hj':j<cs'.length:=by
  rcases Nat.lt_or_ge j cs.length with h'|h'
  ·omega
  ·rw[List.getElem?_eq_none h']at hj; cases hj
 have h6:=hc' j _ (List.getElem?_eq_getElem hj')
 rw[hw']at h6
 injection h6 with h6
 exact((h4 _ (List.getElem_mem hj')).1 0).1 h6.symm
variable {n:Nat} {f:Nat->Pred}
theorem mP {v:Value} (h1:agg=false->sz=1) (hf:∀i,i<n->Fits sz agg (f i)) (h:aL M (λw=>bz sz agg n f w v) w):
  ∃(A:Option Addr) (cap:Nat) (cs:List Value),v=.slice A n cap/\n<=cap/\cap<=maxLen/\cs.length=n*sz/\(∀u∈cs,fq u/\u.oneCell'=true) /\
   (0<n->∃b o,A=some ⟨b,o,none⟩/\∀j u,cs[j]?=some u->w.cell? ⟨b,o+j,none⟩=some u/\¬M b (o+j))/\∀i,i<n->aL M (λw=>f i w (aq agg ((cs.drop (i*sz)).take sz))) w:=by
 obtain⟨A,cap,rfl,hn,hcap,hel⟩:=h.out
 rcases Nat.eq_zero_or_pos n with h0|hpos
 ·subst h0
  exact⟨A,cap,[],rfl,hn,hcap,by simp,(λu hu=>by cases hu),(λh=>absurd h (Nat.lt_irrefl 0)),λi hi=>absurd hi (Nat.not_lt_zero i)⟩
 ·obtain⟨b,o,rfl,_⟩:=hel hpos
  have el:∀i,i<n->∃cs:List Value,cs.length=sz/\(∀j u,cs[j]?=some u->w.cell? ⟨b,o+i*sz+j,none⟩=some u/\¬M b (o+i*sz+j))/\(∀u∈cs,fq u/\u.oneCell'=true)/\aL M (λw=>f i w (aq agg cs)) w:=by
   intro i hi
   refine BZ h1 (hf i hi) λw' he=>?_
   obtain⟨A',cap',e,_,_,Pm⟩:=h w' he
   injection e with e _ _
   obtain⟨b',o',e',Mb⟩:=Pm hpos
   rw[<-e]at e'
   injection e' with e'
   injection e' with e2 e3
   subst e2 e3
   obtain⟨cs,k1,k2,k3⟩:=Mb i hi
   exact⟨_,_,cs,rfl,k1,k2,k3⟩
  let g:Nat->List Value:=λi=>if h:i<n then Classical.choose (el i h)else[]
  have hg:∀i (hi:i<n),(g i).length=sz/\(∀j u,(g i)[j]?=some u->w.cell? ⟨b,o+i*sz+j,none⟩=some u/\¬M b (o+i*sz+j))/\(∀u∈g i,fq u/\u.oneCell'=true)/\aL M (λw=>f i w (aq agg (g i))) w:=by
   intro i hi
   have e:g i=Classical.choose (el i hi):=dif_pos hi
   rw[e]
   exact Classical.choose_spec (el i hi)
  obtain⟨hl,yq⟩:=C5 n g λi hi=>(hg i hi).1
  refine⟨_,cap,(List.range n).flatMap g,rfl,hn,hcap,hl,?_,λ_=>⟨b,o,rfl,?_⟩,λi hi=>?_⟩
  ·intro u hu
   rw[List.mem_flatMap]at hu
   obtain⟨i,hi,hu⟩:=hu
   exact(hg i (List.mem_range.1 hi)).2.2.1 u hu
  ·intro j u hj
   have FL:j<n*sz:=by
    rw[<-hl]
    rcases Nat.lt_or_ge j ((List.range n).flatMap g).length with h'|h'
    ·exact h'
    ·rw[List.getElem?_eq_none h']at hj; cases hj
   have hsz:0<sz:=by
    rcases Nat.eq_zero_or_pos sz with hz|hz
    ·rw[hz]at FL; simp at FL
    ·exact hz
   have hi:j/sz<n:=Nat.div_lt_of_lt_mul (by rw[Nat.mul_comm]; exact FL)
   have hr:j%sz<sz:=Nat.mod_lt _ hsz
   have hd:j/sz*sz+j%sz=j:=by rw[Nat.mul_comm]; exact Nat.div_add_mod j sz
   have hk:(g (j/sz))[j%sz]?=some u:=by
    rw[<-yq _ hi,List.getElem?_take,if_pos hr,List.getElem?_drop,hd]
    exact hj
   have:=(hg _ hi).2.1 _ _ hk
   rwa [Nat.add_assoc,hd]at this
  ·rw[yq i hi]
   exact(hg i hi).2.2.2
theorem Km {cap:Nat} {A:Option Addr} {cs:List Value} (hn:n<=cap) (hcap:cap<=maxLen) (hl:cs.length=n*sz)
  (hc:0<n->∃b o,A=some ⟨b,o,none⟩/\∀j u,cs[j]?=some u->w.cell? ⟨b,o+j,none⟩=some u) (hf:∀i,i<n->f i w (aq agg ((cs.drop (i*sz)).take sz))):bz sz agg n f w (.slice A n cap):=by
 refine⟨A,cap,rfl,hn,hcap,λhpos=>?_⟩
 obtain⟨b,o,e,hc⟩:=hc hpos
 refine⟨b,o,e,λi hi=>⟨(cs.drop (i*sz)).take sz,?_,λj u hj=>?_,hf i hi⟩⟩
 ·have hle:(i+1)*sz<=n*sz:=Nat.mul_le_mul_right _ hi
  rw[Nat.add_mul,Nat.one_mul]at hle
  rw[List.length_take,List.length_drop,hl]
  omega
 ·rw[List.getElem?_take]at hj
  split at hj
  ·rw[List.getElem?_drop]at hj
   have:=hc _ _ hj
   rwa [<-Nat.add_assoc]at this
  ·cases hj
section
variable {P:Program} {ops:Array Oper} {ms:List Nat} {c:cF} {V:List Vr} {A:List Al} {G:List aQ} {i:Nat} {L:Nat->Bool} {β:Nat->Nat->Prop} {a:Act} {w:World} {o:Oper}{d:Nat} {x y z:Operand} {ty:TypeId} {pos:String} {aI:Array Edge}
structure uS (P:Program) (T tx E:TypeId) (sz:Nat):Prop where
 under:P.underlying T=some (.slice E)
 src:∃E',P.underlying tx=some (.slice E')
 info:∃ti zv,P.info? E=some ti/\ti.size=sz/\ti.zero=some zv/\zv.cells.size=sz/\(∀u∈zv.cells.toList,fq u)/\ti.bytes<=4096
theorem dI {zs:Array Value} (h:∀u∈zs.toList,fq u) (n:Nat):∀u∈(Builtin.zeroCells zs n).toList,fq u:=by
 intro u hu
 simp only[Builtin.zeroCells,Array.toList_map,List.mem_map,Array.mem_toList_iff,Array.mem_range]at hu
 obtain⟨k,hk,rfl⟩:=hu
 have hpos:0<zs.size:=by
  rcases Nat.eq_zero_or_pos zs.size with hz|hz
  ·rw[hz]at hk; simp at hk
  ·exact hz
 have hlt:k%zs.size<zs.size:=Nat.mod_lt _ hpos
 rw[getElem!_pos zs _ hlt]
 exact h _ (by simp)
variable {w':World}
theorem jC {M M':Nat->Nat->Prop} {w:World} (e3:Ext M w w') (hown:∀k j,k<w.heap.size->M' k j->M k j) {F:World->Prop} (hF:aL M F w):aL M' F w':=λw'' he=>by
 refine hF w'' ⟨Nat.le_trans e3.size he.size,λk hk hno=>?_,λk j v hno hv=>?_⟩
 ·rw[he.block k (Nat.lt_of_lt_of_le hk e3.size) λj h'=>hno j (hown k j hk h')]
  exact e3.block k hk hno
 ·have hk:=World.block_lt_of_cell? w _ hv
  exact he.cell k j v (λh'=>hno (hown k j hk h')) (e3.cell k j v hno hv)
theorem aT.appended (h:aT c V A G L β a w) (hd:kO ms i L) (hwf:ju c.N ops V A G i o) {yv:Vr} {E:TypeId} {sz m n:Nat} {agg:Bool} {f g:Nat->Pred} {olds news:List Value} (hy:yv∈V) (yy:yv.born=some i) (iW:yv.kd=.grow (m+n) sz) (Hv:yv.T=E) (hst:ek o.op=false) (JH:gW o.op=false)
  (eB:(A.all λp=>p.var != yv.id||p.tag.any λj=>(ms.getD j 0).testBit i)=true) (dF:olds.length=m*sz) (hnl:news.length=n*sz)
  (KW:∀i,i<m->aL (own c V L β) (λw=>f i w (aq agg ((olds.drop (i*sz)).take sz))) w) (hnf:∀i,i<n->aL (own c V L β) (λw=>g i w (aq agg ((news.drop (i*sz)).take sz))) w)
  (hp:Post G i (bz sz agg (m+n) λj=>if j<m then f j else g (j-m)))
  {w':World} {blk cap':Nat} {cur':List Value} (hblk:w'.heap[blk]?=some (.cells cur'.toArray E (0,0))) (mc:cur'.length=cap'*sz) (hle:m+n<=cap') (hmx:cap'<=maxLen) (xG:∀u∈cur',fq u) (yw:cur'.take ((m+n)*sz)=olds++news) (fI:mine c blk)
  (e0:w'.os=w.os/\w'.tape=w.tape/\w'.output=w.output/\w.heap.size<=w'.heap.size)
  (e1:∀k,k<c.w0.heap.size->¬c.fH k->w'.heap[k]?=w.heap[k]?)
  (e2:∀z,z∈V->live L z=true->z.dead≠some i->∀k,β z.id k->w'.heap[k]?=w.heap[k]?/\¬k=blk)
  (e3:Ext (own c V L β) w w') (e4:∀z,z∈V->live L z=true->z.dead≠some i->Ext (minus (own c V L β) (β z.id)) w w')
  (e5:∀j,blk<w.heap.size->(m+n)*sz<=j->own c V L β blk j):
  Inv c V A G (upd L i) (a.put o.dst (.slice (some ⟨blk,0,none⟩) (m+n) cap')) w':=by
 have hlo:yv.lo=(m+n)*sz:=by unfold Vr.lo; rw[iW]
 have oI:=hwf.v2 yv hy yy
 have hN:(olds++news).length=(m+n)*sz:=by rw[List.length_append,dF,hnl,Nat.add_mul]
 refine h.yY hd hwf hy yy hst JH eB (B':=(·=blk)) e0 e1 e2 e3 e4 (λk j hk e hj=>by subst e; exact e5 j hk (hlo▸hj)) (λβ' Ih hown _=>?_) (λβ' Ih hown Ac e he ht=>?_)
 ·refine(bh iW).2 (.inr ⟨blk,cap',cur',λk=>by rw[Ih],?_,fI,by rw[Hv]; exact hblk,mc,hle,hmx,xG⟩)
  rw[oI,gy (by rw[h.size]; exact hwf.sz _ oI)]
 ·refine aL.imp (F:=λw=>bz sz agg (m+n) (λj=>if j<m then f j else g (j-m)) w (.slice (some ⟨blk,0,none⟩) (m+n) cap')) (λw'' yl=>?_) λw=>hp.spec hwf he ht w _
  refine Km hle hmx hN (λ_=>⟨blk,0,rfl,λj u hj=>?_⟩) (λj hj=>?_)
  ·have FL:j<(m+n)*sz:=by
    rw[<-hN]
    rcases Nat.lt_or_ge j (olds++news).length with h'|h'
    ·exact h'
    ·rw[List.getElem?_eq_none h']at hj; cases hj
   refine yl.cell blk (0+j) u ?_ ?_
   ·rw[Nat.zero_add]
    intro ho
    rcases Ac _ _ ho with⟨_,h3⟩|h1|⟨z,hz,k1,k2,h2⟩
    ·rw[hlo]at h3; omega
    ·obtain⟨⟨k1,k2⟩,_⟩:=h.old _ _ h1
     exact fI.elim (λh=>by omega) k2
    ·exact(e2 z hz k1 k2 blk h2).2 rfl
   ·rw[Nat.zero_add]
    simp only[World.cell?,hblk]
    rw[<-yw,List.getElem?_take,if_pos FL]at hj
    simpa using hj
  ·have yq:∀(l r:List Value) (q:Nat),(q+1)*sz<=l.length->((l++r).drop (q*sz)).take sz=(l.drop (q*sz)).take sz:=λl r q hq=>by
    rw[Nat.add_mul,Nat.one_mul]at hq
    rw[List.drop_append_of_le_length (by omega),List.take_append_of_le_length (by rw[List.length_drop]; omega)]
   by_cases Ml:j<m
   ·rw[if_pos Ml,yq _ _ _ (by rw[dF]; exact Nat.mul_le_mul_right _ Ml)]
    exact jC e3 hown (KW j Ml) w'' yl
   ·rw[if_neg Ml]
    have e:(olds++news).drop (j*sz)=news.drop ((j-m)*sz):=by
     have:j*sz=olds.length+(j-m)*sz:=by rw[dF,<-Nat.add_mul]; congr 1; omega
     rw[this,<-List.drop_drop,List.drop_left]
    rw[e]
    exact jC e3 hown (hnf (j-m) (by omega)) w'' yl
variable {sz n:Nat} {tx:TypeId}
theorem ze {cap:Nat} {E':TypeId} {A':Option Addr} {news:List Value} (hk:P.underlying tx=some (.slice E')) (hl:news.length=n*sz) (h1:∀u∈news,u.oneCell'=true) (hc:0<n->∃b o,A'=some ⟨b,o,none⟩/\∀j u,news[j]?=some u->w.cell? ⟨b,o+j,none⟩=some u):Src P sz tx (.slice A' n cap) n news w:=by
 rcases Nat.eq_zero_or_pos n with h0|hpos
 ·subst h0
  have hn:news=[]:=List.eq_nil_of_length_eq_zero (by rw[hl]; simp)
  subst hn
  cases A' with
  |none=>exact Src.ofNil w hk cap
  |some b=>exact Src.ofSlice w hk b 0 cap [] (by simp) (λj u hj=>by simp at hj) (λu hu=>by cases hu)
 ·obtain⟨b,o,rfl,hcell⟩:=hc hpos
  exact Src.ofSlice w hk ⟨b,o,none⟩ n cap news hl (λj u hj=>by rw[Addr.add_mid]; exact hcell j u hj) h1
variable {T:TypeId}
theorem de {x y:Operand} {v:Value} {K:Act->World->Prop} (hr:(Builtin.append_ #[T,tx] ty #[a.eval x,a.eval y]).run P w=.ok v w') (hK:K (a.put (some d) v) w'):Does P ⟨some d,.call ⟨.builtin .append,#[x,y],#[T,tx]⟩,ty,pos,aI,none⟩ a w K:=by
 have hrun:(execOp a.eval ⟨some d,.call ⟨.builtin .append,#[x,y],#[T,tx]⟩,ty,pos,aI,none⟩).run P w=.ok (.value v) w':=by
  show(do let d <-resolve a.eval ⟨.builtin .append,#[x,y],#[T,tx]⟩ ty; invoke d.target d.args).run P w=_
  simp only[resolve,invoke,pure_bind,builtin]
  rw[show(#[x,y]:Array Operand).map a.eval=#[a.eval x,a.eval y] by simp,Sem.run_bind,hr]
  rfl
 exact dg hrun hK
variable {m s:Nat} {xv yv:Vr}
theorem BO {E:TypeId} {agg:Bool} {f g:Nat->Pred} (k:Nat) (hk:V[k]?=some xv) (yu:xv.slot=s) (ho:aX ms i xv=true) (bD:xv.kd=.grow m sz) (me:xv.dead=some i) (k2:Nat) (hk2:V[k2]?=some yv) (hb:yv.born=some i) (iW:yv.kd=.grow (m+n) sz)
  (hT:xv.T=E) (Hv:yv.T=E) (kL:(V.all λz=>z.dead != some i||z.id==xv.id)=true) (eB:(A.all λp=>p.var != yv.id||p.tag.any λj=>(ms.getD j 0).testBit i)=true)
  (h1:Has ms G i (.tmp s) (bz sz agg m f)) (h2:Has ms G i y (bz sz agg n g)) (ht:uS P T tx E sz) (hagg:agg=false->sz=1) (hf:∀i,i<m->Fits sz agg (f i)) (hg:∀i,i<n->Fits sz agg (g i)) (hmax:m+n<=1073741824)
  (hp:Post G i (bz sz agg (m+n) λj=>if j<m then f j else g (j-m))):
  OpOk P ops ms c V A G i ⟨some d,.call ⟨.builtin .append,#[.tmp s,y],#[T,tx]⟩,ty,pos,aI,none⟩:=by
 refine gK (λL β a w hI hd hwf=>?_) rfl
 have hx:=List.mem_of_getElem? hk
 have hy:=List.mem_of_getElem? hk2
 have E4:=hd.live ho
 have om:=(bh bD).1 (hI.var xv hx E4)
 obtain⟨A1,Sn,olds,Nr,FM,xE,dF,PI,Tr,KW⟩:=mP hagg hf (h1.spec hI hd)
 obtain⟨A2,dB,news,Lt,KU,hc2,hnl,xG,hnc,hnf⟩:=mP hagg hg (h2.spec hI hd)
 obtain⟨E',MC⟩:=ht.src
 obtain⟨ti,zv,hi,hsz,hz,hzs,MJ,hby⟩:=ht.info
 subst hsz
 have hsrc:∀w0:World,w0.heap=w.heap->Src P ti.size tx (a.eval y) n news w:=λ_ _=>by
  rw[Lt]
  exact ze MC hnl (λu hu=>(xG u hu).2) λh=>by
   obtain⟨b,o,e,hc⟩:=hnc h
   exact⟨b,o,e,λj u hj=>(hc j u hj).1⟩
 have hS:=hsrc w rfl
 have es:sl a xv.slot=a.eval (.tmp s):=by rw[yu]; rfl
 -- others' blocks
 have only:∀z,z∈V->live L z=true->z.dead≠some i->z.id≠xv.id:=λz hz _ vY e=>by
  have:=hwf.vu z xv hz hx e
  subst this
  exact vY me
 -- a new block
 have fresh:∀(cur':List Value) (cap':Nat),cur'.length=cap'*ti.size->m+n<=cap'->cap'<=maxLen->(∀u∈cur',fq u)->cur'.take ((m+n)*ti.size)=olds++news ->
   (Builtin.append_ #[T,tx] ty #[a.eval (.tmp s),a.eval y]).run P w=.ok (.slice (some ⟨w.heap.size,0,none⟩) (m+n) cap') (w.drew.alloc (.cells cur'.toArray E)) ->
   Does P ⟨some d,.call ⟨.builtin .append,#[.tmp s,y],#[T,tx]⟩,ty,pos,aI,none⟩ a w (Inv c V A G (upd L i)):=by
  intro cur' cap' k1 k2 k3 k4 k5 hr
  have hb0:Below w.heap.size w (w.drew.alloc (.cells cur'.toArray E)):=Below.alloc (Below.drew (Below.refl _ _)) (Nat.le_refl _) _
  refine de hr ?_
  exact hI.appended hd hwf (E:=E) (f:=f) (g:=g) (agg:=agg) hy hb iW Hv rfl rfl eB dF hnl KW hnf hp (heap_alloc_new w.drew _) k1 k2 k3 k4 k5 (.inl hI.below.size) ⟨hb0.os,hb0.tape,hb0.output,hb0.size⟩ (λk hk _=>hb0.block k (Nat.lt_of_lt_of_le hk hI.below.size))
   (λz hz hl _ k hk=>⟨hb0.block k (eT hI hz hl hk),λe=>absurd e (Nat.ne_of_lt (eT hI hz hl hk))⟩) (Ext.bH hb0) (λz hz hl _=>Ext.bH hb0) (λj hj=>absurd hj (Nat.lt_irrefl _))
 have oh:∀(bs:Option Addr) (sc:Nat),a.eval (.tmp s)=.slice bs m sc->sc<m+n->(Builtin.firstCells ti.size m (.slice bs m sc)).run P w.drew=.ok olds.toArray w.drew ->
   Does P ⟨some d,.call ⟨.builtin .append,#[.tmp s,y],#[T,tx]⟩,ty,pos,aI,none⟩ a w (Inv c V A G (upd L i)):=by
  intro bs sc e hlt hold
  have hrun:=run_append_grow_src (P:=P) w T tx ty E ti zv ht.under hi hz bs m sc olds hold (a.eval y) n news hS hlt (by omega) (growslice_fits hlt (by
   have:(m+n)*ti.bytes<=1073741824*4096:=Nat.mul_le_mul hmax hby
   omega))
  have hge:=grownCap_ge w (m+n) sc E
  refine fresh (olds++news++(Builtin.zeroCells zv.cells (grownCap w (m+n) sc E-(m+n))).toList) (grownCap w (m+n) sc E) ?_ hge (grownCap_le_maxLen w (m+n) sc E (by unfold maxLen; omega)) ?_ ?_ ?_
  ·rw[List.length_append,List.length_append,dF,hnl,Array.length_toList,size_zeroCells,hzs,<-Nat.add_mul,<-Nat.add_mul]
   congr 1; omega
  ·intro u hu
   rcases List.mem_append.1 hu with hu|hu
   ·rcases List.mem_append.1 hu with hu|hu
    ·exact(PI u hu).1
    ·exact(xG u hu).1
   ·exact dI MJ _ u hu
  ·rw[<-show(olds++news).length=(m+n)*ti.size by rw[List.length_append,dF,hnl,Nat.add_mul],List.take_left]
  ·rw[e,hrun]
   congr 3
   apply Array.ext'
   simp
 rcases om with⟨hB,hm0,wg⟩|⟨b,cap,cur,hB,wg,fI,hblk,mc,Ms,hcm,vX⟩
 ·-- nil
  subst hm0
  have Tq:olds=[]:=List.eq_nil_of_length_eq_zero (by rw[dF]; simp)
  rw[es]at wg
  rcases Nat.eq_zero_or_pos n with h0|hpos
  ·subst h0
   have yn:news=[]:=List.eq_nil_of_length_eq_zero (by rw[hnl]; simp)
   subst yn
   have hrun:=run_append_nothing (P:=P) w T tx ty E ti ht.under hi none 0 0 (Nat.le_refl 0) (a.eval y) hS
   rw[<-wg]at hrun
   refine de hrun ?_
   refine hI.yY hd hwf hy hb rfl rfl eB (B':=λ_=>False) ⟨rfl,rfl,rfl,Nat.le_refl _⟩ (λ_ _ _=>rfl) (λ_ _ _ _ _ _=>⟨rfl,λh=>h⟩) (Ext.refl _ _) (λ_ _ _ _=>Ext.refl _ _) (λ_ _ _ h=>h.elim) (λβ' Ih _ _=>?_) (λβ' Ih hown _ e he ht'=>?_)
   ·have oI:=hwf.v2 yv hy hb
    refine(bh iW).2 (.inl ⟨λk=>by rw[Ih]; exactλh=>h,rfl,?_⟩)
    rw[oI,gy (by rw[hI.size]; exact hwf.sz _ oI)]
    exact wg
   ·refine aL.imp (F:=λw=>bz ti.size agg (0+0) (λj=>if j<0 then f j else g (j-0)) w (a.eval (.tmp s))) (λw'' _=>?_) λw=>hp.spec hwf he ht' w _
    rw[wg]
    exact⟨none,0,rfl,Nat.le_refl _,Nat.zero_le _,λh=>absurd h (Nat.lt_irrefl 0)⟩
  ·refine oh none 0 wg (by omega) ?_
   rw[Tq]
   exact run_firstCells_none w.drew ti.size 0 0 0
 ·-- a block
  rw[hT]at hblk
  rw[es]at wg
  rw[wg]at Nr
  injection Nr with eA _ Ox
  subst Ox
  have su:cur.take (m*ti.size)=olds:=by
   rcases Nat.eq_zero_or_pos m with h0|hpos
   ·subst h0
    rw[Nat.zero_mul,List.take_zero]
    exact(List.eq_nil_of_length_eq_zero (by rw[dF]; simp)).symm
   ·obtain⟨b',o',e,hc⟩:=Tr hpos
    rw[<-eA]at e
    injection e with e
    injection e with e2 e3
    subst e2 e3
    have hle:m*ti.size<=cap*ti.size:=Nat.mul_le_mul_right _ Ms
    refine iO (w:=w) (b:=b) (o:=0) (by rw[List.length_take,dF,mc]; omega) (λj u hj=>?_) (λj u hj=>(hc j u hj).1)
    rw[List.getElem?_take]at hj
    split at hj
    ·rw[Nat.zero_add]
     simp only[World.cell?,hblk]
     simpa using hj
    ·cases hj
  by_cases hroom:m+n<=cap
  ·-- there is room
   have hN:m*ti.size+n*ti.size<=cap*ti.size:=by rw[<-Nat.add_mul]; exact Nat.mul_le_mul_right _ hroom
   have hsome:∀j,j<news.length->(w.cell? ⟨b,0+m*ti.size+j,none⟩).isSome=true:=by
    intro j hj
    simp only[World.cell?,hblk]
    rw[List.getElem?_toArray,List.getElem?_eq_getElem (by rw[mc]; omega)]
    rfl
   have hfz:∀j,j<news.length->w.frozen? ⟨b,0+m*ti.size+j,none⟩=false:=by
    intro j hj
    simp[World.frozen?,hblk]
   have hrun:=run_append_room_src (P:=P) w T tx ty E ti ht.under hi b 0 m cap (a.eval y) n news hS hroom hsome hfz
   rw[<-wg]at hrun
   have we:w.setCells b (0+m*ti.size) news=w.setRow b (cur.take (m*ti.size)++news++cur.drop (m*ti.size+news.length)).toArray:=by
    have r1:=run_storeCells_cells (P:=P) b (0+m*ti.size) news 0 w (by simpa using hsome) (by simpa using hfz) λu hu=>(xG u hu).2
    have r2:=run_storeCells_at P b (0+m*ti.size) E news 0 cur.toArray w hblk (by simp; omega) λu hu=>(xG u hu).2
    rw[r1]at r2
    injection r2 with _ r2
    simpa using r2
   rw[we]at hrun
   refine de hrun ?_
   have hgx:β xv.id b:=(hB b).2 rfl
   have PC:xv.lo=m*ti.size:=by unfold Vr.lo; rw[bD]
   have og:∀j,m*ti.size<=j->own c V L β b j:=λj hj=>.inr ⟨xv,hx,E4,hgx,by rw[PC]; exact hj⟩
   have yo:∀k,k<c.w0.heap.size->¬c.fH k->k≠b:=λk h1 h2 e=>fI.elim (λh3=>by omega) (λh3=>h2 (e▸h3))
   have ext:∀M:Nat->Nat->Prop,(∀j,m*ti.size<=j->M b j)->Ext M w (w.setRow b (cur.take (m*ti.size)++news++cur.drop (m*ti.size+news.length)).toArray):=by
    intro M hM
    refine⟨Nat.le_of_eq size_setRow.symm,λk hk hno=>ay λe=>hno (m*ti.size) (by rw[e]; exact hM _ (Nat.le_refl _)),λk o v hno hv=>?_⟩
    by_cases hkb:k=b
    ·subst hkb
     have hlt:o<m*ti.size:=by
      rcases Nat.lt_or_ge o (m*ti.size)with h'|h'
      ·exact h'
      ·exact absurd (hM o h') hno
     have hb':(w.setRow k (cur.take (m*ti.size)++news++cur.drop (m*ti.size+news.length)).toArray).heap[k]?=some (.cells (cur.take (m*ti.size)++news++cur.drop (m*ti.size+news.length)).toArray E (0,0)):=setRow_heap w _ _ _ _ _ hblk
     simp only[World.cell?,hblk]at hv
     simp only[World.cell?,hb']
     have hv':cur[o]?=some v:=by simpa using hv
     have:(cur.take (m*ti.size)++news++cur.drop (m*ti.size+news.length))[o]?=some v:=by
      rw[List.append_assoc,List.getElem?_append_left (by rw[List.length_take,mc]; omega),List.getElem?_take,if_pos hlt]
      exact hv'
     simpa using this
    ·rw[World.cell?_of_block (w:=w) (a:=⟨k,o,none⟩) (ay hkb)]; exact hv
   refine hI.appended hd hwf (E:=E) (f:=f) (g:=g) (agg:=agg) (cur':=cur.take (m*ti.size)++news++cur.drop (m*ti.size+news.length)) hy hb iW Hv rfl rfl eB dF hnl KW hnf hp (setRow_heap w _ _ _ _ _ hblk) ?_ hroom hcm ?_ ?_ fI ⟨rfl,rfl,rfl,Nat.le_of_eq size_setRow.symm⟩ (λk hk hn=>ay (yo k hk hn))
    (λz hz hl vY k hk=>?_) (ext _ og) (λz hz hl vY=>ext _ λj hj=>⟨og j hj,λe=>hI.apart z xv b hz hx hl E4 (only z hz hl vY) e hgx⟩) (λj _ hj=>og j (Nat.le_trans (Nat.mul_le_mul_right _ (Nat.le_add_right m n)) hj))
   ·simp only[List.length_append,List.length_take,List.length_drop,mc,hnl]; omega
   ·intro u hu
    simp only[List.mem_append]at hu
    rcases hu with(hu|hu)|hu
    ·exact vX u (List.mem_of_mem_take hu)
    ·exact(xG u hu).1
    ·exact vX u (List.mem_of_mem_drop hu)
   ·rw[su]
    rw[<-show(olds++news).length=(m+n)*ti.size by rw[List.length_append,dF,hnl,Nat.add_mul],List.take_left]
   ·have hkb:¬k=b:=λe=>hI.apart z xv k hz hx hl E4 (only z hz hl vY) hk (e▸hgx)
    exact⟨ay hkb,hkb⟩
  ·refine oh (some ⟨b,0,none⟩) cap wg (by omega) ?_
   refine run_firstCells_some w.drew ti.size m ⟨b,0,none⟩ m cap olds dF λj u hj=>?_
   rw[Addr.add_mid]
   have FL:j<m*ti.size:=by
    rw[<-dF]
    rcases Nat.lt_or_ge j olds.length with h'|h'
    ·exact h'
    ·rw[List.getElem?_eq_none h']at hj; cases hj
   show w.cell? ⟨b,0+j,none⟩=some u
   rw[Nat.zero_add]
   simp only[World.cell?,hblk]
   rw[<-su,List.getElem?_take,if_pos FL]at hj
   simpa using hj
theorem aT.handed (hI:aT c V A G L β a w) (hd:kO ms i L) (hwf:ju c.N ops V A G i o) {xv yv:Vr} {m sz s:Nat} {p:Pred} (hx:xv∈V) (yu:xv.slot=s) (ho:aX ms i xv=true) (bD:xv.kd=.grow m sz) (me:xv.dead=some i) (hy:yv∈V) (hb:yv.born=some i) (iW:yv.kd=.grow m sz)
  (hT:yv.T=xv.T) (eB:(A.all λp=>p.var != yv.id||p.tag.any λj=>(ms.getD j 0).testBit i)=true) (hst:ek o.op=false) (JH:gW o.op=false) (h1:Has ms G i (.tmp s) p) (hp:Post G i p):Inv c V A G (upd L i) (a.put o.dst (a.eval (.tmp s))) w:=by
 have E4:=hd.live ho
 have om:=(bh bD).1 (hI.var xv hx E4)
 have es:sl a xv.slot=a.eval (.tmp s):=by rw[yu]; rfl
 have hlo:yv.lo=xv.lo:=by unfold Vr.lo; rw[bD,iW]
 have oI:=hwf.v2 yv hy hb
 have only:∀z,z∈V->live L z=true->z.dead≠some i->z.id≠xv.id:=λz hz _ vY e=>by
  have:=hwf.vu z xv hz hx e
  subst this
  exact vY me
 refine hI.yY hd hwf hy hb hst JH eB (B':=β xv.id) ⟨rfl,rfl,rfl,Nat.le_refl _⟩ (λ_ _ _=>rfl) (λz hz hl vY k hk=>⟨rfl,λe=>hI.apart z xv k hz hx hl E4 (only z hz hl vY) hk e⟩) (Ext.refl _ _) (λ_ _ _ _=>Ext.refl _ _) (λk j _ hk hj=>.inr ⟨xv,hx,E4,hk,hlo▸hj⟩) (λβ' Ih _ _=>?_) (λβ' Ih hown _ e he ht'=>?_)
 ·have hs:sl (a.put o.dst (a.eval (.tmp s))) yv.slot=sl a xv.slot:=by rw[oI,gy (by rw[hI.size]; exact hwf.sz _ oI),es]
  refine(bh iW).2 ?_
  rw[Ih]
  rcases om with⟨hB,hm0,wg⟩|⟨b,cap,cur,hB,wg,fI,hblk,hr⟩
  ·exact .inl ⟨hB,hm0,hs.trans wg⟩
  ·exact .inr ⟨b,cap,cur,hB,hs.trans wg,fI,by rw[hT]; exact hblk,hr⟩
 ·exact((h1.spec hI hd).sub hown).imp λw=>hp.spec hwf he ht' w _
theorem yO {p:Pred} (k:Nat) (hk:V[k]?=some xv) (yu:xv.slot=s) (ho:aX ms i xv=true) (bD:xv.kd=.grow m sz) (me:xv.dead=some i) (k2:Nat) (hk2:V[k2]?=some yv) (hb:yv.born=some i) (iW:yv.kd=.grow m sz) (hT:yv.T=xv.T)
  (eB:(A.all λp=>p.var != yv.id||p.tag.any λj=>(ms.getD j 0).testBit i)=true) (h1:Has ms G i (.tmp s) p) (hp:Post G i p):OpOk P ops ms c V A G i ⟨some d,.assign (.tmp s),ty,pos,aI,none⟩:=
 gK (λ_ _ a w hI hd hwf=>dg (v:=a.eval (.tmp s)) (w':=w) rfl (hI.handed hd hwf (List.mem_of_getElem? hk) yu ho bD me (List.mem_of_getElem? hk2) hb iW hT eB rfl rfl h1 hp)) rfl
end
end Wx
