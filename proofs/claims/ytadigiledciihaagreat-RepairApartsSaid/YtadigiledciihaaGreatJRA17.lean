import Derived.Test.YtadigiledciihaaGreatJRA16
namespace Wx
open Go Go.RowKit
variable {sz:Nat}
theorem F9 {α:Type}:∀(n:Nat) (g:Nat->List α),(∀i,i<n->(g i).length=sz)->((List.range n).flatMap g).length=n*sz/\∀i,i<n->(((List.range n).flatMap g).drop (i*sz)).take sz=g i:=by
 intro n
 induction n with
 |zero=>intro g _; exact⟨by simp,λi h=>absurd h (Nat.not_lt_zero i)⟩
 |succ n ih=>
  intro g h
  obtain⟨h1,h2⟩:=ih g λi hi=>h i (by omega)
  have hn:=h n (by omega)
  have e:(List.range (n+1)).flatMap g=(List.range n).flatMap g++g n:=by rw[List.range_succ,List.flatMap_append]; simp
  rw[e]
  refine⟨by rw[List.length_append,h1,hn,Nat.add_mul,Nat.one_mul],λi hi=>?_⟩
  rcases Nat.lt_or_ge i n with hin|hin
  ·have hle:(i+1)*sz<=n*sz:=Nat.mul_le_mul_right _ hin
   rw[Nat.add_mul,Nat.one_mul]at hle
   rw[List.drop_append_of_le_length (by omega),List.take_append_of_le_length (by rw[List.length_drop]; omega)]
   exact h2 i hin
  ·have hi':i=n:=by omega
   subst hi'
   rw[<-h1,List.drop_left,<-hn,List.take_length]
variable {M:Nat->Nat->Prop} {w:World} {agg:Bool}
theorem EJ {p:Pred} {b o:Nat} (h1:agg=false->sz=1) (hf:Fits sz agg p) (h:aS M (λw=>eH sz agg p w (.pointer (some ⟨b,o,none⟩))) w):
  ∃cs:List Value,cs.length=sz/\(∀j u,cs[j]?=some u->w.cell? ⟨b,o+j,none⟩=some u/\¬M b (o+j))/\(∀u∈cs,iH u/\u.oneCell'=true)/\aS M (λw=>p w (av agg cs)) w:=by
 have Dz:∀{cs ds:List Value},cs.length=sz->ds.length=sz->av agg cs=av agg ds->cs=ds:=by
  intro cs ds e1 e2 e
  cases agg with
  |true=>exact cD e
  |false=>
   have:=h1 rfl
   match cs,ds,e1,e2 with
   |[x],[y],_,_=>simp only[av,Bool.false_eq_true,if_false,List.headD_cons]at e; rw[e]
   |[],_,e1,_=>simp at e1; omega
   |_::_::_,_,e1,_=>simp at e1; omega
   |[_],[],_,e2=>simp at e2; omega
   |[_],_::_::_,_,e2=>simp at e2; omega
 obtain⟨b0,o0,cs,e,hl,hc,hb⟩:=zQ h1 hf h
 injection e with e
 injection e with e
 injection e with e2 e3
 subst e2 e3
 have hfit:∀u∈cs,iH u/\u.oneCell'=true:=by
  obtain⟨ds,e4,hl4,_,h4⟩:=hf w _ hb.out
  rw[Dz hl hl4 e4]
  exact h4
 refine⟨cs,hl,λj u hj=>⟨hc j u hj,yl h (hc j u hj) ?_⟩,hfit,hb⟩
 rintro w' hw' ⟨b',o',cs',e,hl',hc',hp'⟩
 injection e with e
 injection e with e
 injection e with e2 e3
 subst e2 e3
 obtain⟨ds,e4,hl4,_,h4⟩:=hf w' _ hp'
 have e5:=Dz hl' hl4 e4
 subst e5
 have hj':j<cs'.length:=by
  rcases Nat.lt_or_ge j cs.length with h'|h'
  ·omega
  ·rw[List.getElem?_eq_none h']at hj; cases hj
 have h6:=hc' j _ (List.getElem?_eq_getElem hj')
 rw[hw']at h6
 injection h6 with h6
 exact((h4 _ (List.getElem_mem hj')).1 0).1 h6.symm
variable {n:Nat} {f:Nat->Pred}
theorem zZ {v:Value} (h1:agg=false->sz=1) (hf:∀i,i<n->Fits sz agg (f i)) (h:aS M (λw=>cK sz agg n f w v) w):
  ∃(A:Option Addr) (cap:Nat) (cs:List Value),v=.slice A n cap/\n<=cap/\cap<=maxLen/\cs.length=n*sz/\(∀u∈cs,iH u/\u.oneCell'=true) /\
   (0<n->∃b o,A=some ⟨b,o,none⟩/\∀j u,cs[j]?=some u->w.cell? ⟨b,o+j,none⟩=some u/\¬M b (o+j))/\∀i,i<n->aS M (λw=>f i w (av agg ((cs.drop (i*sz)).take sz))) w:=by
 obtain⟨A,cap,rfl,hn,hcap,hel⟩:=h.out
 rcases Nat.eq_zero_or_pos n with h0|hpos
 ·subst h0
  exact⟨A,cap,[],rfl,hn,hcap,by simp,(λu hu=>by cases hu),(λh=>absurd h (Nat.lt_irrefl 0)),λi hi=>absurd hi (Nat.not_lt_zero i)⟩
 ·obtain⟨b,o,rfl,_⟩:=hel hpos
  have el:∀i,i<n->∃cs:List Value,cs.length=sz/\(∀j u,cs[j]?=some u->w.cell? ⟨b,o+i*sz+j,none⟩=some u/\¬M b (o+i*sz+j))/\(∀u∈cs,iH u/\u.oneCell'=true)/\aS M (λw=>f i w (av agg cs)) w:=by
   intro i hi
   refine EJ h1 (hf i hi) λw' he=>?_
   obtain⟨A',cap',e,_,_,Sl⟩:=h w' he
   injection e with e _ _
   obtain⟨b',o',e',Pe⟩:=Sl hpos
   rw[<-e]at e'
   injection e' with e'
   injection e' with e2 e3
   subst e2 e3
   obtain⟨cs,k1,k2,k3⟩:=Pe i hi
   exact⟨_,_,cs,rfl,k1,k2,k3⟩
  let g:Nat->List Value:=λi=>if h:i<n then Classical.choose (el i h)else[]
  have hg:∀i (hi:i<n),(g i).length=sz/\(∀j u,(g i)[j]?=some u->w.cell? ⟨b,o+i*sz+j,none⟩=some u/\¬M b (o+i*sz+j))/\(∀u∈g i,iH u/\u.oneCell'=true)/\aS M (λw=>f i w (av agg (g i))) w:=by
   intro i hi
   have e:g i=Classical.choose (el i hi):=dif_pos hi
   rw[e]
   exact Classical.choose_spec (el i hi)
  obtain⟨hl,Bh⟩:=F9 n g λi hi=>(hg i hi).1
  refine⟨_,cap,(List.range n).flatMap g,rfl,hn,hcap,hl,?_,λ_=>⟨b,o,rfl,?_⟩,λi hi=>?_⟩
  ·intro u hu
   rw[List.mem_flatMap]at hu
   obtain⟨i,hi,hu⟩:=hu
   exact(hg i (List.mem_range.1 hi)).2.2.1 u hu
  ·intro j u hj
   have MF:j<n*sz:=by
    rw[<-hl]
    rcases Nat.lt_or_ge j ((List.range n).flatMap g).length with h'|h'
    ·exact h'
    ·rw[List.getElem?_eq_none h']at hj; cases hj
   have hsz:0<sz:=by
    rcases Nat.eq_zero_or_pos sz with hz|hz
    ·rw[hz]at MF; simp at MF
    ·exact hz
   have hi:j/sz<n:=Nat.div_lt_of_lt_mul (by rw[Nat.mul_comm]; exact MF)
   have hr:j%sz<sz:=Nat.mod_lt _ hsz
   have hd:j/sz*sz+j%sz=j:=by rw[Nat.mul_comm]; exact Nat.div_add_mod j sz
   have hk:(g (j/sz))[j%sz]?=some u:=by
    rw[<-Bh _ hi,List.getElem?_take,if_pos hr,List.getElem?_drop,hd]
    exact hj
   have:=(hg _ hi).2.1 _ _ hk
   rwa [Nat.add_assoc,hd]at this
  ·rw[Bh i hi]
   exact(hg i hi).2.2.2
theorem Nu {cap:Nat} {A:Option Addr} {cs:List Value} (hn:n<=cap) (hcap:cap<=maxLen) (hl:cs.length=n*sz)
  (hc:0<n->∃b o,A=some ⟨b,o,none⟩/\∀j u,cs[j]?=some u->w.cell? ⟨b,o+j,none⟩=some u) (hf:∀i,i<n->f i w (av agg ((cs.drop (i*sz)).take sz))):cK sz agg n f w (.slice A n cap):=by
 refine⟨A,cap,rfl,hn,hcap,λhpos=>?_⟩
 obtain⟨b,o,e,hc⟩:=hc hpos
 refine⟨b,o,e,λi hi=>⟨(cs.drop (i*sz)).take sz,?_,λj u hj=>?_,hf i hi⟩⟩
 ·have hle:(i+1)*sz<=n*sz:=Nat.mul_le_mul_right _ hi
  rw[Nat.add_mul,Nat.one_mul]at hle
  rw[List.length_take,List.length_drop,hl]
  omega
 ·rw[List.getElem?_take]at hj
  split at hj
  ·rw[List.getElem?_drop]at hj
   have:=hc _ _ hj
   rwa [<-Nat.add_assoc]at this
  ·cases hj
section
variable {P:Program} {ops:Array Oper} {ms:List Nat} {c:dM} {V:List Vr} {A:List Al} {G:List bg} {i:Nat} {L:Nat->Bool} {β:Nat->Nat->Prop} {a:Act} {w:World} {o:Oper}{d:Nat} {x y z:Operand} {ty:TypeId} {pos:String} {aR:Array Edge}
structure Cb (P:Program) (T tx E:TypeId) (sz:Nat):Prop where
 under:P.underlying T=some (.slice E)
 src:∃E',P.underlying tx=some (.slice E')
 info:∃ti zv,P.info? E=some ti/\ti.size=sz/\ti.zero=some zv/\zv.cells.size=sz/\(∀u∈zv.cells.toList,iH u)/\ti.bytes<=4096
theorem gF {zs:Array Value} (h:∀u∈zs.toList,iH u) (n:Nat):∀u∈(Builtin.zeroCells zs n).toList,iH u:=by
 intro u hu
 simp only[Builtin.zeroCells,Array.toList_map,List.mem_map,Array.mem_toList_iff,Array.mem_range]at hu
 obtain⟨k,hk,rfl⟩:=hu
 have hpos:0<zs.size:=by
  rcases Nat.eq_zero_or_pos zs.size with hz|hz
  ·rw[hz]at hk; simp at hk
  ·exact hz
 have hlt:k%zs.size<zs.size:=Nat.mod_lt _ hpos
 rw[getElem!_pos zs _ hlt]
 exact h _ (by simp)
variable {w':World}
theorem lM {M M':Nat->Nat->Prop} {w:World} (e3:Ext M w w') (hown:∀k j,k<w.heap.size->M' k j->M k j) {F:World->Prop} (hF:aS M F w):aS M' F w':=λw'' he=>by
 refine hF w'' ⟨Nat.le_trans e3.size he.size,λk hk hno=>?_,λk j v hno hv=>?_⟩
 ·rw[he.block k (Nat.lt_of_lt_of_le hk e3.size) λj h'=>hno j (hown k j hk h')]
  exact e3.block k hk hno
 ·have hk:=World.block_lt_of_cell? w _ hv
  exact he.cell k j v (λh'=>hno (hown k j hk h')) (e3.cell k j v hno hv)
theorem aW.appended (h:aW c V A G L β a w) (hd:ni ms i L) (hwf:lJ c.N ops V A G i o) {yv:Vr} {E:TypeId} {sz m n:Nat} {agg:Bool} {f g:Nat->Pred} {olds news:List Value} (hy:yv∈V) (gK:yv.born=some i) (qb:yv.kd=.grow (m+n) sz) (OY:yv.T=E) (hst:fR o.op=false) (MM:jD o.op=false)
  (gU:(A.all λp=>p.var != yv.id||p.tag.any λj=>(ms.getD j 0).testBit i)=true) (dG:olds.length=m*sz) (hnl:news.length=n*sz)
  (SP:∀i,i<m->aS (own c V L β) (λw=>f i w (av agg ((olds.drop (i*sz)).take sz))) w) (hnf:∀i,i<n->aS (own c V L β) (λw=>g i w (av agg ((news.drop (i*sz)).take sz))) w)
  (hp:Post G i (cK sz agg (m+n) λj=>if j<m then f j else g (j-m)))
  {w':World} {blk cap':Nat} {cur':List Value} (hblk:w'.heap[blk]?=some (.cells cur'.toArray E (0,0))) (sI:cur'.length=cap'*sz) (hle:m+n<=cap') (hmx:cap'<=maxLen) (Gn:∀u∈cur',iH u) (Bi:cur'.take ((m+n)*sz)=olds++news) (jR:mine c blk)
  (e0:w'.os=w.os/\w'.tape=w.tape/\w'.output=w.output/\w.heap.size<=w'.heap.size)
  (e1:∀k,k<c.w0.heap.size->¬c.iv k->w'.heap[k]?=w.heap[k]?)
  (e2:∀z,z∈V->live L z=true->z.dead≠some i->∀k,β z.id k->w'.heap[k]?=w.heap[k]?/\¬k=blk)
  (e3:Ext (own c V L β) w w') (e4:∀z,z∈V->live L z=true->z.dead≠some i->Ext (minus (own c V L β) (β z.id)) w w')
  (e5:∀j,blk<w.heap.size->(m+n)*sz<=j->own c V L β blk j):
  Inv c V A G (upd L i) (a.put o.dst (.slice (some ⟨blk,0,none⟩) (m+n) cap')) w':=by
 have hlo:yv.lo=(m+n)*sz:=by unfold Vr.lo; rw[qb]
 have wP:=hwf.v2 yv hy gK
 have hN:(olds++news).length=(m+n)*sz:=by rw[List.length_append,dG,hnl,Nat.add_mul]
 refine h.H6 hd hwf hy gK hst MM gU (B':=(·=blk)) e0 e1 e2 e3 e4 (λk j hk e hj=>by subst e; exact e5 j hk (hlo▸hj)) (λβ' PT hown _=>?_) (λβ' PT hown CH e he ht=>?_)
 ·refine(bN qb).2 (.inr ⟨blk,cap',cur',λk=>by rw[PT],?_,jR,by rw[OY]; exact hblk,sI,hle,hmx,Gn⟩)
  rw[wP,jG (by rw[h.size]; exact hwf.sz _ wP)]
 ·refine aS.imp (F:=λw=>cK sz agg (m+n) (λj=>if j<m then f j else g (j-m)) w (.slice (some ⟨blk,0,none⟩) (m+n) cap')) (λw'' Gj=>?_) λw=>hp.spec hwf he ht w _
  refine Nu hle hmx hN (λ_=>⟨blk,0,rfl,λj u hj=>?_⟩) (λj hj=>?_)
  ·have MF:j<(m+n)*sz:=by
    rw[<-hN]
    rcases Nat.lt_or_ge j (olds++news).length with h'|h'
    ·exact h'
    ·rw[List.getElem?_eq_none h']at hj; cases hj
   refine Gj.cell blk (0+j) u ?_ ?_
   ·rw[Nat.zero_add]
    intro ho
    rcases CH _ _ ho with⟨_,h3⟩|h1|⟨z,hz,k1,k2,h2⟩
    ·rw[hlo]at h3; omega
    ·obtain⟨⟨k1,k2⟩,_⟩:=h.old _ _ h1
     exact jR.elim (λh=>by omega) k2
    ·exact(e2 z hz k1 k2 blk h2).2 rfl
   ·rw[Nat.zero_add]
    simp only[World.cell?,hblk]
    rw[<-Bi,List.getElem?_take,if_pos MF]at hj
    simpa using hj
  ·have Bh:∀(l r:List Value) (q:Nat),(q+1)*sz<=l.length->((l++r).drop (q*sz)).take sz=(l.drop (q*sz)).take sz:=λl r q hq=>by
    rw[Nat.add_mul,Nat.one_mul]at hq
    rw[List.drop_append_of_le_length (by omega),List.take_append_of_le_length (by rw[List.length_drop]; omega)]
   by_cases QG:j<m
   ·rw[if_pos QG,Bh _ _ _ (by rw[dG]; exact Nat.mul_le_mul_right _ QG)]
    exact lM e3 hown (SP j QG) w'' Gj
   ·rw[if_neg QG]
    have e:(olds++news).drop (j*sz)=news.drop ((j-m)*sz):=by
     have:j*sz=olds.length+(j-m)*sz:=by rw[dG,<-Nat.add_mul]; congr 1; omega
     rw[this,<-List.drop_drop,List.drop_left]
    rw[e]
    exact lM e3 hown (hnf (j-m) (by omega)) w'' Gj
variable {sz:Nat} {tx:TypeId}
theorem Io {n cap:Nat} {E':TypeId} {A':Option Addr} {news:List Value} (hk:P.underlying tx=some (.slice E')) (hl:news.length=n*sz) (h1:∀u∈news,u.oneCell'=true) (hc:0<n->∃b o,A'=some ⟨b,o,none⟩/\∀j u,news[j]?=some u->w.cell? ⟨b,o+j,none⟩=some u):Src P sz tx (.slice A' n cap) n news w:=by
 rcases Nat.eq_zero_or_pos n with h0|hpos
 ·subst h0
  have hn:news=[]:=List.eq_nil_of_length_eq_zero (by rw[hl]; simp)
  subst hn
  cases A' with
  |none=>exact Src.ofNil w hk cap
  |some b=>exact Src.ofSlice w hk b 0 cap [] (by simp) (λj u hj=>by simp at hj) (λu hu=>by cases hu)
 ·obtain⟨b,o,rfl,hcell⟩:=hc hpos
  exact Src.ofSlice w hk ⟨b,o,none⟩ n cap news hl (λj u hj=>by rw[Addr.add_mid]; exact hcell j u hj) h1
theorem lT {x y:Operand} {T:TypeId} {v:Value} {K:Act->World->Prop} (hr:(Builtin.append_ #[T,tx] ty #[a.eval x,a.eval y]).run P w=.ok v w') (hK:K (a.put (some d) v) w'):Does P ⟨some d,.call ⟨.builtin .append,#[x,y],#[T,tx]⟩,ty,pos,aR,none⟩ a w K:=by
 have hrun:(execOp a.eval ⟨some d,.call ⟨.builtin .append,#[x,y],#[T,tx]⟩,ty,pos,aR,none⟩).run P w=.ok (.value v) w':=by
  show(do let d <-resolve a.eval ⟨.builtin .append,#[x,y],#[T,tx]⟩ ty; invoke d.target d.args).run P w=_
  simp only[resolve,invoke,pure_bind,builtin]
  rw[show(#[x,y]:Array Operand).map a.eval=#[a.eval x,a.eval y] by simp,Sem.run_bind,hr]
  rfl
 exact fo hrun hK
theorem aW.handed (hI:aW c V A G L β a w) (hd:ni ms i L) (hwf:lJ c.N ops V A G i o) {xv yv:Vr} {m sz s:Nat} {p:Pred} (hx:xv∈V) (D5:xv.slot=s) (ho:bU ms i xv=true) (cO:xv.kd=.grow m sz) (za:xv.dead=some i) (hy:yv∈V) (hb:yv.born=some i) (qb:yv.kd=.grow m sz)
  (hT:yv.T=xv.T) (gU:(A.all λp=>p.var != yv.id||p.tag.any λj=>(ms.getD j 0).testBit i)=true) (hst:fR o.op=false) (MM:jD o.op=false) (h1:Has ms G i (.tmp s) p) (hp:Post G i p):Inv c V A G (upd L i) (a.put o.dst (a.eval (.tmp s))) w:=by
 have KW:=hd.live ho
 have oD:=(bN cO).1 (hI.var xv hx KW)
 have es:sl a xv.slot=a.eval (.tmp s):=by rw[D5]; rfl
 have hlo:yv.lo=xv.lo:=by unfold Vr.lo; rw[cO,qb]
 have wP:=hwf.v2 yv hy hb
 have only:∀z,z∈V->live L z=true->z.dead≠some i->z.id≠xv.id:=λz hz _ Gi e=>by
  have:=hwf.vu z xv hz hx e
  subst this
  exact Gi za
 refine hI.H6 hd hwf hy hb hst MM gU (B':=β xv.id) ⟨rfl,rfl,rfl,Nat.le_refl _⟩ (λ_ _ _=>rfl) (λz hz hl Gi k hk=>⟨rfl,λe=>hI.apart z xv k hz hx hl KW (only z hz hl Gi) hk e⟩) (Ext.refl _ _) (λ_ _ _ _=>Ext.refl _ _) (λk j _ hk hj=>.inr ⟨xv,hx,KW,hk,hlo▸hj⟩) (λβ' PT _ _=>?_) (λβ' PT hown _ e he ht'=>?_)
 ·have hs:sl (a.put o.dst (a.eval (.tmp s))) yv.slot=sl a xv.slot:=by rw[wP,jG (by rw[hI.size]; exact hwf.sz _ wP),es]
  refine(bN qb).2 ?_
  rw[PT]
  rcases oD with⟨hB,hm0,NS⟩|⟨b,cap,cur,hB,NS,jR,hblk,hr⟩
  ·exact .inl ⟨hB,hm0,hs.trans NS⟩
  ·exact .inr ⟨b,cap,cur,hB,hs.trans NS,jR,by rw[hT]; exact hblk,hr⟩
 ·exact((h1.spec hI hd).sub hown).imp λw=>hp.spec hwf he ht' w _
theorem BF {m s:Nat} {xv yv:Vr} {p:Pred} (k:Nat) (hk:V[k]?=some xv) (D5:xv.slot=s) (ho:bU ms i xv=true) (cO:xv.kd=.grow m sz) (za:xv.dead=some i) (k2:Nat) (hk2:V[k2]?=some yv) (hb:yv.born=some i) (qb:yv.kd=.grow m sz) (hT:yv.T=xv.T)
  (gU:(A.all λp=>p.var != yv.id||p.tag.any λj=>(ms.getD j 0).testBit i)=true) (h1:Has ms G i (.tmp s) p) (hp:Post G i p):OpOk P ops ms c V A G i ⟨some d,.assign (.tmp s),ty,pos,aR,none⟩:=
 lq (λ_ _ a w hI hd hwf=>fo (v:=a.eval (.tmp s)) (w':=w) rfl (hI.handed hd hwf (List.mem_of_getElem? hk) D5 ho cO za (List.mem_of_getElem? hk2) hb qb hT gU rfl rfl h1 hp)) rfl
end
end Wx

namespace Wx
open Go Go.RowKit
structure It where
 p:Pred
 nl:aC p
structure Bk where
 b:Nat
 sz:Nat
 agg:Bool
 items:List It
def Bk.put (e:Bk) (b idx:Nat) (it:It):Bk:=if e.b=b then { e with items:=e.items.set idx it }else e
def D4 (H:List Bk) (b idx:Nat) (it:It):List Bk:=H.map λe=>e.put b idx it
section
variable {P:Program} {ops:Array Oper} {ms:List Nat} {c:dM} {V:List Vr} {A:List Al} {G:List bg} {i:Nat} {L:Nat->Bool} {β:Nat->Nat->Prop} {a:Act} {w:World} {o:Oper}{d:Nat} {x y z:Operand} {ty:TypeId} {pos:String} {aR:Array Edge}
theorem BA (hI:aW c V A G L β a w) (hd:ni ms i L) {v:Vr} (hv:v∈V) (ho:bU ms i v=true) (cO:v.kd=.obj):xY (own c V L β) c L a w v (β v.id):=(aQ cO).1 (hI.var v hv (hd.live ho))
theorem rY (hd:ni ms i L) {st:List (Nat×Rel)} {p:Rel} (h:(st.all λq=>(q.1==i||(ms.getD i 0).testBit q.1)||(ms.getD q.1 0).testBit i)=true):cont L p st=cont (λj=>(ms.getD i 0).testBit j) p st:=by
 rw[List.all_eq_true]at h
 refine iL λq hq=>?_
 have:=h q hq
 simp only[Bool.or_eq_true,beq_iff_eq]at this
 rcases this with(h5|h5)|h5
 ·rw[h5,hd.no,hd.irrefl]
 ·rw[hd.before _ h5,h5]
 ·have h6:=hd.behind _ h5
  rw[h6]
  cases h7:(ms.getD i 0).testBit q.1 with
  |false=>rfl
  |true=>rw[hd.before _ h7]at h6; cases h6
variable {T E:TypeId} {n cap:Nat}
theorem BG {sz b o':Nat} {m:Int} (h:Has ms G i x (bW (.slice (some ⟨b,o',none⟩) n cap))) (hy:Has ms G i y (pI m)) (ht:pP P T E sz) (h0:0<=m) (h1:m<n) (hA:(A.all λq=>q.tag != some i)=true) (hp:Post G i (bW (.pointer (some ⟨b,o'+m.toNat*sz,none⟩)))):
  OpOk P ops ms c V A G i ⟨some d,.indexAddr T x y,ty,pos,aR,none⟩:=
 dA rfl rfl rfl (.inr hA) hp λL β a w hI hd=>by
  have hx:a.eval x=.slice (some ⟨b,o',none⟩) n cap:=(h.spec hI hd).out
  have hi:a.eval y=.int .i64 m:=(hy.spec hI hd).out
  refine⟨_,w,?_,Below.refl _ _,λ_ _=>rfl⟩
  show(do pure (Next.value (<-Instr.indexAt T (a.eval x) (a.eval y)))).run P w=_
  rw[hx,hi,Sem.run_bind,mD ht h0 h1]
  rfl
theorem G9 {A':Option Addr} (h:Has ms G i x (bW (.slice A' n cap))) (ht:P.underlying T=some (.slice E)) (hp:Post G i (pI (n:Int))):
  OpOk P ops ms c V A G i ⟨some d,.call ⟨.builtin .len,#[x],#[T]⟩,ty,pos,aR,none⟩:=
 kQ rfl rfl rfl rfl h hp λρ w h=>⟨.int .i64 n,by
  have h:ρ x=.slice A' n cap:=h
  have hr:(Builtin.len_ #[T] ty #[ρ x]).run P w=.ok (.int .i64 n) w:=by
   rw[h]
   unfold Builtin.len_
   simp[run_underlying ht,goInt]
  show(do let d <-resolve ρ ⟨.builtin .len,#[x],#[T]⟩ ty; invoke d.target d.args).run P w=_
  simp only[resolve,invoke,pure_bind,builtin]
  rw[show(#[x]:Array Operand).map ρ=#[ρ x] by simp,Sem.run_bind,hr]
  rfl,λ_ _=>rfl⟩
end
end Wx

namespace Wx
open Go Go.RowKit
theorem ot:ni [0] 0 none_:=⟨rfl,λj h=>by simp at h,λ_ _=>rfl⟩
section
variable {P:Program} {Q:Exit->Act->World->Prop} {c:dM} {V:List Vr} {A:List Al} {G:List bg} {a:Act} {w:World} {o:Oper}{d:Nat} {x y z:Operand} {ty:TypeId} {pos:String} {aR:Array Edge}{K:Act->World->Prop}
theorem Does.mono {K':Act->World->Prop} (h:Does P o a w K) (hK:∀a w,K a w->K' a w):Does P o a w K':=by
 unfold Does at *
 generalize (execOp a.eval o).run P w=r at *
 match r,h with
 |.ok (.value v) w',h=>exact hK _ _ h
 |.ok .skip w',h=>exact hK _ _ h
 |.ok (.enter f args) w',h=>exact h.mono λe w'' ⟨v,h1,h2⟩=>⟨v,h1,hK _ _ h2⟩
theorem dI.of {ops:Array Oper} (hg:o.guard=none) (h:Does P o a w K):dI P ops o a w K:=by
 unfold dI
 rw[if_pos (by simp[Region.wanted,hg])]
 exact h
end
end Wx

namespace Wx
open Go Go.RowKit
theorem mR {M:Nat->Nat->Prop} {B:Nat->Prop} {w:World} (h:dN M w):dN (minus M B) w:=λk o hk=>h k o hk.1
section
variable {P:Program} {Q:Exit->Act->World->Prop} {c:dM} {V:List Vr} {A:List Al} {G:List bg} {a:Act} {w:World} {o:Oper}{d:Nat} {x y z u:Operand} {ty:TypeId} {pos:String} {aR:Array Edge}{fn:Func}
end
end Wx

namespace Wx
open Go Go.RowKit
section
variable {P:Program} {Q:Exit->Act->World->Prop} {c:dM} {V:List Vr} {A:List Al} {G:List bg} {a:Act} {w:World}
end
def UB (H:List Bk) (b:Nat) (X:List It):List Bk:=H.map λe=>if e.b=b then { e with items:=X }else e
end Wx

namespace Wx
open Go Go.RowKit
theorem sD (A:Option Addr) (n cap:Nat):Fits 1 false (bW (.slice A n cap)):=ow (fD _ _ _) rfl rfl
section
variable {L1 L2:List Rat} {s1 s2 k:Nat} {f:Rat}
end
end Wx
