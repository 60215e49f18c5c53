import Derived.Test.YtocboimkilkklaaGreatJRF17
namespace Wx
open Go Go.RowKit
variable {sz:Nat}
theorem Im {α:Type}:∀(n:Nat) (g:Nat->List α),(∀i,i<n->(g i).length=sz)->((List.range n).flatMap g).length=n*sz/\∀i,i<n->(((List.range n).flatMap g).drop (i*sz)).take sz=g i:=by
 intro n
 induction n with
 |zero=>intro g _; exact⟨by simp,λi h=>absurd h (Nat.not_lt_zero i)⟩
 |succ n ih=>
  intro g h
  obtain⟨h1,h2⟩:=ih g λi hi=>h i (by omega)
  have hn:=h n (by omega)
  have e:(List.range (n+1)).flatMap g=(List.range n).flatMap g++g n:=by rw[List.range_succ,List.flatMap_append]; simp
  rw[e]
  refine⟨by rw[List.length_append,h1,hn,Nat.add_mul,Nat.one_mul],λi hi=>?_⟩
  rcases Nat.lt_or_ge i n with hin|hin
  ·have hle:(i+1)*sz<=n*sz:=Nat.mul_le_mul_right _ hin
   rw[Nat.add_mul,Nat.one_mul]at hle
   rw[List.drop_append_of_le_length (by omega),List.take_append_of_le_length (by rw[List.length_drop]; omega)]
   exact h2 i hin
  ·have hi':i=n:=by omega
   subst hi'
   rw[<-h1,List.drop_left,<-hn,List.take_length]
variable {M:Nat->Nat->Prop} {w:World} {agg:Bool}
theorem Gk {p:Pred} {b o:Nat} (h1:agg=false->sz=1) (hf:Fits sz agg p) (h:aL M (λw=>fL sz agg p w (.pointer (some ⟨b,o,none⟩))) w):
  ∃cs:List Value,cs.length=sz/\(∀j u,cs[j]?=some u->w.cell? ⟨b,o+j,none⟩=some u/\¬M b (o+j))/\(∀u∈cs,fq u/\u.oneCell'=true)/\aL M (λw=>p w (aA agg cs)) w:=by
 have ER:∀{cs ds:List Value},cs.length=sz->ds.length=sz->aA agg cs=aA agg ds->cs=ds:=by
  intro cs ds e1 e2 e
  cases agg with
  |true=>exact dF e
  |false=>
   have:=h1 rfl
   match cs,ds,e1,e2 with
   |[x],[y],_,_=>simp only[aA,Bool.false_eq_true,if_false,List.headD_cons]at e; rw[e]
   |[],_,e1,_=>simp at e1; omega
   |_::_::_,_,e1,_=>simp at e1; omega
   |[_],[],_,e2=>simp at e2; omega
   |[_],_::_::_,_,e2=>simp at e2; omega
 obtain⟨b0,o0,cs,e,hl,hc,hb⟩:=Bo h1 hf h
 injection e with e
 injection e with e
 injection e with e2 e3
 subst e2 e3
 have hfit:∀u∈cs,fq u/\u.oneCell'=true:=by
  obtain⟨ds,e4,hl4,_,h4⟩:=hf w _ hb.out
  rw[ER hl hl4 e4]
  exact h4
 refine⟨cs,hl,λj u hj=>⟨hc j u hj,zO h (hc j u hj) ?_⟩,hfit,hb⟩
 rintro w' hw' ⟨b',o',cs',e,hl',hc',hp'⟩
 injection e with e
 injection e with e
 injection e with e2 e3
 subst e2 e3
 obtain⟨ds,e4,hl4,_,h4⟩:=hf w' _ hp'
 have e5:=ER hl' hl4 e4
 subst e5
 have hj':j<cs'.length:=by
  rcases Nat.lt_or_ge j cs.length with h'|h'
  ·omega
  ·rw[List.getElem?_eq_none h']at hj; cases hj
 have h6:=hc' j _ (List.getElem?_eq_getElem hj')
 rw[hw']at h6
 injection h6 with h6
 exact((h4 _ (List.getElem_mem hj')).1 0).1 h6.symm
variable {n:Nat} {f:Nat->Pred}
theorem Bv {v:Value} (h1:agg=false->sz=1) (hf:∀i,i<n->Fits sz agg (f i)) (h:aL M (λw=>dK sz agg n f w v) w):
  ∃(A:Option Addr) (cap:Nat) (cs:List Value),v=.slice A n cap/\n<=cap/\cap<=maxLen/\cs.length=n*sz/\(∀u∈cs,fq u/\u.oneCell'=true) /\
   (0<n->∃b o,A=some ⟨b,o,none⟩/\∀j u,cs[j]?=some u->w.cell? ⟨b,o+j,none⟩=some u/\¬M b (o+j))/\∀i,i<n->aL M (λw=>f i w (aA agg ((cs.drop (i*sz)).take sz))) w:=by
 obtain⟨A,cap,rfl,hn,hcap,hel⟩:=h.out
 rcases Nat.eq_zero_or_pos n with h0|hpos
 ·subst h0
  exact⟨A,cap,[],rfl,hn,hcap,by simp,(λu hu=>by cases hu),(λh=>absurd h (Nat.lt_irrefl 0)),λi hi=>absurd hi (Nat.not_lt_zero i)⟩
 ·obtain⟨b,o,rfl,_⟩:=hel hpos
  have el:∀i,i<n->∃cs:List Value,cs.length=sz/\(∀j u,cs[j]?=some u->w.cell? ⟨b,o+i*sz+j,none⟩=some u/\¬M b (o+i*sz+j))/\(∀u∈cs,fq u/\u.oneCell'=true)/\aL M (λw=>f i w (aA agg cs)) w:=by
   intro i hi
   refine Gk h1 (hf i hi) λw' he=>?_
   obtain⟨A',cap',e,_,_,UJ⟩:=h w' he
   injection e with e _ _
   obtain⟨b',o',e',Rt⟩:=UJ hpos
   rw[<-e]at e'
   injection e' with e'
   injection e' with e2 e3
   subst e2 e3
   obtain⟨cs,k1,k2,k3⟩:=Rt i hi
   exact⟨_,_,cs,rfl,k1,k2,k3⟩
  let g:Nat->List Value:=λi=>if h:i<n then Classical.choose (el i h)else[]
  have hg:∀i (hi:i<n),(g i).length=sz/\(∀j u,(g i)[j]?=some u->w.cell? ⟨b,o+i*sz+j,none⟩=some u/\¬M b (o+i*sz+j))/\(∀u∈g i,fq u/\u.oneCell'=true)/\aL M (λw=>f i w (aA agg (g i))) w:=by
   intro i hi
   have e:g i=Classical.choose (el i hi):=dif_pos hi
   rw[e]
   exact Classical.choose_spec (el i hi)
  obtain⟨hl,Cv⟩:=Im n g λi hi=>(hg i hi).1
  refine⟨_,cap,(List.range n).flatMap g,rfl,hn,hcap,hl,?_,λ_=>⟨b,o,rfl,?_⟩,λi hi=>?_⟩
  ·intro u hu
   rw[List.mem_flatMap]at hu
   obtain⟨i,hi,hu⟩:=hu
   exact(hg i (List.mem_range.1 hi)).2.2.1 u hu
  ·intro j u hj
   have RE:j<n*sz:=by
    rw[<-hl]
    rcases Nat.lt_or_ge j ((List.range n).flatMap g).length with h'|h'
    ·exact h'
    ·rw[List.getElem?_eq_none h']at hj; cases hj
   have hsz:0<sz:=by
    rcases Nat.eq_zero_or_pos sz with hz|hz
    ·rw[hz]at RE; simp at RE
    ·exact hz
   have hi:j/sz<n:=Nat.div_lt_of_lt_mul (by rw[Nat.mul_comm]; exact RE)
   have hr:j%sz<sz:=Nat.mod_lt _ hsz
   have hd:j/sz*sz+j%sz=j:=by rw[Nat.mul_comm]; exact Nat.div_add_mod j sz
   have hk:(g (j/sz))[j%sz]?=some u:=by
    rw[<-Cv _ hi,List.getElem?_take,if_pos hr,List.getElem?_drop,hd]
    exact hj
   have:=(hg _ hi).2.1 _ _ hk
   rwa [Nat.add_assoc,hd]at this
  ·rw[Cv i hi]
   exact(hg i hi).2.2.2
theorem PI {cap:Nat} {A:Option Addr} {cs:List Value} (hn:n<=cap) (hcap:cap<=maxLen) (hl:cs.length=n*sz)
  (hc:0<n->∃b o,A=some ⟨b,o,none⟩/\∀j u,cs[j]?=some u->w.cell? ⟨b,o+j,none⟩=some u) (hf:∀i,i<n->f i w (aA agg ((cs.drop (i*sz)).take sz))):dK sz agg n f w (.slice A n cap):=by
 refine⟨A,cap,rfl,hn,hcap,λhpos=>?_⟩
 obtain⟨b,o,e,hc⟩:=hc hpos
 refine⟨b,o,e,λi hi=>⟨(cs.drop (i*sz)).take sz,?_,λj u hj=>?_,hf i hi⟩⟩
 ·have hle:(i+1)*sz<=n*sz:=Nat.mul_le_mul_right _ hi
  rw[Nat.add_mul,Nat.one_mul]at hle
  rw[List.length_take,List.length_drop,hl]
  omega
 ·rw[List.getElem?_take]at hj
  split at hj
  ·rw[List.getElem?_drop]at hj
   have:=hc _ _ hj
   rwa [<-Nat.add_assoc]at this
  ·cases hj
section
variable {P:Program} {ops:Array Oper} {ms:List Nat} {c:eL} {V:List Vr} {A:List Al} {G:List bI} {i:Nat} {L:Nat->Bool} {β:Nat->Nat->Prop} {a:Act} {w:World} {o:Oper}{d:Nat} {x y z:Operand} {ty:TypeId} {pos:String} {aZ:Array Edge}
structure Dn (P:Program) (T tx E:TypeId) (sz:Nat):Prop where
 under:P.underlying T=some (.slice E)
 src:∃E',P.underlying tx=some (.slice E')
 info:∃ti zv,P.info? E=some ti/\ti.size=sz/\ti.zero=some zv/\zv.cells.size=sz/\(∀u∈zv.cells.toList,fq u)/\ti.bytes<=4096
theorem ir {zs:Array Value} (h:∀u∈zs.toList,fq u) (n:Nat):∀u∈(Builtin.zeroCells zs n).toList,fq u:=by
 intro u hu
 simp only[Builtin.zeroCells,Array.toList_map,List.mem_map,Array.mem_toList_iff,Array.mem_range]at hu
 obtain⟨k,hk,rfl⟩:=hu
 have hpos:0<zs.size:=by
  rcases Nat.eq_zero_or_pos zs.size with hz|hz
  ·rw[hz]at hk; simp at hk
  ·exact hz
 have hlt:k%zs.size<zs.size:=Nat.mod_lt _ hpos
 rw[getElem!_pos zs _ hlt]
 exact h _ (by simp)
variable {w':World}
theorem mD {M M':Nat->Nat->Prop} {w:World} (e3:Ext M w w') (hown:∀k j,k<w.heap.size->M' k j->M k j) {F:World->Prop} (hF:aL M F w):aL M' F w':=λw'' he=>by
 refine hF w'' ⟨Nat.le_trans e3.size he.size,λk hk hno=>?_,λk j v hno hv=>?_⟩
 ·rw[he.block k (Nat.lt_of_lt_of_le hk e3.size) λj h'=>hno j (hown k j hk h')]
  exact e3.block k hk hno
 ·have hk:=World.block_lt_of_cell? w _ hv
  exact he.cell k j v (λh'=>hno (hown k j hk h')) (e3.cell k j v hno hv)
theorem bO.appended (h:bO c V A G L β a w) (hd:oB ms i L) (hwf:mC c.N ops V A G i o) {yv:Vr} {E:TypeId} {sz m n:Nat} {agg:Bool} {f g:Nat->Pred} {olds news:List Value} (hy:yv∈V) (iJ:yv.born=some i) (ri:yv.kd=.grow (m+n) sz) (Rc:yv.T=E) (hst:gv o.op=false) (OV:jq o.op=false)
  (iI:(A.all λp=>p.var != yv.id||p.tag.any λj=>(ms.getD j 0).testBit i)=true) (ew:olds.length=m*sz) (hnl:news.length=n*sz)
  (Vd:∀i,i<m->aL (own c V L β) (λw=>f i w (aA agg ((olds.drop (i*sz)).take sz))) w) (hnf:∀i,i<n->aL (own c V L β) (λw=>g i w (aA agg ((news.drop (i*sz)).take sz))) w)
  (hp:Post G i (dK sz agg (m+n) λj=>if j<m then f j else g (j-m)))
  {w':World} {blk cap':Nat} {cur':List Value} (hblk:w'.heap[blk]?=some (.cells cur'.toArray E (0,0))) (ue:cur'.length=cap'*sz) (hle:m+n<=cap') (hmx:cap'<=maxLen) (IF:∀u∈cur',fq u) (Cw:cur'.take ((m+n)*sz)=olds++news) (kQ:mine c blk)
  (e0:w'.os=w.os/\w'.tape=w.tape/\w'.output=w.output/\w.heap.size<=w'.heap.size)
  (e1:∀k,k<c.w0.heap.size->¬c.jt k->w'.heap[k]?=w.heap[k]?)
  (e2:∀z,z∈V->live L z=true->z.dead≠some i->∀k,β z.id k->w'.heap[k]?=w.heap[k]?/\¬k=blk)
  (e3:Ext (own c V L β) w w') (e4:∀z,z∈V->live L z=true->z.dead≠some i->Ext (minus (own c V L β) (β z.id)) w w')
  (e5:∀j,blk<w.heap.size->(m+n)*sz<=j->own c V L β blk j):
  Inv c V A G (upd L i) (a.put o.dst (.slice (some ⟨blk,0,none⟩) (m+n) cap')) w':=by
 have hlo:yv.lo=(m+n)*sz:=by unfold Vr.lo; rw[ri]
 have yK:=hwf.v2 yv hy iJ
 have hN:(olds++news).length=(m+n)*sz:=by rw[List.length_append,ew,hnl,Nat.add_mul]
 refine h.JU hd hwf hy iJ hst OV iI (B':=(·=blk)) e0 e1 e2 e3 e4 (λk j hk e hj=>by subst e; exact e5 j hk (hlo▸hj)) (λβ' R7 hown _=>?_) (λβ' R7 hown D1 e he ht=>?_)
 ·refine(cK ri).2 (.inr ⟨blk,cap',cur',λk=>by rw[R7],?_,kQ,by rw[Rc]; exact hblk,ue,hle,hmx,IF⟩)
  rw[yK,kD (by rw[h.size]; exact hwf.sz _ yK)]
 ·refine aL.imp (F:=λw=>dK sz agg (m+n) (λj=>if j<m then f j else g (j-m)) w (.slice (some ⟨blk,0,none⟩) (m+n) cap')) (λw'' IA=>?_) λw=>hp.spec hwf he ht w _
  refine PI hle hmx hN (λ_=>⟨blk,0,rfl,λj u hj=>?_⟩) (λj hj=>?_)
  ·have RE:j<(m+n)*sz:=by
    rw[<-hN]
    rcases Nat.lt_or_ge j (olds++news).length with h'|h'
    ·exact h'
    ·rw[List.getElem?_eq_none h']at hj; cases hj
   refine IA.cell blk (0+j) u ?_ ?_
   ·rw[Nat.zero_add]
    intro ho
    rcases D1 _ _ ho with⟨_,h3⟩|h1|⟨z,hz,k1,k2,h2⟩
    ·rw[hlo]at h3; omega
    ·obtain⟨⟨k1,k2⟩,_⟩:=h.old _ _ h1
     exact kQ.elim (λh=>by omega) k2
    ·exact(e2 z hz k1 k2 blk h2).2 rfl
   ·rw[Nat.zero_add]
    simp only[World.cell?,hblk]
    rw[<-Cw,List.getElem?_take,if_pos RE]at hj
    simpa using hj
  ·have Cv:∀(l r:List Value) (q:Nat),(q+1)*sz<=l.length->((l++r).drop (q*sz)).take sz=(l.drop (q*sz)).take sz:=λl r q hq=>by
    rw[Nat.add_mul,Nat.one_mul]at hq
    rw[List.drop_append_of_le_length (by omega),List.take_append_of_le_length (by rw[List.length_drop]; omega)]
   by_cases S2:j<m
   ·rw[if_pos S2,Cv _ _ _ (by rw[ew]; exact Nat.mul_le_mul_right _ S2)]
    exact mD e3 hown (Vd j S2) w'' IA
   ·rw[if_neg S2]
    have e:(olds++news).drop (j*sz)=news.drop ((j-m)*sz):=by
     have:j*sz=olds.length+(j-m)*sz:=by rw[ew,<-Nat.add_mul]; congr 1; omega
     rw[this,<-List.drop_drop,List.drop_left]
    rw[e]
    exact mD e3 hown (hnf (j-m) (by omega)) w'' IA
variable {sz:Nat} {tx:TypeId}
theorem J7 {n cap:Nat} {E':TypeId} {A':Option Addr} {news:List Value} (hk:P.underlying tx=some (.slice E')) (hl:news.length=n*sz) (h1:∀u∈news,u.oneCell'=true) (hc:0<n->∃b o,A'=some ⟨b,o,none⟩/\∀j u,news[j]?=some u->w.cell? ⟨b,o+j,none⟩=some u):Src P sz tx (.slice A' n cap) n news w:=by
 rcases Nat.eq_zero_or_pos n with h0|hpos
 ·subst h0
  have hn:news=[]:=List.eq_nil_of_length_eq_zero (by rw[hl]; simp)
  subst hn
  cases A' with
  |none=>exact Src.ofNil w hk cap
  |some b=>exact Src.ofSlice w hk b 0 cap [] (by simp) (λj u hj=>by simp at hj) (λu hu=>by cases hu)
 ·obtain⟨b,o,rfl,hcell⟩:=hc hpos
  exact Src.ofSlice w hk ⟨b,o,none⟩ n cap news hl (λj u hj=>by rw[Addr.add_mid]; exact hcell j u hj) h1
theorem mL {x y:Operand} {T:TypeId} {v:Value} {K:Act->World->Prop} (hr:(Builtin.append_ #[T,tx] ty #[a.eval x,a.eval y]).run P w=.ok v w') (hK:K (a.put (some d) v) w'):Does P ⟨some d,.call ⟨.builtin .append,#[x,y],#[T,tx]⟩,ty,pos,aZ,none⟩ a w K:=by
 have hrun:(execOp a.eval ⟨some d,.call ⟨.builtin .append,#[x,y],#[T,tx]⟩,ty,pos,aZ,none⟩).run P w=.ok (.value v) w':=by
  show(do let d <-resolve a.eval ⟨.builtin .append,#[x,y],#[T,tx]⟩ ty; invoke d.target d.args).run P w=_
  simp only[resolve,invoke,pure_bind,builtin]
  rw[show(#[x,y]:Array Operand).map a.eval=#[a.eval x,a.eval y] by simp,Sem.run_bind,hr]
  rfl
 exact gA hrun hK
theorem bO.handed (hI:bO c V A G L β a w) (hd:oB ms i L) (hwf:mC c.N ops V A G i o) {xv yv:Vr} {m sz s:Nat} {p:Pred} (hx:xv∈V) (Fv:xv.slot=s) (ho:cG ms i xv=true) (dI:xv.kd=.grow m sz) (AE:xv.dead=some i) (hy:yv∈V) (hb:yv.born=some i) (ri:yv.kd=.grow m sz)
  (hT:yv.T=xv.T) (iI:(A.all λp=>p.var != yv.id||p.tag.any λj=>(ms.getD j 0).testBit i)=true) (hst:gv o.op=false) (OV:jq o.op=false) (h1:Has ms G i (.tmp s) p) (hp:Post G i p):Inv c V A G (upd L i) (a.put o.dst (a.eval (.tmp s))) w:=by
 have M8:=hd.live ho
 have qb:=(cK dI).1 (hI.var xv hx M8)
 have es:sl a xv.slot=a.eval (.tmp s):=by rw[Fv]; rfl
 have hlo:yv.lo=xv.lo:=by unfold Vr.lo; rw[dI,ri]
 have yK:=hwf.v2 yv hy hb
 have only:∀z,z∈V->live L z=true->z.dead≠some i->z.id≠xv.id:=λz hz _ Iz e=>by
  have:=hwf.vu z xv hz hx e
  subst this
  exact Iz AE
 refine hI.JU hd hwf hy hb hst OV iI (B':=β xv.id) ⟨rfl,rfl,rfl,Nat.le_refl _⟩ (λ_ _ _=>rfl) (λz hz hl Iz k hk=>⟨rfl,λe=>hI.apart z xv k hz hx hl M8 (only z hz hl Iz) hk e⟩) (Ext.refl _ _) (λ_ _ _ _=>Ext.refl _ _) (λk j _ hk hj=>.inr ⟨xv,hx,M8,hk,hlo▸hj⟩) (λβ' R7 _ _=>?_) (λβ' R7 hown _ e he ht'=>?_)
 ·have hs:sl (a.put o.dst (a.eval (.tmp s))) yv.slot=sl a xv.slot:=by rw[yK,kD (by rw[hI.size]; exact hwf.sz _ yK),es]
  refine(cK ri).2 ?_
  rw[R7]
  rcases qb with⟨hB,hm0,P9⟩|⟨b,cap,cur,hB,P9,kQ,hblk,hr⟩
  ·exact .inl ⟨hB,hm0,hs.trans P9⟩
  ·exact .inr ⟨b,cap,cur,hB,hs.trans P9,kQ,by rw[hT]; exact hblk,hr⟩
 ·exact((h1.spec hI hd).sub hown).imp λw=>hp.spec hwf he ht' w _
theorem CR {m s:Nat} {xv yv:Vr} {p:Pred} (k:Nat) (hk:V[k]?=some xv) (Fv:xv.slot=s) (ho:cG ms i xv=true) (dI:xv.kd=.grow m sz) (AE:xv.dead=some i) (k2:Nat) (hk2:V[k2]?=some yv) (hb:yv.born=some i) (ri:yv.kd=.grow m sz) (hT:yv.T=xv.T)
  (iI:(A.all λp=>p.var != yv.id||p.tag.any λj=>(ms.getD j 0).testBit i)=true) (h1:Has ms G i (.tmp s) p) (hp:Post G i p):OpOk P ops ms c V A G i ⟨some d,.assign (.tmp s),ty,pos,aZ,none⟩:=
 mh (λ_ _ a w hI hd hwf=>gA (v:=a.eval (.tmp s)) (w':=w) rfl (hI.handed hd hwf (List.mem_of_getElem? hk) Fv ho dI AE (List.mem_of_getElem? hk2) hb ri hT iI rfl rfl h1 hp)) rfl
end
end Wx

namespace Wx
open Go Go.RowKit
structure It where
 p:Pred
 nl:aB p
structure Bk where
 b:Nat
 sz:Nat
 agg:Bool
 items:List It
def Bk.put (e:Bk) (b idx:Nat) (it:It):Bk:=if e.b=b then { e with items:=e.items.set idx it }else e
def Fu (H:List Bk) (b idx:Nat) (it:It):List Bk:=H.map λe=>e.put b idx it
section
variable {P:Program} {ops:Array Oper} {ms:List Nat} {c:eL} {V:List Vr} {A:List Al} {G:List bI} {i:Nat} {L:Nat->Bool} {β:Nat->Nat->Prop} {a:Act} {w:World} {o:Oper}{d:Nat} {x y z:Operand} {ty:TypeId} {pos:String} {aZ:Array Edge}
theorem CN (hI:bO c V A G L β a w) (hd:oB ms i L) {v:Vr} (hv:v∈V) (ho:cG ms i v=true) (dI:v.kd=.obj):zD (own c V L β) c L a w v (β v.id):=(bh dI).1 (hI.var v hv (hd.live ho))
theorem tN (hd:oB ms i L) {st:List (Nat×Rel)} {p:Rel} (h:(st.all λq=>(q.1==i||(ms.getD i 0).testBit q.1)||(ms.getD q.1 0).testBit i)=true):cont L p st=cont (λj=>(ms.getD i 0).testBit j) p st:=by
 rw[List.all_eq_true]at h
 refine jn λq hq=>?_
 have:=h q hq
 simp only[Bool.or_eq_true,beq_iff_eq]at this
 rcases this with(h5|h5)|h5
 ·rw[h5,hd.no,hd.irrefl]
 ·rw[hd.before _ h5,h5]
 ·have h6:=hd.behind _ h5
  rw[h6]
  cases h7:(ms.getD i 0).testBit q.1 with
  |false=>rfl
  |true=>rw[hd.before _ h7]at h6; cases h6
variable {T E:TypeId} {n cap:Nat}
theorem CS {sz b o':Nat} {m:Int} (h:Has ms G i x (cI (.slice (some ⟨b,o',none⟩) n cap))) (hy:Has ms G i y (pI m)) (ht:oq P T E sz) (h0:0<=m) (h1:m<n) (hA:(A.all λq=>q.tag != some i)=true) (hp:Post G i (cI (.pointer (some ⟨b,o'+m.toNat*sz,none⟩)))):
  OpOk P ops ms c V A G i ⟨some d,.indexAddr T x y,ty,pos,aZ,none⟩:=
 dW rfl rfl rfl (.inr hA) hp λL β a w hI hd=>by
  have hx:a.eval x=.slice (some ⟨b,o',none⟩) n cap:=(h.spec hI hd).out
  have hi:a.eval y=.int .i64 m:=(hy.spec hI hd).out
  refine⟨_,w,?_,Below.refl _ _,λ_ _=>rfl⟩
  show(do pure (Next.value (<-Instr.indexAt T (a.eval x) (a.eval y)))).run P w=_
  rw[hx,hi,Sem.run_bind,nr ht h0 h1]
  rfl
theorem JB {A':Option Addr} (h:Has ms G i x (cI (.slice A' n cap))) (ht:P.underlying T=some (.slice E)) (hp:Post G i (pI (n:Int))):
  OpOk P ops ms c V A G i ⟨some d,.call ⟨.builtin .len,#[x],#[T]⟩,ty,pos,aZ,none⟩:=
 lR rfl rfl rfl rfl h hp λρ w h=>⟨.int .i64 n,by
  have h:ρ x=.slice A' n cap:=h
  have hr:(Builtin.len_ #[T] ty #[ρ x]).run P w=.ok (.int .i64 n) w:=by
   rw[h]
   unfold Builtin.len_
   simp[run_underlying ht,goInt]
  show(do let d <-resolve ρ ⟨.builtin .len,#[x],#[T]⟩ ty; invoke d.target d.args).run P w=_
  simp only[resolve,invoke,pure_bind,builtin]
  rw[show(#[x]:Array Operand).map ρ=#[ρ x] by simp,Sem.run_bind,hr]
  rfl,λ_ _=>rfl⟩
end
end Wx

namespace Wx
open Go Go.RowKit
theorem pP:oB [0] 0 none_:=⟨rfl,λj h=>by simp at h,λ_ _=>rfl⟩
section
variable {P:Program} {Q:Exit->Act->World->Prop} {c:eL} {V:List Vr} {A:List Al} {G:List bI} {a:Act} {w:World} {o:Oper}{d:Nat} {x y z:Operand} {ty:TypeId} {pos:String} {aZ:Array Edge}{K:Act->World->Prop}
theorem Does.mono {K':Act->World->Prop} (h:Does P o a w K) (hK:∀a w,K a w->K' a w):Does P o a w K':=by
 unfold Does at *
 generalize (execOp a.eval o).run P w=r at *
 match r,h with
 |.ok (.value v) w',h=>exact hK _ _ h
 |.ok .skip w',h=>exact hK _ _ h
 |.ok (.enter f args) w',h=>exact h.mono λe w'' ⟨v,h1,h2⟩=>⟨v,h1,hK _ _ h2⟩
theorem eC.of {ops:Array Oper} (hg:o.guard=none) (h:Does P o a w K):eC P ops o a w K:=by
 unfold eC
 rw[if_pos (by simp[Region.wanted,hg])]
 exact h
end
end Wx

namespace Wx
open Go Go.RowKit
theorem nT {M:Nat->Nat->Prop} {B:Nat->Prop} {w:World} (h:dc M w):dc (minus M B) w:=λk o hk=>h k o hk.1
section
variable {P:Program} {Q:Exit->Act->World->Prop} {c:eL} {V:List Vr} {A:List Al} {G:List bI} {a:Act} {w:World} {o:Oper}{d:Nat} {x y z u:Operand} {ty:TypeId} {pos:String} {aZ:Array Edge}{fn:Func}
end
end Wx

namespace Wx
open Go Go.RowKit
section
variable {P:Program} {Q:Exit->Act->World->Prop} {c:eL} {V:List Vr} {A:List Al} {G:List bI} {a:Act} {w:World}
end
def Xk (H:List Bk) (b:Nat) (X:List It):List Bk:=H.map λe=>if e.b=b then { e with items:=X }else e
end Wx

namespace Wx
open Go Go.RowKit
theorem tY (A:Option Addr) (n cap:Nat):Fits 1 false (cI (.slice A n cap)):=pW (gH _ _ _) rfl rfl
section
variable {L1 L2:List Rat} {s1 s2 k:Nat} {f:Rat}
end
end Wx
