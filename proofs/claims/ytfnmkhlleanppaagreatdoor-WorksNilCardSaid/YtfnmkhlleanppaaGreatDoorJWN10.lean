import Derived.Deep.AppendSrc
import Derived.Deep.Upon
import Derived.Test.YtfnmkhlleanppaaGreatDoorCWNSemRow
namespace Wx
open Go Go.RowKit
section
variable {P:Program} {ops:Array Oper} {ms:List Nat} {c:bD} {V:List Vr} {A:List Al} {G:List aD} {i:Nat} {L:Nat->Bool} {β:Nat->Nat->Prop} {a:Act} {w:World} {o:Oper}{d:Nat} {x y z:Operand} {ty:TypeId} {pos:String} {aj:Array Edge}
theorem aT.yB (h:aT c V A G L β a w) (hd:gg ms i L) (hwf:fG c.N ops V A G i o) {y:Vr} (hy:y∈V) (CS:y.born=some i) (hst:dn o.op=false) (B3:eY o.op=false) (hal:(A.all λp=>p.var != y.id||p.tag.any λj=>(ms.getD j 0).testBit i)=true)
  {v':Value} {w':World} {B':Nat->Prop} (e0:w'.os=w.os/\w'.tape=w.tape/\w'.output=w.output/\w.heap.size<=w'.heap.size)
  (e1:∀k,k<c.w0.heap.size->¬c.cU k->w'.heap[k]?=w.heap[k]?)
  (e2:∀z,z∈V->live L z=true->z.dead≠some i->∀k,β z.id k->w'.heap[k]?=w.heap[k]?/\¬B' k)
  (e3:Ext (own c V L β) w w') (e4:∀z,z∈V->live L z=true->z.dead≠some i->Ext (minus (own c V L β) (β z.id)) w w')
  (e5:∀k j,k<w.heap.size->B' k->y.lo<=j->own c V L β k j)
  (DB:∀β',β' y.id=B'->(∀k j,k<w.heap.size->own c V (upd L i) β' k j->own c V L β k j)->(∀k j,own c V (upd L i) β' k j->(B' k/\y.lo<=j)\/c.M0 k j\/∃z,z∈V/\live L z=true/\z.dead≠some i/\β z.id k)->ic (own c V (upd L i) β') c (upd L i) β' (a.put o.dst v') w' y)
  (hG:∀β',β' y.id=B'->(∀k j,k<w.heap.size->own c V (upd L i) β' k j->own c V L β k j)->(∀k j,own c V (upd L i) β' k j->(B' k/\y.lo<=j)\/c.M0 k j\/∃z,z∈V/\live L z=true/\z.dead≠some i/\β z.id k)->∀e,e∈G->e.tag=some i->aL (own c V (upd L i) β') (λw=>e.p w v') w'):
  Inv c V A G (upd L i) (a.put o.dst v') w':=by
 have mB:=hwf.v2 y hy CS
 have nV:∀z,z∈V->z.id≠y.id->z.born≠some i:=λz hz hne hb=>hne (by rw[hwf.vo z y hz hy hb CS])
 -- who CX on
 have lv:∀z,z∈V->z.id≠y.id->live (upd L i) z=true->live L z=true/\z.dead≠some i:=by
  intro z hz hne hl
  unfold live at hl ⊢
  rw[br (nV z hz hne),Bool.and_eq_true]at hl
  obtain⟨h1,h2⟩:=eF hl.2
  exact⟨by rw[hl.1,h1]; rfl,h2⟩
 have nS:∀z,z∈V->z.id≠y.id->z.dead≠some i->o.dst≠some z.slot:=λz hz hne nE hd'=>(hwf.v1 z hz hd').elim (nV z hz hne) nE
 have pD:∀z,z∈V->∀q,q∈z.st->q.1≠i:=λz hz q hq zT=>by have:=hwf.vs z hz q hq zT; rw[hst]at this; cases this
 let β':Nat->Nat->Prop:=λs=>if s=y.id then B' else β s
 have hβ:∀z,z∈V->z.id≠y.id->β' z.id=β z.id:=λz _ hne=>if_neg hne
 have yU:β' y.id=B':=if_pos rfl
 have dx:∀k j,k<w.heap.size->own c V (upd L i) β' k j->own c V L β k j:=by
  rintro k j hk (h1|⟨z,hz,h1,h2,h3⟩)
  ·exact .inl h1
  ·by_cases mG:z.id=y.id
   ·have:=hwf.vu z y hz hy mG
    subst this
    rw[yU]at h2
    exact e5 k j hk h2 h3
   ·rw[hβ z hz mG]at h2
    exact .inr ⟨z,hz,(lv z hz mG h1).1,h2,h3⟩
 have Av:∀k j,own c V (upd L i) β' k j->(B' k/\y.lo<=j)\/c.M0 k j\/∃z,z∈V/\live L z=true/\z.dead≠some i/\β z.id k:=by
  rintro k j (h1|⟨z,hz,h1,h2,h3⟩)
  ·exact .inr (.inl h1)
  ·by_cases mG:z.id=y.id
   ·have:=hwf.vu z y hz hy mG
    subst this
    rw[yU]at h2
    exact .inl ⟨h2,h3⟩
   ·rw[hβ z hz mG]at h2
    obtain⟨k1,k2⟩:=lv z hz mG h1
    exact .inr (.inr ⟨z,hz,k1,k2,h2⟩)
 have lift:∀F:World->Prop,aL (own c V L β) F w->aL (own c V (upd L i) β') F w':=λF hF w'' he=>by
  refine hF w'' ⟨Nat.le_trans e0.2.2.2 he.size,λk hk hno=>?_,λk j v hno hv=>?_⟩
  ·rw[he.block k (Nat.lt_of_lt_of_le hk e0.2.2.2) λj h'=>hno j (dx k j hk h')]
   exact e3.block k hk hno
  ·have hk:=World.block_lt_of_cell? w _ hv
   exact he.cell k j v (λh'=>hno (dx k j hk h')) (e3.cell k j v hno hv)
 have sB:∀z,z∈V->live L z=true->z.dead≠some i->∀F:World->Prop,aL (minus (own c V L β) (β z.id)) F w->aL (minus (own c V (upd L i) β') (β z.id)) F w':=λz hz hl nE F hF w'' he=>by
  have e:=e4 z hz hl nE
  refine hF w'' ⟨Nat.le_trans e0.2.2.2 he.size,λk hk hno=>?_,λk j v hno hv=>?_⟩
  ·rw[he.block k (Nat.lt_of_lt_of_le hk e0.2.2.2) λj h'=>hno j ⟨dx k j hk h'.1,h'.2⟩]
   exact e.block k hk hno
  ·have hk:=World.block_lt_of_cell? w _ hv
   exact he.cell k j v (λh'=>hno ⟨dx k j hk h'.1,h'.2⟩) (e.cell k j v hno hv)
 refine⟨β',by rw[dh]; exact h.size,by rw[put_defers]; exact h.defers,⟨e0.1.trans h.below.os,e0.2.1.trans h.below.tape,e0.2.2.1.trans h.below.output,Nat.le_trans h.below.size e0.2.2.2,λk hk hn=>(e1 k hk hn).trans (h.below.block k hk hn)⟩,h.fg e1,?_,?_,?_,?_⟩
 ·intro z hz hl
  by_cases mG:z.id=y.id
  ·have:=hwf.vu z y hz hy mG
   subst this
   exact DB β' yU dx Av
  ·obtain⟨hl,nE⟩:=lv z hz mG hl
   exact(h.var z hz hl).keep (bf (nS z hz mG nE)) (hβ z hz mG) (λg hg=>(e2 z hz hl nE g hg).1) e0.2.2.2 lift (sB z hz hl nE) (dZ (pD z hz))
 ·intro z z' g hz vQ h1 h2 hne
  by_cases mG:z.id=y.id
  ·have qg:z'.id≠y.id:=λe=>hne (mG.trans e.symm)
   obtain⟨h2,DI⟩:=lv z' vQ qg h2
   rw[mG,yU,hβ z' vQ qg]
   exactλk1 k2=>(e2 z' vQ h2 DI g k2).2 k1
  ·obtain⟨h1,BO⟩:=lv z hz mG h1
   rw[hβ z hz mG]
   by_cases qg:z'.id=y.id
   ·rw[qg,yU]
    exactλk1 k2=>(e2 z hz h1 BO g k1).2 k2
   ·rw[hβ z' vQ qg]
    exact h.apart z z' g hz vQ h1 (lv z' vQ qg h2).1 hne
 ·intro p hp hl hcd
  have qT:p.tag≠some i:=λe=>by have:=hwf.aa p hp e; rw[B3]at this; cases this
  rw[br qT]at hl
  obtain⟨g,hg,B7⟩:=h.al p hp hl hcd
  rw[bf λe=>qT (hwf.a1 p hp e),B7]
  have hne:p.var≠y.id:=by
   intro e
   rw[List.all_eq_true]at hal
   have h1:=hal p hp
   rw[e]at h1
   simp only[bne_self_eq_false,Bool.false_or]at h1
   cases ht:p.tag with
   |none=>rw[ht]at h1; simp at h1
   |some j=>
    rw[ht]at h1 hl
    have:=hd.behind j (by simpa using h1)
    simp only[on,this]at hl
    cases hl
  exact⟨g,by simpa [β',hne] using hg,rfl⟩
 ·intro e he hl hf
  obtain⟨hf,um⟩:=eF hf
  by_cases ht:e.tag=some i
  ·have hd':=hwf.g2 e he ht
   rw[hd',dK (by rw[h.size]; exact hwf.sz _ hd')]
   exact hG β' yU dx Av e he ht
  ·rw[br ht]at hl
   rw[bf λhd'=>(hwf.g1 e he hd').elim ht um]
   exact lift _ (h.fq e he hl hf)
end
end Wx

namespace Wx
open Go Go.RowKit
variable {sz:Nat}
theorem rG {α:Type}:∀(n:Nat) (g:Nat->List α),(∀i,i<n->(g i).length=sz)->((List.range n).flatMap g).length=n*sz/\∀i,i<n->(((List.range n).flatMap g).drop (i*sz)).take sz=g i:=by
 intro n
 induction n with
 |zero=>intro g _; exact⟨by simp,λi h=>absurd h (Nat.not_lt_zero i)⟩
 |succ n ih=>
  intro g h
  obtain⟨h1,h2⟩:=ih g λi hi=>h i (by omega)
  have hn:=h n (by omega)
  have e:(List.range (n+1)).flatMap g=(List.range n).flatMap g++g n:=by rw[List.range_succ,List.flatMap_append]; simp
  rw[e]
  refine⟨by rw[List.length_append,h1,hn,Nat.add_mul,Nat.one_mul],λi hi=>?_⟩
  rcases Nat.lt_or_ge i n with hin|hin
  ·have hle:(i+1)*sz<=n*sz:=Nat.mul_le_mul_right _ hin
   rw[Nat.add_mul,Nat.one_mul]at hle
   rw[List.drop_append_of_le_length (by omega),List.take_append_of_le_length (by rw[List.length_drop]; omega)]
   exact h2 i hin
  ·have hi':i=n:=by omega
   subst hi'
   rw[<-h1,List.drop_left,<-hn,List.take_length]
variable {M:Nat->Nat->Prop} {w:World} {agg:Bool}
theorem qC {p:Pred} {b o:Nat} (h1:agg=false->sz=1) (hf:Fits sz agg p) (h:aL M (λw=>cH sz agg p w (.pointer (some ⟨b,o,none⟩))) w):
  ∃cs:List Value,cs.length=sz/\(∀j u,cs[j]?=some u->w.cell? ⟨b,o+j,none⟩=some u/\¬M b (o+j))/\(∀u∈cs,dc u/\u.oneCell'=true)/\aL M (λw=>p w (ae agg cs)) w:=by
 have pL:∀{cs ds:List Value},cs.length=sz->ds.length=sz->ae agg cs=ae agg ds->cs=ds:=by
  intro cs ds e1 e2 e
  cases agg with
  |true=>exact bO e
  |false=>
   have:=h1 rfl
   match cs,ds,e1,e2 with
   |[x],[y],_,_=>simp only[ae,Bool.false_eq_true,if_false,List.headD_cons]at e; rw[e]
   |[],_,e1,_=>simp at e1; omega
   |_::_::_,_,e1,_=>simp at e1; omega
   |[_],[],_,e2=>simp at e2; omega
   |[_],_::_::_,_,e2=>simp at e2; omega
 obtain⟨b0,o0,cs,e,hl,hc,hb⟩:=nh h1 hf h
 injection e with e
 injection e with e
 injection e with e2 e3
 subst e2 e3
 have hfit:∀u∈cs,dc u/\u.oneCell'=true:=by
  obtain⟨ds,e4,hl4,_,h4⟩:=hf w _ hb.out
  rw[pL hl hl4 e4]
  exact h4
 refine⟨cs,hl,λj u hj=>⟨hc j u hj,mb h (hc j u hj) ?_⟩,hfit,hb⟩
 rintro w' hw' ⟨b',o',cs',e,hl',hc',hp'⟩
 injection e with e
 injection e with e
 injection e with e2 e3
 subst e2 e3
 obtain⟨ds,e4,hl4,_,h4⟩:=hf w' _ hp'
 have e5:=pL hl' hl4 e4
 subst e5
 have hj':j<cs'.length:=by
  rcases Nat.lt_or_ge j cs.length with h'|h'
  ·omega
  ·rw[List.getElem?_eq_none h']at hj; cases hj
 have h6:=hc' j _ (List.getElem?_eq_getElem hj')
 rw[hw']at h6
 injection h6 with h6
 exact((h4 _ (List.getElem_mem hj')).1 0).1 h6.symm
theorem nu {n:Nat} {f:Nat->Pred} {v:Value} (h1:agg=false->sz=1) (hf:∀i,i<n->Fits sz agg (f i)) (h:aL M (λw=>aK sz agg n f w v) w):
  ∃(A:Option Addr) (cap:Nat) (cs:List Value),v=.slice A n cap/\n<=cap/\cap<=maxLen/\cs.length=n*sz/\(∀u∈cs,dc u/\u.oneCell'=true) /\
   (0<n->∃b o,A=some ⟨b,o,none⟩/\∀j u,cs[j]?=some u->w.cell? ⟨b,o+j,none⟩=some u/\¬M b (o+j))/\∀i,i<n->aL M (λw=>f i w (ae agg ((cs.drop (i*sz)).take sz))) w:=by
 obtain⟨A,cap,rfl,hn,hcap,hel⟩:=h.out
 rcases Nat.eq_zero_or_pos n with h0|hpos
 ·subst h0
  exact⟨A,cap,[],rfl,hn,hcap,by simp,(λu hu=>by cases hu),(λh=>absurd h (Nat.lt_irrefl 0)),λi hi=>absurd hi (Nat.not_lt_zero i)⟩
 ·obtain⟨b,o,rfl,_⟩:=hel hpos
  have el:∀i,i<n->∃cs:List Value,cs.length=sz/\(∀j u,cs[j]?=some u->w.cell? ⟨b,o+i*sz+j,none⟩=some u/\¬M b (o+i*sz+j))/\(∀u∈cs,dc u/\u.oneCell'=true)/\aL M (λw=>f i w (ae agg cs)) w:=by
   intro i hi
   refine qC h1 (hf i hi) λw' he=>?_
   obtain⟨A',cap',e,_,_,BP⟩:=h w' he
   injection e with e _ _
   obtain⟨b',o',e',zJ⟩:=BP hpos
   rw[<-e]at e'
   injection e' with e'
   injection e' with e2 e3
   subst e2 e3
   obtain⟨cs,k1,k2,k3⟩:=zJ i hi
   exact⟨_,_,cs,rfl,k1,k2,k3⟩
  let g:Nat->List Value:=λi=>if h:i<n then Classical.choose (el i h)else[]
  have hg:∀i (hi:i<n),(g i).length=sz/\(∀j u,(g i)[j]?=some u->w.cell? ⟨b,o+i*sz+j,none⟩=some u/\¬M b (o+i*sz+j))/\(∀u∈g i,dc u/\u.oneCell'=true)/\aL M (λw=>f i w (ae agg (g i))) w:=by
   intro i hi
   have e:g i=Classical.choose (el i hi):=dif_pos hi
   rw[e]
   exact Classical.choose_spec (el i hi)
  obtain⟨hl,zU⟩:=rG n g λi hi=>(hg i hi).1
  refine⟨_,cap,(List.range n).flatMap g,rfl,hn,hcap,hl,?_,λ_=>⟨b,o,rfl,?_⟩,λi hi=>?_⟩
  ·intro u hu
   rw[List.mem_flatMap]at hu
   obtain⟨i,hi,hu⟩:=hu
   exact(hg i (List.mem_range.1 hi)).2.2.1 u hu
  ·intro j u hj
   have yQ:j<n*sz:=by
    rw[<-hl]
    rcases Nat.lt_or_ge j ((List.range n).flatMap g).length with h'|h'
    ·exact h'
    ·rw[List.getElem?_eq_none h']at hj; cases hj
   have hsz:0<sz:=by
    rcases Nat.eq_zero_or_pos sz with hz|hz
    ·rw[hz]at yQ; simp at yQ
    ·exact hz
   have hi:j/sz<n:=Nat.div_lt_of_lt_mul (by rw[Nat.mul_comm]; exact yQ)
   have hr:j%sz<sz:=Nat.mod_lt _ hsz
   have hd:j/sz*sz+j%sz=j:=by rw[Nat.mul_comm]; exact Nat.div_add_mod j sz
   have hk:(g (j/sz))[j%sz]?=some u:=by
    rw[<-zU _ hi,List.getElem?_take,if_pos hr,List.getElem?_drop,hd]
    exact hj
   have:=(hg _ hi).2.1 _ _ hk
   rwa [Nat.add_assoc,hd]at this
  ·rw[zU i hi]
   exact(hg i hi).2.2.2
section
variable {P:Program} {ops:Array Oper} {ms:List Nat} {c:bD} {V:List Vr} {A:List Al} {G:List aD} {i:Nat} {L:Nat->Bool} {β:Nat->Nat->Prop} {a:Act} {w:World} {o:Oper}{d:Nat} {x y z:Operand} {ty:TypeId} {pos:String} {aj:Array Edge}
structure oN (P:Program) (T tx E:TypeId) (sz:Nat):Prop where
 under:P.underlying T=some (.slice E)
 src:∃E',P.underlying tx=some (.slice E')
 info:∃ti zv,P.info? E=some ti/\ti.size=sz/\ti.zero=some zv/\zv.cells.size=sz/\(∀u∈zv.cells.toList,dc u)/\ti.bytes<=4096
theorem fN {zs:Array Value} (h:∀u∈zs.toList,dc u) (n:Nat):∀u∈(Builtin.zeroCells zs n).toList,dc u:=by
 intro u hu
 simp only[Builtin.zeroCells,Array.toList_map,List.mem_map,Array.mem_toList_iff,Array.mem_range]at hu
 obtain⟨k,hk,rfl⟩:=hu
 have hpos:0<zs.size:=by
  rcases Nat.eq_zero_or_pos zs.size with hz|hz
  ·rw[hz]at hk; simp at hk
  ·exact hz
 have hlt:k%zs.size<zs.size:=Nat.mod_lt _ hpos
 rw[getElem!_pos zs _ hlt]
 exact h _ (by simp)
variable {w':World}
theorem cK {M M':Nat->Nat->Prop} {w:World} (e3:Ext M w w') (hown:∀k j,k<w.heap.size->M' k j->M k j) {F:World->Prop} (hF:aL M F w):aL M' F w':=λw'' he=>by
 refine hF w'' ⟨Nat.le_trans e3.size he.size,λk hk hno=>?_,λk j v hno hv=>?_⟩
 ·rw[he.block k (Nat.lt_of_lt_of_le hk e3.size) λj h'=>hno j (hown k j hk h')]
  exact e3.block k hk hno
 ·have hk:=World.block_lt_of_cell? w _ hv
  exact he.cell k j v (λh'=>hno (hown k j hk h')) (e3.cell k j v hno hv)
variable {tx:TypeId}
theorem tB {sz n cap:Nat} {E':TypeId} {A':Option Addr} {news:List Value} (hk:P.underlying tx=some (.slice E')) (hl:news.length=n*sz) (h1:∀u∈news,u.oneCell'=true) (hc:0<n->∃b o,A'=some ⟨b,o,none⟩/\∀j u,news[j]?=some u->w.cell? ⟨b,o+j,none⟩=some u):Src P sz tx (.slice A' n cap) n news w:=by
 rcases Nat.eq_zero_or_pos n with h0|hpos
 ·subst h0
  have hn:news=[]:=List.eq_nil_of_length_eq_zero (by rw[hl]; simp)
  subst hn
  cases A' with
  |none=>exact Src.ofNil w hk cap
  |some b=>exact Src.ofSlice w hk b 0 cap [] (by simp) (λj u hj=>by simp at hj) (λu hu=>by cases hu)
 ·obtain⟨b,o,rfl,hcell⟩:=hc hpos
  exact Src.ofSlice w hk ⟨b,o,none⟩ n cap news hl (λj u hj=>by rw[Addr.add_mid]; exact hcell j u hj) h1
theorem iC {x y:Operand} {T:TypeId} {v:Value} {K:Act->World->Prop} (hr:(Builtin.append_ #[T,tx] ty #[a.eval x,a.eval y]).run P w=.ok v w') (hK:K (a.put (some d) v) w'):Does P ⟨some d,.call ⟨.builtin .append,#[x,y],#[T,tx]⟩,ty,pos,aj,none⟩ a w K:=by
 have hrun:(execOp a.eval ⟨some d,.call ⟨.builtin .append,#[x,y],#[T,tx]⟩,ty,pos,aj,none⟩).run P w=.ok (.value v) w':=by
  show(do let d <-resolve a.eval ⟨.builtin .append,#[x,y],#[T,tx]⟩ ty; invoke d.target d.args).run P w=_
  simp only[resolve,invoke,pure_bind,builtin]
  rw[show(#[x,y]:Array Operand).map a.eval=#[a.eval x,a.eval y] by simp,Sem.run_bind,hr]
  rfl
 exact cj hrun hK
end
end Wx
