import Derived.Test.YtpiniclogfefjaaJSylvester23
namespace Wx
open Go Go.RowKit

theorem flat_seg {α:Type} {sz:Nat}:∀(n:Nat) (g:Nat→List α),(∀i,i<n→(g i).length=sz)→((List.range n).flatMap g).length=n*sz∧∀i,i<n→(((List.range n).flatMap g).drop (i*sz)).take sz=g i:=by
 intro n
 induction n with
 |zero=>intro g _; exact⟨by simp,fun i h=>absurd h (Nat.not_lt_zero i)⟩
 |succ n ih=>
  intro g h
  obtain⟨h1,h2⟩:=ih g fun i hi=>h i (by omega)
  have hn:=h n (by omega)
  have e:(List.range (n+1)).flatMap g=(List.range n).flatMap g++g n:=by rw[List.range_succ,List.flatMap_append]; simp
  rw[e]
  refine⟨by rw[List.length_append,h1,hn,Nat.add_mul,Nat.one_mul],fun i hi=>?_⟩
  rcases Nat.lt_or_ge i n with hin|hin
  ·have hle:(i+1)*sz≤n*sz:=Nat.mul_le_mul_right _ hin
   rw[Nat.add_mul,Nat.one_mul]at hle
   rw[List.drop_append_of_le_length (by omega),List.take_append_of_le_length (by rw[List.length_drop]; omega)]
   exact h2 i hin
  ·have hi':i=n:=by omega
   subst hi'
   rw[← h1,List.drop_left,← hn,List.take_length]
theorem ptr_cells {M:Nat→Nat→Prop} {w:World} {sz:Nat} {agg:Bool} {p:Qj} {b o:Nat} (h1:agg=false→sz=1) (hf:Jn sz agg p) (h:Box M (fun w=>Zc sz agg p w (.pointer (some ⟨b,o,none⟩))) w):
  ∃cs:List Value,cs.length=sz∧(∀j u,cs[j]?=some u→w.cell? ⟨b,o+j,none⟩=some u∧¬M b (o+j))∧(∀u∈cs,Yr u∧u.oneCell'=true)∧Box M (fun w=>p w (Q6 agg cs)) w:=by
 have wrap1:∀{cs ds:List Value},cs.length=sz→ds.length=sz→Q6 agg cs=Q6 agg ds→cs=ds:=by
  intro cs ds e1 e2 e
  cases agg with
  |true=>exact Qcf e
  |false=>
   have:=h1 rfl
   match cs,ds,e1,e2 with
   |[x],[y],_,_=>simp only[Q6,Bool.false_eq_true,if_false,List.headD_cons]at e; rw[e]
   |[],_,e1,_=>simp at e1; omega
   |_::_::_,_,e1,_=>simp at e1; omega
   |[_],[],_,e2=>simp at e2; omega
   |[_],_::_::_,_,e2=>simp at e2; omega
 obtain⟨b0,o0,cs,e,hl,hc,hb⟩:=ptr_open h1 hf h
 injection e with e
 injection e with e
 injection e with e2 e3
 subst e2 e3
 have hfit:∀u∈cs,Yr u∧u.oneCell'=true:=by
  obtain⟨ds,e4,hl4,_,h4⟩:=hf w _ hb.out
  rw[wrap1 hl hl4 e4]
  exact h4
 refine⟨cs,hl,fun j u hj=>⟨hc j u hj,box_cell h (hc j u hj) ?_⟩,hfit,hb⟩
 rintro w' hw' ⟨b',o',cs',e,hl',hc',hp'⟩
 injection e with e
 injection e with e
 injection e with e2 e3
 subst e2 e3
 obtain⟨ds,e4,hl4,_,h4⟩:=hf w' _ hp'
 have e5:=wrap1 hl' hl4 e4
 subst e5
 have hj':j<cs'.length:=by
  rcases Nat.lt_or_ge j cs.length with h'|h'
  ·omega
  ·rw[List.getElem?_eq_none h']at hj; cases hj
 have h6:=hc' j _ (List.getElem?_eq_getElem hj')
 rw[hw']at h6
 injection h6 with h6
 exact((h4 _ (List.getElem_mem hj')).1 0).1 h6.symm
theorem Qdi {M:Nat→Nat→Prop} {w:World} {sz n:Nat} {agg:Bool} {f:Nat→Qj} {v:Value} (h1:agg=false→sz=1) (hf:∀i,i<n→Jn sz agg (f i)) (h:Box M (fun w=>Qg sz agg n f w v) w):
  ∃(A:Option Addr) (cap:Nat) (cs:List Value),v=.slice A n cap∧n≤cap∧cap≤maxLen∧cs.length=n*sz∧(∀u∈cs,Yr u∧u.oneCell'=true) ∧
   (0<n→∃b o,A=some ⟨b,o,none⟩∧∀j u,cs[j]?=some u→w.cell? ⟨b,o+j,none⟩=some u∧¬M b (o+j))∧∀i,i<n→Box M (fun w=>f i w (Q6 agg ((cs.drop (i*sz)).take sz))) w:=by
 obtain⟨A,cap,rfl,hn,hcap,hel⟩:=h.out
 rcases Nat.eq_zero_or_pos n with h0|hpos
 ·subst h0
  exact⟨A,cap,[],rfl,hn,hcap,by simp,(fun u hu=>by cases hu),(fun h=>absurd h (Nat.lt_irrefl 0)),fun i hi=>absurd hi (Nat.not_lt_zero i)⟩
 ·obtain⟨b,o,rfl,_⟩:=hel hpos
  have el:∀i,i<n→∃cs:List Value,cs.length=sz∧(∀j u,cs[j]?=some u→w.cell? ⟨b,o+i*sz+j,none⟩=some u∧¬M b (o+i*sz+j))∧(∀u∈cs,Yr u∧u.oneCell'=true)∧Box M (fun w=>f i w (Q6 agg cs)) w:=by
   intro i hi
   refine ptr_cells h1 (hf i hi) fun w' he=>?_
   obtain⟨A',cap',e,_,_,hel'⟩:=h w' he
   injection e with e _ _
   obtain⟨b',o',e',hel''⟩:=hel' hpos
   rw[← e]at e'
   injection e' with e'
   injection e' with e2 e3
   subst e2 e3
   obtain⟨cs,k1,k2,k3⟩:=hel'' i hi
   exact⟨_,_,cs,rfl,k1,k2,k3⟩
  let g:Nat→List Value:=fun i=>if h:i<n then Classical.choose (el i h)else[]
  have hg:∀i (hi:i<n),(g i).length=sz∧(∀j u,(g i)[j]?=some u→w.cell? ⟨b,o+i*sz+j,none⟩=some u∧¬M b (o+i*sz+j))∧(∀u∈g i,Yr u∧u.oneCell'=true)∧Box M (fun w=>f i w (Q6 agg (g i))) w:=by
   intro i hi
   have e:g i=Classical.choose (el i hi):=dif_pos hi
   rw[e]
   exact Classical.choose_spec (el i hi)
  obtain⟨hl,hseg⟩:=flat_seg n g fun i hi=>(hg i hi).1
  refine⟨_,cap,(List.range n).flatMap g,rfl,hn,hcap,hl,?_,fun _=>⟨b,o,rfl,?_⟩,fun i hi=>?_⟩
  ·intro u hu
   rw[List.mem_flatMap]at hu
   obtain⟨i,hi,hu⟩:=hu
   exact(hg i (List.mem_range.1 hi)).2.2.1 u hu
  ·intro j u hj
   have hjl:j<n*sz:=by
    rw[← hl]
    rcases Nat.lt_or_ge j ((List.range n).flatMap g).length with h'|h'
    ·exact h'
    ·rw[List.getElem?_eq_none h']at hj; cases hj
   have hsz:0<sz:=by
    rcases Nat.eq_zero_or_pos sz with hz|hz
    ·rw[hz]at hjl; simp at hjl
    ·exact hz
   have hi:j/sz<n:=Nat.div_lt_of_lt_mul (by rw[Nat.mul_comm]; exact hjl)
   have hr:j%sz<sz:=Nat.mod_lt _ hsz
   have hd:j/sz*sz+j%sz=j:=by rw[Nat.mul_comm]; exact Nat.div_add_mod j sz
   have hk:(g (j/sz))[j%sz]?=some u:=by
    rw[← hseg _ hi,List.getElem?_take,if_pos hr,List.getElem?_drop,hd]
    exact hj
   have:=(hg _ hi).2.1 _ _ hk
   rwa [Nat.add_assoc,hd]at this
  ·rw[hseg i hi]
   exact(hg i hi).2.2.2
theorem row_of {w:World} {sz n cap:Nat} {agg:Bool} {f:Nat→Qj} {A:Option Addr} {cs:List Value} (hn:n≤cap) (hcap:cap≤maxLen) (hl:cs.length=n*sz)
  (hc:0<n→∃b o,A=some ⟨b,o,none⟩∧∀j u,cs[j]?=some u→w.cell? ⟨b,o+j,none⟩=some u) (hf:∀i,i<n→f i w (Q6 agg ((cs.drop (i*sz)).take sz))):Qg sz agg n f w (.slice A n cap):=by
 refine⟨A,cap,rfl,hn,hcap,fun hpos=>?_⟩
 obtain⟨b,o,e,hc⟩:=hc hpos
 refine⟨b,o,e,fun i hi=>⟨(cs.drop (i*sz)).take sz,?_,fun j u hj=>?_,hf i hi⟩⟩
 ·have hle:(i+1)*sz≤n*sz:=Nat.mul_le_mul_right _ hi
  rw[Nat.add_mul,Nat.one_mul]at hle
  rw[List.length_take,List.length_drop,hl]
  omega
 ·rw[List.getElem?_take]at hj
  split at hj
  ·rw[List.getElem?_drop]at hj
   have:=hc _ _ hj
   rwa [← Nat.add_assoc]at this
  ·cases hj
section
variable {P:Program} {ops:Array Oper} {ms:List Nat} {c:Cfg} {V:List Vr} {A:List Al} {G:List Ent} {i:Nat} {L:Nat→Bool} {β:Nat→Nat→Prop} {a:Act} {w:World} {o:Oper}
variable {d:Nat} {x y z:Operand} {ty:TypeId} {pos:String} {aft:Array Edge}
structure AppTy (P:Program) (T tx E:TypeId) (sz:Nat):Prop where
 under:P.underlying T=some (.slice E)
 src:∃E',P.underlying tx=some (.slice E')
 info:∃ti zv,P.info? E=some ti∧ti.size=sz∧ti.zero=some zv∧zv.cells.size=sz∧(∀u∈zv.cells.toList,Yr u)∧ti.bytes≤4096
theorem Qa0 {zs:Array Value} (h:∀u∈zs.toList,Yr u) (n:Nat):∀u∈(Builtin.zeroCells zs n).toList,Yr u:=by
 intro u hu
 simp only[Builtin.zeroCells,Array.toList_map,List.mem_map,Array.mem_toList_iff,Array.mem_range]at hu
 obtain⟨k,hk,rfl⟩:=hu
 have hpos:0<zs.size:=by
  rcases Nat.eq_zero_or_pos zs.size with hz|hz
  ·rw[hz]at hk; simp at hk
  ·exact hz
 have hlt:k%zs.size<zs.size:=Nat.mod_lt _ hpos
 rw[getElem!_pos zs _ hlt]
 exact h _ (by simp)
theorem W0 {M M':Nat→Nat→Prop} {w w':World} (e3:Ext M w w') (hown:∀k j,k<w.heap.size→M' k j→M k j) {F:World→Prop} (hF:Box M F w):Box M' F w':=fun w'' he=>by
 refine hF w'' ⟨Nat.le_trans e3.size he.size,fun k hk hno=>?_,fun k j v hno hv=>?_⟩
 ·rw[he.block k (Nat.lt_of_lt_of_le hk e3.size) fun j h'=>hno j (hown k j hk h')]
  exact e3.block k hk hno
 ·have hk:=World.block_lt_of_cell? w _ hv
  exact he.cell k j v (fun h'=>hno (hown k j hk h')) (e3.cell k j v hno hv)
theorem InvB.appended (h:InvB c V A G L β a w) (hd:Det ms i L) (hwf:WfAt c.N ops V A G i o) {yv:Vr} {E:TypeId} {sz m n:Nat} {agg:Bool} {f g:Nat→Qj} {olds news:List Value} (hy:yv∈V) (hyb:yv.born=some i) (hkd2:yv.kd=.grow (m+n) sz) (hT2:yv.T=E) (hst:Jl o.op=false) (hna:Kf o.op=false)
  (hal:(A.all fun p=>p.var != yv.id||p.tag.any fun j=>(ms.getD j 0).testBit i)=true) (hol:olds.length=m*sz) (hnl:news.length=n*sz)
  (hof:∀i,i<m→Box (own c V L β) (fun w=>f i w (Q6 agg ((olds.drop (i*sz)).take sz))) w) (hnf:∀i,i<n→Box (own c V L β) (fun w=>g i w (Q6 agg ((news.drop (i*sz)).take sz))) w)
  (hp:Post G i (Qg sz agg (m+n) fun j=>if j<m then f j else g (j-m)))
  {w':World} {blk cap':Nat} {cur':List Value} (hblk:w'.heap[blk]?=some (.cells cur'.toArray E (0,0))) (hcl:cur'.length=cap'*sz) (hle:m+n≤cap') (hmx:cap'≤maxLen) (hnu:∀u∈cur',Yr u) (htk:cur'.take ((m+n)*sz)=olds++news) (hmine:mine c blk)
  (e0:w'.os=w.os∧w'.tape=w.tape∧w'.output=w.output∧w.heap.size≤w'.heap.size)
  (e1:∀k,k<c.w0.heap.size→¬c.lent k→w'.heap[k]?=w.heap[k]?)
  (e2:∀z,z∈V→live L z=true→z.dead≠some i→∀k,β z.id k→w'.heap[k]?=w.heap[k]?∧¬k=blk)
  (e3:Ext (own c V L β) w w') (e4:∀z,z∈V→live L z=true→z.dead≠some i→Ext (Jo (own c V L β) (β z.id)) w w')
  (e5:∀j,blk<w.heap.size→(m+n)*sz≤j→own c V L β blk j):
  Inv c V A G (X3 L i) (a.put o.dst (.slice (some ⟨blk,0,none⟩) (m+n) cap')) w':=by
 have hlo:yv.lo=(m+n)*sz:=by unfold Vr.lo; rw[hkd2]
 have hdst:=hwf.v2 yv hy hyb
 have hN:(olds++news).length=(m+n)*sz:=by rw[List.length_append,hol,hnl,Nat.add_mul]
 refine h.remake hd hwf hy hyb hst hna hal (B':=(·=blk)) e0 e1 e2 e3 e4 (fun k j hk e hj=>by subst e; exact e5 j hk (hlo▸hj)) (fun β' hβ' hown _=>?_) (fun β' hβ' hown hown2 e he ht=>?_)
 ·refine(Yu hkd2).2 (.inr ⟨blk,cap',cur',fun k=>by rw[hβ'],?_,hmine,by rw[hT2]; exact hblk,hcl,hle,hmx,hnu⟩)
  rw[hdst,J6 (by rw[h.size]; exact hwf.sz _ hdst)]
 ·refine Box.imp (F:=fun w=>Qg sz agg (m+n) (fun j=>if j<m then f j else g (j-m)) w (.slice (some ⟨blk,0,none⟩) (m+n) cap')) (fun w'' hext=>?_) fun w=>hp.spec hwf he ht w _
  refine row_of hle hmx hN (fun _=>⟨blk,0,rfl,fun j u hj=>?_⟩) (fun j hj=>?_)
  ·have hjl:j<(m+n)*sz:=by
    rw[← hN]
    rcases Nat.lt_or_ge j (olds++news).length with h'|h'
    ·exact h'
    ·rw[List.getElem?_eq_none h']at hj; cases hj
   refine hext.cell blk (0+j) u ?_ ?_
   ·rw[Nat.zero_add]
    intro ho
    rcases hown2 _ _ ho with⟨_,h3⟩|h1|⟨z,hz,k1,k2,h2⟩
    ·rw[hlo]at h3; omega
    ·obtain⟨⟨k1,k2⟩,_⟩:=h.old _ _ h1
     exact hmine.elim (fun h=>by omega) k2
    ·exact(e2 z hz k1 k2 blk h2).2 rfl
   ·rw[Nat.zero_add]
    simp only[World.cell?,hblk]
    rw[← htk,List.getElem?_take,if_pos hjl]at hj
    simpa using hj
  ·have hseg:∀(l r:List Value) (q:Nat),(q+1)*sz≤l.length→((l++r).drop (q*sz)).take sz=(l.drop (q*sz)).take sz:=fun l r q hq=>by
    rw[Nat.add_mul,Nat.one_mul]at hq
    rw[List.drop_append_of_le_length (by omega),List.take_append_of_le_length (by rw[List.length_drop]; omega)]
   by_cases hjm:j<m
   ·rw[if_pos hjm,hseg _ _ _ (by rw[hol]; exact Nat.mul_le_mul_right _ hjm)]
    exact W0 e3 hown (hof j hjm) w'' hext
   ·rw[if_neg hjm]
    have e:(olds++news).drop (j*sz)=news.drop ((j-m)*sz):=by
     have:j*sz=olds.length+(j-m)*sz:=by rw[hol,← Nat.add_mul]; congr 1; omega
     rw[this,← List.drop_drop,List.drop_left]
    rw[e]
    exact W0 e3 hown (hnf (j-m) (by omega)) w'' hext
theorem src_of {sz n cap:Nat} {tx E':TypeId} {A':Option Addr} {news:List Value} (hk:P.underlying tx=some (.slice E')) (hl:news.length=n*sz) (h1:∀u∈news,u.oneCell'=true) (hc:0<n→∃b o,A'=some ⟨b,o,none⟩∧∀j u,news[j]?=some u→w.cell? ⟨b,o+j,none⟩=some u):Src P sz tx (.slice A' n cap) n news w:=by
 rcases Nat.eq_zero_or_pos n with h0|hpos
 ·subst h0
  have hn:news=[]:=List.eq_nil_of_length_eq_zero (by rw[hl]; simp)
  subst hn
  cases A' with
  |none=>exact Src.ofNil w hk cap
  |some b=>exact Src.ofSlice w hk b 0 cap [] (by simp) (fun j u hj=>by simp at hj) (fun u hu=>by cases hu)
 ·obtain⟨b,o,rfl,hcell⟩:=hc hpos
  exact Src.ofSlice w hk ⟨b,o,none⟩ n cap news hl (fun j u hj=>by rw[Addr.add_mid]; exact hcell j u hj) h1
theorem Vt {x y:Operand} {T tx:TypeId} {v:Value} {w':World} {K:Act→World→Prop} (hr:(Builtin.append_ #[T,tx] ty #[a.eval x,a.eval y]).run P w=.ok v w') (hK:K (a.put (some d) v) w'):Does P ⟨some d,.call ⟨.builtin .append,#[x,y],#[T,tx]⟩,ty,pos,aft,none⟩ a w K:=by
 have hrun:(execOp a.eval ⟨some d,.call ⟨.builtin .append,#[x,y],#[T,tx]⟩,ty,pos,aft,none⟩).run P w=.ok (.value v) w':=by
  show(do let d ← resolve a.eval ⟨.builtin .append,#[x,y],#[T,tx]⟩ ty; invoke d.target d.args).run P w=_
  simp only[resolve,invoke,pure_bind,builtin]
  rw[show(#[x,y]:Array Operand).map a.eval=#[a.eval x,a.eval y] by simp,Sem.run_bind,hr]
  rfl
 exact Z5 hrun hK
theorem Qca {T tx E:TypeId} {sz m n s:Nat} {agg:Bool} {f g:Nat→Qj} {xv yv:Vr} (k:Nat) (hk:V[k]?=some xv) (hsl:xv.slot=s) (ho:Zm ms i xv=true) (hkd:xv.kd=.grow m sz) (hdead:xv.dead=some i) (k2:Nat) (hk2:V[k2]?=some yv) (hb:yv.born=some i) (hkd2:yv.kd=.grow (m+n) sz)
  (hT:xv.T=E) (hT2:yv.T=E) (hoth:(V.all fun z=>z.dead != some i||z.id==xv.id)=true) (hal:(A.all fun p=>p.var != yv.id||p.tag.any fun j=>(ms.getD j 0).testBit i)=true)
  (h1:Has ms G i (.tmp s) (Qg sz agg m f)) (h2:Has ms G i y (Qg sz agg n g)) (ht:AppTy P T tx E sz) (hagg:agg=false→sz=1) (hf:∀i,i<m→Jn sz agg (f i)) (hg:∀i,i<n→Jn sz agg (g i)) (hmax:m+n≤1073741824)
  (hp:Post G i (Qg sz agg (m+n) fun j=>if j<m then f j else g (j-m))):
  Xf P ops ms c V A G i ⟨some d,.call ⟨.builtin .append,#[.tmp s,y],#[T,tx]⟩,ty,pos,aft,none⟩:=by
 refine J9 (fun L β a w hI hd hwf=>?_) rfl
 have hx:=List.mem_of_getElem? hk
 have hy:=List.mem_of_getElem? hk2
 have hlx:=hd.live ho
 have hvx:=(Yu hkd).1 (hI.var xv hx hlx)
 obtain⟨A1,cap1,olds,ev1,hm1,hc1,hol,hou,hoc,hof⟩:=Qdi hagg hf (h1.spec hI hd)
 obtain⟨A2,cap2,news,ev2,hm2,hc2,hnl,hnu,hnc,hnf⟩:=Qdi hagg hg (h2.spec hI hd)
 obtain⟨E',htx⟩:=ht.src
 obtain⟨ti,zv,hi,hsz,hz,hzs,hzn,hby⟩:=ht.info
 subst hsz
 have hsrc:∀w0:World,w0.heap=w.heap→Src P ti.size tx (a.eval y) n news w:=fun _ _=>by
  rw[ev2]
  exact src_of htx hnl (fun u hu=>(hnu u hu).2) fun h=>by
   obtain⟨b,o,e,hc⟩:=hnc h
   exact⟨b,o,e,fun j u hj=>(hc j u hj).1⟩
 have hS:=hsrc w rfl
 have es:sl a xv.slot=a.eval (.tmp s):=by rw[hsl]; rfl
 -- others' blocks
 have only:∀z,z∈V→live L z=true→z.dead≠some i→z.id≠xv.id:=fun z hz _ hdz e=>by
  have:=hwf.vu z xv hz hx e
  subst this
  exact hdz hdead
 -- a new block
 have fresh:∀(cur':List Value) (cap':Nat),cur'.length=cap'*ti.size→m+n≤cap'→cap'≤maxLen→(∀u∈cur',Yr u)→cur'.take ((m+n)*ti.size)=olds++news →
   (Builtin.append_ #[T,tx] ty #[a.eval (.tmp s),a.eval y]).run P w=.ok (.slice (some ⟨w.heap.size,0,none⟩) (m+n) cap') (w.drew.alloc (.cells cur'.toArray E)) →
   Does P ⟨some d,.call ⟨.builtin .append,#[.tmp s,y],#[T,tx]⟩,ty,pos,aft,none⟩ a w (Inv c V A G (X3 L i)):=by
  intro cur' cap' k1 k2 k3 k4 k5 hr
  have hb0:Below w.heap.size w (w.drew.alloc (.cells cur'.toArray E)):=Below.alloc (Below.drew (Below.refl _ _)) (Nat.le_refl _) _
  refine Vt hr ?_
  exact hI.appended hd hwf (E:=E) (f:=f) (g:=g) (agg:=agg) hy hb hkd2 hT2 rfl rfl hal hol hnl hof hnf hp (heap_alloc_new w.drew _) k1 k2 k3 k4 k5 (.inl hI.below.size) ⟨hb0.os,hb0.tape,hb0.output,hb0.size⟩ (fun k hk _=>hb0.block k (Nat.lt_of_lt_of_le hk hI.below.size))
   (fun z hz hl _ k hk=>⟨hb0.block k (Y5 hI hz hl hk),fun e=>absurd e (Nat.ne_of_lt (Y5 hI hz hl hk))⟩) (Ext.of_below hb0) (fun z hz hl _=>Ext.of_below hb0) (fun j hj=>absurd hj (Nat.lt_irrefl _))
 have grows:∀(bs:Option Addr) (sc:Nat),a.eval (.tmp s)=.slice bs m sc→sc<m+n→(Builtin.firstCells ti.size m (.slice bs m sc)).run P w.drew=.ok olds.toArray w.drew →
   Does P ⟨some d,.call ⟨.builtin .append,#[.tmp s,y],#[T,tx]⟩,ty,pos,aft,none⟩ a w (Inv c V A G (X3 L i)):=by
  intro bs sc e hlt hold
  have hrun:=run_append_grow_src (P:=P) w T tx ty E ti zv ht.under hi hz bs m sc olds hold (a.eval y) n news hS hlt (by omega) (growslice_fits hlt (by
   have:(m+n)*ti.bytes≤1073741824*4096:=Nat.mul_le_mul hmax hby
   omega))
  have hge:=grownCap_ge w (m+n) sc E
  refine fresh (olds++news++(Builtin.zeroCells zv.cells (grownCap w (m+n) sc E-(m+n))).toList) (grownCap w (m+n) sc E) ?_ hge (grownCap_le_maxLen w (m+n) sc E (by unfold maxLen; omega)) ?_ ?_ ?_
  ·rw[List.length_append,List.length_append,hol,hnl,Array.length_toList,size_zeroCells,hzs,← Nat.add_mul,← Nat.add_mul]
   congr 1; omega
  ·intro u hu
   rcases List.mem_append.1 hu with hu|hu
   ·rcases List.mem_append.1 hu with hu|hu
    ·exact(hou u hu).1
    ·exact(hnu u hu).1
   ·exact Qa0 hzn _ u hu
  ·rw[← show(olds++news).length=(m+n)*ti.size by rw[List.length_append,hol,hnl,Nat.add_mul],List.take_left]
  ·rw[e,hrun]
   congr 3
   apply Array.ext'
   simp
 rcases hvx with⟨hB,hm0,hsv⟩|⟨b,cap,cur,hB,hsv,hmine,hblk,hcl,hmc,hcm,hcu⟩
 ·-- nil
  subst hm0
  have ho0:olds=[]:=List.eq_nil_of_length_eq_zero (by rw[hol]; simp)
  rw[es]at hsv
  rcases Nat.eq_zero_or_pos n with h0|hpos
  ·subst h0
   have hn0:news=[]:=List.eq_nil_of_length_eq_zero (by rw[hnl]; simp)
   subst hn0
   have hrun:=run_append_nothing (P:=P) w T tx ty E ti ht.under hi none 0 0 (Nat.le_refl 0) (a.eval y) hS
   rw[← hsv]at hrun
   refine Vt hrun ?_
   refine hI.remake hd hwf hy hb rfl rfl hal (B':=fun _=>False) ⟨rfl,rfl,rfl,Nat.le_refl _⟩ (fun _ _ _=>rfl) (fun _ _ _ _ _ _=>⟨rfl,fun h=>h⟩) (Ext.refl _ _) (fun _ _ _ _=>Ext.refl _ _) (fun _ _ _ h=>h.elim) (fun β' hβ' _ _=>?_) (fun β' hβ' hown _ e he ht'=>?_)
   ·have hdst:=hwf.v2 yv hy hb
    refine(Yu hkd2).2 (.inl ⟨fun k=>by rw[hβ']; exact fun h=>h,rfl,?_⟩)
    rw[hdst,J6 (by rw[hI.size]; exact hwf.sz _ hdst)]
    exact hsv
   ·refine Box.imp (F:=fun w=>Qg ti.size agg (0+0) (fun j=>if j<0 then f j else g (j-0)) w (a.eval (.tmp s))) (fun w'' _=>?_) fun w=>hp.spec hwf he ht' w _
    rw[hsv]
    exact⟨none,0,rfl,Nat.le_refl _,Nat.zero_le _,fun h=>absurd h (Nat.lt_irrefl 0)⟩
  ·refine grows none 0 hsv (by omega) ?_
   rw[ho0]
   exact run_firstCells_none w.drew ti.size 0 0 0
 ·-- a block
  rw[hT]at hblk
  rw[es]at hsv
  rw[hsv]at ev1
  injection ev1 with eA _ ecap
  subst ecap
  have hcur:cur.take (m*ti.size)=olds:=by
   rcases Nat.eq_zero_or_pos m with h0|hpos
   ·subst h0
    rw[Nat.zero_mul,List.take_zero]
    exact(List.eq_nil_of_length_eq_zero (by rw[hol]; simp)).symm
   ·obtain⟨b',o',e,hc⟩:=hoc hpos
    rw[← eA]at e
    injection e with e
    injection e with e2 e3
    subst e2 e3
    have hle:m*ti.size≤cap*ti.size:=Nat.mul_le_mul_right _ hmc
    refine W1 (w:=w) (b:=b) (o:=0) (by rw[List.length_take,hol,hcl]; omega) (fun j u hj=>?_) (fun j u hj=>(hc j u hj).1)
    rw[List.getElem?_take]at hj
    split at hj
    ·rw[Nat.zero_add]
     simp only[World.cell?,hblk]
     simpa using hj
    ·cases hj
  by_cases hroom:m+n≤cap
  ·-- there is room
   have hN:m*ti.size+n*ti.size≤cap*ti.size:=by rw[← Nat.add_mul]; exact Nat.mul_le_mul_right _ hroom
   have hsome:∀j,j<news.length→(w.cell? ⟨b,0+m*ti.size+j,none⟩).isSome=true:=by
    intro j hj
    simp only[World.cell?,hblk]
    rw[List.getElem?_toArray,List.getElem?_eq_getElem (by rw[hcl]; omega)]
    rfl
   have hfz:∀j,j<news.length→w.frozen? ⟨b,0+m*ti.size+j,none⟩=false:=by
    intro j hj
    simp[World.frozen?,hblk]
   have hrun:=run_append_room_src (P:=P) w T tx ty E ti ht.under hi b 0 m cap (a.eval y) n news hS hroom hsome hfz
   rw[← hsv]at hrun
   have Xs:w.setCells b (0+m*ti.size) news=w.setRow b (cur.take (m*ti.size)++news++cur.drop (m*ti.size+news.length)).toArray:=by
    have r1:=run_storeCells_cells (P:=P) b (0+m*ti.size) news 0 w (by simpa using hsome) (by simpa using hfz) fun u hu=>(hnu u hu).2
    have r2:=run_storeCells_at P b (0+m*ti.size) E news 0 cur.toArray w hblk (by simp; omega) fun u hu=>(hnu u hu).2
    rw[r1]at r2
    injection r2 with _ r2
    simpa using r2
   rw[Xs]at hrun
   refine Vt hrun ?_
   have hgx:β xv.id b:=(hB b).2 rfl
   have hloX:xv.lo=m*ti.size:=by unfold Vr.lo; rw[hkd]
   have og:∀j,m*ti.size≤j→own c V L β b j:=fun j hj=>.inr ⟨xv,hx,hlx,hgx,by rw[hloX]; exact hj⟩
   have hne0:∀k,k<c.w0.heap.size→¬c.lent k→k≠b:=fun k h1 h2 e=>hmine.elim (fun h3=>by omega) (fun h3=>h2 (e▸h3))
   have ext:∀M:Nat→Nat→Prop,(∀j,m*ti.size≤j→M b j)→Ext M w (w.setRow b (cur.take (m*ti.size)++news++cur.drop (m*ti.size+news.length)).toArray):=by
    intro M hM
    refine⟨Nat.le_of_eq size_setRow.symm,fun k hk hno=>Xj fun e=>hno (m*ti.size) (by rw[e]; exact hM _ (Nat.le_refl _)),fun k o v hno hv=>?_⟩
    by_cases hkb:k=b
    ·subst hkb
     have hlt:o<m*ti.size:=by
      rcases Nat.lt_or_ge o (m*ti.size)with h'|h'
      ·exact h'
      ·exact absurd (hM o h') hno
     have hb':(w.setRow k (cur.take (m*ti.size)++news++cur.drop (m*ti.size+news.length)).toArray).heap[k]?=some (.cells (cur.take (m*ti.size)++news++cur.drop (m*ti.size+news.length)).toArray E (0,0)):=setRow_heap w _ _ _ _ _ hblk
     simp only[World.cell?,hblk]at hv
     simp only[World.cell?,hb']
     have hv':cur[o]?=some v:=by simpa using hv
     have:(cur.take (m*ti.size)++news++cur.drop (m*ti.size+news.length))[o]?=some v:=by
      rw[List.append_assoc,List.getElem?_append_left (by rw[List.length_take,hcl]; omega),List.getElem?_take,if_pos hlt]
      exact hv'
     simpa using this
    ·rw[World.cell?_of_block (w:=w) (a:=⟨k,o,none⟩) (Xj hkb)]; exact hv
   refine hI.appended hd hwf (E:=E) (f:=f) (g:=g) (agg:=agg) (cur':=cur.take (m*ti.size)++news++cur.drop (m*ti.size+news.length)) hy hb hkd2 hT2 rfl rfl hal hol hnl hof hnf hp (setRow_heap w _ _ _ _ _ hblk) ?_ hroom hcm ?_ ?_ hmine ⟨rfl,rfl,rfl,Nat.le_of_eq size_setRow.symm⟩ (fun k hk hn=>Xj (hne0 k hk hn))
    (fun z hz hl hdz k hk=>?_) (ext _ og) (fun z hz hl hdz=>ext _ fun j hj=>⟨og j hj,fun e=>hI.apart z xv b hz hx hl hlx (only z hz hl hdz) e hgx⟩) (fun j _ hj=>og j (Nat.le_trans (Nat.mul_le_mul_right _ (Nat.le_add_right m n)) hj))
   ·simp only[List.length_append,List.length_take,List.length_drop,hcl,hnl]; omega
   ·intro u hu
    simp only[List.mem_append]at hu
    rcases hu with(hu|hu)|hu
    ·exact hcu u (List.mem_of_mem_take hu)
    ·exact(hnu u hu).1
    ·exact hcu u (List.mem_of_mem_drop hu)
   ·rw[hcur]
    rw[← show(olds++news).length=(m+n)*ti.size by rw[List.length_append,hol,hnl,Nat.add_mul],List.take_left]
   ·have hkb:¬k=b:=fun e=>hI.apart z xv k hz hx hl hlx (only z hz hl hdz) hk (e▸hgx)
    exact⟨Xj hkb,hkb⟩
  ·refine grows (some ⟨b,0,none⟩) cap hsv (by omega) ?_
   refine run_firstCells_some w.drew ti.size m ⟨b,0,none⟩ m cap olds hol fun j u hj=>?_
   rw[Addr.add_mid]
   have hjl:j<m*ti.size:=by
    rw[← hol]
    rcases Nat.lt_or_ge j olds.length with h'|h'
    ·exact h'
    ·rw[List.getElem?_eq_none h']at hj; cases hj
   show w.cell? ⟨b,0+j,none⟩=some u
   rw[Nat.zero_add]
   simp only[World.cell?,hblk]
   rw[← hcur,List.getElem?_take,if_pos hjl]at hj
   simpa using hj
theorem InvB.handed (hI:InvB c V A G L β a w) (hd:Det ms i L) (hwf:WfAt c.N ops V A G i o) {xv yv:Vr} {m sz s:Nat} {p:Qj} (hx:xv∈V) (hsl:xv.slot=s) (ho:Zm ms i xv=true) (hkd:xv.kd=.grow m sz) (hdead:xv.dead=some i) (hy:yv∈V) (hb:yv.born=some i) (hkd2:yv.kd=.grow m sz)
  (hT:yv.T=xv.T) (hal:(A.all fun p=>p.var != yv.id||p.tag.any fun j=>(ms.getD j 0).testBit i)=true) (hst:Jl o.op=false) (hna:Kf o.op=false) (h1:Has ms G i (.tmp s) p) (hp:Post G i p):Inv c V A G (X3 L i) (a.put o.dst (a.eval (.tmp s))) w:=by
 have hlx:=hd.live ho
 have hvx:=(Yu hkd).1 (hI.var xv hx hlx)
 have es:sl a xv.slot=a.eval (.tmp s):=by rw[hsl]; rfl
 have hlo:yv.lo=xv.lo:=by unfold Vr.lo; rw[hkd,hkd2]
 have hdst:=hwf.v2 yv hy hb
 have only:∀z,z∈V→live L z=true→z.dead≠some i→z.id≠xv.id:=fun z hz _ hdz e=>by
  have:=hwf.vu z xv hz hx e
  subst this
  exact hdz hdead
 refine hI.remake hd hwf hy hb hst hna hal (B':=β xv.id) ⟨rfl,rfl,rfl,Nat.le_refl _⟩ (fun _ _ _=>rfl) (fun z hz hl hdz k hk=>⟨rfl,fun e=>hI.apart z xv k hz hx hl hlx (only z hz hl hdz) hk e⟩) (Ext.refl _ _) (fun _ _ _ _=>Ext.refl _ _) (fun k j _ hk hj=>.inr ⟨xv,hx,hlx,hk,hlo▸hj⟩) (fun β' hβ' _ _=>?_) (fun β' hβ' hown _ e he ht'=>?_)
 ·have hs:sl (a.put o.dst (a.eval (.tmp s))) yv.slot=sl a xv.slot:=by rw[hdst,J6 (by rw[hI.size]; exact hwf.sz _ hdst),es]
  refine(Yu hkd2).2 ?_
  rw[hβ']
  rcases hvx with⟨hB,hm0,hsv⟩|⟨b,cap,cur,hB,hsv,hmine,hblk,hr⟩
  ·exact .inl ⟨hB,hm0,hs.trans hsv⟩
  ·exact .inr ⟨b,cap,cur,hB,hs.trans hsv,hmine,by rw[hT]; exact hblk,hr⟩
 ·exact((h1.spec hI hd).sub hown).imp fun w=>hp.spec hwf he ht' w _
theorem Va {m sz s:Nat} {xv yv:Vr} {p:Qj} (k:Nat) (hk:V[k]?=some xv) (hsl:xv.slot=s) (ho:Zm ms i xv=true) (hkd:xv.kd=.grow m sz) (hdead:xv.dead=some i) (k2:Nat) (hk2:V[k2]?=some yv) (hb:yv.born=some i) (hkd2:yv.kd=.grow m sz) (hT:yv.T=xv.T)
  (hal:(A.all fun p=>p.var != yv.id||p.tag.any fun j=>(ms.getD j 0).testBit i)=true) (h1:Has ms G i (.tmp s) p) (hp:Post G i p):Xf P ops ms c V A G i ⟨some d,.move (.tmp s),ty,pos,aft,none⟩:=
 J9 (fun _ _ a w hI hd hwf=>Z5 (v:=a.eval (.tmp s)) (w':=w) rfl (hI.handed hd hwf (List.mem_of_getElem? hk) hsl ho hkd hdead (List.mem_of_getElem? hk2) hb hkd2 hT hal rfl rfl h1 hp)) rfl
theorem Kq {m sz s:Nat} {xv yv:Vr} {p:Qj} (k:Nat) (hk:V[k]?=some xv) (hsl:xv.slot=s) (ho:Zm ms i xv=true) (hkd:xv.kd=.grow m sz) (hdead:xv.dead=some i) (k2:Nat) (hk2:V[k2]?=some yv) (hb:yv.born=some i) (hkd2:yv.kd=.grow m sz) (hT:yv.T=xv.T)
  (hal:(A.all fun p=>p.var != yv.id||p.tag.any fun j=>(ms.getD j 0).testBit i)=true) (h1:Has ms G i (.tmp s) p) (hp:Post G i p):Xf P ops ms c V A G i ⟨some d,.assign (.tmp s),ty,pos,aft,none⟩:=
 J9 (fun _ _ a w hI hd hwf=>Z5 (v:=a.eval (.tmp s)) (w':=w) rfl (hI.handed hd hwf (List.mem_of_getElem? hk) hsl ho hkd hdead (List.mem_of_getElem? hk2) hb hkd2 hT hal rfl rfl h1 hp)) rfl
theorem InvB.nilborn (hI:InvB c V A G L β a w) (hd:Det ms i L) (hwf:WfAt c.N ops V A G i o) {yv:Vr} {sz:Nat} {agg:Bool} {f:Nat→Qj} (hy:yv∈V) (hb:yv.born=some i) (hkd2:yv.kd=.grow 0 sz) (hal:(A.all fun p=>p.var != yv.id||p.tag.any fun j=>(ms.getD j 0).testBit i)=true) (hst:Jl o.op=false) (hna:Kf o.op=false)
  (hp:Post G i (Qg sz agg 0 f)):Inv c V A G (X3 L i) (a.put o.dst (.slice none 0 0)) w:=by
 have hdst:=hwf.v2 yv hy hb
 refine hI.remake hd hwf hy hb hst hna hal (B':=fun _=>False) ⟨rfl,rfl,rfl,Nat.le_refl _⟩ (fun _ _ _=>rfl) (fun _ _ _ _ _ _=>⟨rfl,fun h=>h⟩) (Ext.refl _ _) (fun _ _ _ _=>Ext.refl _ _) (fun _ _ _ h=>h.elim) (fun β' hβ' _ _=>?_) (fun β' hβ' hown _ e he ht'=>?_)
 ·refine(Yu hkd2).2 (.inl ⟨fun k=>by rw[hβ']; exact fun h=>h,rfl,?_⟩)
  rw[hdst,J6 (by rw[hI.size]; exact hwf.sz _ hdst)]
 ·exact fun w'' _=>hp.spec hwf he ht' w'' _ ⟨none,0,rfl,Nat.le_refl _,Nat.zero_le _,fun h=>absurd h (Nat.lt_irrefl 0)⟩
theorem op_nilG {sz:Nat} {agg:Bool} {f:Nat→Qj} {yv:Vr} (k2:Nat) (hk2:V[k2]?=some yv) (hb:yv.born=some i) (hkd2:yv.kd=.grow 0 sz) (hal:(A.all fun p=>p.var != yv.id||p.tag.any fun j=>(ms.getD j 0).testBit i)=true) (hp:Post G i (Qg sz agg 0 f)):
  Xf P ops ms c V A G i ⟨some d,.assign (.const (.slice none 0 0)),ty,pos,aft,none⟩:=
 J9 (fun _ _ _ w hI hd hwf=>Z5 (v:=.slice none 0 0) (w':=w) rfl (hI.nilborn (agg:=agg) (f:=f) hd hwf (List.mem_of_getElem? hk2) hb hkd2 hal rfl rfl hp)) rfl
end
end Wx
