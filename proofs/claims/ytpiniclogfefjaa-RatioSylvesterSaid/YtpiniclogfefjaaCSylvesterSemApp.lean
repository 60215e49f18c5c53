import Derived.Test.YtpiniclogfefjaaCSylvesterSemCopy
namespace Wx
open Go Go.RowKit

def AppOk (H:List Bk) (hv:Value) (l l':List Rat) (r':RowL):Prop:=r'.n=l.length+l'.length∧r'.n≤r'.cap∧r'.cap≤maxLen∧((∃r:RowL,hv=r.hdr∧r'.b=r.b)∨∀e,e∈H→e.b≠r'.b)
def appH (H:List Bk) (b:Nat) (items:List It):List Bk:=⟨b,3,true,items⟩::H.filter fun e=>e.b != b
def pApp (H:List Bk) (hv:Value) (l l':List Rat):Y9:=fun B w v=>∃r':RowL,AppOk H hv l l' r'∧v=r'.hdr∧HpOk B w (appH H r'.b (Qw (l++l') r'.cap))
theorem appH_mem {H:List Bk} {b:Nat} {items:List It}:(⟨b,3,true,items⟩:Bk)∈appH H b items:=List.mem_cons_self ..
theorem Un {H:List Bk} {b:Nat} {items:List It} {e:Bk} (he:e∈H) (hb:e.b≠b):e∈appH H b items:=List.mem_cons_of_mem _ (List.mem_filter.2 ⟨he,by simpa using hb⟩)
theorem HpOk.app {B:Nat→Prop} {M:Nat→Nat→Prop} {w w':World} {H:List Bk} {b:Nat} {items:List It} (h:HpOk B w H) (hM:Mid M w) (he:Ext M w w') (hb:∀k,k<w.heap.size→k≠b→w'.heap[k]?=w.heap[k]?) (hn:(⟨b,3,true,items⟩:Bk).ok w'):HpOk (fun k=>B k∨k=b) w' (appH H b items):=by
 obtain⟨h1,h2,h3⟩:=h
 refine⟨fun k=>⟨?_,?_⟩,List.pairwise_cons.2 ⟨fun e hm=>?_,h2.filter _⟩,fun e hm=>?_⟩
 ·rintro(hk|rfl)
  ·obtain⟨e,hm,rfl⟩:=(h1 k).1 hk
   by_cases hb':e.b=b
   ·exact⟨_,appH_mem,hb'.symm⟩
   ·exact⟨e,Un hm hb',rfl⟩
  ·exact⟨_,appH_mem,rfl⟩
 ·rintro⟨e,hm,rfl⟩
  rcases List.mem_cons.1 hm with rfl|hm
  ·exact .inr rfl
  ·exact .inl ((h1 _).2 ⟨e,(List.mem_filter.1 hm).1,rfl⟩)
 ·have:=(List.mem_filter.1 hm).2
  exact fun e'=>by rw[← e']at this; simp at this
 ·rcases List.mem_cons.1 hm with rfl|hm
  ·exact hn
  ·have hm':=List.mem_filter.1 hm
   exact Bk.ok_keep (h3 e hm'.1) hM he (hb _ (Bk.ok_lt (h3 e hm'.1)) (by simpa using hm'.2))
section
variable {P:Program} {ops:Array Oper} {ms:List Nat} {c:Cfg} {V:List Vr} {A:List Al} {G:List Ent} {i:Nat} {L:Nat→Bool} {β:Nat→Nat→Prop} {a:Act} {w:World} {o:Oper}
variable {d:Nat} {x y z:Operand} {ty:TypeId} {pos:String} {aft:Array Edge}
theorem op_appendH {T tx E:TypeId} {v1 yv:Vr} {H:List Bk} {hv:Value} {l l':List Rat} (k:Nat) (hk:V[k]?=some v1) (ho:Zm ms i v1=true) (hkd:v1.kd=.obj) (hdead:v1.dead=some i) (hst:(v1.st.all fun q=>(q.1==i||(ms.getD i 0).testBit q.1)||(ms.getD q.1 0).testBit i)=true)
  (hc:cont (fun j=>(ms.getD i 0).testBit j) v1.c0 v1.st=Zj H) (k2:Nat) (hk2:V[k2]?=some yv) (hb:yv.born=some i) (hkd2:yv.kd=.obj) (hc0:yv.c0=pApp H hv l l') (hs0:yv.st=[]) (hal:(A.all fun p=>p.var != yv.id||p.tag.any fun j=>(ms.getD j 0).testBit i)=true)
  (h1:Has ms G i x (Qe hv)) (h2:Has ms G i y (Qg 3 true l'.length fun j=>Qk (l'.getD j 0))) (hcase:(hv=.slice none 0 0∧l=[])∨∃r:RowL,hv=r.hdr∧r.n=l.length∧r.n≤r.cap∧r.cap≤maxLen∧(⟨r.b,3,true,Qw l r.cap⟩:Bk)∈H)
  (ht:AppTy P T tx E 3) (hpos:0<l'.length) (hmax:l.length+l'.length≤1073741824) (hp:Post G i Zb):
  Xf P ops ms c V A G i ⟨some d,.call ⟨.builtin .append,#[x,y],#[T,tx]⟩,ty,pos,aft,none⟩:=by
 refine J9 (fun L β a w hI hd hwf=>?_) rfl
 have hx:=List.mem_of_getElem? hk
 have hy:=List.mem_of_getElem? hk2
 have hlx:=hd.live ho
 have hO:=obj_at hI hd hx ho hkd
 have hH:HpOk (β v1.id) w H:=by
  have:=hO.2.out
  rw[Qbh hd hst,hc]at this
  exact this
 have ev1:a.eval x=hv:=(h1.spec hI hd).out
 obtain⟨A2,cap2,news,ev2,hm2,hc2,hnl,hnu,hnc,hnf⟩:=Qdi (agg:=true) (fun h=>by cases h) (fun _ _=>Xb _) (h2.spec hI hd)
 obtain⟨E',htx⟩:=ht.src
 obtain⟨ti,zv,hi,hsz,hz,hzs,hzn,hby⟩:=ht.info
 have hS:Src P ti.size tx (a.eval y) l'.length news w:=by
  rw[ev2,hsz]
  exact src_of htx hnl (fun u hu=>(hnu u hu).2) fun h=>by
   obtain⟨b,o,e,hc⟩:=hnc h
   exact⟨b,o,e,fun j u hj=>(hc j u hj).1⟩
 have only:∀z,z∈V→live L z=true→z.dead≠some i→z.id≠v1.id:=fun z hz _ hdz e=>by
  have:=hwf.vu z v1 hz hx e
  subst this
  exact hdz hdead
 have own1:∀k j,β v1.id k→own c V L β k j:=fun k j hk=>.inr ⟨v1,hx,hlx,hk,by unfold Vr.lo; rw[hkd]; exact Nat.zero_le _⟩
 have close:∀(olds:List Value) (w':World) (blk cap':Nat) (cur':List Value) (T':TypeId),olds.length=l.length*3→(∀i,i<l.length→Qk (l.getD i 0) w (Q6 true ((olds.drop (i*3)).take 3)))→w'.heap[blk]?=some (.cells cur'.toArray T' (0,0))→cap'*3≤cur'.length→l.length+l'.length≤cap'→cap'≤maxLen→(∀u∈cur',Yr u) →
   cur'.take ((l.length+l'.length)*3)=olds++news→((∃r:RowL,hv=r.hdr∧blk=r.b)∨∀e,e∈H→e.b≠blk)→mine c blk→(w'.os=w.os∧w'.tape=w.tape∧w'.output=w.output∧w.heap.size≤w'.heap.size)→(∀k,k<w.heap.size→k≠blk→w'.heap[k]?=w.heap[k]?)→(blk<w.heap.size→β v1.id blk) →
   (Builtin.append_ #[T,tx] ty #[a.eval x,a.eval y]).run P w=.ok (.slice (some ⟨blk,0,none⟩) (l.length+l'.length) cap') w'→Does P ⟨some d,.call ⟨.builtin .append,#[x,y],#[T,tx]⟩,ty,pos,aft,none⟩ a w (Inv c V A G (X3 L i)):=by
  intro olds w' blk cap' cur' T' hol hof hblk hcl hle hmx hnu' htk hwho hmine e0 hsame hβb hrun
  refine Vt hrun ?_
  have hne0:∀k,k<c.w0.heap.size→¬c.lent k→k≠blk:=fun k h1 h2 e=>hmine.elim (fun h3=>by omega) (fun h3=>h2 (e▸h3))
  have ext:∀M:Nat→Nat→Prop,(blk<w.heap.size→∀j,M blk j)→Ext M w w':=fun M hM=>by
   refine⟨e0.2.2.2,fun k hk hno=>hsame k hk fun e=>?_,fun k o v hno hv=>?_⟩
   ·subst e
    exact hno 0 (hM hk 0)
   ·have hk:=World.block_lt_of_cell? w _ hv
    rw[World.cell?_of_block (w:=w) (a:=⟨k,o,none⟩) (hsame k hk fun e=>by subst e; exact hno (hM hk o))]
    exact hv
  have e3:Ext (own c V L β) w w':=ext _ fun hk j=>own1 _ j (hβb hk)
  have hmid:=X8 hI
  have hbk:(⟨blk,3,true,Qw (l++l') cap'⟩:Bk).ok w':=by
   refine⟨cur',T',hblk,?_,hnu',fun q it hq=>?_⟩
   ·show(Qw (l++l') cap').length*3≤cur'.length
    rw[Vc,List.length_append]
    exact Nat.le_trans (Nat.mul_le_mul_right _ (by omega)) hcl
   ·have hq:(Qw (l++l') cap')[q]?=some it:=hq
    rcases Nat.lt_or_ge q (l++l').length with hql|hql
    ·rw[X5 hql]at hq
     injection hq with hq
     subst hq
     rw[List.length_append]at hql
     have hseg:(cur'.drop (q*3)).take 3=((olds++news).drop (q*3)).take 3:=by
      rw[← htk,List.drop_take,List.take_take,show min 3 ((l.length+l'.length)*3-q*3)=3 by omega]
     show Qk ((l++l').getD q 0) w' (Q6 true ((cur'.drop (q*3)).take 3))
     rw[hseg,List.getD_eq_getElem?_getD]
     rcases Nat.lt_or_ge q l.length with h'|h'
     ·rw[List.drop_append_of_le_length (by omega),List.take_append_of_le_length (by rw[List.length_drop]; omega),List.getElem?_append_left h',← List.getD_eq_getElem?_getD]
      exact Xr _ _ w _ hmid (hof q h') w' e3
     ·have e:(olds++news).drop (q*3)=news.drop ((q-l.length)*3):=by
       have:q*3=olds.length+(q-l.length)*3:=by omega
       rw[this,← List.drop_drop,List.drop_left]
      rw[e,List.getElem?_append_right h',← List.getD_eq_getElem?_getD]
      exact hnf (q-l.length) (by omega) w' e3
    ·rw[Qee hql hq]
     trivial
  have hHn:=hH.app hmid e3 hsame hbk
  have hdst:=hwf.v2 yv hy hb
  refine hI.remake hd hwf hy hb rfl rfl hal (B':=fun k=>β v1.id k∨k=blk) e0 (fun k hk hn=>hsame k (Nat.lt_of_lt_of_le hk hI.below.size) (hne0 k hk hn)) (fun z hz hl hdz k hk=>?_) e3 (fun z hz hl hdz=>ext _ fun hk j=>⟨own1 _ j (hβb hk),fun e=>hI.apart z v1 blk hz hx hl hlx (only z hz hl hdz) e (hβb hk)⟩) (fun k j hk hB _=>own1 k j (hB.elim (fun h=>h) fun e=>by subst e; exact hβb hk)) (fun β' hβ' hown hown2=>?_) (fun β' hβ' hown hown2 e he ht=>?_)
  ·have hkb:k≠blk:=fun e=>by
    subst e
    exact hI.apart z v1 k hz hx hl hlx (only z hz hl hdz) hk (hβb (Y5 hI hz hl hk))
   exact⟨hsame k (Y5 hI hz hl hk) hkb,fun h=>h.elim (fun h=>hI.apart z v1 k hz hx hl hlx (only z hz hl hdz) hk h) hkb⟩
  ·refine(Yk hkd2).2 ?_
   rw[hβ']
   have hmid':Mid (own c V (X3 L i) β') w':=by
    intro q j hq
    rcases hown2 q j hq with⟨hB,_⟩|h|⟨z,hz,hl,hdz,hzk⟩
    ·exact⟨(hHn.noU hB).1,fun v hv=>(hHn.noU hB).2 j v hv⟩
    ·obtain⟨⟨k1,k2⟩,k3⟩:=hI.old q j h
     have hq0:=Nat.lt_of_lt_of_le k1 hI.below.size
     refine⟨Nat.lt_of_lt_of_le hq0 e0.2.2.2,fun v hv=>k3 v ?_⟩
     rw[World.cell?_of_block (w:=w) (a:=⟨q,j,none⟩) (hsame q hq0 (hne0 q k1 k2))]at hv
     exact hv
    ·have hq0:=Y5 hI hz hl hzk
     have hkb:q≠blk:=fun e=>by
      subst e
      exact hI.apart z v1 q hz hx hl hlx (only z hz hl hdz) hzk (hβb hq0)
     refine⟨Nat.lt_of_lt_of_le hq0 e0.2.2.2,fun v hv=>(Qbf hI hz hl hzk).2.2 j v ?_⟩
     rw[World.cell?_of_block (w:=w) (a:=⟨q,j,none⟩) (hsame q hq0 hkb)]at hv
     exact hv
   refine⟨fun q hq=>⟨?_,(hHn.noU hq).1,fun o v hv=>(hHn.noU hq).2 o v hv⟩,?_⟩
   ·rcases hq with hq|rfl
    ·exact(hO.1 q hq).1
    ·exact hmine
   ·rw[hs0,hc0]
    refine(hHn.box hmid').imp fun w'' h=>⟨⟨blk,l.length+l'.length,cap'⟩,⟨rfl,hle,hmx,hwho⟩,?_,h⟩
    rw[hdst]
    exact J6 (by rw[hI.size]; exact hwf.sz _ hdst)
  ·exact fun w'' _=>hp.spec hwf he ht w'' _ trivial
 have fresh:∀(olds:List Value) (bs:Option Addr) (sc:Nat),olds.length=l.length*3→(∀u∈olds,Yr u)→(∀i,i<l.length→Qk (l.getD i 0) w (Q6 true ((olds.drop (i*3)).take 3)))→hv=.slice bs l.length sc→sc<l.length+l'.length→(Builtin.firstCells ti.size l.length (.slice bs l.length sc)).run P w.drew=.ok olds.toArray w.drew →
   Does P ⟨some d,.call ⟨.builtin .append,#[x,y],#[T,tx]⟩,ty,pos,aft,none⟩ a w (Inv c V A G (X3 L i)):=by
  intro olds bs sc hol hou hof e hlt hold
  have hrun:=run_append_grow_src (P:=P) w T tx ty E ti zv ht.under hi hz bs l.length sc olds hold (a.eval y) l'.length news hS hlt (by omega) (growslice_fits hlt (by
   have:(l.length+l'.length)*ti.bytes≤1073741824*4096:=Nat.mul_le_mul hmax hby
   omega))
  have hge:=grownCap_ge w (l.length+l'.length) sc E
  have hzl:∀q,(Builtin.zeroCells zv.cells q).toList.length=q*3:=fun q=>by rw[Array.length_toList,size_zeroCells,hzs]
  have hb0:Below w.heap.size w (w.drew.alloc (.cells (olds++news++(Builtin.zeroCells zv.cells (grownCap w (l.length+l'.length) sc E-(l.length+l'.length))).toList).toArray E)):=Below.alloc (Below.drew (Below.refl _ _)) (Nat.le_refl _) _
  refine close olds (w.drew.alloc (.cells (olds++news++(Builtin.zeroCells zv.cells (grownCap w (l.length+l'.length) sc E-(l.length+l'.length))).toList).toArray E)) w.heap.size (grownCap w (l.length+l'.length) sc E) _ E hol hof (heap_alloc_new w.drew _) ?_ hge (grownCap_le_maxLen w (l.length+l'.length) sc E (by unfold maxLen; omega)) ?_ ?_ (.inr fun e he=>Nat.ne_of_lt (Bk.ok_lt (hH.2.2 e he))) (.inl hI.below.size) ⟨hb0.os,hb0.tape,hb0.output,hb0.size⟩ (fun k hk _=>hb0.block k hk) (fun h=>absurd h (Nat.lt_irrefl _)) ?_
  ·rw[List.length_append,List.length_append,hol,hnl,hzl,← Nat.add_mul,← Nat.add_mul]
   exact Nat.mul_le_mul_right _ (by omega)
  ·intro u hu
   rcases List.mem_append.1 hu with hu|hu
   ·rcases List.mem_append.1 hu with hu|hu
    ·exact hou u hu
    ·exact(hnu u hu).1
   ·exact Qa0 hzn _ u hu
  ·rw[← show(olds++news).length=(l.length+l'.length)*3 by rw[List.length_append,hol,hnl,Nat.add_mul],List.take_left]
  ·rw[ev1,e,hrun]
   congr 3
   apply Array.ext'
   simp
 rcases hcase with⟨e,e2⟩|⟨r,e,hrn,hrc,hrm,hme⟩
 ·subst e2
  exact fresh [] none 0 rfl (fun u hu=>by cases hu) (fun i hi=>absurd hi (Nat.not_lt_zero _)) e (by omega) (run_firstCells_none w.drew ti.size 0 0 0)
 ·obtain⟨cs,T',g1,g2,g3,g4⟩:=hH.2.2 _ hme
  have g1:w.heap[r.b]?=some (.cells cs.toArray T' (0,0)):=g1
  have g2:(Qw l r.cap).length*3≤cs.length:=g2
  rw[Vc,← hrn,show max r.n r.cap=r.cap by omega]at g2
  have hl3:l.length*3≤cs.length:=by omega
  have hol:(cs.take (l.length*3)).length=l.length*3:=by rw[List.length_take]; omega
  have hof:∀i,i<l.length→Qk (l.getD i 0) w (Q6 true (((cs.take (l.length*3)).drop (i*3)).take 3)):=fun i hi=>by
   have:=g4 i _ (X5 hi)
   have this:Qk (l.getD i 0) w (Q6 true ((cs.drop (i*3)).take 3)):=this
   rw[List.drop_take,List.take_take,show min 3 (l.length*3-i*3)=3 by omega]
   exact this
  have hbβ:β v1.id r.b:=(hH.1 _).2 ⟨_,hme,rfl⟩
  by_cases hroom:l.length+l'.length≤r.cap
  ·have hsome:∀j,j<news.length→(w.cell? ⟨r.b,0+l.length*ti.size+j,none⟩).isSome=true:=by
    intro j hj
    simp only[World.cell?,g1]
    rw[List.getElem?_toArray,List.getElem?_eq_getElem (by rw[hsz]; omega)]
    rfl
   have hfz:∀j,j<news.length→w.frozen? ⟨r.b,0+l.length*ti.size+j,none⟩=false:=by
    intro j hj
    simp[World.frozen?,g1]
   have hrun:=run_append_room_src (P:=P) w T tx ty E ti ht.under hi r.b 0 l.length r.cap (a.eval y) l'.length news hS hroom hsome hfz
   have Xs:w.setCells r.b (0+l.length*ti.size) news=w.setRow r.b (cs.take (l.length*3)++news++cs.drop (l.length*3+news.length)).toArray:=by
    have r1:=run_storeCells_cells (P:=P) r.b (0+l.length*ti.size) news 0 w (by simpa using hsome) (by simpa using hfz) fun u hu=>(hnu u hu).2
    have r2:=run_storeCells_at P r.b (0+l.length*ti.size) T' news 0 cs.toArray w g1 (by simp[hsz]; omega) fun u hu=>(hnu u hu).2
    rw[r1]at r2
    injection r2 with _ r2
    simpa [hsz] using r2
   rw[Xs]at hrun
   refine close (cs.take (l.length*3)) _ r.b r.cap (cs.take (l.length*3)++news++cs.drop (l.length*3+news.length)) T' hol hof (setRow_heap w _ _ _ _ _ g1) ?_ hroom hrm ?_ ?_ (.inl ⟨r,e,rfl⟩) (hO.1 _ hbβ).1 ⟨rfl,rfl,rfl,Nat.le_of_eq size_setRow.symm⟩ (fun k _ hne=>Xj hne) (fun _=>hbβ) ?_
   ·simp only[List.length_append,List.length_take,List.length_drop,hnl]; omega
   ·intro u hu
    simp only[List.mem_append]at hu
    rcases hu with(hu|hu)|hu
    ·exact g3 u (List.mem_of_mem_take hu)
    ·exact(hnu u hu).1
    ·exact g3 u (List.mem_of_mem_drop hu)
   ·rw[← show(cs.take (l.length*3)++news).length=(l.length+l'.length)*3 by rw[List.length_append,hol,hnl,Nat.add_mul],List.take_left]
   ·rw[ev1,e,show r.hdr=.slice (some ⟨r.b,0,none⟩) l.length r.cap by unfold RowL.hdr; rw[hrn]]
    exact hrun
  ·refine fresh (cs.take (l.length*3)) (some ⟨r.b,0,none⟩) r.cap hol (fun u hu=>g3 u (List.mem_of_mem_take hu)) hof (by rw[e]; unfold RowL.hdr; rw[hrn]) (by omega) ?_
   rw[hsz]
   refine run_firstCells_some w.drew 3 l.length ⟨r.b,0,none⟩ l.length r.cap (cs.take (l.length*3)) hol fun j u hj=>?_
   rw[Addr.add_mid]
   show w.cell? ⟨r.b,0+j,none⟩=some u
   rw[Nat.zero_add]
   simp only[World.cell?,g1]
   rw[List.getElem?_take]at hj
   split at hj
   ·simpa using hj
   ·cases hj
theorem InvB.remakeO (hI:InvB c V A G L β a w) (hd:Det ms i L) (hwf:WfAt c.N ops V A G i o) {yv:Vr} (hy:yv∈V) (hb:yv.born=some i) (hkd2:yv.kd=.obj) (hst:Jl o.op=false) (hna:Kf o.op=false) (hal:(A.all fun p=>p.var != yv.id||p.tag.any fun j=>(ms.getD j 0).testBit i)=true)
  {v':Value} {w':World} {B':Nat→Prop} {Hn:List Bk} (e0:w'.os=w.os∧w'.tape=w.tape∧w'.output=w.output∧w.heap.size≤w'.heap.size)
  (e1:∀k,k<c.w0.heap.size→¬c.lent k→w'.heap[k]?=w.heap[k]?)
  (e2:∀z,z∈V→live L z=true→z.dead≠some i→∀k,β z.id k→w'.heap[k]?=w.heap[k]?∧¬B' k)
  (e3:Ext (own c V L β) w w') (e4:∀z,z∈V→live L z=true→z.dead≠some i→Ext (Jo (own c V L β) (β z.id)) w w')
  (e5:∀k j,k<w.heap.size→B' k→own c V L β k j) (hnew:∀k,B' k→mine c k) (hHn:HpOk B' w' Hn) (hs0:yv.st=[]) (hrel:∀w'',HpOk B' w'' Hn→yv.c0 B' w'' v') (hG:∀e,e∈G→e.tag=some i→∀w,e.p w v'):
  Inv c V A G (X3 L i) (a.put o.dst v') w':=by
 have hdst:=hwf.v2 yv hy hb
 refine hI.remake hd hwf hy hb hst hna hal (B':=B') e0 e1 e2 e3 e4 (fun k j hk hB _=>e5 k j hk hB) (fun β' hβ' hown hown2=>?_) (fun β' hβ' hown hown2 e he ht=>fun w'' _=>hG e he ht w'')
 refine(Yk hkd2).2 ?_
 rw[hβ']
 have hmid':Mid (own c V (X3 L i) β') w':=by
  intro q j hq
  rcases hown2 q j hq with⟨hB,_⟩|h|⟨z,hz,hl,hdz,hzk⟩
  ·exact⟨(hHn.noU hB).1,fun v hv=>(hHn.noU hB).2 j v hv⟩
  ·obtain⟨⟨k1,k2⟩,k3⟩:=hI.old q j h
   have hq0:=Nat.lt_of_lt_of_le k1 hI.below.size
   refine⟨Nat.lt_of_lt_of_le hq0 e0.2.2.2,fun v hv=>k3 v ?_⟩
   rw[World.cell?_of_block (w:=w) (a:=⟨q,j,none⟩) (e1 q k1 k2)]at hv
   exact hv
  ·have hq0:=Y5 hI hz hl hzk
   refine⟨Nat.lt_of_lt_of_le hq0 e0.2.2.2,fun v hv=>(Qbf hI hz hl hzk).2.2 j v ?_⟩
   rw[World.cell?_of_block (w:=w) (a:=⟨q,j,none⟩) (e2 z hz hl hdz q hzk).1]at hv
   exact hv
 refine⟨fun q hq=>⟨hnew q hq,(hHn.noU hq).1,fun o v hv=>(hHn.noU hq).2 o v hv⟩,?_⟩
 rw[hs0]
 refine(hHn.box hmid').imp fun w'' h=>?_
 show yv.c0 B' w'' (sl (a.put o.dst v') yv.slot)
 rw[hdst,J6 (by rw[hI.size]; exact hwf.sz _ hdst)]
 exact hrel w'' h
def pMade (sz:Nat) (agg:Bool) (n:Nat) (it:It):Y9:=fun B w v=>∃g:Nat,True∧v=.slice (some ⟨g,0,none⟩) n n∧HpOk B w [⟨g,sz,agg,List.replicate n it⟩]
theorem made_seg {z:List Value} {sz n i:Nat} (hz:z.length=sz) (hi:i<n):(((madeCells z.toArray (n*sz)).toList.drop (i*sz)).take sz)=z:=by
 have hle:(i+1)*sz≤n*sz:=Nat.mul_le_mul_right _ hi
 rw[Nat.add_mul,Nat.one_mul]at hle
 apply List.ext_getElem?
 intro j
 rw[List.getElem?_take]
 split
 ·rename_i hj
  rw[List.getElem?_drop,Array.getElem?_toList]
  have hlt:i*sz+j<(madeCells z.toArray (n*sz)).size:=by simp[madeCells]; omega
  rw[Array.getElem?_eq_getElem hlt]
  simp only[madeCells,Array.getElem_map,Array.getElem_range,List.size_toArray,hz]
  rw[show(i*sz+j)%sz=j by rw[Nat.mul_comm,Nat.mul_add_mod,Nat.mod_eq_of_lt hj]]
  have hj2:j<z.length:=by omega
  rw[getElem!_pos z.toArray j (by simpa using hj2),List.getElem?_eq_getElem hj2]
  simp
 ·rename_i hj
  rw[List.getElem?_eq_none (by omega)]
theorem Qdt {T E:TypeId} {sz n:Nat} {agg:Bool} {it:It} {zv:Value} {z:List Value} {yv:Vr} (k2:Nat) (hk2:V[k2]?=some yv) (hb:yv.born=some i) (hkd2:yv.kd=.obj) (hc0:yv.c0=pMade sz agg n it) (hs0:yv.st=[]) (hal:(A.all fun p=>p.var != yv.id||p.tag.any fun j=>(ms.getD j 0).testBit i)=true)
  (h1:Has ms G i x (pI n)) (h2:Has ms G i y (pI n)) (ht:P.underlying T=some (.slice E)) (hi:(P.info? E).map (fun i=>(i.zero,i.size,decide (i.bytes≤4096)))=some (some zv,sz,true)) (hzc:zv.cells=z.toArray) (hzl:z.length=sz) (hs:0<sz) (hzu:∀u∈z,Yr u) (hit:∀w,it.p w (Q6 agg z)) (hn:n≤1000000) (hp:Post G i Zb):
  Xf P ops ms c V A G i ⟨some d,.makeSlice T x y,ty,pos,aft,none⟩:=by
 refine J9 (fun L β a w hI hd hwf=>?_) rfl
 have hy:=List.mem_of_getElem? hk2
 obtain⟨ti,h3,hzz⟩:=Option.map_eq_some_iff.1 hi
 simp only[Prod.mk.injEq,decide_eq_true_eq]at hzz
 obtain⟨hz,hsz,hby⟩:=hzz
 have ex:a.eval x=.int .i64 n:=(h1.spec hI hd).out
 have ey:a.eval y=.int .i64 n:=(h2.spec hI hd).out
 have hbytes:(ti.bytes:Int)*(n:Int)≤281474976710656:=by
  have:ti.bytes*n≤4096*1000000:=Nat.mul_le_mul hby hn
  have:((ti.bytes*n:Nat):Int)≤4096000000:=by omega
  rw[Int.natCast_mul]at this
  omega
 have hrun:=run_make (P:=P) w T E ti zv ht h3 hz .i64 .i64 (n:Int) (n:Int) (by omega) (Int.le_refl _) hbytes (by omega)
 rw[hsz,hzc,Int.toNat_natCast]at hrun
 have hcell:madeCells z.toArray (n*sz)=((madeCells z.toArray (n*sz)).toList).toArray:=by simp
 rw[hcell]at hrun
 have hb0:Below w.heap.size w (w.alloc (.cells ((madeCells z.toArray (n*sz)).toList).toArray E)):=Below.alloc (Below.refl _ _) (Nat.le_refl _) _
 refine Z5 (v:=.slice (some ⟨w.heap.size,0,none⟩) n n) (w':=w.alloc (.cells ((madeCells z.toArray (n*sz)).toList).toArray E)) ?_ ?_
 ·show(do pure (Next.value (← Instr.makeSlice T (a.eval x) (a.eval y)))).run P w=_
  rw[ex,ey,Sem.run_bind,hrun]
  rfl
 ·refine hI.remakeO hd hwf hy hb hkd2 rfl rfl hal (B':=fun k=>k=w.heap.size) (Hn:=[⟨w.heap.size,sz,agg,List.replicate n it⟩]) ⟨hb0.os,hb0.tape,hb0.output,hb0.size⟩ (fun k hk _=>hb0.block k (Nat.lt_of_lt_of_le hk hI.below.size)) (fun z hz hl _ k hk=>⟨hb0.block k (Y5 hI hz hl hk),fun e=>absurd e (Nat.ne_of_lt (Y5 hI hz hl hk))⟩) (Ext.of_below hb0) (fun z hz hl _=>Ext.of_below hb0) (fun k j hk e=>absurd e (Nat.ne_of_lt hk)) (fun k e=>.inl (by rw[e]; exact hI.below.size)) ⟨fun k=>?_,List.pairwise_singleton _ _,fun e he=>?_⟩ hs0 (fun w'' h=>by rw[hc0]; exact⟨_,trivial,rfl,h⟩) (fun e he ht' w''=>hp.spec hwf he ht' w'' _ trivial)
  ·exact⟨fun e=>⟨_,List.mem_singleton.2 rfl,e.symm⟩,fun⟨e,he,hk⟩=>by rw[List.mem_singleton.1 he]at hk; exact hk.symm⟩
  ·rw[List.mem_singleton.1 he]
   refine⟨_,E,heap_alloc_new w _,?_,fun v hv=>?_,fun q it' hq=>?_⟩
   ·show(List.replicate n it).length*sz≤_
    rw[List.length_replicate,Array.length_toList]
    simp[madeCells]
   ·obtain⟨q,hq⟩:=List.mem_iff_getElem?.1 hv
    rw[Array.getElem?_toList]at hq
    simp only[madeCells,Array.getElem?_map,Option.map_eq_some_iff]at hq
    obtain⟨q',_,rfl⟩:=hq
    have hlt:q'%z.toArray.size<z.toArray.size:=Nat.mod_lt _ (by simp; omega)
    rw[getElem!_pos z.toArray _ hlt]
    exact hzu _ (by simp)
   ·have hq:(List.replicate n it)[q]?=some it':=hq
    have hqn:q<n:=by
     rcases Nat.lt_or_ge q n with h|h
     ·exact h
     ·rw[List.getElem?_eq_none (by simpa using h)]at hq; cases hq
    rw[List.eq_of_mem_replicate (List.mem_of_getElem? hq)]
    show it.p _ (Q6 agg (((madeCells z.toArray (n*sz)).toList.drop (q*sz)).take sz))
    rw[made_seg hzl hqn]
    exact hit _
theorem op_makeSliceH {T E:TypeId} {n:Nat} {zv:Value} {z:List Value} {v1 yv:Vr} {H:List Bk} (k:Nat) (hk:V[k]?=some v1) (ho:Zm ms i v1=true) (hkd:v1.kd=.obj) (hdead:v1.dead=some i) (hst:(v1.st.all fun q=>(q.1==i||(ms.getD i 0).testBit q.1)||(ms.getD q.1 0).testBit i)=true)
  (hc:cont (fun j=>(ms.getD i 0).testBit j) v1.c0 v1.st=Zj H) (k2:Nat) (hk2:V[k2]?=some yv) (hb:yv.born=some i) (hkd2:yv.kd=.obj) (hc0:yv.c0=pApp H (.slice none 0 0) [] (List.replicate n 0)) (hs0:yv.st=[]) (hal:(A.all fun p=>p.var != yv.id||p.tag.any fun j=>(ms.getD j 0).testBit i)=true)
  (h1:Has ms G i x (pI n)) (h2:Has ms G i y (pI n)) (ht:P.underlying T=some (.slice E)) (hi:(P.info? E).map (fun i=>(i.zero,i.size,decide (i.bytes≤4096)))=some (some zv,3,true)) (hzc:zv.cells=z.toArray) (hzl:z.length=3) (hzu:∀u∈z,Yr u) (hit:∀w,Qk 0 w (Q6 true z)) (hn:n≤1000000) (hp:Post G i Zb):
  Xf P ops ms c V A G i ⟨some d,.makeSlice T x y,ty,pos,aft,none⟩:=by
 refine J9 (fun L β a w hI hd hwf=>?_) rfl
 have hx:=List.mem_of_getElem? hk
 have hy:=List.mem_of_getElem? hk2
 have hlx:=hd.live ho
 have hO:=obj_at hI hd hx ho hkd
 have hH:HpOk (β v1.id) w H:=by
  have:=hO.2.out
  rw[Qbh hd hst,hc]at this
  exact this
 obtain⟨ti,h3,hzz⟩:=Option.map_eq_some_iff.1 hi
 simp only[Prod.mk.injEq,decide_eq_true_eq]at hzz
 obtain⟨hz,hsz,hby⟩:=hzz
 have ex:a.eval x=.int .i64 n:=(h1.spec hI hd).out
 have ey:a.eval y=.int .i64 n:=(h2.spec hI hd).out
 have hbytes:(ti.bytes:Int)*(n:Int)≤281474976710656:=by
  have:ti.bytes*n≤4096*1000000:=Nat.mul_le_mul hby hn
  have:((ti.bytes*n:Nat):Int)≤4096000000:=by omega
  rw[Int.natCast_mul]at this
  omega
 have hrun:=run_make (P:=P) w T E ti zv ht h3 hz .i64 .i64 (n:Int) (n:Int) (by omega) (Int.le_refl _) hbytes (by omega)
 rw[hsz,hzc,Int.toNat_natCast]at hrun
 have hcell:madeCells z.toArray (n*3)=((madeCells z.toArray (n*3)).toList).toArray:=by simp
 rw[hcell]at hrun
 have hb0:Below w.heap.size w (w.alloc (.cells ((madeCells z.toArray (n*3)).toList).toArray E)):=Below.alloc (Below.refl _ _) (Nat.le_refl _) _
 have only:∀z,z∈V→live L z=true→z.dead≠some i→z.id≠v1.id:=fun z hz _ hdz e=>by
  have:=hwf.vu z v1 hz hx e
  subst this
  exact hdz hdead
 have own1:∀k j,β v1.id k→own c V L β k j:=fun k j hk=>.inr ⟨v1,hx,hlx,hk,by unfold Vr.lo; rw[hkd]; exact Nat.zero_le _⟩
 have hnew:(⟨w.heap.size,3,true,Qw (List.replicate n 0) n⟩:Bk).ok (w.alloc (.cells ((madeCells z.toArray (n*3)).toList).toArray E)):=by
  refine⟨_,E,heap_alloc_new w _,?_,fun v hv=>?_,fun q it' hq=>?_⟩
  ·show(Qw (List.replicate n 0) n).length*3≤_
   rw[Vc,List.length_replicate,Array.length_toList]
   simp[madeCells]
  ·obtain⟨q,hq⟩:=List.mem_iff_getElem?.1 hv
   rw[Array.getElem?_toList]at hq
   simp only[madeCells,Array.getElem?_map,Option.map_eq_some_iff]at hq
   obtain⟨q',_,rfl⟩:=hq
   have hlt:q'%z.toArray.size<z.toArray.size:=Nat.mod_lt _ (by simp; omega)
   rw[getElem!_pos z.toArray _ hlt]
   exact hzu _ (by simp)
  ·have hq:(Qw (List.replicate n 0) n)[q]?=some it':=hq
   rcases Nat.lt_or_ge q n with hqn|hqn
   ·rw[X5 (by rw[List.length_replicate]; exact hqn)]at hq
    injection hq with hq
    subst hq
    have e0:(List.replicate n (0:Rat)).getD q 0=0:=by
     rw[List.getD_eq_getElem?_getD,List.getElem?_replicate]
     split<;>rfl
    show Qk ((List.replicate n (0:Rat)).getD q 0) _ (Q6 true (((madeCells z.toArray (n*3)).toList.drop (q*3)).take 3))
    rw[made_seg hzl hqn,e0]
    exact hit _
   ·rw[Qee (by rw[List.length_replicate]; exact hqn) hq]
    trivial
 have hHn:=hH.app (X8 hI) (Ext.of_below hb0) (fun k hk _=>hb0.block k hk) hnew
 refine Z5 (v:=.slice (some ⟨w.heap.size,0,none⟩) n n) (w':=w.alloc (.cells ((madeCells z.toArray (n*3)).toList).toArray E)) ?_ ?_
 ·show(do pure (Next.value (← Instr.makeSlice T (a.eval x) (a.eval y)))).run P w=_
  rw[ex,ey,Sem.run_bind,hrun]
  rfl
 ·refine hI.remakeO hd hwf hy hb hkd2 rfl rfl hal (B':=fun k=>β v1.id k∨k=w.heap.size) ⟨hb0.os,hb0.tape,hb0.output,hb0.size⟩ (fun k hk _=>hb0.block k (Nat.lt_of_lt_of_le hk hI.below.size)) (fun z hz hl hdz k hk=>⟨hb0.block k (Y5 hI hz hl hk),fun h=>h.elim (fun h=>hI.apart z v1 k hz hx hl hlx (only z hz hl hdz) hk h) fun e=>absurd e (Nat.ne_of_lt (Y5 hI hz hl hk))⟩) (Ext.of_below hb0) (fun z hz hl _=>Ext.of_below hb0) (fun k j hk hB=>hB.elim (own1 k j) fun e=>absurd e (Nat.ne_of_lt hk)) (fun k hB=>hB.elim (fun h=>(hO.1 k h).1) fun e=>.inl (by rw[e]; exact hI.below.size)) hHn hs0 (fun w'' h=>by
   rw[hc0]
   exact⟨⟨w.heap.size,n,n⟩,⟨by rw[List.length_replicate]; simp,Nat.le_refl _,by show n≤maxLen; unfold maxLen; omega,.inr fun e he=>Nat.ne_of_lt (Bk.ok_lt (hH.2.2 e he))⟩,rfl,h⟩) (fun e he ht' w''=>hp.spec hwf he ht' w'' _ trivial)
theorem bin_rem {xt:TypeId} {k:IntKind} {a b:Int} (h:b≠0) (w:World):(Go.binOp .rem xt (.int k a) (.int k b)).run P w=.ok (.int k (a.tmod b)) w:=by
 have e:Go.binOp .rem xt (.int k a) (.int k b)=Op.intDiv .rem k a b:=by
  show(if k≠k then _ else _)=_
  rw[if_neg (by simp)]
 rw[e]
 unfold Op.intDiv
 rw[if_neg h]
 rfl
theorem Inv.openO {Λ:Type} {C:Λ→Prop} {hd:Λ→Value} {Hl:Λ→List Bk} {id s n0 T n:Nat} {ag:Bool} (h:Inv c V [] G Qf a w) (hk:V[n0]?=some ⟨id,s,none,none,.obj,T,n,ag,fun B w v=>∃l,C l∧v=hd l∧HpOk B w (Hl l),[]⟩) (hinj:∀l l',hd l=hd l'→l=l')
  (hu:(V.filter fun y=>y.id==id).length=1):∃l,C l∧Inv c (V.set n0 (Xu id s (Hl l))) [] (⟨none,none,s,Qe (hd l)⟩::G) Qf a w:=by
 obtain⟨β,h⟩:=h
 have hx:=List.mem_of_getElem? hk
 obtain⟨h1,h2⟩:=(Yk rfl).1 (h.var _ hx rfl)
 obtain⟨l,k1,k2,k3⟩:=h2.out
 refine⟨l,k1,β,h.size,h.defers,h.below,h.old,?_,?_,(fun p hp=>by cases hp),?_⟩
 all_goals
  have hkl:n0<V.length:=by
   rcases Nat.lt_or_ge n0 V.length with h'|h'
   ·exact h'
   ·rw[List.getElem?_eq_none h']at hk; cases hk
  have hsub:∀y,y∈V.set n0 (Xu id s (Hl l))→y=Xu id s (Hl l)∨(y∈V∧y.id≠id):=fun y hy=>by
   obtain⟨j,hj⟩:=List.mem_iff_getElem?.1 hy
   by_cases hjk:j=n0
   ·subst hjk
    rw[List.getElem?_set_self hkl]at hj
    exact .inl (Option.some.inj hj).symm
   ·rw[List.getElem?_set_ne (Ne.symm hjk)]at hj
    have hyV:=List.mem_of_getElem? hj
    by_cases hid:y.id=id
    ·exfalso
     have e:=Zr hu hyV hx (by simpa using hid) (by simp)
     subst e
     have hge:((V.filter fun y=>y.id==id).length)≥2:=by
      have hsl:[(⟨id,s,none,none,.obj,T,n,ag,fun B w v=>∃l,C l∧v=hd l∧HpOk B w (Hl l),[]⟩:Vr),⟨id,s,none,none,.obj,T,n,ag,fun B w v=>∃l,C l∧v=hd l∧HpOk B w (Hl l),[]⟩].Sublist V:=by
       rcases Nat.lt_or_ge j n0 with hlt|hge
       ·exact Qac hj hk hlt
       ·exact Qac hk hj (by omega)
      have:=(hsl.filter fun y=>y.id==id).length_le
      simpa using this
     omega
    ·exact .inr ⟨hyV,hid⟩
  have eo:∀k o,own c (V.set n0 (Xu id s (Hl l))) Qf β k o→own c V Qf β k o:=by
   rintro k o (h1|⟨y,hy,h1,h2,h3⟩)
   ·exact .inl h1
   ·rcases hsub y hy with rfl|⟨hy,_⟩
    ·exact .inr ⟨_,hx,rfl,h2,Nat.zero_le _⟩
    ·exact .inr ⟨y,hy,h1,h2,h3⟩
 ·intro y hy hl
  rcases hsub y hy with rfl|⟨hy,_⟩
  ·refine(Yk rfl).2 ⟨h1,fun w'' he=>?_⟩
   obtain⟨l',_,e2,e3⟩:=h2 w'' (he.mono' fun k o hh=>⟨eo k o hh.1,hh.2⟩)
   have e2:sl a s=hd l':=e2
   have k2:sl a s=hd l:=k2
   have:l'=l:=hinj _ _ (e2.symm.trans k2)
   subst this
   exact e3
  ·exact(h.var y hy hl).keep rfl rfl (fun _ _=>rfl) (Nat.le_refl _) (fun F hF=>hF.sub fun k o _=>eo k o) (fun F hF=>hF.sub fun k o _ hh=>⟨eo k o hh.1,hh.2⟩) rfl
 ·intro y z g hy hz h1 h2 hne
  rcases hsub y hy with rfl|⟨hy,h5⟩<;>rcases hsub z hz with rfl|⟨hz,h7⟩
  ·exact absurd rfl hne
  ·have:=h.apart _ z g hx hz rfl h2 (fun e=>h7 e.symm)
   exact this
  ·have:=h.apart y _ g hy hx h1 rfl h5
   exact this
  ·exact h.apart y z g hy hz h1 h2 hne
 ·intro e he ho hf
  rcases List.mem_cons.1 he with rfl|he
  ·exact fun _ _=>k2
  ·exact(h.ent e he ho hf).sub fun k o _ hh=>eo k o hh
theorem hdr_inj (r r':RowL) (h:r.hdr=r'.hdr):r=r':=by
 unfold RowL.hdr at h
 injection h with h1 h2 h3
 injection h1 with h1
 injection h1 with h1
 cases r
 cases r'
 simp only at h1 h2 h3
 rw[h1,h2,h3]
theorem Inv.openApp {H:List Bk} {hv:Value} {l l':List Rat} {id s:Nat} (h:Inv c V [] G Qf a w) (n0:Nat) (hk:V[n0]?=some ⟨id,s,none,none,.obj,0,0,false,pApp H hv l l',[]⟩) (hu:(V.filter fun y=>y.id==id).length=1):
  ∃r':RowL,AppOk H hv l l' r'∧Inv c (V.set n0 (Xu id s (appH H r'.b (Qw (l++l') r'.cap)))) [] (⟨none,none,s,Qe r'.hdr⟩::G) Qf a w:=
 Inv.openO (C:=AppOk H hv l l') (hd:=RowL.hdr) (Hl:=fun r'=>appH H r'.b (Qw (l++l') r'.cap)) h hk hdr_inj hu
theorem Inv.openMade {sz n:Nat} {agg:Bool} {it:It} {id s:Nat} (h:Inv c V [] G Qf a w) (n0:Nat) (hk:V[n0]?=some ⟨id,s,none,none,.obj,0,0,false,pMade sz agg n it,[]⟩) (hu:(V.filter fun y=>y.id==id).length=1):
  ∃g:Nat,True∧Inv c (V.set n0 (Xu id s [⟨g,sz,agg,List.replicate n it⟩])) [] (⟨none,none,s,Qe (.slice (some ⟨g,0,none⟩) n n)⟩::G) Qf a w:=
 Inv.openO (C:=fun _:Nat=>True) (hd:=fun g=>.slice (some ⟨g,0,none⟩) n n) (Hl:=fun g=>[⟨g,sz,agg,List.replicate n it⟩]) h hk (fun g g' h=>by
  injection h with h
  injection h with h
  injection h) hu
theorem Inv.reobj {id s n0:Nat} {H:List Bk} (id' s':Nat) (h:Inv c V [] G Qf a w) (hk:V[n0]?=some (Xu id s H)) (hf:(V.all fun y=>y.id != id')=true) (hu:((V.set n0 (Xu id' s' H)).all fun y=>y.id != id)=true):Inv c (V.set n0 (Xu id' s' H)) [] G Qf a w:=by
 obtain⟨β,h⟩:=h
 let β':Nat→Nat→Prop:=fun s=>if s=id' then β id else β s
 have hx:=List.mem_of_getElem? hk
 have hsub:∀y,y∈V.set n0 (Xu id' s' H)→y=Xu id' s' H∨(y∈V∧y.id≠id'∧y.id≠id):=fun y hy=>by
  rw[List.all_eq_true]at hf hu
  rcases List.mem_or_eq_of_mem_set hy with h'|h'
  ·exact .inr ⟨h',by simpa using hf y h',by simpa using hu y hy⟩
  ·exact .inl h'
 have bx:β' id'=β id:=if_pos rfl
 have bo:∀y:Vr,y.id≠id'→β' y.id=β y.id:=fun y hy=>if_neg hy
 have eo:∀k o,own c (V.set n0 (Xu id' s' H)) Qf β' k o→own c V Qf β k o:=by
  rintro k o (h1|⟨y,hy,h1,h2,h3⟩)
  ·exact .inl h1
  ·rcases hsub y hy with rfl|⟨hy,h4,_⟩
   ·exact .inr ⟨_,hx,h1,bx▸h2,h3⟩
   ·rw[bo y h4]at h2
    exact .inr ⟨y,hy,h1,h2,h3⟩
 refine⟨β',h.size,h.defers,h.below,h.old,fun y hy hl=>?_,fun y z g hy hz h1 h2 hne=>?_,(fun p hp=>by cases hp),fun e he h1 h2=>(h.ent e he h1 h2).sub fun k o _=>eo k o⟩
 ·rcases hsub y hy with rfl|⟨hy,h4,_⟩
  ·obtain⟨k1,k2⟩:=(Yk rfl).1 (h.var _ hx hl)
   refine(Yk rfl).2 ?_
   show ObjOk _ c Qf a w _ (β' id')
   rw[bx]
   exact⟨k1,k2.sub fun k o _ hh=>⟨eo k o hh.1,hh.2⟩⟩
  ·exact(h.var y hy hl).keep rfl (bo y h4) (fun _ _=>rfl) (Nat.le_refl _) (fun F hF=>hF.sub fun k o _=>eo k o) (fun F hF=>hF.sub fun k o _ hh=>⟨eo k o hh.1,hh.2⟩) rfl
 ·rcases hsub y hy with rfl|⟨hy,h4,h5⟩<;>rcases hsub z hz with rfl|⟨hz,h6,h7⟩
  ·exact absurd rfl hne
  ·intro k1 k2
   have k1:β' id' g:=k1
   rw[bx]at k1
   rw[bo z h6]at k2
   exact h.apart _ z g hx hz rfl h2 (Ne.symm h7) k1 k2
  ·intro k1 k2
   have k2:β' id' g:=k2
   rw[bx]at k2
   rw[bo y h4]at k1
   exact h.apart y _ g hy hx h1 rfl h5 k1 k2
  ·rw[bo y h4,bo z h6]
   exact h.apart y z g hy hz h1 h2 hne
variable {fn:Func}
theorem finObj1 {N id s n0:Nat} {w0:World} {M:Nat→Nat→Prop} {H:List Bk} {r:ResultVar} {hd:Value} {p:Qj} (hI:Inv ⟨N,w0,M,fun _=>False⟩ V [] G Qf a w) (hr:fn.results=#[r]) (hk:V[n0]?=some (Xu id s H)) (h:ResOk P V G r (Qe hd)) (hF:∀B w,HpOk B w H→p w hd):bodyPost P fn (RetB M p w0) .ret a w:=by
 obtain⟨β,hI⟩:=hI
 obtain⟨v,k1,k2⟩:=h.run hI
 have e:v=hd:=k2.out
 subst e
 refine Ke hI (v:=v) ?_ ⟨v,rfl,obj_rest hI hk hF,hI.below.below (fun _ h=>h)⟩
 rw[Jy,hr]
 simp[k1]
end
end Wx
