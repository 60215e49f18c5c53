import Derived.Deep.AppendSrc
import Derived.Deep.Upon
import Derived.Test.YtpiniclogfefjaaCSylvesterSemRow
namespace Wx
open Go Go.RowKit

section
variable {P:Program} {ops:Array Oper} {ms:List Nat} {c:Cfg} {V:List Vr} {A:List Al} {G:List Ent} {i:Nat} {L:Nat→Bool} {β:Nat→Nat→Prop} {a:Act} {w:World} {o:Oper}
variable {d:Nat} {x y z:Operand} {ty:TypeId} {pos:String} {aft:Array Edge}
theorem InvB.remake (h:InvB c V A G L β a w) (hd:Det ms i L) (hwf:WfAt c.N ops V A G i o) {y:Vr} (hy:y∈V) (hyb:y.born=some i) (hst:Jl o.op=false) (hna:Kf o.op=false) (hal:(A.all fun p=>p.var != y.id||p.tag.any fun j=>(ms.getD j 0).testBit i)=true)
  {v':Value} {w':World} {B':Nat→Prop} (e0:w'.os=w.os∧w'.tape=w.tape∧w'.output=w.output∧w.heap.size≤w'.heap.size)
  (e1:∀k,k<c.w0.heap.size→¬c.lent k→w'.heap[k]?=w.heap[k]?)
  (e2:∀z,z∈V→live L z=true→z.dead≠some i→∀k,β z.id k→w'.heap[k]?=w.heap[k]?∧¬B' k)
  (e3:Ext (own c V L β) w w') (e4:∀z,z∈V→live L z=true→z.dead≠some i→Ext (Jo (own c V L β) (β z.id)) w w')
  (e5:∀k j,k<w.heap.size→B' k→y.lo≤j→own c V L β k j)
  (hOk:∀β',β' y.id=B'→(∀k j,k<w.heap.size→own c V (X3 L i) β' k j→own c V L β k j)→(∀k j,own c V (X3 L i) β' k j→(B' k∧y.lo≤j)∨c.M0 k j∨∃z,z∈V∧live L z=true∧z.dead≠some i∧β z.id k)→VrOk (own c V (X3 L i) β') c (X3 L i) β' (a.put o.dst v') w' y)
  (hG:∀β',β' y.id=B'→(∀k j,k<w.heap.size→own c V (X3 L i) β' k j→own c V L β k j)→(∀k j,own c V (X3 L i) β' k j→(B' k∧y.lo≤j)∨c.M0 k j∨∃z,z∈V∧live L z=true∧z.dead≠some i∧β z.id k)→∀e,e∈G→e.tag=some i→Box (own c V (X3 L i) β') (fun w=>e.p w v') w'):
  Inv c V A G (X3 L i) (a.put o.dst v') w':=by
 have hdst:=hwf.v2 y hy hyb
 have nV:∀z,z∈V→z.id≠y.id→z.born≠some i:=fun z hz hne hb=>hne (by rw[hwf.vo z y hz hy hb hyb])
 -- who lives on
 have lv:∀z,z∈V→z.id≠y.id→live (X3 L i) z=true→live L z=true∧z.dead≠some i:=by
  intro z hz hne hl
  unfold live at hl ⊢
  rw[Zw (nV z hz hne),Bool.and_eq_true]at hl
  obtain⟨h1,h2⟩:=U8 hl.2
  exact⟨by rw[hl.1,h1]; rfl,h2⟩
 have nS:∀z,z∈V→z.id≠y.id→z.dead≠some i→o.dst≠some z.slot:=fun z hz hne hdz hd'=>(hwf.v1 z hz hd').elim (nV z hz hne) hdz
 have st_no:∀z,z∈V→∀q,q∈z.st→q.1≠i:=fun z hz q hq hqi=>by have:=hwf.vs z hz q hq hqi; rw[hst]at this; cases this
 let β':Nat→Nat→Prop:=fun s=>if s=y.id then B' else β s
 have hβ:∀z,z∈V→z.id≠y.id→β' z.id=β z.id:=fun z _ hne=>if_neg hne
 have hβy:β' y.id=B':=if_pos rfl
 have own_old:∀k j,k<w.heap.size→own c V (X3 L i) β' k j→own c V L β k j:=by
  rintro k j hk (h1|⟨z,hz,h1,h2,h3⟩)
  ·exact .inl h1
  ·by_cases hzy:z.id=y.id
   ·have:=hwf.vu z y hz hy hzy
    subst this
    rw[hβy]at h2
    exact e5 k j hk h2 h3
   ·rw[hβ z hz hzy]at h2
    exact .inr ⟨z,hz,(lv z hz hzy h1).1,h2,h3⟩
 have own2:∀k j,own c V (X3 L i) β' k j→(B' k∧y.lo≤j)∨c.M0 k j∨∃z,z∈V∧live L z=true∧z.dead≠some i∧β z.id k:=by
  rintro k j (h1|⟨z,hz,h1,h2,h3⟩)
  ·exact .inr (.inl h1)
  ·by_cases hzy:z.id=y.id
   ·have:=hwf.vu z y hz hy hzy
    subst this
    rw[hβy]at h2
    exact .inl ⟨h2,h3⟩
   ·rw[hβ z hz hzy]at h2
    obtain⟨k1,k2⟩:=lv z hz hzy h1
    exact .inr (.inr ⟨z,hz,k1,k2,h2⟩)
 have lift:∀F:World→Prop,Box (own c V L β) F w→Box (own c V (X3 L i) β') F w':=fun F hF w'' he=>by
  refine hF w'' ⟨Nat.le_trans e0.2.2.2 he.size,fun k hk hno=>?_,fun k j v hno hv=>?_⟩
  ·rw[he.block k (Nat.lt_of_lt_of_le hk e0.2.2.2) fun j h'=>hno j (own_old k j hk h')]
   exact e3.block k hk hno
  ·have hk:=World.block_lt_of_cell? w _ hv
   exact he.cell k j v (fun h'=>hno (own_old k j hk h')) (e3.cell k j v hno hv)
 have liftm:∀z,z∈V→live L z=true→z.dead≠some i→∀F:World→Prop,Box (Jo (own c V L β) (β z.id)) F w→Box (Jo (own c V (X3 L i) β') (β z.id)) F w':=fun z hz hl hdz F hF w'' he=>by
  have e:=e4 z hz hl hdz
  refine hF w'' ⟨Nat.le_trans e0.2.2.2 he.size,fun k hk hno=>?_,fun k j v hno hv=>?_⟩
  ·rw[he.block k (Nat.lt_of_lt_of_le hk e0.2.2.2) fun j h'=>hno j ⟨own_old k j hk h'.1,h'.2⟩]
   exact e.block k hk hno
  ·have hk:=World.block_lt_of_cell? w _ hv
   exact he.cell k j v (fun h'=>hno ⟨own_old k j hk h'.1,h'.2⟩) (e.cell k j v hno hv)
 refine⟨β',by rw[Vb]; exact h.size,by rw[Ks]; exact h.defers,⟨e0.1.trans h.below.os,e0.2.1.trans h.below.tape,e0.2.2.1.trans h.below.output,Nat.le_trans h.below.size e0.2.2.2,fun k hk hn=>(e1 k hk hn).trans (h.below.block k hk hn)⟩,h.old_of e1,?_,?_,?_,?_⟩
 ·intro z hz hl
  by_cases hzy:z.id=y.id
  ·have:=hwf.vu z y hz hy hzy
   subst this
   exact hOk β' hβy own_old own2
  ·obtain⟨hl,hdz⟩:=lv z hz hzy hl
   exact(h.var z hz hl).keep (Zh (nS z hz hzy hdz)) (hβ z hz hzy) (fun g hg=>(e2 z hz hl hdz g hg).1) e0.2.2.2 lift (liftm z hz hl hdz) (U5 (st_no z hz))
 ·intro z z' g hz hz' h1 h2 hne
  by_cases hzy:z.id=y.id
  ·have hz'y:z'.id≠y.id:=fun e=>hne (hzy.trans e.symm)
   obtain⟨h2,hd2⟩:=lv z' hz' hz'y h2
   rw[hzy,hβy,hβ z' hz' hz'y]
   exact fun k1 k2=>(e2 z' hz' h2 hd2 g k2).2 k1
  ·obtain⟨h1,hd1⟩:=lv z hz hzy h1
   rw[hβ z hz hzy]
   by_cases hz'y:z'.id=y.id
   ·rw[hz'y,hβy]
    exact fun k1 k2=>(e2 z hz h1 hd1 g k1).2 k2
   ·rw[hβ z' hz' hz'y]
    exact h.apart z z' g hz hz' h1 (lv z' hz' hz'y h2).1 hne
 ·intro p hp hl hcd
  have hpt:p.tag≠some i:=fun e=>by have:=hwf.aa p hp e; rw[hna]at this; cases this
  rw[Zw hpt]at hl
  obtain⟨g,hg,hp1⟩:=h.al p hp hl hcd
  rw[Zh fun e=>hpt (hwf.a1 p hp e),hp1]
  have hne:p.var≠y.id:=by
   intro e
   rw[List.all_eq_true]at hal
   have h1:=hal p hp
   rw[e]at h1
   simp only[bne_self_eq_false,Bool.false_or]at h1
   cases ht:p.tag with
   |none=>rw[ht]at h1; simp at h1
   |some j=>
    rw[ht]at h1 hl
    have:=hd.behind j (by simpa using h1)
    simp only[on,this]at hl
    cases hl
  exact⟨g,by simpa [β',hne] using hg,rfl⟩
 ·intro e he hl hf
  obtain⟨hf,hfi⟩:=U8 hf
  by_cases ht:e.tag=some i
  ·have hd':=hwf.g2 e he ht
   rw[hd',J6 (by rw[h.size]; exact hwf.sz _ hd')]
   exact hG β' hβy own_old own2 e he ht
  ·rw[Zw ht]at hl
   rw[Zh fun hd'=>(hwf.g1 e he hd').elim ht hfi]
   exact lift _ (h.ent e he hl hf)
end
end Wx

namespace Wx
open Go Go.RowKit

structure It where
 p:Qj
 nl:Zs p
structure Bk where
 b:Nat
 sz:Nat
 agg:Bool
 items:List It
def Bk.ok (e:Bk) (w:World):Prop:=∃(cs:List Value) (T:TypeId),w.heap[e.b]?=some (.cells cs.toArray T (0,0))∧e.items.length*e.sz≤cs.length∧(∀v∈cs,Yr v)∧∀(i:Nat) (it:It),e.items[i]?=some it→it.p w (Q6 e.agg ((cs.drop (i*e.sz)).take e.sz))
def HpOk (B:Nat→Prop) (w:World) (H:List Bk):Prop:=(∀k,B k↔∃e,e∈H∧e.b=k)∧(H.Pairwise fun x y=>x.b≠y.b)∧∀e,e∈H→e.ok w
def Zj (H:List Bk):Y9:=fun B w _=>HpOk B w H
def Bk.put (e:Bk) (b idx:Nat) (it:It):Bk:=if e.b=b then { e with items:=e.items.set idx it }else e
def Xs (H:List Bk) (b idx:Nat) (it:It):List Bk:=H.map fun e=>e.put b idx it
theorem Bk.put_b (e:Bk) (b idx:Nat) (it:It):(e.put b idx it).b=e.b:=by unfold Bk.put; split<;>rfl
theorem Bk.ok_lt {e:Bk} {w:World} (h:e.ok w):e.b<w.heap.size:=by
 obtain⟨cs,T,h1,_⟩:=h
 rcases Nat.lt_or_ge e.b w.heap.size with h'|h'
 ·exact h'
 ·rw[Array.getElem?_eq_none h']at h1; cases h1
theorem Ext.mono' {M M':Nat→Nat→Prop} {w w':World} (h:Ext M' w w') (hm:∀k o,M' k o→M k o):Ext M w w':=⟨h.size,fun k hk hno=>h.block k hk fun o ho=>hno o (hm k o ho),fun k o v hno hv=>h.cell k o v (fun ho=>hno (hm k o ho)) hv⟩
theorem Bk.ok_keep {e:Bk} {M:Nat→Nat→Prop} {w w':World} (h:e.ok w) (hM:Mid M w) (he:Ext M w w') (hb:w'.heap[e.b]?=w.heap[e.b]?):e.ok w':=by
 obtain⟨cs,T,h1,h2,h3,h4⟩:=h
 exact⟨cs,T,hb.trans h1,h2,h3,fun i it hi=>it.nl M w _ hM (h4 i it hi) w' he⟩
theorem HpOk.keep {B:Nat→Prop} {M:Nat→Nat→Prop} {w w':World} {H:List Bk} (h:HpOk B w H) (hM:Mid M w) (he:Ext M w w') (hb:∀e,e∈H→w'.heap[e.b]?=w.heap[e.b]?):HpOk B w' H:=
 ⟨h.1,h.2.1,fun e hm=>Bk.ok_keep (h.2.2 e hm) hM he (hb e hm)⟩
theorem HpOk.box {B:Nat→Prop} {M:Nat→Nat→Prop} {w:World} {H:List Bk} (h:HpOk B w H) (hM:Mid M w):Box (Jo M B) (fun w=>HpOk B w H) w:=fun _ he=>
 h.keep hM (he.mono' fun _ _ h=>h.1) fun e hm=>he.block e.b (Bk.ok_lt (h.2.2 e hm)) fun _ ho=>ho.2 ((h.1 _).2 ⟨e,hm,rfl⟩)
theorem HpOk.noU {B:Nat→Prop} {w:World} {H:List Bk} (h:HpOk B w H) {k:Nat} (hk:B k):k<w.heap.size∧∀o v,w.cell? ⟨k,o,none⟩=some v→Yr v:=by
 obtain⟨e,hm,rfl⟩:=(h.1 k).1 hk
 have hok:=h.2.2 e hm
 refine⟨Bk.ok_lt hok,fun o v hv=>?_⟩
 obtain⟨cs,T,h1,_,h3,_⟩:=hok
 simp only[World.cell?,h1]at hv
 have:cs[o]?=some v:=by simpa using hv
 exact h3 v (List.mem_of_getElem? this)
theorem Qeb {H:List Bk} (h:H.Pairwise fun x y=>x.b≠y.b) {x y:Bk} (hx:x∈H) (hy:y∈H) (e:x.b=y.b):x=y:=by
 induction H with
 |nil=>cases hx
 |cons z H ih=>
  obtain⟨h1,h2⟩:=List.pairwise_cons.1 h
  rcases List.mem_cons.1 hx with rfl|hx'<;>rcases List.mem_cons.1 hy with rfl|hy'
  ·rfl
  ·exact absurd e (h1 y hy')
  ·exact absurd e.symm (h1 x hx')
  ·exact ih h2 hx' hy'
theorem seg_set {α:Type} {cs ds:List α} {sz idx j n:Nat} (hl:n*sz≤cs.length) (hi:idx<n) (hds:ds.length=sz) (hj:j<n):
  (((cs.take (idx*sz)++ds++cs.drop (idx*sz+sz)).drop (j*sz)).take sz)=if j=idx then ds else(cs.drop (j*sz)).take sz:=by
 have h1:(idx+1)*sz≤n*sz:=Nat.mul_le_mul_right _ hi
 have h2:(j+1)*sz≤n*sz:=Nat.mul_le_mul_right _ hj
 rw[Nat.add_mul,Nat.one_mul]at h1 h2
 have hlt:(cs.take (idx*sz)).length=idx*sz:=by rw[List.length_take]; omega
 apply List.ext_getElem?
 intro k
 by_cases hk:k<sz
 ·rw[List.getElem?_take,if_pos hk,List.getElem?_drop]
  split
  ·rename_i e
   subst e
   rw[List.append_assoc,List.getElem?_append_right (by omega),hlt,List.getElem?_append_left (by omega)]
   congr 1
   omega
  ·rename_i hne
   rw[List.getElem?_take,if_pos hk,List.getElem?_drop]
   rcases Nat.lt_or_ge j idx with hlt'|hge
   ·have h3:(j+1)*sz≤idx*sz:=Nat.mul_le_mul_right _ hlt'
    rw[Nat.add_mul,Nat.one_mul]at h3
    rw[List.append_assoc,List.getElem?_append_left (by omega),List.getElem?_take,if_pos (by omega)]
   ·have h3:(idx+1)*sz≤j*sz:=Nat.mul_le_mul_right _ (by omega)
    rw[Nat.add_mul,Nat.one_mul]at h3
    rw[List.getElem?_append_right (by rw[List.length_append]; omega),List.getElem?_drop,List.length_append,hlt,hds]
    congr 1
    omega
 ·rw[List.getElem?_eq_none (by rw[List.length_take]; omega)]
  split
  ·rw[List.getElem?_eq_none (by omega)]
  ·rw[List.getElem?_eq_none (by rw[List.length_take]; omega)]
theorem HpOk.set {B:Nat→Prop} {M:Nat→Nat→Prop} {w:World} {H:List Bk} (h:HpOk B w H) (hM:Mid M w) {e:Bk} (he:e∈H) {idx:Nat} (hi:idx<e.items.length) {it:It} {cs ds:List Value} {T:TypeId}
  (hcs:w.heap[e.b]?=some (.cells cs.toArray T (0,0))) (hlen:e.items.length*e.sz≤cs.length) (hcu:∀v∈cs,Yr v) (hits:∀(i:Nat) (it:It),e.items[i]?=some it→it.p w (Q6 e.agg ((cs.drop (i*e.sz)).take e.sz)))
  (hds:ds.length=e.sz) (hdu:∀v∈ds,Yr v) (hv:it.p w (Q6 e.agg ds)) (hext:Ext M w (w.setRow e.b (cs.take (idx*e.sz)++ds++cs.drop (idx*e.sz+e.sz)).toArray)):
  HpOk B (w.setRow e.b (cs.take (idx*e.sz)++ds++cs.drop (idx*e.sz+e.sz)).toArray) (Xs H e.b idx it):=by
 have h1:(idx+1)*e.sz≤e.items.length*e.sz:=Nat.mul_le_mul_right _ hi
 rw[Nat.add_mul,Nat.one_mul]at h1
 refine⟨fun k=>(h.1 k).trans ⟨fun⟨x,hx,hb⟩=>⟨x.put e.b idx it,List.mem_map.2 ⟨x,hx,rfl⟩,(x.put_b _ _ _).trans hb⟩,fun⟨y,hy,hb⟩=>?_⟩,?_,fun y hy=>?_⟩
 ·obtain⟨x,hx,rfl⟩:=List.mem_map.1 hy
  exact⟨x,hx,(x.put_b _ _ _).symm.trans hb⟩
 ·unfold Xs
  rw[List.pairwise_map]
  exact h.2.1.imp fun {x y} hne=>by rw[x.put_b,y.put_b]; exact hne
 ·obtain⟨x,hx,rfl⟩:=List.mem_map.1 hy
  by_cases hxe:x.b=e.b
  ·have:=Qeb h.2.1 hx he hxe
   subst this
   have ep:x.put x.b idx it={ x with items:=x.items.set idx it }:=if_pos rfl
   rw[ep]
   refine⟨_,T,setRow_heap w _ _ _ _ _ hcs,?_,?_,fun j it' hj=>?_⟩
   ·show(x.items.set idx it).length*x.sz≤_
    rw[List.length_set,List.length_append,List.length_append,List.length_take,List.length_drop]
    omega
   ·intro v hv'
    rcases List.mem_append.1 hv' with hv'|hv'
    ·rcases List.mem_append.1 hv' with hv'|hv'
     ·exact hcu v (List.mem_of_mem_take hv')
     ·exact hdu v hv'
    ·exact hcu v (List.mem_of_mem_drop hv')
   ·have hj':(x.items.set idx it)[j]?=some it':=hj
    show it'.p _ (Q6 x.agg _)
    have hjl:j<x.items.length:=by
     rcases Nat.lt_or_ge j x.items.length with h'|h'
     ·exact h'
     ·rw[List.getElem?_eq_none (by rw[List.length_set]; exact h')]at hj'; cases hj'
    rw[seg_set hlen hi hds hjl]
    by_cases hji:j=idx
    ·subst hji
     rw[if_pos rfl]
     rw[List.getElem?_set_self hjl]at hj'
     injection hj' with hj'
     subst hj'
     exact it.nl M w _ hM hv _ hext
    ·rw[if_neg hji]
     rw[List.getElem?_set_ne (Ne.symm hji)]at hj'
     exact it'.nl M w _ hM (hits j it' hj') _ hext
  ·have ep:x.put e.b idx it=x:=if_neg hxe
   rw[ep]
   exact Bk.ok_keep (h.2.2 x hx) hM hext (Xj hxe)
section
variable {P:Program} {ops:Array Oper} {ms:List Nat} {c:Cfg} {V:List Vr} {A:List Al} {G:List Ent} {i:Nat} {L:Nat→Bool} {β:Nat→Nat→Prop} {a:Act} {w:World} {o:Oper}
variable {d:Nat} {x y z:Operand} {ty:TypeId} {pos:String} {aft:Array Edge}
theorem InvB.storedO (h:InvB c V A G L β a w) (hwf:WfAt c.N ops V A G i o) (hnone:o.dst=none) {x:Vr} (hx:x∈V) (hlive:live L x=true) (hxk:x.kd=.obj) (hnb:K5 o.op=false) {g:Nat} (hgx:β x.id g)
  {cs cs':List Value} {T:TypeId} (hcs:w.heap[g]?=some (.cells cs.toArray T (0,0))) (hn:∀u∈cs',Yr u)
  (hc:Box (Jo (own c V L β) (β x.id)) (fun w=>cont (X3 L i) x.c0 x.st (β x.id) w (sl a x.slot)) (w.setRow g cs'.toArray)) (hothers:(V.all fun y=>y.id==x.id||y.st.all fun q=>q.1 != i)=true) (u:Value):
  Inv c V A G (X3 L i) (a.put o.dst u) (w.setRow g cs'.toArray):=by
 have nb:=nb_of hwf hnb
 have hlo:x.lo=0:=by unfold Vr.lo; rw[hxk]
 have og:∀o,own c V L β g o:=fun o=>.inr ⟨x,hx,hlive,hgx,by rw[hlo]; exact Nat.zero_le _⟩
 have ext:∀M:Nat→Nat→Prop,(∀o,M g o)→Ext M w (w.setRow g cs'.toArray):=fun M hM=>⟨Nat.le_of_eq size_setRow.symm,fun k hk hno=>Xj fun e=>hno 0 (by rw[e]; exact hM 0),fun k o v hno hv=>by
  have hkg:k≠g:=fun e=>hno (by rw[e]; exact hM o)
  rw[World.cell?_of_block (w:=w) (a:=⟨k,o,none⟩) (Xj hkg)]; exact hv⟩
 have he:Ext (own c V L β) w (w.setRow g cs'.toArray):=ext _ og
 have hvx:=h.var x hx hlive
 have hnew:=(hvx.blk hgx).1
 have hput:a.put o.dst u=a:=by rw[hnone]; rfl
 have hne0:∀k,k<c.w0.heap.size→¬c.lent k→k≠g:=fun k h1 h2 e=>hnew.elim (fun h3=>by omega) (fun h3=>h2 (e▸h3))
 rw[hput]
 refine⟨β,h.size,h.defers,⟨h.below.os,h.below.tape,h.below.output,Nat.le_trans h.below.size (Nat.le_of_eq size_setRow.symm),fun k hk hn=>(Xj (hne0 k hk hn)).trans (h.below.block k hk hn)⟩,h.old_of fun k hk hn=>Xj (hne0 k hk hn),?_,?_,?_,?_⟩
 ·intro y hy hl'
  rw[Ja (nb y hy).1 (nb y hy).2]at hl'
  rw[Wr nb]
  by_cases hyx:y.id=x.id
  ·have:y=x:=hwf.vu y x hy hx hyx
   subst this
   refine(Yk hxk).2 ⟨fun k hk=>?_,hc⟩
   obtain⟨h1,h2,h3⟩:=((Yk hxk).1 hvx).1 k hk
   refine⟨h1,by rw[size_setRow]; exact h2,fun o v hv=>?_⟩
   by_cases hkg:k=g
   ·subst hkg
    simp only[World.cell?,setRow_heap w _ _ _ _ _ hcs]at hv
    have:cs'[o]?=some v:=by simpa using hv
    exact hn v (List.mem_of_getElem? this)
   ·rw[World.cell?_of_block (w:=w) (a:=⟨k,o,none⟩) (Xj hkg)]at hv
    exact h3 o v hv
  ·rw[List.all_eq_true]at hothers
   have h5:=hothers y hy
   simp only[Bool.or_eq_true,beq_iff_eq,hyx,false_or,List.all_eq_true,bne_iff_ne]at h5
   have hny:¬β y.id g:=fun e=>h.apart y x g hy hx hl' hlive hyx e hgx
   exact(h.var y hy hl').keep rfl rfl (fun g' hg'=>Xj fun e=>hny (e▸hg')) (Nat.le_of_eq size_setRow.symm) (fun F hF=>hF.ext he) (fun F hF=>hF.ext (ext _ fun o=>⟨og o,hny⟩)) (U5 h5)
 ·intro y y' g' hy hy' h1 h2 hne
  rw[Ja (nb y hy).1 (nb y hy).2]at h1
  rw[Ja (nb y' hy').1 (nb y' hy').2]at h2
  exact h.apart y y' g' hy hy' h1 h2 hne
 ·intro p hp hl' hcd
  have hpt:p.tag≠some i:=fun e=>by have:=hwf.a2 p hp e; rw[hnone]at this; cases this
  rw[Zw hpt]at hl'
  exact h.al p hp hl' hcd
 ·intro e heG hl' hf
  obtain⟨hf,hfi⟩:=U8 hf
  have ht:e.tag≠some i:=fun e'=>by have:=hwf.g2 e heG e'; rw[hnone]at this; cases this
  rw[Zw ht]at hl'
  rw[Wr nb]
  exact(h.ent e heG hl' hf).ext he
theorem obj_at (hI:InvB c V A G L β a w) (hd:Det ms i L) {v:Vr} (hv:v∈V) (ho:Zm ms i v=true) (hkd:v.kd=.obj):ObjOk (own c V L β) c L a w v (β v.id):=(Yk hkd).1 (hI.var v hv (hd.live ho))
theorem Qbh (hd:Det ms i L) {st:List (Nat×Y9)} {p:Y9} (h:(st.all fun q=>(q.1==i||(ms.getD i 0).testBit q.1)||(ms.getD q.1 0).testBit i)=true):cont L p st=cont (fun j=>(ms.getD i 0).testBit j) p st:=by
 rw[List.all_eq_true]at h
 refine Up fun q hq=>?_
 have:=h q hq
 simp only[Bool.or_eq_true,beq_iff_eq]at this
 rcases this with(h5|h5)|h5
 ·rw[h5,hd.no,hd.irrefl]
 ·rw[hd.before _ h5,h5]
 ·have h6:=hd.behind _ h5
  rw[h6]
  cases h7:(ms.getD i 0).testBit q.1 with
  |false=>rfl
  |true=>rw[hd.before _ h7]at h6; cases h6
theorem Q5 {T:TypeId} {v:Vr} {H:List Bk} {e:Bk} {it:It} {b idx off:Nat} (k:Nat) (hk:V[k]?=some v) (ho:Zm ms i v=true) (hkd:v.kd=.obj) (hst:(v.st.all fun q=>(q.1==i||(ms.getD i 0).testBit q.1)||(ms.getD q.1 0).testBit i)=true)
  (hc:cont (fun j=>(ms.getD i 0).testBit j) v.c0 v.st=Zj H) (h:Has ms G i y (Qe (.pointer (some ⟨b,off,none⟩)))) (he:e∈H) (hb:e.b=b) (hi:e.items[idx]?=some it) (hoff:off=idx*e.sz) (ht:Ty P T e.agg e.sz) (hp:Post G i it.p):
  Xf P ops ms c V A G i ⟨some d,.load T y,ty,pos,aft,none⟩:=
 J5 rfl rfl rfl (.inl rfl) hp fun L β a w hI hd=>by
  have hO:=obj_at hI hd (List.mem_of_getElem? hk) ho hkd
  have hH:=hO.2.out
  rw[Qbh hd hst,hc]at hH
  obtain⟨cs,t,h1,h2,h3,h4⟩:=hH.2.2 e he
  have hy:a.eval y=.pointer (some ⟨b,off,none⟩):=(h.spec hI hd).out
  have hil:idx<e.items.length:=by
   rcases Nat.lt_or_ge idx e.items.length with h'|h'
   ·exact h'
   ·rw[List.getElem?_eq_none h']at hi; cases hi
  have hle:(idx+1)*e.sz≤e.items.length*e.sz:=Nat.mul_le_mul_right _ hil
  rw[Nat.add_mul,Nat.one_mul]at hle
  refine⟨Q6 e.agg ((cs.drop (idx*e.sz)).take e.sz),w,?_,Below.refl _ _,it.nl _ w _ (X8 hI) (h4 idx it hi)⟩
  show(do pure (Next.value (← Instr.loadAt T (a.eval y)))).run P w=_
  rw[hy,← hb,hoff,Sem.run_bind,Ws (cs:=(cs.drop (idx*e.sz)).take e.sz) ht (V5 h1 (idx*e.sz) e.sz) (by rw[List.length_take,List.length_drop]; omega)]
  rfl
theorem Zx {T:TypeId} {v:Vr} {H:List Bk} {e:Bk} {it:It} {b idx off:Nat} (k:Nat) (hk:V[k]?=some v) (ho:Zm ms i v=true) (hkd:v.kd=.obj) (hst:(v.st.all fun q=>(q.1==i||(ms.getD i 0).testBit q.1)||(ms.getD q.1 0).testBit i)=true)
  (m:Nat) (hm:v.st[m]?=some (i,Zj (Xs H b idx it))) (hr:((v.st.drop (m+1)).all fun r=>(ms.getD r.1 0).testBit i)=true) (hoth:(V.all fun y=>y.id==v.id||y.st.all fun q=>q.1 != i)=true)
  (hc:cont (fun j=>(ms.getD i 0).testBit j) v.c0 v.st=Zj H) (h:Has ms G i y (Qe (.pointer (some ⟨b,off,none⟩)))) (he:e∈H) (hb:e.b=b) (hi:idx<e.items.length) (hoff:off=idx*e.sz) (ht:Ty P T e.agg e.sz) (hz:Has ms G i z it.p) (hf:Jn e.sz e.agg it.p):
  Xf P ops ms c V A G i ⟨none,.store T y z,ty,pos,aft,none⟩:=by
 refine J9 (fun L β a w hI hd hwf=>?_) rfl
 have hv:=List.mem_of_getElem? hk
 have hO:=obj_at hI hd hv ho hkd
 have hH:=hO.2.out
 rw[Qbh hd hst,hc]at hH
 have hH:HpOk (β v.id) w H:=hH
 obtain⟨cs,t,h1,h2,h3,h4⟩:=hH.2.2 e he
 have hy:a.eval y=.pointer (some ⟨b,off,none⟩):=(h.spec hI hd).out
 have hval:=hz.spec hI hd
 obtain⟨ds,e1,hl,hcells,hu⟩:=hf w _ hval.out
 have hle:(idx+1)*e.sz≤e.items.length*e.sz:=Nat.mul_le_mul_right _ hi
 rw[Nat.add_mul,Nat.one_mul]at hle
 subst hb
 subst hoff
 have hr':(execOp a.eval ⟨none,.store T y z,ty,pos,aft,none⟩).run P w=.ok .skip (w.setRow e.b (cs.take (idx*e.sz)++ds++cs.drop (idx*e.sz+e.sz)).toArray):=by
  show(do Instr.storeAt T (a.eval y) (a.eval z); pure Next.skip).run P w=_
  rw[hy]
  have:=Qbv (P:=P) (off:=idx*e.sz) ht h1 hcells hl (by omega) (fun u hu'=>(hu u hu').2)
  simp only[Sem.run_bind,this,Result.andThen_ok,Sem.run_pure]
 have hgx:β v.id e.b:=(hH.1 _).2 ⟨e,he,rfl⟩
 have hlo:v.lo=0:=by unfold Vr.lo; rw[hkd]
 have hext:Ext (own c V L β) w (w.setRow e.b (cs.take (idx*e.sz)++ds++cs.drop (idx*e.sz+e.sz)).toArray):=⟨Nat.le_of_eq size_setRow.symm,fun k hk hno=>Xj fun e'=>hno 0 (by rw[e']; exact .inr ⟨v,hv,hd.live ho,hgx,by rw[hlo]; exact Nat.zero_le _⟩),fun k o u hno hu'=>by
  have hkg:k≠e.b:=fun e'=>hno (by rw[e']; exact .inr ⟨v,hv,hd.live ho,hgx,by rw[hlo]; exact Nat.zero_le _⟩)
  rw[World.cell?_of_block (w:=w) (a:=⟨k,o,none⟩) (Xj hkg)]; exact hu'⟩
 have hset':=hH.set (X8 hI) he hi (it:=it) h1 h2 h3 h4 hl (fun u hu'=>(hu u hu').1) (by rw[← e1]; exact hval.out) hext
 unfold Does
 rw[hr']
 refine hI.storedO hwf rfl hv (hd.live ho) hkd rfl hgx h1 (fun u hu'=>?_) ?_ hoth _
 ·rcases List.mem_append.1 hu' with hu'|hu'
  ·rcases List.mem_append.1 hu' with hu'|hu'
   ·exact h3 u (List.mem_of_mem_take hu')
   ·exact(hu u hu').1
  ·exact h3 u (List.mem_of_mem_drop hu')
 ·rw[Qd0 m hm hd hr]
  refine hset'.box fun k o hk=>?_
  obtain⟨k1,k2⟩:=X8 hI k o hk
  refine⟨by rw[size_setRow]; exact k1,fun u hu'=>?_⟩
  by_cases hkg:k=e.b
  ·exact(hset'.noU (by rw[hkg]; exact hgx)).2 o u hu'
  ·rw[World.cell?_of_block (w:=w) (a:=⟨k,o,none⟩) (Xj hkg)]at hu'
   exact k2 u hu'
theorem Qs {T E:TypeId} {sz b o' n cap:Nat} {m:Int} (h:Has ms G i x (Qe (.slice (some ⟨b,o',none⟩) n cap))) (hy:Has ms G i y (pI m)) (ht:SlTy P T E sz) (h0:0≤m) (h1:m<n) (hA:(A.all fun q=>q.tag != some i)=true) (hp:Post G i (Qe (.pointer (some ⟨b,o'+m.toNat*sz,none⟩)))):
  Xf P ops ms c V A G i ⟨some d,.indexAddr T x y,ty,pos,aft,none⟩:=
 J5 rfl rfl rfl (.inr hA) hp fun L β a w hI hd=>by
  have hx:a.eval x=.slice (some ⟨b,o',none⟩) n cap:=(h.spec hI hd).out
  have hi:a.eval y=.int .i64 m:=(hy.spec hI hd).out
  refine⟨_,w,?_,Below.refl _ _,fun _ _=>rfl⟩
  show(do pure (Next.value (← Instr.indexAt T (a.eval x) (a.eval y)))).run P w=_
  rw[hx,hi,Sem.run_bind,Qe0 ht h0 h1]
  rfl
theorem Js {T E:TypeId} {A':Option Addr} {n cap:Nat} (h:Has ms G i x (Qe (.slice A' n cap))) (ht:P.underlying T=some (.slice E)) (hp:Post G i (pI (n:Int))):
  Xf P ops ms c V A G i ⟨some d,.call ⟨.builtin .len,#[x],#[T]⟩,ty,pos,aft,none⟩:=
 Qaa rfl rfl rfl rfl h hp fun ρ w h=>⟨.int .i64 n,by
  have h:ρ x=.slice A' n cap:=h
  have hr:(Builtin.len_ #[T] ty #[ρ x]).run P w=.ok (.int .i64 n) w:=by
   rw[h]
   unfold Builtin.len_
   simp[run_underlying ht,goInt]
  show(do let d ← resolve ρ ⟨.builtin .len,#[x],#[T]⟩ ty; invoke d.target d.args).run P w=_
  simp only[resolve,invoke,pure_bind,builtin]
  rw[show(#[x]:Array Operand).map ρ=#[ρ x] by simp,Sem.run_bind,hr]
  rfl,fun _ _=>rfl⟩
end
end Wx
