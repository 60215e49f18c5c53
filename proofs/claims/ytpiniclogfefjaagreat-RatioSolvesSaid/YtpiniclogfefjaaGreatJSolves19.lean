import Derived.Test.YtpiniclogfefjaaGreatJSolves17
namespace Wx
open Go Go.RowKit

structure It where
 p:Qg
 nl:Zg p
structure Bk where
 b:Nat
 sz:Nat
 agg:Bool
 items:List It
def Bk.ok (e:Bk) (w:World):Prop:=∃(cs:List Value) (T:TypeId),w.heap[e.b]?=some (.cells cs.toArray T (0,0))∧e.items.length*e.sz≤cs.length∧(∀v∈cs,Yw v)∧∀(i:Nat) (it:It),e.items[i]?=some it→it.p w (Xd e.agg ((cs.drop (i*e.sz)).take e.sz))
def HpOk (B:Nat→Prop) (w:World) (H:List Bk):Prop:=(∀k,B k↔∃e,e∈H∧e.b=k)∧(H.Pairwise fun x y=>x.b≠y.b)∧∀e,e∈H→e.ok w
def Zo (H:List Bk):Zz:=fun B w _=>HpOk B w H
def Bk.put (e:Bk) (b idx:Nat) (it:It):Bk:=if e.b=b then { e with items:=e.items.set idx it }else e
def Ye (H:List Bk) (b idx:Nat) (it:It):List Bk:=H.map fun e=>e.put b idx it
theorem Bk.put_b (e:Bk) (b idx:Nat) (it:It):(e.put b idx it).b=e.b:=by unfold Bk.put; split<;>rfl
theorem Bk.ok_lt {e:Bk} {w:World} (h:e.ok w):e.b<w.heap.size:=by
 obtain⟨cs,T,h1,_⟩:=h
 rcases Nat.lt_or_ge e.b w.heap.size with h'|h'
 ·exact h'
 ·rw[Array.getElem?_eq_none h']at h1; cases h1
theorem Ext.mono' {M M':Nat→Nat→Prop} {w w':World} (h:Ext M' w w') (hm:∀k o,M' k o→M k o):Ext M w w':=⟨h.size,fun k hk hno=>h.block k hk fun o ho=>hno o (hm k o ho),fun k o v hno hv=>h.cell k o v (fun ho=>hno (hm k o ho)) hv⟩
theorem Bk.ok_keep {e:Bk} {M:Nat→Nat→Prop} {w w':World} (h:e.ok w) (hM:Mid M w) (he:Ext M w w') (hb:w'.heap[e.b]?=w.heap[e.b]?):e.ok w':=by
 obtain⟨cs,T,h1,h2,h3,h4⟩:=h
 exact⟨cs,T,hb.trans h1,h2,h3,fun i it hi=>it.nl M w _ hM (h4 i it hi) w' he⟩
theorem HpOk.keep {B:Nat→Prop} {M:Nat→Nat→Prop} {w w':World} {H:List Bk} (h:HpOk B w H) (hM:Mid M w) (he:Ext M w w') (hb:∀e,e∈H→w'.heap[e.b]?=w.heap[e.b]?):HpOk B w' H:=
 ⟨h.1,h.2.1,fun e hm=>Bk.ok_keep (h.2.2 e hm) hM he (hb e hm)⟩
theorem HpOk.box {B:Nat→Prop} {M:Nat→Nat→Prop} {w:World} {H:List Bk} (h:HpOk B w H) (hM:Mid M w):Box (Kr M B) (fun w=>HpOk B w H) w:=fun _ he=>
 h.keep hM (he.mono' fun _ _ h=>h.1) fun e hm=>he.block e.b (Bk.ok_lt (h.2.2 e hm)) fun _ ho=>ho.2 ((h.1 _).2 ⟨e,hm,rfl⟩)
theorem HpOk.noU {B:Nat→Prop} {w:World} {H:List Bk} (h:HpOk B w H) {k:Nat} (hk:B k):k<w.heap.size∧∀o v,w.cell? ⟨k,o,none⟩=some v→Yw v:=by
 obtain⟨e,hm,rfl⟩:=(h.1 k).1 hk
 have hok:=h.2.2 e hm
 refine⟨Bk.ok_lt hok,fun o v hv=>?_⟩
 obtain⟨cs,T,h1,_,h3,_⟩:=hok
 simp only[World.cell?,h1]at hv
 have:cs[o]?=some v:=by simpa using hv
 exact h3 v (List.mem_of_getElem? this)
theorem Qho {H:List Bk} (h:H.Pairwise fun x y=>x.b≠y.b) {x y:Bk} (hx:x∈H) (hy:y∈H) (e:x.b=y.b):x=y:=by
 induction H with
 |nil=>cases hx
 |cons z H ih=>
  obtain⟨h1,h2⟩:=List.pairwise_cons.1 h
  rcases List.mem_cons.1 hx with rfl|hx'<;>rcases List.mem_cons.1 hy with rfl|hy'
  ·rfl
  ·exact absurd e (h1 y hy')
  ·exact absurd e.symm (h1 x hx')
  ·exact ih h2 hx' hy'
theorem seg_set {α:Type} {cs ds:List α} {sz idx j n:Nat} (hl:n*sz≤cs.length) (hi:idx<n) (hds:ds.length=sz) (hj:j<n):
  (((cs.take (idx*sz)++ds++cs.drop (idx*sz+sz)).drop (j*sz)).take sz)=if j=idx then ds else(cs.drop (j*sz)).take sz:=by
 have h1:(idx+1)*sz≤n*sz:=Nat.mul_le_mul_right _ hi
 have h2:(j+1)*sz≤n*sz:=Nat.mul_le_mul_right _ hj
 rw[Nat.add_mul,Nat.one_mul]at h1 h2
 have hlt:(cs.take (idx*sz)).length=idx*sz:=by rw[List.length_take]; omega
 apply List.ext_getElem?
 intro k
 by_cases hk:k<sz
 ·rw[List.getElem?_take,if_pos hk,List.getElem?_drop]
  split
  ·rename_i e
   subst e
   rw[List.append_assoc,List.getElem?_append_right (by omega),hlt,List.getElem?_append_left (by omega)]
   congr 1
   omega
  ·rename_i hne
   rw[List.getElem?_take,if_pos hk,List.getElem?_drop]
   rcases Nat.lt_or_ge j idx with hlt'|hge
   ·have h3:(j+1)*sz≤idx*sz:=Nat.mul_le_mul_right _ hlt'
    rw[Nat.add_mul,Nat.one_mul]at h3
    rw[List.append_assoc,List.getElem?_append_left (by omega),List.getElem?_take,if_pos (by omega)]
   ·have h3:(idx+1)*sz≤j*sz:=Nat.mul_le_mul_right _ (by omega)
    rw[Nat.add_mul,Nat.one_mul]at h3
    rw[List.getElem?_append_right (by rw[List.length_append]; omega),List.getElem?_drop,List.length_append,hlt,hds]
    congr 1
    omega
 ·rw[List.getElem?_eq_none (by rw[List.length_take]; omega)]
  split
  ·rw[List.getElem?_eq_none (by omega)]
  ·rw[List.getElem?_eq_none (by rw[List.length_take]; omega)]
theorem HpOk.set {B:Nat→Prop} {M:Nat→Nat→Prop} {w:World} {H:List Bk} (h:HpOk B w H) (hM:Mid M w) {e:Bk} (he:e∈H) {idx:Nat} (hi:idx<e.items.length) {it:It} {cs ds:List Value} {T:TypeId}
  (hcs:w.heap[e.b]?=some (.cells cs.toArray T (0,0))) (hlen:e.items.length*e.sz≤cs.length) (hcu:∀v∈cs,Yw v) (hits:∀(i:Nat) (it:It),e.items[i]?=some it→it.p w (Xd e.agg ((cs.drop (i*e.sz)).take e.sz)))
  (hds:ds.length=e.sz) (hdu:∀v∈ds,Yw v) (hv:it.p w (Xd e.agg ds)) (hext:Ext M w (w.setRow e.b (cs.take (idx*e.sz)++ds++cs.drop (idx*e.sz+e.sz)).toArray)):
  HpOk B (w.setRow e.b (cs.take (idx*e.sz)++ds++cs.drop (idx*e.sz+e.sz)).toArray) (Ye H e.b idx it):=by
 have h1:(idx+1)*e.sz≤e.items.length*e.sz:=Nat.mul_le_mul_right _ hi
 rw[Nat.add_mul,Nat.one_mul]at h1
 refine⟨fun k=>(h.1 k).trans ⟨fun⟨x,hx,hb⟩=>⟨x.put e.b idx it,List.mem_map.2 ⟨x,hx,rfl⟩,(x.put_b _ _ _).trans hb⟩,fun⟨y,hy,hb⟩=>?_⟩,?_,fun y hy=>?_⟩
 ·obtain⟨x,hx,rfl⟩:=List.mem_map.1 hy
  exact⟨x,hx,(x.put_b _ _ _).symm.trans hb⟩
 ·unfold Ye
  rw[List.pairwise_map]
  exact h.2.1.imp fun {x y} hne=>by rw[x.put_b,y.put_b]; exact hne
 ·obtain⟨x,hx,rfl⟩:=List.mem_map.1 hy
  by_cases hxe:x.b=e.b
  ·have:=Qho h.2.1 hx he hxe
   subst this
   have ep:x.put x.b idx it={ x with items:=x.items.set idx it }:=if_pos rfl
   rw[ep]
   refine⟨_,T,setRow_heap w _ _ _ _ _ hcs,?_,?_,fun j it' hj=>?_⟩
   ·show(x.items.set idx it).length*x.sz≤_
    rw[List.length_set,List.length_append,List.length_append,List.length_take,List.length_drop]
    omega
   ·intro v hv'
    rcases List.mem_append.1 hv' with hv'|hv'
    ·rcases List.mem_append.1 hv' with hv'|hv'
     ·exact hcu v (List.mem_of_mem_take hv')
     ·exact hdu v hv'
    ·exact hcu v (List.mem_of_mem_drop hv')
   ·have hj':(x.items.set idx it)[j]?=some it':=hj
    show it'.p _ (Xd x.agg _)
    have hjl:j<x.items.length:=by
     rcases Nat.lt_or_ge j x.items.length with h'|h'
     ·exact h'
     ·rw[List.getElem?_eq_none (by rw[List.length_set]; exact h')]at hj'; cases hj'
    rw[seg_set hlen hi hds hjl]
    by_cases hji:j=idx
    ·subst hji
     rw[if_pos rfl]
     rw[List.getElem?_set_self hjl]at hj'
     injection hj' with hj'
     subst hj'
     exact it.nl M w _ hM hv _ hext
    ·rw[if_neg hji]
     rw[List.getElem?_set_ne (Ne.symm hji)]at hj'
     exact it'.nl M w _ hM (hits j it' hj') _ hext
  ·have ep:x.put e.b idx it=x:=if_neg hxe
   rw[ep]
   exact Bk.ok_keep (h.2.2 x hx) hM hext (X4 hxe)
section
variable {P:Program} {ops:Array Oper} {ms:List Nat} {c:Cfg} {V:List Vr} {A:List Al} {G:List Ent} {i:Nat} {L:Nat→Bool} {β:Nat→Nat→Prop} {a:Act} {w:World} {o:Oper}
variable {d:Nat} {x y z:Operand} {ty:TypeId} {pos:String} {aft:Array Edge}
theorem InvB.storedO (h:InvB c V A G L β a w) (hwf:WfAt c.N ops V A G i o) (hnone:o.dst=none) {x:Vr} (hx:x∈V) (hlive:live L x=true) (hxk:x.kd=.obj) (hnb:Qaz o.op=false) {g:Nat} (hgx:β x.id g)
  {cs cs':List Value} {T:TypeId} (hcs:w.heap[g]?=some (.cells cs.toArray T (0,0))) (hn:∀u∈cs',Yw u)
  (hc:Box (Kr (own c V L β) (β x.id)) (fun w=>cont (Yp L i) x.c0 x.st (β x.id) w (sl a x.slot)) (w.setRow g cs'.toArray)) (hothers:(V.all fun y=>y.id==x.id||y.st.all fun q=>q.1 != i)=true) (u:Value):
  Inv c V A G (Yp L i) (a.put o.dst u) (w.setRow g cs'.toArray):=by
 have nb:=nb_of hwf hnb
 have hlo:x.lo=0:=by unfold Vr.lo; rw[hxk]
 have og:∀o,own c V L β g o:=fun o=>.inr ⟨x,hx,hlive,hgx,by rw[hlo]; exact Nat.zero_le _⟩
 have ext:∀M:Nat→Nat→Prop,(∀o,M g o)→Ext M w (w.setRow g cs'.toArray):=fun M hM=>⟨Nat.le_of_eq size_setRow.symm,fun k hk hno=>X4 fun e=>hno 0 (by rw[e]; exact hM 0),fun k o v hno hv=>by
  have hkg:k≠g:=fun e=>hno (by rw[e]; exact hM o)
  rw[World.cell?_of_block (w:=w) (a:=⟨k,o,none⟩) (X4 hkg)]; exact hv⟩
 have he:Ext (own c V L β) w (w.setRow g cs'.toArray):=ext _ og
 have hvx:=h.var x hx hlive
 have hnew:=(hvx.blk hgx).1
 have hput:a.put o.dst u=a:=by rw[hnone]; rfl
 have hne0:∀k,k<c.w0.heap.size→¬c.lent k→k≠g:=fun k h1 h2 e=>hnew.elim (fun h3=>by omega) (fun h3=>h2 (e▸h3))
 rw[hput]
 refine⟨β,h.size,h.defers,⟨h.below.os,h.below.tape,h.below.output,Nat.le_trans h.below.size (Nat.le_of_eq size_setRow.symm),fun k hk hn=>(X4 (hne0 k hk hn)).trans (h.below.block k hk hn)⟩,h.old_of fun k hk hn=>X4 (hne0 k hk hn),?_,?_,?_,?_⟩
 ·intro y hy hl'
  rw[Ke (nb y hy).1 (nb y hy).2]at hl'
  rw[U9 nb]
  by_cases hyx:y.id=x.id
  ·have:y=x:=hwf.vu y x hy hx hyx
   subst this
   refine(Y5 hxk).2 ⟨fun k hk=>?_,hc⟩
   obtain⟨h1,h2,h3⟩:=((Y5 hxk).1 hvx).1 k hk
   refine⟨h1,by rw[size_setRow]; exact h2,fun o v hv=>?_⟩
   by_cases hkg:k=g
   ·subst hkg
    simp only[World.cell?,setRow_heap w _ _ _ _ _ hcs]at hv
    have:cs'[o]?=some v:=by simpa using hv
    exact hn v (List.mem_of_getElem? this)
   ·rw[World.cell?_of_block (w:=w) (a:=⟨k,o,none⟩) (X4 hkg)]at hv
    exact h3 o v hv
  ·rw[List.all_eq_true]at hothers
   have h5:=hothers y hy
   simp only[Bool.or_eq_true,beq_iff_eq,hyx,false_or,List.all_eq_true,bne_iff_ne]at h5
   have hny:¬β y.id g:=fun e=>h.apart y x g hy hx hl' hlive hyx e hgx
   exact(h.var y hy hl').keep rfl rfl (fun g' hg'=>X4 fun e=>hny (e▸hg')) (Nat.le_of_eq size_setRow.symm) (fun F hF=>hF.ext he) (fun F hF=>hF.ext (ext _ fun o=>⟨og o,hny⟩)) (Qcs h5)
 ·intro y y' g' hy hy' h1 h2 hne
  rw[Ke (nb y hy).1 (nb y hy).2]at h1
  rw[Ke (nb y' hy').1 (nb y' hy').2]at h2
  exact h.apart y y' g' hy hy' h1 h2 hne
 ·intro p hp hl' hcd
  have hpt:p.tag≠some i:=fun e=>by have:=hwf.a2 p hp e; rw[hnone]at this; cases this
  rw[J0 hpt]at hl'
  exact h.al p hp hl' hcd
 ·intro e heG hl' hf
  obtain⟨hf,hfi⟩:=Qcx hf
  have ht:e.tag≠some i:=fun e'=>by have:=hwf.g2 e heG e'; rw[hnone]at this; cases this
  rw[J0 ht]at hl'
  rw[U9 nb]
  exact(h.ent e heG hl' hf).ext he
theorem obj_at (hI:InvB c V A G L β a w) (hd:Det ms i L) {v:Vr} (hv:v∈V) (ho:Zi ms i v=true) (hkd:v.kd=.obj):ObjOk (own c V L β) c L a w v (β v.id):=(Y5 hkd).1 (hI.var v hv (hd.live ho))
theorem Qcr (hd:Det ms i L) {st:List (Nat×Zz)} {p:Zz} (h:(st.all fun q=>(q.1==i||(ms.getD i 0).testBit q.1)||(ms.getD q.1 0).testBit i)=true):cont L p st=cont (fun j=>(ms.getD i 0).testBit j) p st:=by
 rw[List.all_eq_true]at h
 refine Qcf fun q hq=>?_
 have:=h q hq
 simp only[Bool.or_eq_true,beq_iff_eq]at this
 rcases this with(h5|h5)|h5
 ·rw[h5,hd.no,hd.irrefl]
 ·rw[hd.before _ h5,h5]
 ·have h6:=hd.behind _ h5
  rw[h6]
  cases h7:(ms.getD i 0).testBit q.1 with
  |false=>rfl
  |true=>rw[hd.before _ h7]at h6; cases h6
theorem Yv {T:TypeId} {v:Vr} {H:List Bk} {e:Bk} {it:It} {b idx off:Nat} (k:Nat) (hk:V[k]?=some v) (ho:Zi ms i v=true) (hkd:v.kd=.obj) (hst:(v.st.all fun q=>(q.1==i||(ms.getD i 0).testBit q.1)||(ms.getD q.1 0).testBit i)=true)
  (hc:cont (fun j=>(ms.getD i 0).testBit j) v.c0 v.st=Zo H) (h:Has ms G i y (Qi (.pointer (some ⟨b,off,none⟩)))) (he:e∈H) (hb:e.b=b) (hi:e.items[idx]?=some it) (hoff:off=idx*e.sz) (ht:Ty P T e.agg e.sz) (hp:Post G i it.p):
  Q0 P ops ms c V A G i ⟨some d,.load T y,ty,pos,aft,none⟩:=
 Vu rfl rfl rfl (.inl rfl) hp fun L β a w hI hd=>by
  have hO:=obj_at hI hd (List.mem_of_getElem? hk) ho hkd
  have hH:=hO.2.out
  rw[Qcr hd hst,hc]at hH
  obtain⟨cs,t,h1,h2,h3,h4⟩:=hH.2.2 e he
  have hy:a.eval y=.pointer (some ⟨b,off,none⟩):=(h.spec hI hd).out
  have hil:idx<e.items.length:=by
   rcases Nat.lt_or_ge idx e.items.length with h'|h'
   ·exact h'
   ·rw[List.getElem?_eq_none h']at hi; cases hi
  have hle:(idx+1)*e.sz≤e.items.length*e.sz:=Nat.mul_le_mul_right _ hil
  rw[Nat.add_mul,Nat.one_mul]at hle
  refine⟨Xd e.agg ((cs.drop (idx*e.sz)).take e.sz),w,?_,Below.refl _ _,it.nl _ w _ (Yq hI) (h4 idx it hi)⟩
  show(do pure (Next.value (← Instr.loadAt T (a.eval y)))).run P w=_
  rw[hy,← hb,hoff,Sem.run_bind,V9 (cs:=(cs.drop (idx*e.sz)).take e.sz) ht (W4 h1 (idx*e.sz) e.sz) (by rw[List.length_take,List.length_drop]; omega)]
  rfl
theorem Zn {T:TypeId} {v:Vr} {H:List Bk} {e:Bk} {it:It} {b idx off:Nat} (k:Nat) (hk:V[k]?=some v) (ho:Zi ms i v=true) (hkd:v.kd=.obj) (hst:(v.st.all fun q=>(q.1==i||(ms.getD i 0).testBit q.1)||(ms.getD q.1 0).testBit i)=true)
  (m:Nat) (hm:v.st[m]?=some (i,Zo (Ye H b idx it))) (hr:((v.st.drop (m+1)).all fun r=>(ms.getD r.1 0).testBit i)=true) (hoth:(V.all fun y=>y.id==v.id||y.st.all fun q=>q.1 != i)=true)
  (hc:cont (fun j=>(ms.getD i 0).testBit j) v.c0 v.st=Zo H) (h:Has ms G i y (Qi (.pointer (some ⟨b,off,none⟩)))) (he:e∈H) (hb:e.b=b) (hi:idx<e.items.length) (hoff:off=idx*e.sz) (ht:Ty P T e.agg e.sz) (hz:Has ms G i z it.p) (hf:J4 e.sz e.agg it.p):
  Q0 P ops ms c V A G i ⟨none,.store T y z,ty,pos,aft,none⟩:=by
 refine Wh (fun L β a w hI hd hwf=>?_) rfl
 have hv:=List.mem_of_getElem? hk
 have hO:=obj_at hI hd hv ho hkd
 have hH:=hO.2.out
 rw[Qcr hd hst,hc]at hH
 have hH:HpOk (β v.id) w H:=hH
 obtain⟨cs,t,h1,h2,h3,h4⟩:=hH.2.2 e he
 have hy:a.eval y=.pointer (some ⟨b,off,none⟩):=(h.spec hI hd).out
 have hval:=hz.spec hI hd
 obtain⟨ds,e1,hl,hcells,hu⟩:=hf w _ hval.out
 have hle:(idx+1)*e.sz≤e.items.length*e.sz:=Nat.mul_le_mul_right _ hi
 rw[Nat.add_mul,Nat.one_mul]at hle
 subst hb
 subst hoff
 have hr':(execOp a.eval ⟨none,.store T y z,ty,pos,aft,none⟩).run P w=.ok .skip (w.setRow e.b (cs.take (idx*e.sz)++ds++cs.drop (idx*e.sz+e.sz)).toArray):=by
  show(do Instr.storeAt T (a.eval y) (a.eval z); pure Next.skip).run P w=_
  rw[hy]
  have:=Qe7 (P:=P) (off:=idx*e.sz) ht h1 hcells hl (by omega) (fun u hu'=>(hu u hu').2)
  simp only[Sem.run_bind,this,Result.andThen_ok,Sem.run_pure]
 have hgx:β v.id e.b:=(hH.1 _).2 ⟨e,he,rfl⟩
 have hlo:v.lo=0:=by unfold Vr.lo; rw[hkd]
 have hext:Ext (own c V L β) w (w.setRow e.b (cs.take (idx*e.sz)++ds++cs.drop (idx*e.sz+e.sz)).toArray):=⟨Nat.le_of_eq size_setRow.symm,fun k hk hno=>X4 fun e'=>hno 0 (by rw[e']; exact .inr ⟨v,hv,hd.live ho,hgx,by rw[hlo]; exact Nat.zero_le _⟩),fun k o u hno hu'=>by
  have hkg:k≠e.b:=fun e'=>hno (by rw[e']; exact .inr ⟨v,hv,hd.live ho,hgx,by rw[hlo]; exact Nat.zero_le _⟩)
  rw[World.cell?_of_block (w:=w) (a:=⟨k,o,none⟩) (X4 hkg)]; exact hu'⟩
 have hset':=hH.set (Yq hI) he hi (it:=it) h1 h2 h3 h4 hl (fun u hu'=>(hu u hu').1) (by rw[← e1]; exact hval.out) hext
 unfold Does
 rw[hr']
 refine hI.storedO hwf rfl hv (hd.live ho) hkd rfl hgx h1 (fun u hu'=>?_) ?_ hoth _
 ·rcases List.mem_append.1 hu' with hu'|hu'
  ·rcases List.mem_append.1 hu' with hu'|hu'
   ·exact h3 u (List.mem_of_mem_take hu')
   ·exact(hu u hu').1
  ·exact h3 u (List.mem_of_mem_drop hu')
 ·rw[Qhb m hm hd hr]
  refine hset'.box fun k o hk=>?_
  obtain⟨k1,k2⟩:=Yq hI k o hk
  refine⟨by rw[size_setRow]; exact k1,fun u hu'=>?_⟩
  by_cases hkg:k=e.b
  ·exact(hset'.noU (by rw[hkg]; exact hgx)).2 o u hu'
  ·rw[World.cell?_of_block (w:=w) (a:=⟨k,o,none⟩) (X4 hkg)]at hu'
   exact k2 u hu'
theorem Qs {T E:TypeId} {sz b o' n cap:Nat} {m:Int} (h:Has ms G i x (Qi (.slice (some ⟨b,o',none⟩) n cap))) (hy:Has ms G i y (pI m)) (ht:SlTy P T E sz) (h0:0≤m) (h1:m<n) (hA:(A.all fun q=>q.tag != some i)=true) (hp:Post G i (Qi (.pointer (some ⟨b,o'+m.toNat*sz,none⟩)))):
  Q0 P ops ms c V A G i ⟨some d,.indexAddr T x y,ty,pos,aft,none⟩:=
 Vu rfl rfl rfl (.inr hA) hp fun L β a w hI hd=>by
  have hx:a.eval x=.slice (some ⟨b,o',none⟩) n cap:=(h.spec hI hd).out
  have hi:a.eval y=.int .i64 m:=(hy.spec hI hd).out
  refine⟨_,w,?_,Below.refl _ _,fun _ _=>rfl⟩
  show(do pure (Next.value (← Instr.indexAt T (a.eval x) (a.eval y)))).run P w=_
  rw[hx,hi,Sem.run_bind,Qim ht h0 h1]
  rfl
theorem Uz {T E:TypeId} {A':Option Addr} {n cap:Nat} (h:Has ms G i x (Qi (.slice A' n cap))) (ht:P.underlying T=some (.slice E)) (hp:Post G i (pI (n:Int))):
  Q0 P ops ms c V A G i ⟨some d,.call ⟨.builtin .len,#[x],#[T]⟩,ty,pos,aft,none⟩:=
 Qc2 rfl rfl rfl rfl h hp fun ρ w h=>⟨.int .i64 n,by
  have h:ρ x=.slice A' n cap:=h
  have hr:(Builtin.len_ #[T] ty #[ρ x]).run P w=.ok (.int .i64 n) w:=by
   rw[h]
   unfold Builtin.len_
   simp[run_underlying ht,goInt]
  show(do let d ← resolve ρ ⟨.builtin .len,#[x],#[T]⟩ ty; invoke d.target d.args).run P w=_
  simp only[resolve,invoke,pure_bind,builtin]
  rw[show(#[x]:Array Operand).map ρ=#[ρ x] by simp,Sem.run_bind,hr]
  rfl,fun _ _=>rfl⟩
end
end Wx

namespace Wx
open Go Go.RowKit

def StepsK (P:Program) (ops:Array Oper) (K:Nat→Act→World→Prop):Nat→List Oper→Prop
 |_,[]=>True
 |m,o::os=>(∀a w,K m a w→DoesG P ops o a w (K (m+1)))∧StepsK P ops K (m+1) os
theorem StepsK.get {P:Program} {ops:Array Oper} {K:Nat→Act→World→Prop}:∀{os:List Oper} {m:Nat},StepsK P ops K m os→∀{j:Nat} {o:Oper},os[j]?=some o→∀a w,K (m+j) a w→DoesG P ops o a w (K (m+j+1)):=by
 intro os
 induction os with
 |nil=>intro m _ j o h; simp at h
 |cons o' os ih=>
  intro m hs j o h
  cases j with
  |zero=>simp at h; subst h; exact hs.1
  |succ j=>
   have:=ih hs.2 (j:=j) (o:=o) (by simpa using h)
   rw[show m+(j+1)=m+1+j by omega]
   exact this
def lastB (ms:List Nat) (k n:Nat):Bool:=(List.range n).all fun i=>decide (i<k)||(List.range i).all fun j=>(ms.getD i 0).testBit j
theorem Qgj {ms:List Nat} {k n i j:Nat} (h:lastB ms k n=true) (hi:i<n) (hk:k≤i) (hj:j<i):(ms.getD i 0).testBit j=true:=by
 unfold lastB at h
 rw[List.all_eq_true]at h
 have:=h i (by simpa using hi)
 rw[Bool.or_eq_true,decide_eq_true_eq,List.all_eq_true]at this
 rcases this with h1|h1
 ·omega
 ·exact h1 j (by simpa using hj)
section
variable {P:Program} {Q:Exit→Act→World→Prop} {c:Cfg} {V:List Vr} {A:List Al} {G:List Ent} {a:Act} {w:World}
theorem wfB_part {N k:Nat} {l:List Oper} (h:wfB N (l.take k) V A G=true) {i:Nat} {o:Oper} (hi:l[i]?=some o) (hk:i<k):WfAt N l.toArray V A G i o:=by
 have h1:=wfB_at h (i:=i) (o:=o) (by rw[List.getElem?_take,if_pos hk]; exact hi)
 have hm:=Qca h
 refine⟨h1.sz,h1.sg,h1.aa,h1.g1,h1.g2,fun e j he ht=>?_,h1.gu,h1.a1,h1.a2,h1.v1,h1.v2,h1.vk,h1.vb,h1.vs,h1.vu,h1.vo⟩
 have h2:=h1.g3 e j he ht
 rw[← h2]
 simp only[marksB,Bool.and_eq_true,List.all_eq_true]at hm
 have h3:=(hm.2 e he).1
 rw[ht]at h3
 simp only[tagOk,decide_eq_true_eq,List.length_take]at h3
 congr 1
 simp only[List.getElem?_toArray]
 rw[List.getElem?_take,if_pos (by omega)]
theorem region_split {id:Nat} {l:List Oper} (ms:List Nat) (k:Nat) (hk0:0<k) (hm:P.follows .mixedOrders=true) (hok:Qb2 l.toArray=true) (hms:masks l=ms) (hlast:lastB ms k l.length=true) (hkn:decide (k≤l.length)=true) (hwf:wfB c.N (l.take k) V A G=true)
  (h0:Inv c V A G Qf a w) (hs:Oks P l.toArray ms c V A G 0 (l.take k)) (K:Nat→Act→World→Prop) (hK:∀a w,Inv c V A G (fun _=>true) a w→K 0 a w) (hst:StepsK P l.toArray K 0 (l.drop k)) (hq:∀a w,K (l.length-k) a w→Q .normal a w):
  (Code.region id l.toArray true).wp P Q a w:=by
 have hkn:=of_decide_eq_true hkn
 have hms2:=masks_ok l
 rw[hms]at hms2
 let J:(Nat→Bool)→Act→World→Prop:=fun L a w=>Qd4 l L∧(((∃j,j<k∧L j=false)∧Inv c V A G L a w)∨((∀j,j<k→L j=true)∧∃m,m≤l.length-k∧(∀i,k≤i→i<l.length→(L i=true↔i<k+m))∧K m a w))
 refine Qf5 hm hok J ⟨fun i o _ h=>(by cases h),.inl ⟨⟨0,hk0,rfl⟩,?_⟩⟩ ?_ ?_
 ·obtain⟨β,hβ⟩:=h0
  exact⟨β,hβ.draws⟩
 ·have key:∀(os:List Oper) (i:Nat) (pre:List Oper),l=pre++os→pre.length=i→StepsN P l.toArray Q J i os:=by
   intro os
   induction os with
   |nil=>intro i pre _ _; trivial
   |cons o os ih=>
    intro i pre hl hp
    refine⟨?_,ih (i+1) (pre++[o]) (by rw[hl]; simp) (by simp[hp])⟩
    rintro L a w ⟨hc,hJ⟩ hno hpre
    have hi:l[i]?=some o:=by rw[hl,List.getElem?_append_right (by omega),hp]; simp
    have hil:i<l.length:=by
     rcases Nat.lt_or_ge i l.length with h'|h'
     ·exact h'
     ·rw[List.getElem?_eq_none h']at hi; cases hi
    have hbef:∀j,(ms.getD i 0).testBit j=true→L j=true:=fun j hj=>hms2.2 L hc i o hi hpre j hj
    have hcl:Qd4 l (Yp L i):=by
     intro k' ok hok' hL j hj
     by_cases hki:k'=i
     ·subst hki
      rw[hi]at hok'
      injection hok' with hok'
      subst hok'
      have:=hpre j hj
      unfold Yp
      split
      ·rfl
      ·exact this
     ·have:=hc k' ok hok' (upd_of hL hki) j hj
      unfold Yp
      split
      ·rfl
      ·exact this
    rcases hJ with⟨⟨j0,hj0,hLj0⟩,hI⟩|⟨hall,m,hmn,hLm,hKm⟩
    ·have hik:i<k:=by
      rcases Nat.lt_or_ge i k with h'|h'
      ·exact h'
      ·have:=hbef j0 (Qgj hlast hil h' (by omega))
       rw[hLj0]at this; cases this
     have hdet:Det ms i L:=⟨hno,hbef,fun j hj=>by
      cases hL:L j with
      |false=>rfl
      |true=>
       cases hoj:l[j]? with
       |none=>
        have h1:=hms2.1
        rw[List.getD_eq_getElem?_getD,List.getElem?_eq_none (by have:=List.getElem?_eq_none_iff.1 hoj; omega)]at hj
        simp at hj
       |some oj=>
        have:=hms2.2 L hc j oj hoj (fun m hm=>hc j oj hoj hL m hm) i hj
        rw[hno]at this
        cases this⟩
     have hop:=hs.get (j:=i) (o:=o) (by rw[List.getElem?_take,if_pos hik]; exact hi)
     rw[Nat.zero_add]at hop
     refine(hop L a w hI hdet (wfB_part hwf hi hik)).list (K:=Inv c V A G (Yp L i)) fun a' w' h'=>⟨hcl,?_⟩
     by_cases hfull:∀j,j<k→Yp L i j=true
     ·refine .inr ⟨hfull,0,Nat.zero_le _,fun q hq hql=>?_,hK a' w' ?_⟩
      ·have hLq:L q=false:=by
        cases hLq:L q with
        |false=>rfl
        |true=>
         cases hoq:l[q]? with
         |none=>rw[List.getElem?_eq_none_iff]at hoq; omega
         |some oq=>
          have:=hms2.2 L hc q oq hoq (fun m hm=>hc q oq hoq hLq m hm) j0 (Qgj hlast hql hq (by omega))
          rw[hLj0]at this; cases this
       have:Yp L i q=L q:=by unfold Yp; rw[if_neg (by omega)]
       rw[this,hLq]
       constructor
       ·intro h; cases h
       ·intro h; omega
      ·obtain⟨β,hI'⟩:=h'
       refine⟨β,hI'.congr (Qca hwf) fun j hj=>?_⟩
       rw[List.length_take]at hj
       exact hfull j (by omega)
     ·refine .inl ⟨?_,h'⟩
      rw[Classical.not_forall]at hfull
      obtain⟨j,hj⟩:=hfull
      rw[Classical.not_imp]at hj
      exact⟨j,hj.1,Bool.not_eq_true _▸hj.2⟩
    ·have hki:k≤i:=by
      rcases Nat.lt_or_ge i k with h'|h'
      ·rw[hall i h']at hno; cases hno
      ·exact h'
     have him:i=k+m:=by
      have h1:¬i<k+m:=fun h=>by rw[(hLm i hki hil).2 h]at hno; cases hno
      rcases Nat.lt_or_ge (k+m) i with h2|h2
      ·have h3:=hbef (k+m) (Qgj hlast hil hki h2)
       have:=(hLm (k+m) (by omega) (by omega)).1 h3
       omega
      ·omega
     have ho:(l.drop k)[m]?=some o:=by rw[List.getElem?_drop,← him]; exact hi
     have hst':=hst.get ho a w (by rw[Nat.zero_add]; exact hKm)
     rw[Nat.zero_add]at hst'
     refine hst'.list (K:=K (m+1)) fun a' w' h'=>⟨hcl,.inr ⟨fun j hj=>?_,m+1,by omega,fun q hq hql=>?_,h'⟩⟩
     ·unfold Yp
      split
      ·rfl
      ·exact hall j hj
     ·unfold Yp
      split
      ·rename_i e
       constructor
       ·intro _; omega
       ·intro _; rfl
      ·rename_i e
       rw[hLm q hq hql]
       omega
  exact key l 0 [] rfl rfl
 ·rintro L a w ⟨_,hJ⟩ hall
  rcases hJ with⟨⟨j,hj,hL⟩,_⟩|⟨_,m,hmn,hLm,hKm⟩
  ·rw[hall j (by omega)]at hL; cases hL
  ·have hme:m=l.length-k:=by
    rcases Nat.lt_or_ge m (l.length-k)with h'|h'
    ·have:=(hLm (k+m) (by omega) (by omega)).1 (hall (k+m) (by omega))
     omega
    ·omega
   subst hme
   exact hq a w hKm
theorem region_splitT {id:Nat} {l:List Oper} (k:Nat) (hkn:decide (k≤l.length)=true) (hwf:wfB c.N (l.take k) V A G=true)
  (h0:Inv c V A G Qf a w) (hs:Oks P l.toArray (Y7 l.length) c V A G 0 (l.take k)) (K:Nat→Act→World→Prop) (hK:∀a w,Inv c V A G (fun _=>true) a w→K 0 a w) (hst:StepsK P l.toArray K 0 (l.drop k)) (hq:∀a w,K (l.length-k) a w→Q .normal a w):
  (Code.region id l.toArray false).wp P Q a w:=by
 have hkn:=of_decide_eq_true hkn
 refine wp_region_lit ?_
 have tailK:∀(os:List Oper) (m:Nat),StepsK P l.toArray K m os→(∀a w,K (m+os.length) a w→Q .normal a w)→∀a w,K m a w→wpList P l.toArray Q os a w:=by
  intro os
  induction os with
  |nil=>intro m _ hq a w h; exact hq a w h
  |cons o os ih=>
   intro m hs hq a w h
   refine(hs.1 a w h).list fun a' w' h'=>ih (m+1) hs.2 (fun a w hk=>hq a w ?_) a' w' h'
   rw[List.length_cons,show m+(os.length+1)=m+1+os.length by omega]
   exact hk
 have tl:∀a w,K 0 a w→wpList P l.toArray Q (l.drop k) a w:=tailK (l.drop k) 0 hst (fun a w h=>hq a w (by rw[Nat.zero_add,List.length_drop]at h; exact h))
 have key:∀(os:List Oper) (i:Nat) (pre:List Oper),l.take k=pre++os→pre.length=i→Oks P l.toArray (Y7 l.length) c V A G i os→∀(a:Act) (w:World),Inv c V A G (fun j=>decide (j<i)) a w→wpList P l.toArray Q (os++l.drop k) a w:=by
  intro os
  induction os with
  |nil=>
   rintro i pre hl hp _ a w ⟨β,hI⟩
   refine tl a w (hK a w ⟨β,hI.congr (Qca hwf) fun j hj=>?_⟩)
   rw[hl]at hj
   simp at hj
   simp; omega
  |cons o os ih=>
   rintro i pre hl hp hs a w hI
   have hi':(l.take k)[i]?=some o:=by rw[hl,List.getElem?_append_right (by omega),hp]; simp
   have hik:i<k:=by
    rcases Nat.lt_or_ge i k with h'|h'
    ·exact h'
    ·rw[List.getElem?_take,if_neg (by omega)]at hi'; cases hi'
   have hi:l[i]?=some o:=by rw[List.getElem?_take,if_pos hik]at hi'; exact hi'
   have hlen:i<l.length:=by
    rcases Nat.lt_or_ge i l.length with h'|h'
    ·exact h'
    ·rw[List.getElem?_eq_none h']at hi; cases hi
   have tm:∀k j,((Y7 l.length).getD k 0).testBit j=true→j<k:=by
    intro k j h
    rcases Nat.lt_or_ge k l.length with h'|h'
    ·have e:(Y7 l.length).getD k 0=2^k-1:=by simp[Y7,h']
     rw[e,Nat.testBit_two_pow_sub_one]at h
     simpa using h
    ·have e:(Y7 l.length).getD k 0=0:=by simp[Y7,Nat.not_lt.2 h']
     rw[e]at h
     simp at h
   have hdet:Det (Y7 l.length) i (fun j=>decide (j<i)):=⟨by simp,fun j hj=>by simpa using tm i j hj,fun j hj=>by have:=tm j i hj; simp; omega⟩
   refine(hs.1 _ a w hI hdet (wfB_part hwf hi hik)).list fun a' w' h'=>ih (i+1) (pre++[o]) (by rw[hl]; simp) (by simp[hp]) hs.2 a' w' ?_
   have e:Yp (fun j=>decide (j<i)) i=(fun j=>decide (j<i+1)):=by
    funext j
    unfold Yp
    by_cases h:j=i
    ·simp[h]
    ·rw[if_neg h]
     by_cases h2:j<i
     ·simp[h2]; omega
     ·simp[h2]; omega
   rw[← e]
   exact h'
 have:=key (l.take k) 0 [] rfl rfl hs a w (by
  have e:(fun j=>decide (j<0))=Qf:=by funext j; simp
  rw[e]
  exact h0)
 rwa [List.take_append_drop]at this
end
end Wx
