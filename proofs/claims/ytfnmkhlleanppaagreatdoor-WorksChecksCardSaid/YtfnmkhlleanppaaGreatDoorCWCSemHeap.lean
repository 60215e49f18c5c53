import Derived.Test.YtfnmkhlleanppaaGreatDoorJWC8
namespace Wx
open Go Go.RowKit
structure It where
 p:Pred
 nl:aO p
structure Bk where
 b:Nat
 sz:Nat
 agg:Bool
 items:List It
def Bk.ok (e:Bk) (w:World):Prop:=∃(cs:List Value) (T:TypeId),w.heap[e.b]?=some (.cells cs.toArray T (0,0))/\e.items.length*e.sz<=cs.length/\(∀v∈cs,dB v)/\∀(i:Nat) (it:It),e.items[i]?=some it->it.p w (aq e.agg ((cs.drop (i*e.sz)).take e.sz))
def cn (B:Nat->Prop) (w:World) (H:List Bk):Prop:=(∀k,B k↔∃e,e∈H/\e.b=k)/\(H.Pairwise λx y=>x.b≠y.b)/\∀e,e∈H->e.ok w
def uN (H:List Bk):Rel:=λB w _=>cn B w H
def Bk.put (e:Bk) (b idx:Nat) (it:It):Bk:=if e.b=b then { e with items:=e.items.set idx it }else e
def dm (H:List Bk) (b idx:Nat) (it:It):List Bk:=H.map λe=>e.put b idx it
theorem Bk.oH (e:Bk) (b idx:Nat) (it:It):(e.put b idx it).b=e.b:=by unfold Bk.put; split<;>rfl
variable {e:Bk} {w:World}
theorem Bk.je (h:e.ok w):e.b<w.heap.size:=by
 obtain⟨cs,T,h1,_⟩:=h
 rcases Nat.lt_or_ge e.b w.heap.size with h'|h'
 ·exact h'
 ·rw[Array.getElem?_eq_none h']at h1; cases h1
variable {M:Nat->Nat->Prop} {w':World}
theorem Ext.mono' {M':Nat->Nat->Prop} (h:Ext M' w w') (hm:∀k o,M' k o->M k o):Ext M w w':=⟨h.size,λk hk hno=>h.block k hk λo ho=>hno o (hm k o ho),λk o v hno hv=>h.cell k o v (λho=>hno (hm k o ho)) hv⟩
theorem Bk.qj (h:e.ok w) (hM:cS M w) (he:Ext M w w') (hb:w'.heap[e.b]?=w.heap[e.b]?):e.ok w':=by
 obtain⟨cs,T,h1,h2,h3,h4⟩:=h
 exact⟨cs,T,hb.trans h1,h2,h3,λi it hi=>it.nl M w _ hM (h4 i it hi) w' he⟩
variable {B:Nat->Prop} {H:List Bk}
theorem cn.keep (h:cn B w H) (hM:cS M w) (he:Ext M w w') (hb:∀e,e∈H->w'.heap[e.b]?=w.heap[e.b]?):cn B w' H:=
 ⟨h.1,h.2.1,λe hm=>Bk.qj (h.2.2 e hm) hM he (hb e hm)⟩
theorem cn.box (h:cn B w H) (hM:cS M w):aJ (minus M B) (λw=>cn B w H) w:=λ_ he=>
 h.keep hM (he.mono' λ_ _ h=>h.1) λe hm=>he.block e.b (Bk.je (h.2.2 e hm)) λ_ ho=>ho.2 ((h.1 _).2 ⟨e,hm,rfl⟩)
theorem cn.qf (h:cn B w H) {k:Nat} (hk:B k):k<w.heap.size/\∀o v,w.cell? ⟨k,o,none⟩=some v->dB v:=by
 obtain⟨e,hm,rfl⟩:=(h.1 k).1 hk
 have hok:=h.2.2 e hm
 refine⟨Bk.je hok,λo v hv=>?_⟩
 obtain⟨cs,T,h1,_,h3,_⟩:=hok
 simp only[World.cell?,h1]at hv
 have:cs[o]?=some v:=by simpa using hv
 exact h3 v (List.mem_of_getElem? this)
theorem wB (h:H.Pairwise λx y=>x.b≠y.b) {x y:Bk} (hx:x∈H) (hy:y∈H) (e:x.b=y.b):x=y:=by
 induction H with
 |nil=>cases hx
 |cons z H ih=>
  obtain⟨h1,h2⟩:=List.pairwise_cons.1 h
  rcases List.mem_cons.1 hx with rfl|hx'<;>rcases List.mem_cons.1 hy with rfl|hy'
  ·rfl
  ·exact absurd e (h1 y hy')
  ·exact absurd e.symm (h1 x hx')
  ·exact ih h2 hx' hy'
theorem Cf {α:Type} {cs ds:List α} {sz idx j n:Nat} (hl:n*sz<=cs.length) (hi:idx<n) (hds:ds.length=sz) (hj:j<n):
  (((cs.take (idx*sz)++ds++cs.drop (idx*sz+sz)).drop (j*sz)).take sz)=if j=idx then ds else(cs.drop (j*sz)).take sz:=by
 have h1:(idx+1)*sz<=n*sz:=Nat.mul_le_mul_right _ hi
 have h2:(j+1)*sz<=n*sz:=Nat.mul_le_mul_right _ hj
 rw[Nat.add_mul,Nat.one_mul]at h1 h2
 have hlt:(cs.take (idx*sz)).length=idx*sz:=by rw[List.length_take]; omega
 apply List.ext_getElem?
 intro k
 by_cases hk:k<sz
 ·rw[List.getElem?_take,if_pos hk,List.getElem?_drop]
  split
  ·rename_i e
   subst e
   rw[List.append_assoc,List.getElem?_append_right (by omega),hlt,List.getElem?_append_left (by omega)]
   congr 1
   omega
  ·rename_i hne
   rw[List.getElem?_take,if_pos hk,List.getElem?_drop]
   rcases Nat.lt_or_ge j idx with JW|hge
   ·have h3:(j+1)*sz<=idx*sz:=Nat.mul_le_mul_right _ JW
    rw[Nat.add_mul,Nat.one_mul]at h3
    rw[List.append_assoc,List.getElem?_append_left (by omega),List.getElem?_take,if_pos (by omega)]
   ·have h3:(idx+1)*sz<=j*sz:=Nat.mul_le_mul_right _ (by omega)
    rw[Nat.add_mul,Nat.one_mul]at h3
    rw[List.getElem?_append_right (by rw[List.length_append]; omega),List.getElem?_drop,List.length_append,hlt,hds]
    congr 1
    omega
 ·rw[List.getElem?_eq_none (by rw[List.length_take]; omega)]
  split
  ·rw[List.getElem?_eq_none (by omega)]
  ·rw[List.getElem?_eq_none (by rw[List.length_take]; omega)]
theorem cn.set (h:cn B w H) (hM:cS M w) {e:Bk} (he:e∈H) {idx:Nat} (hi:idx<e.items.length) {it:It} {cs ds:List Value} {T:TypeId}
  (hcs:w.heap[e.b]?=some (.cells cs.toArray T (0,0))) (hlen:e.items.length*e.sz<=cs.length) (AZ:∀v∈cs,dB v) (JN:∀(i:Nat) (it:It),e.items[i]?=some it->it.p w (aq e.agg ((cs.drop (i*e.sz)).take e.sz)))
  (hds:ds.length=e.sz) (Mk:∀v∈ds,dB v) (hv:it.p w (aq e.agg ds)) (hU:Ext M w (w.setRow e.b (cs.take (idx*e.sz)++ds++cs.drop (idx*e.sz+e.sz)).toArray)):
  cn B (w.setRow e.b (cs.take (idx*e.sz)++ds++cs.drop (idx*e.sz+e.sz)).toArray) (dm H e.b idx it):=by
 have h1:(idx+1)*e.sz<=e.items.length*e.sz:=Nat.mul_le_mul_right _ hi
 rw[Nat.add_mul,Nat.one_mul]at h1
 refine⟨λk=>(h.1 k).trans ⟨λ⟨x,hx,hb⟩=>⟨x.put e.b idx it,List.mem_map.2 ⟨x,hx,rfl⟩,(x.oH _ _ _).trans hb⟩,λ⟨y,hy,hb⟩=>?_⟩,?_,λy hy=>?_⟩
 ·obtain⟨x,hx,rfl⟩:=List.mem_map.1 hy
  exact⟨x,hx,(x.oH _ _ _).symm.trans hb⟩
 ·unfold dm
  rw[List.pairwise_map]
  exact h.2.1.imp λ{x y} hne=>by rw[x.oH,y.oH]; exact hne
 ·obtain⟨x,hx,rfl⟩:=List.mem_map.1 hy
  by_cases Kf:x.b=e.b
  ·have:=wB h.2.1 hx he Kf
   subst this
   have ep:x.put x.b idx it={ x with items:=x.items.set idx it }:=if_pos rfl
   rw[ep]
   refine⟨_,T,setRow_heap w _ _ _ _ _ hcs,?_,?_,λj it' hj=>?_⟩
   ·show(x.items.set idx it).length*x.sz<=_
    rw[List.length_set,List.length_append,List.length_append,List.length_take,List.length_drop]
    omega
   ·intro v hv'
    rcases List.mem_append.1 hv' with hv'|hv'
    ·rcases List.mem_append.1 hv' with hv'|hv'
     ·exact AZ v (List.mem_of_mem_take hv')
     ·exact Mk v hv'
    ·exact AZ v (List.mem_of_mem_drop hv')
   ·have hj':(x.items.set idx it)[j]?=some it':=hj
    show it'.p _ (aq x.agg _)
    have Ar:j<x.items.length:=by
     rcases Nat.lt_or_ge j x.items.length with h'|h'
     ·exact h'
     ·rw[List.getElem?_eq_none (by rw[List.length_set]; exact h')]at hj'; cases hj'
    rw[Cf hlen hi hds Ar]
    by_cases JO:j=idx
    ·subst JO
     rw[if_pos rfl]
     rw[List.getElem?_set_self Ar]at hj'
     injection hj' with hj'
     subst hj'
     exact it.nl M w _ hM hv _ hU
    ·rw[if_neg JO]
     rw[List.getElem?_set_ne (Ne.symm JO)]at hj'
     exact it'.nl M w _ hM (JN j it' hj') _ hU
  ·have ep:x.put e.b idx it=x:=if_neg Kf
   rw[ep]
   exact Bk.qj (h.2.2 x hx) hM hU (ai Kf)
section
variable {P:Program} {ops:Array Oper} {ms:List Nat} {c:bQ} {V:List Vr} {A:List Al} {G:List aN} {i:Nat} {L:Nat->Bool} {β:Nat->Nat->Prop} {a:Act} {w:World} {o:Oper}{d:Nat} {x y z:Operand} {ty:TypeId} {pos:String} {aft:Array Edge}
theorem aQ.uZ (h:aQ c V A G L β a w) (hwf:gO c.N ops V A G i o) (hnone:o.dst=none) {x:Vr} (hx:x∈V) (dU:live L x=true) (Be:x.kd=.obj) (hnb:fh o.op=false) {g:Nat} (hgx:β x.id g)
  {cs cs':List Value} {T:TypeId} (hcs:w.heap[g]?=some (.cells cs.toArray T (0,0))) (hn:∀u∈cs',dB u)
  (hc:aJ (minus (own c V L β) (β x.id)) (λw=>cont (upd L i) x.c0 x.st (β x.id) w (sl a x.slot)) (w.setRow g cs'.toArray)) (jR:(V.all λy=>y.id==x.id||y.st.all λq=>q.1 != i)=true) (u:Value):
  Inv c V A G (upd L i) (a.put o.dst u) (w.setRow g cs'.toArray):=by
 have nb:=lA hwf hnb
 have hlo:x.lo=0:=by unfold Vr.lo; rw[Be]
 have og:∀o,own c V L β g o:=λo=>.inr ⟨x,hx,dU,hgx,by rw[hlo]; exact Nat.zero_le _⟩
 have ext:∀M:Nat->Nat->Prop,(∀o,M g o)->Ext M w (w.setRow g cs'.toArray):=λM hM=>⟨Nat.le_of_eq size_setRow.symm,λk hk hno=>ai λe=>hno 0 (by rw[e]; exact hM 0),λk o v hno hv=>by
  have ou:k≠g:=λe=>hno (by rw[e]; exact hM o)
  rw[World.cell?_of_block (w:=w) (a:=⟨k,o,none⟩) (ai ou)]; exact hv⟩
 have he:Ext (own c V L β) w (w.setRow g cs'.toArray):=ext _ og
 have Bc:=h.var x hx dU
 have hnew:=(Bc.blk hgx).1
 have hput:a.put o.dst u=a:=by rw[hnone]; rfl
 have nM:∀k,k<c.w0.heap.size->¬c.dc k->k≠g:=λk h1 h2 e=>hnew.elim (λh3=>by omega) (λh3=>h2 (e▸h3))
 rw[hput]
 refine⟨β,h.size,h.defers,⟨h.below.os,h.below.tape,h.below.output,Nat.le_trans h.below.size (Nat.le_of_eq size_setRow.symm),λk hk hn=>(ai (nM k hk hn)).trans (h.below.block k hk hn)⟩,h.iK λk hk hn=>ai (nM k hk hn),?_,?_,?_,?_⟩
 ·intro y hy hl'
  rw[ct (nb y hy).1 (nb y hy).2]at hl'
  rw[eO nb]
  by_cases nN:y.id=x.id
  ·have:y=x:=hwf.vu y x hy hx nN
   subst this
   refine(aB Be).2 ⟨λk hk=>?_,hc⟩
   obtain⟨h1,h2,h3⟩:=((aB Be).1 Bc).1 k hk
   refine⟨h1,by rw[size_setRow]; exact h2,λo v hv=>?_⟩
   by_cases ou:k=g
   ·subst ou
    simp only[World.cell?,setRow_heap w _ _ _ _ _ hcs]at hv
    have:cs'[o]?=some v:=by simpa using hv
    exact hn v (List.mem_of_getElem? this)
   ·rw[World.cell?_of_block (w:=w) (a:=⟨k,o,none⟩) (ai ou)]at hv
    exact h3 o v hv
  ·rw[List.all_eq_true]at jR
   have h5:=jR y hy
   simp only[Bool.or_eq_true,beq_iff_eq,nN,false_or,List.all_eq_true,bne_iff_ne]at h5
   have ye:¬β y.id g:=λe=>h.apart y x g hy hx hl' dU nN e hgx
   exact(h.var y hy hl').keep rfl rfl (λg' A6=>ai λe=>ye (e▸A6)) (Nat.le_of_eq size_setRow.symm) (λF hF=>hF.ext he) (λF hF=>hF.ext (ext _ λo=>⟨og o,ye⟩)) (gy h5)
 ·intro y y' g' hy hy' h1 h2 hne
  rw[ct (nb y hy).1 (nb y hy).2]at h1
  rw[ct (nb y' hy').1 (nb y' hy').2]at h2
  exact h.apart y y' g' hy hy' h1 h2 hne
 ·intro p hp hl' hcd
  have wY:p.tag≠some i:=λe=>by have:=hwf.a2 p hp e; rw[hnone]at this; cases this
  rw[bY wY]at hl'
  exact h.al p hp hl' hcd
 ·intro e sZ hl' hf
  obtain⟨hf,A4⟩:=gT hf
  have ht:e.tag≠some i:=λe'=>by have:=hwf.g2 e sZ e'; rw[hnone]at this; cases this
  rw[bY ht]at hl'
  rw[eO nb]
  exact(h.ew e sZ hl' hf).ext he
theorem jl (hI:aQ c V A G L β a w) (hd:iY ms i L) {v:Vr} (hv:v∈V) (ho:bC ms i v=true) (bR:v.kd=.obj):oc (own c V L β) c L a w v (β v.id):=(aB bR).1 (hI.var v hv (hd.live ho))
theorem fq (hd:iY ms i L) {st:List (Nat×Rel)} {p:Rel} (h:(st.all λq=>(q.1==i||(ms.getD i 0).testBit q.1)||(ms.getD q.1 0).testBit i)=true):cont L p st=cont (λj=>(ms.getD i 0).testBit j) p st:=by
 rw[List.all_eq_true]at h
 refine fu λq hq=>?_
 have:=h q hq
 simp only[Bool.or_eq_true,beq_iff_eq]at this
 rcases this with(h5|h5)|h5
 ·rw[h5,hd.no,hd.irrefl]
 ·rw[hd.before _ h5,h5]
 ·have h6:=hd.behind _ h5
  rw[h6]
  cases h7:(ms.getD i 0).testBit q.1 with
  |false=>rfl
  |true=>rw[hd.before _ h7]at h6; cases h6
variable {T:TypeId} {v:Vr} {H:List Bk} {e:Bk} {it:It} {b idx off:Nat}
theorem zl (k:Nat) (hk:V[k]?=some v) (ho:bC ms i v=true) (bR:v.kd=.obj) (hst:(v.st.all λq=>(q.1==i||(ms.getD i 0).testBit q.1)||(ms.getD q.1 0).testBit i)=true)
  (hc:cont (λj=>(ms.getD i 0).testBit j) v.c0 v.st=uN H) (h:Has ms G i y (aG (.pointer (some ⟨b,off,none⟩)))) (he:e∈H) (hb:e.b=b) (hi:e.items[idx]?=some it) (hoff:off=idx*e.sz) (ht:Ty P T e.agg e.sz) (hp:Post G i it.p):
  OpOk P ops ms c V A G i ⟨some d,.load T y,ty,pos,aft,none⟩:=
 bD rfl rfl rfl (.inl rfl) hp λL β a w hI hd=>by
  have hO:=jl hI hd (List.mem_of_getElem? hk) ho bR
  have hH:=hO.2.out
  rw[fq hd hst,hc]at hH
  obtain⟨cs,t,h1,h2,h3,h4⟩:=hH.2.2 e he
  have hy:a.eval y=.pointer (some ⟨b,off,none⟩):=(h.spec hI hd).out
  have vM:idx<e.items.length:=by
   rcases Nat.lt_or_ge idx e.items.length with h'|h'
   ·exact h'
   ·rw[List.getElem?_eq_none h']at hi; cases hi
  have hle:(idx+1)*e.sz<=e.items.length*e.sz:=Nat.mul_le_mul_right _ vM
  rw[Nat.add_mul,Nat.one_mul]at hle
  refine⟨aq e.agg ((cs.drop (idx*e.sz)).take e.sz),w,?_,Below.refl _ _,it.nl _ w _ (aF hI) (h4 idx it hi)⟩
  show(do pure (Next.value (<-Instr.loadAt T (a.eval y)))).run P w=_
  rw[hy,<-hb,hoff,Sem.run_bind,cT (cs:=(cs.drop (idx*e.sz)).take e.sz) ht (gw h1 (idx*e.sz) e.sz) (by rw[List.length_take,List.length_drop]; omega)]
  rfl
theorem wu (k:Nat) (hk:V[k]?=some v) (ho:bC ms i v=true) (bR:v.kd=.obj) (hst:(v.st.all λq=>(q.1==i||(ms.getD i 0).testBit q.1)||(ms.getD q.1 0).testBit i)=true)
  (m:Nat) (hm:v.st[m]?=some (i,uN (dm H b idx it))) (hr:((v.st.drop (m+1)).all λr=>(ms.getD r.1 0).testBit i)=true) (eE:(V.all λy=>y.id==v.id||y.st.all λq=>q.1 != i)=true)
  (hc:cont (λj=>(ms.getD i 0).testBit j) v.c0 v.st=uN H) (h:Has ms G i y (aG (.pointer (some ⟨b,off,none⟩)))) (he:e∈H) (hb:e.b=b) (hi:idx<e.items.length) (hoff:off=idx*e.sz) (ht:Ty P T e.agg e.sz) (hz:Has ms G i z it.p) (hf:Fits e.sz e.agg it.p):
  OpOk P ops ms c V A G i ⟨none,.store T y z,ty,pos,aft,none⟩:=by
 refine eZ (λL β a w hI hd hwf=>?_) rfl
 have hv:=List.mem_of_getElem? hk
 have hO:=jl hI hd hv ho bR
 have hH:=hO.2.out
 rw[fq hd hst,hc]at hH
 have hH:cn (β v.id) w H:=hH
 obtain⟨cs,t,h1,h2,h3,h4⟩:=hH.2.2 e he
 have hy:a.eval y=.pointer (some ⟨b,off,none⟩):=(h.spec hI hd).out
 have hval:=hz.spec hI hd
 obtain⟨ds,e1,hl,hcells,hu⟩:=hf w _ hval.out
 have hle:(idx+1)*e.sz<=e.items.length*e.sz:=Nat.mul_le_mul_right _ hi
 rw[Nat.add_mul,Nat.one_mul]at hle
 subst hb
 subst hoff
 have hr':(execOp a.eval ⟨none,.store T y z,ty,pos,aft,none⟩).run P w=.ok .skip (w.setRow e.b (cs.take (idx*e.sz)++ds++cs.drop (idx*e.sz+e.sz)).toArray):=by
  show(do Instr.storeAt T (a.eval y) (a.eval z); pure Next.skip).run P w=_
  rw[hy]
  have:=er (P:=P) (off:=idx*e.sz) ht h1 hcells hl (by omega) (λu dH=>(hu u dH).2)
  simp only[Sem.run_bind,this,Result.andThen_ok,Sem.run_pure]
 have hgx:β v.id e.b:=(hH.1 _).2 ⟨e,he,rfl⟩
 have hlo:v.lo=0:=by unfold Vr.lo; rw[bR]
 have hU:Ext (own c V L β) w (w.setRow e.b (cs.take (idx*e.sz)++ds++cs.drop (idx*e.sz+e.sz)).toArray):=⟨Nat.le_of_eq size_setRow.symm,λk hk hno=>ai λe'=>hno 0 (by rw[e']; exact .inr ⟨v,hv,hd.live ho,hgx,by rw[hlo]; exact Nat.zero_le _⟩),λk o u hno dH=>by
  have ou:k≠e.b:=λe'=>hno (by rw[e']; exact .inr ⟨v,hv,hd.live ho,hgx,by rw[hlo]; exact Nat.zero_le _⟩)
  rw[World.cell?_of_block (w:=w) (a:=⟨k,o,none⟩) (ai ou)]; exact dH⟩
 have CY:=hH.set (aF hI) he hi (it:=it) h1 h2 h3 h4 hl (λu dH=>(hu u dH).1) (by rw[<-e1]; exact hval.out) hU
 unfold Does
 rw[hr']
 refine hI.uZ hwf rfl hv (hd.live ho) bR rfl hgx h1 (λu dH=>?_) ?_ eE _
 ·rcases List.mem_append.1 dH with dH|dH
  ·rcases List.mem_append.1 dH with dH|dH
   ·exact h3 u (List.mem_of_mem_take dH)
   ·exact(hu u dH).1
  ·exact h3 u (List.mem_of_mem_drop dH)
 ·rw[iQ m hm hd hr]
  refine CY.box λk o hk=>?_
  obtain⟨k1,k2⟩:=aF hI k o hk
  refine⟨by rw[size_setRow]; exact k1,λu dH=>?_⟩
  by_cases ou:k=e.b
  ·exact(CY.qf (by rw[ou]; exact hgx)).2 o u dH
  ·rw[World.cell?_of_block (w:=w) (a:=⟨k,o,none⟩) (ai ou)]at dH
   exact k2 u dH
variable {E:TypeId} {n cap:Nat}
theorem tH {sz o':Nat} {m:Int} (h:Has ms G i x (aG (.slice (some ⟨b,o',none⟩) n cap))) (hy:Has ms G i y (pI m)) (ht:iZ P T E sz) (h0:0<=m) (h1:m<n) (hA:(A.all λq=>q.tag != some i)=true) (hp:Post G i (aG (.pointer (some ⟨b,o'+m.toNat*sz,none⟩)))):
  OpOk P ops ms c V A G i ⟨some d,.indexAddr T x y,ty,pos,aft,none⟩:=
 bD rfl rfl rfl (.inr hA) hp λL β a w hI hd=>by
  have hx:a.eval x=.slice (some ⟨b,o',none⟩) n cap:=(h.spec hI hd).out
  have hi:a.eval y=.int .i64 m:=(hy.spec hI hd).out
  refine⟨_,w,?_,Below.refl _ _,λ_ _=>rfl⟩
  show(do pure (Next.value (<-Instr.indexAt T (a.eval x) (a.eval y)))).run P w=_
  rw[hx,hi,Sem.run_bind,lD ht h0 h1]
  rfl
theorem rX {A':Option Addr} (h:Has ms G i x (aG (.slice A' n cap))) (ht:P.underlying T=some (.slice E)) (hp:Post G i (pI (n:Int))):
  OpOk P ops ms c V A G i ⟨some d,.call ⟨.builtin .len,#[x],#[T]⟩,ty,pos,aft,none⟩:=
 eL rfl rfl rfl rfl h hp λρ w h=>⟨.int .i64 n,by
  have h:ρ x=.slice A' n cap:=h
  have hr:(Builtin.len_ #[T] ty #[ρ x]).run P w=.ok (.int .i64 n) w:=by
   rw[h]
   unfold Builtin.len_
   simp[run_underlying ht,goInt]
  show(do let d <-resolve ρ ⟨.builtin .len,#[x],#[T]⟩ ty; invoke d.target d.args).run P w=_
  simp only[resolve,invoke,pure_bind,builtin]
  rw[show(#[x]:Array Operand).map ρ=#[ρ x] by simp,Sem.run_bind,hr]
  rfl,λ_ _=>rfl⟩
end
end Wx
