import Derived.Test.YtfnmkhlleanppaaGreatDoorJWN22
namespace Wx
open Go Go.RowKit
def One (b n:Nat) (q:Pred) (w:World):Prop:=∃(cs:List Value) (T:TypeId),w.heap[b]?=some (.cells cs.toArray T (0,0))/\cs.length=n/\(∀v∈cs,dc v)/\q w (ae true cs)
def oA (b n:Nat) (q:Pred):Rel:=λB w _=>(∀k,B k↔k=b)/\One b n q w
abbrev ek (id b n:Nat) (q:Pred):Vr:=jH id id (oA b n q)
variable {b n:Nat} {q:Pred} {w:World}
theorem One.lB (h:One b n q w):∀o v,w.cell? ⟨b,o,none⟩=some v->dc v:=by
 obtain⟨cs,T,h1,_,h3,_⟩:=h
 intro o v hv
 simp only[World.cell?,h1]at hv
 have:cs[o]?=some v:=by simpa using hv
 exact h3 v (List.mem_of_getElem? this)
theorem One.imp {q':Pred} (h:One b n q w) (hq:∀w v,q w v->q' w v):One b n q' w:=by
 obtain⟨cs,T,h1,h2,h3,h4⟩:=h
 exact⟨cs,T,h1,h2,h3,hq _ _ h4⟩
theorem One.box {M:Nat->Nat->Prop} {B:Nat->Prop} (h:One b n q w) (hB:B b) (hn:bQ q) (hM:cQ M w):aL (minus M B) (One b n q) w:=by
 obtain⟨cs,T,h1,h2,h3,h4⟩:=h
 intro w' he
 exact⟨cs,T,(he.block b ((Array.getElem?_eq_some_iff.1 h1).1) λo ho=>ho.2 hB).trans h1,h2,h3,hn _ w _ (λk o hk=>hM k o hk.1) h4 w' he⟩
theorem AP {c:bD} {V:List Vr} {G:List aD} {a:Act} {i T:Nat} (hI:Inv c V [] G none_ a w) (k:Nat) (hk:V[k]?=some (Vz i i T n true q)):∃b,Inv c (V.set k (ek i b n q)) [] (⟨none,none,i,aE (.pointer (some ⟨b,0,none⟩))⟩::G) none_ a w:=by
 obtain⟨β,h⟩:=hI
 have hx:=List.mem_of_getElem? hk
 have hkn:=(List.getElem?_eq_some_iff.1 hk).1
 obtain⟨g,e,h1,hb⟩:=(bk rfl).1 (h.var _ hx rfl)
 obtain⟨cs,k1,k2,k3,k4⟩:=hb.held
 have e:∀k,β i k↔k=g:=e
 have hmem:∀y,y∈V.set k (ek i g n q)->y=ek i g n q\/y∈V:=λy hy=>(List.mem_or_eq_of_mem_set hy).symm
 have zQ:∀y,y∈V->y=Vz i i T n true q\/y∈V.set k (ek i g n q):=by
  intro y hy
  obtain⟨m,hm⟩:=List.mem_iff_getElem?.1 hy
  by_cases hmk:m=k
  ·subst hmk
   rw[hk]at hm
   exact .inl (Option.some.inj hm).symm
  ·exact .inr (List.mem_iff_getElem?.2 ⟨m,by rw[List.getElem?_set_ne (Ne.symm hmk)]; exact hm⟩)
 have hnew:ek i g n q∈V.set k (ek i g n q):=List.mem_iff_getElem?.2 ⟨k,by rw[List.getElem?_set_self hkn]⟩
 have eo:own c (V.set k (ek i g n q)) none_ β=own c V none_ β:=by
  funext k' o
  apply propext
  constructor
  ·rintro(h'|⟨y,hy,h1,h2,h3⟩)
   ·exact .inl h'
   ·rcases hmem y hy with rfl|hy
    ·exact .inr ⟨_,hx,rfl,h2,Nat.zero_le _⟩
    ·exact .inr ⟨y,hy,h1,h2,h3⟩
  ·rintro(h'|⟨y,hy,h1,h2,h3⟩)
   ·exact .inl h'
   ·rcases zQ y hy with rfl|hy
    ·exact .inr ⟨_,hnew,rfl,h2,Nat.zero_le _⟩
    ·exact .inr ⟨y,hy,h1,h2,h3⟩
 have h4:aL (own c V none_ β) (λw=>q w (ae true cs)) w:=k4
 refine⟨g,β,h.size,h.defers,h.below,h.old,λy hy hl=>?_,λy y' g' hy hy' hl hl' hne=>?_,(λp hp=>by cases hp),λe' he ho hf=>?_⟩
 ·rw[eo]
  rcases hmem y hy with rfl|hy
  ·refine(aP rfl).2 ⟨λk' hk'=>?_,λw' he=>⟨e,cs,T,?_,k2,k3,h4 w' (he.mono λk o _ hk=>hk.1)⟩⟩
   ·have:=(e k').1 hk'
    subst this
    exact(h.var _ hx rfl).blk hk'
   ·exact(he.block g ((Array.getElem?_eq_some_iff.1 k1).1) λo ho=>ho.2 ((e g).2 rfl)).trans k1
  ·exact h.var y hy hl
 ·have hy0:∃z,z∈V/\z.id=y.id/\live none_ z=true:=(hmem y hy).elim (λe=>⟨_,hx,by rw[e],rfl⟩) λh=>⟨y,h,rfl,hl⟩
  have D5:∃z,z∈V/\z.id=y'.id/\live none_ z=true:=(hmem y' hy').elim (λe=>⟨_,hx,by rw[e],rfl⟩) λh=>⟨y',h,rfl,hl'⟩
  obtain⟨z,hz,ez,lz⟩:=hy0
  obtain⟨z',vQ,CJ,Eb⟩:=D5
  rw[<-ez,<-CJ]
  exact h.apart z z' g' hz vQ lz Eb (by rw[ez,CJ]; exact hne)
 ·rw[eo]
  rcases List.mem_cons.1 he with rfl|he
  ·exactλw' _=>h1
  ·exact h.fq e' he ho hf
section
variable {P:Program} {ops:Array Oper} {ms:List Nat} {c:bD} {V:List Vr} {A:List Al} {G:List aD} {i:Nat}{d:Nat} {x y z:Operand} {ty:TypeId} {pos:String} {aj:Array Edge}{b n:Nat} {q:Pred} {v:Vr}
theorem sN {L:Nat->Bool} {β:Nat->Nat->Prop} {a:Act} {w:World} (hI:aT c V A G L β a w) (hd:gg ms i L) (hv:v∈V) (ho:bq ms i v=true) (bH:v.kd=.obj) (hst:(v.st.all λq=>(q.1==i||(ms.getD i 0).testBit q.1)||(ms.getD q.1 0).testBit i)=true)
  (hc:cont (λj=>(ms.getD i 0).testBit j) v.c0 v.st=oA b n q):(∀k,β v.id k↔k=b)/\One b n q w:=by
 have hH:=(iu hI hd hv ho bH).2.out
 rw[dY hd hst,hc]at hH
 exact hH
variable {T:TypeId} {off:Nat}
theorem qx {m:Nat} {ag:Bool} {p q':Pred} (k:Nat) (hk:V[k]?=some v) (ho:bq ms i v=true) (bH:v.kd=.obj) (hst:(v.st.all λq=>(q.1==i||(ms.getD i 0).testBit q.1)||(ms.getD q.1 0).testBit i)=true)
  (mk:Nat) (hm:v.st[mk]?=some (i,oA b n q')) (hr:((v.st.drop (mk+1)).all λr=>(ms.getD r.1 0).testBit i)=true) (ej:(V.all λy=>y.id==v.id||y.st.all λq=>q.1 != i)=true)
  (hc:cont (λj=>(ms.getD i 0).testBit j) v.c0 v.st=oA b n q) (h:Has ms G i y (aE (.pointer (some ⟨b,off,none⟩)))) (hlen:off+m<=n) (ht:Ty P T ag m) (hz:Has ms G i z p) (hf:Fits m ag p)
  (hq:∀w cs ds,cs.length=n->ds.length=m->q w (ae true cs)->p w (ae ag ds)->q' w (ae true (cs.take off++ds++cs.drop (off+m)))) (hn:bQ q'):
  OpOk P ops ms c V A G i ⟨none,.store T y z,ty,pos,aj,none⟩:=by
 refine dI (λL β a w hI hd hwf=>?_) rfl
 have hv:=List.mem_of_getElem? hk
 obtain⟨hβ,cs,t,h1,h2,h3,h4⟩:=sN hI hd hv ho bH hst hc
 have hy:a.eval y=.pointer (some ⟨b,off,none⟩):=(h.spec hI hd).out
 have hval:=hz.spec hI hd
 obtain⟨ds,e1,hl,hcells,hu⟩:=hf w _ hval.out
 have hr':(execOp a.eval ⟨none,.store T y z,ty,pos,aj,none⟩).run P w=.ok .skip (w.setRow b (cs.take off++ds++cs.drop (off+m)).toArray):=by
  show(do Instr.storeAt T (a.eval y) (a.eval z); pure Next.skip).run P w=_
  rw[hy]
  have:=dy (P:=P) (off:=off) ht h1 hcells hl (by omega) (λu de=>(hu u de).2)
  simp only[Sem.run_bind,this,Result.andThen_ok,Sem.run_pure]
 have hgx:β v.id b:=(hβ b).2 rfl
 have hlo:v.lo=0:=by unfold Vr.lo; rw[bH]
 have og:∀o,own c V L β b o:=λo=>.inr ⟨v,hv,hd.live ho,hgx,by rw[hlo]; exact Nat.zero_le _⟩
 have kZ:Ext (own c V L β) w (w.setRow b (cs.take off++ds++cs.drop (off+m)).toArray):=⟨Nat.le_of_eq size_setRow.symm,λk hk hno=>ak λe'=>hno 0 (by rw[e']; exact og 0),λk o u hno de=>by
  have nF:k≠b:=λe'=>hno (by rw[e']; exact og o)
  rw[World.cell?_of_block (w:=w) (a:=⟨k,o,none⟩) (ak nF)]; exact de⟩
 have hnew:q' w (ae true (cs.take off++ds++cs.drop (off+m))):=hq w cs ds h2 hl h4 (by rw[<-e1]; exact hval.out)
 have zS:∀u∈cs.take off++ds++cs.drop (off+m),dc u:=λu de=>by
  rcases List.mem_append.1 de with de|de
  ·rcases List.mem_append.1 de with de|de
   ·exact h3 u (List.mem_of_mem_take de)
   ·exact(hu u de).1
  ·exact h3 u (List.mem_of_mem_drop de)
 have hlt:b<w.heap.size:=(Array.getElem?_eq_some_iff.1 h1).1
 have hone:One b n q' (w.setRow b (cs.take off++ds++cs.drop (off+m)).toArray):=⟨_,t,setRow_heap w _ _ _ _ _ h1,by rw[List.length_append,List.length_append,List.length_take,List.length_drop]; omega,zS,hn _ w _ (aF hI) hnew _ kZ⟩
 unfold Does
 rw[hr']
 refine hI.pH hwf rfl hv (hd.live ho) bH rfl hgx h1 zS ?_ ej _
 rw[fl mk hm hd hr]
 have jc:cQ (own c V L β) (w.setRow b (cs.take off++ds++cs.drop (off+m)).toArray):=λk o hk=>by
  obtain⟨k1,k2⟩:=aF hI k o hk
  refine⟨by rw[size_setRow]; exact k1,λu de=>?_⟩
  by_cases nF:k=b
  ·rw[nF]at de; exact hone.lB o u de
  ·rw[World.cell?_of_block (w:=w) (a:=⟨k,o,none⟩) (ak nF)]at de
   exact k2 u de
 exact(hone.box hgx hn jc).imp λw h=>⟨hβ,h⟩
theorem iE (len sz q:Nat) (h:Has ms G i x (aE (.pointer (some ⟨b,off,none⟩))):=by exact hs) (hy:Has ms G i y (pI (q:Int)):=by exact(Wx.hs).imp (fh (by omega))) (hq:q<len:=by omega) (hp:Post G i (aE (.pointer (some ⟨b,off+q*sz,none⟩))):=by exact pt rfl) (ht:wP P T len sz=true:=by kernel_rfl) (hA:(A.all λq=>q.tag != some i)=true:=by kernel_rfl):
  OpOk P ops ms c V A G i ⟨some d,.indexAddr T x y,ty,pos,aj,none⟩:=
 bu rfl rfl rfl (.inr hA) hp λL β a w hI hd=>by
  have hx:a.eval x=.pointer (some ⟨b,off,none⟩):=(h.spec hI hd).out
  have hi:a.eval y=.int .i64 (q:Int):=(hy.spec hI hd).out
  refine⟨_,w,?_,Below.refl _ _,λ_ _=>rfl⟩
  show(do pure (Next.value (<-Instr.indexAt T (a.eval x) (a.eval y)))).run P w=_
  rw[hx,hi,Sem.run_bind,gT ht (by omega) (by omega) w]
  rfl
theorem fE {S f:Nat} (o:Nat) (h:Has ms G i x (aE (.pointer (some ⟨b,off,none⟩))):=by exact hs) (hp:Post G i (aE (.pointer (some ⟨b,off+o,none⟩))):=by exact pt rfl) (hf:∀b off w,(Instr.fieldAt S (.pointer (some ⟨b,off,none⟩)) f).run P w=.ok (.pointer (some ⟨b,off+o,none⟩)) w:=by exactλ_ _ _=>by kernel_rfl) (hA:(A.all λq=>q.tag != some i)=true:=by kernel_rfl):
  OpOk P ops ms c V A G i ⟨some d,.fieldAddr S x f,ty,pos,aj,none⟩:=
 bu rfl rfl rfl (.inr hA) hp λL β a w hI hd=>by
  have hx:a.eval x=.pointer (some ⟨b,off,none⟩):=(h.spec hI hd).out
  refine⟨_,w,?_,Below.refl _ _,λ_ _=>rfl⟩
  show(do pure (Next.value (<-Instr.fieldAt S (a.eval x) f))).run P w=_
  rw[hx,Sem.run_bind,hf]
  rfl
theorem nc (h:Has ms G i x (aE (.pointer (some ⟨b,off,none⟩))):=by exact hs) (hp:Post G i (aE (.pointer (some ⟨b,off,none⟩))):=by exact pt rfl):OpOk P ops ms c V A G i ⟨some d,.nilCheck x,ty,pos,aj,none⟩:=
 dw rfl rfl rfl rfl h hp λρ w h=>⟨.pointer (some ⟨b,off,none⟩),by
  have h:ρ x=.pointer (some ⟨b,off,none⟩):=h
  simp only[execOp,h]
  rfl,λ_ _=>rfl⟩
end
theorem vO {V:List Vr} {N b n:Nat} {q q':Pred} (hq:∀w v,q w v->q' w v:=by exactλ_ _ h=>h) (h:lK N V=some (ek N b n q):=by exact rfl):∃r:Rel,lK (ek N b n q').id V=some ⟨(ek N b n q').id,(ek N b n q').slot,none,none,(ek N b n q').kd,(ek N b n q').T,(ek N b n q').n,(ek N b n q').agg,r,[]⟩/\((ek N b n q').born=none/\(ek N b n q').dead=none/\(ek N b n q').st=[])/\∀F w v,r F w v->(ek N b n q').c0 F w v:=
 ⟨_,h,⟨rfl,rfl,rfl⟩,λ_ _ _ h=>⟨h.1,h.2.imp hq⟩⟩
section
variable {P:Program} {c:bD} {V:List Vr} {G:List aD} {a:Act} {w:World} {x y z:Operand} {d:Nat} {ty:TypeId} {pos:String} {aj:Array Edge}
end
end Wx

namespace Wx
open Go Go.RowKit
set_option linter.unusedVariables false
section
variable {P:Program} {c:bD} {V:List Vr} {G:List aD} {a:Act} {w:World}
end
end Wx

namespace Wx
open Go Go.RowKit
set_option linter.unusedVariables false
section
variable {P:Program} {c:bD} {V:List Vr} {A:List Al} {G:List aD} {a:Act} {w:World} {β:Nat->Nat->Prop} {x y z:Operand} {d:Nat} {ty:TypeId} {pos:String} {aj:Array Edge}
theorem aT.wK {b:Nat} {R:(Nat->Prop)->World->Prop} {v:Value} {w':World} (h:aT c V [] G none_ β a w) (hb:Below w.heap.size w w') (hB:w.heap.size<=b) (hlt:b<w'.heap.size) (hno:∀o u,w'.cell? ⟨b,o,none⟩=some u->dc u) (hR:∀M,cQ M w'->aL (minus M (·=b)) (R (·=b)) w') (hd:d<c.N)
  (hV:(V.all λy=>(y.slot != d&&y.id != d)&&(y.born.isNone&&y.dead.isNone))=true) (hG:(G.all λe=>e.slot != d)=true):
  Inv c (jH d d (λB w _=>R B w)::V) [] (⟨none,none,d,aE v⟩::G) none_ (a.put (some d) v) w':=by
 have hV:∀y,y∈V->(y.slot≠d/\y.id≠d)/\live none_ y=true:=λy hy=>by
  rw[List.all_eq_true]at hV
  have:=hV y hy
  simp only[Bool.and_eq_true,bne_iff_ne]at this
  refine⟨this.1,?_⟩
  unfold live
  cases hb:y.born with
  |some j=>rw[hb]at this; cases this.2.1
  |none=>cases hd:y.dead with
   |some j=>rw[hd]at this; cases this.2.2
   |none=>rfl
 have hG:∀e,e∈G->e.slot≠d:=λe he=>by
  rw[List.all_eq_true]at hG
  simpa using hG e he
 let β':Nat->Nat->Prop:=λs=>if s=d then(·=b)else β s
 have hβ:∀y,y∈V->β' y.id=β y.id:=λy hy=>if_neg (hV y hy).1.2
 have lT:β' d=(·=b):=if_pos rfl
 have e3:Ext (own c V none_ β) w w':=Ext.bC hb
 have hown:∀k j,k<w.heap.size->own c (jH d d (λB w _=>R B w)::V) none_ β' k j->own c V none_ β k j:=by
  rintro k j hk (h1|⟨y,hy,h1,h2,h3⟩)
  ·exact .inl h1
  ·rcases List.mem_cons.1 hy with rfl|hy
   ·have h2:β' d k:=h2
    rw[lT]at h2
    have h2:k=b:=h2
    omega
   ·rw[hβ y hy]at h2
    exact .inr ⟨y,hy,h1,h2,h3⟩
 have jc:cQ (own c (jH d d (λB w _=>R B w)::V) none_ β') w':=by
  rintro k j hk
  rcases Nat.lt_or_ge k w.heap.size with h'|h'
  ·obtain⟨h1,h2⟩:=aF h k j (hown k j h' hk)
   refine⟨Nat.lt_of_lt_of_le h1 hb.size,λu hu=>h2 u ?_⟩
   rw[World.cell?_of_block (w:=w) (a:=⟨k,j,none⟩) (hb.block k h')]at hu
   exact hu
  ·rcases hk with h1|⟨y,hy,h1,h2,h3⟩
   ·exact absurd (iv h (.inl h1)) (by omega)
   ·rcases List.mem_cons.1 hy with rfl|hy
    ·have h2:β' d k:=h2
     rw[lT]at h2
     have h2:k=b:=h2
     subst h2
     exact⟨hlt,λu hu=>hno j u hu⟩
    ·rw[hβ y hy]at h2
     exact absurd (bR h hy h1 h2) (by omega)
 have sd:∀s,s≠d->sl (a.put (some d) v) s=sl a s:=λs hs=>bf λe=>hs (Option.some.inj e).symm
 refine⟨β',by rw[dh]; exact h.size,by rw[put_defers]; exact h.defers,h.below.trans (cI.bC hb),h.fg λk hk hn=>hb.block k (Nat.lt_of_lt_of_le hk h.below.size),?_,?_,(λp hp=>by cases hp),?_⟩
 ·intro y hy _
  rcases List.mem_cons.1 hy with rfl|hy
  ·refine(aP rfl).2 ⟨λk hk=>?_,?_⟩
   ·have hk:β' d k:=hk
    rw[lT]at hk
    have hk:k=b:=hk
    subst hk
    exact⟨.inl (Nat.le_trans h.below.size hB),hlt,λo u hu=>hno o u hu⟩
   ·show aL (minus _ (β' d)) (λw=>R (β' d) w) w'
    rw[lT]
    exact hR _ jc
  ·have zZ:=(hV y hy).2
   refine(h.var y hy zZ).keep (sd _ (hV y hy).1.1) (hβ y hy) (λg hg=>hb.block g (bR h hy zZ hg)) hb.size (λF hF=>cK e3 hown hF) (λF hF=>?_) rfl
   refine cK (M:=minus (own c V none_ β) (β y.id)) (Ext.bC hb) ?_ hF
   rintro k j hk ⟨h1,h2⟩
   exact⟨hown k j hk h1,h2⟩
 ·intro y y' g hy hy' _ _ hne
  rcases List.mem_cons.1 hy with rfl|hy<;>rcases List.mem_cons.1 hy' with rfl|hy'
  ·exact absurd rfl hne
  ·intro h1 h2
   have h1:β' d g:=h1
   rw[lT]at h1
   rw[hβ y' hy']at h2
   have h1:g=b:=h1
   exact absurd (bR h hy' (hV y' hy').2 h2) (by omega)
  ·intro h1 h2
   have h2:β' d g:=h2
   rw[lT]at h2
   rw[hβ y hy]at h1
   have h2:g=b:=h2
   exact absurd (bR h hy (hV y hy).2 h1) (by omega)
  ·rw[hβ y hy,hβ y' hy']
   exact h.apart y y' g hy hy' (hV y hy).2 (hV y' hy').2 hne
 ·intro e he ho hf
  rcases List.mem_cons.1 he with rfl|he
  ·refineλw'' _=>?_
   show sl (a.put (some d) v) d=v
   exact dK (by rw[h.size]; exact hd)
  ·have:=h.fq e he ho hf
   show aL _ (λw=>e.p w (sl (a.put (some d) v) e.slot)) w'
   rw[sd _ (hG e he)]
   exact cK e3 hown this
end
section
variable {P:Program} {ops:Array Oper} {ms:List Nat} {c:bD} {V:List Vr} {A:List Al} {G:List aD} {i:Nat}{x y z:Operand} {d:Nat} {ty:TypeId} {pos:String} {aj:Array Edge}
end
end Wx
