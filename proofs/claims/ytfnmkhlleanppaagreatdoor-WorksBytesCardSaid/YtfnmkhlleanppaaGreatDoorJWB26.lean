import Derived.Test.YtfnmkhlleanppaaGreatDoorCWBAuto14
namespace Wx
open Go Go.RowKit
def One (b n:Nat) (q:Pred) (w:World):Prop:=∃(cs:List Value) (T:TypeId),w.heap[b]?=some (.cells cs.toArray T (0,0))/\cs.length=n/\(∀v∈cs,dG v)/\q w (ah true cs)
def qy (b n:Nat) (q:Pred):Rel:=λB w _=>(∀k,B k↔k=b)/\One b n q w
abbrev fu (id b n:Nat) (q:Pred):Vr:=lu id id (qy b n q)
variable {b n:Nat} {q:Pred} {w:World}
theorem One.nw (h:One b n q w):∀o v,w.cell? ⟨b,o,none⟩=some v->dG v:=by
 obtain⟨cs,T,h1,_,h3,_⟩:=h
 intro o v hv
 simp only[World.cell?,h1]at hv
 have:cs[o]?=some v:=by simpa using hv
 exact h3 v (List.mem_of_getElem? this)
theorem One.imp {q':Pred} (h:One b n q w) (hq:∀w v,q w v->q' w v):One b n q' w:=by
 obtain⟨cs,T,h1,h2,h3,h4⟩:=h
 exact⟨cs,T,h1,h2,h3,hq _ _ h4⟩
theorem One.box {M:Nat->Nat->Prop} {B:Nat->Prop} (h:One b n q w) (hB:B b) (hn:cr q) (hM:dm M w):aK (minus M B) (One b n q) w:=by
 obtain⟨cs,T,h1,h2,h3,h4⟩:=h
 intro w' he
 exact⟨cs,T,(he.block b ((Array.getElem?_eq_some_iff.1 h1).1) λo ho=>ho.2 hB).trans h1,h2,h3,hn _ w _ (λk o hk=>hM k o hk.1) h4 w' he⟩
theorem C3 {c:bJ} {V:List Vr} {G:List aI} {a:Act} {i T:Nat} (hI:Inv c V [] G none_ a w) (k:Nat) (hk:V[k]?=some (Vz i i T n true q)):∃b,Inv c (V.set k (fu i b n q)) [] (⟨none,none,i,aJ (.pointer (some ⟨b,0,none⟩))⟩::G) none_ a w:=by
 obtain⟨β,h⟩:=hI
 have hx:=List.mem_of_getElem? hk
 have hkn:=(List.getElem?_eq_some_iff.1 hk).1
 obtain⟨g,e,h1,hb⟩:=(bz rfl).1 (h.var _ hx rfl)
 obtain⟨cs,k1,k2,k3,k4⟩:=hb.held
 have e:∀k,β i k↔k=g:=e
 have hmem:∀y,y∈V.set k (fu i g n q)->y=fu i g n q\/y∈V:=λy hy=>(List.mem_or_eq_of_mem_set hy).symm
 have Ck:∀y,y∈V->y=Vz i i T n true q\/y∈V.set k (fu i g n q):=by
  intro y hy
  obtain⟨m,hm⟩:=List.mem_iff_getElem?.1 hy
  by_cases hmk:m=k
  ·subst hmk
   rw[hk]at hm
   exact .inl (Option.some.inj hm).symm
  ·exact .inr (List.mem_iff_getElem?.2 ⟨m,by rw[List.getElem?_set_ne (Ne.symm hmk)]; exact hm⟩)
 have hnew:fu i g n q∈V.set k (fu i g n q):=List.mem_iff_getElem?.2 ⟨k,by rw[List.getElem?_set_self hkn]⟩
 have eo:own c (V.set k (fu i g n q)) none_ β=own c V none_ β:=by
  funext k' o
  apply propext
  constructor
  ·rintro(h'|⟨y,hy,h1,h2,h3⟩)
   ·exact .inl h'
   ·rcases hmem y hy with rfl|hy
    ·exact .inr ⟨_,hx,rfl,h2,Nat.zero_le _⟩
    ·exact .inr ⟨y,hy,h1,h2,h3⟩
  ·rintro(h'|⟨y,hy,h1,h2,h3⟩)
   ·exact .inl h'
   ·rcases Ck y hy with rfl|hy
    ·exact .inr ⟨_,hnew,rfl,h2,Nat.zero_le _⟩
    ·exact .inr ⟨y,hy,h1,h2,h3⟩
 have h4:aK (own c V none_ β) (λw=>q w (ah true cs)) w:=k4
 refine⟨g,β,h.size,h.defers,h.below,h.old,λy hy hl=>?_,λy y' g' hy hy' hl hl' hne=>?_,(λp hp=>by cases hp),λe' he ho hf=>?_⟩
 ·rw[eo]
  rcases hmem y hy with rfl|hy
  ·refine(aQ rfl).2 ⟨λk' hk'=>?_,λw' he=>⟨e,cs,T,?_,k2,k3,h4 w' (he.mono λk o _ hk=>hk.1)⟩⟩
   ·have:=(e k').1 hk'
    subst this
    exact(h.var _ hx rfl).blk hk'
   ·exact(he.block g ((Array.getElem?_eq_some_iff.1 k1).1) λo ho=>ho.2 ((e g).2 rfl)).trans k1
  ·exact h.var y hy hl
 ·have hy0:∃z,z∈V/\z.id=y.id/\live none_ z=true:=(hmem y hy).elim (λe=>⟨_,hx,by rw[e],rfl⟩) λh=>⟨y,h,rfl,hl⟩
  have Gp:∃z,z∈V/\z.id=y'.id/\live none_ z=true:=(hmem y' hy').elim (λe=>⟨_,hx,by rw[e],rfl⟩) λh=>⟨y',h,rfl,hl'⟩
  obtain⟨z,hz,ez,lz⟩:=hy0
  obtain⟨z',yJ,ET,Gu⟩:=Gp
  rw[<-ez,<-ET]
  exact h.apart z z' g' hz yJ lz Gu (by rw[ez,ET]; exact hne)
 ·rw[eo]
  rcases List.mem_cons.1 he with rfl|he
  ·exactλw' _=>h1
  ·exact h.gK e' he ho hf
section
variable {P:Program} {ops:Array Oper} {ms:List Nat} {c:bJ} {V:List Vr} {A:List Al} {G:List aI} {i:Nat}{d:Nat} {x y z:Operand} {ty:TypeId} {pos:String} {au:Array Edge}{b n:Nat} {q:Pred} {v:Vr}
theorem vf {L:Nat->Bool} {β:Nat->Nat->Prop} {a:Act} {w:World} (hI:aS c V A G L β a w) (hd:gO ms i L) (hv:v∈V) (ho:bD ms i v=true) (bT:v.kd=.obj) (hst:(v.st.all λq=>(q.1==i||(ms.getD i 0).testBit q.1)||(ms.getD q.1 0).testBit i)=true)
  (hc:cont (λj=>(ms.getD i 0).testBit j) v.c0 v.st=qy b n q):(∀k,β v.id k↔k=b)/\One b n q w:=by
 have hH:=(jk hI hd hv ho bT).2.out
 rw[fj hd hst,hc]at hH
 exact hH
variable {T:TypeId} {off:Nat}
theorem sU {m:Nat} {ag:Bool} {p q':Pred} (k:Nat) (hk:V[k]?=some v) (ho:bD ms i v=true) (bT:v.kd=.obj) (hst:(v.st.all λq=>(q.1==i||(ms.getD i 0).testBit q.1)||(ms.getD q.1 0).testBit i)=true)
  (mk:Nat) (hm:v.st[mk]?=some (i,qy b n q')) (hr:((v.st.drop (mk+1)).all λr=>(ms.getD r.1 0).testBit i)=true) (dL:(V.all λy=>y.id==v.id||y.st.all λq=>q.1 != i)=true)
  (hc:cont (λj=>(ms.getD i 0).testBit j) v.c0 v.st=qy b n q) (h:Has ms G i y (aJ (.pointer (some ⟨b,off,none⟩)))) (hlen:off+m<=n) (ht:Ty P T ag m) (hz:Has ms G i z p) (hf:Fits m ag p)
  (hq:∀w cs ds,cs.length=n->ds.length=m->q w (ah true cs)->p w (ah ag ds)->q' w (ah true (cs.take off++ds++cs.drop (off+m)))) (hn:cr q'):
  OpOk P ops ms c V A G i ⟨none,.store T y z,ty,pos,au,none⟩:=by
 refine dJ (λL β a w hI hd hwf=>?_) rfl
 have hv:=List.mem_of_getElem? hk
 obtain⟨hβ,cs,t,h1,h2,h3,h4⟩:=vf hI hd hv ho bT hst hc
 have hy:a.eval y=.pointer (some ⟨b,off,none⟩):=(h.spec hI hd).out
 have hval:=hz.spec hI hd
 obtain⟨ds,e1,hl,hcells,hu⟩:=hf w _ hval.out
 have hr':(execOp a.eval ⟨none,.store T y z,ty,pos,au,none⟩).run P w=.ok .skip (w.setRow b (cs.take off++ds++cs.drop (off+m)).toArray):=by
  show(do Instr.storeAt T (a.eval y) (a.eval z); pure Next.skip).run P w=_
  rw[hy]
  have:=eE (P:=P) (off:=off) ht h1 hcells hl (by omega) (λu dZ=>(hu u dZ).2)
  simp only[Sem.run_bind,this,Result.andThen_ok,Sem.run_pure]
 have hgx:β v.id b:=(hβ b).2 rfl
 have hlo:v.lo=0:=by unfold Vr.lo; rw[bT]
 have og:∀o,own c V L β b o:=λo=>.inr ⟨v,hv,hd.live ho,hgx,by rw[hlo]; exact Nat.zero_le _⟩
 have jh:Ext (own c V L β) w (w.setRow b (cs.take off++ds++cs.drop (off+m)).toArray):=⟨Nat.le_of_eq size_setRow.symm,λk hk hno=>ak λe'=>hno 0 (by rw[e']; exact og 0),λk o u hno dZ=>by
  have pH:k≠b:=λe'=>hno (by rw[e']; exact og o)
  rw[World.cell?_of_block (w:=w) (a:=⟨k,o,none⟩) (ak pH)]; exact dZ⟩
 have hnew:q' w (ah true (cs.take off++ds++cs.drop (off+m))):=hq w cs ds h2 hl h4 (by rw[<-e1]; exact hval.out)
 have Cm:∀u∈cs.take off++ds++cs.drop (off+m),dG u:=λu dZ=>by
  rcases List.mem_append.1 dZ with dZ|dZ
  ·rcases List.mem_append.1 dZ with dZ|dZ
   ·exact h3 u (List.mem_of_mem_take dZ)
   ·exact(hu u dZ).1
  ·exact h3 u (List.mem_of_mem_drop dZ)
 have hlt:b<w.heap.size:=(Array.getElem?_eq_some_iff.1 h1).1
 have hone:One b n q' (w.setRow b (cs.take off++ds++cs.drop (off+m)).toArray):=⟨_,t,setRow_heap w _ _ _ _ _ h1,by rw[List.length_append,List.length_append,List.length_take,List.length_drop]; omega,Cm,hn _ w _ (aL hI) hnew _ jh⟩
 unfold Does
 rw[hr']
 refine hI.rN hwf rfl hv (hd.live ho) bT rfl hgx h1 Cm ?_ dL _
 rw[gI mk hm hd hr]
 have kn:dm (own c V L β) (w.setRow b (cs.take off++ds++cs.drop (off+m)).toArray):=λk o hk=>by
  obtain⟨k1,k2⟩:=aL hI k o hk
  refine⟨by rw[size_setRow]; exact k1,λu dZ=>?_⟩
  by_cases pH:k=b
  ·rw[pH]at dZ; exact hone.nw o u dZ
  ·rw[World.cell?_of_block (w:=w) (a:=⟨k,o,none⟩) (ak pH)]at dZ
   exact k2 u dZ
 exact(hone.box hgx hn kn).imp λw h=>⟨hβ,h⟩
theorem iE (len sz q:Nat) (h:Has ms G i x (aJ (.pointer (some ⟨b,off,none⟩))):=by exact hs) (hy:Has ms G i y (pI (q:Int)):=by exact(Wx.hs).imp (bV (by omega))) (hq:q<len:=by omega) (hp:Post G i (aJ (.pointer (some ⟨b,off+q*sz,none⟩))):=by exact pt rfl) (ht:zy P T len sz=true:=by kernel_rfl) (hA:(A.all λq=>q.tag != some i)=true:=by kernel_rfl):
  OpOk P ops ms c V A G i ⟨some d,.indexAddr T x y,ty,pos,au,none⟩:=
 bk rfl rfl rfl (.inr hA) hp λL β a w hI hd=>by
  have hx:a.eval x=.pointer (some ⟨b,off,none⟩):=(h.spec hI hd).out
  have hi:a.eval y=.int .i64 (q:Int):=(hy.spec hI hd).out
  refine⟨_,w,?_,Below.refl _ _,λ_ _=>rfl⟩
  show(do pure (Next.value (<-Instr.indexAt T (a.eval x) (a.eval y)))).run P w=_
  rw[hx,hi,Sem.run_bind,iR ht (by omega) (by omega) w]
  rfl
theorem fE {S f:Nat} (o:Nat) (h:Has ms G i x (aJ (.pointer (some ⟨b,off,none⟩))):=by exact hs) (hp:Post G i (aJ (.pointer (some ⟨b,off+o,none⟩))):=by exact pt rfl) (hf:∀b off w,(Instr.fieldAt S (.pointer (some ⟨b,off,none⟩)) f).run P w=.ok (.pointer (some ⟨b,off+o,none⟩)) w:=by exactλ_ _ _=>by kernel_rfl) (hA:(A.all λq=>q.tag != some i)=true:=by kernel_rfl):
  OpOk P ops ms c V A G i ⟨some d,.fieldAddr S x f,ty,pos,au,none⟩:=
 bk rfl rfl rfl (.inr hA) hp λL β a w hI hd=>by
  have hx:a.eval x=.pointer (some ⟨b,off,none⟩):=(h.spec hI hd).out
  refine⟨_,w,?_,Below.refl _ _,λ_ _=>rfl⟩
  show(do pure (Next.value (<-Instr.fieldAt S (a.eval x) f))).run P w=_
  rw[hx,Sem.run_bind,hf]
  rfl
theorem nc (h:Has ms G i x (aJ (.pointer (some ⟨b,off,none⟩))):=by exact hs) (hp:Post G i (aJ (.pointer (some ⟨b,off,none⟩))):=by exact pt rfl):OpOk P ops ms c V A G i ⟨some d,.nilCheck x,ty,pos,au,none⟩:=
 eC rfl rfl rfl rfl h hp λρ w h=>⟨.pointer (some ⟨b,off,none⟩),by
  have h:ρ x=.pointer (some ⟨b,off,none⟩):=h
  simp only[execOp,h]
  rfl,λ_ _=>rfl⟩
end
theorem vO {V:List Vr} {N b n:Nat} {q q':Pred} (hq:∀w v,q w v->q' w v:=by exactλ_ _ h=>h) (h:pC N V=some (fu N b n q):=by exact rfl):∃r:Rel,pC (fu N b n q').id V=some ⟨(fu N b n q').id,(fu N b n q').slot,none,none,(fu N b n q').kd,(fu N b n q').T,(fu N b n q').n,(fu N b n q').agg,r,[]⟩/\((fu N b n q').born=none/\(fu N b n q').dead=none/\(fu N b n q').st=[])/\∀F w v,r F w v->(fu N b n q').c0 F w v:=
 ⟨_,h,⟨rfl,rfl,rfl⟩,λ_ _ _ h=>⟨h.1,h.2.imp hq⟩⟩
section
variable {P:Program} {c:bJ} {V:List Vr} {G:List aI} {a:Act} {w:World} {x y z:Operand} {d:Nat} {ty:TypeId} {pos:String} {au:Array Edge}
end
end Wx

namespace Wx
open Go Go.RowKit
set_option linter.unusedVariables false
section
variable {P:Program} {c:bJ} {V:List Vr} {G:List aI} {a:Act} {w:World}
end
end Wx

namespace Wx
open Go Go.RowKit
set_option linter.unusedVariables false
section
variable {P:Program} {c:bJ} {V:List Vr} {A:List Al} {G:List aI} {a:Act} {w:World} {β:Nat->Nat->Prop} {x y z:Operand} {d:Nat} {ty:TypeId} {pos:String} {au:Array Edge}
theorem aS.zq {b:Nat} {R:(Nat->Prop)->World->Prop} {v:Value} {w':World} (h:aS c V [] G none_ β a w) (hb:Below w.heap.size w w') (hB:w.heap.size<=b) (hlt:b<w'.heap.size) (hno:∀o u,w'.cell? ⟨b,o,none⟩=some u->dG u) (hR:∀M,dm M w'->aK (minus M (·=b)) (R (·=b)) w') (hd:d<c.N)
  (hV:(V.all λy=>(y.slot != d&&y.id != d)&&(y.born.isNone&&y.dead.isNone))=true) (hG:(G.all λe=>e.slot != d)=true):
  Inv c (lu d d (λB w _=>R B w)::V) [] (⟨none,none,d,aJ v⟩::G) none_ (a.put (some d) v) w':=by
 have hV:∀y,y∈V->(y.slot≠d/\y.id≠d)/\live none_ y=true:=λy hy=>by
  rw[List.all_eq_true]at hV
  have:=hV y hy
  simp only[Bool.and_eq_true,bne_iff_ne]at this
  refine⟨this.1,?_⟩
  unfold live
  cases hb:y.born with
  |some j=>rw[hb]at this; cases this.2.1
  |none=>cases hd:y.dead with
   |some j=>rw[hd]at this; cases this.2.2
   |none=>rfl
 have hG:∀e,e∈G->e.slot≠d:=λe he=>by
  rw[List.all_eq_true]at hG
  simpa using hG e he
 let β':Nat->Nat->Prop:=λs=>if s=d then(·=b)else β s
 have hβ:∀y,y∈V->β' y.id=β y.id:=λy hy=>if_neg (hV y hy).1.2
 have nK:β' d=(·=b):=if_pos rfl
 have e3:Ext (own c V none_ β) w w':=Ext.bg hb
 have hown:∀k j,k<w.heap.size->own c (lu d d (λB w _=>R B w)::V) none_ β' k j->own c V none_ β k j:=by
  rintro k j hk (h1|⟨y,hy,h1,h2,h3⟩)
  ·exact .inl h1
  ·rcases List.mem_cons.1 hy with rfl|hy
   ·have h2:β' d k:=h2
    rw[nK]at h2
    have h2:k=b:=h2
    omega
   ·rw[hβ y hy]at h2
    exact .inr ⟨y,hy,h1,h2,h3⟩
 have kn:dm (own c (lu d d (λB w _=>R B w)::V) none_ β') w':=by
  rintro k j hk
  rcases Nat.lt_or_ge k w.heap.size with h'|h'
  ·obtain⟨h1,h2⟩:=aL h k j (hown k j h' hk)
   refine⟨Nat.lt_of_lt_of_le h1 hb.size,λu hu=>h2 u ?_⟩
   rw[World.cell?_of_block (w:=w) (a:=⟨k,j,none⟩) (hb.block k h')]at hu
   exact hu
  ·rcases hk with h1|⟨y,hy,h1,h2,h3⟩
   ·exact absurd (jm h (.inl h1)) (by omega)
   ·rcases List.mem_cons.1 hy with rfl|hy
    ·have h2:β' d k:=h2
     rw[nK]at h2
     have h2:k=b:=h2
     subst h2
     exact⟨hlt,λu hu=>hno j u hu⟩
    ·rw[hβ y hy]at h2
     exact absurd (bQ h hy h1 h2) (by omega)
 have sd:∀s,s≠d->sl (a.put (some d) v) s=sl a s:=λs hs=>br λe=>hs (Option.some.inj e).symm
 refine⟨β',by rw[ei]; exact h.size,by rw[put_defers]; exact h.defers,h.below.trans (di.bg hb),h.gA λk hk hn=>hb.block k (Nat.lt_of_lt_of_le hk h.below.size),?_,?_,(λp hp=>by cases hp),?_⟩
 ·intro y hy _
  rcases List.mem_cons.1 hy with rfl|hy
  ·refine(aQ rfl).2 ⟨λk hk=>?_,?_⟩
   ·have hk:β' d k:=hk
    rw[nK]at hk
    have hk:k=b:=hk
    subst hk
    exact⟨.inl (Nat.le_trans h.below.size hB),hlt,λo u hu=>hno o u hu⟩
   ·show aK (minus _ (β' d)) (λw=>R (β' d) w) w'
    rw[nK]
    exact hR _ kn
  ·have Cv:=(hV y hy).2
   refine(h.var y hy Cv).keep (sd _ (hV y hy).1.1) (hβ y hy) (λg hg=>hb.block g (bQ h hy Cv hg)) hb.size (λF hF=>cC e3 hown hF) (λF hF=>?_) rfl
   refine cC (M:=minus (own c V none_ β) (β y.id)) (Ext.bg hb) ?_ hF
   rintro k j hk ⟨h1,h2⟩
   exact⟨hown k j hk h1,h2⟩
 ·intro y y' g hy hy' _ _ hne
  rcases List.mem_cons.1 hy with rfl|hy<;>rcases List.mem_cons.1 hy' with rfl|hy'
  ·exact absurd rfl hne
  ·intro h1 h2
   have h1:β' d g:=h1
   rw[nK]at h1
   rw[hβ y' hy']at h2
   have h1:g=b:=h1
   exact absurd (bQ h hy' (hV y' hy').2 h2) (by omega)
  ·intro h1 h2
   have h2:β' d g:=h2
   rw[nK]at h2
   rw[hβ y hy]at h1
   have h2:g=b:=h2
   exact absurd (bQ h hy (hV y hy).2 h1) (by omega)
  ·rw[hβ y hy,hβ y' hy']
   exact h.apart y y' g hy hy' (hV y hy).2 (hV y' hy').2 hne
 ·intro e he ho hf
  rcases List.mem_cons.1 he with rfl|he
  ·refineλw'' _=>?_
   show sl (a.put (some d) v) d=v
   exact da (by rw[h.size]; exact hd)
  ·have:=h.gK e he ho hf
   show aK _ (λw=>e.p w (sl (a.put (some d) v) e.slot)) w'
   rw[sd _ (hG e he)]
   exact cC e3 hown this
end
section
variable {P:Program} {ops:Array Oper} {ms:List Nat} {c:bJ} {V:List Vr} {A:List Al} {G:List aI} {i:Nat}{x y z:Operand} {d:Nat} {ty:TypeId} {pos:String} {au:Array Edge}
end
end Wx
