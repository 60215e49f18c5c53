import Derived.Test.YtkcceahelokheaaGreatJLT16
import Derived.Test.YtkcceahelokheaaGreatJLT12
namespace Wx
open Go Go.RowKit
def plus (M:Nat->Nat->Prop) (B:Nat->Prop) (k o:Nat):Prop:=M k o\/B k
def Re {Λ:Type} (C:Λ->Prop) (hd:Λ->Value) (H:Λ->List Bk) (w:World) (e:Ending) (w':World):Prop:=∃(l:Λ) (B:Nat->Prop),C l/\e=.returned (hd l)/\Below w.heap.size w w'/\(∀k,B k->w.heap.size<=k)/\dn B w' (H l)
def AH (M:Nat->Nat->Prop) (B:Nat->Prop) (p:Pred) (H:List Bk) (w:World) (e:Ending) (w':World):Prop:=∃v,e=.returned v/\aO M (λw=>p w v) w'/\dN B w w'/\dn B w' H
abbrev cX (id s:Nat) (H:List Bk):Vr:=⟨id,s,none,none,.obj,0,0,false,wJ H,[]⟩
theorem oG:qc [0] 0 none_:=⟨rfl,λj h=>by simp at h,λ_ _=>rfl⟩
theorem oU {α:Type} {l:List α} {x y:α} {i j:Nat} (hi:l[i]?=some x) (hj:l[j]?=some y) (h:i<j):[x,y].Sublist l:=by
 induction l generalizing i j with
 |nil=>simp at hi
 |cons z l ih=>
  cases j with
  |zero=>omega
  |succ j=>
   simp at hj
   cases i with
   |zero=>
    simp at hi
    subst hi
    exact(List.singleton_sublist.2 (List.mem_of_getElem? hj)).cons_cons _
   |succ i=>
    simp at hi
    exact(ih hi hj (by omega)).cons _
section
variable {P:Program} {Q:Exit->Act->World->Prop} {c:fT} {V:List Vr} {A:List Al} {G:List bz} {a:Act} {w:World} {o:Oper}{d:Nat} {x y z:Operand} {ty:TypeId} {pos:String} {aft:Array Edge}{K:Act->World->Prop}
theorem Does.mono {K':Act->World->Prop} (h:Does P o a w K) (hK:∀a w,K a w->K' a w):Does P o a w K':=by
 unfold Does at *
 generalize (execOp a.eval o).run P w=r at *
 match r,h with
 |.ok (.value v) w',h=>exact hK _ _ h
 |.ok .skip w',h=>exact hK _ _ h
 |.ok (.enter f args) w',h=>exact h.mono λe w'' ⟨v,h1,h2⟩=>⟨v,h1,hK _ _ h2⟩
variable {ops:Array Oper}
theorem bV.of (hg:o.guard=none) (h:Does P o a w K):bV P ops o a w K:=by
 unfold bV
 rw[if_pos (by simp[Region.wanted,hg])]
 exact h
theorem single {V1 V2:List Vr} {A1:List Al} {G1 G2:List bz} (h:Inv c V A G none_ a w) (hg:o.guard=none) (hV:od V1=V) (hA:ry A1=A) (hG:oc G1=G) (hwf:tU c.N [o] V1 A1 G1=true)
  (hs:OpOk P #[o] [0] c V1 A1 G1 0 o) (kv kg:List Nat) (hV2:lG kv (xm V1)=V2) (OL:lG kg ((G1.filter λe=>e.till.isNone).map pY)=G2):bV P ops o a w (Inv c V2 [] G2 none_):=by
 refine .of hg ?_
 have:=hs none_ a w (h.enter hV hA hG) oG (tM hwf rfl)
 unfold bV at this
 rw[if_pos (by simp[Region.wanted,hg])]at this
 refine this.mono λa' w' h'=>?_
 obtain⟨β,h'⟩:=h'
 exact Inv.next kv kg ⟨β,h'.congr (fu hwf) λj hj=>by
  have:j=0:=by simpa using hj
  subst this
  rfl⟩ (si hwf) (yF hwf) hV2 OL
variable {β:Nat->Nat->Prop} {id:Nat} {H:List Bk} {v:Value} {w':World}
theorem bu.UC {B:Nat->Prop} (h:bu c V [] G none_ β a w) (hb:Below w.heap.size w w') (hB:∀k,B k->w.heap.size<=k) (hH:dn B w' H) (hd:d<c.N)
  (hV:(V.all λy=>(y.slot != d&&y.id != id)&&(y.born.isNone&&y.dead.isNone))=true) (hG:(G.all λe=>e.slot != d)=true):
  Inv c (cX id d H::V) [] (⟨none,none,d,bg v⟩::G) none_ (a.put (some d) v) w':=by
 have hV:∀y,y∈V->(y.slot≠d/\y.id≠id)/\live none_ y=true:=λy hy=>by
  rw[List.all_eq_true]at hV
  have:=hV y hy
  simp only[Bool.and_eq_true,bne_iff_ne]at this
  refine⟨this.1,?_⟩
  unfold live
  cases hb:y.born with
  |some j=>rw[hb]at this; cases this.2.1
  |none=>cases hd:y.dead with
   |some j=>rw[hd]at this; cases this.2.2
   |none=>rfl
 have hG:∀e,e∈G->e.slot≠d:=λe he=>by
  rw[List.all_eq_true]at hG
  simpa using hG e he
 let β':Nat->Nat->Prop:=λs=>if s=id then B else β s
 have hβ:∀y,y∈V->β' y.id=β y.id:=λy hy=>if_neg (hV y hy).1.2
 have Em:β' id=B:=if_pos rfl
 have e3:Ext (own c V none_ β) w w':=Ext.bC hb
 have hown:∀k j,k<w.heap.size->own c (cX id d H::V) none_ β' k j->own c V none_ β k j:=by
  rintro k j hk (h1|⟨y,hy,h1,h2,h3⟩)
  ·exact .inl h1
  ·rcases List.mem_cons.1 hy with rfl|hy
   ·have h2:β' id k:=h2
    rw[Em]at h2
    exact absurd (hB k h2) (by omega)
   ·rw[hβ y hy]at h2
    exact .inr ⟨y,hy,h1,h2,h3⟩
 have ki:cL (own c (cX id d H::V) none_ β') w':=by
  rintro k j hk
  rcases Nat.lt_or_ge k w.heap.size with h'|h'
  ·obtain⟨h1,h2⟩:=aS h k j (hown k j h' hk)
   refine⟨Nat.lt_of_lt_of_le h1 hb.size,λu hu=>h2 u ?_⟩
   rw[World.cell?_of_block (w:=w) (a:=⟨k,j,none⟩) (hb.block k h')]at hu
   exact hu
  ·rcases hk with h1|⟨y,hy,h1,h2,h3⟩
   ·exact absurd (tC h (.inl h1)) (by omega)
   ·rcases List.mem_cons.1 hy with rfl|hy
    ·have h2:β' id k:=h2
     rw[Em]at h2
     obtain⟨k1,k2⟩:=hH.tS h2
     exact⟨k1,λu hu=>k2 j u hu⟩
    ·rw[hβ y hy]at h2
     exact absurd (cG h hy h1 h2) (by omega)
 have sd:∀s,s≠d->sl (a.put (some d) v) s=sl a s:=λs hs=>cz λe=>hs (Option.some.inj e).symm
 refine⟨β',by rw[iH]; exact h.size,by rw[put_defers]; exact h.defers,h.below.trans (dN.bC hb),h.oa λk hk hn=>hb.block k (Nat.lt_of_lt_of_le hk h.below.size),?_,?_,(λp hp=>by cases hp),?_⟩
 ·intro y hy _
  rcases List.mem_cons.1 hy with rfl|hy
  ·refine(aN rfl).2 ⟨λk hk=>?_,?_⟩
   ·have hk:β' id k:=hk
    rw[Em]at hk
    obtain⟨k1,k2⟩:=hH.tS hk
    exact⟨.inl (Nat.le_trans h.below.size (hB k hk)),k1,k2⟩
   ·show aO (minus _ (β' id)) (λw=>dn (β' id) w H) w'
    rw[Em]
    exact hH.box ki
  ·have T1:=(hV y hy).2
   refine(h.var y hy T1).keep (sd _ (hV y hy).1.1) (hβ y hy) (λg hg=>hb.block g (cG h hy T1 hg)) hb.size (λF hF=>gF e3 hown hF) (λF hF=>?_) rfl
   refine gF (M:=minus (own c V none_ β) (β y.id)) (Ext.bC hb) ?_ hF
   rintro k j hk ⟨h1,h2⟩
   exact⟨hown k j hk h1,h2⟩
 ·intro y y' g hy hy' _ _ hne
  rcases List.mem_cons.1 hy with rfl|hy<;>rcases List.mem_cons.1 hy' with rfl|hy'
  ·exact absurd rfl hne
  ·intro h1 h2
   have h1:β' id g:=h1
   rw[Em]at h1
   rw[hβ y' hy']at h2
   exact absurd (cG h hy' (hV y' hy').2 h2) (by have:=hB g h1; omega)
  ·intro h1 h2
   have h2:β' id g:=h2
   rw[Em]at h2
   rw[hβ y hy]at h1
   exact absurd (cG h hy (hV y hy).2 h1) (by have:=hB g h2; omega)
  ·rw[hβ y hy,hβ y' hy']
   exact h.apart y y' g hy hy' (hV y hy).2 (hV y' hy').2 hne
 ·intro e he _ _
  rcases List.mem_cons.1 he with rfl|he
  ·refineλw'' _=>?_
   show sl (a.put (some d) v) d=v
   exact fO (by rw[h.size]; exact hd)
  ·have:=h.jM e he ?_ ?_
   ·show aO _ (λw=>e.p w (sl (a.put (some d) v) e.slot)) w'
    rw[sd _ (hG e he)]
    exact gF e3 hown this
   ·rename_i ho hf
    exact ho
   ·rename_i ho hf
    exact hf
theorem Jn {Λ:Type} {C:Λ->Prop} {hd:Λ->Value} {H:Λ->List Bk} {f:FuncId} {args:Array Operand} {ts:Array TypeId} (hf:aR P f) (h:Inv c V [] G none_ a w)
  (hc:∀β,bu c V [] G none_ β a w->Calls P f (args.map a.eval) w (Re C hd H w)) (hd':decide (d<c.N)=true) (hV:(V.all λy=>(y.slot != d&&y.id != id)&&(y.born.isNone&&y.dead.isNone))=true) (hG:(G.all λe=>e.slot != d)=true):
  bV P ops ⟨some d,.call ⟨.value (.func f),args,ts⟩,ty,pos,aft,none⟩ a w (λa w=>∃l,C l/\Inv c (cX id d (H l)::V) [] (⟨none,none,d,bg (hd l)⟩::G) none_ a w):=by
 obtain⟨β,hI⟩:=h
 refine .of rfl (jX hf ((hc β hI).mono ?_))
 rintro e w' ⟨l,B,h1,rfl,h2,h3,h4⟩
 exact⟨_,rfl,l,h1,hI.UC h2 h3 h4 (of_decide_eq_true hd') hV hG⟩
theorem bu.R9 {s n0:Nat} {H':List Bk} {p:Pred} (h:bu c V [] G none_ β a w) (hk:V[n0]?=some (cX id s H)) (hle:dN (β id) w w') (hH:dn (β id) w' H') (hp:aK p) (hv:p w' v) (hd:d<c.N)
  (hV:(V.all λy=>(y.slot != d&&(y.id != id||y.slot==s))&&(y.born.isNone&&y.dead.isNone))=true) (hu:(V.filter λy=>y.id==id).length=1) (hG:(G.all λe=>e.slot != d)=true):
  Inv c (V.set n0 (cX id s H')) [] (⟨none,none,d,p⟩::G) none_ (a.put (some d) v) w':=by
 have hV:∀y,y∈V->y.slot≠d/\live none_ y=true:=λy hy=>by
  rw[List.all_eq_true]at hV
  have:=hV y hy
  simp only[Bool.and_eq_true,bne_iff_ne]at this
  refine⟨this.1.1,?_⟩
  unfold live
  cases hb:y.born with
  |some j=>rw[hb]at this; cases this.2.1
  |none=>cases hd:y.dead with
   |some j=>rw[hd]at this; cases this.2.2
   |none=>rfl
 have hG:∀e,e∈G->e.slot≠d:=λe he=>by
  rw[List.all_eq_true]at hG
  simpa using hG e he
 have hx:=List.mem_of_getElem? hk
 have OW:n0<V.length:=by
  rcases Nat.lt_or_ge n0 V.length with h'|h'
  ·exact h'
  ·rw[List.getElem?_eq_none h']at hk; cases hk
 have one:∀y,y∈V->y.id=id->y=cX id s H:=λy hy e=>cB hu hy hx (by simpa using e) (by simp)
 have Ik:live none_ (cX id s H)=true:=rfl
 have hsub:∀y,y∈V.set n0 (cX id s H')->y=cX id s H'\/(y∈V/\y.id≠id):=λy hy=>by
  obtain⟨j,hj⟩:=List.mem_iff_getElem?.1 hy
  by_cases yh:j=n0
  ·subst yh
   rw[List.getElem?_set_self OW]at hj
   exact .inl (Option.some.inj hj).symm
  ·rw[List.getElem?_set_ne (Ne.symm yh)]at hj
   have ik:=List.mem_of_getElem? hj
   by_cases hid:y.id=id
   ·-- it afM be the object itself, at another place
    exfalso
    have e:=one y ik hid
    subst e
    have h2:((V.filter λy=>y.id==id).length)>=2:=by
     have qO:[cX id s H,cX id s H].Sublist V:=by
      rcases Nat.lt_or_ge j n0 with hlt|hge
      ·exact oU hj hk hlt
      ·exact oU hk hj (by omega)
     have:=(qO.filter λy=>y.id==id).length_le
     simpa using this
    omega
   ·exact .inr ⟨ik,hid⟩
 have hB:∀k,β id k->mine c k/\k<w.heap.size/\∀o v,w.cell? ⟨k,o,none⟩=some v->iw v:=λk hk'=>r9 h hx Ik hk'
 have ob:∀k j,β id k->own c V none_ β k j:=λk j hk'=>.inr ⟨_,hx,Ik,hk',Nat.zero_le _⟩
 have e3:Ext (own c V none_ β) w w':=Ext.yx hle λk j _ hk'=>ob k j hk'
 have hown:∀k j,own c (V.set n0 (cX id s H')) none_ β k j->own c V none_ β k j:=by
  rintro k' j (h1|⟨y,hy,h1,h2,h3⟩)
  ·exact .inl h1
  ·rcases hsub y hy with rfl|⟨ik,_⟩
   ·exact ob k' j h2
   ·exact .inr ⟨y,ik,h1,h2,h3⟩
 have ki:cL (own c V none_ β) w':=by
  intro k j hk'
  obtain⟨h1,h2⟩:=aS h k j hk'
  refine⟨Nat.lt_of_lt_of_le h1 hle.size,λu gB=>?_⟩
  by_cases hb:β id k
  ·exact(hH.tS hb).2 j u gB
  ·rw[World.cell?_of_block (w:=w) (a:=⟨k,j,none⟩) (hle.block k h1 hb)]at gB
   exact h2 u gB
 have sd:∀s,s≠d->sl (a.put (some d) v) s=sl a s:=λs hs=>cz λe=>hs (Option.some.inj e).symm
 refine⟨β,by rw[iH]; exact h.size,by rw[put_defers]; exact h.defers,⟨hle.os.trans h.below.os,hle.tape.trans h.below.tape,hle.output.trans h.below.output,Nat.le_trans h.below.size hle.size,λk hk' hn=>?_⟩,h.oa λk hk' hn=>?_,?_,?_,(λp hp=>by cases hp),?_⟩
 ·rw[hle.block k (Nat.lt_of_lt_of_le hk' h.below.size) λhb=>(hB k hb).1.elim (λh3=>by omega) (λh3=>hn h3)]
  exact h.below.block k hk' hn
 ·exact hle.block k (Nat.lt_of_lt_of_le hk' h.below.size) λhb=>(hB k hb).1.elim (λh3=>by omega) (λh3=>hn h3)
 ·intro y hy _
  rcases hsub y hy with rfl|⟨ik,hid⟩
  ·refine(aN rfl).2 ⟨λk hk'=>⟨(hB k hk').1,(hH.tS hk').1,λo v hv=>(hH.tS hk').2 o v hv⟩,?_⟩
   show aO (minus _ (β id)) (λw=>dn (β id) w H') w'
   exact(hH.box ki).sub λk j _ hk'=>⟨hown k j hk'.1,hk'.2⟩
  ·have O1:∀g,β y.id g->¬β id g:=λg hg=>h.apart y _ g ik hx (hV y ik).2 Ik hid hg
   refine(h.var y ik (hV y ik).2).keep (sd _ (hV y ik).1) rfl (λg hg=>hle.block g (cG h ik (hV y ik).2 hg) (O1 g hg)) hle.size (λF hF=>(hF.ext e3).sub λk j _ hk'=>hown k j hk') (λF hF=>?_) rfl
   have e4:Ext (minus (own c V none_ β) (β y.id)) w w':=Ext.yx hle λk j _ hk'=>⟨ob k j hk',λhy'=>O1 k hy' hk'⟩
   exact(hF.ext e4).sub λk j _ hk'=>⟨hown k j hk'.1,hk'.2⟩
 ·intro y y' g hy hy' _ _ hne
  rcases hsub y hy with rfl|⟨ik,hid⟩<;>rcases hsub y' hy' with rfl|⟨AV,RL⟩
  ·exact absurd rfl hne
  ·exact h.apart (cX id s H) y' g hx AV Ik (hV y' AV).2 hne
  ·exact h.apart y (cX id s H) g ik hx (hV y ik).2 Ik hne
  ·exact h.apart y y' g ik AV (hV y ik).2 (hV y' AV).2 hne
 ·intro e he ho hf
  rcases List.mem_cons.1 he with rfl|he
  ·show aO _ (λw=>p w (sl (a.put (some d) v) d)) w'
   rw[fO (by rw[h.size]; exact hd)]
   exact(hp _ w' v ki hv).sub λk j _ hk'=>hown k j hk'
  ·show aO _ (λw=>e.p w (sl (a.put (some d) v) e.slot)) w'
   rw[sd _ (hG e he)]
   exact((h.jM e he ho hf).ext e3).sub λk j _ hk'=>hown k j hk'
end
end Wx

namespace Wx
open Go Go.RowKit
theorem rP {M:Nat->Nat->Prop} {B:Nat->Prop} {w:World} (h:cL M w):cL (minus M B) w:=λk o hk=>h k o hk.1
section
variable {P:Program} {Q:Exit->Act->World->Prop} {c:fT} {V:List Vr} {A:List Al} {G:List bz} {a:Act} {w:World} {o:Oper}{d:Nat} {x y z u:Operand} {ty:TypeId} {pos:String} {aft:Array Edge}{β:Nat->Nat->Prop} {id s n0:Nat} {H:List Bk}
theorem bu.obj (h:bu c V [] G none_ β a w) (hk:V[n0]?=some (cX id s H)):dn (β id) w H/\(∀k,β id k->mine c k)/\∀k j,β id k->own c V none_ β k j:=by
 have hx:=List.mem_of_getElem? hk
 have hO:=(aN rfl).1 (h.var _ hx rfl)
 exact⟨hO.2.out,λk hk=>(hO.1 k hk).1,λk j hk=>.inr ⟨_,hx,rfl,hk,Nat.zero_le _⟩⟩
theorem q9 (h:bu c V [] G none_ β a w) (hk:V[n0]?=some (cX id s H)) {F:World->Prop} (hF:aO (own c V none_ β) F w):aO (plus (minus (own c V none_ β) (β id)) (β id)) F w:=
 hF.sub λk j _ h'=>h'.elim (λh'=>h'.1) λh'=>(h.obj hk).2.2 k j h'
variable {H':List Bk} {p:Pred} {f:FuncId} {ts:Array TypeId} {ops:Array Oper}
theorem Ao {args:Array Operand} (hf:aR P f) (h:Inv c V [] G none_ a w) (hk:V[n0]?=some (cX id s H)) (hp:aK p)
  (hc:∀β,bu c V [] G none_ β a w->Calls P f (args.map a.eval) w (AH (minus (own c V none_ β) (β id)) (β id) p H' w)) (hd':decide (d<c.N)=true)
  (hV:(V.all λy=>(y.slot != d&&(y.id != id||y.slot==s))&&(y.born.isNone&&y.dead.isNone))=true) (hu:(V.filter λy=>y.id==id).length=1) (hG:(G.all λe=>e.slot != d)=true):
  bV P ops ⟨some d,.call ⟨.value (.func f),args,ts⟩,ty,pos,aft,none⟩ a w (Inv c (V.set n0 (cX id s H')) [] (⟨none,none,d,p⟩::G) none_):=by
 obtain⟨β,hI⟩:=h
 refine .of rfl (jX hf ((hc β hI).mono ?_))
 rintro e w' ⟨v,rfl,h1,h2,h3⟩
 exact⟨v,rfl,hI.R9 hk h2 h3 hp h1.out (of_decide_eq_true hd') hV hu hG⟩
variable {p1 p2:Pred}
theorem Gf (hf:aR P f) (h:Inv c V [] G none_ a w) (hk:V[n0]?=some (cX id s H)) (hp:aK p) (h1:Has [0] G 0 x p1) (h2:Has [0] G 0 y p2)
  (hc:∀M B w v1 v2,cL M w->(∀k,B k->∀o,¬M k o)->dn B w H->aO (plus M B) (λw=>p1 w v1) w->aO (plus M B) (λw=>p2 w v2) w->Calls P f #[v1,v2] w (AH M B p H' w)) (hd':decide (d<c.N)=true)
  (hV:(V.all λy=>(y.slot != d&&(y.id != id||y.slot==s))&&(y.born.isNone&&y.dead.isNone))=true) (hu:(V.filter λy=>y.id==id).length=1) (hG:(G.all λe=>e.slot != d)=true):
  bV P ops ⟨some d,.call ⟨.value (.func f),#[x,y],ts⟩,ty,pos,aft,none⟩ a w (Inv c (V.set n0 (cX id s H')) [] (⟨none,none,d,p⟩::G) none_):=
 Ao hf h hk hp (λβ hI=>by
  rw[show(#[x,y]:Array Operand).map a.eval=#[a.eval x,a.eval y] by simp]
  exact hc _ _ w _ _ (rP (aS hI)) (λk hk o ho=>ho.2 hk) (hI.obj hk).1 (q9 hI hk (h1.spec hI oG)) (q9 hI hk (h2.spec hI oG))) hd' hV hu hG
theorem Gg {p3:Pred} (hf:aR P f) (h:Inv c V [] G none_ a w) (hk:V[n0]?=some (cX id s H)) (hp:aK p) (h1:Has [0] G 0 x p1) (h2:Has [0] G 0 y p2) (h3:Has [0] G 0 z p3)
  (hc:∀M B w v1 v2 v3,cL M w->(∀k,B k->∀o,¬M k o)->dn B w H->aO (plus M B) (λw=>p1 w v1) w->aO (plus M B) (λw=>p2 w v2) w->aO (plus M B) (λw=>p3 w v3) w->Calls P f #[v1,v2,v3] w (AH M B p H' w)) (hd':decide (d<c.N)=true)
  (hV:(V.all λy=>(y.slot != d&&(y.id != id||y.slot==s))&&(y.born.isNone&&y.dead.isNone))=true) (hu:(V.filter λy=>y.id==id).length=1) (hG:(G.all λe=>e.slot != d)=true):
  bV P ops ⟨some d,.call ⟨.value (.func f),#[x,y,z],ts⟩,ty,pos,aft,none⟩ a w (Inv c (V.set n0 (cX id s H')) [] (⟨none,none,d,p⟩::G) none_):=
 Ao hf h hk hp (λβ hI=>by
  rw[show(#[x,y,z]:Array Operand).map a.eval=#[a.eval x,a.eval y,a.eval z] by simp]
  exact hc _ _ w _ _ _ (rP (aS hI)) (λk hk o ho=>ho.2 hk) (hI.obj hk).1 (q9 hI hk (h1.spec hI oG)) (q9 hI hk (h2.spec hI oG)) (q9 hI hk (h3.spec hI oG))) hd' hV hu hG
variable {N:Nat} {M:Nat->Nat->Prop} {B:Nat->Prop}
theorem Il (hM:cL M w) (H7:∀k,B k->∀o,¬M k o) (hH:dn B w H) (hN:a.tmps.size=N) (hd:a.defers=[]) (hG:vI (plus M B) a w G):Inv ⟨N,w,M,B⟩ [cX id s H] [] G none_ a w:=by
 have eo:∀k o,own ⟨N,w,M,B⟩ [cX id s H] none_ (λ_=>B) k o->plus M B k o:=by
  rintro k o (h|⟨x,hx,_,h,_⟩)
  ·exact .inl h
  ·exact .inr h
 have ki:cL (own ⟨N,w,M,B⟩ [cX id s H] none_ (λ_=>B)) w:=λk o hk=>(eo k o hk).elim (λh=>hM k o h) λh=>⟨(hH.tS h).1,λv hv=>(hH.tS h).2 o v hv⟩
 refine⟨λ_=>B,hN,hd,dN.refl _ _,(λk o h=>⟨⟨(hM k o h).1,λhb=>H7 k hb o h⟩,(hM k o h).2⟩),(λx hx _=>?_),(λx y g hx hy _ _ hne=>?_),(λp hp=>by cases hp),λe he _ _=>(hG.get e he).2.sub λk o _ h=>eo k o h⟩
 ·rcases List.mem_singleton.1 hx with rfl
  exact(aN rfl).2 ⟨λk hk=>⟨.inr hk,(hH.tS hk).1,λo v hv=>(hH.tS hk).2 o v hv⟩,hH.box ki⟩
 ·rcases List.mem_singleton.1 hx with rfl
  rcases List.mem_singleton.1 hy with rfl
  exact absurd rfl hne
theorem ug {fn:Func} {C:Code} {vs:List Value} (hf:P.funcs[f]?=some fn) (hb:fn.body=some C) (hN:fn.ntmps=N) (hlen:decide (vs.length<=N)=true)
  (hM:cL M w) (H7:∀k,B k->∀o,¬M k o) (hH:dn B w H) (hG:cF (plus M B) w vs G)
  (h:∀a,Inv ⟨N,w,M,B⟩ [cX id s H] [] G none_ a w->C.wp P (bodyPost P fn (AH M B p H' w)) a w):Calls P f vs.toArray w (AH M B p H' w):=
 calls_of_wp hf hb (h _ (Il hM H7 hH (by have:=of_decide_eq_true hlen; simp[hN]; omega) rfl hG.ok))
variable {fn:Func}{N id s n0:Nat} {w0:World} {M:Nat->Nat->Prop} {B:Nat->Prop} {H H0:List Bk} {β:Nat->Nat->Prop}
theorem Yh (hI:bu ⟨N,w0,M,B⟩ V [] G none_ β a w) (Ym:dn B w0 H0) (hk:V[n0]?=some (cX id s H)) (hb:H.map Bk.b=H0.map Bk.b):dn B w H/\dN B w0 w:=by
 refine⟨?_,hI.below⟩
 obtain⟨h1,h2,h3⟩:=(hI.obj hk).1
 refine⟨λk=>(Ym.1 k).trans ?_,h2,h3⟩
 have e:∀L:List Bk,(∃e,e∈L/\e.b=k)↔k∈L.map Bk.b:=λL=>by rw[List.mem_map]
 rw[e,e,hb]
theorem Tx (hI:Inv ⟨N,w0,M,B⟩ V [] G none_ a w) (hr:fn.results=#[]) (Ym:dn B w0 H0) (hk:V[n0]?=some (cX id s H)) (hb:H.map Bk.b=H0.map Bk.b):bodyPost P fn (AH M B (bg (.tuple #[])) H w0) .ret a w:=by
 obtain⟨β,hI⟩:=hI
 obtain⟨h1,h2⟩:=Yh hI Ym hk hb
 exact iM hI (results_none hr _ _ _) ⟨_,rfl,λ_ _=>rfl,h2,h1⟩
theorem Tz {r1 r2:ResultVar} {p q:Pred} (hI:Inv ⟨N,w0,M,B⟩ V [] G none_ a w) (hr:fn.results=#[r1,r2]) (Ym:dn B w0 H0) (hk:V[n0]?=some (cX id s H)) (hb:H.map Bk.b=H0.map Bk.b) (h1:dW P V G r1 p) (h2:dW P V G r2 q):bodyPost P fn (AH M B (cN p q) H w0) .ret a w:=by
 obtain⟨β,hI⟩:=hI
 obtain⟨k1,k2⟩:=Yh hI Ym hk hb
 obtain⟨v1,j1,b1⟩:=h1.run hI
 obtain⟨v2,j2,b2⟩:=h2.run hI
 refine iM hI (v:=.tuple #[v1,v2]) ?_ ⟨_,rfl,λw' he=>⟨v1,v2,rfl,iL b1 w' he,iL b2 w' he⟩,k2,k1⟩
 rw[eD,hr]
 simp[j1,j2,Sem.run_bind]
theorem FH {F:World->Prop} (hI:bu ⟨N,w0,M,λ_=>False⟩ V [] G none_ β a w) (hk:V[n0]?=some (cX id s H)) (hF:∀B w,dn B w H->F w):aO M F w:=by
 obtain⟨h1,h2,h3⟩:=hI.obj hk
 refine((h1.box (aS hI)).imp λw h=>hF _ w h).sub λk j hk' hm=>⟨.inl hm,λhb=>?_⟩
 have:=(hI.old k j hm).1.1
 exact(h2 k hb).elim (λh=>by have h:w0.heap.size<=k:=h; have:k<w0.heap.size:=this; omega) (λh=>h.elim)
end
end Wx

namespace Wx
open Go Go.RowKit
section
variable {P:Program} {Q:Exit->Act->World->Prop} {c:fT} {V:List Vr} {A:List Al} {G:List bz} {a:Act} {w:World}
end
def RX (q:Rat):It:=⟨au q,cH q⟩
def uD (v:Value):It:=⟨bg v,bU v⟩
def T3:It:=⟨cY,FE⟩
def bq (l:List Rat) (p:Nat):List It:=l.map RX++List.replicate (p-l.length) T3
variable {l:List Rat} {p k:Nat}
theorem fq (h:k<l.length):(bq l p)[k]?=some (RX (l.getD k 0)):=by
 unfold bq
 rw[List.getElem?_append_left (by rw[List.length_map]; exact h),List.getElem?_map,List.getD_eq_getElem?_getD,List.getElem?_eq_getElem h]
 rfl
theorem kD (l:List Rat) (p:Nat):(bq l p).length=max l.length p:=by
 unfold bq
 rw[List.length_append,List.length_map,List.length_replicate]
 omega
theorem F8 (h:k<l.length):k<(bq l p).length:=by rw[kD]; omega
theorem Cn {q:Rat} (h:k<l.length):(bq l p).set k (RX q)=bq (l.set k q) p:=by
 unfold bq
 rw[List.set_append_left _ _ (by rw[List.length_map]; exact h),List.map_set,List.length_set]
theorem Cm {i:Nat} {it:It} (h:l.length<=i) (hi:(bq l p)[i]?=some it):it=T3:=by
 unfold bq at hi
 rw[List.getElem?_append_right (by rw[List.length_map]; exact h)]at hi
 exact List.eq_of_mem_replicate (List.mem_of_getElem? hi)
def uC (H:List Bk) (b:Nat) (X:List It):List Bk:=H.map λe=>if e.b=b then { e with items:=X }else e
theorem Kh (H:List Bk) (b:Nat) (X:List It):(uC H b X).map Bk.b=H.map Bk.b:=by
 unfold uC
 rw[List.map_map]
 apply List.map_congr_left
 intro e _
 show(if e.b=b then { e with items:=X }else e).b=e.b
 split<;>rfl
variable {H:List Bk} {b:Nat} {X:List It} {e:Bk}
theorem rO (he:e∈H) (hb:e.b=b):({ e with items:=X }:Bk)∈uC H b X:=List.mem_map.2 ⟨e,he,if_pos hb⟩
theorem l9 (he:e∈H) (hb:e.b≠b):e∈uC H b X:=List.mem_map.2 ⟨e,he,if_neg hb⟩
theorem uB (H:List Bk) (b:Nat) (X:List It) (idx:Nat) (it:It):gH (uC H b X) b idx it=uC H b (X.set idx it):=by
 unfold gH uC
 rw[List.map_map]
 apply List.map_congr_left
 intro e _
 show(if e.b=b then { e with items:=X }else e).put b idx it=_
 by_cases h:e.b=b
 ·rw[if_pos h,if_pos h]
  exact if_pos h
 ·rw[if_neg h,if_neg h]
  exact if_neg h
theorem oL (hu:∀e,e∈H->e.b=b->e.items=X):uC H b X=H:=by
 unfold uC
 have:(λe:Bk=>if e.b=b then { e with items:=X }else e)=λe=>if e.b=b then { e with items:=X }else e:=rfl
 conv=>rhs; rw[<-List.map_id H]
 apply List.map_congr_left
 intro e he
 show(if e.b=b then { e with items:=X }else e)=e
 split
 ·rename_i h
  rw[<-hu e he h]
 ·rfl
end Wx

namespace Wx
open Go Go.RowKit
variable {H:List Bk} {B:Nat->Prop}
theorem rf {H':List Bk} (h:H=H'):∀w v,wJ H B w v->wJ H' B w v:=λ_ _ k=>h▸k
theorem BW {w:World} (hH:dn B w H) {e x:Bk} (he:e∈H) (hx:x∈H) (hb:e.b=x.b):e.items=x.items:=by rw[wN hH.2.1 he hx hb]
theorem iU (A:Option Addr) (n cap:Nat):Fits 1 false (bg (.slice A n cap)):=x8 (ee _ _ _) rfl rfl
def gN (L1:List Rat) (s1:Nat) (L2:List Rat) (s2:Nat) (f:Rat) (k:Nat):List Rat:=L1.mapIdx λi x=>if s1<=i/\i<s1+k then x-f*L2.getD (s2+(i-s1)) 0 else x
section
variable {L1 L2:List Rat} {s1 s2 k:Nat} {f:Rat}
theorem oW:(gN L1 s1 L2 s2 f k).length=L1.length:=by unfold gN; exact List.length_mapIdx
theorem Ja:gN L1 s1 L2 s2 f 0=L1:=by
 unfold gN
 apply List.ext_getElem?
 intro i
 rw[List.getElem?_mapIdx]
 cases h:L1[i]? with
 |none=>rfl
 |some x=>
  show some (if s1<=i/\i<s1+0 then _ else x)=some x
  rw[if_neg (by omega)]
theorem I7 {i:Nat} (hi:s1+k<=i):(gN L1 s1 L2 s2 f k).getD i 0=L1.getD i 0:=by
 unfold gN
 rw[List.getD_eq_getElem?_getD,List.getD_eq_getElem?_getD,List.getElem?_mapIdx]
 cases h:L1[i]? with
 |none=>rfl
 |some x=>
  show(some (if s1<=i/\i<s1+k then _ else x)).getD 0=(some x).getD 0
  rw[if_neg (by omega)]
theorem I8 {p:Nat} (h:s1+k<L1.length):(bq (gN L1 s1 L2 s2 f k) p)[s1+k]?=some (RX (L1.getD (s1+k) 0)):=by
 rw[fq (by rw[oW]; exact h),I7 (Nat.le_refl _)]
theorem I9 (h:s1+k<L1.length):(gN L1 s1 L2 s2 f k).set (s1+k) (L1.getD (s1+k) 0-f*L2.getD (s2+k) 0)=gN L1 s1 L2 s2 f (k+1):=by
 unfold gN
 apply List.ext_getElem?
 intro i
 by_cases hi:i=s1+k
 ·subst hi
  rw[List.getElem?_set_self (by rw[List.length_mapIdx]; exact h),List.getElem?_mapIdx,List.getD_eq_getElem?_getD,List.getElem?_eq_getElem h]
  show some (L1[s1+k]-f*L2.getD (s2+k) 0)=some (if s1<=s1+k/\s1+k<s1+(k+1)then L1[s1+k]-f*L2.getD (s2+(s1+k-s1)) 0 else L1[s1+k])
  rw[if_pos (by omega),show s1+k-s1=k by omega]
 ·rw[List.getElem?_set_ne (Ne.symm hi),List.getElem?_mapIdx,List.getElem?_mapIdx]
  cases h:L1[i]? with
  |none=>rfl
  |some x=>
   show some (if s1<=i/\i<s1+k then _ else x)=some (if s1<=i/\i<s1+(k+1)then _ else x)
   by_cases hb:s1<=i/\i<s1+k
   ·rw[if_pos hb,if_pos (by omega)]
   ·rw[if_neg hb,if_neg (by omega)]
end
theorem JP {l:List Rat} {j:Nat} (h:∀x,x∈l->aZ j x) {k:Nat} (hk:k<l.length):aZ j (l.getD k 0):=by
 rw[List.getD_eq_getElem?_getD,List.getElem?_eq_getElem hk]
 exact h _ (List.getElem_mem hk)
end Wx
