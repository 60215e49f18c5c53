import Derived.Test.YtfnmkhlleanppaaGreatDoorCWBSemAppend
import Derived.Test.YtfnmkhlleanppaaGreatDoorCWBSemHeap
import Derived.Laws.Slices
namespace Wx
open Go Go.RowKit
def plus (M:Nat->Nat->Prop) (B:Nat->Prop) (k o:Nat):Prop:=M k o\/B k
def BD {Λ:Type} (C:Λ->Prop) (hd:Λ->Value) (H:Λ->List Bk) (w:World) (e:Ending) (w':World):Prop:=∃(l:Λ) (B:Nat->Prop),C l/\e=.returned (hd l)/\Below w.heap.size w w'/\(∀k,B k->w.heap.size<=k)/\bN B w' (H l)
abbrev aP (id s:Nat) (H:List Bk):Vr:=⟨id,s,none,none,.obj,0,0,false,rF H,[]⟩
theorem gW:gO [0] 0 none_:=⟨rfl,λj h=>by simp at h,λ_ _=>rfl⟩
theorem iQ {α:Type} {l:List α} {x y:α} {i j:Nat} (hi:l[i]?=some x) (hj:l[j]?=some y) (h:i<j):[x,y].Sublist l:=by
 induction l generalizing i j with
 |nil=>simp at hi
 |cons z l ih=>
  cases j with
  |zero=>omega
  |succ j=>
   simp at hj
   cases i with
   |zero=>
    simp at hi
    subst hi
    exact(List.singleton_sublist.2 (List.mem_of_getElem? hj)).cons_cons _
   |succ i=>
    simp at hi
    exact(ih hi hj (by omega)).cons _
section
variable {P:Program} {Q:Exit->Act->World->Prop} {c:bJ} {V:List Vr} {A:List Al} {G:List aI} {a:Act} {w:World} {o:Oper}{d:Nat} {x y z:Operand} {ty:TypeId} {pos:String} {au:Array Edge}{K:Act->World->Prop}
theorem Does.mono {K':Act->World->Prop} (h:Does P o a w K) (hK:∀a w,K a w->K' a w):Does P o a w K':=by
 unfold Does at *
 generalize (execOp a.eval o).run P w=r at *
 match r,h with
 |.ok (.value v) w',h=>exact hK _ _ h
 |.ok .skip w',h=>exact hK _ _ h
 |.ok (.enter f args) w',h=>exact h.mono λe w'' ⟨v,h1,h2⟩=>⟨v,h1,hK _ _ h2⟩
variable {ops:Array Oper}
theorem aU.of (hg:o.guard=none) (h:Does P o a w K):aU P ops o a w K:=by
 unfold aU
 rw[if_pos (by simp[Region.wanted,hg])]
 exact h
variable {id:Nat}
theorem aS.zu {β:Nat->Nat->Prop} {H:List Bk} {v:Value} {w':World} {B:Nat->Prop} (h:aS c V [] G none_ β a w) (hb:Below w.heap.size w w') (hB:∀k,B k->w.heap.size<=k) (hH:bN B w' H) (hd:d<c.N)
  (hV:(V.all λy=>(y.slot != d&&y.id != id)&&(y.born.isNone&&y.dead.isNone))=true) (hG:(G.all λe=>e.slot != d)=true):
  Inv c (aP id d H::V) [] (⟨none,none,d,aJ v⟩::G) none_ (a.put (some d) v) w':=by
 have hV:∀y,y∈V->(y.slot≠d/\y.id≠id)/\live none_ y=true:=λy hy=>by
  rw[List.all_eq_true]at hV
  have:=hV y hy
  simp only[Bool.and_eq_true,bne_iff_ne]at this
  refine⟨this.1,?_⟩
  unfold live
  cases hb:y.born with
  |some j=>rw[hb]at this; cases this.2.1
  |none=>cases hd:y.dead with
   |some j=>rw[hd]at this; cases this.2.2
   |none=>rfl
 have hG:∀e,e∈G->e.slot≠d:=λe he=>by
  rw[List.all_eq_true]at hG
  simpa using hG e he
 let β':Nat->Nat->Prop:=λs=>if s=id then B else β s
 have hβ:∀y,y∈V->β' y.id=β y.id:=λy hy=>if_neg (hV y hy).1.2
 have nK:β' id=B:=if_pos rfl
 have e3:Ext (own c V none_ β) w w':=Ext.bg hb
 have hown:∀k j,k<w.heap.size->own c (aP id d H::V) none_ β' k j->own c V none_ β k j:=by
  rintro k j hk (h1|⟨y,hy,h1,h2,h3⟩)
  ·exact .inl h1
  ·rcases List.mem_cons.1 hy with rfl|hy
   ·have h2:β' id k:=h2
    rw[nK]at h2
    exact absurd (hB k h2) (by omega)
   ·rw[hβ y hy]at h2
    exact .inr ⟨y,hy,h1,h2,h3⟩
 have kn:dm (own c (aP id d H::V) none_ β') w':=by
  rintro k j hk
  rcases Nat.lt_or_ge k w.heap.size with h'|h'
  ·obtain⟨h1,h2⟩:=aL h k j (hown k j h' hk)
   refine⟨Nat.lt_of_lt_of_le h1 hb.size,λu hu=>h2 u ?_⟩
   rw[World.cell?_of_block (w:=w) (a:=⟨k,j,none⟩) (hb.block k h')]at hu
   exact hu
  ·rcases hk with h1|⟨y,hy,h1,h2,h3⟩
   ·exact absurd (jm h (.inl h1)) (by omega)
   ·rcases List.mem_cons.1 hy with rfl|hy
    ·have h2:β' id k:=h2
     rw[nK]at h2
     obtain⟨k1,k2⟩:=hH.nw h2
     exact⟨k1,λu hu=>k2 j u hu⟩
    ·rw[hβ y hy]at h2
     exact absurd (bQ h hy h1 h2) (by omega)
 have sd:∀s,s≠d->sl (a.put (some d) v) s=sl a s:=λs hs=>br λe=>hs (Option.some.inj e).symm
 refine⟨β',by rw[ei]; exact h.size,by rw[put_defers]; exact h.defers,h.below.trans (di.bg hb),h.gA λk hk hn=>hb.block k (Nat.lt_of_lt_of_le hk h.below.size),?_,?_,(λp hp=>by cases hp),?_⟩
 ·intro y hy _
  rcases List.mem_cons.1 hy with rfl|hy
  ·refine(aQ rfl).2 ⟨λk hk=>?_,?_⟩
   ·have hk:β' id k:=hk
    rw[nK]at hk
    obtain⟨k1,k2⟩:=hH.nw hk
    exact⟨.inl (Nat.le_trans h.below.size (hB k hk)),k1,k2⟩
   ·show aK (minus _ (β' id)) (λw=>bN (β' id) w H) w'
    rw[nK]
    exact hH.box kn
  ·have Cv:=(hV y hy).2
   refine(h.var y hy Cv).keep (sd _ (hV y hy).1.1) (hβ y hy) (λg hg=>hb.block g (bQ h hy Cv hg)) hb.size (λF hF=>cC e3 hown hF) (λF hF=>?_) rfl
   refine cC (M:=minus (own c V none_ β) (β y.id)) (Ext.bg hb) ?_ hF
   rintro k j hk ⟨h1,h2⟩
   exact⟨hown k j hk h1,h2⟩
 ·intro y y' g hy hy' _ _ hne
  rcases List.mem_cons.1 hy with rfl|hy<;>rcases List.mem_cons.1 hy' with rfl|hy'
  ·exact absurd rfl hne
  ·intro h1 h2
   have h1:β' id g:=h1
   rw[nK]at h1
   rw[hβ y' hy']at h2
   exact absurd (bQ h hy' (hV y' hy').2 h2) (by have:=hB g h1; omega)
  ·intro h1 h2
   have h2:β' id g:=h2
   rw[nK]at h2
   rw[hβ y hy]at h1
   exact absurd (bQ h hy (hV y hy).2 h1) (by have:=hB g h2; omega)
  ·rw[hβ y hy,hβ y' hy']
   exact h.apart y y' g hy hy' (hV y hy).2 (hV y' hy').2 hne
 ·intro e he _ _
  rcases List.mem_cons.1 he with rfl|he
  ·refineλw'' _=>?_
   show sl (a.put (some d) v) d=v
   exact da (by rw[h.size]; exact hd)
  ·have:=h.gK e he ?_ ?_
   ·show aK _ (λw=>e.p w (sl (a.put (some d) v) e.slot)) w'
    rw[sd _ (hG e he)]
    exact cC e3 hown this
   ·rename_i ho hf
    exact ho
   ·rename_i ho hf
    exact hf
theorem qE {Λ:Type} {C:Λ->Prop} {hd:Λ->Value} {H:Λ->List Bk} {f:FuncId} {args:Array Operand} {ts:Array TypeId} (hf:aA P f) (h:Inv c V [] G none_ a w)
  (hc:∀β,aS c V [] G none_ β a w->Calls P f (args.map a.eval) w (BD C hd H w)) (hd':decide (d<c.N)=true) (hV:(V.all λy=>(y.slot != d&&y.id != id)&&(y.born.isNone&&y.dead.isNone))=true) (hG:(G.all λe=>e.slot != d)=true):
  aU P ops ⟨some d,.call ⟨.value (.func f),args,ts⟩,ty,pos,au,none⟩ a w (λa w=>∃l,C l/\Inv c (aP id d (H l)::V) [] (⟨none,none,d,aJ (hd l)⟩::G) none_ a w):=by
 obtain⟨β,hI⟩:=h
 refine .of rfl (je hf ((hc β hI).mono ?_))
 rintro e w' ⟨l,B,h1,rfl,h2,h3,h4⟩
 exact⟨_,rfl,l,h1,hI.zu h2 h3 h4 (of_decide_eq_true hd') hV hG⟩
end
end Wx

namespace Wx
open Go Go.RowKit
theorem jj {M:Nat->Nat->Prop} {B:Nat->Prop} {w:World} (h:dm M w):dm (minus M B) w:=λk o hk=>h k o hk.1
section
variable {P:Program} {Q:Exit->Act->World->Prop} {c:bJ} {V:List Vr} {A:List Al} {G:List aI} {a:Act} {w:World} {o:Oper}{d:Nat} {x y z u:Operand} {ty:TypeId} {pos:String} {au:Array Edge}{β:Nat->Nat->Prop} {id s n0:Nat} {H:List Bk}
theorem aS.obj (h:aS c V [] G none_ β a w) (hk:V[n0]?=some (aP id s H)):bN (β id) w H/\(∀k,β id k->mine c k)/\∀k j,β id k->own c V none_ β k j:=by
 have hx:=List.mem_of_getElem? hk
 have hO:=(aQ rfl).1 (h.var _ hx rfl)
 exact⟨hO.2.out,λk hk=>(hO.1 k hk).1,λk j hk=>.inr ⟨_,hx,rfl,hk,Nat.zero_le _⟩⟩
theorem dA (h:aS c V [] G none_ β a w) (hk:V[n0]?=some (aP id s H)) {F:World->Prop} (hF:aK (own c V none_ β) F w):aK (plus (minus (own c V none_ β) (β id)) (β id)) F w:=
 hF.sub λk j _ h'=>h'.elim (λh'=>h'.1) λh'=>(h.obj hk).2.2 k j h'
theorem ko {N:Nat} {M:Nat->Nat->Prop} {B:Nat->Prop} (hM:dm M w) (jg:∀k,B k->∀o,¬M k o) (hH:bN B w H) (hN:a.tmps.size=N) (hd:a.defers=[]) (hG:iZ (plus M B) a w G):Inv ⟨N,w,M,B⟩ [aP id s H] [] G none_ a w:=by
 have eo:∀k o,own ⟨N,w,M,B⟩ [aP id s H] none_ (λ_=>B) k o->plus M B k o:=by
  rintro k o (h|⟨x,hx,_,h,_⟩)
  ·exact .inl h
  ·exact .inr h
 have kn:dm (own ⟨N,w,M,B⟩ [aP id s H] none_ (λ_=>B)) w:=λk o hk=>(eo k o hk).elim (λh=>hM k o h) λh=>⟨(hH.nw h).1,λv hv=>(hH.nw h).2 o v hv⟩
 refine⟨λ_=>B,hN,hd,di.refl _ _,(λk o h=>⟨⟨(hM k o h).1,λhb=>jg k hb o h⟩,(hM k o h).2⟩),(λx hx _=>?_),(λx y g hx hy _ _ hne=>?_),(λp hp=>by cases hp),λe he _ _=>(hG.get e he).2.sub λk o _ h=>eo k o h⟩
 ·rcases List.mem_singleton.1 hx with rfl
  exact(aQ rfl).2 ⟨λk hk=>⟨.inr hk,(hH.nw hk).1,λo v hv=>(hH.nw hk).2 o v hv⟩,hH.box kn⟩
 ·rcases List.mem_singleton.1 hx with rfl
  rcases List.mem_singleton.1 hy with rfl
  exact absurd rfl hne
variable {fn:Func}
end
end Wx

namespace Wx
open Go Go.RowKit
section
variable {P:Program} {Q:Exit->Act->World->Prop} {c:bJ} {V:List Vr} {A:List Al} {G:List aI} {a:Act} {w:World}
end
def xh (v:Value):It:=⟨aJ v,bj v⟩
def yK:It:=⟨az,oN⟩
end Wx

namespace Wx
open Go Go.RowKit
def vv (f:FuncId) (sz:Nat) (agg:Bool) (q:Pred):Pred:=λw v=>∃u,v=.func (.func f) #[] #[u]/\cZ sz agg q w u
section
variable {P:Program} {ops:Array Oper} {ms:List Nat} {c:bJ} {V:List Vr} {A:List Al} {G:List aI} {i:Nat} {L:Nat->Bool} {β:Nat->Nat->Prop} {a:Act} {w:World} {o:Oper}{d:Nat} {x y z:Operand} {ty:TypeId} {pos:String} {au:Array Edge}
theorem sQ {f:FuncId} {fx:Operand} {ts:Array TypeId} {sz:Nat} {agg:Bool} {p q p1:Pred} (hf:aA P f) (hx:Has ms G i fx (vv f sz agg q)) (h1:Has ms G i x p1) (hp:Post G i p)
  (hc:∀(M:Nat->Nat->Prop) (w:World) (v1 v2:Value),dm M w->aK M (λw=>p1 w v1) w->aK M (λw=>cZ sz agg q w v2) w->Calls P f #[v1,v2] w (bX M p w)):OpOk P ops ms c V A G i ⟨some d,.call ⟨.value fx,#[x],ts⟩,ty,pos,au,none⟩:=by
 refine dJ (λL β a w hI hd hwf=>?_) rfl
 have hb:=hx.spec hI hd
 obtain⟨u,tF,_⟩:=hb.out
 have hu:aK (own c V L β) (λw=>cZ sz agg q w u) w:=λw' he=>by
  obtain⟨u',e,h⟩:=hb w' he
  rw[tF]at e
  injection e with _ _ e
  have:u=u':=by simpa using e
  rw[this]
  exact h
 have hr:(execOp a.eval ⟨some d,.call ⟨.value fx,#[x],ts⟩,ty,pos,au,none⟩).run P w=.ok (.enter f #[a.eval x,u]) w:=by
  have:=hf #[a.eval x,u] w
  simp only[execOp,resolve,tF,Deferred.ofValue,pure_bind,invoke]
  rw[show(#[x]:Array Operand).map a.eval=#[a.eval x] by simp]
  first|exact this|simpa using this
 unfold Does
 rw[hr]
 refine(hc _ w _ _ (aL hI) (h1.spec hI hd) hu).mono ?_
 rintro e w' ⟨v,rfl,hv,hb⟩
 exact⟨v,rfl,β,hI.value hwf (jz hwf rfl) rfl hb (λd q _ hq tJ _=>by have:=hwf.aa q hq tJ; cases this) λe he ht=>hv.imp λw=>hp.spec hwf he ht w v⟩
theorem Inv.rD (h:Inv c V A G none_ a w) (k:Nat) {x:Vr} (hk:V[k]?=some x) (hb:live none_ x=true) (bT:x.kd=.ptr):∃g,Inv c V A (⟨none,none,x.slot,aJ (.pointer (some ⟨g,0,none⟩))⟩::G) none_ a w:=by
 obtain⟨β,h⟩:=h
 obtain⟨g,_,h2,_⟩:=(bz (by rw[bT]; rfl)).1 (h.var x (List.mem_of_getElem? hk) hb)
 refine⟨g,β,h.size,h.defers,h.below,h.old,h.var,h.apart,h.al,λe he ho hf=>?_⟩
 rcases List.mem_cons.1 he with rfl|he
 ·refineλw' _=>?_
  show sl a x.slot=_
  rw[h2,bT]
  rfl
 ·exact h.gK e he ho hf
end
end Wx
