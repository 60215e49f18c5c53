import Derived.Test.YtfnmkhlleanppaaGreatDoorCWCSemAppend
import Derived.Test.YtfnmkhlleanppaaGreatDoorCWCSemHeap
import Derived.Laws.Slices
namespace Wx
open Go Go.RowKit
def plus (M:Nat->Nat->Prop) (B:Nat->Prop) (k o:Nat):Prop:=M k o\/B k
def Ga {Λ:Type} (C:Λ->Prop) (hd:Λ->Value) (H:Λ->List Bk) (w:World) (e:Ending) (w':World):Prop:=∃(l:Λ) (B:Nat->Prop),C l/\e=.returned (hd l)/\Below w.heap.size w w'/\(∀k,B k->w.heap.size<=k)/\cn B w' (H l)
abbrev aZ (id s:Nat) (H:List Bk):Vr:=⟨id,s,none,none,.obj,0,0,false,uN H,[]⟩
theorem gl:iY [0] 0 none_:=⟨rfl,λj h=>by simp at h,λ_ _=>rfl⟩
theorem kn {α:Type} {l:List α} {x y:α} {i j:Nat} (hi:l[i]?=some x) (hj:l[j]?=some y) (h:i<j):[x,y].Sublist l:=by
 induction l generalizing i j with
 |nil=>simp at hi
 |cons z l ih=>
  cases j with
  |zero=>omega
  |succ j=>
   simp at hj
   cases i with
   |zero=>
    simp at hi
    subst hi
    exact(List.singleton_sublist.2 (List.mem_of_getElem? hj)).cons_cons _
   |succ i=>
    simp at hi
    exact(ih hi hj (by omega)).cons _
section
variable {P:Program} {Q:Exit->Act->World->Prop} {c:bQ} {V:List Vr} {A:List Al} {G:List aN} {a:Act} {w:World} {o:Oper}{d:Nat} {x y z:Operand} {ty:TypeId} {pos:String} {aft:Array Edge}{K:Act->World->Prop}
theorem Does.mono {K':Act->World->Prop} (h:Does P o a w K) (hK:∀a w,K a w->K' a w):Does P o a w K':=by
 unfold Does at *
 generalize (execOp a.eval o).run P w=r at *
 match r,h with
 |.ok (.value v) w',h=>exact hK _ _ h
 |.ok .skip w',h=>exact hK _ _ h
 |.ok (.enter f args) w',h=>exact h.mono λe w'' ⟨v,h1,h2⟩=>⟨v,h1,hK _ _ h2⟩
variable {ops:Array Oper}
theorem aW.of (hg:o.guard=none) (h:Does P o a w K):aW P ops o a w K:=by
 unfold aW
 rw[if_pos (by simp[Region.wanted,hg])]
 exact h
variable {id:Nat}
theorem aQ.DG {β:Nat->Nat->Prop} {H:List Bk} {v:Value} {w':World} {B:Nat->Prop} (h:aQ c V [] G none_ β a w) (hb:Below w.heap.size w w') (hB:∀k,B k->w.heap.size<=k) (hH:cn B w' H) (hd:d<c.N)
  (hV:(V.all λy=>(y.slot != d&&y.id != id)&&(y.born.isNone&&y.dead.isNone))=true) (hG:(G.all λe=>e.slot != d)=true):
  Inv c (aZ id d H::V) [] (⟨none,none,d,aG v⟩::G) none_ (a.put (some d) v) w':=by
 have hV:∀y,y∈V->(y.slot≠d/\y.id≠id)/\live none_ y=true:=λy hy=>by
  rw[List.all_eq_true]at hV
  have:=hV y hy
  simp only[Bool.and_eq_true,bne_iff_ne]at this
  refine⟨this.1,?_⟩
  unfold live
  cases hb:y.born with
  |some j=>rw[hb]at this; cases this.2.1
  |none=>cases hd:y.dead with
   |some j=>rw[hd]at this; cases this.2.2
   |none=>rfl
 have hG:∀e,e∈G->e.slot≠d:=λe he=>by
  rw[List.all_eq_true]at hG
  simpa using hG e he
 let β':Nat->Nat->Prop:=λs=>if s=id then B else β s
 have hβ:∀y,y∈V->β' y.id=β y.id:=λy hy=>if_neg (hV y hy).1.2
 have qA:β' id=B:=if_pos rfl
 have e3:Ext (own c V none_ β) w w':=Ext.bH hb
 have hown:∀k j,k<w.heap.size->own c (aZ id d H::V) none_ β' k j->own c V none_ β k j:=by
  rintro k j hk (h1|⟨y,hy,h1,h2,h3⟩)
  ·exact .inl h1
  ·rcases List.mem_cons.1 hy with rfl|hy
   ·have h2:β' id k:=h2
    rw[qA]at h2
    exact absurd (hB k h2) (by omega)
   ·rw[hβ y hy]at h2
    exact .inr ⟨y,hy,h1,h2,h3⟩
 have fg:cS (own c (aZ id d H::V) none_ β') w':=by
  rintro k j hk
  rcases Nat.lt_or_ge k w.heap.size with h'|h'
  ·obtain⟨h1,h2⟩:=aF h k j (hown k j h' hk)
   refine⟨Nat.lt_of_lt_of_le h1 hb.size,λu hu=>h2 u ?_⟩
   rw[World.cell?_of_block (w:=w) (a:=⟨k,j,none⟩) (hb.block k h')]at hu
   exact hu
  ·rcases hk with h1|⟨y,hy,h1,h2,h3⟩
   ·exact absurd (kS h (.inl h1)) (by omega)
   ·rcases List.mem_cons.1 hy with rfl|hy
    ·have h2:β' id k:=h2
     rw[qA]at h2
     obtain⟨k1,k2⟩:=hH.qf h2
     exact⟨k1,λu hu=>k2 j u hu⟩
    ·rw[hβ y hy]at h2
     exact absurd (cE h hy h1 h2) (by omega)
 have sd:∀s,s≠d->sl (a.put (some d) v) s=sl a s:=λs hs=>bG λe=>hs (Option.some.inj e).symm
 refine⟨β',by rw[fc]; exact h.size,by rw[put_defers]; exact h.defers,h.below.trans (bX.bH hb),h.iK λk hk hn=>hb.block k (Nat.lt_of_lt_of_le hk h.below.size),?_,?_,(λp hp=>by cases hp),?_⟩
 ·intro y hy _
  rcases List.mem_cons.1 hy with rfl|hy
  ·refine(aB rfl).2 ⟨λk hk=>?_,?_⟩
   ·have hk:β' id k:=hk
    rw[qA]at hk
    obtain⟨k1,k2⟩:=hH.qf hk
    exact⟨.inl (Nat.le_trans h.below.size (hB k hk)),k1,k2⟩
   ·show aJ (minus _ (β' id)) (λw=>cn (β' id) w H) w'
    rw[qA]
    exact hH.box fg
  ·have C1:=(hV y hy).2
   refine(h.var y hy C1).keep (sd _ (hV y hy).1.1) (hβ y hy) (λg hg=>hb.block g (cE h hy C1 hg)) hb.size (λF hF=>dh e3 hown hF) (λF hF=>?_) rfl
   refine dh (M:=minus (own c V none_ β) (β y.id)) (Ext.bH hb) ?_ hF
   rintro k j hk ⟨h1,h2⟩
   exact⟨hown k j hk h1,h2⟩
 ·intro y y' g hy hy' _ _ hne
  rcases List.mem_cons.1 hy with rfl|hy<;>rcases List.mem_cons.1 hy' with rfl|hy'
  ·exact absurd rfl hne
  ·intro h1 h2
   have h1:β' id g:=h1
   rw[qA]at h1
   rw[hβ y' hy']at h2
   exact absurd (cE h hy' (hV y' hy').2 h2) (by have:=hB g h1; omega)
  ·intro h1 h2
   have h2:β' id g:=h2
   rw[qA]at h2
   rw[hβ y hy]at h1
   exact absurd (cE h hy (hV y hy).2 h1) (by have:=hB g h2; omega)
  ·rw[hβ y hy,hβ y' hy']
   exact h.apart y y' g hy hy' (hV y hy).2 (hV y' hy').2 hne
 ·intro e he _ _
  rcases List.mem_cons.1 he with rfl|he
  ·refineλw'' _=>?_
   show sl (a.put (some d) v) d=v
   exact dr (by rw[h.size]; exact hd)
  ·have:=h.ew e he ?_ ?_
   ·show aJ _ (λw=>e.p w (sl (a.put (some d) v) e.slot)) w'
    rw[sd _ (hG e he)]
    exact dh e3 hown this
   ·rename_i ho hf
    exact ho
   ·rename_i ho hf
    exact hf
theorem tV {Λ:Type} {C:Λ->Prop} {hd:Λ->Value} {H:Λ->List Bk} {f:FuncId} {args:Array Operand} {ts:Array TypeId} (hf:aK P f) (h:Inv c V [] G none_ a w)
  (hc:∀β,aQ c V [] G none_ β a w->Calls P f (args.map a.eval) w (Ga C hd H w)) (hd':decide (d<c.N)=true) (hV:(V.all λy=>(y.slot != d&&y.id != id)&&(y.born.isNone&&y.dead.isNone))=true) (hG:(G.all λe=>e.slot != d)=true):
  aW P ops ⟨some d,.call ⟨.value (.func f),args,ts⟩,ty,pos,aft,none⟩ a w (λa w=>∃l,C l/\Inv c (aZ id d (H l)::V) [] (⟨none,none,d,aG (hd l)⟩::G) none_ a w):=by
 obtain⟨β,hI⟩:=h
 refine .of rfl (gB hf ((hc β hI).mono ?_))
 rintro e w' ⟨l,B,h1,rfl,h2,h3,h4⟩
 exact⟨_,rfl,l,h1,hI.DG h2 h3 h4 (of_decide_eq_true hd') hV hG⟩
end
end Wx

namespace Wx
open Go Go.RowKit
theorem kP {M:Nat->Nat->Prop} {B:Nat->Prop} {w:World} (h:cS M w):cS (minus M B) w:=λk o hk=>h k o hk.1
section
variable {P:Program} {Q:Exit->Act->World->Prop} {c:bQ} {V:List Vr} {A:List Al} {G:List aN} {a:Act} {w:World} {o:Oper}{d:Nat} {x y z u:Operand} {ty:TypeId} {pos:String} {aft:Array Edge}{β:Nat->Nat->Prop} {id s n0:Nat} {H:List Bk}
theorem aQ.obj (h:aQ c V [] G none_ β a w) (hk:V[n0]?=some (aZ id s H)):cn (β id) w H/\(∀k,β id k->mine c k)/\∀k j,β id k->own c V none_ β k j:=by
 have hx:=List.mem_of_getElem? hk
 have hO:=(aB rfl).1 (h.var _ hx rfl)
 exact⟨hO.2.out,λk hk=>(hO.1 k hk).1,λk j hk=>.inr ⟨_,hx,rfl,hk,Nat.zero_le _⟩⟩
theorem ee (h:aQ c V [] G none_ β a w) (hk:V[n0]?=some (aZ id s H)) {F:World->Prop} (hF:aJ (own c V none_ β) F w):aJ (plus (minus (own c V none_ β) (β id)) (β id)) F w:=
 hF.sub λk j _ h'=>h'.elim (λh'=>h'.1) λh'=>(h.obj hk).2.2 k j h'
theorem mG {N:Nat} {M:Nat->Nat->Prop} {B:Nat->Prop} (hM:cS M w) (jx:∀k,B k->∀o,¬M k o) (hH:cn B w H) (hN:a.tmps.size=N) (hd:a.defers=[]) (hG:kH (plus M B) a w G):Inv ⟨N,w,M,B⟩ [aZ id s H] [] G none_ a w:=by
 have eo:∀k o,own ⟨N,w,M,B⟩ [aZ id s H] none_ (λ_=>B) k o->plus M B k o:=by
  rintro k o (h|⟨x,hx,_,h,_⟩)
  ·exact .inl h
  ·exact .inr h
 have fg:cS (own ⟨N,w,M,B⟩ [aZ id s H] none_ (λ_=>B)) w:=λk o hk=>(eo k o hk).elim (λh=>hM k o h) λh=>⟨(hH.qf h).1,λv hv=>(hH.qf h).2 o v hv⟩
 refine⟨λ_=>B,hN,hd,bX.refl _ _,(λk o h=>⟨⟨(hM k o h).1,λhb=>jx k hb o h⟩,(hM k o h).2⟩),(λx hx _=>?_),(λx y g hx hy _ _ hne=>?_),(λp hp=>by cases hp),λe he _ _=>(hG.get e he).2.sub λk o _ h=>eo k o h⟩
 ·rcases List.mem_singleton.1 hx with rfl
  exact(aB rfl).2 ⟨λk hk=>⟨.inr hk,(hH.qf hk).1,λo v hv=>(hH.qf hk).2 o v hv⟩,hH.box fg⟩
 ·rcases List.mem_singleton.1 hx with rfl
  rcases List.mem_singleton.1 hy with rfl
  exact absurd rfl hne
variable {fn:Func}
end
end Wx

namespace Wx
open Go Go.RowKit
section
variable {P:Program} {Q:Exit->Act->World->Prop} {c:bQ} {V:List Vr} {A:List Al} {G:List aN} {a:Act} {w:World}
end
def Bn (v:Value):It:=⟨aG v,aV v⟩
def C2:It:=⟨aT,rT⟩
end Wx

namespace Wx
open Go Go.RowKit
def zx (f:FuncId) (sz:Nat) (agg:Bool) (q:Pred):Pred:=λw v=>∃u,v=.func (.func f) #[] #[u]/\dM sz agg q w u
section
variable {P:Program} {ops:Array Oper} {ms:List Nat} {c:bQ} {V:List Vr} {A:List Al} {G:List aN} {i:Nat} {L:Nat->Bool} {β:Nat->Nat->Prop} {a:Act} {w:World} {o:Oper}{d:Nat} {x y z:Operand} {ty:TypeId} {pos:String} {aft:Array Edge}
theorem wo {f:FuncId} {fx:Operand} {ts:Array TypeId} {sz:Nat} {agg:Bool} {p q p1:Pred} (hf:aK P f) (hx:Has ms G i fx (zx f sz agg q)) (h1:Has ms G i x p1) (hp:Post G i p)
  (hc:∀(M:Nat->Nat->Prop) (w:World) (v1 v2:Value),cS M w->aJ M (λw=>p1 w v1) w->aJ M (λw=>dM sz agg q w v2) w->Calls P f #[v1,v2] w (cI M p w)):OpOk P ops ms c V A G i ⟨some d,.call ⟨.value fx,#[x],ts⟩,ty,pos,aft,none⟩:=by
 refine eZ (λL β a w hI hd hwf=>?_) rfl
 have hb:=hx.spec hI hd
 obtain⟨u,sL,_⟩:=hb.out
 have hu:aJ (own c V L β) (λw=>dM sz agg q w u) w:=λw' he=>by
  obtain⟨u',e,h⟩:=hb w' he
  rw[sL]at e
  injection e with _ _ e
  have:u=u':=by simpa using e
  rw[this]
  exact h
 have hr:(execOp a.eval ⟨some d,.call ⟨.value fx,#[x],ts⟩,ty,pos,aft,none⟩).run P w=.ok (.enter f #[a.eval x,u]) w:=by
  have:=hf #[a.eval x,u] w
  simp only[execOp,resolve,sL,Deferred.ofValue,pure_bind,invoke]
  rw[show(#[x]:Array Operand).map a.eval=#[a.eval x] by simp]
  first|exact this|simpa using this
 unfold Does
 rw[hr]
 refine(hc _ w _ _ (aF hI) (h1.spec hI hd) hu).mono ?_
 rintro e w' ⟨v,rfl,hv,hb⟩
 exact⟨v,rfl,β,hI.value hwf (lA hwf rfl) rfl hb (λd q _ hq xb _=>by have:=hwf.aa q hq xb; cases this) λe he ht=>hv.imp λw=>hp.spec hwf he ht w v⟩
theorem Inv.qn (h:Inv c V A G none_ a w) (k:Nat) {x:Vr} (hk:V[k]?=some x) (hb:live none_ x=true) (bR:x.kd=.ptr):∃g,Inv c V A (⟨none,none,x.slot,aG (.pointer (some ⟨g,0,none⟩))⟩::G) none_ a w:=by
 obtain⟨β,h⟩:=h
 obtain⟨g,_,h2,_⟩:=(aY (by rw[bR]; rfl)).1 (h.var x (List.mem_of_getElem? hk) hb)
 refine⟨g,β,h.size,h.defers,h.below,h.old,h.var,h.apart,h.al,λe he ho hf=>?_⟩
 rcases List.mem_cons.1 he with rfl|he
 ·refineλw' _=>?_
  show sl a x.slot=_
  rw[h2,bR]
  rfl
 ·exact h.ew e he ho hf
end
end Wx

namespace Wx
open Go Go.RowKit Go.Proofs
end Wx

namespace Wx
open Go Go.RowKit
theorem mC (A:Option Addr) (n cap:Nat):Fits 1 false (aG (.slice A n cap)):=cg (bu _ _ _) rfl rfl
section
variable {L1 L2:List Rat} {s1 s2 k:Nat} {f:Rat}
end
end Wx

namespace Wx
open Go Go.RowKit
end Wx

namespace Wx
open Go Go.RowKit
section
variable {P:Program} {Q:Exit->Act->World->Prop} {c:bQ} {V:List Vr} {A:List Al} {G:List aN} {a:Act} {w:World} {o:Oper}{d:Nat} {x y z u:Operand} {ty:TypeId} {pos:String} {aft:Array Edge}
theorem aW.mono {ops:Array Oper} {K K':Act->World->Prop} (h:aW P ops o a w K) (hK:∀a w,K a w->K' a w):aW P ops o a w K':=by
 unfold aW at *
 split at h
 ·rename_i hw
  rw[if_pos hw]
  exact h.mono hK
 ·rename_i hw
  rw[if_neg hw]
  exact hK _ _ h
end
end Wx

namespace Wx
open Go Go.RowKit
def HQ:Value->Bool
 |.int .u64 _=>false
 |.int .u32 _=>false
 |_=>true
theorem wh {v:Value} (h:HQ v=true):dB v:=by
 intro n
 refine⟨?_,?_⟩<;>intro e<;>rw[e]at h<;>cases h
def xn (P:Program) (T tx E:TypeId) (sz:Nat):Bool:=
 (match P.underlying T with|some (.slice E')=>E'==E|_=>false)&&(match P.underlying tx with|some (.slice _)=>true|_=>false) &&
 (match P.info? E with
  |some ti=>(ti.size==sz&&decide (ti.bytes<=4096))&&(match ti.zero with|some zv=>zv.cells.size==sz&&zv.cells.toList.all HQ|none=>false)
  |none=>false)
theorem ir {P:Program} {T tx E:TypeId} {sz:Nat} (h:xn P T tx E sz=true):lf P T tx E sz:=by
 unfold xn at h
 simp only[Bool.and_eq_true]at h
 obtain⟨⟨h1,h2⟩,h3⟩:=h
 refine⟨?_,?_,?_⟩
 ·split at h1
  ·rename_i E' he
   rw[he,eq_of_beq h1]
  ·cases h1
 ·split at h2
  ·rename_i E' he
   exact⟨E',he⟩
  ·cases h2
 ·split at h3
  ·rename_i ti he
   simp only[Bool.and_eq_true]at h3
   obtain⟨⟨h4,h5⟩,h6⟩:=h3
   split at h6
   ·rename_i zv hz
    simp only[Bool.and_eq_true,List.all_eq_true]at h6
    exact⟨ti,zv,he,eq_of_beq h4,hz,eq_of_beq h6.1,λu hu=>wh (h6.2 u hu),of_decide_eq_true h5⟩
   ·cases h6
  ·cases h3
section
variable {P:Program} {ops:Array Oper} {ms:List Nat} {c:bQ} {V:List Vr} {A:List Al} {G:List aN} {i:Nat} {L:Nat->Bool} {β:Nat->Nat->Prop} {a:Act} {w:World} {o:Oper}{d:Nat} {x y z:Operand} {ty:TypeId} {pos:String} {aft:Array Edge}{sz:Nat} {agg:Bool}
theorem mY {T E:TypeId} {z:List Value} {zv:Value} {p:Pred} (ht:iZ P T E sz) (pM:∀w,(zeroValue E).run P w=.ok zv w) (nO:zv.cells=z.toArray) (pL:z.length=sz) (hsz:0<sz/\sz<=16777216) (h1:Has ms G i x p) (hf:Fits sz agg p) (hp:Post G i (aI sz agg 1 λ_=>p)):
  OpOk P ops ms c V A G i ⟨some d,.buildSlice T 1 #[(0,x)],ty,pos,aft,none⟩:=
 dL (fs:=[⟨agg,sz,aT⟩]) (ps:=[(0,p)]) (gs:=[⟨agg,sz,p⟩]) ht pM nO rfl (decide_eq_true ⟨hsz.1,Nat.one_pos,by omega⟩) (λ_=>trivial) pL (show bZ ms G i [⟨agg,sz,aT⟩] [(0,x)] [(0,p)]from⟨⟨rfl,h1,_,rfl,hf⟩,trivial⟩) rfl (λ_=>p) (λk f h=>by cases k with
  |zero=>simp at h; rw[<-h]
  |succ k=>simp at h) hp
theorem aP {n:Nat} {f:Nat->Pred}:Fits 1 false (aI sz agg n f):=by
 rintro w v ⟨A,c,rfl,_⟩
 exact⟨[_],rfl,rfl,rfl,λu hu=>by simp at hu; subst hu; exact⟨bu _ _ _,rfl⟩⟩
variable {fn:Func}
end
end Wx

namespace Wx
end Wx

namespace Wx
open Go Go.RowKit Go.Proofs
def KQ:Nat:=4294967296
end Wx

namespace Wx
open Go Go.RowKit Go.Proofs
end Wx

namespace Wx
open Go Go.RowKit Go.Proofs
end Wx

namespace Wx
open Go Go.RowKit Go.Proofs
end Wx

namespace Wx
open Go Go.RowKit Go.Proofs
@[irreducible] def npLo (x y u c : Nat) : Nat := (u + c + x * y) % 4294967296
@[irreducible] def npHi (x y u c : Nat) : Nat := (u + c + x * y) / 4294967296
end Wx

namespace Wx
open Go Go.RowKit Go.Proofs
end Wx

namespace Wx
open Go Go.RowKit Go.Proofs
end Wx

namespace Wx
open Go Go.RowKit Go.Proofs
@[irreducible] def bdQ (r x d : Nat) : Nat := (r * 4294967296 + x) / d
@[irreducible] def bdR (r x d : Nat) : Nat := (r * 4294967296 + x) % d
end Wx

namespace Wx
open Go Go.RowKit Go.Proofs
end Wx

namespace Wx
open Go Go.RowKit Go.Proofs
end Wx

namespace Wx
open Go Go.RowKit Go.Proofs
end Wx

namespace Wx
open Go Go.RowKit Go.Proofs
end Wx

namespace Wx
open Go Go.RowKit Go.Proofs
end Wx

namespace Wx
open Go Go.RowKit Go.Proofs
def F9 (w:World) (v:Value) (q:Rat):Prop:=∃vn vd,v=.agg #[.bool (decide (q.num<0)),vn,vd]/\Ah .u64 KQ w vn q.num.natAbs/\Ah .u64 KQ w vd q.den
end Wx

namespace Wx
open Go Go.RowKit Go.Proofs
def Fm (q:Rat):Pred:=λw v=>F9 w v q
theorem iJ (q:Rat):aO (Fm q):=by
 rintro M w v hM ⟨vn,vd,rfl,h1,h2⟩ w' he
 exact⟨vn,vd,rfl,lV hM (.inr rfl) h1 w' he,lV hM (.inr rfl) h2 w' he⟩
theorem qX (q:Rat):Fits 3 true (Fm q):=by
 rintro w v ⟨vn,vd,rfl,h1,h2⟩
 obtain⟨A,c,rfl,_⟩:=h1
 obtain⟨B,d,rfl,_⟩:=h2
 refine⟨[_,_,_],rfl,rfl,rfl,?_⟩
 intro u hu
 simp at hu
 rcases hu with rfl|rfl|rfl
 ·exact⟨mR _,rfl⟩
 ·exact⟨bu _ _ _,rfl⟩
 ·exact⟨bu _ _ _,rfl⟩
end Wx
