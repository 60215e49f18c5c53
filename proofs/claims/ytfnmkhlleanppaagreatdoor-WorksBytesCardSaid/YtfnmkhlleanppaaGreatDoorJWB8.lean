import Derived.Test.YtfnmkhlleanppaaGreatDoorCWBSemRow
namespace Wx
open Go Go.RowKit Go.Proofs Go.ChangeShapes Go.WideShapes Go.ChangeAt Go.Deep
def pO (w w':World):Prop:=∀a v,w.cell? a=some v->w'.cell? a=some v
theorem tn {M:Nat->Nat->Prop} {w w':World} (hM:∀k o,¬M k o) (h:Ext M w w'):pO w w':=λa v hv=>by
 obtain⟨b,o,s⟩:=a
 cases s with
 |none=>exact h.cell b o v (hM b o) hv
 |some s=>
  exfalso
  unfold World.cell? at hv
  split at hv
  ·simp at hv
  ·cases hv
def BC {H:Type} (enc:TypeId×Value->H) (P:Program) (w:World) (e:TypeId) (agg:Bool) {α:Type} (C:α->Prop) (f:α->Pred):Prop:=
 ∀fuel cs (x:DataW H×List MemPlace),DataW.trod enc P w 0 (λ_=>true) true fuel e cs=some x->∃a:α,C a/\∀w',pO w w'->f a w' (ah agg cs)
section
variable {H:Type} {enc:TypeId×Value->H} {P:Program} {w:World}{t e:TypeId} {α:Type} {C:α->Prop} {f:α->Pred}
theorem sV {agg:Bool} (d:α) {sz:Nat} (ht:P.underlying t=some (.slice e)) (hc:P.cellsOf e=sz) (hn:0<sz) (h:BC enc P w e agg C f):
  BC enc P w t false (λL:List α=>(∀a∈L,C a)/\L.length<=maxLen) λL=>ax sz agg L.length λi=>f (L.getD i d):=λfuel cs x hx=>by
 subst hc
 rcases open_slice ht hx with⟨h0,_⟩|⟨a,len,cap,m,n,D,Pl,h1,_,h3,h4,h5,_,h7⟩
 ·subst h0
  exact⟨[],⟨by simp,Nat.zero_le _⟩,λw' _=>⟨none,0,rfl,Nat.le_refl _,Nat.zero_le _,λh=>absurd h (Nat.lt_irrefl _)⟩⟩
 ·subst h1
  have each:∀i,i<len->∃y:α×List Value,C y.1/\w.cells? 0 (a.add (i*P.cellsOf e)) (P.cellsOf e)=some y.2/\∀w',pO w w'->f y.1 w' (ah agg y.2):=λi hi=>by
   obtain⟨cs',k1,k2⟩:=h7 i (by rw[h5]; simp; omega)
   obtain⟨y,k3,k4⟩:=h _ _ _ k2
   exact⟨(y,cs'),k3,k1,k4⟩
  have:Inhabited (α×List Value):=⟨(d,[])⟩
  obtain⟨y,hy⟩:=choose_lt each
  refine⟨(List.range len).map λi=>(y i).1,⟨λb hb=>?_,by simp; omega⟩,λw' hw=>?_⟩
  ·obtain⟨i,hi,rfl⟩:=List.mem_map.1 hb
   exact(hy i (List.mem_range.1 hi)).1
  ·have hl:((List.range len).map λi=>(y i).1).length=len:=by simp
   show ax _ _ _ _ _ _
   rw[hl]
   refine⟨some a,cap,rfl,h3,h4,λh0=>?_⟩
   have hspot:a.spot=none:=by
    obtain⟨_,k2,_⟩:=hy 0 h0
    obtain⟨_,k3,k4⟩:=World.cells?_some k2
    have k5:=k4 0 hn
    cases hs:a.spot with
    |none=>rfl
    |some s=>
     exfalso
     rw[List.getElem?_eq_getElem (by omega)]at k5
     unfold World.cell? Addr.add at k5
     split at k5
     ·simp[hs]at k5
     ·cases k5
   obtain⟨b,o,s⟩:=a
   simp only at hspot
   subst hspot
   refine⟨b,o,rfl,λi hi=>?_⟩
   obtain⟨_,k2,k3⟩:=hy i hi
   obtain⟨_,k4,k5⟩:=World.cells?_some k2
   have Dr:∀n:Nat,(⟨b,o,none⟩:Addr).add n=⟨b,o+n,none⟩:=λn=>by
    unfold Addr.add
    split
    ·rename_i h
     rw[h]
     rfl
    ·rfl
   refine⟨(y i).2,k4,λj u hj=>hw _ _ ?_,?_⟩
   ·have tG:j<P.cellsOf e:=by
     rw[<-k4]
     exact(List.getElem?_eq_some_iff.1 hj).1
    have:=k5 j tG
    rw[hj,Dr]at this
    have e2:(⟨b,o+i*P.cellsOf e,none⟩:Addr).add j=⟨b,o+i*P.cellsOf e+j,none⟩:=by
     unfold Addr.add
     split
     ·rename_i h
      rw[h]
      rfl
     ·rfl
    rw[e2]at this
    exact this
   ·have e1:((List.range len).map λi=>(y i).1).getD i d=(y i).1:=by
     rw[List.getD_eq_getElem?_getD,List.getElem?_map,List.getElem?_range hi]
     rfl
    show f (((List.range len).map λi=>(y i).1).getD i d) w' _
    rw[e1]
    exact k3 w' hw
theorem BC.arg {v:Value} {d:DataW H} {p:List MemPlace} {r:Reach} {b0:Nat} (h:BC enc P w t false C f) (ht:P.underlying t=some (.slice e)) (hv:Value.okWide P w r b0 t v) (hd:DataW.Trod enc P w 0 (λ_=>true) true t v d p):
  ∃a:α,C a/\∀w',Ext (λ_ _=>False) w w'->f a w' v:=by
 obtain⟨fuel,hx⟩:=hd
 obtain⟨A,n,cap,rfl⟩:=okWide_slice ht hv
 obtain⟨a,h1,h2⟩:=h _ _ _ hx
 exact⟨a,h1,λw' he=>h2 w' (tn (λ_ _ h=>h) he)⟩
end
end Wx

namespace Wx
open Go Go.RowKit Go.Proofs Go.ChangeShapes Go.WideShapes Go.ChangeAt Go.Deep
section
variable {H:Type} {enc:TypeId×Value->H} {P:Program} {w:World}
theorem qu {e:TypeId} (he:P.underlying e=some .string):BC enc P w e false (λs:ByteArray=>s.size<=maxLen) λs=>aJ (.string s):=λfuel cs x h=>by
 obtain⟨s,h1,_,h3⟩:=DataW.trod_string he h
 subst h1
 exact⟨s,h3,λw' _=>rfl⟩
end
end Wx

namespace Wx
open Go Go.RowKit Go.Proofs
variable {n:Int}
theorem wf_u8 (h:(Lit.int .u8 n).wf=true):0<=n/\n<=255:=by
 simp[Lit.wf,IntKind.min,IntKind.max,IntKind.bits,IntKind.signed]at h
 omega
theorem wf_u16 (h:(Lit.int .u16 n).wf=true):0<=n/\n<=65535:=by
 simp[Lit.wf,IntKind.min,IntKind.max,IntKind.bits,IntKind.signed]at h
 omega
end Wx

namespace Wx
open Go Go.RowKit
def gh (P:Program) (ops:Array Oper) (K:Nat->Act->World->Prop):Nat->List Oper->Prop
 |_,[]=>True
 |m,o::os=>(∀a w,K m a w->aU P ops o a w (K (m+1)))/\gh P ops K (m+1) os
theorem gh.get {P:Program} {ops:Array Oper} {K:Nat->Act->World->Prop}:∀{os:List Oper} {m:Nat},gh P ops K m os->∀{j:Nat} {o:Oper},os[j]?=some o->∀a w,K (m+j) a w->aU P ops o a w (K (m+j+1)):=by
 intro os
 induction os with
 |nil=>intro m _ j o h; simp at h
 |cons o' os ih=>
  intro m hs j o h
  cases j with
  |zero=>simp at h; subst h; exact hs.1
  |succ j=>
   have:=ih hs.2 (j:=j) (o:=o) (by simpa using h)
   rw[show m+(j+1)=m+1+j by omega]
   exact this
def oH (ms:List Nat) (k n:Nat):Bool:=(List.range n).all λi=>decide (i<k)||(List.range i).all λj=>(ms.getD i 0).testBit j
theorem dN {ms:List Nat} {k n i j:Nat} (h:oH ms k n=true) (hi:i<n) (hk:k<=i) (hj:j<i):(ms.getD i 0).testBit j=true:=by
 unfold oH at h
 rw[List.all_eq_true]at h
 have:=h i (by simpa using hi)
 rw[Bool.or_eq_true,decide_eq_true_eq,List.all_eq_true]at this
 rcases this with h1|h1
 ·omega
 ·exact h1 j (by simpa using hj)
section
variable {P:Program} {Q:Exit->Act->World->Prop} {c:bJ} {V:List Vr} {A:List Al} {G:List aI} {a:Act} {w:World}
theorem kX {N k:Nat} {l:List Oper} (h:mC N (l.take k) V A G=true) {i:Nat} {o:Oper} (hi:l[i]?=some o) (hk:i<k):fH N l.toArray V A G i o:=by
 have h1:=nH h (i:=i) (o:=o) (by rw[List.getElem?_take,if_pos hk]; exact hi)
 have hm:=dR h
 refine⟨h1.sz,h1.sg,h1.aa,h1.g1,h1.g2,λe j he ht=>?_,h1.gu,h1.a1,h1.a2,h1.v1,h1.v2,h1.vk,h1.vb,h1.vs,h1.vu,h1.vo⟩
 have h2:=h1.g3 e j he ht
 rw[<-h2]
 simp only[kA,Bool.and_eq_true,List.all_eq_true]at hm
 have h3:=(hm.2 e he).1
 rw[ht]at h3
 simp only[gU,decide_eq_true_eq,List.length_take]at h3
 congr 1
 simp only[List.getElem?_toArray]
 rw[List.getElem?_take,if_pos (by omega)]
end
end Wx
