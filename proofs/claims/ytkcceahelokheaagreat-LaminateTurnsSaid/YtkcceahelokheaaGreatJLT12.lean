import Derived.Test.YtkcceahelokheaaGreatJLT11
namespace Wx
open Go Go.RowKit Go.Proofs Go.ChangeShapes Go.WideShapes Go.ChangeAt Go.Deep
def CK (w w':World):Prop:=∀a v,w.cell? a=some v->w'.cell? a=some v
theorem Cr {M:Nat->Nat->Prop} {w w':World} (hM:∀k o,¬M k o) (h:Ext M w w'):CK w w':=λa v hv=>by
 obtain⟨b,o,s⟩:=a
 cases s with
 |none=>exact h.cell b o v (hM b o) hv
 |some s=>
  exfalso
  unfold World.cell? at hv
  split at hv
  ·simp at hv
  ·cases hv
def CH {H:Type} (enc:TypeId×Value->H) (P:Program) (w:World) (e:TypeId) (agg:Bool) {α:Type} (C:α->Prop) (f:α->Pred):Prop:=
 ∀fuel cs (x:DataW H×List MemPlace),DataW.trod enc P w 0 (λ_=>true) true fuel e cs=some x->∃a:α,C a/\∀w',CK w w'->f a w' (aj agg cs)
section
variable {H:Type} {enc:TypeId×Value->H} {P:Program} {w:World}{e:TypeId}
theorem nE {k:IntKind} (he:P.underlying e=some (.int k)):CH enc P w e false (λn=>(Lit.int k n).wf=true) λn=>bg (.int k n):=λfuel cs x h=>by
 obtain⟨n,h1,_,h3⟩:=DataW.trod_int he h
 subst h1
 exact⟨n,h3,λw' _=>rfl⟩
variable {t:TypeId} {α:Type} {C:α->Prop} {f:α->Pred}
theorem Cf {agg:Bool} (d:α) {sz:Nat} (ht:P.underlying t=some (.slice e)) (hc:P.cellsOf e=sz) (hn:0<sz) (h:CH enc P w e agg C f):
  CH enc P w t false (λL:List α=>(∀a∈L,C a)/\L.length<=maxLen) λL=>aA sz agg L.length λi=>f (L.getD i d):=λfuel cs x hx=>by
 subst hc
 rcases open_slice ht hx with⟨h0,_⟩|⟨a,len,cap,m,n,D,Pl,h1,_,h3,h4,h5,_,h7⟩
 ·subst h0
  exact⟨[],⟨by simp,Nat.zero_le _⟩,λw' _=>⟨none,0,rfl,Nat.le_refl _,Nat.zero_le _,λh=>absurd h (Nat.lt_irrefl _)⟩⟩
 ·subst h1
  have each:∀i,i<len->∃y:α×List Value,C y.1/\w.cells? 0 (a.add (i*P.cellsOf e)) (P.cellsOf e)=some y.2/\∀w',CK w w'->f y.1 w' (aj agg y.2):=λi hi=>by
   obtain⟨cs',k1,k2⟩:=h7 i (by rw[h5]; simp; omega)
   obtain⟨y,k3,k4⟩:=h _ _ _ k2
   exact⟨(y,cs'),k3,k1,k4⟩
  have:Inhabited (α×List Value):=⟨(d,[])⟩
  obtain⟨y,hy⟩:=choose_lt each
  refine⟨(List.range len).map λi=>(y i).1,⟨λb hb=>?_,by simp; omega⟩,λw' hw=>?_⟩
  ·obtain⟨i,hi,rfl⟩:=List.mem_map.1 hb
   exact(hy i (List.mem_range.1 hi)).1
  ·have hl:((List.range len).map λi=>(y i).1).length=len:=by simp
   show aA _ _ _ _ _ _
   rw[hl]
   refine⟨some a,cap,rfl,h3,h4,λh0=>?_⟩
   have hspot:a.spot=none:=by
    obtain⟨_,k2,_⟩:=hy 0 h0
    obtain⟨_,k3,k4⟩:=World.cells?_some k2
    have k5:=k4 0 hn
    cases hs:a.spot with
    |none=>rfl
    |some s=>
     exfalso
     rw[List.getElem?_eq_getElem (by omega)]at k5
     unfold World.cell? Addr.add at k5
     split at k5
     ·simp[hs]at k5
     ·cases k5
   obtain⟨b,o,s⟩:=a
   simp only at hspot
   subst hspot
   refine⟨b,o,rfl,λi hi=>?_⟩
   obtain⟨_,k2,k3⟩:=hy i hi
   obtain⟨_,k4,k5⟩:=World.cells?_some k2
   have aa9:∀n:Nat,(⟨b,o,none⟩:Addr).add n=⟨b,o+n,none⟩:=λn=>by
    unfold Addr.add
    split
    ·rename_i h
     rw[h]
     rfl
    ·rfl
   refine⟨(y i).2,k4,λj u hj=>hw _ _ ?_,?_⟩
   ·have Fg:j<P.cellsOf e:=by
     rw[<-k4]
     exact(List.getElem?_eq_some_iff.1 hj).1
    have:=k5 j Fg
    rw[hj,aa9]at this
    have e2:(⟨b,o+i*P.cellsOf e,none⟩:Addr).add j=⟨b,o+i*P.cellsOf e+j,none⟩:=by
     unfold Addr.add
     split
     ·rename_i h
      rw[h]
      rfl
     ·rfl
    rw[e2]at this
    exact this
   ·have e1:((List.range len).map λi=>(y i).1).getD i d=(y i).1:=by
     rw[List.getD_eq_getElem?_getD,List.getElem?_map,List.getElem?_range hi]
     rfl
    show f (((List.range len).map λi=>(y i).1).getD i d) w' _
    rw[e1]
    exact k3 w' hw
theorem NY {L:List α} {d:α} (h:∀a∈L,C a) (hd:C d) (i:Nat):C (L.getD i d):=by
 rw[List.getD_eq_getElem?_getD]
 rcases Nat.lt_or_ge i L.length with h'|h'
 ·rw[List.getElem?_eq_getElem h']
  exact h _ (List.getElem_mem h')
 ·rw[List.getElem?_eq_none h']
  exact hd
theorem CH.arg {v:Value} {d:DataW H} {p:List MemPlace} {r:Reach} {b0:Nat} (h:CH enc P w t false C f) (ht:P.underlying t=some (.slice e)) (hv:Value.okWide P w r b0 t v) (hd:DataW.Trod enc P w 0 (λ_=>true) true t v d p):
  ∃a:α,C a/\∀w',Ext (λ_ _=>False) w w'->f a w' v:=by
 obtain⟨fuel,hx⟩:=hd
 obtain⟨A,n,cap,rfl⟩:=okWide_slice ht hv
 obtain⟨a,h1,h2⟩:=h _ _ _ hx
 exact⟨a,h1,λw' he=>h2 w' (Cr (λ_ _ h=>h) he)⟩
end
end Wx

namespace Wx
open Go Go.RowKit Go.Proofs Go.ChangeShapes Go.WideShapes Go.ChangeAt Go.Deep
section
variable {H:Type} {enc:TypeId×Value->H} {P:Program} {w:World}
def Ep {H:Type} (enc:TypeId×Value->H) (P:Program) (w:World) (N o:Nat) (ts:List (TypeId×Nat)) {α:Type} (C:α->Prop) (F:α->List Fd):Prop:=
 ∀(fuel:Nat) (cs:List Value),cs.length=N->(∀p,p∈ts->∃x:DataW H×List MemPlace,DataW.trod enc P w 0 (λ_=>true) true fuel p.1 ((cs.drop p.2).take (P.cellsOf p.1))=some x)->∃a:α,C a/\∀w',CK w w'->aM (F a) w' (cs.drop o)
variable {N:Nat}
theorem gn:Ep enc P w N N [] (λ_:Unit=>True) λ_=>[]:=λ_ _ hl _=>⟨(),trivial,λ_ _=>List.drop_eq_nil_of_le (Nat.le_of_eq hl)⟩
variable {e:TypeId} {n:Nat} {α:Type} {C:α->Prop} {f:α->Pred} {ts:List (TypeId×Nat)}
theorem aV {o:Nat} {agg:Bool} {β:Type} {D:β->Prop} {F:β->List Fd} (h:CH enc P w e agg C f) (hn:P.cellsOf e=n) (hle:o+n<=N) (r:Ep enc P w N (o+n) ts D F):
  Ep enc P w N o ((e,o)::ts) (λp:α×β=>C p.1/\D p.2) λp=>⟨agg,n,f p.1⟩::F p.2:=λfuel cs hl hp=>by
 obtain⟨x,hx⟩:=hp (e,o) (List.mem_cons_self ..)
 have hx:DataW.trod enc P w 0 (λ_=>true) true fuel e ((cs.drop o).take (P.cellsOf e))=some x:=hx
 rw[hn]at hx
 obtain⟨a,ha,hf⟩:=h _ _ _ hx
 obtain⟨b,hb,hg⟩:=r fuel cs hl λp hp'=>hp p (List.mem_cons_of_mem _ hp')
 refine⟨(a,b),⟨ha,hb⟩,λw' hw=>⟨?_,hf w' hw,?_⟩⟩
 ·show n<=(cs.drop o).length
  rw[List.length_drop]
  omega
 ·show aM (F b) w' ((cs.drop o).drop n)
  rw[List.drop_drop]
  exact hg w' hw
variable {F:α->List Fd} {t:TypeId}
theorem mK {fs:Array Field} (ht:P.underlying t=some (.struct fs)) (hN:P.cellsOf t=N) (hts:fs.toList.map (λf=>(f.type,f.offset))=ts) (h:Ep enc P w N 0 ts C F):CH enc P w t true C λa=>pS (F a):=λfuel cs x hx=>by
 obtain⟨xs,n,_,_,hl,hlen,hg⟩:=DataW.trod_struct ht hx
 obtain⟨a,ha,hf⟩:=h n cs (hl.trans hN) λp hp=>by
  rw[<-hts]at hp
  obtain⟨f,hf,rfl⟩:=List.mem_map.1 hp
  obtain⟨i,hi⟩:=List.mem_iff_getElem?.1 hf
  have hi':fs[i]?=some f:=by rw[<-Array.getElem?_toList]; exact hi
  have hlt:i<xs.length:=by
   rw[hlen]
   rcases Nat.lt_or_ge i fs.size with h'|h'
   ·exact h'
   ·rw[Array.getElem?_eq_none h']at hi'; cases hi'
  exact⟨xs[i],(hg i f hi').trans (List.getElem?_eq_getElem hlt)⟩
 exact⟨a,ha,λw' hw=>⟨cs,rfl,hf w' hw⟩⟩
theorem oT {k:Nat} (ht:P.underlying t=some (.array k e)) (hN:P.cellsOf t=N) (hn:P.cellsOf e=n) (hts:(List.range k).map (λi=>(e,i*n))=ts) (h:Ep enc P w N 0 ts C F):CH enc P w t true C λa=>pS (F a):=λfuel cs x hx=>by
 obtain⟨xs,m,_,_,hl,hlen,hg⟩:=DataW.trod_array ht hx
 obtain⟨a,ha,hf⟩:=h m cs (hl.trans hN) λp hp=>by
  rw[<-hts]at hp
  obtain⟨i,hi,rfl⟩:=List.mem_map.1 hp
  have hi:=List.mem_range.1 hi
  have:=hg i hi
  rw[hn]at this
  rw[hn]
  exact⟨xs[i]'(by omega),this.trans (List.getElem?_eq_getElem (by omega))⟩
 exact⟨a,ha,λw' hw=>⟨cs,rfl,hf w' hw⟩⟩
variable {r:Reach} {b0:Nat} {v:Value}
theorem IL (ht:(∃fs,P.underlying t=some (.struct fs))\/∃k e,P.underlying t=some (.array k e)) (hv:Value.okWide P w r b0 t v):∃cs,v=.agg cs:=by
 rcases ht with⟨fs,ht⟩|⟨k,e,ht⟩ <;>
 ·simp only[Value.okWide,ht]at hv
  obtain⟨cs,rfl,_⟩:=hv
  exact⟨cs,rfl⟩
theorem CH.aba {d:DataW H} {p:List MemPlace} (h:CH enc P w t true C f) (ht:(∃fs,P.underlying t=some (.struct fs))\/∃k e,P.underlying t=some (.array k e)) (hv:Value.okWide P w r b0 t v) (hd:DataW.Trod enc P w 0 (λ_=>true) true t v d p):
  ∃a:α,C a/\∀w',Ext (λ_ _=>False) w w'->f a w' v:=by
 obtain⟨fuel,hx⟩:=hd
 obtain⟨cs,rfl⟩:=IL ht hv
 obtain⟨a,h1,h2⟩:=h _ _ _ hx
 refine⟨a,h1,λw' he=>?_⟩
 have:=h2 w' (Cr (λ_ _ h=>h) he)
 simpa [aj,Value.cells] using this
end
end Wx

namespace Wx
open Go Go.RowKit Go.Proofs
end Wx

namespace Wx
open Go Go.RowKit
def mm (P:Program) (ops:Array Oper) (K:Nat->Act->World->Prop):Nat->List Oper->Prop
 |_,[]=>True
 |m,o::os=>(∀a w,K m a w->bV P ops o a w (K (m+1)))/\mm P ops K (m+1) os
theorem mm.get {P:Program} {ops:Array Oper} {K:Nat->Act->World->Prop}:∀{os:List Oper} {m:Nat},mm P ops K m os->∀{j:Nat} {o:Oper},os[j]?=some o->∀a w,K (m+j) a w->bV P ops o a w (K (m+j+1)):=by
 intro os
 induction os with
 |nil=>intro m _ j o h; simp at h
 |cons o' os ih=>
  intro m hs j o h
  cases j with
  |zero=>simp at h; subst h; exact hs.1
  |succ j=>
   have:=ih hs.2 (j:=j) (o:=o) (by simpa using h)
   rw[show m+(j+1)=m+1+j by omega]
   exact this
def Fp (ms:List Nat) (k n:Nat):Bool:=(List.range n).all λi=>decide (i<k)||(List.range i).all λj=>(ms.getD i 0).testBit j
theorem kq {ms:List Nat} {k n i j:Nat} (h:Fp ms k n=true) (hi:i<n) (hk:k<=i) (hj:j<i):(ms.getD i 0).testBit j=true:=by
 unfold Fp at h
 rw[List.all_eq_true]at h
 have:=h i (by simpa using hi)
 rw[Bool.or_eq_true,decide_eq_true_eq,List.all_eq_true]at this
 rcases this with h1|h1
 ·omega
 ·exact h1 j (by simpa using hj)
section
variable {P:Program} {Q:Exit->Act->World->Prop} {c:fT} {V:List Vr} {A:List Al} {G:List bz} {a:Act} {w:World}{l:List Oper}
theorem vE {N k:Nat} (h:tU N (l.take k) V A G=true) {i:Nat} {o:Oper} (hi:l[i]?=some o) (hk:i<k):nR N l.toArray V A G i o:=by
 have h1:=tM h (i:=i) (o:=o) (by rw[List.getElem?_take,if_pos hk]; exact hi)
 have hm:=fu h
 refine⟨h1.sz,h1.sg,h1.aa,h1.g1,h1.g2,λe j he ht=>?_,h1.gu,h1.a1,h1.a2,h1.v1,h1.v2,h1.vk,h1.vb,h1.vs,h1.vu,h1.vo⟩
 have h2:=h1.g3 e j he ht
 rw[<-h2]
 simp only[zG,Bool.and_eq_true,List.all_eq_true]at hm
 have h3:=(hm.2 e he).1
 rw[ht]at h3
 simp only[sQ,decide_eq_true_eq,List.length_take]at h3
 congr 1
 simp only[List.getElem?_toArray]
 rw[List.getElem?_take,if_pos (by omega)]
variable {id:Nat}
theorem DT (ms:List Nat) (k:Nat) (yj:0<k) (hm:P.follows .mixedOrders=true) (hok:iP l.toArray=true) (tn:uI l=ms) (qN:Fp ms k l.length=true) (hkn:decide (k<=l.length)=true) (hwf:tU c.N (l.take k) V A G=true)
  (h0:Inv c V A G none_ a w) (hs:nj P l.toArray ms c V A G 0 (l.take k)) (K:Nat->Act->World->Prop) (hK:∀a w,Inv c V A G (λ_=>true) a w->K 0 a w) (hst:mm P l.toArray K 0 (l.drop k)) (hq:∀a w,K (l.length-k) a w->Q .normal a w):
  (Code.region id l.toArray true).wp P Q a w:=by
 have hkn:=of_decide_eq_true hkn
 have n5:=uJ l
 rw[tn]at n5
 let J:(Nat->Bool)->Act->World->Prop:=λL a w=>kK l L/\(((∃j,j<k/\L j=false)/\Inv c V A G L a w)\/((∀j,j<k->L j=true)/\∃m,m<=l.length-k/\(∀i,k<=i->i<l.length->(L i=true↔i<k+m))/\K m a w))
 refine rj hm hok J ⟨λi o _ h=>(by cases h),.inl ⟨⟨0,yj,rfl⟩,?_⟩⟩ ?_ ?_
 ·obtain⟨β,hβ⟩:=h0
  exact⟨β,hβ.draws⟩
 ·have key:∀(os:List Oper) (i:Nat) (pre:List Oper),l=pre++os->pre.length=i->vN P l.toArray Q J i os:=by
   intro os
   induction os with
   |nil=>intro i pre _ _; trivial
   |cons o os ih=>
    intro i pre hl hp
    refine⟨?_,ih (i+1) (pre++[o]) (by rw[hl]; simp) (by simp[hp])⟩
    rintro L a w ⟨hc,hJ⟩ hno hpre
    have hi:l[i]?=some o:=by rw[hl,List.getElem?_append_right (by omega),hp]; simp
    have nZ:i<l.length:=by
     rcases Nat.lt_or_ge i l.length with h'|h'
     ·exact h'
     ·rw[List.getElem?_eq_none h']at hi; cases hi
    have Ia:∀j,(ms.getD i 0).testBit j=true->L j=true:=λj hj=>n5.2 L hc i o hi hpre j hj
    have qo:kK l (upd L i):=by
     intro k' ok mA hL j hj
     by_cases BS:k'=i
     ·subst BS
      rw[hi]at mA
      injection mA with mA
      subst mA
      have:=hpre j hj
      unfold upd
      split
      ·rfl
      ·exact this
     ·have:=hc k' ok mA (D9 hL BS) j hj
      unfold upd
      split
      ·rfl
      ·exact this
    rcases hJ with⟨⟨j0,Ff,OM⟩,hI⟩|⟨eG,m,hmn,OO,U8⟩
    ·have Ke:i<k:=by
      rcases Nat.lt_or_ge i k with h'|h'
      ·exact h'
      ·have:=Ia j0 (kq qN nZ h' (by omega))
       rw[OM]at this; cases this
     have tj:qc ms i L:=⟨hno,Ia,λj hj=>by
      cases hL:L j with
      |false=>rfl
      |true=>
       cases Ie:l[j]? with
       |none=>
        have h1:=n5.1
        rw[List.getD_eq_getElem?_getD,List.getElem?_eq_none (by have:=List.getElem?_eq_none_iff.1 Ie; omega)]at hj
        simp at hj
       |some oj=>
        have:=n5.2 L hc j oj Ie (λm hm=>hc j oj Ie hL m hm) i hj
        rw[hno]at this
        cases this⟩
     have hop:=hs.get (j:=i) (o:=o) (by rw[List.getElem?_take,if_pos Ke]; exact hi)
     rw[Nat.zero_add]at hop
     refine(hop L a w hI tj (vE hwf hi Ke)).list (K:=Inv c V A G (upd L i)) λa' w' h'=>⟨qo,?_⟩
     by_cases hfull:∀j,j<k->upd L i j=true
     ·refine .inr ⟨hfull,0,Nat.zero_le _,λq hq GB=>?_,hK a' w' ?_⟩
      ·have U9:L q=false:=by
        cases U9:L q with
        |false=>rfl
        |true=>
         cases hoq:l[q]? with
         |none=>rw[List.getElem?_eq_none_iff]at hoq; omega
         |some oq=>
          have:=n5.2 L hc q oq hoq (λm hm=>hc q oq hoq U9 m hm) j0 (kq qN GB hq (by omega))
          rw[OM]at this; cases this
       have:upd L i q=L q:=by unfold upd; rw[if_neg (by omega)]
       rw[this,U9]
       constructor
       ·intro h; cases h
       ·intro h; omega
      ·obtain⟨β,hI'⟩:=h'
       refine⟨β,hI'.congr (fu hwf) λj hj=>?_⟩
       rw[List.length_take]at hj
       exact hfull j (by omega)
     ·refine .inl ⟨?_,h'⟩
      rw[Classical.not_forall]at hfull
      obtain⟨j,hj⟩:=hfull
      rw[Classical.not_imp]at hj
      exact⟨j,hj.1,Bool.not_eq_true _▸hj.2⟩
    ·have BS:k<=i:=by
      rcases Nat.lt_or_ge i k with h'|h'
      ·rw[eG i h']at hno; cases hno
      ·exact h'
     have BQ:i=k+m:=by
      have h1:¬i<k+m:=λh=>by rw[(OO i BS nZ).2 h]at hno; cases hno
      rcases Nat.lt_or_ge (k+m) i with h2|h2
      ·have h3:=Ia (k+m) (kq qN nZ BS h2)
       have:=(OO (k+m) (by omega) (by omega)).1 h3
       omega
      ·omega
     have ho:(l.drop k)[m]?=some o:=by rw[List.getElem?_drop,<-BQ]; exact hi
     have Dm:=hst.get ho a w (by rw[Nat.zero_add]; exact U8)
     rw[Nat.zero_add]at Dm
     refine Dm.list (K:=K (m+1)) λa' w' h'=>⟨qo,.inr ⟨λj hj=>?_,m+1,by omega,λq hq GB=>?_,h'⟩⟩
     ·unfold upd
      split
      ·rfl
      ·exact eG j hj
     ·unfold upd
      split
      ·rename_i e
       constructor
       ·intro _; omega
       ·intro _; rfl
      ·rename_i e
       rw[OO q hq GB]
       omega
  exact key l 0 [] rfl rfl
 ·rintro L a w ⟨_,hJ⟩ eG
  rcases hJ with⟨⟨j,hj,hL⟩,_⟩|⟨_,m,hmn,OO,U8⟩
  ·rw[eG j (by omega)]at hL; cases hL
  ·have hme:m=l.length-k:=by
    rcases Nat.lt_or_ge m (l.length-k)with h'|h'
    ·have:=(OO (k+m) (by omega) (by omega)).1 (eG (k+m) (by omega))
     omega
    ·omega
   subst hme
   exact hq a w U8
theorem Bb (k:Nat) (hkn:decide (k<=l.length)=true) (hwf:tU c.N (l.take k) V A G=true)
  (h0:Inv c V A G none_ a w) (hs:nj P l.toArray (aT l.length) c V A G 0 (l.take k)) (K:Nat->Act->World->Prop) (hK:∀a w,Inv c V A G (λ_=>true) a w->K 0 a w) (hst:mm P l.toArray K 0 (l.drop k)) (hq:∀a w,K (l.length-k) a w->Q .normal a w):
  (Code.region id l.toArray false).wp P Q a w:=by
 have hkn:=of_decide_eq_true hkn
 refine wp_region_lit ?_
 have ZU:∀(os:List Oper) (m:Nat),mm P l.toArray K m os->(∀a w,K (m+os.length) a w->Q .normal a w)->∀a w,K m a w->wpList P l.toArray Q os a w:=by
  intro os
  induction os with
  |nil=>intro m _ hq a w h; exact hq a w h
  |cons o os ih=>
   intro m hs hq a w h
   refine(hs.1 a w h).list λa' w' h'=>ih (m+1) hs.2 (λa w hk=>hq a w ?_) a' w' h'
   rw[List.length_cons,show m+(os.length+1)=m+1+os.length by omega]
   exact hk
 have tl:∀a w,K 0 a w->wpList P l.toArray Q (l.drop k) a w:=ZU (l.drop k) 0 hst (λa w h=>hq a w (by rw[Nat.zero_add,List.length_drop]at h; exact h))
 have key:∀(os:List Oper) (i:Nat) (pre:List Oper),l.take k=pre++os->pre.length=i->nj P l.toArray (aT l.length) c V A G i os->∀(a:Act) (w:World),Inv c V A G (λj=>decide (j<i)) a w->wpList P l.toArray Q (os++l.drop k) a w:=by
  intro os
  induction os with
  |nil=>
   rintro i pre hl hp _ a w ⟨β,hI⟩
   refine tl a w (hK a w ⟨β,hI.congr (fu hwf) λj hj=>?_⟩)
   rw[hl]at hj
   simp at hj
   simp; omega
  |cons o os ih=>
   rintro i pre hl hp hs a w hI
   have hi':(l.take k)[i]?=some o:=by rw[hl,List.getElem?_append_right (by omega),hp]; simp
   have Ke:i<k:=by
    rcases Nat.lt_or_ge i k with h'|h'
    ·exact h'
    ·rw[List.getElem?_take,if_neg (by omega)]at hi'; cases hi'
   have hi:l[i]?=some o:=by rw[List.getElem?_take,if_pos Ke]at hi'; exact hi'
   have hlen:i<l.length:=by
    rcases Nat.lt_or_ge i l.length with h'|h'
    ·exact h'
    ·rw[List.getElem?_eq_none h']at hi; cases hi
   have tm:∀k j,((aT l.length).getD k 0).testBit j=true->j<k:=by
    intro k j h
    rcases Nat.lt_or_ge k l.length with h'|h'
    ·have e:(aT l.length).getD k 0=2^k-1:=by simp[aT,h']
     rw[e,Nat.testBit_two_pow_sub_one]at h
     simpa using h
    ·have e:(aT l.length).getD k 0=0:=by simp[aT,Nat.not_lt.2 h']
     rw[e]at h
     simp at h
   have tj:qc (aT l.length) i (λj=>decide (j<i)):=⟨by simp,λj hj=>by simpa using tm i j hj,λj hj=>by have:=tm j i hj; simp; omega⟩
   refine(hs.1 _ a w hI tj (vE hwf hi Ke)).list λa' w' h'=>ih (i+1) (pre++[o]) (by rw[hl]; simp) (by simp[hp]) hs.2 a' w' ?_
   have e:upd (λj=>decide (j<i)) i=(λj=>decide (j<i+1)):=by
    funext j
    unfold upd
    by_cases h:j=i
    ·simp[h]
    ·rw[if_neg h]
     by_cases h2:j<i
     ·simp[h2]; omega
     ·simp[h2]; omega
   rw[<-e]
   exact h'
 have:=key (l.take k) 0 [] rfl rfl hs a w (by
  have e:(λj=>decide (j<0))=none_:=by funext j; simp
  rw[e]
  exact h0)
 rwa [List.take_append_drop]at this
end
end Wx

namespace Wx
open Go Go.RowKit
inductive l6 (ne:List bz):List bz->List bz->Prop
 |z:l6 ne [] ne
 |k {s:Nat} {p:Pred} {G G1:List bz}:l6 ne G G1->l6 ne (⟨none,none,s,p⟩::G) (⟨none,none,s,p⟩::G1)
 |t {s:Nat} {p:Pred} {G G1:List bz} (i:Nat):l6 ne G G1->l6 ne (⟨none,none,s,p⟩::G) (⟨none,some i,s,p⟩::G1)
inductive aF:List bz->List bz->Prop
 |z:aF [] []
 |k {t:Option Nat} {s:Nat} {p:Pred} {G1 G2:List bz}:aF G1 G2->aF (⟨t,none,s,p⟩::G1) (⟨none,none,s,p⟩::G2)
 |d {e:bz} {G1 G2:List bz}:aF G1 G2->aF (e::G1) G2
inductive tQ (nv:List Vr):List Vr->List Vr->Prop
 |z:tQ nv [] nv
 |k {id s:Nat} {kd:Kd} {T:TypeId} {n:Nat} {ag:Bool} {c0:Rel} {V V1:List Vr}:tQ nv V V1->tQ nv (⟨id,s,none,none,kd,T,n,ag,c0,[]⟩::V) (⟨id,s,none,none,kd,T,n,ag,c0,[]⟩::V1)
 |u {id s:Nat} {kd:Kd} {T:TypeId} {n:Nat} {ag:Bool} {c0:Rel} {V V1:List Vr} (dead:Option Nat) (st:List (Nat×Rel)):tQ nv V V1->tQ nv (⟨id,s,none,none,kd,T,n,ag,c0,[]⟩::V) (⟨id,s,none,dead,kd,T,n,ag,c0,st⟩::V1)
inductive Bq:List (Nat×Rel)->Rel->Prop
 |o {i:Nat} {c:Rel}:Bq [(i,c)] c
 |c {x:Nat×Rel} {l:List (Nat×Rel)} {c:Rel}:Bq l c->Bq (x::l) c
inductive dV:List Vr->List Vr->Prop
 |z:dV [] []
 |k {id s:Nat} {b:Option Nat} {kd:Kd} {T:TypeId} {n:Nat} {ag:Bool} {c0:Rel} {V1 V2:List Vr}:dV V1 V2->dV (⟨id,s,b,none,kd,T,n,ag,c0,[]⟩::V1) (⟨s,s,none,none,kd,T,n,ag,c0,[]⟩::V2)
 |s {id s:Nat} {b:Option Nat} {kd:Kd} {T:TypeId} {n:Nat} {ag:Bool} {c0 c1:Rel} {st:List (Nat×Rel)} {V1 V2:List Vr}:Bq st c1->dV V1 V2->dV (⟨id,s,b,none,kd,T,n,ag,c0,st⟩::V1) (⟨s,s,none,none,kd,T,n,ag,c1,[]⟩::V2)
 |d {x:Vr} {V1 V2:List Vr}:dV V1 V2->dV (x::V1) V2
variable {t0:Option Nat} {s0:Nat} {p0:Pred} {t1:Option Nat} {s1:Nat} {p1:Pred} {X Y:List bz}
theorem aF.kk (h:aF X Y):aF (⟨t0,none,s0,p0⟩::⟨t1,none,s1,p1⟩::X) (⟨none,none,s0,p0⟩::⟨none,none,s1,p1⟩::Y):=.k (.k h)
variable {e1:bz}
theorem aF.kd (h:aF X Y):aF (⟨t0,none,s0,p0⟩::e1::X) (⟨none,none,s0,p0⟩::Y):=.k (.d h)
variable {e0:bz}
theorem aF.dk (h:aF X Y):aF (e0::⟨t1,none,s1,p1⟩::X) (⟨none,none,s1,p1⟩::Y):=.d (.k h)
theorem aF.dd (h:aF X Y):aF (e0::e1::X) (Y):=.d (.d h)
variable {t2:Option Nat} {s2:Nat} {p2:Pred}
theorem aF.bS (h:aF X Y):aF (⟨t0,none,s0,p0⟩::⟨t1,none,s1,p1⟩::⟨t2,none,s2,p2⟩::X) (⟨none,none,s0,p0⟩::⟨none,none,s1,p1⟩::⟨none,none,s2,p2⟩::Y):=.k (.k (.k h))
variable {e2:bz}
theorem aF.kkd (h:aF X Y):aF (⟨t0,none,s0,p0⟩::⟨t1,none,s1,p1⟩::e2::X) (⟨none,none,s0,p0⟩::⟨none,none,s1,p1⟩::Y):=.k (.k (.d h))
theorem aF.L8 (h:aF X Y):aF (⟨t0,none,s0,p0⟩::e1::⟨t2,none,s2,p2⟩::X) (⟨none,none,s0,p0⟩::⟨none,none,s2,p2⟩::Y):=.k (.d (.k h))
theorem aF.kdd (h:aF X Y):aF (⟨t0,none,s0,p0⟩::e1::e2::X) (⟨none,none,s0,p0⟩::Y):=.k (.d (.d h))
theorem aF.Ok (h:aF X Y):aF (e0::⟨t1,none,s1,p1⟩::⟨t2,none,s2,p2⟩::X) (⟨none,none,s1,p1⟩::⟨none,none,s2,p2⟩::Y):=.d (.k (.k h))
theorem aF.dkd (h:aF X Y):aF (e0::⟨t1,none,s1,p1⟩::e2::X) (⟨none,none,s1,p1⟩::Y):=.d (.k (.d h))
theorem aF.lQ (h:aF X Y):aF (e0::e1::⟨t2,none,s2,p2⟩::X) (⟨none,none,s2,p2⟩::Y):=.d (.d (.k h))
theorem aF.qy (h:aF X Y):aF (e0::e1::e2::X) (Y):=.d (.d (.d h))
variable {t3:Option Nat} {s3:Nat} {p3:Pred}
theorem aF.ah (h:aF X Y):aF (⟨t0,none,s0,p0⟩::⟨t1,none,s1,p1⟩::⟨t2,none,s2,p2⟩::⟨t3,none,s3,p3⟩::X) (⟨none,none,s0,p0⟩::⟨none,none,s1,p1⟩::⟨none,none,s2,p2⟩::⟨none,none,s3,p3⟩::Y):=.k (.k (.k (.k h)))
variable {e3:bz}
theorem aF.cA (h:aF X Y):aF (⟨t0,none,s0,p0⟩::⟨t1,none,s1,p1⟩::⟨t2,none,s2,p2⟩::e3::X) (⟨none,none,s0,p0⟩::⟨none,none,s1,p1⟩::⟨none,none,s2,p2⟩::Y):=.k (.k (.k (.d h)))
theorem aF.sq (h:aF X Y):aF (⟨t0,none,s0,p0⟩::⟨t1,none,s1,p1⟩::e2::⟨t3,none,s3,p3⟩::X) (⟨none,none,s0,p0⟩::⟨none,none,s1,p1⟩::⟨none,none,s3,p3⟩::Y):=.k (.k (.d (.k h)))
theorem aF.dI (h:aF X Y):aF (⟨t0,none,s0,p0⟩::⟨t1,none,s1,p1⟩::e2::e3::X) (⟨none,none,s0,p0⟩::⟨none,none,s1,p1⟩::Y):=.k (.k (.d (.d h)))
theorem aF.oM (h:aF X Y):aF (⟨t0,none,s0,p0⟩::e1::⟨t2,none,s2,p2⟩::⟨t3,none,s3,p3⟩::X) (⟨none,none,s0,p0⟩::⟨none,none,s2,p2⟩::⟨none,none,s3,p3⟩::Y):=.k (.d (.k (.k h)))
theorem aF.adj (h:aF X Y):aF (⟨t0,none,s0,p0⟩::e1::⟨t2,none,s2,p2⟩::e3::X) (⟨none,none,s0,p0⟩::⟨none,none,s2,p2⟩::Y):=.k (.d (.k (.d h)))
theorem aF.nh (h:aF X Y):aF (⟨t0,none,s0,p0⟩::e1::e2::⟨t3,none,s3,p3⟩::X) (⟨none,none,s0,p0⟩::⟨none,none,s3,p3⟩::Y):=.k (.d (.d (.k h)))
theorem aF.dx (h:aF X Y):aF (⟨t0,none,s0,p0⟩::e1::e2::e3::X) (⟨none,none,s0,p0⟩::Y):=.k (.d (.d (.d h)))
theorem aF.mw (h:aF X Y):aF (e0::⟨t1,none,s1,p1⟩::⟨t2,none,s2,p2⟩::⟨t3,none,s3,p3⟩::X) (⟨none,none,s1,p1⟩::⟨none,none,s2,p2⟩::⟨none,none,s3,p3⟩::Y):=.d (.k (.k (.k h)))
theorem aF.Rp (h:aF X Y):aF (e0::⟨t1,none,s1,p1⟩::⟨t2,none,s2,p2⟩::e3::X) (⟨none,none,s1,p1⟩::⟨none,none,s2,p2⟩::Y):=.d (.k (.k (.d h)))
theorem aF.abm (h:aF X Y):aF (e0::⟨t1,none,s1,p1⟩::e2::⟨t3,none,s3,p3⟩::X) (⟨none,none,s1,p1⟩::⟨none,none,s3,p3⟩::Y):=.d (.k (.d (.k h)))
theorem aF.LC (h:aF X Y):aF (e0::⟨t1,none,s1,p1⟩::e2::e3::X) (⟨none,none,s1,p1⟩::Y):=.d (.k (.d (.d h)))
theorem aF.xI (h:aF X Y):aF (e0::e1::⟨t2,none,s2,p2⟩::⟨t3,none,s3,p3⟩::X) (⟨none,none,s2,p2⟩::⟨none,none,s3,p3⟩::Y):=.d (.d (.k (.k h)))
theorem aF.Hf (h:aF X Y):aF (e0::e1::⟨t2,none,s2,p2⟩::e3::X) (⟨none,none,s2,p2⟩::Y):=.d (.d (.k (.d h)))
theorem aF.dw (h:aF X Y):aF (e0::e1::e2::⟨t3,none,s3,p3⟩::X) (⟨none,none,s3,p3⟩::Y):=.d (.d (.d (.k h)))
theorem aF.bh (h:aF X Y):aF (e0::e1::e2::e3::X) (Y):=.d (.d (.d (.d h)))
variable {s4:Nat} {p4:Pred} {s5:Nat} {p5:Pred} {s6:Nat} {p6:Pred} {s7:Nat} {p7:Pred}
theorem aF.k8 {t4 t5 t6 t7:Option Nat} (h:aF X Y):aF (⟨t0,none,s0,p0⟩::⟨t1,none,s1,p1⟩::⟨t2,none,s2,p2⟩::⟨t3,none,s3,p3⟩::⟨t4,none,s4,p4⟩::⟨t5,none,s5,p5⟩::⟨t6,none,s6,p6⟩::⟨t7,none,s7,p7⟩::X) (⟨none,none,s0,p0⟩::⟨none,none,s1,p1⟩::⟨none,none,s2,p2⟩::⟨none,none,s3,p3⟩::⟨none,none,s4,p4⟩::⟨none,none,s5,p5⟩::⟨none,none,s6,p6⟩::⟨none,none,s7,p7⟩::Y):=.k (.k (.k (.k (.k (.k (.k (.k h)))))))
theorem aF.d8 {e4 e5 e6 e7:bz} (h:aF X Y):aF (e0::e1::e2::e3::e4::e5::e6::e7::X) (Y):=.d (.d (.d (.d (.d (.d (.d (.d h)))))))
variable {ne:List bz}
theorem l6.kk (h:l6 ne X Y):l6 ne (⟨none,none,s0,p0⟩::⟨none,none,s1,p1⟩::X) (⟨none,none,s0,p0⟩::⟨none,none,s1,p1⟩::Y):=.k (.k h)
theorem l6.bS (h:l6 ne X Y):l6 ne (⟨none,none,s0,p0⟩::⟨none,none,s1,p1⟩::⟨none,none,s2,p2⟩::X) (⟨none,none,s0,p0⟩::⟨none,none,s1,p1⟩::⟨none,none,s2,p2⟩::Y):=.k (.k (.k h))
theorem l6.ah (h:l6 ne X Y):l6 ne (⟨none,none,s0,p0⟩::⟨none,none,s1,p1⟩::⟨none,none,s2,p2⟩::⟨none,none,s3,p3⟩::X) (⟨none,none,s0,p0⟩::⟨none,none,s1,p1⟩::⟨none,none,s2,p2⟩::⟨none,none,s3,p3⟩::Y):=.k (.k (.k (.k h)))
theorem l6.k8 (h:l6 ne X Y):l6 ne (⟨none,none,s0,p0⟩::⟨none,none,s1,p1⟩::⟨none,none,s2,p2⟩::⟨none,none,s3,p3⟩::⟨none,none,s4,p4⟩::⟨none,none,s5,p5⟩::⟨none,none,s6,p6⟩::⟨none,none,s7,p7⟩::X) (⟨none,none,s0,p0⟩::⟨none,none,s1,p1⟩::⟨none,none,s2,p2⟩::⟨none,none,s3,p3⟩::⟨none,none,s4,p4⟩::⟨none,none,s5,p5⟩::⟨none,none,s6,p6⟩::⟨none,none,s7,p7⟩::Y):=.k (.k (.k (.k (.k (.k (.k (.k h)))))))
theorem nH {α:Type} {l r:List α} (h:∀x∈r,x∈l):∃ks,lG ks l=r:=by
 induction r with
 |nil=>exact⟨[],rfl⟩
 |cons x r ih=>
  obtain⟨ks,hk⟩:=ih λy hy=>h y (List.mem_cons_of_mem _ hy)
  obtain⟨i,hi⟩:=List.mem_iff_getElem?.1 (h x (List.mem_cons_self ..))
  exact⟨i::ks,by unfold lG at *; rw[List.filterMap_cons,hi,hk]⟩
variable {G1:List bz}
theorem l6.strip {G:List bz} (h:l6 ne G G1) (hn:(ne.all λe=>e.tag.isSome)=true):oc G1=G:=by
 induction h with
 |z=>
  unfold oc
  rw[List.filter_eq_nil_iff.2 λe he=>by
   have:=List.all_eq_true.1 hn e he
   cases ht:e.tag with
   |none=>rw[ht]at this; cases this
   |some i=>simp]
  rfl
 |k _ ih=>
  unfold oc at *
  rw[List.filter_cons_of_pos rfl,List.map_cons,ih]
 |t i _ ih=>
  unfold oc at *
  rw[List.filter_cons_of_pos rfl,List.map_cons,ih]
theorem aF.sub {G2:List bz} (h:aF G1 G2):∀e∈G2,e∈(G1.filter λe=>e.till.isNone).map pY:=by
 induction h with
 |z=>simp
 |k _ ih=>
  intro e he
  rw[List.filter_cons_of_pos rfl,List.map_cons]
  rcases List.mem_cons.1 he with rfl|he
  ·exact List.mem_cons_self ..
  ·exact List.mem_cons_of_mem _ (ih e he)
 |d _ ih=>
  intro e he
  rw[List.filter_cons]
  split
  ·exact List.mem_cons_of_mem _ (ih e he)
  ·exact ih e he
variable {nv V1:List Vr}
theorem tQ.strip {V:List Vr} (h:tQ nv V V1) (hn:(nv.all λx=>x.born.isSome)=true):od V1=V:=by
 induction h with
 |z=>
  unfold od
  rw[List.filter_eq_nil_iff.2 λe he=>by
   have:=List.all_eq_true.1 hn e he
   cases ht:e.born with
   |none=>rw[ht]at this; cases this
   |some i=>simp]
  rfl
 |k _ ih=>
  unfold od at *
  rw[List.filter_cons_of_pos rfl,List.map_cons,ih]
  rfl
 |u _ _ _ ih=>
  unfold od at *
  rw[List.filter_cons_of_pos rfl,List.map_cons,ih]
  rfl
theorem Bq.cont {st:List (Nat×Rel)} {c:Rel} (h:Bq st c):∀c0,cont (λ_=>true) c0 st=c:=by
 induction h with
 |o=>intro c0; rfl
 |c _ ih=>intro c0; exact ih _
theorem dV.sub {V2:List Vr} (h:dV V1 V2):∀x∈V2,x∈xm V1:=by
 unfold xm
 induction h with
 |z=>simp
 |k _ ih=>
  intro e he
  rw[List.filter_cons_of_pos rfl,List.map_cons]
  rcases List.mem_cons.1 he with rfl|he
  ·exact List.mem_cons_self ..
  ·exact List.mem_cons_of_mem _ (ih e he)
 |s hl _ ih=>
  intro e he
  rw[List.filter_cons_of_pos rfl,List.map_cons]
  rcases List.mem_cons.1 he with rfl|he
  ·refine List.mem_cons.2 (.inl ?_)
   unfold nN
   rw[hl.cont]
  ·exact List.mem_cons_of_mem _ (ih e he)
 |d _ ih=>
  intro e he
  rw[List.filter_cons]
  split
  ·exact List.mem_cons_of_mem _ (ih e he)
  ·exact ih e he
def iq (nv:List Vr) (A1:List Al) (ne:List bz):Bool:=(nv.all λx=>x.born.isSome)&&((A1.all λp=>p.tag.isSome)&&ne.all λe=>e.tag.isSome)
theorem VV {A1:List Al} (h:iq nv A1 ne=true):ry A1=[]:=by
 unfold iq at h
 simp only[Bool.and_eq_true,List.all_eq_true]at h
 unfold ry
 refine List.filter_eq_nil_iff.2 λp hp=>?_
 have:=h.2.1 p hp
 cases ht:p.tag with
 |none=>rw[ht]at this; cases this
 |some i=>simp
def sL (P:Program) (N:Nat) (l:List Oper) (ms:List Nat) (V1:List Vr) (A1:List Al) (G1:List bz):Bool:=P.follows .mixedOrders&&(iP l.toArray&&(uI l==ms&&tU N l V1 A1 G1))
def qg (N:Nat) (l:List Oper) (ms:List Nat) (V1:List Vr) (A1:List Al) (G1:List bz):Bool:=aT l.length==ms&&tU N l V1 A1 G1
def Aa (P:Program) (N:Nat) (l:List Oper) (ms:List Nat) (k:Nat) (V1:List Vr) (A1:List Al) (G1:List bz):Bool:=decide (0<k)&&(P.follows .mixedOrders&&(iP l.toArray&&(uI l==ms&&(Fp ms k l.length&&(decide (k<=l.length)&&tU N (l.take k) V1 A1 G1)))))
def wP (N:Nat) (l:List Oper) (ms:List Nat) (k:Nat) (V1:List Vr) (A1:List Al) (G1:List bz):Bool:=aT l.length==ms&&(decide (k<=l.length)&&tU N (l.take k) V1 A1 G1)
def js (P:Program) (ops:Array Oper):(Act->World->Prop)->List Oper->(Act->World->Prop)->Prop
 |K,[],K'=>K=K'
 |K,o::os,K'=>∃K1,(∀a w,K a w->bV P ops o a w K1)/\js P ops K1 os K'
section
variable {P:Program} {Q:Exit->Act->World->Prop} {c:fT} {V:List Vr} {G:List bz} {a:Act} {w:World}
theorem vf {ops:Array Oper} {K K2:Nat->Act->World->Prop}:∀{os:List Oper} {m m2:Nat},mm P ops K m os->(∀j,K2 (m2+j)=K (m+j))->mm P ops K2 m2 os
 |[],_,_,_,_=>trivial
 |o::os,m,m2,h,e=>by
  refine⟨λa w hk=>?_,vf h.2 λj=>by rw[Nat.add_assoc,Nat.add_assoc]; exact e (1+j)⟩
  have e0:=e 0
  have e1:=e 1
  rw[Nat.add_zero,Nat.add_zero]at e0
  rw[e0]at hk
  rw[e1]
  exact h.1 a w hk
variable {ops:Array Oper}
theorem js.steps:∀{os:List Oper} {K K':Act->World->Prop},js P ops K os K'->∃F:Nat->Act->World->Prop,F 0=K/\F os.length=K'/\mm P ops F 0 os
 |[],K,K',h=>⟨λ_=>K,rfl,h,trivial⟩
 |o::os,K,K',⟨K1,h1,h2⟩=>by
  obtain⟨F,e0,e1,hs⟩:=js.steps h2
  refine⟨λm=>match m with|0=>K|m+1=>F m,rfl,e1,λa w hk=>?_,vf hs λj=>?_⟩
  ·show bV P ops o a w (F 0)
   rw[e0]
   exact h1 a w hk
  ·rw[show 0+1+j=j+1 by omega,Nat.zero_add]
theorem Og {o:Oper} {Λ:Type} {C:Λ->Prop} {J J':Λ->Act->World->Prop} (h:∀l,C l->∀a w,J l a w->bV P ops o a w (J' l)) (hm:∀{a w} {K K':Act->World->Prop},bV P ops o a w K->(∀a w,K a w->K' a w)->bV P ops o a w K'):∀a w,(∃l,C l/\J l a w)->bV P ops o a w (λa w=>∃l,C l/\J' l a w):=
 λa w ⟨l,hC,hJ⟩=>hm (h l hC a w hJ) λ_ _ h=>⟨l,hC,h⟩
variable {V1 V2:List Vr} {A1:List Al} {G1 G2:List bz} {l:List Oper}
theorem iy {N:Nat} (hwf:tU N l V1 A1 G1=true) (kV:dV V1 V2) (kG:aF G1 G2) {a:Act} {w:World} (hI:Inv c V1 A1 G1 (λ_=>true) a w):Inv c V2 [] G2 none_ a w:=by
 obtain⟨kv,e1⟩:=nH kV.sub
 obtain⟨kg,e2⟩:=nH kG.sub
 exact hI.next kv kg (si hwf) (yF hwf) e1 e2
theorem gl {nv:List Vr} {ne:List bz} (h:Inv c V [] G none_ a w) (hV:tQ nv V V1) (hG:l6 ne G G1) (hn:iq nv A1 ne=true):Inv c V1 A1 G1 none_ a w:=by
 have hn':=hn
 unfold iq at hn'
 simp only[Bool.and_eq_true]at hn'
 exact h.enter (hV.strip hn'.1) (VV hn) (hG.strip hn'.2.2)
variable {id:Nat}
theorem Uj (h:Inv c V [] G none_ a w) (nv:List Vr) (A1:List Al) (ne:List bz) (hV:tQ nv V V1) (hG:l6 ne G G1) (hn:iq nv A1 ne=true)
  (ms:List Nat) (hb:sL P c.N l ms V1 A1 G1=true) (hs:nj P l.toArray ms c V1 A1 G1 0 l) (kV:dV V1 V2) (kG:aF G1 G2) (hk:∀a w,Inv c V2 [] G2 none_ a w->Q .normal a w):(Code.region id l.toArray true).wp P Q a w:=by
 unfold sL at hb
 simp only[Bool.and_eq_true,beq_iff_eq]at hb
 obtain⟨hm,hok,tn,hwf⟩:=hb
 exact uY ms hm hok tn hwf (gl h hV hG hn) hs λa w hI=>hk a w (iy hwf kV kG hI)
theorem Qk (h:Inv c V [] G none_ a w) (nv:List Vr) (A1:List Al) (ne:List bz) (hV:tQ nv V V1) (hG:l6 ne G G1) (hn:iq nv A1 ne=true)
  (ms:List Nat) (hb:qg c.N l ms V1 A1 G1=true) (hs:nj P l.toArray ms c V1 A1 G1 0 l) (kV:dV V1 V2) (kG:aF G1 G2) (hk:∀a w,Inv c V2 [] G2 none_ a w->Q .normal a w):(Code.region id l.toArray false).wp P Q a w:=by
 unfold qg at hb
 simp only[Bool.and_eq_true,beq_iff_eq]at hb
 obtain⟨tn,hwf⟩:=hb
 exact xA hwf (gl h hV hG hn) (by rw[tn]; exact hs) λa w hI=>hk a w (iy hwf kV kG hI)
variable {y:Code}
theorem ZR (h:Inv c V [] G none_ a w) (nv:List Vr) (A1:List Al) (ne:List bz) (hV:tQ nv V V1) (hG:l6 ne G G1) (hn:iq nv A1 ne=true)
  (ms:List Nat) (hb:sL P c.N l ms V1 A1 G1=true) (hs:nj P l.toArray ms c V1 A1 G1 0 l) (kV:dV V1 V2) (kG:aF G1 G2) (hk:∀a w,Inv c V2 [] G2 none_ a w->y.wp P Q a w):(Code.seq (Code.region id l.toArray true) y).wp P Q a w:=
 wp_seq (Uj h nv A1 ne hV hG hn ms hb hs kV kG hk)
theorem Uk (h:Inv c V [] G none_ a w) (nv:List Vr) (A1:List Al) (ne:List bz) (hV:tQ nv V V1) (hG:l6 ne G G1) (hn:iq nv A1 ne=true)
  (ms:List Nat) (hb:qg c.N l ms V1 A1 G1=true) (hs:nj P l.toArray ms c V1 A1 G1 0 l) (kV:dV V1 V2) (kG:aF G1 G2) (hk:∀a w,Inv c V2 [] G2 none_ a w->y.wp P Q a w):(Code.seq (Code.region id l.toArray false) y).wp P Q a w:=
 wp_seq (Qk h nv A1 ne hV hG hn ms hb hs kV kG hk)
variable {K K':Act->World->Prop}
theorem Je (h:Inv c V [] G none_ a w) (nv:List Vr) (A1:List Al) (ne:List bz) (hV:tQ nv V V1) (hG:l6 ne G G1) (hn:iq nv A1 ne=true)
  (ms:List Nat) (k:Nat) (hb:Aa P c.N l ms k V1 A1 G1=true) (hs:nj P l.toArray ms c V1 A1 G1 0 (l.take k)) (kV:dV V1 V2) (kG:aF G1 G2) (hK:∀a w,Inv c V2 [] G2 none_ a w->K a w) (hst:js P l.toArray K (l.drop k) K') (hq:∀a w,K' a w->Q .normal a w):(Code.region id l.toArray true).wp P Q a w:=by
 unfold Aa at hb
 simp only[Bool.and_eq_true,beq_iff_eq]at hb
 obtain⟨yj,hm,hok,tn,qN,hkn,hwf⟩:=hb
 obtain⟨F,e0,e1,hF⟩:=hst.steps
 refine DT ms k (of_decide_eq_true yj) hm hok tn qN hkn hwf (gl h hV hG hn) hs F (λa w hI=>by rw[e0]; exact hK a w (iy hwf kV kG hI)) hF λa w hI=>hq a w ?_
 rw[<-e1,List.length_drop]
 exact hI
theorem DW (h:Inv c V [] G none_ a w) (nv:List Vr) (A1:List Al) (ne:List bz) (hV:tQ nv V V1) (hG:l6 ne G G1) (hn:iq nv A1 ne=true)
  (ms:List Nat) (k:Nat) (hb:wP c.N l ms k V1 A1 G1=true) (hs:nj P l.toArray ms c V1 A1 G1 0 (l.take k)) (kV:dV V1 V2) (kG:aF G1 G2) (hK:∀a w,Inv c V2 [] G2 none_ a w->K a w) (hst:js P l.toArray K (l.drop k) K') (hq:∀a w,K' a w->Q .normal a w):(Code.region id l.toArray false).wp P Q a w:=by
 unfold wP at hb
 simp only[Bool.and_eq_true,beq_iff_eq]at hb
 obtain⟨tn,hkn,hwf⟩:=hb
 obtain⟨F,e0,e1,hF⟩:=hst.steps
 refine Bb k hkn hwf (gl h hV hG hn) (by rw[tn]; exact hs) F (λa w hI=>by rw[e0]; exact hK a w (iy hwf kV kG hI)) hF λa w hI=>hq a w ?_
 rw[<-e1,List.length_drop]
 exact hI
theorem Jf (h:Inv c V [] G none_ a w) (nv:List Vr) (A1:List Al) (ne:List bz) (hV:tQ nv V V1) (hG:l6 ne G G1) (hn:iq nv A1 ne=true)
  (ms:List Nat) (k:Nat) (hb:wP c.N l ms k V1 A1 G1=true) (hs:nj P l.toArray ms c V1 A1 G1 0 (l.take k)) (kV:dV V1 V2) (kG:aF G1 G2) (hK:∀a w,Inv c V2 [] G2 none_ a w->K a w) (hst:js P l.toArray K (l.drop k) K') (hq:∀a w,K' a w->y.wp P Q a w):(Code.seq (Code.region id l.toArray false) y).wp P Q a w:=
 wp_seq (DW h nv A1 ne hV hG hn ms k hb hs kV kG hK hst hq)
end
end Wx
