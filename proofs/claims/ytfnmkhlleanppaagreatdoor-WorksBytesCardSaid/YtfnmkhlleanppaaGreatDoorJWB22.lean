import Derived.RangeFuncNested
import Derived.Test.YtfnmkhlleanppaaGreatDoorJWB21
namespace Wx
open Go Go.RowKit
def mA (V:List Vr) (id n0:Nat):Bool:=V.zipIdx.all λq=>q.1.id != id||q.2==n0
theorem pA {V:List Vr} {id n0:Nat} (h:mA V id n0=true) (y:Vr) (n:Nat) (hn:V[n]?=some y) (hy:y.id=id):n=n0:=by
 unfold mA at h
 rw[List.all_eq_true]at h
 have h1:=h (y,n) (List.mem_iff_getElem?.2 ⟨n,by simp[List.getElem?_zipIdx,hn]⟩)
 simpa [hy] using h1
variable {w:World}
theorem jd {k o:Nat} {ob:Obj} (h:w.heap[k]?=some ob) (hc:ob.isCells=false) (v:Value):w.cell? ⟨k,o,none⟩≠some v:=by
 intro e
 obtain⟨o',h1,h2⟩:=cells_of_cell e
 rw[h]at h1
 injection h1 with h1
 rw[<-h1,hc]at h2
 cases h2
theorem oI {B:Nat->Prop} {l:Nat} (o:Obj) (hl:B l):di B w (w.putObj l o):=
 ⟨rfl,rfl,rfl,by rw[World.putObj_size]; exact Nat.le_refl _,λk _ hn=>World.putObj_heap_other λe=>hn (e▸hl)⟩
section
variable {P:Program} {Q:Exit->Act->World->Prop} {c:bJ} {V:List Vr} {G:List aI} {β:Nat->Nat->Prop} {a a':Act} {w w':World}
end
end Wx

namespace Wx
open Go Go.RowKit
section
variable {P:Program} {Q:Exit->Act->World->Prop} {c:bJ} {V:List Vr} {G:List aI} {β:Nat->Nat->Prop} {a a':Act} {w w':World}
end
end Wx

namespace Wx
open Go Go.RowKit
section
variable {ro:Option Nat} {P:Program} {Q:Exit->Act->World->Prop} {c:bJ} {V:List Vr} {A:List Al} {G:List aI} {β:Nat->Nat->Prop} {a a':Act} {w w':World}
end
end Wx

namespace Wx
open Go Go.RowKit
section
variable {ro:Option Nat} {ds:List Deferred} {P:Program} {Q:Exit->Act->World->Prop} {c:bJ} {V:List Vr} {A:List Al} {G:List aI} {β:Nat->Nat->Prop} {a a':Act} {w w':World}
theorem mF {id:Nat} {l:List Oper} (k:Nat) (hkn:k<=l.length) (hwf:mC c.N (l.take k) V A G=true) (hnd:(l.take k).all ck=true)
  (h0:Inv c V A G none_ a w) (hs:ld P l.toArray (bt l.length) c V A G 0 (l.take k))
  (hK:∀a w,Inv c V A G (λ_=>true) a w->∀n,wpOpsIn (uo ro) n P l.toArray (λe a' w'=>∃a0,a'=gJ ds a0/\Q e a0 w') (List.range' k (l.length-k)) (gJ ds a) w):(Code.region id l.toArray false).ww ro ds P Q a w:=by
 intro n
 refine wpIn_region ?_
 have tm:∀k j,((bt l.length).getD k 0).testBit j=true->j<k:=by
  intro k j h
  rcases Nat.lt_or_ge k l.length with h'|h'
  ·have e:(bt l.length).getD k 0=2^k-1:=by simp[bt,h']
   rw[e,Nat.testBit_two_pow_sub_one]at h
   simpa using h
  ·have e:(bt l.length).getD k 0=0:=by simp[bt,Nat.not_lt.2 h']
   rw[e]at h
   simp at h
 have key:∀(m i:Nat),i+m=k->∀(a:Act) (w:World),Inv c V A G (λj=>decide (j<i)) a w->wpOpsIn (uo ro) n P l.toArray (λe a' w'=>∃a0,a'=gJ ds a0/\Q e a0 w') (List.range' i m++List.range' k (l.length-k)) (gJ ds a) w:=by
  intro m
  induction m with
  |zero=>
   rintro i hi a w ⟨β,hI⟩
   exact hK a w ⟨β,hI.congr (dR hwf) λj hj=>by simp at hj; simp; omega⟩ n
  |succ m ih=>
   intro i hi a w hI
   have uy:i<k:=by omega
   obtain⟨o,ho⟩:∃o,l[i]?=some o:=⟨l[i]'(by omega),List.getElem?_eq_getElem (by omega)⟩
   have E3:(l.take k)[i]?=some o:=by rw[List.getElem?_take,if_pos uy]; exact ho
   rw[List.range'_succ,List.cons_append,wpOpsIn_cons]
   have mZ:gO (bt l.length) i (λj=>decide (j<i)):=⟨by simp,λj hj=>by simpa using tm i j hj,λj hj=>by have:=tm j i hj; simp; omega⟩
   have hop:=hs.get E3
   rw[Nat.zero_add]at hop
   refine(hop _ a w hI mZ (kX hwf ho uy)).oO (by simpa using ho) (List.all_eq_true.1 hnd o (List.mem_of_getElem? E3)) λa' w' h'=>ih (i+1) (by omega) a' w' ?_
   have e:upd (λj=>decide (j<i)) i=(λj=>decide (j<i+1)):=by
    funext j
    unfold upd
    by_cases h:j=i
    ·simp[h]
    ·rw[if_neg h]
     by_cases h2:j<i
     ·simp[h2]; omega
     ·simp[h2]; omega
   rw[<-e]
   exact h'
 have:=key k 0 (by omega) a w (by
  have e:(λj=>decide (j<0))=none_:=by funext j; simp
  rw[e]
  exact h0)
 have e2:List.range' 0 k++List.range' k (l.length-k)=List.range l.toArray.size:=by
  rw[List.range_eq_range',show l.toArray.size=k+(l.length-k) by simp; omega]
  have:=List.range'_append_1 (s:=0) (m:=k) (n:=l.length-k)
  rw[Nat.zero_add]at this
  exact this
 rwa [e2]at this
end
end Wx

namespace Wx
open Go Go.RowKit
section
variable {ro:Option Nat} {ds:List Deferred} {P:Program} {Q:Exit->Act->World->Prop} {c:bJ} {V:List Vr} {A:List Al} {G:List aI} {a:Act} {w:World}{id:Nat} {l:List Oper}
theorem vV (ms:List Nat) (k:Nat) (zW:0<k) (hm:P.follows .mixedOrders=true) (hok:fR l.toArray=true) (oy:lX l=ms) (gv:oH ms k l.length=true) (hnd:l.all ck=true) (hkn:decide (k<=l.length)=true) (hwf:mC c.N (l.take k) V A G=true)
  (h0:Inv c V A G none_ a w) (hs:ld P l.toArray ms c V A G 0 (l.take k)) (K:Nat->Act->World->Prop) (hK:∀a w,Inv c V A G (λ_=>true) a w->K 0 a w) (hst:gh P l.toArray K 0 (l.drop k)) (hq:∀a w,K (l.length-k) a w->Q .normal a w):
  (Code.region id l.toArray true).ww ro ds P Q a w:=by
 intro n
 have hkn:=of_decide_eq_true hkn
 have gR:=kB l
 rw[oy]at gR
 let J:(Nat->Bool)->Act->World->Prop:=λL a w=>fF l L/\(((∃j,j<k/\L j=false)/\Inv c V A G L a w)\/((∀j,j<k->L j=true)/\∃m,m<=l.length-k/\(∀i,k<=i->i<l.length->(L i=true↔i<k+m))/\K m a w))
 refine gE hm hok (λL a' w=>∃a,a'=gJ ds a/\J L a w) ⟨a,rfl,λi o _ h=>(by cases h),.inl ⟨⟨0,zW,rfl⟩,?_⟩⟩ ?_ ?_
 ·obtain⟨β,hβ⟩:=h0
  exact⟨β,hβ.draws⟩
 ·rintro i o hi L _ w ⟨a,rfl,hc,hJ⟩ hno hpre
  ··have sD:i<l.length:=by
     rcases Nat.lt_or_ge i l.length with h'|h'
     ·exact h'
     ·rw[List.getElem?_eq_none h']at hi; cases hi
    have Df:l.toArray[i]?=some o:=by simpa using hi
    have wR:ck o=true:=List.all_eq_true.1 hnd o (List.mem_of_getElem? hi)
    have qd:∀j,(ms.getD i 0).testBit j=true->L j=true:=λj hj=>gR.2 L hc i o hi hpre j hj
    have mY:fF l (upd L i):=by
     intro k' ok gw hL j hj
     by_cases ow:k'=i
     ·subst ow
      rw[hi]at gw
      injection gw with gw
      subst gw
      have:=hpre j hj
      unfold upd
      split
      ·rfl
      ·exact this
     ·have:=hc k' ok gw (qI hL ow) j hj
      unfold upd
      split
      ·rfl
      ·exact this
    rcases hJ with⟨⟨j0,F4,uv⟩,hI⟩|⟨cy,m,hmn,vY,zQ⟩
    ·have uy:i<k:=by
      rcases Nat.lt_or_ge i k with h'|h'
      ·exact h'
      ·have:=qd j0 (dN gv sD h' (by omega))
       rw[uv]at this; cases this
     have mZ:gO ms i L:=⟨hno,qd,λj hj=>by
      cases hL:L j with
      |false=>rfl
      |true=>
       cases uA:l[j]? with
       |none=>
        have h1:=gR.1
        rw[List.getD_eq_getElem?_getD,List.getElem?_eq_none (by have:=List.getElem?_eq_none_iff.1 uA; omega)]at hj
        simp at hj
       |some oj=>
        have:=gR.2 L hc j oj uA (λm hm=>hc j oj uA hL m hm) i hj
        rw[hno]at this
        cases this⟩
     have hop:=hs.get (j:=i) (o:=o) (by rw[List.getElem?_take,if_pos uy]; exact hi)
     rw[Nat.zero_add]at hop
     refine(hop L a w hI mZ (kX hwf hi uy)).oO Df wR λa' w' h'=>⟨a',rfl,(show J (upd L i) a' w' from⟨mY,?_⟩)⟩
     by_cases hfull:∀j,j<k->upd L i j=true
     ·refine .inr ⟨hfull,0,Nat.zero_le _,λq hq oz=>?_,hK a' w' ?_⟩
      ·have zR:L q=false:=by
        cases zR:L q with
        |false=>rfl
        |true=>
         cases hoq:l[q]? with
         |none=>rw[List.getElem?_eq_none_iff]at hoq; omega
         |some oq=>
          have:=gR.2 L hc q oq hoq (λm hm=>hc q oq hoq zR m hm) j0 (dN gv oz hq (by omega))
          rw[uv]at this; cases this
       have:upd L i q=L q:=by unfold upd; rw[if_neg (by omega)]
       rw[this,zR]
       constructor
       ·intro h; cases h
       ·intro h; omega
      ·obtain⟨β,hI'⟩:=h'
       refine⟨β,hI'.congr (dR hwf) λj hj=>?_⟩
       rw[List.length_take]at hj
       exact hfull j (by omega)
     ·refine .inl ⟨?_,h'⟩
      rw[Classical.not_forall]at hfull
      obtain⟨j,hj⟩:=hfull
      rw[Classical.not_imp]at hj
      exact⟨j,hj.1,Bool.not_eq_true _▸hj.2⟩
    ·have ow:k<=i:=by
      rcases Nat.lt_or_ge i k with h'|h'
      ·rw[cy i h']at hno; cases hno
      ·exact h'
     have yA:i=k+m:=by
      have h1:¬i<k+m:=λh=>by rw[(vY i ow sD).2 h]at hno; cases hno
      rcases Nat.lt_or_ge (k+m) i with h2|h2
      ·have h3:=qd (k+m) (dN gv sD ow h2)
       have:=(vY (k+m) (by omega) (by omega)).1 h3
       omega
      ·omega
     have ho:(l.drop k)[m]?=some o:=by rw[List.getElem?_drop,<-yA]; exact hi
     have wV:=hst.get ho a w (by rw[Nat.zero_add]; exact zQ)
     rw[Nat.zero_add]at wV
     refine wV.oO Df wR λa' w' h'=>⟨a',rfl,(show J (upd L i) a' w' from⟨mY,.inr ⟨λj hj=>?_,m+1,by omega,λq hq oz=>?_,h'⟩⟩)⟩
     ·unfold upd
      split
      ·rfl
      ·exact cy j hj
     ·unfold upd
      split
      ·rename_i e
       constructor
       ·intro _; omega
       ·intro _; rfl
      ·rename_i e
       rw[vY q hq oz]
       omega
 ·rintro L _ w ⟨a,rfl,_,hJ⟩ cy
  rcases hJ with⟨⟨j,hj,hL⟩,_⟩|⟨_,m,hmn,vY,zQ⟩
  ·rw[cy j (by omega)]at hL; cases hL
  ·have hme:m=l.length-k:=by
    rcases Nat.lt_or_ge m (l.length-k)with h'|h'
    ·have:=(vY (k+m) (by omega) (by omega)).1 (cy (k+m) (by omega))
     omega
    ·omega
   subst hme
   exact⟨a,rfl,hq a w zQ⟩
theorem rM {l:List Oper} {n:Nat}:∀(os:List Oper) (k m:Nat) (K:Nat->Act->World->Prop),gh P l.toArray K m os->(∀j o,os[j]?=some o->l[k+j]?=some o)->os.all ck=true->(∀a w,K (m+os.length) a w->Q .normal a w)->∀a w,K m a w ->
  wpOpsIn (uo ro) n P l.toArray (λe a' w'=>∃a0,a'=gJ ds a0/\Q e a0 w') (List.range' k os.length) (gJ ds a) w
 |[],k,m,K,_,_,_,hq,a,w,h=>⟨a,rfl,hq a w h⟩
 |o::os,k,m,K,hs,hl,hd,hq,a,w,h=>by
  rw[List.length_cons,List.range'_succ,wpOpsIn_cons]
  rw[List.all_cons,Bool.and_eq_true]at hd
  refine(hs.1 a w h).oO (by have:=hl 0 o rfl; simpa using this) hd.1 λa' w' h'=>rM os (k+1) (m+1) K hs.2 (λj o ho=>by rw[show k+1+j=k+(j+1) by omega]; exact hl (j+1) o ho) hd.2 (λa w hk=>hq a w ?_) a' w' h'
  rw[List.length_cons,show m+(os.length+1)=m+1+os.length by omega]
  exact hk
variable {V1 V2:List Vr} {G1 G2:List aI} {K':Act->World->Prop}
theorem Fo (h:Inv c V [] G none_ a w) (ms:List Nat) (k:Nat) (nv:List Vr) (A1:List Al) (ne:List aI) (hV:mI nv V V1) (hG:gg ne G G1) (hs:ld P l.toArray ms c V1 A1 G1 0 (l.take k)) (kV:cR V1 V2) (kG:aj G1 G2) (hst:gb P l.toArray (Inv c V2 [] G2 none_) (l.drop k) K') (hq:∀a w,K' a w->Q .normal a w)
  (hn:fL nv A1 ne=true:=by kernel_rfl) (hb:kN P c.N l ms k V1 A1 G1=true:=by kernel_rfl) (hd:l.all ck=true:=by kernel_rfl):(Code.region id l.toArray true).ww ro ds P Q a w:=by
 unfold kN at hb
 simp only[Bool.and_eq_true,beq_iff_eq]at hb
 obtain⟨zW,hm,hok,oy,gv,hkn,hwf⟩:=hb
 obtain⟨F,e0,e1,hF⟩:=hst.steps
 refine vV ms k (of_decide_eq_true zW) hm hok oy gv hd hkn hwf (dK h hV hG hn) hs F (λa w hI=>by rw[e0]; exact eM hwf kV kG hI) hF λa w hI=>hq a w ?_
 rw[<-e1,List.length_drop]
 exact hI
theorem Dn (h:Inv c V [] G none_ a w) (n k:Nat) (nv:List Vr) (A1:List Al) (ne:List aI) (hV:mI nv V V1) (hG:gg ne G G1) (hs:ld P l.toArray (tm n 0) c V1 A1 G1 0 (l.take k)) (kV:cR V1 V2) (kG:aj G1 G2) (hst:gb P l.toArray (Inv c V2 [] G2 none_) (l.drop k) K') (hq:∀a w,K' a w->Q .normal a w)
  (hn:fL nv A1 ne=true:=by kernel_rfl) (hb:kO c.N l (tm n 0) k V1 A1 G1=true:=by kernel_rfl) (hd:l.all ck=true:=by kernel_rfl):(Code.region id l.toArray false).ww ro ds P Q a w:=by
 unfold kO at hb
 simp only[Bool.and_eq_true,beq_iff_eq]at hb
 obtain⟨oy,hkn,hwf⟩:=hb
 obtain⟨F,e0,e1,hF⟩:=hst.steps
 have hkn:=of_decide_eq_true hkn
 refine mF k hkn hwf (List.all_eq_true.2 λo ho=>List.all_eq_true.1 hd o (List.mem_of_mem_take ho)) (dK h hV hG hn) (by rw[oy]; exact hs) λa w hI n=>?_
 have:=rM (ro:=ro) (ds:=ds) (Q:=Q) (n:=n) (l:=l) (l.drop k) k 0 F hF (λj o ho=>by rw[List.getElem?_drop]at ho; exact ho) (List.all_eq_true.2 λo ho=>List.all_eq_true.1 hd o (List.mem_of_mem_drop ho)) (λa w hI=>hq a w (by rw[Nat.zero_add,e1]at hI; exact hI)) a w (by rw[e0]; exact eM hwf kV kG hI)
 rw[List.length_drop]at this
 exact this
variable {y:Code}
theorem EG (h:Inv c V [] G none_ a w) (ms:List Nat) (k:Nat) (nv:List Vr) (A1:List Al) (ne:List aI) (hV:mI nv V V1) (hG:gg ne G G1) (hs:ld P l.toArray ms c V1 A1 G1 0 (l.take k)) (kV:cR V1 V2) (kG:aj G1 G2) (hst:gb P l.toArray (Inv c V2 [] G2 none_) (l.drop k) K') (hq:∀a w,K' a w->y.ww ro ds P Q a w)
  (hn:fL nv A1 ne=true:=by kernel_rfl) (hb:kN P c.N l ms k V1 A1 G1=true:=by kernel_rfl) (hd:l.all ck=true:=by kernel_rfl):(Code.seq (Code.region id l.toArray true) y).ww ro ds P Q a w:=ai (Fo h ms k nv A1 ne hV hG hs kV kG hst hq hn hb hd)
theorem lM (h:Inv c V [] G none_ a w) (n k:Nat) (nv:List Vr) (A1:List Al) (ne:List aI) (hV:mI nv V V1) (hG:gg ne G G1) (hs:ld P l.toArray (tm n 0) c V1 A1 G1 0 (l.take k)) (kV:cR V1 V2) (kG:aj G1 G2) (hst:gb P l.toArray (Inv c V2 [] G2 none_) (l.drop k) K') (hq:∀a w,K' a w->y.ww ro ds P Q a w)
  (hn:fL nv A1 ne=true:=by kernel_rfl) (hb:kO c.N l (tm n 0) k V1 A1 G1=true:=by kernel_rfl) (hd:l.all ck=true:=by kernel_rfl):(Code.seq (Code.region id l.toArray false) y).ww ro ds P Q a w:=ai (Dn h n k nv A1 ne hV hG hs kV kG hst hq hn hb hd)
theorem rY {fn:Func} {f:FuncId} {C:Code} {vs:List Value} {N s:Nat} {M:Nat->Nat->Prop} {B:Nat->Prop} {H:List Bk} {R:Ending->World->Prop} (hf:P.funcs[f]?=some fn) (hb:fn.body=some C) (hN:fn.ntmps=N) (hlen:decide (vs.length<=N)=true)
  (hM:dm M w) (jg:∀k,B k->∀o,¬M k o) (hH:bN B w H) (hG:eu (plus M B) w vs G)
  (h:∀a,Inv ⟨N,w,M,B⟩ [aP id s H] [] G none_ a w->C.ww none [] P (bodyPost P fn R) a w):Calls P f vs.toArray w R:=
 calls_of_wp hf hb ((wpIn_wide (n:=0)).1 (wpIn_mono (h _ (ko hM jg hH (by have:=of_decide_eq_true hlen; simp[hN]; omega) rfl hG.ok) 0) λe a' w' ⟨a0,e0,h0⟩=>by subst e0; exact h0))
end
end Wx
