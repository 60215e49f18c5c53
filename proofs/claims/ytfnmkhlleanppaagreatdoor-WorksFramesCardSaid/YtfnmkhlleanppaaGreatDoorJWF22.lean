import Derived.RangeFuncNested
import Derived.Test.YtfnmkhlleanppaaGreatDoorJWF21
namespace Wx
open Go Go.RowKit
def mj (V:List Vr) (id n0:Nat):Bool:=V.zipIdx.all λq=>q.1.id != id||q.2==n0
theorem oV {V:List Vr} {id n0:Nat} (h:mj V id n0=true) (y:Vr) (n:Nat) (hn:V[n]?=some y) (hy:y.id=id):n=n0:=by
 unfold mj at h
 rw[List.all_eq_true]at h
 have h1:=h (y,n) (List.mem_iff_getElem?.2 ⟨n,by simp[List.getElem?_zipIdx,hn]⟩)
 simpa [hy] using h1
variable {w:World}
theorem iZ {k o:Nat} {ob:Obj} (h:w.heap[k]?=some ob) (hc:ob.isCells=false) (v:Value):w.cell? ⟨k,o,none⟩≠some v:=by
 intro e
 obtain⟨o',h1,h2⟩:=cells_of_cell e
 rw[h]at h1
 injection h1 with h1
 rw[<-h1,hc]at h2
 cases h2
theorem ox {B:Nat->Prop} {l:Nat} (o:Obj) (hl:B l):cY B w (w.putObj l o):=
 ⟨rfl,rfl,rfl,by rw[World.putObj_size]; exact Nat.le_refl _,λk _ hn=>World.putObj_heap_other λe=>hn (e▸hl)⟩
section
variable {P:Program} {Q:Exit->Act->World->Prop} {c:bO} {V:List Vr} {G:List aK} {β:Nat->Nat->Prop} {a a':Act} {w w':World}
end
end Wx

namespace Wx
open Go Go.RowKit
section
variable {P:Program} {Q:Exit->Act->World->Prop} {c:bO} {V:List Vr} {G:List aK} {β:Nat->Nat->Prop} {a a':Act} {w w':World}
end
end Wx

namespace Wx
open Go Go.RowKit
section
variable {ro:Option Nat} {P:Program} {Q:Exit->Act->World->Prop} {c:bO} {V:List Vr} {A:List Al} {G:List aK} {β:Nat->Nat->Prop} {a a':Act} {w w':World}
end
end Wx

namespace Wx
open Go Go.RowKit
section
variable {ro:Option Nat} {ds:List Deferred} {P:Program} {Q:Exit->Act->World->Prop} {c:bO} {V:List Vr} {A:List Al} {G:List aK} {β:Nat->Nat->Prop} {a a':Act} {w w':World}
theorem mz {id:Nat} {l:List Oper} (k:Nat) (hkn:k<=l.length) (hwf:mm c.N (l.take k) V A G=true) (hnd:(l.take k).all ct=true)
  (h0:Inv c V A G none_ a w) (hs:kS P l.toArray (bu l.length) c V A G 0 (l.take k))
  (hK:∀a w,Inv c V A G (λ_=>true) a w->∀n,wpOpsIn (tZ ro) n P l.toArray (λe a' w'=>∃a0,a'=gI ds a0/\Q e a0 w') (List.range' k (l.length-k)) (gI ds a) w):(Code.region id l.toArray false).ww ro ds P Q a w:=by
 intro n
 refine wpIn_region ?_
 have tm:∀k j,((bu l.length).getD k 0).testBit j=true->j<k:=by
  intro k j h
  rcases Nat.lt_or_ge k l.length with h'|h'
  ·have e:(bu l.length).getD k 0=2^k-1:=by simp[bu,h']
   rw[e,Nat.testBit_two_pow_sub_one]at h
   simpa using h
  ·have e:(bu l.length).getD k 0=0:=by simp[bu,Nat.not_lt.2 h']
   rw[e]at h
   simp at h
 have key:∀(m i:Nat),i+m=k->∀(a:Act) (w:World),Inv c V A G (λj=>decide (j<i)) a w->wpOpsIn (tZ ro) n P l.toArray (λe a' w'=>∃a0,a'=gI ds a0/\Q e a0 w') (List.range' i m++List.range' k (l.length-k)) (gI ds a) w:=by
  intro m
  induction m with
  |zero=>
   rintro i hi a w ⟨β,hI⟩
   exact hK a w ⟨β,hI.congr (dI hwf) λj hj=>by simp at hj; simp; omega⟩ n
  |succ m ih=>
   intro i hi a w hI
   have uj:i<k:=by omega
   obtain⟨o,ho⟩:∃o,l[i]?=some o:=⟨l[i]'(by omega),List.getElem?_eq_getElem (by omega)⟩
   have E3:(l.take k)[i]?=some o:=by rw[List.getElem?_take,if_pos uj]; exact ho
   rw[List.range'_succ,List.cons_append,wpOpsIn_cons]
   have mQ:gN (bu l.length) i (λj=>decide (j<i)):=⟨by simp,λj hj=>by simpa using tm i j hj,λj hj=>by have:=tm j i hj; simp; omega⟩
   have hop:=hs.get E3
   rw[Nat.zero_add]at hop
   refine(hop _ a w hI mQ (kR hwf ho uj)).oF (by simpa using ho) (List.all_eq_true.1 hnd o (List.mem_of_getElem? E3)) λa' w' h'=>ih (i+1) (by omega) a' w' ?_
   have e:upd (λj=>decide (j<i)) i=(λj=>decide (j<i+1)):=by
    funext j
    unfold upd
    by_cases h:j=i
    ·simp[h]
    ·rw[if_neg h]
     by_cases h2:j<i
     ·simp[h2]; omega
     ·simp[h2]; omega
   rw[<-e]
   exact h'
 have:=key k 0 (by omega) a w (by
  have e:(λj=>decide (j<0))=none_:=by funext j; simp
  rw[e]
  exact h0)
 have e2:List.range' 0 k++List.range' k (l.length-k)=List.range l.toArray.size:=by
  rw[List.range_eq_range',show l.toArray.size=k+(l.length-k) by simp; omega]
  have:=List.range'_append_1 (s:=0) (m:=k) (n:=l.length-k)
  rw[Nat.zero_add]at this
  exact this
 rwa [e2]at this
end
end Wx

namespace Wx
open Go Go.RowKit
section
variable {ro:Option Nat} {ds:List Deferred} {P:Program} {Q:Exit->Act->World->Prop} {c:bO} {V:List Vr} {A:List Al} {G:List aK} {a:Act} {w:World}{id:Nat} {l:List Oper}
theorem vP (ms:List Nat) (k:Nat) (zT:0<k) (hm:P.follows .mixedOrders=true) (hok:fR l.toArray=true) (od:lQ l=ms) (gr:ow ms k l.length=true) (hnd:l.all ct=true) (hkn:decide (k<=l.length)=true) (hwf:mm c.N (l.take k) V A G=true)
  (h0:Inv c V A G none_ a w) (hs:kS P l.toArray ms c V A G 0 (l.take k)) (K:Nat->Act->World->Prop) (hK:∀a w,Inv c V A G (λ_=>true) a w->K 0 a w) (hst:fZ P l.toArray K 0 (l.drop k)) (hq:∀a w,K (l.length-k) a w->Q .normal a w):
  (Code.region id l.toArray true).ww ro ds P Q a w:=by
 intro n
 have hkn:=of_decide_eq_true hkn
 have gM:=kp l
 rw[od]at gM
 let J:(Nat->Bool)->Act->World->Prop:=λL a w=>fA l L/\(((∃j,j<k/\L j=false)/\Inv c V A G L a w)\/((∀j,j<k->L j=true)/\∃m,m<=l.length-k/\(∀i,k<=i->i<l.length->(L i=true↔i<k+m))/\K m a w))
 refine gB hm hok (λL a' w=>∃a,a'=gI ds a/\J L a w) ⟨a,rfl,λi o _ h=>(by cases h),.inl ⟨⟨0,zT,rfl⟩,?_⟩⟩ ?_ ?_
 ·obtain⟨β,hβ⟩:=h0
  exact⟨β,hβ.draws⟩
 ·rintro i o hi L _ w ⟨a,rfl,hc,hJ⟩ hno hpre
  ··have sk:i<l.length:=by
     rcases Nat.lt_or_ge i l.length with h'|h'
     ·exact h'
     ·rw[List.getElem?_eq_none h']at hi; cases hi
    have Da:l.toArray[i]?=some o:=by simpa using hi
    have wI:ct o=true:=List.all_eq_true.1 hnd o (List.mem_of_getElem? hi)
    have pW:∀j,(ms.getD i 0).testBit j=true->L j=true:=λj hj=>gM.2 L hc i o hi hpre j hj
    have mP:fA l (upd L i):=by
     intro k' ok gv hL j hj
     by_cases qQ:k'=i
     ·subst qQ
      rw[hi]at gv
      injection gv with gv
      subst gv
      have:=hpre j hj
      unfold upd
      split
      ·rfl
      ·exact this
     ·have:=hc k' ok gv (qD hL qQ) j hj
      unfold upd
      split
      ·rfl
      ·exact this
    rcases hJ with⟨⟨j0,F0,ue⟩,hI⟩|⟨cE,m,hmn,vS,zN⟩
    ·have uj:i<k:=by
      rcases Nat.lt_or_ge i k with h'|h'
      ·exact h'
      ·have:=pW j0 (dD gr sk h' (by omega))
       rw[ue]at this; cases this
     have mQ:gN ms i L:=⟨hno,pW,λj hj=>by
      cases hL:L j with
      |false=>rfl
      |true=>
       cases um:l[j]? with
       |none=>
        have h1:=gM.1
        rw[List.getD_eq_getElem?_getD,List.getElem?_eq_none (by have:=List.getElem?_eq_none_iff.1 um; omega)]at hj
        simp at hj
       |some oj=>
        have:=gM.2 L hc j oj um (λm hm=>hc j oj um hL m hm) i hj
        rw[hno]at this
        cases this⟩
     have hop:=hs.get (j:=i) (o:=o) (by rw[List.getElem?_take,if_pos uj]; exact hi)
     rw[Nat.zero_add]at hop
     refine(hop L a w hI mQ (kR hwf hi uj)).oF Da wI λa' w' h'=>⟨a',rfl,(show J (upd L i) a' w' from⟨mP,?_⟩)⟩
     by_cases hfull:∀j,j<k->upd L i j=true
     ·refine .inr ⟨hfull,0,Nat.zero_le _,λq hq oh=>?_,hK a' w' ?_⟩
      ·have zO:L q=false:=by
        cases zO:L q with
        |false=>rfl
        |true=>
         cases hoq:l[q]? with
         |none=>rw[List.getElem?_eq_none_iff]at hoq; omega
         |some oq=>
          have:=gM.2 L hc q oq hoq (λm hm=>hc q oq hoq zO m hm) j0 (dD gr oh hq (by omega))
          rw[ue]at this; cases this
       have:upd L i q=L q:=by unfold upd; rw[if_neg (by omega)]
       rw[this,zO]
       constructor
       ·intro h; cases h
       ·intro h; omega
      ·obtain⟨β,hI'⟩:=h'
       refine⟨β,hI'.congr (dI hwf) λj hj=>?_⟩
       rw[List.length_take]at hj
       exact hfull j (by omega)
     ·refine .inl ⟨?_,h'⟩
      rw[Classical.not_forall]at hfull
      obtain⟨j,hj⟩:=hfull
      rw[Classical.not_imp]at hj
      exact⟨j,hj.1,Bool.not_eq_true _▸hj.2⟩
    ·have qQ:k<=i:=by
      rcases Nat.lt_or_ge i k with h'|h'
      ·rw[cE i h']at hno; cases hno
      ·exact h'
     have yu:i=k+m:=by
      have h1:¬i<k+m:=λh=>by rw[(vS i qQ sk).2 h]at hno; cases hno
      rcases Nat.lt_or_ge (k+m) i with h2|h2
      ·have h3:=pW (k+m) (dD gr sk qQ h2)
       have:=(vS (k+m) (by omega) (by omega)).1 h3
       omega
      ·omega
     have ho:(l.drop k)[m]?=some o:=by rw[List.getElem?_drop,<-yu]; exact hi
     have wM:=hst.get ho a w (by rw[Nat.zero_add]; exact zN)
     rw[Nat.zero_add]at wM
     refine wM.oF Da wI λa' w' h'=>⟨a',rfl,(show J (upd L i) a' w' from⟨mP,.inr ⟨λj hj=>?_,m+1,by omega,λq hq oh=>?_,h'⟩⟩)⟩
     ·unfold upd
      split
      ·rfl
      ·exact cE j hj
     ·unfold upd
      split
      ·rename_i e
       constructor
       ·intro _; omega
       ·intro _; rfl
      ·rename_i e
       rw[vS q hq oh]
       omega
 ·rintro L _ w ⟨a,rfl,_,hJ⟩ cE
  rcases hJ with⟨⟨j,hj,hL⟩,_⟩|⟨_,m,hmn,vS,zN⟩
  ·rw[cE j (by omega)]at hL; cases hL
  ·have hme:m=l.length-k:=by
    rcases Nat.lt_or_ge m (l.length-k)with h'|h'
    ·have:=(vS (k+m) (by omega) (by omega)).1 (cE (k+m) (by omega))
     omega
    ·omega
   subst hme
   exact⟨a,rfl,hq a w zN⟩
theorem rG {l:List Oper} {n:Nat}:∀(os:List Oper) (k m:Nat) (K:Nat->Act->World->Prop),fZ P l.toArray K m os->(∀j o,os[j]?=some o->l[k+j]?=some o)->os.all ct=true->(∀a w,K (m+os.length) a w->Q .normal a w)->∀a w,K m a w ->
  wpOpsIn (tZ ro) n P l.toArray (λe a' w'=>∃a0,a'=gI ds a0/\Q e a0 w') (List.range' k os.length) (gI ds a) w
 |[],k,m,K,_,_,_,hq,a,w,h=>⟨a,rfl,hq a w h⟩
 |o::os,k,m,K,hs,hl,hd,hq,a,w,h=>by
  rw[List.length_cons,List.range'_succ,wpOpsIn_cons]
  rw[List.all_cons,Bool.and_eq_true]at hd
  refine(hs.1 a w h).oF (by have:=hl 0 o rfl; simpa using this) hd.1 λa' w' h'=>rG os (k+1) (m+1) K hs.2 (λj o ho=>by rw[show k+1+j=k+(j+1) by omega]; exact hl (j+1) o ho) hd.2 (λa w hk=>hq a w ?_) a' w' h'
  rw[List.length_cons,show m+(os.length+1)=m+1+os.length by omega]
  exact hk
variable {V1 V2:List Vr} {G1 G2:List aK} {K':Act->World->Prop}
theorem Fl (h:Inv c V [] G none_ a w) (ms:List Nat) (k:Nat) (nv:List Vr) (A1:List Al) (ne:List aK) (hV:mC nv V V1) (hG:fY ne G G1) (hs:kS P l.toArray ms c V1 A1 G1 0 (l.take k)) (kV:cQ V1 V2) (kG:aj G1 G2) (hst:fX P l.toArray (Inv c V2 [] G2 none_) (l.drop k) K') (hq:∀a w,K' a w->Q .normal a w)
  (hn:fJ nv A1 ne=true:=by kernel_rfl) (hb:kE P c.N l ms k V1 A1 G1=true:=by kernel_rfl) (hd:l.all ct=true:=by kernel_rfl):(Code.region id l.toArray true).ww ro ds P Q a w:=by
 unfold kE at hb
 simp only[Bool.and_eq_true,beq_iff_eq]at hb
 obtain⟨zT,hm,hok,od,gr,hkn,hwf⟩:=hb
 obtain⟨F,e0,e1,hF⟩:=hst.steps
 refine vP ms k (of_decide_eq_true zT) hm hok od gr hd hkn hwf (dA h hV hG hn) hs F (λa w hI=>by rw[e0]; exact eC hwf kV kG hI) hF λa w hI=>hq a w ?_
 rw[<-e1,List.length_drop]
 exact hI
theorem Dj (h:Inv c V [] G none_ a w) (n k:Nat) (nv:List Vr) (A1:List Al) (ne:List aK) (hV:mC nv V V1) (hG:fY ne G G1) (hs:kS P l.toArray (tm n 0) c V1 A1 G1 0 (l.take k)) (kV:cQ V1 V2) (kG:aj G1 G2) (hst:fX P l.toArray (Inv c V2 [] G2 none_) (l.drop k) K') (hq:∀a w,K' a w->Q .normal a w)
  (hn:fJ nv A1 ne=true:=by kernel_rfl) (hb:kF c.N l (tm n 0) k V1 A1 G1=true:=by kernel_rfl) (hd:l.all ct=true:=by kernel_rfl):(Code.region id l.toArray false).ww ro ds P Q a w:=by
 unfold kF at hb
 simp only[Bool.and_eq_true,beq_iff_eq]at hb
 obtain⟨od,hkn,hwf⟩:=hb
 obtain⟨F,e0,e1,hF⟩:=hst.steps
 have hkn:=of_decide_eq_true hkn
 refine mz k hkn hwf (List.all_eq_true.2 λo ho=>List.all_eq_true.1 hd o (List.mem_of_mem_take ho)) (dA h hV hG hn) (by rw[od]; exact hs) λa w hI n=>?_
 have:=rG (ro:=ro) (ds:=ds) (Q:=Q) (n:=n) (l:=l) (l.drop k) k 0 F hF (λj o ho=>by rw[List.getElem?_drop]at ho; exact ho) (List.all_eq_true.2 λo ho=>List.all_eq_true.1 hd o (List.mem_of_mem_drop ho)) (λa w hI=>hq a w (by rw[Nat.zero_add,e1]at hI; exact hI)) a w (by rw[e0]; exact eC hwf kV kG hI)
 rw[List.length_drop]at this
 exact this
variable {y:Code}
theorem EH (h:Inv c V [] G none_ a w) (ms:List Nat) (k:Nat) (nv:List Vr) (A1:List Al) (ne:List aK) (hV:mC nv V V1) (hG:fY ne G G1) (hs:kS P l.toArray ms c V1 A1 G1 0 (l.take k)) (kV:cQ V1 V2) (kG:aj G1 G2) (hst:fX P l.toArray (Inv c V2 [] G2 none_) (l.drop k) K') (hq:∀a w,K' a w->y.ww ro ds P Q a w)
  (hn:fJ nv A1 ne=true:=by kernel_rfl) (hb:kE P c.N l ms k V1 A1 G1=true:=by kernel_rfl) (hd:l.all ct=true:=by kernel_rfl):(Code.seq (Code.region id l.toArray true) y).ww ro ds P Q a w:=ah (Fl h ms k nv A1 ne hV hG hs kV kG hst hq hn hb hd)
theorem jn (h:Inv c V [] G none_ a w) (n k:Nat) (nv:List Vr) (A1:List Al) (ne:List aK) (hV:mC nv V V1) (hG:fY ne G G1) (hs:kS P l.toArray (tm n 0) c V1 A1 G1 0 (l.take k)) (kV:cQ V1 V2) (kG:aj G1 G2) (hst:fX P l.toArray (Inv c V2 [] G2 none_) (l.drop k) K') (hq:∀a w,K' a w->y.ww ro ds P Q a w)
  (hn:fJ nv A1 ne=true:=by kernel_rfl) (hb:kF c.N l (tm n 0) k V1 A1 G1=true:=by kernel_rfl) (hd:l.all ct=true:=by kernel_rfl):(Code.seq (Code.region id l.toArray false) y).ww ro ds P Q a w:=ah (Dj h n k nv A1 ne hV hG hs kV kG hst hq hn hb hd)
theorem rP {fn:Func} {f:FuncId} {C:Code} {vs:List Value} {N s:Nat} {M:Nat->Nat->Prop} {B:Nat->Prop} {H:List Bk} {R:Ending->World->Prop} (hf:P.funcs[f]?=some fn) (hb:fn.body=some C) (hN:fn.ntmps=N) (hlen:decide (vs.length<=N)=true)
  (hM:da M w) (jc:∀k,B k->∀o,¬M k o) (hH:bR B w H) (hG:dV (plus M B) w vs G)
  (h:∀a,Inv ⟨N,w,M,B⟩ [aQ id s H] [] G none_ a w->C.ww none [] P (bodyPost P fn R) a w):Calls P f vs.toArray w R:=
 calls_of_wp hf hb ((wpIn_wide (n:=0)).1 (wpIn_mono (h _ (jZ hM jc hH (by have:=of_decide_eq_true hlen; simp[hN]; omega) rfl hG.ok) 0) λe a' w' ⟨a0,e0,h0⟩=>by subst e0; exact h0))
end
end Wx
