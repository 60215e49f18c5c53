import Derived.Test.YtfnmkhlleanppaaGreatDoorJWN21
import Derived.Test.YtfnmkhlleanppaaGreatDoorJWN20
namespace Wx
open Go Go.RowKit
section
variable {ro:Option Nat} {ds:List Deferred} {P:Program} {Q:Exit->Act->World->Prop} {c:bD} {V:List Vr} {A:List Al} {G:List aD} {a:Act} {w:World}{id:Nat} {l:List Oper}
theorem tI (ms:List Nat) (k:Nat) (xu:0<k) (hm:P.follows .mixedOrders=true) (hok:eI l.toArray=true) (mD:kf l=ms) (eW:mL ms k l.length=true) (hnd:l.all bV=true) (hkn:decide (k<=l.length)=true) (hwf:kE c.N (l.take k) V A G=true)
  (h0:Inv c V A G none_ a w) (hs:jS P l.toArray ms c V A G 0 (l.take k)) (K:Nat->Act->World->Prop) (hK:∀a w,Inv c V A G (λ_=>true) a w->K 0 a w) (hst:eP P l.toArray K 0 (l.drop k)) (hq:∀a w,K (l.length-k) a w->Q .normal a w):
  (Code.region id l.toArray true).ww ro ds P Q a w:=by
 intro n
 have hkn:=of_decide_eq_true hkn
 have fJ:=jl l
 rw[mD]at fJ
 let J:(Nat->Bool)->Act->World->Prop:=λL a w=>ew l L/\(((∃j,j<k/\L j=false)/\Inv c V A G L a w)\/((∀j,j<k->L j=true)/\∃m,m<=l.length-k/\(∀i,k<=i->i<l.length->(L i=true↔i<k+m))/\K m a w))
 refine fj hm hok (λL a' w=>∃a,a'=fo ds a/\J L a w) ⟨a,rfl,λi o _ h=>(by cases h),.inl ⟨⟨0,xu,rfl⟩,?_⟩⟩ ?_ ?_
 ·obtain⟨β,hβ⟩:=h0
  exact⟨β,hβ.draws⟩
 ·rintro i o hi L _ w ⟨a,rfl,hc,hJ⟩ hno hpre
  ··have qd:i<l.length:=by
     rcases Nat.lt_or_ge i l.length with h'|h'
     ·exact h'
     ·rw[List.getElem?_eq_none h']at hi; cases hi
    have A7:l.toArray[i]?=some o:=by simpa using hi
    have uq:bV o=true:=List.all_eq_true.1 hnd o (List.mem_of_getElem? hi)
    have nT:∀j,(ms.getD i 0).testBit j=true->L j=true:=λj hj=>fJ.2 L hc i o hi hpre j hj
    have qQ:ew l (upd L i):=by
     intro k' ok eX hL j hj
     by_cases oW:k'=i
     ·subst oW
      rw[hi]at eX
      injection eX with eX
      subst eX
      have:=hpre j hj
      unfold upd
      split
      ·rfl
      ·exact this
     ·have:=hc k' ok eX (oK hL oW) j hj
      unfold upd
      split
      ·rfl
      ·exact this
    rcases hJ with⟨⟨j0,DM,rN⟩,hI⟩|⟨cg,m,hmn,tT,xk⟩
    ·have rQ:i<k:=by
      rcases Nat.lt_or_ge i k with h'|h'
      ·exact h'
      ·have:=nT j0 (cT eW qd h' (by omega))
       rw[rN]at this; cases this
     have kY:gg ms i L:=⟨hno,nT,λj hj=>by
      cases hL:L j with
      |false=>rfl
      |true=>
       cases rT:l[j]? with
       |none=>
        have h1:=fJ.1
        rw[List.getD_eq_getElem?_getD,List.getElem?_eq_none (by have:=List.getElem?_eq_none_iff.1 rT; omega)]at hj
        simp at hj
       |some oj=>
        have:=fJ.2 L hc j oj rT (λm hm=>hc j oj rT hL m hm) i hj
        rw[hno]at this
        cases this⟩
     have hop:=hs.get (j:=i) (o:=o) (by rw[List.getElem?_take,if_pos rQ]; exact hi)
     rw[Nat.zero_add]at hop
     refine(hop L a w hI kY (jE hwf hi rQ)).mS A7 uq λa' w' h'=>⟨a',rfl,(show J (upd L i) a' w' from⟨qQ,?_⟩)⟩
     by_cases hfull:∀j,j<k->upd L i j=true
     ·refine .inr ⟨hfull,0,Nat.zero_le _,λq hq mF=>?_,hK a' w' ?_⟩
      ·have xm:L q=false:=by
        cases xm:L q with
        |false=>rfl
        |true=>
         cases hoq:l[q]? with
         |none=>rw[List.getElem?_eq_none_iff]at hoq; omega
         |some oq=>
          have:=fJ.2 L hc q oq hoq (λm hm=>hc q oq hoq xm m hm) j0 (cT eW mF hq (by omega))
          rw[rN]at this; cases this
       have:upd L i q=L q:=by unfold upd; rw[if_neg (by omega)]
       rw[this,xm]
       constructor
       ·intro h; cases h
       ·intro h; omega
      ·obtain⟨β,hI'⟩:=h'
       refine⟨β,hI'.congr (cY hwf) λj hj=>?_⟩
       rw[List.length_take]at hj
       exact hfull j (by omega)
     ·refine .inl ⟨?_,h'⟩
      rw[Classical.not_forall]at hfull
      obtain⟨j,hj⟩:=hfull
      rw[Classical.not_imp]at hj
      exact⟨j,hj.1,Bool.not_eq_true _▸hj.2⟩
    ·have oW:k<=i:=by
      rcases Nat.lt_or_ge i k with h'|h'
      ·rw[cg i h']at hno; cases hno
      ·exact h'
     have vH:i=k+m:=by
      have h1:¬i<k+m:=λh=>by rw[(tT i oW qd).2 h]at hno; cases hno
      rcases Nat.lt_or_ge (k+m) i with h2|h2
      ·have h3:=nT (k+m) (cT eW qd oW h2)
       have:=(tT (k+m) (by omega) (by omega)).1 h3
       omega
      ·omega
     have ho:(l.drop k)[m]?=some o:=by rw[List.getElem?_drop,<-vH]; exact hi
     have uv:=hst.get ho a w (by rw[Nat.zero_add]; exact xk)
     rw[Nat.zero_add]at uv
     refine uv.mS A7 uq λa' w' h'=>⟨a',rfl,(show J (upd L i) a' w' from⟨qQ,.inr ⟨λj hj=>?_,m+1,by omega,λq hq mF=>?_,h'⟩⟩)⟩
     ·unfold upd
      split
      ·rfl
      ·exact cg j hj
     ·unfold upd
      split
      ·rename_i e
       constructor
       ·intro _; omega
       ·intro _; rfl
      ·rename_i e
       rw[tT q hq mF]
       omega
 ·rintro L _ w ⟨a,rfl,_,hJ⟩ cg
  rcases hJ with⟨⟨j,hj,hL⟩,_⟩|⟨_,m,hmn,tT,xk⟩
  ·rw[cg j (by omega)]at hL; cases hL
  ·have hme:m=l.length-k:=by
    rcases Nat.lt_or_ge m (l.length-k)with h'|h'
    ·have:=(tT (k+m) (by omega) (by omega)).1 (cg (k+m) (by omega))
     omega
    ·omega
   subst hme
   exact⟨a,rfl,hq a w xk⟩
theorem pF {l:List Oper} {n:Nat}:∀(os:List Oper) (k m:Nat) (K:Nat->Act->World->Prop),eP P l.toArray K m os->(∀j o,os[j]?=some o->l[k+j]?=some o)->os.all bV=true->(∀a w,K (m+os.length) a w->Q .normal a w)->∀a w,K m a w ->
  wpOpsIn (rI ro) n P l.toArray (λe a' w'=>∃a0,a'=fo ds a0/\Q e a0 w') (List.range' k os.length) (fo ds a) w
 |[],k,m,K,_,_,_,hq,a,w,h=>⟨a,rfl,hq a w h⟩
 |o::os,k,m,K,hs,hl,hd,hq,a,w,h=>by
  rw[List.length_cons,List.range'_succ,wpOpsIn_cons]
  rw[List.all_cons,Bool.and_eq_true]at hd
  refine(hs.1 a w h).mS (by have:=hl 0 o rfl; simpa using this) hd.1 λa' w' h'=>pF os (k+1) (m+1) K hs.2 (λj o ho=>by rw[show k+1+j=k+(j+1) by omega]; exact hl (j+1) o ho) hd.2 (λa w hk=>hq a w ?_) a' w' h'
  rw[List.length_cons,show m+(os.length+1)=m+1+os.length by omega]
  exact hk
variable {V1 V2:List Vr} {G1 G2:List aD} {K':Act->World->Prop}
theorem C7 (h:Inv c V [] G none_ a w) (ms:List Nat) (k:Nat) (nv:List Vr) (A1:List Al) (ne:List aD) (hV:kJ nv V V1) (hG:fF ne G G1) (hs:jS P l.toArray ms c V1 A1 G1 0 (l.take k)) (kV:cx V1 V2) (kG:ah G1 G2) (hst:eO P l.toArray (Inv c V2 [] G2 none_) (l.drop k) K') (hq:∀a w,K' a w->Q .normal a w)
  (hn:fe nv A1 ne=true:=by kernel_rfl) (hb:jw P c.N l ms k V1 A1 G1=true:=by kernel_rfl) (hd:l.all bV=true:=by kernel_rfl):(Code.region id l.toArray true).ww ro ds P Q a w:=by
 unfold jw at hb
 simp only[Bool.and_eq_true,beq_iff_eq]at hb
 obtain⟨xu,hm,hok,mD,eW,hkn,hwf⟩:=hb
 obtain⟨F,e0,e1,hF⟩:=hst.steps
 refine tI ms k (of_decide_eq_true xu) hm hok mD eW hd hkn hwf (cS h hV hG hn) hs F (λa w hI=>by rw[e0]; exact dG hwf kV kG hI) hF λa w hI=>hq a w ?_
 rw[<-e1,List.length_drop]
 exact hI
theorem Es (h:Inv c V [] G none_ a w) (n k:Nat) (nv:List Vr) (A1:List Al) (ne:List aD) (hV:kJ nv V V1) (hG:fF ne G G1) (hs:jS P l.toArray (tm n 0) c V1 A1 G1 0 (l.take k)) (kV:cx V1 V2) (kG:ah G1 G2) (hst:eO P l.toArray (Inv c V2 [] G2 none_) (l.drop k) K') (hq:∀a w,K' a w->Q .normal a w)
  (hn:fe nv A1 ne=true:=by kernel_rfl) (hb:jx c.N l (tm n 0) k V1 A1 G1=true:=by kernel_rfl) (hd:l.all bV=true:=by kernel_rfl):(Code.region id l.toArray false).ww ro ds P Q a w:=by
 unfold jx at hb
 simp only[Bool.and_eq_true,beq_iff_eq]at hb
 obtain⟨mD,hkn,hwf⟩:=hb
 obtain⟨F,e0,e1,hF⟩:=hst.steps
 have hkn:=of_decide_eq_true hkn
 refine kF k hkn hwf (List.all_eq_true.2 λo ho=>List.all_eq_true.1 hd o (List.mem_of_mem_take ho)) (cS h hV hG hn) (by rw[mD]; exact hs) λa w hI n=>?_
 have:=pF (ro:=ro) (ds:=ds) (Q:=Q) (n:=n) (l:=l) (l.drop k) k 0 F hF (λj o ho=>by rw[List.getElem?_drop]at ho; exact ho) (List.all_eq_true.2 λo ho=>List.all_eq_true.1 hd o (List.mem_of_mem_drop ho)) (λa w hI=>hq a w (by rw[Nat.zero_add,e1]at hI; exact hI)) a w (by rw[e0]; exact dG hwf kV kG hI)
 rw[List.length_drop]at this
 exact this
variable {y:Code}
theorem Cz (h:Inv c V [] G none_ a w) (ms:List Nat) (k:Nat) (nv:List Vr) (A1:List Al) (ne:List aD) (hV:kJ nv V V1) (hG:fF ne G G1) (hs:jS P l.toArray ms c V1 A1 G1 0 (l.take k)) (kV:cx V1 V2) (kG:ah G1 G2) (hst:eO P l.toArray (Inv c V2 [] G2 none_) (l.drop k) K') (hq:∀a w,K' a w->y.ww ro ds P Q a w)
  (hn:fe nv A1 ne=true:=by kernel_rfl) (hb:jw P c.N l ms k V1 A1 G1=true:=by kernel_rfl) (hd:l.all bV=true:=by kernel_rfl):(Code.seq (Code.region id l.toArray true) y).ww ro ds P Q a w:=aq (C7 h ms k nv A1 ne hV hG hs kV kG hst hq hn hb hd)
theorem lM (h:Inv c V [] G none_ a w) (n k:Nat) (nv:List Vr) (A1:List Al) (ne:List aD) (hV:kJ nv V V1) (hG:fF ne G G1) (hs:jS P l.toArray (tm n 0) c V1 A1 G1 0 (l.take k)) (kV:cx V1 V2) (kG:ah G1 G2) (hst:eO P l.toArray (Inv c V2 [] G2 none_) (l.drop k) K') (hq:∀a w,K' a w->y.ww ro ds P Q a w)
  (hn:fe nv A1 ne=true:=by kernel_rfl) (hb:jx c.N l (tm n 0) k V1 A1 G1=true:=by kernel_rfl) (hd:l.all bV=true:=by kernel_rfl):(Code.seq (Code.region id l.toArray false) y).ww ro ds P Q a w:=aq (Es h n k nv A1 ne hV hG hs kV kG hst hq hn hb hd)
theorem pP {fn:Func} {f:FuncId} {C:Code} {vs:List Value} {N s:Nat} {M:Nat->Nat->Prop} {B:Nat->Prop} {H:List Bk} {R:Ending->World->Prop} (hf:P.funcs[f]?=some fn) (hb:fn.body=some C) (hN:fn.ntmps=N) (hlen:decide (vs.length<=N)=true)
  (hM:cQ M w) (ik:∀k,B k->∀o,¬M k o) (hH:bE B w H) (hG:dz (plus M B) w vs G)
  (h:∀a,Inv ⟨N,w,M,B⟩ [aM id s H] [] G none_ a w->C.ww none [] P (bodyPost P fn R) a w):Calls P f vs.toArray w R:=
 calls_of_wp hf hb ((wpIn_wide (n:=0)).1 (wpIn_mono (h _ (jd hM ik hH (by have:=of_decide_eq_true hlen; simp[hN]; omega) rfl hG.ok) 0) λe a' w' ⟨a0,e0,h0⟩=>by subst e0; exact h0))
end
end Wx

namespace Wx
open Go Go.RowKit
set_option linter.unusedVariables false
section
variable {α:Type} {sz:Nat} {F:α->Pred} {d0:α} {l:List α}
def vC (sz:Nat) (F:α->Pred) (x:α):Fd:=⟨true,sz,F x⟩
def pG (sz:Nat) (F:α->Pred) (l:List α):Pred:=pS (l.map (vC sz F))
theorem rK:∀{l:List α} {w:World} {cs:List Value},av (l.map (vC sz F)) w cs->cs.length=l.length*sz
 |[],_,_,h=>by rw[show _=[]from h,List.length_nil,List.length_nil,Nat.zero_mul]
 |_::l,_,cs,⟨h1,_,h3⟩=>by
  have:=rK h3
  have h1:sz<=cs.length:=h1
  have:cs.length-sz=l.length*sz:=by rw[<-List.length_drop]; exact this
  rw[List.length_cons,Nat.succ_mul]; omega
theorem oU:∀{l:List α} {w:World} {cs:List Value} (q:Nat),av (l.map (vC sz F)) w cs->av ((l.drop q).map (vC sz F)) w (cs.drop (q*sz))
 |l,_,_,0,h=>by rw[Nat.zero_mul,List.drop_zero,List.drop_zero]; exact h
 |[],_,_,_+1,h=>by rw[show _=[]from h,List.drop_nil,List.drop_nil]; rfl
 |_::_,_,_,q+1,⟨_,_,h3⟩=>by
  have:=oU q h3
  rw[List.drop_drop,show(vC sz F _).n+q*sz=(q+1)*sz from(show sz+q*sz=(q+1)*sz by rw[Nat.succ_mul,Nat.add_comm])]at this
  exact this
theorem oV:∀{l:List α} {w:World} {cs:List Value} (q:Nat),av (l.map (vC sz F)) w cs->av ((l.take q).map (vC sz F)) w (cs.take (q*sz))
 |l,_,_,0,_=>by rw[Nat.zero_mul,List.take_zero,List.take_zero]; rfl
 |[],_,_,_+1,h=>by rw[show _=[]from h,List.take_nil,List.take_nil]; rfl
 |_::_,w,cs,q+1,⟨h1,h2,h3⟩=>by
  have h1:sz<=cs.length:=h1
  have hq:(q+1)*sz=q*sz+sz:=Nat.succ_mul q sz
  refine⟨?_,?_,?_⟩
  ·show sz<=(cs.take ((q+1)*sz)).length; rw[List.length_take]; omega
  ·show F _ w (ae true ((cs.take ((q+1)*sz)).take sz)); rw[List.take_take,Nat.min_eq_left (by omega)]; exact h2
  ·show av _ w ((cs.take ((q+1)*sz)).drop sz); rw[List.drop_take,show(q+1)*sz-sz=q*sz by omega]; exact oV q h3
theorem xh {x:α} {w:World} {ds:List Value} (hl:ds.length=sz):av ([x].map (vC sz F)) w ds↔F x w (ae true ds):=by
 refine⟨λ⟨_,h2,_⟩=>?_,λh=>⟨by show sz<=_; omega,?_,List.drop_eq_nil_iff.2 (by show _<=sz; omega)⟩⟩
 ·have h2:F x w (ae true (ds.take sz)):=h2
  rwa [List.take_of_length_le (by omega)]at h2
 ·show F x w (ae true (ds.take sz))
  rwa [List.take_of_length_le (by omega)]
theorem BI {q:Nat} (h:q<l.length):(l.drop q).take 1=[l.getD q d0]:=by
 rw[List.drop_eq_getElem_cons h,List.take_succ_cons,List.take_zero,List.getD_eq_getElem?_getD,List.getElem?_eq_getElem h]; rfl
variable {off:Nat}
theorem sZ (q m:Nat) (ho:off=q*sz):∀w cs,pG sz F l w (ae true cs)->pG sz F ((l.drop q).take m) w (ae true ((cs.drop off).take (m*sz))):=by
 rintro w cs ⟨ds,e,h⟩
 have:=bO (show ae true cs=ae true ds from e)
 subst this ho
 exact⟨_,rfl,oV m (oU q h)⟩
theorem sY (q:Nat) (ho:off=q*sz) (hq:q<l.length):∀w cs,pG sz F l w (ae true cs)->F (l.getD q d0) w (ae true ((cs.drop off).take sz)):=by
 intro w cs h
 obtain⟨ds,e,h⟩:=sZ q 1 ho w cs h
 rw[BI hq]at h
 have e:=bO (show ae true _=ae true ds from e)
 have hl:=rK h
 rw[Nat.one_mul]at e
 rw[e]
 exact(xh (by rw[hl,List.length_singleton,Nat.one_mul])).1 h
end
section
variable {P:Program} {ops:Array Oper} {ms:List Nat} {c:bD} {V:List Vr} {A:List Al} {G:List aD} {i:Nat}{d:Nat} {x y:Operand} {ty:TypeId} {pos:String} {aj:Array Edge} {α:Type} {F:α->Pred} {l:List α}{sz N:Nat}
theorem hW {S f:Nat} (q m:Nat) (h:Has ms G i x (cH N true (pG sz F l)):=by exact hs) (hle:q*sz+m*sz<=N:=by decide) (hp:Post G i (cH (m*sz) true (pG sz F ((l.drop q).take m))):=by exact pt rfl) (hf:∀b o w,(Instr.fieldAt S (.pointer (some ⟨b,o,none⟩)) f).run P w=.ok (.pointer (some ⟨b,o+q*sz,none⟩)) w:=by exactλ_ _ _=>by kernel_rfl)
  (hA:(A.all λq=>q.tag != some i)=true:=by kernel_rfl):OpOk P ops ms c V A G i ⟨some d,.fieldAddr S x f,ty,pos,aj,none⟩:=
 bu rfl rfl rfl (.inr hA) hp λL β a w hI hd=>by
  have hr:=h.spec hI hd
  obtain⟨b,o,cs,e,_⟩:=hr.out
  refine⟨.pointer (some ⟨b,o+q*sz,none⟩),w,?_,Below.refl _ _,λw' he=>ni he hr e (λw cs hl=>sZ q m rfl w cs) hle⟩
  show(do pure (Next.value (<-Instr.fieldAt S (a.eval x) f))).run P w=_
  rw[e,Sem.run_bind,hf]
  rfl
variable {o:Nat}
theorem vE {l:List α} {n q:Nat} {d0:α} (hq:q<n):((l.drop o).take n).getD q d0=l.getD (o+q) d0:=by
 rw[List.getD_eq_getElem?_getD,List.getD_eq_getElem?_getD,List.getElem?_take,if_pos hq,List.getElem?_drop]
variable {T:TypeId}
theorem hI' (n q:Nat) (d0:α) (h:Has ms G i x (cH N true (pG sz F ((l.drop o).take n))):=by exact hs) (hy:Has ms G i y (pI (q:Int)):=by exact(Wx.hs).imp (fh (by omega))) (hq:q<n:=by omega) (hl:o+n<=l.length:=by omega) (hp:Post G i (cH sz true (F (l.getD (o+q) d0))):=by exact pt rfl) (hsz:N=n*sz:=by exact rfl) (ht:wP P T n sz=true:=by kernel_rfl) (hA:(A.all λq=>q.tag != some i)=true:=by kernel_rfl):
  OpOk P ops ms c V A G i ⟨some d,.indexAddr T x y,ty,pos,aj,none⟩:=
 bu rfl rfl rfl (.inr hA) hp λL β a w hI hd=>by
  have hr:=h.spec hI hd
  have h2:a.eval y=.int .i64 (q:Int):=(hy.spec hI hd).out
  obtain⟨b,o',cs,e,_⟩:=hr.out
  have h1:=Nat.mul_le_mul_right sz (Nat.succ_le_of_lt hq)
  rw[Nat.succ_mul]at h1
  refine⟨.pointer (some ⟨b,o'+q*sz,none⟩),w,?_,Below.refl _ _,λw' he=>ni he hr e (λw cs hl2 hh=>?_) (by omega)⟩
  ·show(do pure (Next.value (<-Instr.indexAt T (a.eval x) (a.eval y)))).run P w=_
   rw[e,h2,Sem.run_bind]
   have:=gT ht (b:=b) (off:=o') (m:=(q:Int)) (by omega) (by omega) w
   rw[Int.toNat_natCast]at this
   rw[this]
   rfl
  ·have:=sY (d0:=d0) q rfl (by rw[List.length_take,List.length_drop]; omega) w cs hh
   rwa [vE hq]at this
theorem hS (n:Nat) (d0:α) (h:Has ms G i x (cH N true (pG sz F ((l.drop o).take n))):=by exact hs) (hl:o+n<=l.length:=by omega) (hp:Post G i (aK sz true n λk=>F (l.getD (o+k) d0)):=by exact pt rfl) (hN:N=n*sz:=by exact rfl) (hm:n<=1000000:=by decide) (ht:wP P T n sz=true:=by kernel_rfl):OpOk P ops ms c V A G i ⟨some d,.slice T x none none none,ty,pos,aj,none⟩:=
 dw rfl rfl rfl rfl h hp λρ w h1=>by
  obtain⟨b,o',cs,e,nG,hc,hv⟩:=h1
  refine⟨.slice (some ⟨b,o',none⟩) n n,?_,?_⟩
  ·show(do pure (Next.value (<-Instr.sliceAt T (ρ x) none none none))).run P w=_
   rw[e,Sem.run_bind,lI ht]
   rfl
  ·rintro w' ⟨b',o'',cs',e',hl',hc',hv'⟩
   rw[e]at e'
   cases e'
   refine⟨_,n,rfl,Nat.le_refl _,by unfold maxLen; omega,λ_=>⟨b,o',rfl,λk hk=>⟨(cs'.drop (k*sz)).take sz,?_,λq u hq=>?_,?_⟩⟩⟩
   ·have h1:=Nat.mul_le_mul_right sz (Nat.succ_le_of_lt hk)
    rw[Nat.succ_mul]at h1
    rw[List.length_take,List.length_drop,hl']; omega
   ·rw[List.getElem?_take]at hq
    split at hq
    ·rw[List.getElem?_drop]at hq
     have:=hc' _ _ hq
     rwa [Nat.add_assoc]
    ·cases hq
   ·have:=sY (d0:=d0) k rfl (by rw[List.length_take,List.length_drop]; omega) w' cs' hv'
    rwa [vE hk]at this
theorem aY {ops:Array Oper} {o:Oper} {V V1 V2:List Vr} {G G1 G2:List aD} (nv:List Vr) (A1:List Al) (ne:List aD) (hV:kJ nv V V1) (hG:fF ne G G1) (hs:OpOk P #[o] [0] c V1 A1 G1 0 o) (kV:cx V1 V2) (kG:ah G1 G2) (hn:fe nv A1 ne=true:=by kernel_rfl) (hwf:kE c.N [o] V1 A1 G1=true:=by kernel_rfl) (hg:o.guard=none:=by exact rfl):∀a w,Inv c V [] G none_ a w->aQ P ops o a w (Inv c V2 [] G2 none_):=λa w h=>by
 refine .of hg ?_
 have:=hs none_ a w (cS h hV hG hn) fV (lP hwf rfl)
 unfold aQ at this
 rw[if_pos (by simp[Region.wanted,hg])]at this
 refine this.mono λa' w' h'=>?_
 obtain⟨β,h'⟩:=h'
 exact dG hwf kV kG ⟨β,h'.congr (cY hwf) λj hj=>by
  have:j=0:=by simpa using hj
  subst this
  rfl⟩
end
end Wx
