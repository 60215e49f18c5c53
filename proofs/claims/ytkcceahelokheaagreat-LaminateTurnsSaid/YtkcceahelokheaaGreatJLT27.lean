import Derived.Test.YtkcceahelokheaaGreatJLT26
import Derived.Test.YtkcceahelokheaaGreatJLT24
namespace Wx
open Go Go.RowKit
section
variable {ro:Option Nat} {ds:List Deferred} {P:Program} {Q:Exit->Act->World->Prop} {c:fT} {V:List Vr} {A:List Al} {G:List bz} {a:Act} {w:World}{id:Nat} {l:List Oper}
theorem QM (ms:List Nat) (k:Nat) (yj:0<k) (hm:P.follows .mixedOrders=true) (hok:iP l.toArray=true) (tn:uI l=ms) (qN:Fp ms k l.length=true) (TP:l.all iC=true) (hkn:decide (k<=l.length)=true) (hwf:tU c.N (l.take k) V A G=true)
  (h0:Inv c V A G none_ a w) (hs:nj P l.toArray ms c V A G 0 (l.take k)) (K:Nat->Act->World->Prop) (hK:∀a w,Inv c V A G (λ_=>true) a w->K 0 a w) (hst:mm P l.toArray K 0 (l.drop k)) (hq:∀a w,K (l.length-k) a w->Q .normal a w):
  (Code.region id l.toArray true).ww ro ds P Q a w:=by
 intro n
 have hkn:=of_decide_eq_true hkn
 have n5:=uJ l
 rw[tn]at n5
 let J:(Nat->Bool)->Act->World->Prop:=λL a w=>kK l L/\(((∃j,j<k/\L j=false)/\Inv c V A G L a w)\/((∀j,j<k->L j=true)/\∃m,m<=l.length-k/\(∀i,k<=i->i<l.length->(L i=true↔i<k+m))/\K m a w))
 refine xz hm hok (λL a' w=>∃a,a'=qB ds a/\J L a w) ⟨a,rfl,λi o _ h=>(by cases h),.inl ⟨⟨0,yj,rfl⟩,?_⟩⟩ ?_ ?_
 ·obtain⟨β,hβ⟩:=h0
  exact⟨β,hβ.draws⟩
 ·rintro i o hi L _ w ⟨a,rfl,hc,hJ⟩ hno hpre
  ··have nZ:i<l.length:=by
     rcases Nat.lt_or_ge i l.length with h'|h'
     ·exact h'
     ·rw[List.getElem?_eq_none h']at hi; cases hi
    have hia:l.toArray[i]?=some o:=by simpa using hi
    have Y3:iC o=true:=List.all_eq_true.1 TP o (List.mem_of_getElem? hi)
    have Ia:∀j,(ms.getD i 0).testBit j=true->L j=true:=λj hj=>n5.2 L hc i o hi hpre j hj
    have qo:kK l (upd L i):=by
     intro k' ok mA hL j hj
     by_cases BS:k'=i
     ·subst BS
      rw[hi]at mA
      injection mA with mA
      subst mA
      have:=hpre j hj
      unfold upd
      split
      ·rfl
      ·exact this
     ·have:=hc k' ok mA (D9 hL BS) j hj
      unfold upd
      split
      ·rfl
      ·exact this
    rcases hJ with⟨⟨j0,Ff,OM⟩,hI⟩|⟨eG,m,hmn,OO,U8⟩
    ·have Ke:i<k:=by
      rcases Nat.lt_or_ge i k with h'|h'
      ·exact h'
      ·have:=Ia j0 (kq qN nZ h' (by omega))
       rw[OM]at this; cases this
     have tj:qc ms i L:=⟨hno,Ia,λj hj=>by
      cases hL:L j with
      |false=>rfl
      |true=>
       cases Ie:l[j]? with
       |none=>
        have h1:=n5.1
        rw[List.getD_eq_getElem?_getD,List.getElem?_eq_none (by have:=List.getElem?_eq_none_iff.1 Ie; omega)]at hj
        simp at hj
       |some oj=>
        have:=n5.2 L hc j oj Ie (λm hm=>hc j oj Ie hL m hm) i hj
        rw[hno]at this
        cases this⟩
     have hop:=hs.get (j:=i) (o:=o) (by rw[List.getElem?_take,if_pos Ke]; exact hi)
     rw[Nat.zero_add]at hop
     refine(hop L a w hI tj (vE hwf hi Ke)).IM hia Y3 λa' w' h'=>⟨a',rfl,(show J (upd L i) a' w' from⟨qo,?_⟩)⟩
     by_cases hfull:∀j,j<k->upd L i j=true
     ·refine .inr ⟨hfull,0,Nat.zero_le _,λq hq GB=>?_,hK a' w' ?_⟩
      ·have U9:L q=false:=by
        cases U9:L q with
        |false=>rfl
        |true=>
         cases hoq:l[q]? with
         |none=>rw[List.getElem?_eq_none_iff]at hoq; omega
         |some oq=>
          have:=n5.2 L hc q oq hoq (λm hm=>hc q oq hoq U9 m hm) j0 (kq qN GB hq (by omega))
          rw[OM]at this; cases this
       have:upd L i q=L q:=by unfold upd; rw[if_neg (by omega)]
       rw[this,U9]
       constructor
       ·intro h; cases h
       ·intro h; omega
      ·obtain⟨β,hI'⟩:=h'
       refine⟨β,hI'.congr (fu hwf) λj hj=>?_⟩
       rw[List.length_take]at hj
       exact hfull j (by omega)
     ·refine .inl ⟨?_,h'⟩
      rw[Classical.not_forall]at hfull
      obtain⟨j,hj⟩:=hfull
      rw[Classical.not_imp]at hj
      exact⟨j,hj.1,Bool.not_eq_true _▸hj.2⟩
    ·have BS:k<=i:=by
      rcases Nat.lt_or_ge i k with h'|h'
      ·rw[eG i h']at hno; cases hno
      ·exact h'
     have BQ:i=k+m:=by
      have h1:¬i<k+m:=λh=>by rw[(OO i BS nZ).2 h]at hno; cases hno
      rcases Nat.lt_or_ge (k+m) i with h2|h2
      ·have h3:=Ia (k+m) (kq qN nZ BS h2)
       have:=(OO (k+m) (by omega) (by omega)).1 h3
       omega
      ·omega
     have ho:(l.drop k)[m]?=some o:=by rw[List.getElem?_drop,<-BQ]; exact hi
     have Dm:=hst.get ho a w (by rw[Nat.zero_add]; exact U8)
     rw[Nat.zero_add]at Dm
     refine Dm.IM hia Y3 λa' w' h'=>⟨a',rfl,(show J (upd L i) a' w' from⟨qo,.inr ⟨λj hj=>?_,m+1,by omega,λq hq GB=>?_,h'⟩⟩)⟩
     ·unfold upd
      split
      ·rfl
      ·exact eG j hj
     ·unfold upd
      split
      ·rename_i e
       constructor
       ·intro _; omega
       ·intro _; rfl
      ·rename_i e
       rw[OO q hq GB]
       omega
 ·rintro L _ w ⟨a,rfl,_,hJ⟩ eG
  rcases hJ with⟨⟨j,hj,hL⟩,_⟩|⟨_,m,hmn,OO,U8⟩
  ·rw[eG j (by omega)]at hL; cases hL
  ·have hme:m=l.length-k:=by
    rcases Nat.lt_or_ge m (l.length-k)with h'|h'
    ·have:=(OO (k+m) (by omega) (by omega)).1 (eG (k+m) (by omega))
     omega
    ·omega
   subst hme
   exact⟨a,rfl,hq a w U8⟩
theorem K6 {l:List Oper} {n:Nat}:∀(os:List Oper) (k m:Nat) (K:Nat->Act->World->Prop),mm P l.toArray K m os->(∀j o,os[j]?=some o->l[k+j]?=some o)->os.all iC=true->(∀a w,K (m+os.length) a w->Q .normal a w)->∀a w,K m a w ->
  wpOpsIn (Ka ro) n P l.toArray (λe a' w'=>∃a0,a'=qB ds a0/\Q e a0 w') (List.range' k os.length) (qB ds a) w
 |[],k,m,K,_,_,_,hq,a,w,h=>⟨a,rfl,hq a w h⟩
 |o::os,k,m,K,hs,hl,hd,hq,a,w,h=>by
  rw[List.length_cons,List.range'_succ,wpOpsIn_cons]
  rw[List.all_cons,Bool.and_eq_true]at hd
  refine(hs.1 a w h).IM (by have:=hl 0 o rfl; simpa using this) hd.1 λa' w' h'=>K6 os (k+1) (m+1) K hs.2 (λj o ho=>by rw[show k+1+j=k+(j+1) by omega]; exact hl (j+1) o ho) hd.2 (λa w hk=>hq a w ?_) a' w' h'
  rw[List.length_cons,show m+(os.length+1)=m+1+os.length by omega]
  exact hk
variable {V1 V2:List Vr} {G1 G2:List bz} {K':Act->World->Prop}
theorem Xq (h:Inv c V [] G none_ a w) (ms:List Nat) (k:Nat) (nv:List Vr) (A1:List Al) (ne:List bz) (hV:tQ nv V V1) (hG:l6 ne G G1) (hs:nj P l.toArray ms c V1 A1 G1 0 (l.take k)) (kV:dV V1 V2) (kG:aF G1 G2) (hst:js P l.toArray (Inv c V2 [] G2 none_) (l.drop k) K') (hq:∀a w,K' a w->Q .normal a w)
  (hn:iq nv A1 ne=true:=by kernel_rfl) (hb:Aa P c.N l ms k V1 A1 G1=true:=by kernel_rfl) (hd:l.all iC=true:=by kernel_rfl):(Code.region id l.toArray true).ww ro ds P Q a w:=by
 unfold Aa at hb
 simp only[Bool.and_eq_true,beq_iff_eq]at hb
 obtain⟨yj,hm,hok,tn,qN,hkn,hwf⟩:=hb
 obtain⟨F,e0,e1,hF⟩:=hst.steps
 refine QM ms k (of_decide_eq_true yj) hm hok tn qN hd hkn hwf (gl h hV hG hn) hs F (λa w hI=>by rw[e0]; exact iy hwf kV kG hI) hF λa w hI=>hq a w ?_
 rw[<-e1,List.length_drop]
 exact hI
theorem wST (h:Inv c V [] G none_ a w) (n k:Nat) (nv:List Vr) (A1:List Al) (ne:List bz) (hV:tQ nv V V1) (hG:l6 ne G G1) (hs:nj P l.toArray (tm n 0) c V1 A1 G1 0 (l.take k)) (kV:dV V1 V2) (kG:aF G1 G2) (hst:js P l.toArray (Inv c V2 [] G2 none_) (l.drop k) K') (hq:∀a w,K' a w->Q .normal a w)
  (hn:iq nv A1 ne=true:=by kernel_rfl) (hb:wP c.N l (tm n 0) k V1 A1 G1=true:=by kernel_rfl) (hd:l.all iC=true:=by kernel_rfl):(Code.region id l.toArray false).ww ro ds P Q a w:=by
 unfold wP at hb
 simp only[Bool.and_eq_true,beq_iff_eq]at hb
 obtain⟨tn,hkn,hwf⟩:=hb
 obtain⟨F,e0,e1,hF⟩:=hst.steps
 have hkn:=of_decide_eq_true hkn
 refine Cz k hkn hwf (List.all_eq_true.2 λo ho=>List.all_eq_true.1 hd o (List.mem_of_mem_take ho)) (gl h hV hG hn) (by rw[tn]; exact hs) λa w hI n=>?_
 have:=K6 (ro:=ro) (ds:=ds) (Q:=Q) (n:=n) (l:=l) (l.drop k) k 0 F hF (λj o ho=>by rw[List.getElem?_drop]at ho; exact ho) (List.all_eq_true.2 λo ho=>List.all_eq_true.1 hd o (List.mem_of_mem_drop ho)) (λa w hI=>hq a w (by rw[Nat.zero_add,e1]at hI; exact hI)) a w (by rw[e0]; exact iy hwf kV kG hI)
 rw[List.length_drop]at this
 exact this
variable {y:Code}
theorem adN (h:Inv c V [] G none_ a w) (ms:List Nat) (k:Nat) (nv:List Vr) (A1:List Al) (ne:List bz) (hV:tQ nv V V1) (hG:l6 ne G G1) (hs:nj P l.toArray ms c V1 A1 G1 0 (l.take k)) (kV:dV V1 V2) (kG:aF G1 G2) (hst:js P l.toArray (Inv c V2 [] G2 none_) (l.drop k) K') (hq:∀a w,K' a w->y.ww ro ds P Q a w)
  (hn:iq nv A1 ne=true:=by kernel_rfl) (hb:Aa P c.N l ms k V1 A1 G1=true:=by kernel_rfl) (hd:l.all iC=true:=by kernel_rfl):(Code.seq (Code.region id l.toArray true) y).ww ro ds P Q a w:=az (Xq h ms k nv A1 ne hV hG hs kV kG hst hq hn hb hd)
theorem adO (h:Inv c V [] G none_ a w) (n k:Nat) (nv:List Vr) (A1:List Al) (ne:List bz) (hV:tQ nv V V1) (hG:l6 ne G G1) (hs:nj P l.toArray (tm n 0) c V1 A1 G1 0 (l.take k)) (kV:dV V1 V2) (kG:aF G1 G2) (hst:js P l.toArray (Inv c V2 [] G2 none_) (l.drop k) K') (hq:∀a w,K' a w->y.ww ro ds P Q a w)
  (hn:iq nv A1 ne=true:=by kernel_rfl) (hb:wP c.N l (tm n 0) k V1 A1 G1=true:=by kernel_rfl) (hd:l.all iC=true:=by kernel_rfl):(Code.seq (Code.region id l.toArray false) y).ww ro ds P Q a w:=az (wST h n k nv A1 ne hV hG hs kV kG hst hq hn hb hd)
end
end Wx

namespace Wx
open Go Go.RowKit
set_option linter.unusedVariables false
section
variable {α:Type} {sz:Nat} {F:α->Pred} {d0:α} {l:List α}
def LF (sz:Nat) (F:α->Pred) (x:α):Fd:=⟨true,sz,F x⟩
def pG (sz:Nat) (F:α->Pred) (l:List α):Pred:=pS (l.map (LF sz F))
theorem OC:∀{l:List α} {w:World} {cs:List Value},aM (l.map (LF sz F)) w cs->cs.length=l.length*sz
 |[],_,_,h=>by rw[show _=[]from h,List.length_nil,List.length_nil,Nat.zero_mul]
 |_::l,_,cs,⟨h1,_,h3⟩=>by
  have:=OC h3
  have h1:sz<=cs.length:=h1
  have:cs.length-sz=l.length*sz:=by rw[<-List.length_drop]; exact this
  rw[List.length_cons,Nat.succ_mul]; omega
theorem Dc:∀{l:List α} {w:World} {cs:List Value} (q:Nat),aM (l.map (LF sz F)) w cs->aM ((l.drop q).map (LF sz F)) w (cs.drop (q*sz))
 |l,_,_,0,h=>by rw[Nat.zero_mul,List.drop_zero,List.drop_zero]; exact h
 |[],_,_,_+1,h=>by rw[show _=[]from h,List.drop_nil,List.drop_nil]; rfl
 |_::_,_,_,q+1,⟨_,_,h3⟩=>by
  have:=Dc q h3
  rw[List.drop_drop,show(LF sz F _).n+q*sz=(q+1)*sz from(show sz+q*sz=(q+1)*sz by rw[Nat.succ_mul,Nat.add_comm])]at this
  exact this
theorem Dd:∀{l:List α} {w:World} {cs:List Value} (q:Nat),aM (l.map (LF sz F)) w cs->aM ((l.take q).map (LF sz F)) w (cs.take (q*sz))
 |l,_,_,0,_=>by rw[Nat.zero_mul,List.take_zero,List.take_zero]; rfl
 |[],_,_,_+1,h=>by rw[show _=[]from h,List.take_nil,List.take_nil]; rfl
 |_::_,w,cs,q+1,⟨h1,h2,h3⟩=>by
  have h1:sz<=cs.length:=h1
  have hq:(q+1)*sz=q*sz+sz:=Nat.succ_mul q sz
  refine⟨?_,?_,?_⟩
  ·show sz<=(cs.take ((q+1)*sz)).length; rw[List.length_take]; omega
  ·show F _ w (aj true ((cs.take ((q+1)*sz)).take sz)); rw[List.take_take,Nat.min_eq_left (by omega)]; exact h2
  ·show aM _ w ((cs.take ((q+1)*sz)).drop sz); rw[List.drop_take,show(q+1)*sz-sz=q*sz by omega]; exact Dd q h3
theorem HO:∀{l m:List α} {w:World} {cs ds:List Value},aM (l.map (LF sz F)) w cs->aM (m.map (LF sz F)) w ds->aM ((l++m).map (LF sz F)) w (cs++ds)
 |[],_,_,_,_,h,h'=>by rw[show _=[]from h]; exact h'
 |_::_,_,w,cs,ds,⟨h1,h2,h3⟩,h'=>by
  have h1:sz<=cs.length:=h1
  refine⟨?_,?_,?_⟩
  ·show sz<=(cs++ds).length; rw[List.length_append]; omega
  ·show F _ w (aj true ((cs++ds).take sz)); rw[List.take_append_of_le_length h1]; exact h2
  ·show aM _ w ((cs++ds).drop sz); rw[List.drop_append_of_le_length h1]; exact HO h3 h'
variable {x:α}
theorem OD {w:World} {ds:List Value} (hl:ds.length=sz):aM ([x].map (LF sz F)) w ds↔F x w (aj true ds):=by
 refine⟨λ⟨_,h2,_⟩=>?_,λh=>⟨by show sz<=_; omega,?_,List.drop_eq_nil_iff.2 (by show _<=sz; omega)⟩⟩
 ·have h2:F x w (aj true (ds.take sz)):=h2
  rwa [List.take_of_length_le (by omega)]at h2
 ·show F x w (aj true (ds.take sz))
  rwa [List.take_of_length_le (by omega)]
theorem abA {q:Nat} (h:q<l.length):(l.drop q).take 1=[l.getD q d0]:=by
 rw[List.drop_eq_getElem_cons h,List.take_succ_cons,List.take_zero,List.getD_eq_getElem?_getD,List.getElem?_eq_getElem h]; rfl
variable {off:Nat}
theorem P0 (q m:Nat) (ho:off=q*sz):∀w cs,pG sz F l w (aj true cs)->pG sz F ((l.drop q).take m) w (aj true ((cs.drop off).take (m*sz))):=by
 rintro w cs ⟨ds,e,h⟩
 have:=bG (show aj true cs=aj true ds from e)
 subst this ho
 exact⟨_,rfl,Dd m (Dc q h)⟩
theorem I0 (q:Nat) (ho:off=q*sz) (hq:q<l.length):∀w cs,pG sz F l w (aj true cs)->F (l.getD q d0) w (aj true ((cs.drop off).take sz)):=by
 intro w cs h
 obtain⟨ds,e,h⟩:=P0 q 1 ho w cs h
 rw[abA hq]at h
 have e:=bG (show aj true _=aj true ds from e)
 have hl:=OC h
 rw[Nat.one_mul]at e
 rw[e]
 exact(OD (by rw[hl,List.length_singleton,Nat.one_mul])).1 h
theorem V8 {p:Pred} (q:Nat) (ho:off=q*sz) (hq:q<l.length) (hp:∀w v,p w v->F x w v):∀w cs ds,ds.length=sz->pG sz F l w (aj true cs)->p w (aj true ds)->pG sz F (l.set q x) w (aj true (cs.take off++ds++cs.drop (off+sz))):=by
 rintro w cs ds hd ⟨es,e,h⟩ h'
 have:=bG (show aj true cs=aj true es from e)
 subst this ho
 refine⟨_,rfl,?_⟩
 rw[List.set_eq_take_append_cons_drop,if_pos hq,show l.take q++x::l.drop (q+1)=l.take q++[x]++l.drop (q+1) by simp,show q*sz+sz=(q+1)*sz from(Nat.succ_mul q sz).symm]
 exact HO (HO (Dd q h) ((OD hd).2 (hp w _ h'))) (Dc (q+1) h)
end
abbrev Gz (i s n sz:Nat) (T:TypeId):Vr:=⟨i,s,none,none,.grow n sz,T,3,true,pv cY,[]⟩
theorem vG {V:List Vr} {i s n m sz T:Nat} (hm:n=m:=by first|rfl|omega) (h:mU i V=some (Gz i s n sz T):=by exact rfl):∃r:Rel,mU (Gz i s m sz T).id V=some ⟨(Gz i s m sz T).id,(Gz i s m sz T).slot,none,none,(Gz i s m sz T).kd,(Gz i s m sz T).T,(Gz i s m sz T).n,(Gz i s m sz T).agg,r,[]⟩/\((Gz i s m sz T).born=none/\(Gz i s m sz T).dead=none/\(Gz i s m sz T).st=[])/\∀F w v,r F w v->(Gz i s m sz T).c0 F w v:=hm▸⟨_,h,⟨rfl,rfl,rfl⟩,λ_ _ _ h=>h⟩
section
variable {P:Program} {ops:Array Oper} {ms:List Nat} {c:fT} {V:List Vr} {A:List Al} {G:List bz} {i:Nat}{d:Nat} {x y:Operand} {ty:TypeId} {pos:String} {aft:Array Edge} {α:Type} {F:α->Pred} {l:List α}{S f sz N:Nat}
theorem hW (q m:Nat) (h:Has ms G i x (cZ N true (pG sz F l)):=by exact hs) (hle:q*sz+m*sz<=N:=by decide) (hp:Post G i (cZ (m*sz) true (pG sz F ((l.drop q).take m))):=by exact pt rfl) (hf:∀b o w,(Instr.fieldAt S (.pointer (some ⟨b,o,none⟩)) f).run P w=.ok (.pointer (some ⟨b,o+q*sz,none⟩)) w:=by exactλ_ _ _=>by kernel_rfl)
  (hA:(A.all λq=>q.tag != some i)=true:=by kernel_rfl):OpOk P ops ms c V A G i ⟨some d,.fieldAddr S x f,ty,pos,aft,none⟩:=
 cC rfl rfl rfl (.inr hA) hp λL β a w hI hd=>by
  have hr:=h.spec hI hd
  obtain⟨b,o,cs,e,_⟩:=hr.out
  refine⟨.pointer (some ⟨b,o+q*sz,none⟩),w,?_,Below.refl _ _,λw' he=>mN he hr e (λw cs hl=>P0 q m rfl w cs) hle⟩
  show(do pure (Next.value (<-Instr.fieldAt S (a.eval x) f))).run P w=_
  rw[e,Sem.run_bind,hf]
  rfl
theorem hQ (q:Nat) (d0:α) (h:Has ms G i x (cZ N true (pG sz F l)):=by exact hs) (hl:q<l.length:=by omega) (hle:q*sz+sz<=N:=by decide) (hp:Post G i (cZ sz true (F (l.getD q d0))):=by exact pt rfl) (hf:∀b o w,(Instr.fieldAt S (.pointer (some ⟨b,o,none⟩)) f).run P w=.ok (.pointer (some ⟨b,o+q*sz,none⟩)) w:=by exactλ_ _ _=>by kernel_rfl)
  (hA:(A.all λq=>q.tag != some i)=true:=by kernel_rfl):OpOk P ops ms c V A G i ⟨some d,.fieldAddr S x f,ty,pos,aft,none⟩:=
 cC rfl rfl rfl (.inr hA) hp λL β a w hI hd=>by
  have hr:=h.spec hI hd
  obtain⟨b,o,cs,e,_⟩:=hr.out
  refine⟨.pointer (some ⟨b,o+q*sz,none⟩),w,?_,Below.refl _ _,λw' he=>mN he hr e (λw cs hl2=>I0 q rfl hl w cs) hle⟩
  show(do pure (Next.value (<-Instr.fieldAt S (a.eval x) f))).run P w=_
  rw[e,Sem.run_bind,hf]
  rfl
variable {o n:Nat}
theorem OH {l:List α} {q:Nat} {d0:α} (hq:q<n):((l.drop o).take n).getD q d0=l.getD (o+q) d0:=by
 rw[List.getD_eq_getElem?_getD,List.getD_eq_getElem?_getD,List.getElem?_take,if_pos hq,List.getElem?_drop]
variable {T:TypeId}
theorem hI' (n q:Nat) (d0:α) (h:Has ms G i x (cZ N true (pG sz F ((l.drop o).take n))):=by exact hs) (hy:Has ms G i y (pI (q:Int)):=by exact(Wx.hs).imp (bk (by omega))) (hq:q<n:=by omega) (hl:o+n<=l.length:=by omega) (hp:Post G i (cZ sz true (F (l.getD (o+q) d0))):=by exact pt rfl) (hsz:N=n*sz:=by exact rfl) (ht:GN P T n sz=true:=by kernel_rfl) (hA:(A.all λq=>q.tag != some i)=true:=by kernel_rfl):
  OpOk P ops ms c V A G i ⟨some d,.indexAddr T x y,ty,pos,aft,none⟩:=
 cC rfl rfl rfl (.inr hA) hp λL β a w hI hd=>by
  have hr:=h.spec hI hd
  have h2:a.eval y=.int .i64 (q:Int):=(hy.spec hI hd).out
  obtain⟨b,o',cs,e,_⟩:=hr.out
  have h1:=Nat.mul_le_mul_right sz (Nat.succ_le_of_lt hq)
  rw[Nat.succ_mul]at h1
  refine⟨.pointer (some ⟨b,o'+q*sz,none⟩),w,?_,Below.refl _ _,λw' he=>mN he hr e (λw cs hl2 hh=>?_) (by omega)⟩
  ·show(do pure (Next.value (<-Instr.indexAt T (a.eval x) (a.eval y)))).run P w=_
   rw[e,h2,Sem.run_bind]
   have:=gY ht (b:=b) (off:=o') (m:=(q:Int)) (by omega) (by omega) w
   rw[Int.toNat_natCast]at this
   rw[this]
   rfl
  ·have:=I0 (d0:=d0) q rfl (by rw[List.length_take,List.length_drop]; omega) w cs hh
   rwa [OH hq]at this
theorem hS (n:Nat) (d0:α) (h:Has ms G i x (cZ N true (pG sz F ((l.drop o).take n))):=by exact hs) (hl:o+n<=l.length:=by omega) (hp:Post G i (aA sz true n λk=>F (l.getD (o+k) d0)):=by exact pt rfl) (hN:N=n*sz:=by exact rfl) (hm:n<=1000000:=by decide) (ht:GN P T n sz=true:=by kernel_rfl):OpOk P ops ms c V A G i ⟨some d,.slice T x none none none,ty,pos,aft,none⟩:=
 iO rfl rfl rfl rfl h hp λρ w h1=>by
  obtain⟨b,o',cs,e,AB,hc,hv⟩:=h1
  refine⟨.slice (some ⟨b,o',none⟩) n n,?_,?_⟩
  ·show(do pure (Next.value (<-Instr.sliceAt T (ρ x) none none none))).run P w=_
   rw[e,Sem.run_bind,u6 ht]
   rfl
  ·rintro w' ⟨b',o'',cs',e',hl',hc',hv'⟩
   rw[e]at e'
   cases e'
   refine⟨_,n,rfl,Nat.le_refl _,by unfold maxLen; omega,λ_=>⟨b,o',rfl,λk hk=>⟨(cs'.drop (k*sz)).take sz,?_,λq u hq=>?_,?_⟩⟩⟩
   ·have h1:=Nat.mul_le_mul_right sz (Nat.succ_le_of_lt hk)
    rw[Nat.succ_mul]at h1
    rw[List.length_take,List.length_drop,hl']; omega
   ·rw[List.getElem?_take]at hq
    split at hq
    ·rw[List.getElem?_drop]at hq
     have:=hc' _ _ hq
     rwa [Nat.add_assoc]
    ·cases hq
   ·have:=I0 (d0:=d0) k rfl (by rw[List.length_take,List.length_drop]; omega) w' cs' hv'
    rwa [OH hk]at this
variable {tx:TypeId} {yv:Vr} {e:Nat->α}
theorem apE (L:List α) (d0:α) (hF:∀x,Fits sz true (F x)) (he:∀k,k<n->e k=L.getD k d0:=by exactλ_ _=>rfl) (hv:AF i V=some yv:=by exact rfl) (h1:Has ms G i x wI:=by exact hs) (h2:Has ms G i y (aA sz true n λk=>F (e k)):=by exact hs) (hp:Post G i (aA sz true n λk=>F (L.getD k d0)):=by exact pt rfl) (cW:yv.kd=.grow n sz:=by exact rfl) (hn:0<n:=by decide) (hmax:n<=1073741824:=by decide)
  (ht:CP P T tx yv.T sz=true:=by kernel_rfl) (dX:(A.all λp=>p.var != yv.id||p.tag.any λj=>(ms.getD j 0).testBit i)=true:=by kernel_rfl):OpOk P ops ms c V A G i ⟨some d,.call ⟨.builtin .append,#[x,y],#[T,tx]⟩,ty,pos,aft,none⟩:=by
 obtain⟨⟨k,hk⟩,hb⟩:=eY hv
 exact tB k hk hb cW rfl dX h1 h2 (jt ht) (λh=>by cases h) (λ_ _=>hF _) hn hmax (hp.down (lj λk hk w v h=>by rw[<-he k hk]; exact h))
variable {m s:Nat} {xv:Vr}
theorem UF (L:List α) (d0:α) (hF:∀x,Fits sz true (F x)) (he:∀k,k<n->e k=L.getD (m+k) d0:=by exactλ_ _=>rfl) (hx:QH ms i s V=some xv:=by exact rfl) (hv:AF i V=some yv:=by exact rfl) (h1:Has ms G i (.tmp s) (aA sz true m λk=>F (L.getD k d0)):=by exact hs) (h2:Has ms G i y (aA sz true n λk=>F (e k)):=by exact hs) (hp:Post G i (aA sz true (m+n) λk=>F (L.getD k d0)):=by exact pt rfl) (bR:xv.kd=.grow m sz:=by exact rfl) (gb:xv.dead=some i:=by exact rfl) (cW:yv.kd=.grow (m+n) sz:=by exact rfl) (hT:xv.T=yv.T:=by exact rfl) (hmax:m+n<=1073741824:=by first|decide|omega)
  (ht:CP P T tx yv.T sz=true:=by kernel_rfl) (gg:(V.all λz=>z.dead != some i||z.id==xv.id)=true:=by kernel_rfl) (dX:(A.all λp=>p.var != yv.id||p.tag.any λj=>(ms.getD j 0).testBit i)=true:=by kernel_rfl):OpOk P ops ms c V A G i ⟨some d,.call ⟨.builtin .append,#[.tmp s,y],#[T,tx]⟩,ty,pos,aft,none⟩:=by
 obtain⟨⟨k,hk⟩,hb⟩:=eY hv
 obtain⟨⟨k1,ot⟩,qO,ho⟩:=nQ hx
 refine rR k1 ot qO ho bR gb k hk hb cW hT rfl gg dX h1 h2 (jt ht) (λh=>by cases h) (λ_ _=>hF _) (λ_ _=>hF _) hmax (hp.down (lj λk hk w v h=>?_))
 by_cases hkm:k<m
 ·rwa [if_pos hkm]at h
 ·rw[if_neg hkm,he (k-m) (by omega),show m+(k-m)=k by omega]at h
  exact h
variable {p:Pred}
theorem mvH (hx:QH ms i s V=some xv:=by exact rfl) (hv:AF i V=some yv:=by exact rfl) (h1:Has ms G i (.tmp s) p:=by exact hs) (hp:Post G i p:=by exact pt rfl) (bR:xv.kd=.grow m sz:=by exact rfl) (gb:xv.dead=some i:=by exact rfl) (cW:yv.kd=.grow m sz:=by exact rfl) (hT:yv.T=xv.T:=by exact rfl) (dX:(A.all λp=>p.var != yv.id||p.tag.any λj=>(ms.getD j 0).testBit i)=true:=by kernel_rfl):
  OpOk P ops ms c V A G i ⟨some d,.move (.tmp s),ty,pos,aft,none⟩:=by
 obtain⟨⟨k,hk⟩,hb⟩:=eY hv
 obtain⟨⟨k1,ot⟩,qO,ho⟩:=nQ hx
 exact q8 k1 ot qO ho bR gb k hk hb cW hT dX h1 hp
theorem XB (hx:QH ms i s V=some xv:=by exact rfl) (hv:AF i V=some yv:=by exact rfl) (h1:Has ms G i (.tmp s) p:=by exact hs) (hp:Post G i p:=by exact pt rfl) (bR:xv.kd=.grow m sz:=by exact rfl) (gb:xv.dead=some i:=by exact rfl) (cW:yv.kd=.grow m sz:=by exact rfl) (hT:yv.T=xv.T:=by exact rfl) (dX:(A.all λp=>p.var != yv.id||p.tag.any λj=>(ms.getD j 0).testBit i)=true:=by kernel_rfl):
  OpOk P ops ms c V A G i ⟨some d,.assign (.tmp s),ty,pos,aft,none⟩:=by
 obtain⟨⟨k,hk⟩,hb⟩:=eY hv
 obtain⟨⟨k1,ot⟩,qO,ho⟩:=nQ hx
 exact jb k1 ot qO ho bR gb k hk hb cW hT dX h1 hp
theorem nlH {f:Nat->Pred} (hv:AF i V=some yv:=by exact rfl) (hp:Post G i (aA sz true 0 f):=by exact pt rfl) (cW:yv.kd=.grow 0 sz:=by exact rfl) (dX:(A.all λp=>p.var != yv.id||p.tag.any λj=>(ms.getD j 0).testBit i)=true:=by kernel_rfl):
  OpOk P ops ms c V A G i ⟨some d,.assign (.const (.slice none 0 0)),ty,pos,aft,none⟩:=by
 obtain⟨⟨k,hk⟩,hb⟩:=eY hv
 exact DG k hk hb cW dX hp
theorem sgl {ops:Array Oper} {o:Oper} {V V1 V2:List Vr} {G G1 G2:List bz} (nv:List Vr) (A1:List Al) (ne:List bz) (hV:tQ nv V V1) (hG:l6 ne G G1) (hs:OpOk P #[o] [0] c V1 A1 G1 0 o) (kV:dV V1 V2) (kG:aF G1 G2) (hn:iq nv A1 ne=true:=by kernel_rfl) (hwf:tU c.N [o] V1 A1 G1=true:=by kernel_rfl) (hg:o.guard=none:=by exact rfl):∀a w,Inv c V [] G none_ a w->bV P ops o a w (Inv c V2 [] G2 none_):=λa w h=>by
 refine .of hg ?_
 have:=hs none_ a w (gl h hV hG hn) oG (tM hwf rfl)
 unfold bV at this
 rw[if_pos (by simp[Region.wanted,hg])]at this
 refine this.mono λa' w' h'=>?_
 obtain⟨β,h'⟩:=h'
 exact iy hwf kV kG ⟨β,h'.congr (fu hwf) λj hj=>by
  have:j=0:=by simpa using hj
  subst this
  rfl⟩
theorem sG {v:Vr} {al:Al} {r:List (Nat×Rel)} (q:Nat) (a0:α) (hpq:∀w v,p w v->F a0 w v) (ha:JM ms i s A=some al:=by exact rfl) (hv:mU al.var V=some v:=by exact rfl) (ho:bE ms i v=true:=by exact rfl) (bR:v.kd=.ptr:=by exact rfl) (hst:(v.st.all λq=>q.1==i||((ms.getD i 0).testBit q.1||(ms.getD q.1 0).testBit i))=true:=by kernel_rfl) (qj:v.agg=true:=by exact rfl)
  (hc:cont (λj=>(ms.getD i 0).testBit j) v.c0 v.st=pv (pG sz F l):=by exact rfl) (h:Has ms G i y p:=by exact Wx.hs) (hm:NF i v.st=some (pv (pG sz F (l.set q a0)),r):=by exact rfl) (hr:(r.all λr=>(ms.getD r.1 0).testBit i)=true:=by kernel_rfl) (hq:q<l.length:=by omega) (hoff:al.off=q*sz:=by(dsimp only<;>omega)) (hlen:al.off+sz<=v.n:=by(dsimp only<;>omega)) (hcd:al.cond:=by trivial) (hf:Fits sz true p:=by exact oK) (ht:Gu P T true sz=true:=by kernel_rfl)
  (gg:(V.all λy=>y.id==v.id||y.st.all λq=>q.1 != i)=true:=by kernel_rfl):OpOk P ops ms c V A G i ⟨none,.store T (.tmp s) y,ty,pos,aft,none⟩:=
 me ha hv ho bR hst hc h (aY ht) (by rw[qj]; exactλw cs ds h1 h2 h3 h4=>V8 q hoff hq hpq w cs ds h2 h3 h4) hm hr hcd hf (decide_eq_true hlen) gg
end
end Wx
