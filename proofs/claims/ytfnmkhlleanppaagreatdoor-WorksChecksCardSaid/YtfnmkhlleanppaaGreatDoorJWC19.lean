import Derived.Test.YtfnmkhlleanppaaGreatDoorJWC18
import Derived.Test.YtfnmkhlleanppaaGreatDoorJWC16
namespace Wx
open Go Go.RowKit
section
variable {ro:Option Nat} {P:Program} {Q:Exit->Act->World->Prop} {c:bQ} {V:List Vr} {A:List Al} {G:List aN} {β:Nat->Nat->Prop} {a a':Act} {w w':World}
theorem Cv {x:Code} {d:Deferred} (h:x.ww ro [d] P (λe a w=>Q e (fo [d] a) w) a w):x.ww ro [] P Q (fo [d] a) w:=λn=>wpIn_mono (h n) λ_ _ _ ⟨a0,e0,h0⟩=>⟨fo [d] a0,e0,h0⟩
def zH (P:Program) (fn:Func) (R:Ending->World->Prop):Exit->Act->World->Prop:=bodyPostM (rf none) 0 P fn R
variable {fn:Func} {R:Ending->World->Prop}
theorem vv {f:FuncId} {C:Code} {vs:List Value} {M:Nat->Nat->Prop} {N:Nat} {G:List aN} (hf:P.funcs[f]?=some fn) (hb:fn.body=some C) (hN:fn.ntmps=N) (hlen:decide (vs.length<=N)=true) (hM:cS M w) (hG:eR M w vs G)
  (h:∀a,Inv ⟨N,w,M,λ_=>False⟩ [] [] G none_ a w->C.ww none [] P (zH P fn R) a w):Calls P f vs.toArray w R:=
 (callsIn_wide (n:=0)).1 (callsIn_of_wp_marks (F:=rf none) (n:=0) hf hb trivial (wpIn_mono (h _ (iS hM (by have:=of_decide_eq_true hlen; simp[hN]; omega) rfl hG.ok) 0) λe a' w' ⟨a0,e0,h0⟩=>by subst e0; exact h0))
variable {n0 id:Nat}
theorem cw.set {r:ResultVar} {p:Pred} {s:Nat} {R R':Rel} (h:cw P V G r p) (ux:V[n0]?=some (cr id s R)):cw P (V.set n0 (cr id s R')) G r p:=by
 induction h with
 |tmp k hk=>exact .tmp k hk
 |@cell x p T s k hk hb bR hs ht hc=>
  refine .cell k ?_ hb bR hs ht hc
  have hne:n0≠k:=λe=>by
   rw[e,hk]at ux
   injection ux with ux
   rw[ux]at bR
   cases bR
  rw[List.getElem?_set_ne hne]
  exact hk
 |imp _ hq ih=>exact .imp ih hq
variable {D:Nat}
theorem aQ.taken {l:Nat} {r:Loop} (h:aQ c V [] G none_ β a w) (hV:bE V=true) (hG:bT G=true) (hk:V[n0]?=some (cW id l D r)) (hu:dG V id n0=true):
  (Instr.takeDeferred D).run P w=.ok [] (w.putObj D (.deferred none))/\∃β',aQ c (V.set n0 (cr id id λ_ _ _=>True)) [] G none_ β' a (w.putObj D (.deferred none)):=by
 obtain⟨h1,h2,h3,h4⟩:=h.wF hk
 have hlt:l<w.heap.size:=(Array.getElem?_eq_some_iff.1 h2).1
 have hl2:(w.putObj D (.deferred none)).heap[l]?=some (.loop r):=(World.putObj_heap_other (by omega)).trans h2
 have FV:(w.putObj D (.deferred none)).heap[D]?=some (.deferred none):=World.putObj_heap_same (by omega)
 refine⟨run_takeDeferred h3,_,h.move (B':=β id) (R':=λ_ _ _=>True) hV hG hk (cX hu) (iF _ ((h1 D).2 (.inr rfl))) (λk hk'=>.inl hk') (λk hk'=>?_) (aJ.always trivial _)⟩
 rw[World.putObj_size]
 rcases (h1 k).1 hk' with rfl|rfl
 ·exact⟨hlt,λo v hv=>absurd hv (dy hl2 rfl v)⟩
 ·exact⟨by omega,λo v hv=>absurd hv (dy FV rfl v)⟩
theorem xI {v:Value} (hd:a.defers=[]) (ht:(Instr.takeDeferred D).run P w=.ok [] w') (hr:(results fn a.tmps).run P w'=.ok v w') (hR:R (.returned v) w'):zH P fn R .ret (fo [coll D] a) w:=by
 show LeavesInM (rf none) 0 P fn a.tmps R ([coll D]++a.defers) .returning w
 rw[hd]
 exact⟨(λh=>(by cases h)),.inl ⟨D,w',rfl,ht,v,hr,hR⟩⟩
end
end Wx

namespace Wx
open Go Go.RowKit
abbrev jV (N:Nat) (B:Nat->Prop) (J:World->Prop):Vr:=cr N N λB' w _=>(∀k,B' k↔B k)/\J w
section
variable {ro:Option Nat} {ds:List Deferred} {P:Program} {Q:Exit->Act->World->Prop} {c:bQ} {V:List Vr} {A:List Al} {G:List aN} {β:Nat->Nat->Prop} {a a':Act} {w w':World}
theorem kZ {id:Nat} {l:List Oper} (k:Nat) (hkn:k<=l.length) (hwf:nY c.N (l.take k) V A G=true) (hnd:(l.take k).all cF=true)
  (h0:Inv c V A G none_ a w) (hs:mh P l.toArray (bM l.length) c V A G 0 (l.take k))
  (hK:∀a w,Inv c V A G (λ_=>true) a w->∀n,wpOpsIn (rf ro) n P l.toArray (λe a' w'=>∃a0,a'=fo ds a0/\Q e a0 w') (List.range' k (l.length-k)) (fo ds a) w):(Code.region id l.toArray false).ww ro ds P Q a w:=by
 intro n
 refine wpIn_region ?_
 have tm:∀k j,((bM l.length).getD k 0).testBit j=true->j<k:=by
  intro k j h
  rcases Nat.lt_or_ge k l.length with h'|h'
  ·have e:(bM l.length).getD k 0=2^k-1:=by simp[bM,h']
   rw[e,Nat.testBit_two_pow_sub_one]at h
   simpa using h
  ·have e:(bM l.length).getD k 0=0:=by simp[bM,Nat.not_lt.2 h']
   rw[e]at h
   simp at h
 have key:∀(m i:Nat),i+m=k->∀(a:Act) (w:World),Inv c V A G (λj=>decide (j<i)) a w->wpOpsIn (rf ro) n P l.toArray (λe a' w'=>∃a0,a'=fo ds a0/\Q e a0 w') (List.range' i m++List.range' k (l.length-k)) (fo ds a) w:=by
  intro m
  induction m with
  |zero=>
   rintro i hi a w ⟨β,hI⟩
   exact hK a w ⟨β,hI.congr (eJ hwf) λj hj=>by simp at hj; simp; omega⟩ n
  |succ m ih=>
   intro i hi a w hI
   have ya:i<k:=by omega
   obtain⟨o,ho⟩:∃o,l[i]?=some o:=⟨l[i]'(by omega),List.getElem?_eq_getElem (by omega)⟩
   have Ld:(l.take k)[i]?=some o:=by rw[List.getElem?_take,if_pos ya]; exact ho
   rw[List.range'_succ,List.cons_append,wpOpsIn_cons]
   have pF:iY (bM l.length) i (λj=>decide (j<i)):=⟨by simp,λj hj=>by simpa using tm i j hj,λj hj=>by have:=tm j i hj; simp; omega⟩
   have hop:=hs.get Ld
   rw[Nat.zero_add]at hop
   refine(hop _ a w hI pF (nx hwf ho ya)).nT (by simpa using ho) (List.all_eq_true.1 hnd o (List.mem_of_getElem? Ld)) λa' w' h'=>ih (i+1) (by omega) a' w' ?_
   have e:upd (λj=>decide (j<i)) i=(λj=>decide (j<i+1)):=by
    funext j
    unfold upd
    by_cases h:j=i
    ·simp[h]
    ·rw[if_neg h]
     by_cases h2:j<i
     ·simp[h2]; omega
     ·simp[h2]; omega
   rw[<-e]
   exact h'
 have:=key k 0 (by omega) a w (by
  have e:(λj=>decide (j<0))=none_:=by funext j; simp
  rw[e]
  exact h0)
 have e2:List.range' 0 k++List.range' k (l.length-k)=List.range l.toArray.size:=by
  rw[List.range_eq_range',show l.toArray.size=k+(l.length-k) by simp; omega]
  have:=List.range'_append_1 (s:=0) (m:=k) (n:=l.length-k)
  rw[Nat.zero_add]at this
  exact this
 rwa [e2]at this
theorem aQ.Hy {N n0:Nat} {B:Nat->Prop} {J:World->Prop} (h:aQ c V [] G none_ β a w) (hk:V[n0]?=some (jV N B J)):(∀k,β N k↔B k)/\aJ (minus (own c V none_ β) (β N)) J w/\ij (β N) w/\∀k,β N k->mine c k:=by
 obtain⟨h1,h2⟩:=(aB rfl).1 (h.var _ (List.mem_of_getElem? hk) rfl)
 exact⟨h2.out.1,h2.imp λ_ h=>h.2,λk hk=>(h1 k hk).2,λk hk=>(h1 k hk).1⟩
end
end Wx

namespace Wx
open Go Go.RowKit
section
variable {ro:Option Nat} {ds:List Deferred} {P:Program} {Q:Exit->Act->World->Prop} {c:bQ} {V:List Vr} {A:List Al} {G:List aN} {a:Act} {w:World}{id:Nat} {l:List Oper}
theorem Ad (ms:List Nat) (k:Nat) (ux:0<k) (hm:P.follows .mixedOrders=true) (hok:gV l.toArray=true) (rz:ox l=ms) (iC:rJ ms k l.length=true) (hnd:l.all cF=true) (hkn:decide (k<=l.length)=true) (hwf:nY c.N (l.take k) V A G=true)
  (h0:Inv c V A G none_ a w) (hs:mh P l.toArray ms c V A G 0 (l.take k)) (K:Nat->Act->World->Prop) (hK:∀a w,Inv c V A G (λ_=>true) a w->K 0 a w) (hst:ik P l.toArray K 0 (l.drop k)) (hq:∀a w,K (l.length-k) a w->Q .normal a w):
  (Code.region id l.toArray true).ww ro ds P Q a w:=by
 intro n
 have hkn:=of_decide_eq_true hkn
 have jb:=mQ l
 rw[rz]at jb
 let J:(Nat->Bool)->Act->World->Prop:=λL a w=>gM l L/\(((∃j,j<k/\L j=false)/\Inv c V A G L a w)\/((∀j,j<k->L j=true)/\∃m,m<=l.length-k/\(∀i,k<=i->i<l.length->(L i=true↔i<k+m))/\K m a w))
 refine iM hm hok (λL a' w=>∃a,a'=fo ds a/\J L a w) ⟨a,rfl,λi o _ h=>(by cases h),.inl ⟨⟨0,ux,rfl⟩,?_⟩⟩ ?_ ?_
 ·obtain⟨β,hβ⟩:=h0
  exact⟨β,hβ.draws⟩
 ·rintro i o hi L _ w ⟨a,rfl,hc,hJ⟩ hno hpre
  ··have vM:i<l.length:=by
     rcases Nat.lt_or_ge i l.length with h'|h'
     ·exact h'
     ·rw[List.getElem?_eq_none h']at hi; cases hi
    have IK:l.toArray[i]?=some o:=by simpa using hi
    have A9:cF o=true:=List.all_eq_true.1 hnd o (List.mem_of_getElem? hi)
    have sY:∀j,(ms.getD i 0).testBit j=true->L j=true:=λj hj=>jb.2 L hc i o hi hpre j hj
    have lp:gM l (upd L i):=by
     intro k' ok iD hL j hj
     by_cases uy:k'=i
     ·subst uy
      rw[hi]at iD
      injection iD with iD
      subst iD
      have:=hpre j hj
      unfold upd
      split
      ·rfl
      ·exact this
     ·have:=hc k' ok iD (ua hL uy) j hj
      unfold upd
      split
      ·rfl
      ·exact this
    rcases hJ with⟨⟨j0,G4,xT⟩,hI⟩|⟨de,m,hmn,Ao,D8⟩
    ·have ya:i<k:=by
      rcases Nat.lt_or_ge i k with h'|h'
      ·exact h'
      ·have:=sY j0 (eF iC vM h' (by omega))
       rw[xT]at this; cases this
     have pF:iY ms i L:=⟨hno,sY,λj hj=>by
      cases hL:L j with
      |false=>rfl
      |true=>
       cases yf:l[j]? with
       |none=>
        have h1:=jb.1
        rw[List.getD_eq_getElem?_getD,List.getElem?_eq_none (by have:=List.getElem?_eq_none_iff.1 yf; omega)]at hj
        simp at hj
       |some oj=>
        have:=jb.2 L hc j oj yf (λm hm=>hc j oj yf hL m hm) i hj
        rw[hno]at this
        cases this⟩
     have hop:=hs.get (j:=i) (o:=o) (by rw[List.getElem?_take,if_pos ya]; exact hi)
     rw[Nat.zero_add]at hop
     refine(hop L a w hI pF (nx hwf hi ya)).nT IK A9 λa' w' h'=>⟨a',rfl,(show J (upd L i) a' w' from⟨lp,?_⟩)⟩
     by_cases hfull:∀j,j<k->upd L i j=true
     ·refine .inr ⟨hfull,0,Nat.zero_le _,λq hq rC=>?_,hK a' w' ?_⟩
      ·have D9:L q=false:=by
        cases D9:L q with
        |false=>rfl
        |true=>
         cases hoq:l[q]? with
         |none=>rw[List.getElem?_eq_none_iff]at hoq; omega
         |some oq=>
          have:=jb.2 L hc q oq hoq (λm hm=>hc q oq hoq D9 m hm) j0 (eF iC rC hq (by omega))
          rw[xT]at this; cases this
       have:upd L i q=L q:=by unfold upd; rw[if_neg (by omega)]
       rw[this,D9]
       constructor
       ·intro h; cases h
       ·intro h; omega
      ·obtain⟨β,hI'⟩:=h'
       refine⟨β,hI'.congr (eJ hwf) λj hj=>?_⟩
       rw[List.length_take]at hj
       exact hfull j (by omega)
     ·refine .inl ⟨?_,h'⟩
      rw[Classical.not_forall]at hfull
      obtain⟨j,hj⟩:=hfull
      rw[Classical.not_imp]at hj
      exact⟨j,hj.1,Bool.not_eq_true _▸hj.2⟩
    ·have uy:k<=i:=by
      rcases Nat.lt_or_ge i k with h'|h'
      ·rw[de i h']at hno; cases hno
      ·exact h'
     have nA:i=k+m:=by
      have h1:¬i<k+m:=λh=>by rw[(Ao i uy vM).2 h]at hno; cases hno
      rcases Nat.lt_or_ge (k+m) i with h2|h2
      ·have h3:=sY (k+m) (eF iC vM uy h2)
       have:=(Ao (k+m) (by omega) (by omega)).1 h3
       omega
      ·omega
     have ho:(l.drop k)[m]?=some o:=by rw[List.getElem?_drop,<-nA]; exact hi
     have Bb:=hst.get ho a w (by rw[Nat.zero_add]; exact D8)
     rw[Nat.zero_add]at Bb
     refine Bb.nT IK A9 λa' w' h'=>⟨a',rfl,(show J (upd L i) a' w' from⟨lp,.inr ⟨λj hj=>?_,m+1,by omega,λq hq rC=>?_,h'⟩⟩)⟩
     ·unfold upd
      split
      ·rfl
      ·exact de j hj
     ·unfold upd
      split
      ·rename_i e
       constructor
       ·intro _; omega
       ·intro _; rfl
      ·rename_i e
       rw[Ao q hq rC]
       omega
 ·rintro L _ w ⟨a,rfl,_,hJ⟩ de
  rcases hJ with⟨⟨j,hj,hL⟩,_⟩|⟨_,m,hmn,Ao,D8⟩
  ·rw[de j (by omega)]at hL; cases hL
  ·have hme:m=l.length-k:=by
    rcases Nat.lt_or_ge m (l.length-k)with h'|h'
    ·have:=(Ao (k+m) (by omega) (by omega)).1 (de (k+m) (by omega))
     omega
    ·omega
   subst hme
   exact⟨a,rfl,hq a w D8⟩
theorem uY {l:List Oper} {n:Nat}:∀(os:List Oper) (k m:Nat) (K:Nat->Act->World->Prop),ik P l.toArray K m os->(∀j o,os[j]?=some o->l[k+j]?=some o)->os.all cF=true->(∀a w,K (m+os.length) a w->Q .normal a w)->∀a w,K m a w ->
  wpOpsIn (rf ro) n P l.toArray (λe a' w'=>∃a0,a'=fo ds a0/\Q e a0 w') (List.range' k os.length) (fo ds a) w
 |[],k,m,K,_,_,_,hq,a,w,h=>⟨a,rfl,hq a w h⟩
 |o::os,k,m,K,hs,hl,hd,hq,a,w,h=>by
  rw[List.length_cons,List.range'_succ,wpOpsIn_cons]
  rw[List.all_cons,Bool.and_eq_true]at hd
  refine(hs.1 a w h).nT (by have:=hl 0 o rfl; simpa using this) hd.1 λa' w' h'=>uY os (k+1) (m+1) K hs.2 (λj o ho=>by rw[show k+1+j=k+(j+1) by omega]; exact hl (j+1) o ho) hd.2 (λa w hk=>hq a w ?_) a' w' h'
  rw[List.length_cons,show m+(os.length+1)=m+1+os.length by omega]
  exact hk
variable {V1 V2:List Vr} {G1 G2:List aN} {K':Act->World->Prop}
theorem KJ (h:Inv c V [] G none_ a w) (ms:List Nat) (k:Nat) (nv:List Vr) (A1:List Al) (ne:List aN) (hV:oa nv V V1) (hG:ic ne G G1) (hs:mh P l.toArray ms c V1 A1 G1 0 (l.take k)) (kV:dA V1 V2) (kG:aA G1 G2) (hst:gL P l.toArray (Inv c V2 [] G2 none_) (l.drop k) K') (hq:∀a w,K' a w->Q .normal a w)
  (hn:gH nv A1 ne=true:=by kernel_rfl) (hb:ng P c.N l ms k V1 A1 G1=true:=by kernel_rfl) (hd:l.all cF=true:=by kernel_rfl):(Code.region id l.toArray true).ww ro ds P Q a w:=by
 unfold ng at hb
 simp only[Bool.and_eq_true,beq_iff_eq]at hb
 obtain⟨ux,hm,hok,rz,iC,hkn,hwf⟩:=hb
 obtain⟨F,e0,e1,hF⟩:=hst.steps
 refine Ad ms k (of_decide_eq_true ux) hm hok rz iC hd hkn hwf (dS h hV hG hn) hs F (λa w hI=>by rw[e0]; exact eY hwf kV kG hI) hF λa w hI=>hq a w ?_
 rw[<-e1,List.length_drop]
 exact hI
theorem KM (h:Inv c V [] G none_ a w) (n k:Nat) (nv:List Vr) (A1:List Al) (ne:List aN) (hV:oa nv V V1) (hG:ic ne G G1) (hs:mh P l.toArray (tm n 0) c V1 A1 G1 0 (l.take k)) (kV:dA V1 V2) (kG:aA G1 G2) (hst:gL P l.toArray (Inv c V2 [] G2 none_) (l.drop k) K') (hq:∀a w,K' a w->Q .normal a w)
  (hn:gH nv A1 ne=true:=by kernel_rfl) (hb:nh c.N l (tm n 0) k V1 A1 G1=true:=by kernel_rfl) (hd:l.all cF=true:=by kernel_rfl):(Code.region id l.toArray false).ww ro ds P Q a w:=by
 unfold nh at hb
 simp only[Bool.and_eq_true,beq_iff_eq]at hb
 obtain⟨rz,hkn,hwf⟩:=hb
 obtain⟨F,e0,e1,hF⟩:=hst.steps
 have hkn:=of_decide_eq_true hkn
 refine kZ k hkn hwf (List.all_eq_true.2 λo ho=>List.all_eq_true.1 hd o (List.mem_of_mem_take ho)) (dS h hV hG hn) (by rw[rz]; exact hs) λa w hI n=>?_
 have:=uY (ro:=ro) (ds:=ds) (Q:=Q) (n:=n) (l:=l) (l.drop k) k 0 F hF (λj o ho=>by rw[List.getElem?_drop]at ho; exact ho) (List.all_eq_true.2 λo ho=>List.all_eq_true.1 hd o (List.mem_of_mem_drop ho)) (λa w hI=>hq a w (by rw[Nat.zero_add,e1]at hI; exact hI)) a w (by rw[e0]; exact eY hwf kV kG hI)
 rw[List.length_drop]at this
 exact this
variable {y:Code}
theorem KL (h:Inv c V [] G none_ a w) (ms:List Nat) (k:Nat) (nv:List Vr) (A1:List Al) (ne:List aN) (hV:oa nv V V1) (hG:ic ne G G1) (hs:mh P l.toArray ms c V1 A1 G1 0 (l.take k)) (kV:dA V1 V2) (kG:aA G1 G2) (hst:gL P l.toArray (Inv c V2 [] G2 none_) (l.drop k) K') (hq:∀a w,K' a w->y.ww ro ds P Q a w)
  (hn:gH nv A1 ne=true:=by kernel_rfl) (hb:ng P c.N l ms k V1 A1 G1=true:=by kernel_rfl) (hd:l.all cF=true:=by kernel_rfl):(Code.seq (Code.region id l.toArray true) y).ww ro ds P Q a w:=ah (KJ h ms k nv A1 ne hV hG hs kV kG hst hq hn hb hd)
theorem ju (h:Inv c V [] G none_ a w) (n k:Nat) (nv:List Vr) (A1:List Al) (ne:List aN) (hV:oa nv V V1) (hG:ic ne G G1) (hs:mh P l.toArray (tm n 0) c V1 A1 G1 0 (l.take k)) (kV:dA V1 V2) (kG:aA G1 G2) (hst:gL P l.toArray (Inv c V2 [] G2 none_) (l.drop k) K') (hq:∀a w,K' a w->y.ww ro ds P Q a w)
  (hn:gH nv A1 ne=true:=by kernel_rfl) (hb:nh c.N l (tm n 0) k V1 A1 G1=true:=by kernel_rfl) (hd:l.all cF=true:=by kernel_rfl):(Code.seq (Code.region id l.toArray false) y).ww ro ds P Q a w:=ah (KM h n k nv A1 ne hV hG hs kV kG hst hq hn hb hd)
theorem vt {fn:Func} {f:FuncId} {C:Code} {vs:List Value} {N s:Nat} {M:Nat->Nat->Prop} {B:Nat->Prop} {H:List Bk} {R:Ending->World->Prop} (hf:P.funcs[f]?=some fn) (hb:fn.body=some C) (hN:fn.ntmps=N) (hlen:decide (vs.length<=N)=true)
  (hM:cS M w) (jx:∀k,B k->∀o,¬M k o) (hH:cn B w H) (hG:eR (plus M B) w vs G)
  (h:∀a,Inv ⟨N,w,M,B⟩ [aZ id s H] [] G none_ a w->C.ww none [] P (bodyPost P fn R) a w):Calls P f vs.toArray w R:=
 calls_of_wp hf hb ((wpIn_wide (n:=0)).1 (wpIn_mono (h _ (mG hM jx hH (by have:=of_decide_eq_true hlen; simp[hN]; omega) rfl hG.ok) 0) λe a' w' ⟨a0,e0,h0⟩=>by subst e0; exact h0))
end
end Wx
