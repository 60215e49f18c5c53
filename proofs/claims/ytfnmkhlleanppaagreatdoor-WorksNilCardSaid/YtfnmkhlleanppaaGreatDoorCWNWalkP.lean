import Derived.Test.YtfnmkhlleanppaaGreatDoorJWN22
namespace Wx
open Go Go.RowKit
section
variable {ro:Option Nat} {ds:List Deferred} {P:Program} {Q:Exit->Act->World->Prop} {c:bD} {V:List Vr} {A:List Al} {G:List aD} {a:Act} {w:World}{id:Nat} {l:List Oper}
theorem vv (ms:List Nat) (k:Nat) (xu:0<k) (hm:P.follows .mixedOrders=true) (hok:eI l.toArray=true) (mD:kf l=ms) (eW:mL ms k l.length=true) (hnd:l.all bV=true) (hkn:decide (k<=l.length)=true) (hwf:kE c.N (l.take k) V A G=true)
  (h0:Inv c V A G none_ a w) (hs:jS P l.toArray ms c V A G 0 (l.take k)) (vI:k+1=l.length) (hp:∀a w,Inv c V A G (λ_=>true) a w->∀n (K':Act->World->Prop),wpOpIn (rI ro) n P l.toArray (λe a' w'=>∃a0,a'=fo ds a0/\Q e a0 w') k K' (fo ds a) w):
  (Code.region id l.toArray true).ww ro ds P Q a w:=by
 intro n
 let K:Nat->Act->World->Prop:=λm a w=>m=0/\Inv c V A G (λ_=>true) a w
 have hkn:=of_decide_eq_true hkn
 have fJ:=jl l
 rw[mD]at fJ
 let J:(Nat->Bool)->Act->World->Prop:=λL a w=>ew l L/\(((∃j,j<k/\L j=false)/\Inv c V A G L a w)\/((∀j,j<k->L j=true)/\∃m,m<=l.length-k/\(∀i,k<=i->i<l.length->(L i=true↔i<k+m))/\K m a w))
 refine fj hm hok (λL a' w=>∃a,a'=fo ds a/\J L a w) ⟨a,rfl,λi o _ h=>(by cases h),.inl ⟨⟨0,xu,rfl⟩,?_⟩⟩ ?_ ?_
 ·obtain⟨β,hβ⟩:=h0
  exact⟨β,hβ.draws⟩
 ·rintro i o hi L _ w ⟨a,rfl,hc,hJ⟩ hno hpre
  ··have qd:i<l.length:=by
     rcases Nat.lt_or_ge i l.length with h'|h'
     ·exact h'
     ·rw[List.getElem?_eq_none h']at hi; cases hi
    have A7:l.toArray[i]?=some o:=by simpa using hi
    have uq:bV o=true:=List.all_eq_true.1 hnd o (List.mem_of_getElem? hi)
    have nT:∀j,(ms.getD i 0).testBit j=true->L j=true:=λj hj=>fJ.2 L hc i o hi hpre j hj
    have qQ:ew l (upd L i):=by
     intro k' ok eX hL j hj
     by_cases oW:k'=i
     ·subst oW
      rw[hi]at eX
      injection eX with eX
      subst eX
      have:=hpre j hj
      unfold upd
      split
      ·rfl
      ·exact this
     ·have:=hc k' ok eX (oK hL oW) j hj
      unfold upd
      split
      ·rfl
      ·exact this
    rcases hJ with⟨⟨j0,DM,rN⟩,hI⟩|⟨cg,m,hmn,tT,xk⟩
    ·have rQ:i<k:=by
      rcases Nat.lt_or_ge i k with h'|h'
      ·exact h'
      ·have:=nT j0 (cT eW qd h' (by omega))
       rw[rN]at this; cases this
     have kY:gg ms i L:=⟨hno,nT,λj hj=>by
      cases hL:L j with
      |false=>rfl
      |true=>
       cases rT:l[j]? with
       |none=>
        have h1:=fJ.1
        rw[List.getD_eq_getElem?_getD,List.getElem?_eq_none (by have:=List.getElem?_eq_none_iff.1 rT; omega)]at hj
        simp at hj
       |some oj=>
        have:=fJ.2 L hc j oj rT (λm hm=>hc j oj rT hL m hm) i hj
        rw[hno]at this
        cases this⟩
     have hop:=hs.get (j:=i) (o:=o) (by rw[List.getElem?_take,if_pos rQ]; exact hi)
     rw[Nat.zero_add]at hop
     refine(hop L a w hI kY (jE hwf hi rQ)).mS A7 uq λa' w' h'=>⟨a',rfl,(show J (upd L i) a' w' from⟨qQ,?_⟩)⟩
     by_cases hfull:∀j,j<k->upd L i j=true
     ·refine .inr ⟨hfull,0,Nat.zero_le _,λq hq mF=>?_,⟨rfl,?_⟩⟩
      ·have xm:L q=false:=by
        cases xm:L q with
        |false=>rfl
        |true=>
         cases hoq:l[q]? with
         |none=>rw[List.getElem?_eq_none_iff]at hoq; omega
         |some oq=>
          have:=fJ.2 L hc q oq hoq (λm hm=>hc q oq hoq xm m hm) j0 (cT eW mF hq (by omega))
          rw[rN]at this; cases this
       have:upd L i q=L q:=by unfold upd; rw[if_neg (by omega)]
       rw[this,xm]
       constructor
       ·intro h; cases h
       ·intro h; omega
      ·obtain⟨β,hI'⟩:=h'
       refine⟨β,hI'.congr (cY hwf) λj hj=>?_⟩
       rw[List.length_take]at hj
       exact hfull j (by omega)
     ·refine .inl ⟨?_,h'⟩
      rw[Classical.not_forall]at hfull
      obtain⟨j,hj⟩:=hfull
      rw[Classical.not_imp]at hj
      exact⟨j,hj.1,Bool.not_eq_true _▸hj.2⟩
    ·have oW:k<=i:=by
      rcases Nat.lt_or_ge i k with h'|h'
      ·rw[cg i h']at hno; cases hno
      ·exact h'
     have vH:i=k+m:=by
      have h1:¬i<k+m:=λh=>by rw[(tT i oW qd).2 h]at hno; cases hno
      rcases Nat.lt_or_ge (k+m) i with h2|h2
      ·have h3:=nT (k+m) (cT eW qd oW h2)
       have:=(tT (k+m) (by omega) (by omega)).1 h3
       omega
      ·omega
     obtain⟨hm0,DA⟩:=xk
     subst hm0
     have vH:i=k:=vH
     rw[vH]
     exact hp a w DA n _
 ·rintro L _ w ⟨a,rfl,_,hJ⟩ cg
  rcases hJ with⟨⟨j,hj,hL⟩,_⟩|⟨_,m,hmn,tT,xk⟩
  ·rw[cg j (by omega)]at hL; cases hL
  ·have hme:m=l.length-k:=by
    rcases Nat.lt_or_ge m (l.length-k)with h'|h'
    ·have:=(tT (k+m) (by omega) (by omega)).1 (cg (k+m) (by omega))
     omega
    ·omega
   subst hme
   have:=xk.1
   omega
variable {o:Oper}
theorem th {n i:Nat} {ops:Array Oper} {f:FuncId} {args:Array Value} {R:List PanicEntry->World->Prop} {K':Act->World->Prop} (hi:ops[i]?=some o) (hd:bV o=true) (hg:o.guard=none) (hr:(execOp a.eval o).run P w=.ok (.enter f args) w) (hc:Calls P f args w λe w'=>∃ch,e=.panicked ch/\R ch w') (hq:∀ch w',R ch w'->Q (.panic ch) a w'):
  wpOpIn (rI ro) n P ops (λe a' w'=>∃a0,a'=fo ds a0/\Q e a0 w') i K' (fo ds a) w:=by
 unfold wpOpIn
 rw[hi]
 simp only
 rw[if_pos (by simp[Region.wanted,hg])]
 unfold Oper.wpIn
 refine⟨λ_ _=>trivial,?_⟩
 rw[gw,Oper.semAt_eq _ _ _ (λc hc=>by unfold bV at hd; rw[hc]at hd; cases hd),hr]
 refine⟨λh=>(by cases h),CallsIn.mono (jU hc) λe w'' he=>?_⟩
 obtain⟨ch,rfl,hR⟩:=he
 exact⟨a,rfl,hq ch w'' hR⟩
def qX (P:Program) (c:bD) (V:List Vr) (G:List aD) (o:Oper) (R:List PanicEntry->Act->World->Prop):Prop:=bV o=true/\o.guard=none/\∀a w,Inv c V [] G none_ a w->∃f args,(execOp a.eval o).run P w=.ok (.enter f args) w/\Calls P f args w λe w'=>∃ch,e=.panicked ch/\R ch a w'
variable {R:List PanicEntry->Act->World->Prop} {V1 V2:List Vr} {G1 G2:List aD}
theorem C6 (h:Inv c V [] G none_ a w) (n k:Nat) (nv:List Vr) (A1:List Al) (ne:List aD) (hV:kJ nv V V1) (hG:fF ne G G1) (hs:jS P l.toArray (tm n 0) c V1 A1 G1 0 (l.take k)) (kV:cx V1 V2) (kG:ah G1 G2) (ho:l[k]?=some o) (hst:qX P c V2 G2 o R) (hq:∀ch a w,R ch a w->Q (.panic ch) a w)
  (hn:fe nv A1 ne=true:=by kernel_rfl) (hb:jx c.N l (tm n 0) k V1 A1 G1=true:=by kernel_rfl) (hd:l.all bV=true:=by kernel_rfl):(Code.region id l.toArray false).ww ro ds P Q a w:=by
 unfold jx at hb
 simp only[Bool.and_eq_true,beq_iff_eq]at hb
 obtain⟨mD,hkn,hwf⟩:=hb
 have hkn:=of_decide_eq_true hkn
 have xw:=(List.getElem?_eq_some_iff.1 ho).1
 refine kF k hkn hwf (List.all_eq_true.2 λo ho=>List.all_eq_true.1 hd o (List.mem_of_mem_take ho)) (cS h hV hG hn) (by rw[mD]; exact hs) λa w hI n=>?_
 obtain⟨j,hj⟩:∃j,l.length-k=j+1:=⟨l.length-k-1,by omega⟩
 rw[hj,List.range'_succ,wpOpsIn_cons]
 obtain⟨f,args,h1,h2⟩:=hst.2.2 a w (dG hwf kV kG hI)
 exact th (by simpa using ho) hst.1 hst.2.1 h1 (h2.mono λe w' ⟨ch,e1,e2⟩=>⟨ch,e1,e2⟩) λch w' hr=>hq ch a w' hr
theorem Er (h:Inv c V [] G none_ a w) (ms:List Nat) (k:Nat) (nv:List Vr) (A1:List Al) (ne:List aD) (hV:kJ nv V V1) (hG:fF ne G G1) (hs:jS P l.toArray ms c V1 A1 G1 0 (l.take k)) (kV:cx V1 V2) (kG:ah G1 G2) (ho:l[k]?=some o) (vI:k+1=l.length) (hst:qX P c V2 G2 o R) (hq:∀ch a w,R ch a w->Q (.panic ch) a w)
  (hn:fe nv A1 ne=true:=by kernel_rfl) (hb:jw P c.N l ms k V1 A1 G1=true:=by kernel_rfl) (hd:l.all bV=true:=by kernel_rfl):(Code.region id l.toArray true).ww ro ds P Q a w:=by
 unfold jw at hb
 simp only[Bool.and_eq_true,beq_iff_eq]at hb
 obtain⟨xu,hm,hok,mD,eW,hkn,hwf⟩:=hb
 refine vv ms k (of_decide_eq_true xu) hm hok mD eW hd hkn hwf (cS h hV hG hn) hs vI λa w hI n K'=>?_
 obtain⟨f,args,h1,h2⟩:=hst.2.2 a w (dG hwf kV kG hI)
 exact th (by simpa using ho) hst.1 hst.2.1 h1 (h2.mono λe w' ⟨ch,e1,e2⟩=>⟨ch,e1,e2⟩) λch w' hr=>hq ch a w' hr
theorem fZ {ch:List PanicEntry} {next:Act->World->Prop} (h:Q (.panic ch) a w):Exit.then next Q (.panic ch) a w:=h
end
end Wx
