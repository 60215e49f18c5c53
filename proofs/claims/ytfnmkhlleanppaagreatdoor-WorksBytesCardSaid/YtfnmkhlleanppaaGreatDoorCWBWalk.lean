import Derived.OrdersIn
import Derived.LoopNIn
import Derived.RangeFuncCalls
import Derived.TacticsIn
import Derived.Test.YtfnmkhlleanppaaGreatDoorJWB9
namespace Wx
open Go Go.RowKit
section
variable {Fe:Fence} {n:Nat} {P:Program} {ops:Array Oper} {Q:Exit->Act->World->Prop}
theorem qK (F:List Nat) (hf:uq ops=true) (hw:nG ops F=true) (I:(Nat->Bool)->Act->World->Prop)
  (hstep:∀i∈F,∀o,ops[i]?=some o->∀L a w,I L a w->L i=false->(∀e∈o.after,Region.binds .any e=true->L e.on=true)->wpOpIn Fe n P ops Q i (I (λj=>if j=i then true else L j)) a w)
  (uC:∀L a w,I L a w->(∀i∈F,L i=true)->∀fuel,((List.range ops.size).filter λj=>!((iN ops.size F).getD j true)).length<=fuel->wpAnyIn Fe n P .any ops Q fuel (iN ops.size F) a w):
  ∀(fuel:Nat) (listed:Array Bool) (a:Act) (w:World),qL ops.size F listed->jV ops listed->I (λj=>listed.getD j false) a w ->
   ((List.range ops.size).filter λj=>!(listed.getD j true)).length<=fuel->wpAnyIn Fe n P .any ops Q fuel listed a w:=by
 have all:∀(fuel:Nat) (listed:Array Bool) (a:Act) (w:World),qL ops.size F listed->I (λj=>listed.getD j false) a w ->
   ((List.range ops.size).filter λj=>!(listed.getD j true)).length<=fuel->(∀i∈F,listed.getD i false=true)->wpAnyIn Fe n P .any ops Q fuel listed a w:=by
  intro fuel listed a w hr hI hc cy
  have e:listed=iN ops.size F:=by
   apply Array.ext
   ·rw[hr.1]; simp[iN]
   ·intro i h1 h2
    have hi:i<ops.size:=by rw[<-hr.1]; exact h1
    simp only[iN,List.getElem_toArray,List.getElem_map,List.getElem_range]
    cases hF:F.contains i with
    |true=>
     have:=cy i (by simpa using hF)
     simpa [h1] using this
    |false=>
     have:=hr.2 i hi hF
     simpa [h1] using this
  have hI':=uC _ a w hI cy
  rw[<-e]at hI'
  exact hI' fuel hc
 have hlt:∀j∈F,j<ops.size:=by
  intro j hj
  simp only[nG,Bool.and_eq_true,List.all_eq_true,decide_eq_true_eq]at hw
  exact hw.1 j hj
 have Gl:∀i,i<ops.size->i∈F\/∀j∈F,j∈before ops ops.size i:=by
  intro i hi
  simp only[nG,Bool.and_eq_true,List.all_eq_true,List.mem_range,Bool.or_eq_true,List.contains_iff_mem]at hw
  exact hw.2 i hi
 intro fuel
 induction fuel with
 |zero=>
  intro listed a w hr mY hI hc
  refine all 0 listed a w hr hI hc (λi hi=>?_)
  rcases Nat.lt_or_ge i ops.size with h'|h'
  ·have h0:(List.range ops.size).filter (λj=>!(listed.getD j true))=[]:=List.eq_nil_of_length_eq_zero (by omega)
   have:=List.filter_eq_nil_iff.1 h0 i (List.mem_range.2 h')
   have hsz:i<listed.size:=by rw[hr.1]; exact h'
   simpa [hsz] using this
  ·exfalso
   have:=hlt i hi
   omega
 |succ fuel ih=>
  intro listed a w hr mY hI hc
  by_cases cy:∀i∈F,listed.getD i false=true
  ·exact all _ listed a w hr hI hc cy
  ·have hx:∃i∈F,¬listed.getD i false=true:=by
    apply Classical.byContradiction
    intro h
    exact cy (λi hi=>Classical.byContradiction λh'=>h ⟨i,hi,h'⟩)
   obtain⟨k,hk,zX⟩:=hx
   have hks:=hlt k hk
   have D9:listed.getD k true=false:=by
    have:k<listed.size:=by rw[hr.1]; exact hks
    simp[this]at zX ⊢
    exact zX
   refine⟨λh=>absurd h (qz hf hks D9 hr.1),λi hi=>?_⟩
   obtain⟨sD,o,ho,hpre⟩:=mem_ready.1 hi
   have Bq:i<ops.size:=by
    rcases Nat.lt_or_ge i ops.size with h'|h'
    ·exact h'
    ·rw[Array.getElem?_eq_none h']at ho; cases ho
   have EZ:i∈F:=by
    apply Classical.byContradiction
    intro hn
    have Gj:=(Gl i Bq).resolve_left hn
    apply cy
    intro j hj
    refine lC mY ops.size i (λo' qg e he hb=>?_) j (Gj j hj)
    rw[ho]at qg
    injection qg with qg
    subst qg
    exact hpre e he hb
   have hno:listed.getD i false=false:=by
    have hs:i<listed.size:=by rw[hr.1]; exact Bq
    simp[hs]at sD ⊢
    exact sD
   refine wpOpIn_mono (λa' w' h'=>ih _ a' w' ⟨by rw[Array.size_setIfInBounds]; exact hr.1,λj hj hF=>?_⟩ (mY.set hi) ?_ ?_) (hstep i EZ o ho _ a w hI hno (λe he hb=>hpre e he hb))
   ·have hij:i≠j:=by
     rintro rfl
     have:F.contains i=true:=by simpa using EZ
     rw[this]at hF; cases hF
    have:=hr.2 j hj hF
    simpa [Array.getElem?_setIfInBounds_ne hij] using this
   ·have e:(λj=>(listed.setIfInBounds i true).getD j false)=(λj=>if j=i then true else listed.getD j false):=by
     funext j
     by_cases hij:j=i
     ·subst hij
      have:j<listed.size:=by rw[hr.1]; exact Bq
      simp[this]
     ·simp[Array.getElem?_setIfInBounds_ne (Ne.symm hij),hij]
    rw[e]; exact h'
   ·have:=pZ hr.1 Bq sD
    omega
theorem gE {id:Nat} {l:List Oper} (hm:P.follows .mixedOrders=true) (hok:fR l.toArray=true) (I:(Nat->Bool)->Act->World->Prop)
  {a:Act} {w:World} (h0:I (λ_=>false) a w.drew) (hstep:∀i o,l[i]?=some o->∀L a w,I L a w->L i=false->(∀j∈sZ o,L j=true)->wpOpIn Fe n P l.toArray Q i (I (λj=>if j=i then true else L j)) a w)
  (uC:∀L a w,I L a w->(∀i,i<l.length->L i=true)->Q .normal a w):(Code.region id l.toArray true).wpIn Fe n P Q a w:=by
 simp only[fR,Bool.and_eq_true,decide_eq_true_eq]at hok
 obtain⟨h1,h3⟩:=hok
 have hF:iN l.toArray.size (List.range l.toArray.size)=Array.replicate l.toArray.size true:=by
  apply Array.ext
  ·simp[iN]
  ·intro i h1 h2
   have hi:i<l.length:=by simpa [iN] using h1
   simp[iN,hi]
 refine wpIn_region_any hm (qK (List.range l.toArray.size) h1 ?_ I (λi hi o ho L a w hI hno hpre=>?_) (λL a w hI cy fuel hfl=>?_) l.toArray.size _ a _ ⟨by simp,λi hi _=>(by have hi':i<l.length:=(by simpa using hi); simp[hi'])⟩ ?_ ?_ ?_)
 ·simp only[nG,Bool.and_eq_true,List.all_eq_true,decide_eq_true_eq,List.mem_range,Bool.or_eq_true]
  exact⟨λj hj=>hj,λi hi=>.inl (by simpa using hi)⟩
 ·have qg:l[i]?=some o:=by simpa using ho
  exact hstep i o qg L a w hI hno (λj hj=>by
   simp only[sZ,List.mem_map,List.mem_filter]at hj
   obtain⟨e,⟨he,hb⟩,rfl⟩:=hj
   exact hpre e (by simpa using he) hb)
 ·rw[hF]
  have hq:=uC L a w hI (λi hi=>cy i (List.mem_range.2 (by simpa using hi)))
  cases fuel with
  |zero=>exact⟨h3,hq⟩
  |succ n=>exact⟨λ_=>hq,by rw[h3]; simp⟩
 ·intro i o ho hl
  exfalso
  rcases Nat.lt_or_ge i l.toArray.size with h'|h'
  ·have h2:i<l.length:=by simpa using h'
   simp[h2]at hl
  ·have h2:l.length<=i:=by simpa using h'
   simp[h2]at hl
 ·have e:(λj=>(Array.replicate l.toArray.size false).getD j false)=(λ_=>false):=by
   funext j
   rcases Nat.lt_or_ge j l.length with h'|h'
   ·simp[h']
   ·simp[h']
  rw[e]; exact h0
 ·have:=List.length_filter_le (λj=>!((Array.replicate l.toArray.size false).getD j true)) (List.range l.toArray.size)
  rw[List.length_range]at this
  exact this
end
def uo (ro:Option Nat):Fence:={ Fence.wide with round:=ro }
def gJ (ds:List Deferred) (a:Act):Act:={ a with defers:=ds++a.defers }
def ck (o:Oper):Bool:=match o.op with
 |.defer _=>false
 |_=>true
def _root_.Go.Code.ww (ro:Option Nat) (ds:List Deferred) (P:Program) (c:Code) (Q:Exit->Act->World->Prop) (a:Act) (w:World):Prop:=
 ∀n,c.wpIn (uo ro) n P (λe a' w'=>∃a0,a'=gJ ds a0/\Q e a0 w') (gJ ds a) w
theorem iy (ds:List Deferred) (a:Act):(gJ ds a).eval=a.eval:=by funext x; cases x<;>rfl
theorem mP (ds:List Deferred) (a:Act) (d:Option Nat) (v:Value):(gJ ds a).put d v=gJ ds (a.put d v):=by cases d<;>rfl
variable {ro:Option Nat} {n:Nat} {P:Program} {w:World}
theorem lP {f:FuncId} {args:Array Value} {R:Ending->World->Prop} (h:Calls P f args w R):CallsIn (uo ro) n P f args w R:=(callsIn_wide (n:=n)).2 h
theorem aU.oO {ds:List Deferred} {ops:Array Oper} {Q:Exit->Act->World->Prop} {i:Nat} {o:Oper} {a:Act} {K K':Act->World->Prop} (hi:ops[i]?=some o) (hd:ck o=true) (h:aU P ops o a w K) (hK:∀a w,K a w->K' (gJ ds a) w):
  wpOpIn (uo ro) n P ops Q i K' (gJ ds a) w:=by
 unfold wpOpIn
 rw[hi]
 unfold aU at h
 have hy:yielded ops (gJ ds a).tmps=yielded ops a.tmps:=rfl
 simp only[hy]
 split
 ·rename_i hw
  rw[if_pos hw]at h
  unfold Oper.wpIn
  refine⟨λ_ _=>trivial,?_⟩
  rw[iy,Oper.semAt_eq _ _ _ (λc hc=>by unfold ck at hd; rw[hc]at hd; cases hd)]
  unfold Does at h
  generalize (execOp a.eval o).run P w=r at *
  cases r with
  |ok x w'=>
   cases x<;>simp only[Oper.uponIn]at h ⊢<;>first|(rw[mP]; exact hK _ _ h)|exact h.elim|skip
   case enter f args=>
    refine⟨λh=>(by cases h),CallsIn.mono (lP h) λe w'' he=>?_⟩
    obtain⟨v,rfl,hk⟩:=he
    show K' ((gJ ds a).put o.dst v) w''
    rw[mP]
    exact hK _ _ hk
  |halt x w'=>cases x<;>exact h.elim
 ·rename_i hw
  rw[if_neg hw]at h
  refine⟨λ_ _=>trivial,?_⟩
  rw[mP]
  exact hK _ _ h
section
variable {ro:Option Nat} {ds:List Deferred} {P:Program} {Q:Exit->Act->World->Prop} {a:Act} {w:World} {c:bJ} {V:List Vr} {A:List Al} {G:List aI}{x:Code}
theorem yg {Q':Exit->Act->World->Prop} (h:x.ww ro ds P Q a w) (hq:∀e a w,Q e a w->Q' e a w):x.ww ro ds P Q' a w:=λn=>wpIn_mono (h n) λ_ _ _ ⟨a0,e0,h0⟩=>⟨a0,e0,hq _ _ _ h0⟩
theorem av (h:Q .normal a w):Code.skip.ww ro ds P Q a w:=λ_=>wpIn_skip ⟨_,rfl,h⟩
variable {id:Nat}
theorem cV (h:Q (.exit id) a w):(Code.exit id).ww ro ds P Q a w:=λ_=>wpIn_exit ⟨_,rfl,h⟩
theorem ay (h:Q .ret a w):Code.ret.ww ro ds P Q a w:=λ_=>wpIn_ret ⟨_,rfl,h⟩
variable {y:Code}
theorem ai (h:x.ww ro ds P (Exit.then (y.ww ro ds P Q) Q) a w):(Code.seq x y).ww ro ds P Q a w:=λn=>wpIn_seq (wpIn_mono (h n) λe a' w' ⟨a0,e0,h0⟩=>by
 subst e0
 cases e with
 |normal=>exact h0 n
 |_=>exact⟨a0,rfl,h0⟩)
theorem aN (h:x.ww ro ds P (Exit.inBlock id Q) a w):(Code.block id x).ww ro ds P Q a w:=λn=>wpIn_block (wpIn_mono (h n) λe a' w' ⟨a0,e0,h0⟩=>by
 subst e0
 cases e with
 |exit m=>
  by_cases hm:m=id
  ·subst hm; simp only[Exit.inBlock,if_true]at h0 ⊢; exact⟨a0,rfl,h0⟩
  ·simp only[Exit.inBlock,hm,if_false]at h0 ⊢; exact⟨a0,rfl,h0⟩
 |_=>exact⟨a0,rfl,h0⟩)
theorem jU {s:Operand} {t:Bool} (hc:a.eval s=.bool t) (ht:t=true->x.ww ro ds P Q a w) (hf:t=false->y.ww ro ds P Q a w):(Code.cond s x y).ww ro ds P Q a w:=λn=>wpIn_cond_split (t:=t) (by rw[iy]; exact hc) (λh=>ht h n) (λh=>hf h n)
theorem yf {ι:Type} {C:Code} (I:ι->Act->World->Prop) (μ:ι->Nat) (k0:ι) (h0:I k0 a w)
  (round:∀k a w,I k a w->C.ww ro ds P (Exit.then (λa' w'=>∃k',I k' a' w'/\μ k'<μ k) Q) a w):(Code.loop C).ww ro ds P Q a w:=by
 intro n
 refine wpIn_loop_rounds (μ k0+1) ?_
 have key:∀m k a w,I k a w->μ k<m->Code.roundsIn (uo ro) n P C (λe a' w'=>∃a0,a'=gJ ds a0/\Q e a0 w') m (gJ ds a) w:=by
  intro m
  induction m with
  |zero=>intro k a w _ h; omega
  |succ m ih=>
   intro k a w hI hm
   rw[roundsIn_succ]
   refine wpIn_mono (round k a w hI n) λe a' w' ⟨a0,e0,h'⟩=>?_
   subst e0
   cases e with
   |normal=>
    obtain⟨k',hI',hlt⟩:=h'
    exact ih k' a0 w' hI' (by omega)
   |_=>exact⟨a0,rfl,h'⟩
 exact key _ k0 a w h0 (by omega)
variable {l:List Oper}
theorem vU (ms:List Nat) (hm:P.follows .mixedOrders=true) (hok:fR l.toArray=true) (oy:lX l=ms) (hwf:mC c.N l V A G=true) (hnd:l.all ck=true)
  (h0:Inv c V A G none_ a w) (hs:ld P l.toArray ms c V A G 0 l) (hk:∀a w,Inv c V A G (λ_=>true) a w->Q .normal a w):(Code.region id l.toArray true).ww ro ds P Q a w:=by
 intro n
 have gR:=kB l
 rw[oy]at gR
 refine gE hm hok (λL a' w=>∃a,a'=gJ ds a/\Inv c V A G L a w/\fF l L) ⟨a,rfl,?_,λi o _ h=>by cases h⟩ ?_ ?_
 ·obtain⟨β,hβ⟩:=h0
  exact⟨β,hβ.draws⟩
 ·rintro i o hi L _ w ⟨a,rfl,hI,hc⟩ hno hpre
  have mZ:gO ms i L:=⟨hno,λj hj=>gR.2 L hc i o hi hpre j hj,λj hj=>by
   cases hL:L j with
   |false=>rfl
   |true=>
    cases uA:l[j]? with
    |none=>
     have h1:=gR.1
     rw[List.getD_eq_getElem?_getD,List.getElem?_eq_none (by have:=List.getElem?_eq_none_iff.1 uA; omega)]at hj
     simp at hj
    |some oj=>
     have:=gR.2 L hc j oj uA (λm hm=>hc j oj uA hL m hm) i hj
     rw[hno]at this
     cases this⟩
  have mY:fF l (upd L i):=by
   intro k ok gw hL j hj
   by_cases ow:k=i
   ·subst ow
    rw[hi]at gw
    injection gw with gw
    subst gw
    have:=hpre j hj
    unfold upd
    split
    ·rfl
    ·exact this
   ·have:=hc k ok gw (qI hL ow) j hj
    unfold upd
    split
    ·rfl
    ·exact this
  have hop:=hs.get hi
  rw[Nat.zero_add]at hop
  exact(hop L a w hI mZ (nH hwf hi)).oO (by simpa using hi) (List.all_eq_true.1 hnd o (List.mem_of_getElem? hi)) λa' w' h'=>⟨a',rfl,h',mY⟩
 ·rintro L _ w ⟨a,rfl,⟨β,hI⟩,_⟩ cy
  exact⟨a,rfl,hk a w ⟨β,hI.congr (dR hwf) cy⟩⟩
theorem yl (hwf:mC c.N l V A G=true) (hnd:l.all ck=true)
  (h0:Inv c V A G none_ a w) (hs:ld P l.toArray (bt l.length) c V A G 0 l) (hk:∀a w,Inv c V A G (λ_=>true) a w->Q .normal a w):(Code.region id l.toArray false).ww ro ds P Q a w:=by
 intro n
 refine wpIn_region ?_
 have tm:∀k j,((bt l.length).getD k 0).testBit j=true->j<k:=by
  intro k j h
  rcases Nat.lt_or_ge k l.length with h'|h'
  ·have e:(bt l.length).getD k 0=2^k-1:=by simp[bt,h']
   rw[e,Nat.testBit_two_pow_sub_one]at h
   simpa using h
  ·have e:(bt l.length).getD k 0=0:=by simp[bt,Nat.not_lt.2 h']
   rw[e]at h
   simp at h
 have key:∀(m i:Nat),i+m=l.length->∀(a:Act) (w:World),Inv c V A G (λj=>decide (j<i)) a w->wpOpsIn (uo ro) n P l.toArray (λe a' w'=>∃a0,a'=gJ ds a0/\Q e a0 w') (List.range' i m) (gJ ds a) w:=by
  intro m
  induction m with
  |zero=>
   rintro i hi a w ⟨β,hI⟩
   exact⟨a,rfl,hk a w ⟨β,hI.congr (dR hwf) λj hj=>by simp; omega⟩⟩
  |succ m ih=>
   intro i hi a w hI
   obtain⟨o,ho⟩:∃o,l[i]?=some o:=⟨l[i]'(by omega),List.getElem?_eq_getElem (by omega)⟩
   rw[List.range'_succ,wpOpsIn_cons]
   have mZ:gO (bt l.length) i (λj=>decide (j<i)):=⟨by simp,λj hj=>by simpa using tm i j hj,λj hj=>by have:=tm j i hj; simp; omega⟩
   have hop:=hs.get ho
   rw[Nat.zero_add]at hop
   refine(hop _ a w hI mZ (nH hwf ho)).oO (by simpa using ho) (List.all_eq_true.1 hnd o (List.mem_of_getElem? ho)) λa' w' h'=>ih (i+1) (by omega) a' w' ?_
   have e:upd (λj=>decide (j<i)) i=(λj=>decide (j<i+1)):=by
    funext j
    unfold upd
    by_cases h:j=i
    ·simp[h]
    ·rw[if_neg h]
     by_cases h2:j<i
     ·simp[h2]; omega
     ·simp[h2]; omega
   rw[<-e]
   exact h'
 have:=key l.length 0 (by omega) a w (by
  have e:(λj=>decide (j<0))=none_:=by funext j; simp
  rw[e]
  exact h0)
 rwa [<-List.range_eq_range',show l.length=l.toArray.size by simp]at this
end
end Wx
