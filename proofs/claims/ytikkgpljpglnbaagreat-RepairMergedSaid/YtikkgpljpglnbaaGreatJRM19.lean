import Derived.OrdersIn
import Derived.LoopNIn
import Derived.RangeFuncCalls
import Derived.TacticsIn
import Derived.Test.YtikkgpljpglnbaaGreatJRM18
namespace Wx
open Go Go.RowKit
section
variable {Fe:Fence} {n:Nat} {P:Program} {ops:Array Oper} {Q:Exit->Act->World->Prop}
theorem BO (F:List Nat) (hf:Dr ops=true) (hw:lP ops F=true) (I:(Nat->Bool)->Act->World->Prop)
  (hstep:∀i∈F,∀o,ops[i]?=some o->∀L a w,I L a w->L i=false->(∀e∈o.after,Region.binds .any e=true->L e.on=true)->wpOpIn Fe n P ops Q i (I (λj=>if j=i then true else L j)) a w)
  (sK:∀L a w,I L a w->(∀i∈F,L i=true)->∀fuel,((List.range ops.size).filter λj=>!((fH ops.size F).getD j true)).length<=fuel->wpAnyIn Fe n P .any ops Q fuel (fH ops.size F) a w):
  ∀(fuel:Nat) (listed:Array Bool) (a:Act) (w:World),qU ops.size F listed->pA ops listed->I (λj=>listed.getD j false) a w ->
   ((List.range ops.size).filter λj=>!(listed.getD j true)).length<=fuel->wpAnyIn Fe n P .any ops Q fuel listed a w:=by
 have all:∀(fuel:Nat) (listed:Array Bool) (a:Act) (w:World),qU ops.size F listed->I (λj=>listed.getD j false) a w ->
   ((List.range ops.size).filter λj=>!(listed.getD j true)).length<=fuel->(∀i∈F,listed.getD i false=true)->wpAnyIn Fe n P .any ops Q fuel listed a w:=by
  intro fuel listed a w hr hI hc hall
  have e:listed=fH ops.size F:=by
   apply Array.ext
   ·rw[hr.1]; simp[fH]
   ·intro i h1 h2
    have hi:i<ops.size:=by rw[<-hr.1]; exact h1
    simp only[fH,List.getElem_toArray,List.getElem_map,List.getElem_range]
    cases hF:F.contains i with
    |true=>
     have:=hall i (by simpa using hF)
     simpa [h1] using this
    |false=>
     have:=hr.2 i hi hF
     simpa [h1] using this
  have hI':=sK _ a w hI hall
  rw[<-e]at hI'
  exact hI' fuel hc
 have hlt:∀j∈F,j<ops.size:=by
  intro j hj
  simp only[lP,Bool.and_eq_true,List.all_eq_true,decide_eq_true_eq]at hw
  exact hw.1 j hj
 have EB:∀i,i<ops.size->i∈F\/∀j∈F,j∈before ops ops.size i:=by
  intro i hi
  simp only[lP,Bool.and_eq_true,List.all_eq_true,List.mem_range,Bool.or_eq_true,List.contains_iff_mem]at hw
  exact hw.2 i hi
 intro fuel
 induction fuel with
 |zero=>
  intro listed a w hr nR hI hc
  refine all 0 listed a w hr hI hc (λi hi=>?_)
  rcases Nat.lt_or_ge i ops.size with h'|h'
  ·have h0:(List.range ops.size).filter (λj=>!(listed.getD j true))=[]:=List.eq_nil_of_length_eq_zero (by omega)
   have:=List.filter_eq_nil_iff.1 h0 i (List.mem_range.2 h')
   have hsz:i<listed.size:=by rw[hr.1]; exact h'
   simpa [hsz] using this
  ·exfalso
   have:=hlt i hi
   omega
 |succ fuel ih=>
  intro listed a w hr nR hI hc
  by_cases hall:∀i∈F,listed.getD i false=true
  ·exact all _ listed a w hr hI hc hall
  ·have hx:∃i∈F,¬listed.getD i false=true:=by
    apply Classical.byContradiction
    intro h
    exact hall (λi hi=>Classical.byContradiction λh'=>h ⟨i,hi,h'⟩)
   obtain⟨k,hk,Po⟩:=hx
   have hks:=hlt k hk
   have Mh:listed.getD k true=false:=by
    have:k<listed.size:=by rw[hr.1]; exact hks
    simp[this]at Po ⊢
    exact Po
   refine⟨λh=>absurd h (tE hf hks Mh hr.1),λi hi=>?_⟩
   obtain⟨Mg,o,ho,hpre⟩:=mem_ready.1 hi
   have FA:i<ops.size:=by
    rcases Nat.lt_or_ge i ops.size with h'|h'
    ·exact h'
    ·rw[Array.getElem?_eq_none h']at ho; cases ho
   have Ph:i∈F:=by
    apply Classical.byContradiction
    intro hn
    have FI:=(EB i FA).resolve_left hn
    apply hall
    intro j hj
    refine mC nR ops.size i (λo' uW e he hb=>?_) j (FI j hj)
    rw[ho]at uW
    injection uW with uW
    subst uW
    exact hpre e he hb
   have hno:listed.getD i false=false:=by
    have hs:i<listed.size:=by rw[hr.1]; exact FA
    simp[hs]at Mg ⊢
    exact Mg
   refine wpOpIn_mono (λa' w' h'=>ih _ a' w' ⟨by rw[Array.size_setIfInBounds]; exact hr.1,λj hj hF=>?_⟩ (nR.set hi) ?_ ?_) (hstep i Ph o ho _ a w hI hno (λe he hb=>hpre e he hb))
   ·have hij:i≠j:=by
     rintro rfl
     have:F.contains i=true:=by simpa using Ph
     rw[this]at hF; cases hF
    have:=hr.2 j hj hF
    simpa [Array.getElem?_setIfInBounds_ne hij] using this
   ·have e:(λj=>(listed.setIfInBounds i true).getD j false)=(λj=>if j=i then true else listed.getD j false):=by
     funext j
     by_cases hij:j=i
     ·subst hij
      have:j<listed.size:=by rw[hr.1]; exact FA
      simp[this]
     ·simp[Array.getElem?_setIfInBounds_ne (Ne.symm hij),hij]
    rw[e]; exact h'
   ·have:=rY hr.1 FA Mg
    omega
theorem zA {id:Nat} {l:List Oper} (hm:P.follows .mixedOrders=true) (hok:gX l.toArray=true) (I:(Nat->Bool)->Act->World->Prop)
  {a:Act} {w:World} (h0:I (λ_=>false) a w.drew) (hstep:∀i o,l[i]?=some o->∀L a w,I L a w->L i=false->(∀j∈wQ o,L j=true)->wpOpIn Fe n P l.toArray Q i (I (λj=>if j=i then true else L j)) a w)
  (sK:∀L a w,I L a w->(∀i,i<l.length->L i=true)->Q .normal a w):(Code.region id l.toArray true).wpIn Fe n P Q a w:=by
 simp only[gX,Bool.and_eq_true,decide_eq_true_eq]at hok
 obtain⟨h1,h3⟩:=hok
 have hF:fH l.toArray.size (List.range l.toArray.size)=Array.replicate l.toArray.size true:=by
  apply Array.ext
  ·simp[fH]
  ·intro i h1 h2
   have hi:i<l.length:=by simpa [fH] using h1
   simp[fH,hi]
 refine wpIn_region_any hm (BO (List.range l.toArray.size) h1 ?_ I (λi hi o ho L a w hI hno hpre=>?_) (λL a w hI hall fuel hfl=>?_) l.toArray.size _ a _ ⟨by simp,λi hi _=>(by have hi':i<l.length:=(by simpa using hi); simp[hi'])⟩ ?_ ?_ ?_)
 ·simp only[lP,Bool.and_eq_true,List.all_eq_true,decide_eq_true_eq,List.mem_range,Bool.or_eq_true]
  exact⟨λj hj=>hj,λi hi=>.inl (by simpa using hi)⟩
 ·have uW:l[i]?=some o:=by simpa using ho
  exact hstep i o uW L a w hI hno (λj hj=>by
   simp only[wQ,List.mem_map,List.mem_filter]at hj
   obtain⟨e,⟨he,hb⟩,rfl⟩:=hj
   exact hpre e (by simpa using he) hb)
 ·rw[hF]
  have hq:=sK L a w hI (λi hi=>hall i (List.mem_range.2 (by simpa using hi)))
  cases fuel with
  |zero=>exact⟨h3,hq⟩
  |succ n=>exact⟨λ_=>hq,by rw[h3]; simp⟩
 ·intro i o ho hl
  exfalso
  rcases Nat.lt_or_ge i l.toArray.size with h'|h'
  ·have h2:i<l.length:=by simpa using h'
   simp[h2]at hl
  ·have h2:l.length<=i:=by simpa using h'
   simp[h2]at hl
 ·have e:(λj=>(Array.replicate l.toArray.size false).getD j false)=(λ_=>false):=by
   funext j
   rcases Nat.lt_or_ge j l.length with h'|h'
   ·simp[h']
   ·simp[h']
  rw[e]; exact h0
 ·have:=List.length_filter_le (λj=>!((Array.replicate l.toArray.size false).getD j true)) (List.range l.toArray.size)
  rw[List.length_range]at this
  exact this
end
def zU (ro:Option Nat):Fence:={ Fence.wide with round:=ro }
def kH (ds:List Deferred) (a:Act):Act:={ a with defers:=ds++a.defers }
def gz (o:Oper):Bool:=match o.op with
 |.defer _=>false
 |_=>true
def _root_.Go.Code.ww (ro:Option Nat) (ds:List Deferred) (P:Program) (c:Code) (Q:Exit->Act->World->Prop) (a:Act) (w:World):Prop:=
 ∀n,c.wpIn (zU ro) n P (λe a' w'=>∃a0,a'=kH ds a0/\Q e a0 w') (kH ds a) w
theorem si (ds:List Deferred) (a:Act):(kH ds a).eval=a.eval:=by funext x; cases x<;>rfl
theorem rf (ds:List Deferred) (a:Act) (d:Option Nat) (v:Value):(kH ds a).put d v=kH ds (a.put d v):=by cases d<;>rfl
variable {ro:Option Nat} {n:Nat} {P:Program} {w:World}
theorem pF {f:FuncId} {args:Array Value} {R:Ending->World->Prop} (h:Calls P f args w R):CallsIn (zU ro) n P f args w R:=(callsIn_wide (n:=n)).2 h
theorem cO.Gn {ds:List Deferred} {ops:Array Oper} {Q:Exit->Act->World->Prop} {i:Nat} {o:Oper} {a:Act} {K K':Act->World->Prop} (hi:ops[i]?=some o) (hd:gz o=true) (h:cO P ops o a w K) (hK:∀a w,K a w->K' (kH ds a) w):
  wpOpIn (zU ro) n P ops Q i K' (kH ds a) w:=by
 unfold wpOpIn
 rw[hi]
 unfold cO at h
 have hy:yielded ops (kH ds a).tmps=yielded ops a.tmps:=rfl
 simp only[hy]
 split
 ·rename_i hw
  rw[if_pos hw]at h
  unfold Oper.wpIn
  refine⟨λ_ _=>trivial,?_⟩
  rw[si,Oper.semAt_eq _ _ _ (λc hc=>by unfold gz at hd; rw[hc]at hd; cases hd)]
  unfold Does at h
  generalize (execOp a.eval o).run P w=r at *
  cases r with
  |ok x w'=>
   cases x<;>simp only[Oper.uponIn]at h ⊢<;>first|(rw[rf]; exact hK _ _ h)|exact h.elim|skip
   case enter f args=>
    refine⟨λh=>(by cases h),CallsIn.mono (pF h) λe w'' he=>?_⟩
    obtain⟨v,rfl,hk⟩:=he
    show K' ((kH ds a).put o.dst v) w''
    rw[rf]
    exact hK _ _ hk
  |halt x w'=>cases x<;>exact h.elim
 ·rename_i hw
  rw[if_neg hw]at h
  refine⟨λ_ _=>trivial,?_⟩
  rw[rf]
  exact hK _ _ h
section
variable {ro:Option Nat} {ds:List Deferred} {P:Program} {Q:Exit->Act->World->Prop} {a:Act} {w:World} {c:cM} {V:List Vr} {A:List Al} {G:List aV}{x:Code}
theorem J0 {Q':Exit->Act->World->Prop} (h:x.ww ro ds P Q a w) (hq:∀e a w,Q e a w->Q' e a w):x.ww ro ds P Q' a w:=λn=>wpIn_mono (h n) λ_ _ _ ⟨a0,e0,h0⟩=>⟨a0,e0,hq _ _ _ h0⟩
theorem aB (h:Q .normal a w):Code.skip.ww ro ds P Q a w:=λ_=>wpIn_skip ⟨_,rfl,h⟩
variable {id:Nat}
theorem cj (h:Q (.exit id) a w):(Code.exit id).ww ro ds P Q a w:=λ_=>wpIn_exit ⟨_,rfl,h⟩
theorem aJ (h:Q .ret a w):Code.ret.ww ro ds P Q a w:=λ_=>wpIn_ret ⟨_,rfl,h⟩
variable {y:Code}
theorem av (h:x.ww ro ds P (Exit.then (y.ww ro ds P Q) Q) a w):(Code.seq x y).ww ro ds P Q a w:=λn=>wpIn_seq (wpIn_mono (h n) λe a' w' ⟨a0,e0,h0⟩=>by
 subst e0
 cases e with
 |normal=>exact h0 n
 |_=>exact⟨a0,rfl,h0⟩)
theorem aD (h:x.ww ro ds P (Exit.inBlock id Q) a w):(Code.block id x).ww ro ds P Q a w:=λn=>wpIn_block (wpIn_mono (h n) λe a' w' ⟨a0,e0,h0⟩=>by
 subst e0
 cases e with
 |exit m=>
  by_cases hm:m=id
  ·subst hm; simp only[Exit.inBlock,if_true]at h0 ⊢; exact⟨a0,rfl,h0⟩
  ·simp only[Exit.inBlock,hm,if_false]at h0 ⊢; exact⟨a0,rfl,h0⟩
 |_=>exact⟨a0,rfl,h0⟩)
theorem rJ {s:Operand} {t:Bool} (hc:a.eval s=.bool t) (ht:t=true->x.ww ro ds P Q a w) (hf:t=false->y.ww ro ds P Q a w):(Code.cond s x y).ww ro ds P Q a w:=λn=>wpIn_cond_split (t:=t) (by rw[si]; exact hc) (λh=>ht h n) (λh=>hf h n)
theorem JZ {ι:Type} {C:Code} (I:ι->Act->World->Prop) (μ:ι->Nat) (k0:ι) (h0:I k0 a w)
  (round:∀k a w,I k a w->C.ww ro ds P (Exit.then (λa' w'=>∃k',I k' a' w'/\μ k'<μ k) Q) a w):(Code.loop C).ww ro ds P Q a w:=by
 intro n
 refine wpIn_loop_rounds (μ k0+1) ?_
 have key:∀m k a w,I k a w->μ k<m->Code.roundsIn (zU ro) n P C (λe a' w'=>∃a0,a'=kH ds a0/\Q e a0 w') m (kH ds a) w:=by
  intro m
  induction m with
  |zero=>intro k a w _ h; omega
  |succ m ih=>
   intro k a w hI hm
   rw[roundsIn_succ]
   refine wpIn_mono (round k a w hI n) λe a' w' ⟨a0,e0,h'⟩=>?_
   subst e0
   cases e with
   |normal=>
    obtain⟨k',hI',hlt⟩:=h'
    exact ih k' a0 w' hI' (by omega)
   |_=>exact⟨a0,rfl,h'⟩
 exact key _ k0 a w h0 (by omega)
variable {l:List Oper}
theorem Hp (ms:List Nat) (hm:P.follows .mixedOrders=true) (hok:gX l.toArray=true) (yC:ve l=ms) (hwf:tU c.N l V A G=true) (ND:l.all gz=true)
  (h0:Inv c V A G none_ a w) (hs:qH P l.toArray ms c V A G 0 l) (hk:∀a w,Inv c V A G (λ_=>true) a w->Q .normal a w):(Code.region id l.toArray true).ww ro ds P Q a w:=by
 intro n
 have wE:=yU l
 rw[yC]at wE
 refine zA hm hok (λL a' w=>∃a,a'=kH ds a/\Inv c V A G L a w/\lR l L) ⟨a,rfl,?_,λi o _ h=>by cases h⟩ ?_ ?_
 ·obtain⟨β,hβ⟩:=h0
  exact⟨β,hβ.draws⟩
 ·rintro i o hi L _ w ⟨a,rfl,hI,hc⟩ hno hpre
  have wD:mB ms i L:=⟨hno,λj hj=>wE.2 L hc i o hi hpre j hj,λj hj=>by
   cases hL:L j with
   |false=>rfl
   |true=>
    cases Mp:l[j]? with
    |none=>
     have h1:=wE.1
     rw[List.getD_eq_getElem?_getD,List.getElem?_eq_none (by have:=List.getElem?_eq_none_iff.1 Mp; omega)]at hj
     simp at hj
    |some oj=>
     have:=wE.2 L hc j oj Mp (λm hm=>hc j oj Mp hL m hm) i hj
     rw[hno]at this
     cases this⟩
  have nR:lR l (upd L i):=by
   intro k ok sI hL j hj
   by_cases Pn:k=i
   ·subst Pn
    rw[hi]at sI
    injection sI with sI
    subst sI
    have:=hpre j hj
    unfold upd
    split
    ·rfl
    ·exact this
   ·have:=hc k ok sI (Hf hL Pn) j hj
    unfold upd
    split
    ·rfl
    ·exact this
  have hop:=hs.get hi
  rw[Nat.zero_add]at hop
  exact(hop L a w hI wD (tV hwf hi)).Gn (by simpa using hi) (List.all_eq_true.1 ND o (List.mem_of_getElem? hi)) λa' w' h'=>⟨a',rfl,h',nR⟩
 ·rintro L _ w ⟨a,rfl,⟨β,hI⟩,_⟩ hall
  exact⟨a,rfl,hk a w ⟨β,hI.congr (ig hwf) hall⟩⟩
theorem J2 (hwf:tU c.N l V A G=true) (ND:l.all gz=true)
  (h0:Inv c V A G none_ a w) (hs:qH P l.toArray (aU l.length) c V A G 0 l) (hk:∀a w,Inv c V A G (λ_=>true) a w->Q .normal a w):(Code.region id l.toArray false).ww ro ds P Q a w:=by
 intro n
 refine wpIn_region ?_
 have tm:∀k j,((aU l.length).getD k 0).testBit j=true->j<k:=by
  intro k j h
  rcases Nat.lt_or_ge k l.length with h'|h'
  ·have e:(aU l.length).getD k 0=2^k-1:=by simp[aU,h']
   rw[e,Nat.testBit_two_pow_sub_one]at h
   simpa using h
  ·have e:(aU l.length).getD k 0=0:=by simp[aU,Nat.not_lt.2 h']
   rw[e]at h
   simp at h
 have key:∀(m i:Nat),i+m=l.length->∀(a:Act) (w:World),Inv c V A G (λj=>decide (j<i)) a w->wpOpsIn (zU ro) n P l.toArray (λe a' w'=>∃a0,a'=kH ds a0/\Q e a0 w') (List.range' i m) (kH ds a) w:=by
  intro m
  induction m with
  |zero=>
   rintro i hi a w ⟨β,hI⟩
   exact⟨a,rfl,hk a w ⟨β,hI.congr (ig hwf) λj hj=>by simp; omega⟩⟩
  |succ m ih=>
   intro i hi a w hI
   obtain⟨o,ho⟩:∃o,l[i]?=some o:=⟨l[i]'(by omega),List.getElem?_eq_getElem (by omega)⟩
   rw[List.range'_succ,wpOpsIn_cons]
   have wD:mB (aU l.length) i (λj=>decide (j<i)):=⟨by simp,λj hj=>by simpa using tm i j hj,λj hj=>by have:=tm j i hj; simp; omega⟩
   have hop:=hs.get ho
   rw[Nat.zero_add]at hop
   refine(hop _ a w hI wD (tV hwf ho)).Gn (by simpa using ho) (List.all_eq_true.1 ND o (List.mem_of_getElem? ho)) λa' w' h'=>ih (i+1) (by omega) a' w' ?_
   have e:upd (λj=>decide (j<i)) i=(λj=>decide (j<i+1)):=by
    funext j
    unfold upd
    by_cases h:j=i
    ·simp[h]
    ·rw[if_neg h]
     by_cases h2:j<i
     ·simp[h2]; omega
     ·simp[h2]; omega
   rw[<-e]
   exact h'
 have:=key l.length 0 (by omega) a w (by
  have e:(λj=>decide (j<0))=none_:=by funext j; simp
  rw[e]
  exact h0)
 rwa [<-List.range_eq_range',show l.length=l.toArray.size by simp]at this
end
end Wx

namespace Wx
open Go Go.RowKit
abbrev Uc (i s:Nat) (p:Pred):aV:=⟨some i,none,s,p⟩
abbrev Uz (s:Nat) (p:Pred):aV:=⟨none,none,s,p⟩
variable {p q:Pred}
theorem Hu (h:∀w v,p w v->q w v:=by
 first
 |exact zj (by omega)
 |exact CR (by omega)
 |exact po.pV (by repeat' (first|exact po.z|refine po.c (by omega) ?_))
 |exact cG (by omega)
 |exactλ_ _ h=>h
 |exact P4 rfl (by omega)
 |exact P6 rfl (by omega)):∀w v,p w v->q w v:=h
def J6 (G:List aV):List aV->Prop
 |[]=>True
 |e::es=>((e.tag=none/\e.till=none)/\∃p:Pred,(fD e.slot G=some p\/∃k:Nat,G[k]?=some ⟨none,none,e.slot,p⟩)/\∀w v,p w v->e.p w v)/\J6 G es
variable {G:List aV}
theorem J6.ok:∀{G':List aV},J6 G G'->xy G G'
 |[],_=>trivial
 |_::_,⟨⟨⟨h1,h2⟩,p,h3,h4⟩,h5⟩=>⟨⟨h1,h2,(h3.elim (λh3=>dn h3) λh3=>h3).elim λk hk=>⟨k,p,hk,h4⟩⟩,J6.ok h5⟩
def J7 (V:List Vr):List Vr->Prop
 |[]=>True
 |x::xs=>(∃p:Rel,lO x.id V=some ⟨x.id,x.slot,none,none,x.kd,x.T,x.n,x.agg,p,[]⟩/\(x.born=none/\x.dead=none/\x.st=[])/\∀F w v,p F w v->x.c0 F w v)/\J7 V xs
variable {V:List Vr}
theorem J7.ok:∀{V':List Vr},J7 V V'->xC V V'
 |[],_=>trivial
 |_::_,⟨⟨p,h1,h2,h3⟩,h4⟩=>⟨(dX h1).1.elim λk hk=>⟨k,_,p,hk,h2,rfl,h3⟩,J7.ok h4⟩
variable {s:Nat}
theorem gc (h:fD s G=some p:=by exact rfl) (hq:∀w v,p w v->q w v:=by exact Hu):((Uz s q).tag=none/\(Uz s q).till=none)/\∃p:Pred,(fD (Uz s q).slot G=some p\/∃k:Nat,G[k]?=some ⟨none,none,(Uz s q).slot,p⟩)/\∀w v,p w v->(Uz s q).p w v:=⟨⟨rfl,rfl⟩,p,.inl h,hq⟩
theorem gC (hq:∀w v,p w v->q w v) (h:fD s G=some p:=by exact rfl):((Uz s q).tag=none/\(Uz s q).till=none)/\∃p:Pred,(fD (Uz s q).slot G=some p\/∃k:Nat,G[k]?=some ⟨none,none,(Uz s q).slot,p⟩)/\∀w v,p w v->(Uz s q).p w v:=⟨⟨rfl,rfl⟩,p,.inl h,hq⟩
theorem gi (h:fD s G=some p:=by exact rfl):((Uz s p).tag=none/\(Uz s p).till=none)/\∃q:Pred,(fD (Uz s p).slot G=some q\/∃k:Nat,G[k]?=some ⟨none,none,(Uz s p).slot,q⟩)/\∀w v,q w v->(Uz s p).p w v:=⟨⟨rfl,rfl⟩,p,.inl h,λ_ _ h=>h⟩
theorem gq (n:Nat) (h:G[n]?=some ⟨none,none,s,q⟩:=by exact rfl):((Uz s q).tag=none/\(Uz s q).till=none)/\∃p:Pred,(fD (Uz s q).slot G=some p\/∃k:Nat,G[k]?=some ⟨none,none,(Uz s q).slot,p⟩)/\∀w v,p w v->(Uz s q).p w v:=⟨⟨rfl,rfl⟩,q,.inr ⟨n,h⟩,λ_ _ h=>h⟩
abbrev Vz (i s:Nat) (T:TypeId) (n:Nat) (ag:Bool) (p:Pred):Vr:=⟨i,s,none,none,.ptr,T,n,ag,pv p,[]⟩
variable {i T n:Nat} {ag:Bool}
theorem vc (h:lO i V=some (Vz i s T n ag p):=by exact rfl) (hq:∀w v,p w v->q w v:=by exact Hu):∃r:Rel,lO (Vz i s T n ag q).id V=some ⟨(Vz i s T n ag q).id,(Vz i s T n ag q).slot,none,none,(Vz i s T n ag q).kd,(Vz i s T n ag q).T,(Vz i s T n ag q).n,(Vz i s T n ag q).agg,r,[]⟩/\((Vz i s T n ag q).born=none/\(Vz i s T n ag q).dead=none/\(Vz i s T n ag q).st=[])/\∀F w v,r F w v->(Vz i s T n ag q).c0 F w v:=⟨pv p,h,⟨rfl,rfl,rfl⟩,λ_=>hq⟩
theorem vi (h:lO i V=some (Vz i s T n ag p):=by exact rfl):∃r:Rel,lO (Vz i s T n ag p).id V=some ⟨(Vz i s T n ag p).id,(Vz i s T n ag p).slot,none,none,(Vz i s T n ag p).kd,(Vz i s T n ag p).T,(Vz i s T n ag p).n,(Vz i s T n ag p).agg,r,[]⟩/\((Vz i s T n ag p).born=none/\(Vz i s T n ag p).dead=none/\(Vz i s T n ag p).st=[])/\∀F w v,r F w v->(Vz i s T n ag p).c0 F w v:=⟨_,h,⟨rfl,rfl,rfl⟩,λ_ _ _ h=>h⟩
theorem vC (hq:∀w v,p w v->q w v) (h:lO i V=some (Vz i s T n ag p):=by exact rfl):∃r:Rel,lO (Vz i s T n ag q).id V=some ⟨(Vz i s T n ag q).id,(Vz i s T n ag q).slot,none,none,(Vz i s T n ag q).kd,(Vz i s T n ag q).T,(Vz i s T n ag q).n,(Vz i s T n ag q).agg,r,[]⟩/\((Vz i s T n ag q).born=none/\(Vz i s T n ag q).dead=none/\(Vz i s T n ag q).st=[])/\∀F w v,r F w v->(Vz i s T n ag q).c0 F w v:=⟨pv p,h,⟨rfl,rfl,rfl⟩,λ_=>hq⟩
section
variable {P:Program} {w:World} {fn:Func}
end
section
variable {P:Program} {Q:Exit->Act->World->Prop} {c:cM} {V:List Vr} {G:List aV} {a:Act} {w:World} {fn:Func}
theorem Inv.cv {V':List Vr} {G':List aV} (h:Inv c V [] G none_ a w) (hV:J7 V V') (hG:J6 G G'):Inv c V' [] G' none_ a w:=h.conv hV.ok hG.ok
theorem uq {ι:Type} {V1:ι->List Vr} {G1:ι->List aV} {φ:ι->Prop} {μ:ι->Nat} {k:ι} (k':ι) (h:φ k') (hI:Inv c V [] G none_ a w) (hV:J7 V (V1 k')) (hG:J6 G (G1 k')) (hm:μ k'<μ k):∃k',(φ k'/\Inv c (V1 k') [] (G1 k') none_ a w)/\μ k'<μ k:=⟨k',⟨h,hI.cv hV hG⟩,hm⟩
variable {p q:Pred}
theorem rt {s:Nat} (hq:∀w v,q w v->p w v) (h:fD s G=some q:=by exact rfl):cZ P V G (.tmp s) p:=(dn h).elim λk hk=>.imp (.tmp k hk) hq
theorem f1 {r:ResultVar} (hI:Inv c V [] G none_ a w) (h:cZ P V G r p:=by exact rt Hu) (hr:fn.results=#[r]:=by exact rfl) (hn:∀k,¬c.gw k:=by exactλ_ h=>h):bodyPost P fn (bD c.M0 p c.w0) .ret a w:=dB hI hr h hn
variable {r1 r2:ResultVar}
theorem f2 (hI:Inv c V [] G none_ a w) (h1:cZ P V G r1 p:=by exact rt Hu) (h2:cZ P V G r2 q:=by exact rt Hu) (hr:fn.results=#[r1,r2]:=by exact rfl) (hn:∀k,¬c.gw k:=by exactλ_ h=>h):bodyPost P fn (bD c.M0 (fJ p q) c.w0) .ret a w:=kT hI hr h1 h2 hn
theorem f3 {r3:ResultVar} {r:Pred} (hI:Inv c V [] G none_ a w) (h1:cZ P V G r1 p:=by exact rt Hu) (h2:cZ P V G r2 q:=by exact rt Hu) (h3:cZ P V G r3 r:=by exact rt Hu) (hr:fn.results=#[r1,r2,r3]:=by exact rfl) (hn:∀k,¬c.gw k:=by exactλ_ h=>h):bodyPost P fn (bD c.M0 (zl p q r) c.w0) .ret a w:=Rt hI hr h1 h2 h3 hn
end
end Wx

namespace Wx
open Go Go.RowKit
inductive Zf
 |o (z:Zl)
 |m (l:List Zl)
def Zf.cs:Zf->List Value
 |.o z=>z.cs
 |.m l=>l.flatMap Zl.cs
def Zf.fd:Zf->Fd
 |.o z=>z.fd
 |.m l=>⟨true,(l.flatMap Zl.cs).length,pS (l.map Zl.fd)⟩
def Zf.size:Zf->Nat
 |.o .r|.o .f=>3
 |.o _=>1
 |.m l=>(l.flatMap Zl.cs).length
theorem Qh (w:World):∀l:List Zf,aI (l.map Zf.fd) w (l.flatMap Zf.cs):=by
 intro l
 induction l with
 |nil=>rfl
 |cons z l ih=>
  cases z with
  |o z=>
   have h:=Lk w [z]
   obtain⟨h1,h2,h3⟩:=h
   simp only[List.flatMap_cons,List.flatMap_nil,List.append_nil]at h1 h2 h3
   have h3:(Zl.cs z).drop (Zl.fd z).n=[]:=h3
   have e:(Zl.cs z).length=(Zl.fd z).n:=by cases z<;>rfl
   refine⟨?_,?_,?_⟩
   ·show(Zl.fd z).n<=(Zl.cs z++l.flatMap Zf.cs).length; rw[List.length_append]; omega
   ·show(Zl.fd z).p w (au (Zl.fd z).agg ((Zl.cs z++l.flatMap Zf.cs).take (Zl.fd z).n))
    rw[List.take_append_of_le_length (by omega)]; exact h2
   ·show aI (l.map Zf.fd) w ((Zl.cs z++l.flatMap Zf.cs).drop (Zl.fd z).n)
    rw[List.drop_append_of_le_length (by omega),h3]; exact ih
  |m zs=>
   refine⟨?_,?_,?_⟩
   ·show(zs.flatMap Zl.cs).length<=(zs.flatMap Zl.cs++l.flatMap Zf.cs).length; rw[List.length_append]; omega
   ·show pS (zs.map Zl.fd) w (au true ((zs.flatMap Zl.cs++l.flatMap Zf.cs).take (zs.flatMap Zl.cs).length))
    rw[List.take_left']
    ·exact BR zs w
    ·rfl
   ·show aI (l.map Zf.fd) w ((zs.flatMap Zl.cs++l.flatMap Zf.cs).drop (zs.flatMap Zl.cs).length)
    rw[List.drop_left']
    ·exact ih
    ·rfl
def Th:Nat->List Zf->List (Nat×Nat)
 |_,[]=>[]
 |o,z::l=>(o,z.size)::Th (o+z.size) l
inductive jl:List Fd->List Fd->Prop
 |z:jl [] []
 |k {f:Fd} {fs hs:List Fd}:jl fs hs->jl (f::fs) (f::hs)
 |m {n:Nat} {gs fs hs r:List Fd}:jl fs hs->xP gs (some hs)=some r->jl (⟨true,n,pS gs⟩::fs) r
variable {fs hs:List Fd}
theorem jl.ok (h:jl fs hs):∀{w:World} {cs:List Value},aI fs w cs->aI hs w cs:=by
 induction h with
 |z=>exactλh=>h
 |k _ ih=>exact λ⟨h1,h2,h3⟩=>⟨h1,h2,ih h3⟩
 |m _ hc ih=>
  rintro w cs ⟨h1,⟨ds,e,h2⟩,h3⟩
  have e:=cg (show au true (cs.take _)=au true ds from e)
  subst e
  have:=wg hc h2 (ih h3)
  rwa [List.take_append_drop]at this
theorem jl.pS (h:jl fs hs):∀w v,Wx.pS fs w v->Wx.pS hs w v:=λ_ _ ⟨cs,e,hc⟩=>⟨cs,e,h.ok hc⟩
theorem Post.down {G:List aV} {i:Nat} {p q:Pred} (h:Post G i q) (hq:∀w v,p w v->q w v):Post G i p:=by
 cases h with
 |at_ k s r h hr=>exact .at_ k s r h λw v hp=>hr w v (hq w v hp)
 |none h=>exact .none h
section
variable {P:Program} {ops:Array Oper} {ms:List Nat} {c:cM} {V:List Vr} {A:List Al} {G:List aV} {i:Nat}{d:Nat} {x y z:Operand} {ty:TypeId} {pos:String} {aL:Array Edge}
def UR (fs:List Fd) (pf:Nat->Option (Nat×Nat)):Bool:=(List.range fs.length).all λk=>match fs[k]? with
 |some f=>pf k==some (bg fs k,f.n)
 |none=>true
variable {fs:List Fd} {pf:Nat->Option (Nat×Nat)}
theorem MV (h:UR fs pf=true):∀(k:Nat) (f:Fd),fs[k]?=some f->pf k=some (bg fs k,f.n):=by
 intro k f hk
 have hlt:k<fs.length:=by
  rcases Nat.lt_or_ge k fs.length with h'|h'
  ·exact h'
  ·rw[List.getElem?_eq_none h']at hk; cases hk
 have:=List.all_eq_true.1 h k (List.mem_range.2 hlt)
 rw[hk]at this
 simpa using this
variable {T:TypeId} {parts:Array (Nat×Operand)} {gs:List Fd}
theorem DZ {z:List Value} {ps:List (Nat×Pred)} (ht:∀parts,P.built T parts=Instr.fill pf z.toArray parts) (KD:∀(k:Nat) (f:Fd),fs[k]?=some f->pf k=some (bg fs k,f.n)) (hz:∀w,aI fs w z)
  (hps:dI ms G i fs parts.toList ps) (hg:mF fs ps=gs) (hp:Post G i (pS gs)):
  OpOk P ops ms c V A G i ⟨some d,.build T parts,ty,pos,aL,none⟩:=
 cq rfl rfl rfl (.inl rfl) hp λL β a w hI hd=>by
  have key:∀(xs:List (Nat×Operand)) (ps:List (Nat×Pred)),dI ms G i fs xs ps->aM (own c V L β) (λw=>qi fs w (xs.map λq=>(q.1,a.eval q.2)) ps) w:=by
   intro xs
   induction xs with
   |nil=>intro ps h; cases ps<;>exactλ_ _=>h
   |cons q xs ih=>
    intro ps h
    obtain⟨j,x⟩:=q
    cases ps with
    |nil=>exact h.elim
    |cons r ps=>
     obtain⟨k,p⟩:=r
     obtain⟨⟨e,h1,h2⟩,h3⟩:=h
     exactλw' he=>⟨⟨e,h1.spec hI hd w' he,h2⟩,ih ps h3 w' he⟩
  have hb:=key _ _ hps
  obtain⟨cs',h1,h2,h3⟩:=Ci (pl:=pf) _ _ fs z KD (hz w) hb.out
  refine⟨.agg cs'.toArray,w,?_,Below.refl _ _,λw' he=>?_⟩
  ·show(do pure (Next.value (<-Instr.build T (parts.map λ(i,x)=>(i,a.eval x))))).run P w=_
   have e:(parts.map λ(i,x)=>(i,a.eval x)).toList=parts.toList.map λq=>(q.1,a.eval q.2):=by simp
   rw[Sem.run_bind,run_build w T _ cs'.toArray (by rw[e,ht]; exact h1)]
   rfl
  ·rw[<-hg]
   exact P5 (h3 w' (hz w') (hb w' he))
theorem bd {hs:List Fd} (l:List Zf) (ps:List (Nat×Pred)) (hps:dI ms G i (l.map Zf.fd) parts.toList ps:=by repeat' (first|exact trivial|refine⟨⟨rfl,Wx.hs,_,rfl,uk⟩,?_⟩))
  (hg:mF (l.map Zf.fd) ps=gs:=by exact rfl) (hF:jl gs hs:=by repeat' (first|exact jl.z|exact rfl|apply jl.m|apply jl.k)) (hp:Post G i (pS hs):=by exact pt rfl) (ht:∀parts,P.built T parts=Instr.fill (λi=>(Th 0 l).toArray[i]?) (l.flatMap Zf.cs).toArray parts:=by(intro parts; kernel_rfl)) (KD:UR (l.map Zf.fd) (λi=>(Th 0 l).toArray[i]?)=true:=by kernel_rfl):
  OpOk P ops ms c V A G i ⟨some d,.build T parts,ty,pos,aL,none⟩:=
 DZ ht (MV KD) (λw=>Qh w l) hps hg (hp.down hF.pS)
theorem iA {p q:Int} (B:Int) (h1:-B<=p) (h2:p<=B) (h3:-B<=q) (h4:q<=B):-(B*B)<=p*q/\p*q<=B*B:=by
 have a1:p.natAbs<=B.natAbs:=by omega
 have a2:q.natAbs<=B.natAbs:=by omega
 have a3:=Nat.mul_le_mul a1 a2
 rw[<-Int.natAbs_mul,<-Int.natAbs_mul]at a3
 have a4:((B*B).natAbs:Int)=B*B:=Int.natAbs_of_nonneg (Int.mul_nonneg (by omega) (by omega))
 omega
theorem lV {s:Nat} {v:Vr} {al:Al} {F:Rat->Pred} {j:Nat} {l:List Rat} (q:Nat) (ha:Kc ms i s A=some al:=by exact rfl) (hv:lO al.var V=some v:=by exact rfl) (ho:bA ms i v=true:=by exact rfl) (bS:v.kd=.ptr:=by exact rfl) (hst:(v.st.all λq=>(ms.getD i 0).testBit q.1||(ms.getD q.1 0).testBit i)=true:=by kernel_rfl) (Dv:v.agg=true:=by exact rfl)
  (hc:cont (λj=>(ms.getD i 0).testBit j) v.c0 v.st=pv (pV F j l):=by exact rfl) (hq:q<l.length:=by omega) (hoff:al.off=q*3:=by(dsimp only<;>omega)) (hlen:al.off+3<=v.n:=by(dsimp only<;>omega)) (hcd:al.cond:=by trivial) (hp:Post G i (pQ F j (l.getD q 0)):=by exact pt rfl) (ht:He P T true 3=true:=by kernel_rfl):OpOk P ops ms c V A G i ⟨some d,.load T (.tmp s),ty,pos,aL,none⟩:=
 lB ha hv ho bS hst hc (bE ht) (by rw[Dv]; exact MT q hoff hq) hcd hp (decide_eq_true hlen)
end
end Wx
