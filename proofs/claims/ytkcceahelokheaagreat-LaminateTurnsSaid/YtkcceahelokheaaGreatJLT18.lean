import Derived.OrdersIn
import Derived.LoopNIn
import Derived.RangeFuncCalls
import Derived.TacticsIn
import Derived.Test.YtkcceahelokheaaGreatJLT17
namespace Wx
open Go Go.RowKit
section
variable {Fe:Fence} {n:Nat} {P:Program} {ops:Array Oper} {Q:Exit->Act->World->Prop}
theorem JE (F:List Nat) (hf:LK ops=true) (hw:rE ops F=true) (I:(Nat->Bool)->Act->World->Prop)
  (hstep:∀i∈F,∀o,ops[i]?=some o->∀L a w,I L a w->L i=false->(∀e∈o.after,Region.binds .any e=true->L e.on=true)->wpOpIn Fe n P ops Q i (I (λj=>if j=i then true else L j)) a w)
  (zy:∀L a w,I L a w->(∀i∈F,L i=true)->∀fuel,((List.range ops.size).filter λj=>!((jP ops.size F).getD j true)).length<=fuel->wpAnyIn Fe n P .any ops Q fuel (jP ops.size F) a w):
  ∀(fuel:Nat) (listed:Array Bool) (a:Act) (w:World),xT ops.size F listed->vH ops listed->I (λj=>listed.getD j false) a w ->
   ((List.range ops.size).filter λj=>!(listed.getD j true)).length<=fuel->wpAnyIn Fe n P .any ops Q fuel listed a w:=by
 have all:∀(fuel:Nat) (listed:Array Bool) (a:Act) (w:World),xT ops.size F listed->I (λj=>listed.getD j false) a w ->
   ((List.range ops.size).filter λj=>!(listed.getD j true)).length<=fuel->(∀i∈F,listed.getD i false=true)->wpAnyIn Fe n P .any ops Q fuel listed a w:=by
  intro fuel listed a w hr hI hc eG
  have e:listed=jP ops.size F:=by
   apply Array.ext
   ·rw[hr.1]; simp[jP]
   ·intro i h1 h2
    have hi:i<ops.size:=by rw[<-hr.1]; exact h1
    simp only[jP,List.getElem_toArray,List.getElem_map,List.getElem_range]
    cases hF:F.contains i with
    |true=>
     have:=eG i (by simpa using hF)
     simpa [h1] using this
    |false=>
     have:=hr.2 i hi hF
     simpa [h1] using this
  have hI':=zy _ a w hI eG
  rw[<-e]at hI'
  exact hI' fuel hc
 have hlt:∀j∈F,j<ops.size:=by
  intro j hj
  simp only[rE,Bool.and_eq_true,List.all_eq_true,decide_eq_true_eq]at hw
  exact hw.1 j hj
 have ND:∀i,i<ops.size->i∈F\/∀j∈F,j∈before ops ops.size i:=by
  intro i hi
  simp only[rE,Bool.and_eq_true,List.all_eq_true,List.mem_range,Bool.or_eq_true,List.contains_iff_mem]at hw
  exact hw.2 i hi
 intro fuel
 induction fuel with
 |zero=>
  intro listed a w hr qo hI hc
  refine all 0 listed a w hr hI hc (λi hi=>?_)
  rcases Nat.lt_or_ge i ops.size with h'|h'
  ·have h0:(List.range ops.size).filter (λj=>!(listed.getD j true))=[]:=List.eq_nil_of_length_eq_zero (by omega)
   have:=List.filter_eq_nil_iff.1 h0 i (List.mem_range.2 h')
   have hsz:i<listed.size:=by rw[hr.1]; exact h'
   simpa [hsz] using this
  ·exfalso
   have:=hlt i hi
   omega
 |succ fuel ih=>
  intro listed a w hr qo hI hc
  by_cases eG:∀i∈F,listed.getD i false=true
  ·exact all _ listed a w hr hI hc eG
  ·have hx:∃i∈F,¬listed.getD i false=true:=by
    apply Classical.byContradiction
    intro h
    exact eG (λi hi=>Classical.byContradiction λh'=>h ⟨i,hi,h'⟩)
   obtain⟨k,hk,OW⟩:=hx
   have hks:=hlt k hk
   have Vl:listed.getD k true=false:=by
    have:k<listed.size:=by rw[hr.1]; exact hks
    simp[this]at OW ⊢
    exact OW
   refine⟨λh=>absurd h (z6 hf hks Vl hr.1),λi hi=>?_⟩
   obtain⟨nZ,o,ho,hpre⟩:=mem_ready.1 hi
   have OV:i<ops.size:=by
    rcases Nat.lt_or_ge i ops.size with h'|h'
    ·exact h'
    ·rw[Array.getElem?_eq_none h']at ho; cases ho
   have YW:i∈F:=by
    apply Classical.byContradiction
    intro hn
    have LY:=(ND i OV).resolve_left hn
    apply eG
    intro j hj
    refine sB qo ops.size i (λo' yl e he hb=>?_) j (LY j hj)
    rw[ho]at yl
    injection yl with yl
    subst yl
    exact hpre e he hb
   have hno:listed.getD i false=false:=by
    have hs:i<listed.size:=by rw[hr.1]; exact OV
    simp[hs]at nZ ⊢
    exact nZ
   refine wpOpIn_mono (λa' w' h'=>ih _ a' w' ⟨by rw[Array.size_setIfInBounds]; exact hr.1,λj hj hF=>?_⟩ (qo.set hi) ?_ ?_) (hstep i YW o ho _ a w hI hno (λe he hb=>hpre e he hb))
   ·have hij:i≠j:=by
     rintro rfl
     have:F.contains i=true:=by simpa using YW
     rw[this]at hF; cases hF
    have:=hr.2 j hj hF
    simpa [Array.getElem?_setIfInBounds_ne hij] using this
   ·have e:(λj=>(listed.setIfInBounds i true).getD j false)=(λj=>if j=i then true else listed.getD j false):=by
     funext j
     by_cases hij:j=i
     ·subst hij
      have:j<listed.size:=by rw[hr.1]; exact OV
      simp[this]
     ·simp[Array.getElem?_setIfInBounds_ne (Ne.symm hij),hij]
    rw[e]; exact h'
   ·have:=yZ hr.1 OV nZ
    omega
theorem xz {id:Nat} {l:List Oper} (hm:P.follows .mixedOrders=true) (hok:iP l.toArray=true) (I:(Nat->Bool)->Act->World->Prop)
  {a:Act} {w:World} (h0:I (λ_=>false) a w.drew) (hstep:∀i o,l[i]?=some o->∀L a w,I L a w->L i=false->(∀j∈DM o,L j=true)->wpOpIn Fe n P l.toArray Q i (I (λj=>if j=i then true else L j)) a w)
  (zy:∀L a w,I L a w->(∀i,i<l.length->L i=true)->Q .normal a w):(Code.region id l.toArray true).wpIn Fe n P Q a w:=by
 simp only[iP,Bool.and_eq_true,decide_eq_true_eq]at hok
 obtain⟨h1,h3⟩:=hok
 have hF:jP l.toArray.size (List.range l.toArray.size)=Array.replicate l.toArray.size true:=by
  apply Array.ext
  ·simp[jP]
  ·intro i h1 h2
   have hi:i<l.length:=by simpa [jP] using h1
   simp[jP,hi]
 refine wpIn_region_any hm (JE (List.range l.toArray.size) h1 ?_ I (λi hi o ho L a w hI hno hpre=>?_) (λL a w hI eG fuel hfl=>?_) l.toArray.size _ a _ ⟨by simp,λi hi _=>(by have hi':i<l.length:=(by simpa using hi); simp[hi'])⟩ ?_ ?_ ?_)
 ·simp only[rE,Bool.and_eq_true,List.all_eq_true,decide_eq_true_eq,List.mem_range,Bool.or_eq_true]
  exact⟨λj hj=>hj,λi hi=>.inl (by simpa using hi)⟩
 ·have yl:l[i]?=some o:=by simpa using ho
  exact hstep i o yl L a w hI hno (λj hj=>by
   simp only[DM,List.mem_map,List.mem_filter]at hj
   obtain⟨e,⟨he,hb⟩,rfl⟩:=hj
   exact hpre e (by simpa using he) hb)
 ·rw[hF]
  have hq:=zy L a w hI (λi hi=>eG i (List.mem_range.2 (by simpa using hi)))
  cases fuel with
  |zero=>exact⟨h3,hq⟩
  |succ n=>exact⟨λ_=>hq,by rw[h3]; simp⟩
 ·intro i o ho hl
  exfalso
  rcases Nat.lt_or_ge i l.toArray.size with h'|h'
  ·have h2:i<l.length:=by simpa using h'
   simp[h2]at hl
  ·have h2:l.length<=i:=by simpa using h'
   simp[h2]at hl
 ·have e:(λj=>(Array.replicate l.toArray.size false).getD j false)=(λ_=>false):=by
   funext j
   rcases Nat.lt_or_ge j l.length with h'|h'
   ·simp[h']
   ·simp[h']
  rw[e]; exact h0
 ·have:=List.length_filter_le (λj=>!((Array.replicate l.toArray.size false).getD j true)) (List.range l.toArray.size)
  rw[List.length_range]at this
  exact this
end
def Ka (ro:Option Nat):Fence:={ Fence.wide with round:=ro }
def qB (ds:List Deferred) (a:Act):Act:={ a with defers:=ds++a.defers }
def iC (o:Oper):Bool:=match o.op with
 |.defer _=>false
 |_=>true
def _root_.Go.Code.ww (ro:Option Nat) (ds:List Deferred) (P:Program) (c:Code) (Q:Exit->Act->World->Prop) (a:Act) (w:World):Prop:=
 ∀n,c.wpIn (Ka ro) n P (λe a' w'=>∃a0,a'=qB ds a0/\Q e a0 w') (qB ds a) w
theorem y4 (ds:List Deferred) (a:Act):(qB ds a).eval=a.eval:=by funext x; cases x<;>rfl
theorem x7 (ds:List Deferred) (a:Act) (d:Option Nat) (v:Value):(qB ds a).put d v=qB ds (a.put d v):=by cases d<;>rfl
variable {ro:Option Nat} {n:Nat} {P:Program} {w:World}
theorem BA {f:FuncId} {args:Array Value} {R:Ending->World->Prop} (h:Calls P f args w R):CallsIn (Ka ro) n P f args w R:=(callsIn_wide (n:=n)).2 h
theorem bV.IM {ds:List Deferred} {ops:Array Oper} {Q:Exit->Act->World->Prop} {i:Nat} {o:Oper} {a:Act} {K K':Act->World->Prop} (hi:ops[i]?=some o) (hd:iC o=true) (h:bV P ops o a w K) (hK:∀a w,K a w->K' (qB ds a) w):
  wpOpIn (Ka ro) n P ops Q i K' (qB ds a) w:=by
 unfold wpOpIn
 rw[hi]
 unfold bV at h
 have hy:yielded ops (qB ds a).tmps=yielded ops a.tmps:=rfl
 simp only[hy]
 split
 ·rename_i hw
  rw[if_pos hw]at h
  unfold Oper.wpIn
  refine⟨λ_ _=>trivial,?_⟩
  rw[y4,Oper.semAt_eq _ _ _ (λc hc=>by unfold iC at hd; rw[hc]at hd; cases hd)]
  unfold Does at h
  generalize (execOp a.eval o).run P w=r at *
  cases r with
  |ok x w'=>
   cases x<;>simp only[Oper.uponIn]at h ⊢<;>first|(rw[x7]; exact hK _ _ h)|exact h.elim|skip
   case enter f args=>
    refine⟨λh=>(by cases h),CallsIn.mono (BA h) λe w'' he=>?_⟩
    obtain⟨v,rfl,hk⟩:=he
    show K' ((qB ds a).put o.dst v) w''
    rw[x7]
    exact hK _ _ hk
  |halt x w'=>cases x<;>exact h.elim
 ·rename_i hw
  rw[if_neg hw]at h
  refine⟨λ_ _=>trivial,?_⟩
  rw[x7]
  exact hK _ _ h
section
variable {ro:Option Nat} {ds:List Deferred} {P:Program} {Q:Exit->Act->World->Prop} {a:Act} {w:World} {c:fT} {V:List Vr} {A:List Al} {G:List bz}{x:Code}
theorem Tc {Q':Exit->Act->World->Prop} (h:x.ww ro ds P Q a w) (hq:∀e a w,Q e a w->Q' e a w):x.ww ro ds P Q' a w:=λn=>wpIn_mono (h n) λ_ _ _ ⟨a0,e0,h0⟩=>⟨a0,e0,hq _ _ _ h0⟩
theorem aJ (h:Q .normal a w):Code.skip.ww ro ds P Q a w:=λ_=>wpIn_skip ⟨_,rfl,h⟩
variable {id:Nat}
theorem bO (h:Q (.exit id) a w):(Code.exit id).ww ro ds P Q a w:=λ_=>wpIn_exit ⟨_,rfl,h⟩
theorem aL (h:Q .ret a w):Code.ret.ww ro ds P Q a w:=λ_=>wpIn_ret ⟨_,rfl,h⟩
variable {y:Code}
theorem az (h:x.ww ro ds P (Exit.then (y.ww ro ds P Q) Q) a w):(Code.seq x y).ww ro ds P Q a w:=λn=>wpIn_seq (wpIn_mono (h n) λe a' w' ⟨a0,e0,h0⟩=>by
 subst e0
 cases e with
 |normal=>exact h0 n
 |_=>exact⟨a0,rfl,h0⟩)
theorem aC (h:x.ww ro ds P (Exit.inBlock id Q) a w):(Code.block id x).ww ro ds P Q a w:=λn=>wpIn_block (wpIn_mono (h n) λe a' w' ⟨a0,e0,h0⟩=>by
 subst e0
 cases e with
 |exit m=>
  by_cases hm:m=id
  ·subst hm; simp only[Exit.inBlock,if_true]at h0 ⊢; exact⟨a0,rfl,h0⟩
  ·simp only[Exit.inBlock,hm,if_false]at h0 ⊢; exact⟨a0,rfl,h0⟩
 |_=>exact⟨a0,rfl,h0⟩)
theorem Ef {s:Operand} {t:Bool} (hc:a.eval s=.bool t) (ht:t=true->x.ww ro ds P Q a w) (hf:t=false->y.ww ro ds P Q a w):(Code.cond s x y).ww ro ds P Q a w:=λn=>wpIn_cond_split (t:=t) (by rw[y4]; exact hc) (λh=>ht h n) (λh=>hf h n)
theorem Tb {ι:Type} {C:Code} (I:ι->Act->World->Prop) (μ:ι->Nat) (k0:ι) (h0:I k0 a w)
  (round:∀k a w,I k a w->C.ww ro ds P (Exit.then (λa' w'=>∃k',I k' a' w'/\μ k'<μ k) Q) a w):(Code.loop C).ww ro ds P Q a w:=by
 intro n
 refine wpIn_loop_rounds (μ k0+1) ?_
 have key:∀m k a w,I k a w->μ k<m->Code.roundsIn (Ka ro) n P C (λe a' w'=>∃a0,a'=qB ds a0/\Q e a0 w') m (qB ds a) w:=by
  intro m
  induction m with
  |zero=>intro k a w _ h; omega
  |succ m ih=>
   intro k a w hI hm
   rw[roundsIn_succ]
   refine wpIn_mono (round k a w hI n) λe a' w' ⟨a0,e0,h'⟩=>?_
   subst e0
   cases e with
   |normal=>
    obtain⟨k',hI',hlt⟩:=h'
    exact ih k' a0 w' hI' (by omega)
   |_=>exact⟨a0,rfl,h'⟩
 exact key _ k0 a w h0 (by omega)
variable {l:List Oper}
theorem QL (ms:List Nat) (hm:P.follows .mixedOrders=true) (hok:iP l.toArray=true) (tn:uI l=ms) (hwf:tU c.N l V A G=true) (TP:l.all iC=true)
  (h0:Inv c V A G none_ a w) (hs:nj P l.toArray ms c V A G 0 l) (hk:∀a w,Inv c V A G (λ_=>true) a w->Q .normal a w):(Code.region id l.toArray true).ww ro ds P Q a w:=by
 intro n
 have n5:=uJ l
 rw[tn]at n5
 refine xz hm hok (λL a' w=>∃a,a'=qB ds a/\Inv c V A G L a w/\kK l L) ⟨a,rfl,?_,λi o _ h=>by cases h⟩ ?_ ?_
 ·obtain⟨β,hβ⟩:=h0
  exact⟨β,hβ.draws⟩
 ·rintro i o hi L _ w ⟨a,rfl,hI,hc⟩ hno hpre
  have tj:qc ms i L:=⟨hno,λj hj=>n5.2 L hc i o hi hpre j hj,λj hj=>by
   cases hL:L j with
   |false=>rfl
   |true=>
    cases Ie:l[j]? with
    |none=>
     have h1:=n5.1
     rw[List.getD_eq_getElem?_getD,List.getElem?_eq_none (by have:=List.getElem?_eq_none_iff.1 Ie; omega)]at hj
     simp at hj
    |some oj=>
     have:=n5.2 L hc j oj Ie (λm hm=>hc j oj Ie hL m hm) i hj
     rw[hno]at this
     cases this⟩
  have qo:kK l (upd L i):=by
   intro k ok mA hL j hj
   by_cases BS:k=i
   ·subst BS
    rw[hi]at mA
    injection mA with mA
    subst mA
    have:=hpre j hj
    unfold upd
    split
    ·rfl
    ·exact this
   ·have:=hc k ok mA (D9 hL BS) j hj
    unfold upd
    split
    ·rfl
    ·exact this
  have hop:=hs.get hi
  rw[Nat.zero_add]at hop
  exact(hop L a w hI tj (tM hwf hi)).IM (by simpa using hi) (List.all_eq_true.1 TP o (List.mem_of_getElem? hi)) λa' w' h'=>⟨a',rfl,h',qo⟩
 ·rintro L _ w ⟨a,rfl,⟨β,hI⟩,_⟩ eG
  exact⟨a,rfl,hk a w ⟨β,hI.congr (fu hwf) eG⟩⟩
theorem Te (hwf:tU c.N l V A G=true) (TP:l.all iC=true)
  (h0:Inv c V A G none_ a w) (hs:nj P l.toArray (aT l.length) c V A G 0 l) (hk:∀a w,Inv c V A G (λ_=>true) a w->Q .normal a w):(Code.region id l.toArray false).ww ro ds P Q a w:=by
 intro n
 refine wpIn_region ?_
 have tm:∀k j,((aT l.length).getD k 0).testBit j=true->j<k:=by
  intro k j h
  rcases Nat.lt_or_ge k l.length with h'|h'
  ·have e:(aT l.length).getD k 0=2^k-1:=by simp[aT,h']
   rw[e,Nat.testBit_two_pow_sub_one]at h
   simpa using h
  ·have e:(aT l.length).getD k 0=0:=by simp[aT,Nat.not_lt.2 h']
   rw[e]at h
   simp at h
 have key:∀(m i:Nat),i+m=l.length->∀(a:Act) (w:World),Inv c V A G (λj=>decide (j<i)) a w->wpOpsIn (Ka ro) n P l.toArray (λe a' w'=>∃a0,a'=qB ds a0/\Q e a0 w') (List.range' i m) (qB ds a) w:=by
  intro m
  induction m with
  |zero=>
   rintro i hi a w ⟨β,hI⟩
   exact⟨a,rfl,hk a w ⟨β,hI.congr (fu hwf) λj hj=>by simp; omega⟩⟩
  |succ m ih=>
   intro i hi a w hI
   obtain⟨o,ho⟩:∃o,l[i]?=some o:=⟨l[i]'(by omega),List.getElem?_eq_getElem (by omega)⟩
   rw[List.range'_succ,wpOpsIn_cons]
   have tj:qc (aT l.length) i (λj=>decide (j<i)):=⟨by simp,λj hj=>by simpa using tm i j hj,λj hj=>by have:=tm j i hj; simp; omega⟩
   have hop:=hs.get ho
   rw[Nat.zero_add]at hop
   refine(hop _ a w hI tj (tM hwf ho)).IM (by simpa using ho) (List.all_eq_true.1 TP o (List.mem_of_getElem? ho)) λa' w' h'=>ih (i+1) (by omega) a' w' ?_
   have e:upd (λj=>decide (j<i)) i=(λj=>decide (j<i+1)):=by
    funext j
    unfold upd
    by_cases h:j=i
    ·simp[h]
    ·rw[if_neg h]
     by_cases h2:j<i
     ·simp[h2]; omega
     ·simp[h2]; omega
   rw[<-e]
   exact h'
 have:=key l.length 0 (by omega) a w (by
  have e:(λj=>decide (j<0))=none_:=by funext j; simp
  rw[e]
  exact h0)
 rwa [<-List.range_eq_range',show l.length=l.toArray.size by simp]at this
end
end Wx

namespace Wx
open Go Go.RowKit
def xC:List Fd->Nat->Option (List Fd)
 |[],n=>match Nat.beq n 0 with
  |true=>some []
  |false=>none
 |⟨ag,m,p⟩::fs,n=>match Nat.beq n 0 with
  |true=>some []
  |false=>match Nat.ble m n with
   |true=>match xC fs (Nat.sub n m)with
    |some l=>some (⟨ag,m,p⟩::l)
    |none=>none
   |false=>none
def Gk:List Fd->Nat->Nat->Option (List Fd)
 |[],_,n=>xC [] n
 |⟨ag,m,p⟩::fs,off,n=>match Nat.beq off 0 with
  |true=>xC (⟨ag,m,p⟩::fs) n
  |false=>match Nat.ble m off with
   |true=>Gk fs (Nat.sub off m) n
   |false=>none
def So:Bool->Option (List Fd)->Option Pred
 |true,some [⟨true,_,p⟩]=>some p
 |true,some l=>some (pS l)
 |false,some [⟨false,_,p⟩]=>some p
 |_,_=>none
def BG:List Fd->Nat->Option (List Fd)
 |[],n=>match Nat.beq n 0 with
  |true=>some []
  |false=>none
 |⟨ag,m,p⟩::fs,n=>match Nat.beq n 0 with
  |true=>some (⟨ag,m,p⟩::fs)
  |false=>match Nat.ble m n with
   |true=>BG fs (Nat.sub n m)
   |false=>none
def EI:List Fd->Option (List Fd)->Option (List Fd)
 |[],r=>r
 |g::gs,r=>match EI gs r with
  |some l=>some (g::l)
  |none=>none
def Ck (gs:List Fd) (n:Nat):List Fd->Nat->Option (List Fd)
 |[],_=>match Nat.beq n 0 with
  |true=>EI gs (some [])
  |false=>none
 |⟨ag,m,p⟩::fs,off=>match Nat.beq off 0 with
  |true=>EI gs (BG (⟨ag,m,p⟩::fs) n)
  |false=>match Nat.ble m off with
   |true=>match Ck gs n fs (Nat.sub off m)with
    |some l=>some (⟨ag,m,p⟩::l)
    |none=>none
   |false=>none
theorem Qu:∀{fs:List Fd} {n:Nat} {l:List Fd} {w:World} {cs:List Value},xC fs n=some l->aM fs w cs->aM l w (cs.take n)/\n<=cs.length:=by
 intro fs
 induction fs with
 |nil=>
  intro n l w cs h hc
  unfold xC at h
  split at h
  ·rename_i hb; have hb:=Nat.eq_of_beq_eq_true hb; subst hb; cases h; exact⟨rfl,Nat.zero_le _⟩
  ·cases h
 |cons f fs ih=>
  intro n l w cs h hc
  obtain⟨ag,m,p⟩:=f
  unfold xC at h
  split at h
  ·rename_i hb; have hb:=Nat.eq_of_beq_eq_true hb; subst hb; cases h; exact⟨rfl,Nat.zero_le _⟩
  ·split at h
   ·rename_i hm
    have hm:=Nat.le_of_ble_eq_true hm
    split at h
    ·rename_i l' hl
     cases h
     obtain⟨h1,h2,h3⟩:=hc
     obtain⟨k1,k2⟩:=ih hl h3
     simp only[List.length_drop]at k2 h1
     have k2:n-m<=cs.length-m:=k2
     refine⟨⟨?_,?_,?_⟩,by omega⟩
     ·show m<=(cs.take n).length; rw[List.length_take]; omega
     ·show p w (aj ag ((cs.take n).take m)); rw[List.take_take,Nat.min_eq_left hm]; exact h2
     ·show aM l' w ((cs.take n).drop m); rw[List.drop_take]; exact k1
    ·cases h
   ·cases h
theorem K8:∀{fs:List Fd} {off n:Nat} {l:List Fd} {w:World} {cs:List Value},Gk fs off n=some l->aM fs w cs->aM l w ((cs.drop off).take n)/\n+off<=cs.length+(if n=0 then off else 0):=by
 intro fs
 induction fs with
 |nil=>
  intro off n l w cs h hc
  have hn:n=0:=by
   unfold Gk xC at h
   split at h
   ·rename_i hb; exact Nat.eq_of_beq_eq_true hb
   ·cases h
  subst hn
  have:cs=[]:=hc
  subst this
  have h:xC [] 0=some l:=h
  cases h
  simp[aM]
 |cons f fs ih=>
  intro off n l w cs h hc
  obtain⟨ag,m,p⟩:=f
  unfold Gk at h
  split at h
  ·rename_i hb; have hb:=Nat.eq_of_beq_eq_true hb; subst hb
   obtain⟨k1,k2⟩:=Qu h hc
   exact⟨by rw[List.drop_zero]; exact k1,by omega⟩
  ·split at h
   ·rename_i hm
    have hm:=Nat.le_of_ble_eq_true hm
    obtain⟨h1,h2,h3⟩:=hc
    obtain⟨k1,k2⟩:=ih h h3
    rw[List.drop_drop]at k1
    have e:m+Nat.sub off m=off:=by show m+(off-m)=off; omega
    rw[show(({ agg:=ag,n:=m,p:=p }:Fd).n+Nat.sub off m)=off from e]at k1
    refine⟨k1,?_⟩
    rw[List.length_drop]at k2
    have h1:m<=cs.length:=h1
    have k2:n+(off-m)<=cs.length-m+(if n=0 then off-m else 0):=k2
    split at k2<;>rename_i hn
    ·rw[if_pos hn]; omega
    ·rw[if_neg hn]; omega
   ·cases h
variable {ag:Bool} {q:Pred}
theorem KB {l:List Fd} {w:World} {ds:List Value} (h:So ag (some l)=some q) (hc:aM l w ds):q w (aj ag ds):=by
 unfold So at h
 split at h
 ·rename_i _ e
  cases h
  cases e
  obtain⟨h1,h2,h3⟩:=hc
  have h3:ds.drop _=[]:=h3
  have:ds.take _=ds:=List.take_of_length_le (List.drop_eq_nil_iff.1 h3)
  rw[this]at h2
  exact h2
 ·rename_i _ e
  cases h
  cases e
  exact⟨ds,rfl,hc⟩
 ·rename_i _ e
  cases h
  cases e
  obtain⟨h1,h2,h3⟩:=hc
  have h3:ds.drop _=[]:=h3
  have:ds.take _=ds:=List.take_of_length_le (List.drop_eq_nil_iff.1 h3)
  rw[this]at h2
  exact h2
 ·cases h
variable {fs:List Fd} {off n N:Nat}
theorem Fs (h:So ag (Gk fs off n)=some q):∀w cs,cs.length=N->pS fs w (aj true cs)->q w (aj ag ((cs.drop off).take n)):=by
 rintro w cs _ ⟨ds,e,hd⟩
 have:=bG (show aj true cs=aj true ds from e)
 subst this
 cases hs:Gk fs off n with
 |none=>rw[hs]at h; cases ag<;>cases h
 |some l=>rw[hs]at h; exact KB h (K8 hs hd).1
theorem Ol:∀{fs:List Fd} {n:Nat} {l:List Fd} {w:World} {cs:List Value},BG fs n=some l->aM fs w cs->aM l w (cs.drop n):=by
 intro fs
 induction fs with
 |nil=>
  intro n l w cs h hc
  unfold BG at h
  split at h
  ·cases h; have:cs=[]:=hc; subst this; simp[aM]
  ·cases h
 |cons f fs ih=>
  intro n l w cs h hc
  obtain⟨ag,m,p⟩:=f
  unfold BG at h
  split at h
  ·rename_i hb; have hb:=Nat.eq_of_beq_eq_true hb; subst hb; cases h; exact hc
  ·split at h
   ·rename_i hm
    have hm:=Nat.le_of_ble_eq_true hm
    have:=ih h hc.2.2
    rw[List.drop_drop]at this
    rwa [show(({ agg:=ag,n:=m,p:=p }:Fd).n+Nat.sub n m)=n from(show m+(n-m)=n by omega)]at this
   ·cases h
theorem CX:∀{gs r l:List Fd} {w:World} {ds es:List Value},EI gs (some r)=some l->aM gs w ds->aM r w es->aM l w (ds++es):=by
 intro gs
 induction gs with
 |nil=>intro r l w ds es h hd he; cases h; have:ds=[]:=hd; subst this; exact he
 |cons g gs ih=>
  intro r l w ds es h hd he
  unfold EI at h
  split at h
  ·rename_i l' hl
   cases h
   obtain⟨h1,h2,h3⟩:=hd
   refine⟨by rw[List.length_append]; omega,?_,?_⟩
   ·rw[List.take_append_of_le_length h1]; exact h2
   ·rw[List.drop_append_of_le_length h1]; exact ih hl h3 he
  ·cases h
theorem Ls:∀{gs:List Fd},EI gs none=none:=by
 intro gs
 induction gs with
 |nil=>rfl
 |cons g gs ih=>unfold EI; rw[ih]
theorem F0:∀{fs gs hs:List Fd} {off n:Nat} {w:World} {cs ds:List Value},Ck gs n fs off=some hs->aM fs w cs->aM gs w ds->ds.length=n->aM hs w (cs.take off++ds++cs.drop (off+n)):=by
 intro fs
 induction fs with
 |nil=>
  intro gs hs off n w cs ds h hc hd hl
  unfold Ck at h
  split at h
  ·rename_i hb; have hb:=Nat.eq_of_beq_eq_true hb; subst hb
   have:cs=[]:=hc
   subst this
   have:=CX h hd (show aM [] w []from rfl)
   simpa using this
  ·cases h
 |cons f fs ih=>
  intro gs hs off n w cs ds h hc hd hl
  obtain⟨ag,m,p⟩:=f
  unfold Ck at h
  split at h
  ·rename_i hb; have hb:=Nat.eq_of_beq_eq_true hb; subst hb
   cases hr:BG (⟨ag,m,p⟩::fs) n with
   |none=>rw[hr,Ls]at h; cases h
   |some r=>
    rw[hr]at h
    have:=CX h hd (Ol hr hc)
    simpa using this
  ·split at h
   ·rename_i hm
    have hm:=Nat.le_of_ble_eq_true hm
    split at h
    ·rename_i l hl'
     cases h
     obtain⟨h1,h2,h3⟩:=hc
     have h1:m<=cs.length:=h1
     have h2:p w (aj ag (cs.take m)):=h2
     have:=ih hl' h3 hd hl
     have e:m+Nat.sub off m=off:=by show m+(off-m)=off; omega
     have hlen:m<=(cs.take off).length:=by rw[List.length_take]; omega
     have e2:(cs.take off++ds++cs.drop (off+n))=cs.take off++(ds++cs.drop (off+n)):=by rw[List.append_assoc]
     refine⟨?_,?_,?_⟩
     ·show m<=_; rw[e2,List.length_append]; omega
     ·show p w (aj ag (List.take m _)); rw[e2,List.take_append_of_le_length hlen,List.take_take,Nat.min_eq_left hm]; exact h2
     ·show aM l w (List.drop m _)
      rw[e2,List.drop_append_of_le_length hlen,List.drop_take]
      have this:aM l w ((cs.drop m).take (off-m)++ds++(cs.drop m).drop ((off-m)+n)):=this
      rw[List.drop_drop,show m+(off-m+n)=off+n by omega,List.append_assoc]at this
      exact this
    ·cases h
   ·cases h
variable {hs:List Fd}
theorem M8 (h:Ck [⟨ag,n,q⟩] n fs off=some hs):
  ∀w cs ds,cs.length=N->ds.length=n->pS fs w (aj true cs)->q w (aj ag ds)->pS hs w (aj true (cs.take off++ds++cs.drop (off+n))):=by
 rintro w cs ds _ hl ⟨es,e,hc⟩ hq
 have:=bG (show aj true cs=aj true es from e)
 subst this
 exact⟨_,rfl,F0 h hc (show aM [⟨ag,n,q⟩] w ds from⟨by show n<=_; omega,by show q w (aj ag (ds.take n)); rw[List.take_of_length_le (by omega)]; exact hq,List.drop_eq_nil_iff.2 (by show ds.length<=n; omega)⟩) hl⟩
theorem M9 {gs:List Fd} (h:Ck gs n fs off=some hs):
  ∀w cs ds,cs.length=N->ds.length=n->pS fs w (aj true cs)->pS gs w (aj true ds)->pS hs w (aj true (cs.take off++ds++cs.drop (off+n))):=by
 rintro w cs ds _ hl ⟨es,e,hc⟩ ⟨es',e',hd⟩
 have:=bG (show aj true cs=aj true es from e)
 subst this
 have:=bG (show aj true ds=aj true es' from e')
 subst this
 exact⟨_,rfl,F0 h hc hd hl⟩
def pQ (F:Rat->Pred) (j:Nat) (x:Rat):Pred:=λw v=>aZ j x/\F x w v
abbrev pR (j:Nat) (x:Rat):Pred:=pQ au j x
abbrev pN (j:Nat) (x:Rat):Pred:=pQ MD j x
variable {F:Rat->Pred} {j:Nat} {x:Rat}
theorem xw (h:aZ j x):∀w v,F x w v->pQ F j x w v:=λ_ _ k=>⟨h,k⟩
variable {k:Nat}
theorem nF (h:j<=k):∀w v,pQ F j x w v->pQ F k x w v:=λ_ _ q=>⟨q.1.mono h,q.2⟩
theorem ZJ {y:Rat} (e:x=y) (h:j<=k):∀w v,pQ F j x w v->pQ F k y w v:=e▸nF h
theorem iZ:aK (pR j x):=λM w v hM h=>λw' he=>⟨h.1,cH x M w v hM h.2 w' he⟩
theorem tA:aK (pN j x):=λM w v hM h=>λw' he=>⟨h.1,qX x M w v hM h.2 w' he⟩
theorem cE:Fits 3 true (pR j x):=λw v h=>cV x w v h.2
theorem x9:Fits 3 true (pN j x):=λw v h=>E7 x w v h.2
inductive Zl
 |r|f|i|b|n|s
def Zl.fd:Zl->Fd
 |.r=>⟨true,3,pR 1 0⟩
 |.f=>⟨true,3,cY⟩
 |.i=>⟨false,1,pI 0⟩
 |.b=>⟨false,1,pB false⟩
 |.n=>⟨false,1,bg (.slice none 0 0)⟩
 |.s=>⟨false,1,bg (.string ⟨#[]⟩)⟩
def Zl.cs:Zl->List Value
 |.r|.f=>[.bool false,.slice none 0 0,.slice none 0 0]
 |.i=>[.int .i64 0]
 |.b=>[.bool false]
 |.n=>[.slice none 0 0]
 |.s=>[.string ⟨#[]⟩]
theorem XC:aZ 1 (0:Rat):=⟨by show(0:Rat).num.natAbs<2^1; decide,by show(0:Rat).den<2^1; decide⟩
theorem Uq (w:World):∀l:List Zl,aM (l.map Zl.fd) w (l.flatMap Zl.cs):=by
 intro l
 induction l with
 |nil=>rfl
 |cons z l ih=>
  have e:(Zl.fd z).n=(Zl.cs z).length:=by cases z<;>rfl
  have hp:(Zl.fd z).p w (aj (Zl.fd z).agg (Zl.cs z)):=by
   cases z
   ·exact⟨XC,ew w⟩
   ·trivial
   all_goals rfl
  show(Zl.fd z).n<=_/\_/\_
  rw[List.flatMap_cons,List.length_append,List.take_append_of_le_length (by omega),List.take_of_length_le (by omega),List.drop_append_of_le_length (by omega),List.drop_of_length_le (by omega)]
  exact⟨by omega,hp,ih⟩
theorem Az:∀l:List Zl,∀u∈l.flatMap Zl.cs,iw u:=by
 intro l u hu
 obtain⟨z,_,hz⟩:=List.mem_flatMap.1 hu
 cases z<;>simp[Zl.cs]at hz<;>(try rcases hz with rfl|rfl)<;>(try subst hz)<;>intro n<;>simp
theorem tP (l:List Zl) (w:World):pS (l.map Zl.fd) w (aj true (l.flatMap Zl.cs)):=⟨_,rfl,Uq w l⟩
def zb (F:Rat->Pred) (j:Nat) (x:Rat):Fd:=⟨true,3,pQ F j x⟩
def pV (F:Rat->Pred) (j:Nat) (l:List Rat):Pred:=pS (l.map (zb F j))
section
variable {F:Rat->Pred} {j k:Nat} {l:List Rat}
theorem KG (h:j<=k):∀{l:List Rat} {w:World} {cs:List Value},aM (l.map (zb F j)) w cs->aM (l.map (zb F k)) w cs
 |[],_,_,h=>h
 |_::_,_,_,⟨h1,h2,h3⟩=>⟨h1,nF h _ _ h2,KG h h3⟩
theorem xx (h:j<=k):∀w v,pV F j l w v->pV F k l w v:=λ_ _ ⟨cs,e,hc⟩=>⟨cs,e,KG h hc⟩
theorem cq {l':List Rat} (e:l=l') (h:j<=k):∀w v,pV F j l w v->pV F k l' w v:=e▸xx h
theorem PW:∀{l:List Rat} {w:World} {cs:List Value},aM (l.map (zb F j)) w cs->cs.length=3*l.length
 |[],_,_,h=>by rw[show _=[]from h]; rfl
 |_::l,_,cs,⟨h1,_,h3⟩=>by
  have:=PW h3
  have h1:3<=cs.length:=h1
  have:cs.length-3=3*l.length:=by rw[<-List.length_drop]; exact this
  rw[List.length_cons]; omega
theorem DI:∀{l:List Rat} {w:World} {cs:List Value} (q:Nat),aM (l.map (zb F j)) w cs->aM ((l.drop q).map (zb F j)) w (cs.drop (q*3))
 |l,_,_,0,h=>by rw[Nat.zero_mul,List.drop_zero,List.drop_zero]; exact h
 |[],_,_,_+1,h=>by rw[show _=[]from h]; rfl
 |_::_,_,_,q+1,⟨_,_,h3⟩=>by
  have:=DI q h3
  rw[List.drop_drop,show(zb F j _).n+q*3=(q+1)*3 from(show 3+q*3=(q+1)*3 by omega)]at this
  exact this
theorem DJ:∀{l:List Rat} {w:World} {cs:List Value} (q:Nat),aM (l.map (zb F j)) w cs->aM ((l.take q).map (zb F j)) w (cs.take (q*3))
 |l,_,_,0,_=>by rw[Nat.zero_mul,List.take_zero,List.take_zero]; rfl
 |[],_,_,_+1,h=>by rw[show _=[]from h]; rfl
 |_::_,w,cs,q+1,⟨h1,h2,h3⟩=>by
  have h1:3<=cs.length:=h1
  refine⟨?_,?_,?_⟩
  ·show 3<=(cs.take ((q+1)*3)).length; rw[List.length_take]; omega
  ·show pQ F j _ w (aj true ((cs.take ((q+1)*3)).take 3)); rw[List.take_take,Nat.min_eq_left (by omega)]; exact h2
  ·show aM _ w ((cs.take ((q+1)*3)).drop 3); rw[List.drop_take,show(q+1)*3-3=q*3 by omega]; exact DJ q h3
theorem tD:∀{l m:List Rat} {w:World} {cs ds:List Value},aM (l.map (zb F j)) w cs->aM (m.map (zb F j)) w ds->aM ((l++m).map (zb F j)) w (cs++ds)
 |[],_,_,_,_,h,h'=>by rw[show _=[]from h]; exact h'
 |_::_,_,w,cs,ds,⟨h1,h2,h3⟩,h'=>by
  have h1:3<=cs.length:=h1
  refine⟨?_,?_,?_⟩
  ·show 3<=(cs++ds).length; rw[List.length_append]; omega
  ·show pQ F j _ w (aj true ((cs++ds).take 3)); rw[List.take_append_of_le_length h1]; exact h2
  ·show aM _ w ((cs++ds).drop 3); rw[List.drop_append_of_le_length h1]; exact tD h3 h'
variable {x:Rat}
theorem IY {w:World} {ds:List Value} (hl:ds.length=3):aM ([x].map (zb F j)) w ds↔pQ F j x w (aj true ds):=by
 refine⟨λ⟨_,h2,_⟩=>?_,λh=>⟨by show 3<=_; omega,?_,List.drop_eq_nil_iff.2 (by show _<=3; omega)⟩⟩
 ·have h2:pQ F j x w (aj true (ds.take 3)):=h2
  rwa [List.take_of_length_le (by omega)]at h2
 ·show pQ F j x w (aj true (ds.take 3))
  rwa [List.take_of_length_le (by omega)]
variable {q:Nat}
theorem zk {l:List Rat} (h:q<l.length):(l.drop q).take 1=[l.getD q 0]:=by
 rw[List.drop_eq_getElem_cons h,List.take_succ_cons,List.take_zero,List.getD_eq_getElem?_getD,List.getElem?_eq_getElem h]; rfl
variable {off:Nat}
theorem zW (q m:Nat) (ho:off=q*3) {N:Nat}:∀w cs,cs.length=N->pV F j l w (aj true cs)->pV F j ((l.drop q).take m) w (aj true ((cs.drop off).take (m*3))):=by
 rintro w cs _ ⟨ds,e,h⟩
 have:=bG (show aj true cs=aj true ds from e)
 subst this ho
 exact⟨_,rfl,DJ m (DI q h)⟩
theorem wL (q:Nat) (ho:off=q*3) (hq:q<l.length) {N:Nat}:∀w cs,cs.length=N->pV F j l w (aj true cs)->pQ F j (l.getD q 0) w (aj true ((cs.drop off).take 3)):=by
 intro w cs hN h
 obtain⟨ds,e,h⟩:=zW q 1 ho w cs hN h
 rw[zk hq]at h
 have e:=bG (show aj true _=aj true ds from e)
 have hl:=PW h
 rw[Nat.one_mul]at e
 rw[e]
 exact(IY hl).1 h
theorem I2 {n:Nat} {m:List Rat} (q:Nat) (ho:off=q*3) (hn:n=m.length*3) {N:Nat}:∀w cs ds,cs.length=N->ds.length=n->pV F j l w (aj true cs)->pV F j m w (aj true ds)->pV F j (l.take q++m++l.drop (q+m.length)) w (aj true (cs.take off++ds++cs.drop (off+n))):=by
 rintro w cs ds _ _ ⟨es,e,h⟩ ⟨es',e',h'⟩
 have:=bG (show aj true cs=aj true es from e)
 subst this
 have:=bG (show aj true ds=aj true es' from e')
 subst this ho hn
 refine⟨_,rfl,?_⟩
 rw[show q*3+m.length*3=(q+m.length)*3 by omega]
 exact tD (tD (DJ q h) h') (DI _ h)
theorem SX {l:List Rat} (h:q<l.length):l.take q++[x]++l.drop (q+[x].length)=l.set q x:=by
 rw[List.set_eq_take_append_cons_drop,if_pos h,List.append_assoc]; rfl
theorem We (q:Nat) (ho:off=q*3) (hq:q<l.length) {N:Nat}:∀w cs ds,cs.length=N->ds.length=3->pV F j l w (aj true cs)->pQ F j x w (aj true ds)->pV F j (l.set q x) w (aj true (cs.take off++ds++cs.drop (off+3))):=by
 intro w cs ds hN hl h hx
 have:=I2 (m:=[x]) q ho rfl w cs ds hN hl h ⟨ds,rfl,(IY hl).2 hx⟩
 rwa [SX hq]at this
theorem KI (q:Nat) (ho:off=q*3) (hq:q<l.length) (hj:j<=k) {k':Nat} (hk:k'<=k) {N:Nat}:∀w cs ds,cs.length=N->ds.length=3->pV F j l w (aj true cs)->pQ F k' x w (aj true ds)->pV F k (l.set q x) w (aj true (cs.take off++ds++cs.drop (off+3))):=
 λw cs ds hN hl h hx=>We q ho hq w cs ds hN hl (xx hj _ _ h) (nF hk _ _ hx)
theorem zL (hF:∀x,aK (pQ F j x)):∀{l:List Rat} {M:Nat->Nat->Prop} {w:World} {cs:List Value},cL M w->aM (l.map (zb F j)) w cs->aO M (λw=>aM (l.map (zb F j)) w cs) w
 |[],_,_,_,_,h=>λ_ _=>h
 |x::_,M,w,_,hM,⟨h1,h2,h3⟩=>λw' he=>⟨h1,hF x M w _ hM h2 w' he,zL hF hM h3 w' he⟩
theorem mH (hF:∀x,aK (pQ F j x)):aK (pV F j l):=by
 rintro M w v hM ⟨cs,rfl,h⟩ w' he
 exact⟨cs,rfl,zL hF hM h w' he⟩
theorem yM (hF:∀x,Fits 3 true (pQ F j x)):∀{l:List Rat},tV (l.map (zb F j))
 |[]=>trivial
 |x::_=>⟨hF x,yM hF⟩
theorem KX:∀{l:List Rat},oY (l.map (zb F j))=l.length*3
 |[]=>rfl
 |_::l=>by show 3+oY (l.map (zb F j))=(l.length+1)*3; rw[KX]; omega
theorem eF (hF:∀x,Fits 3 true (pQ F j x)) {n:Nat} (hn:n=l.length*3):Fits n true (pV F j l):=vY (yM hF) (by rw[hn]; exact KX)
inductive w7 (F:Rat->Pred) (j:Nat):List Fd->List Rat->Prop
 |z:w7 F j [] []
 |c {i:Nat} {x:Rat} {fs:List Fd} {l:List Rat} (h:i<=j):w7 F j fs l->w7 F j (⟨true,3,pQ F i x⟩::fs) (x::l)
variable {fs:List Fd}
theorem w7.ok (h:w7 F j fs l):∀{w:World} {cs:List Value},aM fs w cs->aM (l.map (zb F j)) w cs:=by
 induction h with
 |z=>exactλh=>h
 |c hi _ ih=>exact λ⟨h1,h2,h3⟩=>⟨h1,nF hi _ _ h2,ih h3⟩
theorem w7.pV (h:w7 F j fs l):∀w v,pS fs w v->Wx.pV F j l w v:=λ_ _ ⟨cs,e,hc⟩=>⟨cs,e,h.ok hc⟩
end
end Wx
