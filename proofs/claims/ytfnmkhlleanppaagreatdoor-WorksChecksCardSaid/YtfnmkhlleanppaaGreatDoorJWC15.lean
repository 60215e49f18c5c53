import Derived.OrdersIn
import Derived.LoopNIn
import Derived.RangeFuncCalls
import Derived.TacticsIn
import Derived.Lib.ConvBytes
import Derived.Laws.BytesString
import Derived.Laws.Strings
import Derived.Laws.Strings2
import Derived.Test.YtfnmkhlleanppaaGreatDoorJWC13
namespace Wx
open Go Go.RowKit
section
variable {Fe:Fence} {n:Nat} {P:Program} {ops:Array Oper} {Q:Exit->Act->World->Prop}
theorem ue (F:List Nat) (hf:xP ops=true) (hw:qx ops F=true) (I:(Nat->Bool)->Act->World->Prop)
  (hstep:∀i∈F,∀o,ops[i]?=some o->∀L a w,I L a w->L i=false->(∀e∈o.after,Region.binds .any e=true->L e.on=true)->wpOpIn Fe n P ops Q i (I (λj=>if j=i then true else L j)) a w)
  (yj:∀L a w,I L a w->(∀i∈F,L i=true)->∀fuel,((List.range ops.size).filter λj=>!((jZ ops.size F).getD j true)).length<=fuel->wpAnyIn Fe n P .any ops Q fuel (jZ ops.size F) a w):
  ∀(fuel:Nat) (listed:Array Bool) (a:Act) (w:World),ug ops.size F listed->mg ops listed->I (λj=>listed.getD j false) a w ->
   ((List.range ops.size).filter λj=>!(listed.getD j true)).length<=fuel->wpAnyIn Fe n P .any ops Q fuel listed a w:=by
 have all:∀(fuel:Nat) (listed:Array Bool) (a:Act) (w:World),ug ops.size F listed->I (λj=>listed.getD j false) a w ->
   ((List.range ops.size).filter λj=>!(listed.getD j true)).length<=fuel->(∀i∈F,listed.getD i false=true)->wpAnyIn Fe n P .any ops Q fuel listed a w:=by
  intro fuel listed a w hr hI hc de
  have e:listed=jZ ops.size F:=by
   apply Array.ext
   ·rw[hr.1]; simp[jZ]
   ·intro i h1 h2
    have hi:i<ops.size:=by rw[<-hr.1]; exact h1
    simp only[jZ,List.getElem_toArray,List.getElem_map,List.getElem_range]
    cases hF:F.contains i with
    |true=>
     have:=de i (by simpa using hF)
     simpa [h1] using this
    |false=>
     have:=hr.2 i hi hF
     simpa [h1] using this
  have hI':=yj _ a w hI de
  rw[<-e]at hI'
  exact hI' fuel hc
 have hlt:∀j∈F,j<ops.size:=by
  intro j hj
  simp only[qx,Bool.and_eq_true,List.all_eq_true,decide_eq_true_eq]at hw
  exact hw.1 j hj
 have MP:∀i,i<ops.size->i∈F\/∀j∈F,j∈before ops ops.size i:=by
  intro i hi
  simp only[qx,Bool.and_eq_true,List.all_eq_true,List.mem_range,Bool.or_eq_true,List.contains_iff_mem]at hw
  exact hw.2 i hi
 intro fuel
 induction fuel with
 |zero=>
  intro listed a w hr lp hI hc
  refine all 0 listed a w hr hI hc (λi hi=>?_)
  rcases Nat.lt_or_ge i ops.size with h'|h'
  ·have h0:(List.range ops.size).filter (λj=>!(listed.getD j true))=[]:=List.eq_nil_of_length_eq_zero (by omega)
   have:=List.filter_eq_nil_iff.1 h0 i (List.mem_range.2 h')
   have hsz:i<listed.size:=by rw[hr.1]; exact h'
   simpa [hsz] using this
  ·exfalso
   have:=hlt i hi
   omega
 |succ fuel ih=>
  intro listed a w hr lp hI hc
  by_cases de:∀i∈F,listed.getD i false=true
  ·exact all _ listed a w hr hI hc de
  ·have hx:∃i∈F,¬listed.getD i false=true:=by
    apply Classical.byContradiction
    intro h
    exact de (λi hi=>Classical.byContradiction λh'=>h ⟨i,hi,h'⟩)
   obtain⟨k,hk,Eh⟩:=hx
   have hks:=hlt k hk
   have JR:listed.getD k true=false:=by
    have:k<listed.size:=by rw[hr.1]; exact hks
    simp[this]at Eh ⊢
    exact Eh
   refine⟨λh=>absurd h (tM hf hks JR hr.1),λi hi=>?_⟩
   obtain⟨vM,o,ho,hpre⟩:=mem_ready.1 hi
   have FX:i<ops.size:=by
    rcases Nat.lt_or_ge i ops.size with h'|h'
    ·exact h'
    ·rw[Array.getElem?_eq_none h']at ho; cases ho
   have La:i∈F:=by
    apply Classical.byContradiction
    intro hn
    have MN:=(MP i FX).resolve_left hn
    apply de
    intro j hj
    refine nI lp ops.size i (λo' tg e he hb=>?_) j (MN j hj)
    rw[ho]at tg
    injection tg with tg
    subst tg
    exact hpre e he hb
   have hno:listed.getD i false=false:=by
    have hs:i<listed.size:=by rw[hr.1]; exact FX
    simp[hs]at vM ⊢
    exact vM
   refine wpOpIn_mono (λa' w' h'=>ih _ a' w' ⟨by rw[Array.size_setIfInBounds]; exact hr.1,λj hj hF=>?_⟩ (lp.set hi) ?_ ?_) (hstep i La o ho _ a w hI hno (λe he hb=>hpre e he hb))
   ·have hij:i≠j:=by
     rintro rfl
     have:F.contains i=true:=by simpa using La
     rw[this]at hF; cases hF
    have:=hr.2 j hj hF
    simpa [Array.getElem?_setIfInBounds_ne hij] using this
   ·have e:(λj=>(listed.setIfInBounds i true).getD j false)=(λj=>if j=i then true else listed.getD j false):=by
     funext j
     by_cases hij:j=i
     ·subst hij
      have:j<listed.size:=by rw[hr.1]; exact FX
      simp[this]
     ·simp[Array.getElem?_setIfInBounds_ne (Ne.symm hij),hij]
    rw[e]; exact h'
   ·have:=sV hr.1 FX vM
    omega
theorem iM {id:Nat} {l:List Oper} (hm:P.follows .mixedOrders=true) (hok:gV l.toArray=true) (I:(Nat->Bool)->Act->World->Prop)
  {a:Act} {w:World} (h0:I (λ_=>false) a w.drew) (hstep:∀i o,l[i]?=some o->∀L a w,I L a w->L i=false->(∀j∈wD o,L j=true)->wpOpIn Fe n P l.toArray Q i (I (λj=>if j=i then true else L j)) a w)
  (yj:∀L a w,I L a w->(∀i,i<l.length->L i=true)->Q .normal a w):(Code.region id l.toArray true).wpIn Fe n P Q a w:=by
 simp only[gV,Bool.and_eq_true,decide_eq_true_eq]at hok
 obtain⟨h1,h3⟩:=hok
 have hF:jZ l.toArray.size (List.range l.toArray.size)=Array.replicate l.toArray.size true:=by
  apply Array.ext
  ·simp[jZ]
  ·intro i h1 h2
   have hi:i<l.length:=by simpa [jZ] using h1
   simp[jZ,hi]
 refine wpIn_region_any hm (ue (List.range l.toArray.size) h1 ?_ I (λi hi o ho L a w hI hno hpre=>?_) (λL a w hI de fuel hfl=>?_) l.toArray.size _ a _ ⟨by simp,λi hi _=>(by have hi':i<l.length:=(by simpa using hi); simp[hi'])⟩ ?_ ?_ ?_)
 ·simp only[qx,Bool.and_eq_true,List.all_eq_true,decide_eq_true_eq,List.mem_range,Bool.or_eq_true]
  exact⟨λj hj=>hj,λi hi=>.inl (by simpa using hi)⟩
 ·have tg:l[i]?=some o:=by simpa using ho
  exact hstep i o tg L a w hI hno (λj hj=>by
   simp only[wD,List.mem_map,List.mem_filter]at hj
   obtain⟨e,⟨he,hb⟩,rfl⟩:=hj
   exact hpre e (by simpa using he) hb)
 ·rw[hF]
  have hq:=yj L a w hI (λi hi=>de i (List.mem_range.2 (by simpa using hi)))
  cases fuel with
  |zero=>exact⟨h3,hq⟩
  |succ n=>exact⟨λ_=>hq,by rw[h3]; simp⟩
 ·intro i o ho hl
  exfalso
  rcases Nat.lt_or_ge i l.toArray.size with h'|h'
  ·have h2:i<l.length:=by simpa using h'
   simp[h2]at hl
  ·have h2:l.length<=i:=by simpa using h'
   simp[h2]at hl
 ·have e:(λj=>(Array.replicate l.toArray.size false).getD j false)=(λ_=>false):=by
   funext j
   rcases Nat.lt_or_ge j l.length with h'|h'
   ·simp[h']
   ·simp[h']
  rw[e]; exact h0
 ·have:=List.length_filter_le (λj=>!((Array.replicate l.toArray.size false).getD j true)) (List.range l.toArray.size)
  rw[List.length_range]at this
  exact this
end
def rf (ro:Option Nat):Fence:={ Fence.wide with round:=ro }
def fo (ds:List Deferred) (a:Act):Act:={ a with defers:=ds++a.defers }
def cF (o:Oper):Bool:=match o.op with
 |.defer _=>false
 |_=>true
def _root_.Go.Code.ww (ro:Option Nat) (ds:List Deferred) (P:Program) (c:Code) (Q:Exit->Act->World->Prop) (a:Act) (w:World):Prop:=
 ∀n,c.wpIn (rf ro) n P (λe a' w'=>∃a0,a'=fo ds a0/\Q e a0 w') (fo ds a) w
theorem iA (ds:List Deferred) (a:Act):(fo ds a).eval=a.eval:=by funext x; cases x<;>rfl
theorem lP (ds:List Deferred) (a:Act) (d:Option Nat) (v:Value):(fo ds a).put d v=fo ds (a.put d v):=by cases d<;>rfl
variable {ro:Option Nat} {n:Nat} {P:Program} {w:World}
theorem kI {f:FuncId} {args:Array Value} {R:Ending->World->Prop} (h:Calls P f args w R):CallsIn (rf ro) n P f args w R:=(callsIn_wide (n:=n)).2 h
theorem aW.nT {ds:List Deferred} {ops:Array Oper} {Q:Exit->Act->World->Prop} {i:Nat} {o:Oper} {a:Act} {K K':Act->World->Prop} (hi:ops[i]?=some o) (hd:cF o=true) (h:aW P ops o a w K) (hK:∀a w,K a w->K' (fo ds a) w):
  wpOpIn (rf ro) n P ops Q i K' (fo ds a) w:=by
 unfold wpOpIn
 rw[hi]
 unfold aW at h
 have hy:yielded ops (fo ds a).tmps=yielded ops a.tmps:=rfl
 simp only[hy]
 split
 ·rename_i hw
  rw[if_pos hw]at h
  unfold Oper.wpIn
  refine⟨λ_ _=>trivial,?_⟩
  rw[iA,Oper.semAt_eq _ _ _ (λc hc=>by unfold cF at hd; rw[hc]at hd; cases hd)]
  unfold Does at h
  generalize (execOp a.eval o).run P w=r at *
  cases r with
  |ok x w'=>
   cases x<;>simp only[Oper.uponIn]at h ⊢<;>first|(rw[lP]; exact hK _ _ h)|exact h.elim|skip
   case enter f args=>
    refine⟨λh=>(by cases h),CallsIn.mono (kI h) λe w'' he=>?_⟩
    obtain⟨v,rfl,hk⟩:=he
    show K' ((fo ds a).put o.dst v) w''
    rw[lP]
    exact hK _ _ hk
  |halt x w'=>cases x<;>exact h.elim
 ·rename_i hw
  rw[if_neg hw]at h
  refine⟨λ_ _=>trivial,?_⟩
  rw[lP]
  exact hK _ _ h
section
variable {ro:Option Nat} {ds:List Deferred} {P:Program} {Q:Exit->Act->World->Prop} {a:Act} {w:World} {c:bQ} {V:List Vr} {A:List Al} {G:List aN}
theorem ak (h:Q .normal a w):Code.skip.ww ro ds P Q a w:=λ_=>wpIn_skip ⟨_,rfl,h⟩
variable {id:Nat}
theorem cj (h:Q (.exit id) a w):(Code.exit id).ww ro ds P Q a w:=λ_=>wpIn_exit ⟨_,rfl,h⟩
theorem av (h:Q .ret a w):Code.ret.ww ro ds P Q a w:=λ_=>wpIn_ret ⟨_,rfl,h⟩
variable {x y:Code}
theorem ah (h:x.ww ro ds P (Exit.then (y.ww ro ds P Q) Q) a w):(Code.seq x y).ww ro ds P Q a w:=λn=>wpIn_seq (wpIn_mono (h n) λe a' w' ⟨a0,e0,h0⟩=>by
 subst e0
 cases e with
 |normal=>exact h0 n
 |_=>exact⟨a0,rfl,h0⟩)
theorem aD (h:x.ww ro ds P (Exit.inBlock id Q) a w):(Code.block id x).ww ro ds P Q a w:=λn=>wpIn_block (wpIn_mono (h n) λe a' w' ⟨a0,e0,h0⟩=>by
 subst e0
 cases e with
 |exit m=>
  by_cases hm:m=id
  ·subst hm; simp only[Exit.inBlock,if_true]at h0 ⊢; exact⟨a0,rfl,h0⟩
  ·simp only[Exit.inBlock,hm,if_false]at h0 ⊢; exact⟨a0,rfl,h0⟩
 |_=>exact⟨a0,rfl,h0⟩)
theorem mc {s:Operand} {t:Bool} (hc:a.eval s=.bool t) (ht:t=true->x.ww ro ds P Q a w) (hf:t=false->y.ww ro ds P Q a w):(Code.cond s x y).ww ro ds P Q a w:=λn=>wpIn_cond_split (t:=t) (by rw[iA]; exact hc) (λh=>ht h n) (λh=>hf h n)
theorem Cw {ι:Type} {C:Code} (I:ι->Act->World->Prop) (μ:ι->Nat) (k0:ι) (h0:I k0 a w)
  (round:∀k a w,I k a w->C.ww ro ds P (Exit.then (λa' w'=>∃k',I k' a' w'/\μ k'<μ k) Q) a w):(Code.loop C).ww ro ds P Q a w:=by
 intro n
 refine wpIn_loop_rounds (μ k0+1) ?_
 have key:∀m k a w,I k a w->μ k<m->Code.roundsIn (rf ro) n P C (λe a' w'=>∃a0,a'=fo ds a0/\Q e a0 w') m (fo ds a) w:=by
  intro m
  induction m with
  |zero=>intro k a w _ h; omega
  |succ m ih=>
   intro k a w hI hm
   rw[roundsIn_succ]
   refine wpIn_mono (round k a w hI n) λe a' w' ⟨a0,e0,h'⟩=>?_
   subst e0
   cases e with
   |normal=>
    obtain⟨k',hI',hlt⟩:=h'
    exact ih k' a0 w' hI' (by omega)
   |_=>exact⟨a0,rfl,h'⟩
 exact key _ k0 a w h0 (by omega)
variable {l:List Oper}
theorem Ac (ms:List Nat) (hm:P.follows .mixedOrders=true) (hok:gV l.toArray=true) (rz:ox l=ms) (hwf:nY c.N l V A G=true) (hnd:l.all cF=true)
  (h0:Inv c V A G none_ a w) (hs:mh P l.toArray ms c V A G 0 l) (hk:∀a w,Inv c V A G (λ_=>true) a w->Q .normal a w):(Code.region id l.toArray true).ww ro ds P Q a w:=by
 intro n
 have jb:=mQ l
 rw[rz]at jb
 refine iM hm hok (λL a' w=>∃a,a'=fo ds a/\Inv c V A G L a w/\gM l L) ⟨a,rfl,?_,λi o _ h=>by cases h⟩ ?_ ?_
 ·obtain⟨β,hβ⟩:=h0
  exact⟨β,hβ.draws⟩
 ·rintro i o hi L _ w ⟨a,rfl,hI,hc⟩ hno hpre
  have pF:iY ms i L:=⟨hno,λj hj=>jb.2 L hc i o hi hpre j hj,λj hj=>by
   cases hL:L j with
   |false=>rfl
   |true=>
    cases yf:l[j]? with
    |none=>
     have h1:=jb.1
     rw[List.getD_eq_getElem?_getD,List.getElem?_eq_none (by have:=List.getElem?_eq_none_iff.1 yf; omega)]at hj
     simp at hj
    |some oj=>
     have:=jb.2 L hc j oj yf (λm hm=>hc j oj yf hL m hm) i hj
     rw[hno]at this
     cases this⟩
  have lp:gM l (upd L i):=by
   intro k ok iD hL j hj
   by_cases uy:k=i
   ·subst uy
    rw[hi]at iD
    injection iD with iD
    subst iD
    have:=hpre j hj
    unfold upd
    split
    ·rfl
    ·exact this
   ·have:=hc k ok iD (ua hL uy) j hj
    unfold upd
    split
    ·rfl
    ·exact this
  have hop:=hs.get hi
  rw[Nat.zero_add]at hop
  exact(hop L a w hI pF (qy hwf hi)).nT (by simpa using hi) (List.all_eq_true.1 hnd o (List.mem_of_getElem? hi)) λa' w' h'=>⟨a',rfl,h',lp⟩
 ·rintro L _ w ⟨a,rfl,⟨β,hI⟩,_⟩ de
  exact⟨a,rfl,hk a w ⟨β,hI.congr (eJ hwf) de⟩⟩
theorem Cy (hwf:nY c.N l V A G=true) (hnd:l.all cF=true)
  (h0:Inv c V A G none_ a w) (hs:mh P l.toArray (bM l.length) c V A G 0 l) (hk:∀a w,Inv c V A G (λ_=>true) a w->Q .normal a w):(Code.region id l.toArray false).ww ro ds P Q a w:=by
 intro n
 refine wpIn_region ?_
 have tm:∀k j,((bM l.length).getD k 0).testBit j=true->j<k:=by
  intro k j h
  rcases Nat.lt_or_ge k l.length with h'|h'
  ·have e:(bM l.length).getD k 0=2^k-1:=by simp[bM,h']
   rw[e,Nat.testBit_two_pow_sub_one]at h
   simpa using h
  ·have e:(bM l.length).getD k 0=0:=by simp[bM,Nat.not_lt.2 h']
   rw[e]at h
   simp at h
 have key:∀(m i:Nat),i+m=l.length->∀(a:Act) (w:World),Inv c V A G (λj=>decide (j<i)) a w->wpOpsIn (rf ro) n P l.toArray (λe a' w'=>∃a0,a'=fo ds a0/\Q e a0 w') (List.range' i m) (fo ds a) w:=by
  intro m
  induction m with
  |zero=>
   rintro i hi a w ⟨β,hI⟩
   exact⟨a,rfl,hk a w ⟨β,hI.congr (eJ hwf) λj hj=>by simp; omega⟩⟩
  |succ m ih=>
   intro i hi a w hI
   obtain⟨o,ho⟩:∃o,l[i]?=some o:=⟨l[i]'(by omega),List.getElem?_eq_getElem (by omega)⟩
   rw[List.range'_succ,wpOpsIn_cons]
   have pF:iY (bM l.length) i (λj=>decide (j<i)):=⟨by simp,λj hj=>by simpa using tm i j hj,λj hj=>by have:=tm j i hj; simp; omega⟩
   have hop:=hs.get ho
   rw[Nat.zero_add]at hop
   refine(hop _ a w hI pF (qy hwf ho)).nT (by simpa using ho) (List.all_eq_true.1 hnd o (List.mem_of_getElem? ho)) λa' w' h'=>ih (i+1) (by omega) a' w' ?_
   have e:upd (λj=>decide (j<i)) i=(λj=>decide (j<i+1)):=by
    funext j
    unfold upd
    by_cases h:j=i
    ·simp[h]
    ·rw[if_neg h]
     by_cases h2:j<i
     ·simp[h2]; omega
     ·simp[h2]; omega
   rw[<-e]
   exact h'
 have:=key l.length 0 (by omega) a w (by
  have e:(λj=>decide (j<0))=none_:=by funext j; simp
  rw[e]
  exact h0)
 rwa [<-List.range_eq_range',show l.length=l.toArray.size by simp]at this
end
end Wx

namespace Wx
open Go Go.RowKit Go.Proofs Go.Lib
def bz (s:ByteArray) (k:Nat):Int:=((s.data.toList.getD k 0).toNat:Int)
theorem xw (s:ByteArray) (k:Nat):0<=bz s k/\bz s k<=255:=by
 unfold bz
 have:=(s.data.toList.getD k 0).toNat_lt
 omega
abbrev pT (s:ByteArray):Pred:=aG (.string s)
abbrev sM (n:Int):Pred:=aG (.int .u8 n)
abbrev ei (n:Int):Pred:=aG (.int .u32 n)
abbrev Kn (s:ByteArray):Pred:=aI 1 false s.size λk=>sM (bz s k)
theorem cG {s:ByteArray} {k:Nat} (h:k<s.size):bz s k=((s[k]'h).toNat:Int):=by
 unfold bz
 have h':k<s.data.toList.length:=by rw[Array.length_toList]; exact h
 rw[List.getD_eq_getElem?_getD,List.getElem?_eq_getElem h',Option.getD_some,Array.getElem_toList]
 rfl
def isStr (P:Program) (T:TypeId):Bool:=match P.underlying T with
 |some .string=>true
 |_=>false
theorem dX {P:Program} {T:TypeId} (h:isStr P T=true):P.underlying T=some .string:=by
 unfold isStr at h
 split at h
 ·assumption
 ·cases h
section
variable {P:Program} {ops:Array Oper} {ms:List Nat} {c:bQ} {V:List Vr} {A:List Al} {G:List aN} {i d:Nat} {x y z:Operand} {ty t u:TypeId} {pos:String} {aft:Array Edge} {s r:ByteArray} {m n:Int}{T:TypeId}
theorem gF (h:Has ms G i x (pT s):=by exact hs) (ht:isStr P T=true:=by kernel_rfl) (hp:Post G i (pI (s.size:Int)):=by exact pt rfl):OpOk P ops ms c V A G i ⟨some d,.call ⟨.builtin .len,#[x],#[T]⟩,ty,pos,aft,none⟩:=
 eL rfl rfl rfl rfl h hp λρ w h=>⟨.int .i64 (s.size:Int),by
  have e:ρ x=.string s:=h
  have hr:(Builtin.len_ #[T] ty #[ρ x]).run P w=.ok (.int .i64 (s.size:Int)) w:=by
   rw[e]
   unfold Builtin.len_
   simp[run_underlying (dX ht),goInt]
  show(do let d <-resolve ρ ⟨.builtin .len,#[x],#[T]⟩ ty; invoke d.target d.args).run P w=_
  simp only[resolve,invoke,pure_bind,builtin]
  rw[show(#[x]:Array Operand).map ρ=#[ρ x] by simp,Sem.run_bind,hr]
  rfl,λ_ _=>rfl⟩
theorem lJ (k:Nat) (h:Has ms G i x (pT s):=by exact hs) (hy:Has ms G i y (pI (k:Int)):=by exact(Wx.hs).imp (bh (by omega))) (hk:k<s.size:=by omega) (ht:isStr P T=true:=by kernel_rfl) (hp:Post G i (sM (bz s k)):=by exact pt rfl):OpOk P ops ms c V A G i ⟨some d,.index T x y,ty,pos,aft,none⟩:=
 eM rfl rfl rfl rfl h hy hp λρ w h hy=>⟨.int .u8 (bz s k),by
  have h:ρ x=.string s:=h
  have hy:ρ y=.int .i64 (k:Int):=hy
  show(do pure (Next.value (<-Instr.index T (ρ x) (ρ y)))).run P w=_
  rw[h,hy,Sem.run_bind,run_index_string w T s .i64 (k:Int) (dX ht),dif_pos ⟨by omega,by omega⟩,cG hk]
  rfl,λ_ _ _=>rfl⟩
theorem ve {lo hi:Option Value} {e:ByteArray} (w:World) (ht:isStr P T=true) (h:(Instr.slice T (.string s) lo hi none).run P w=.ok (.string e) w):(do pure (Next.value (<-Instr.sliceAt T (.string s) lo hi none))).run P w=.ok (.value (.string e)) w:=by
 rw[Sem.run_bind,run_sliceAt_string w T _ lo hi none (dX ht),h]
 rfl
theorem FJ (k:Nat) (h:Has ms G i x (pT s):=by exact hs) (hy:Has ms G i y (pI (k:Int)):=by exact(Wx.hs).imp (bh (by omega))) (hk:k<=s.size:=by omega) (ht:isStr P T=true:=by kernel_rfl) (hp:Post G i (pT (s.extract k s.size)):=by exact pt rfl):OpOk P ops ms c V A G i ⟨some d,.slice T x (some y) none none,ty,pos,aft,none⟩:=
 eM rfl rfl rfl rfl h hy hp λρ w h hy=>⟨.string (s.extract k s.size),by
  have h:ρ x=.string s:=h
  have hy:ρ y=.int .i64 (k:Int):=hy
  show(do pure (Next.value (<-Instr.sliceAt T (ρ x) (some (ρ y)) none none))).run P w=_
  rw[h,hy]
  exact ve w ht (run_slice_string_l w T s (dX ht) .i64 (k:Int) (by omega) (by omega)),λ_ _ _=>rfl⟩
theorem Cg (k:Nat) (h:Has ms G i x (pT s):=by exact hs) (hy:Has ms G i y (pI (k:Int)):=by exact(Wx.hs).imp (bh (by omega))) (hk:k<=s.size:=by omega) (ht:isStr P T=true:=by kernel_rfl) (hp:Post G i (pT (s.extract 0 k)):=by exact pt rfl):OpOk P ops ms c V A G i ⟨some d,.slice T x none (some y) none,ty,pos,aft,none⟩:=
 eM rfl rfl rfl rfl h hy hp λρ w h hy=>⟨.string (s.extract 0 k),by
  have h:ρ x=.string s:=h
  have hy:ρ y=.int .i64 (k:Int):=hy
  show(do pure (Next.value (<-Instr.sliceAt T (ρ x) none (some (ρ y)) none))).run P w=_
  rw[h,hy]
  exact ve w ht (run_slice_string_h w T s (dX ht) .i64 (k:Int) (by omega) (by omega)),λ_ _ _=>rfl⟩
theorem Im (j k:Nat) (h:Has ms G i x (pT s):=by exact hs) (hy:Has ms G i y (pI (j:Int)):=by exact(Wx.hs).imp (bh (by omega))) (hz:Has ms G i z (pI (k:Int)):=by exact(Wx.hs).imp (bh (by omega))) (hj:j<=k:=by omega) (hk:k<=s.size:=by omega) (ht:isStr P T=true:=by kernel_rfl) (hp:Post G i (pT (s.extract j k)):=by exact pt rfl):OpOk P ops ms c V A G i ⟨some d,.slice T x (some y) (some z) none,ty,pos,aft,none⟩:=
 bD rfl rfl rfl (.inl rfl) hp λL β a w hI hd=>by
  have e1:a.eval x=.string s:=(h.spec hI hd).out
  have e2:a.eval y=.int .i64 (j:Int):=(hy.spec hI hd).out
  have e3:a.eval z=.int .i64 (k:Int):=(hz.spec hI hd).out
  refine⟨.string (s.extract j k),w,?_,Below.refl _ _,λ_ _=>rfl⟩
  show(do pure (Next.value (<-Instr.sliceAt T (a.eval x) (some (a.eval y)) (some (a.eval z)) none))).run P w=_
  rw[e1,e2,e3]
  exact ve w ht (run_slice_string w T s .i64 .i64 (j:Int) (k:Int) (dX ht) (by omega) (by omega) (by omega))
def Gk (P:Program) (S D:TypeId):Bool:=match P.underlying S,P.underlying D with
 |some .string,some (.slice E)=>match P.underlying E with
  |some (.int .u8)=>true
  |_=>false
 |_,_=>false
variable {S D:TypeId}
theorem sP (h:Gk P S D=true):P.underlying S=some .string/\∃E,P.underlying D=some (.slice E)/\P.underlying E=some (.int .u8):=by
 unfold Gk at h
 split at h
 ·rename_i E h1 h2
  split at h
  ·rename_i h3
   exact⟨h1,E,h2,h3⟩
  ·cases h
 ·cases h
theorem KV (h:Has ms G i x (pT s):=by exact hs) (ht:Gk P S D=true:=by kernel_rfl) (hz:s.size<=1000000000:=by omega) (hp:Post G i (Kn s):=by exact pt rfl):OpOk P ops ms c V A G i ⟨some d,.convert S D x,ty,pos,aft,none⟩:=
 bD rfl rfl rfl (.inl rfl) hp λL β a w hI hd=>by
  have e1:a.eval x=.string s:=(h.spec hI hd).out
  obtain⟨h1,E,h2,h3⟩:=sP ht
  have hb:Below w.heap.size w (bytesWorld w E s):=⟨rfl,rfl,rfl,by rw[bytesWorld_size]; omega,λk hk=>bytesWorld_at_old w E s k hk⟩
  have hcap:s.size<=grownCap w s.size 0 E/\grownCap w s.size 0 E<=maxLen:=by
   have key:∀t:Nat,s.size<=s.size+t%(2^63-s.size)/\s.size+t%(2^63-s.size)<=maxLen:=λt=>by
    have:=Nat.mod_lt t (show 0<2^63-s.size by omega)
    unfold maxLen
    omega
   exact key _
  refine⟨_,_,?_,hb,λw' he=>⟨some ⟨w.heap.size,0,none⟩,grownCap w s.size 0 E,rfl,hcap.1,hcap.2,λ_=>⟨w.heap.size,0,rfl,λk hk=>⟨[.int .u8 (bz s k)],rfl,λj u hu=>?_,rfl⟩⟩⟩⟩
  ·show(do pure (Next.value (<-Go.convert S D (a.eval x)))).run P w=_
   rw[e1,Sem.run_bind,Lib.run_convert_string_bytes w S D E s h1 h2 h3]
   rfl
  ·match j,hu with
   |0,hu=>
    injection hu with hu
    subst hu
    have hc:=bytesWorld_cell w E s k hk
    have hno:∀o,¬own c V L β w.heap.size o:=λo ho=>by have:=kS hI ho; omega
    have:=he.cell w.heap.size k _ (hno k) hc
    rw[show 0+k*1+0=k by omega]
    exact this
end
end Wx
