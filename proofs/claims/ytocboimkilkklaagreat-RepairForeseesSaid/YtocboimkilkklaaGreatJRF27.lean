import Derived.Test.YtocboimkilkklaaGreatJRF26
import Derived.Test.YtocboimkilkklaaGreatJRF25
namespace Wx
open Go Go.RowKit
section
variable {ro:Option Nat} {P:Program} {Q:Exit->Act->World->Prop} {c:eL} {V:List Vr} {A:List Al} {G:List bI} {β:Nat->Nat->Prop} {a a':Act} {w w':World}
theorem tn {x:Code} {d:Deferred} (h:x.ww ro [d] P (λe a w=>Q e (ot [d] a) w) a w):x.ww ro [] P Q (ot [d] a) w:=λn=>wpIn_mono (h n) λ_ _ _ ⟨a0,e0,h0⟩=>⟨ot [d] a0,e0,h0⟩
def xM (P:Program) (fn:Func) (R:Ending->World->Prop):Exit->Act->World->Prop:=bodyPostM (Cp none) 0 P fn R
variable {fn:Func} {R:Ending->World->Prop}
theorem wO {f:FuncId} {C:Code} {vs:List Value} {M:Nat->Nat->Prop} {N:Nat} {G:List bI} (hf:P.funcs[f]?=some fn) (hb:fn.body=some C) (hN:fn.ntmps=N) (hlen:decide (vs.length<=N)=true) (hM:dc M w) (hG:ck M w vs G)
  (h:∀a,Inv ⟨N,w,M,λ_=>False⟩ [] [] G none_ a w->C.ww none [] P (xM P fn R) a w):Calls P f vs.toArray w R:=
 (callsIn_wide (n:=0)).1 (callsIn_of_wp_marks (F:=Cp none) (n:=0) hf hb trivial (wpIn_mono (h _ (ru hM (by have:=of_decide_eq_true hlen; simp[hN]; omega) rfl hG.ok) 0) λe a' w' ⟨a0,e0,h0⟩=>by subst e0; exact h0))
variable {p:Pred} {n0 id:Nat}
theorem eM.set {r:ResultVar} {s:Nat} {R R':Rel} (h:eM P V G r p) (BO:V[n0]?=some (fM id s R)):eM P (V.set n0 (fM id s R')) G r p:=by
 induction h with
 |tmp k hk=>exact .tmp k hk
 |@cell x p T s k hk hb dI hs ht hc=>
  refine .cell k ?_ hb dI hs ht hc
  have hne:n0≠k:=λe=>by
   rw[e,hk]at BO
   injection BO with BO
   rw[BO]at dI
   cases dI
  rw[List.getElem?_set_ne hne]
  exact hk
 |imp _ hq ih=>exact .imp ih hq
variable {r:Loop} {l D:Nat}
theorem bO.taken (h:bO c V [] G none_ β a w) (hV:dw V=true) (hG:eI G=true) (hk:V[n0]?=some (fe id l D r)) (hu:iG V id n0=true):
  (Instr.takeDeferred D).run P w=.ok [] (w.putObj D (.deferred none))/\∃β',bO c (V.set n0 (fM id id λ_ _ _=>True)) [] G none_ β' a (w.putObj D (.deferred none)):=by
 obtain⟨h1,h2,h3,h4⟩:=h.Gn hk
 have hlt:l<w.heap.size:=(Array.getElem?_eq_some_iff.1 h2).1
 have hl2:(w.putObj D (.deferred none)).heap[l]?=some (.loop r):=(World.putObj_heap_other (by omega)).trans h2
 have OI:(w.putObj D (.deferred none)).heap[D]?=some (.deferred none):=World.putObj_heap_same (by omega)
 refine⟨run_takeDeferred h3,_,h.move (B':=β id) (R':=λ_ _ _=>True) hV hG hk (jC hu) (rV _ ((h1 D).2 (.inr rfl))) (λk hk'=>.inl hk') (λk hk'=>?_) (aL.always trivial _)⟩
 rw[World.putObj_size]
 rcases (h1 k).1 hk' with rfl|rfl
 ·exact⟨hlt,λo v hv=>absurd hv (jd hl2 rfl v)⟩
 ·exact⟨by omega,λo v hv=>absurd hv (jd OI rfl v)⟩
theorem Il {v:Value} (hd:a.defers=[]) (ht:(Instr.takeDeferred D).run P w=.ok [] w') (hr:(results fn a.tmps).run P w'=.ok v w') (hR:R (.returned v) w'):xM P fn R .ret (ot [coll D] a) w:=by
 show LeavesInM (Cp none) 0 P fn a.tmps R ([coll D]++a.defers) .returning w
 rw[hd]
 exact⟨(λh=>(by cases h)),.inl ⟨D,w',rfl,ht,v,hr,hR⟩⟩
theorem DR {r1:ResultVar} (hI:Inv c V [] G none_ a w) (n0:Nat) (hr:fn.results=#[r1]) (h:eM P V G r1 p) (hk:V[n0]?=some (fe id l D r):=by exact rfl) (hn:∀k,¬c.jt k:=by exactλ_ h=>h)
  (hV:dw V=true:=by kernel_rfl) (hG:eI G=true:=by kernel_rfl) (hu:iG V id n0=true:=by kernel_rfl):xM P fn (bu c.M0 p c.w0) .ret (ot [coll D] a) w:=by
 obtain⟨β,hI⟩:=hI
 obtain⟨h1,β',h2⟩:=hI.taken (P:=P) hV hG hk hu
 obtain⟨v,h3,h4⟩:=(h.set hk).run h2
 refine Il hI.defers h1 (v:=v) ?_ ⟨v,rfl,jI h4,h2.below.below hn⟩
 rw[fQ,hr]
 simp[h3]
end
end Wx

namespace Wx
open Go Go.RowKit
abbrev jV (N:Nat) (B:Nat->Prop) (J:World->Prop):Vr:=fM N N λB' w _=>(∀k,B' k↔B k)/\J w
section
variable {ro:Option Nat} {ds:List Deferred} {P:Program} {Q:Exit->Act->World->Prop} {c:eL} {V:List Vr} {A:List Al} {G:List bI} {β:Nat->Nat->Prop} {a a':Act} {w w':World}{id:Nat} {l:List Oper}
theorem xW (k:Nat) (hkn:k<=l.length) (hwf:vP c.N (l.take k) V A G=true) (P8:(l.take k).all iA=true)
  (h0:Inv c V A G none_ a w) (hs:oC P l.toArray (bC l.length) c V A G 0 (l.take k))
  (hK:∀a w,Inv c V A G (λ_=>true) a w->∀n,wpOpsIn (Cp ro) n P l.toArray (λe a' w'=>∃a0,a'=ot ds a0/\Q e a0 w') (List.range' k (l.length-k)) (ot ds a) w):(Code.region id l.toArray false).ww ro ds P Q a w:=by
 intro n
 refine wpIn_region ?_
 have tm:∀k j,((bC l.length).getD k 0).testBit j=true->j<k:=by
  intro k j h
  rcases Nat.lt_or_ge k l.length with h'|h'
  ·have e:(bC l.length).getD k 0=2^k-1:=by simp[bC,h']
   rw[e,Nat.testBit_two_pow_sub_one]at h
   simpa using h
  ·have e:(bC l.length).getD k 0=0:=by simp[bC,Nat.not_lt.2 h']
   rw[e]at h
   simp at h
 have key:∀(m i:Nat),i+m=k->∀(a:Act) (w:World),Inv c V A G (λj=>decide (j<i)) a w->wpOpsIn (Cp ro) n P l.toArray (λe a' w'=>∃a0,a'=ot ds a0/\Q e a0 w') (List.range' i m++List.range' k (l.length-k)) (ot ds a) w:=by
  intro m
  induction m with
  |zero=>
   rintro i hi a w ⟨β,hI⟩
   exact hK a w ⟨β,hI.congr (ji hwf) λj hj=>by simp at hj; simp; omega⟩ n
  |succ m ih=>
   intro i hi a w hI
   have Fo:i<k:=by omega
   obtain⟨o,ho⟩:∃o,l[i]?=some o:=⟨l[i]'(by omega),List.getElem?_eq_getElem (by omega)⟩
   have Xd:(l.take k)[i]?=some o:=by rw[List.getElem?_take,if_pos Fo]; exact ho
   rw[List.range'_succ,List.cons_append,wpOpsIn_cons]
   have yJ:oB (bC l.length) i (λj=>decide (j<i)):=⟨by simp,λj hj=>by simpa using tm i j hj,λj hj=>by have:=tm j i hj; simp; omega⟩
   have hop:=hs.get Xd
   rw[Nat.zero_add]at hop
   refine(hop _ a w hI yJ (Km hwf ho Fo)).JA (by simpa using ho) (List.all_eq_true.1 P8 o (List.mem_of_getElem? Xd)) λa' w' h'=>ih (i+1) (by omega) a' w' ?_
   have e:upd (λj=>decide (j<i)) i=(λj=>decide (j<i+1)):=by
    funext j
    unfold upd
    by_cases h:j=i
    ·simp[h]
    ·rw[if_neg h]
     by_cases h2:j<i
     ·simp[h2]; omega
     ·simp[h2]; omega
   rw[<-e]
   exact h'
 have:=key k 0 (by omega) a w (by
  have e:(λj=>decide (j<0))=none_:=by funext j; simp
  rw[e]
  exact h0)
 have e2:List.range' 0 k++List.range' k (l.length-k)=List.range l.toArray.size:=by
  rw[List.range_eq_range',show l.toArray.size=k+(l.length-k) by simp; omega]
  have:=List.range'_append_1 (s:=0) (m:=k) (n:=l.length-k)
  rw[Nat.zero_add]at this
  exact this
 rwa [e2]at this
variable {d f:Nat} {ts:Array TypeId} {ty:TypeId} {pos:String} {aZ:Array Edge}
theorem Mw {n:Nat} {ops:Array Oper} {i l:Nat} {x y:Operand} {R:Bool->World->Prop} {K:Act->World->Prop} (hi:ops[i]?=some ⟨some d,.call ⟨.value (.tmp f),#[x,y],ts⟩,ty,pos,aZ,none⟩)
  (hf:sl a f=.func (.yield l) #[] #[]) (hY:yc P l #[a.eval x,a.eval y] w R) (hK:∀b w',R b w'->K (ot ds (a.put (some d) (.bool b))) w'):wpOpIn (Cp none) n P ops Q i K (ot ds a) w:=by
 obtain⟨fn,tmps,assign,body,hy,hR⟩:=hY (n-1)
 have hr:(execOp a.eval ⟨some d,.call ⟨.value (.tmp f),#[x,y],ts⟩,ty,pos,aZ,none⟩).run P w=.ok (.round l fn tmps assign body) w:=by
  have hf':a.eval (.tmp f)=.func (.yield l) #[] #[]:=hf
  simp only[execOp,resolve,hf',Deferred.ofValue,pure_bind,invoke]
  simpa using hy
 unfold wpOpIn
 rw[hi]
 simp only
 rw[if_pos (by simp[Region.wanted])]
 unfold Oper.wpIn
 refine⟨λ_ _=>trivial,?_⟩
 rw[tQ,Oper.semAt_eq _ _ _ (λc hc=>by cases hc),hr]
 refine⟨λh=>(by cases h),hR.mono ?_⟩
 rintro e w' ⟨b,rfl,h⟩
 show K ((ot ds a).put (some d) (.bool b)) w'
 rw[sO]
 exact hK b w' h
variable {N n0:Nat} {B:Nat->Prop} {J:World->Prop}
theorem bO.Sa (h:bO c V [] G none_ β a w) (hk:V[n0]?=some (jV N B J)):(∀k,β N k↔B k)/\aL (minus (own c V none_ β) (β N)) J w/\kJ (β N) w/\∀k,β N k->mine c k:=by
 obtain⟨h1,h2⟩:=(bh rfl).1 (h.var _ (List.mem_of_getElem? hk) rfl)
 exact⟨h2.out.1,h2.imp λ_ h=>h.2,λk hk=>(h1 k hk).2,λk hk=>(h1 k hk).1⟩
def rQ (V:List Vr) (G:List bI) (d e N:Nat):Bool:=V.all (λx=>x.slot != d&&x.slot != e)&&(G.all (λx=>x.slot != d&&x.slot != e)&&(decide (d<N)&&(decide (e<N)&&d != e)))
variable {C:Code}
theorem Ks {σ:Type} {V1 V2:List Vr} {G1 G2:List bI} {A1:List Al} {nv:List Vr} {ne:List bI} {e L x y:Nat} {Qe ty2:TypeId} {pos2:String} {aft2:Array Edge} {p q:Pred}
  (Bs:σ->Nat->Prop) (JX:Bool->σ->World->Prop) (k:Nat) (h:Inv c V [] G none_ a w) (hV:vT nv V V1) (hG:me ne G G1) (hs:oC P l.toArray (bC l.length) c V1 A1 G1 0 (l.take k)) (kV:fH V1 V2) (kG:aH G1 G2)
  (hl:l.drop k=[⟨some d,.call ⟨.value (.tmp f),#[.tmp x,.tmp y],ts⟩,ty,pos,aZ,none⟩,⟨some e,.unOp .not Qe (.tmp d),ty2,pos2,aft2,none⟩])
  (hf:iW f G2=some (cI (.func (.yield L) #[] #[]))) (hx:iW x G2=some p) (hy:iW y G2=some q) (hJ:V2[n0]?=some (jV c.N B J))
  (hY:∀M' w' v0 v1,dc M' w'->(∀k,B k->∀o,¬M' k o)->kJ B w'->aL M' J w'->aL (λk o=>M' k o\/B k) (λw=>p w v0) w'->aL (λk o=>M' k o\/B k) (λw=>q w v1) w' ->
   yc P L #[v0,v1] w' λb w''=>∃s':σ,er B w' w''/\(∀k,Bs s' k->B k\/w'.heap.size<=k)/\kJ (Bs s') w''/\aL M' (JX b s') w'')
  (next:∀b s' a w,Inv c (V2.set n0 (jV c.N (Bs s') (JX b s'))) [] (⟨none,none,e,pB !b⟩::⟨none,none,d,pB b⟩::G2) none_ a w->C.ww none ds P Q a w)
  (hn:jF nv A1 ne=true:=by kernel_rfl) (hk:decide (k<=l.length)=true:=by kernel_rfl) (hb:vP c.N (l.take k) V1 A1 G1=true:=by kernel_rfl) (hd:(l.take k).all iA=true:=by kernel_rfl) (hp2:dw V2=true:=by kernel_rfl) (hg2:eI G2=true:=by kernel_rfl) (hu:iG V2 c.N n0=true:=by kernel_rfl) (hfr:rQ V2 G2 d e c.N=true:=by kernel_rfl):
  (Code.seq (Code.region id l.toArray false) C).ww none ds P Q a w:=by
 have hk':=of_decide_eq_true hk
 refine aU (xW k hk' hb hd (jf h hV hG hn) hs λa1 w1 Yq n=>?_)
 have DX:=kZ hb kV kG Yq
 have hlen:l.length-k=2:=by rw[<-List.length_drop,hl]; rfl
 have o1:l.toArray[k]?=some ⟨some d,.call ⟨.value (.tmp f),#[.tmp x,.tmp y],ts⟩,ty,pos,aZ,none⟩:=by
  have:(l.drop k)[0]?=l[k+0]?:=List.getElem?_drop
  rw[hl]at this
  simpa using this.symm
 have o2:l.toArray[k+1]?=some ⟨some e,.unOp .not Qe (.tmp d),ty2,pos2,aft2,none⟩:=by
  have:(l.drop k)[1]?=l[k+1]?:=List.getElem?_drop
  rw[hl]at this
  simpa using this.symm
 rw[hlen,show List.range' k 2=[k,k+1]from rfl,wpOpsIn_cons]
 unfold rQ at hfr
 simp only[Bool.and_eq_true,List.all_eq_true,decide_eq_true_eq,bne_iff_ne]at hfr
 obtain⟨fV,fG,Iy,Lm,GM⟩:=hfr
 obtain⟨β,i2⟩:=DX
 obtain⟨jB,jJ,jN,jm⟩:=i2.Sa hJ
 have hx0:=List.mem_of_getElem? hJ
 have ob:∀k o,B k->own c V2 none_ β k o:=λk o hb=>.inr ⟨_,hx0,rfl,(jB k).2 hb,Nat.zero_le _⟩
 have bx:∀F:World->Prop,aL (own c V2 none_ β) F w1->aL (λk o=>minus (own c V2 none_ β) (β c.N) k o\/B k) F w1:=λF hF=>hF.sub λk o _ hk=>hk.elim (λh=>h.1) (ob k o)
 obtain⟨kx,Y0⟩:=gj hx
 obtain⟨ky,Y1⟩:=gj hy
 obtain⟨kf,YZ⟩:=gj hf
 have M6:sl a1 f=.func (.yield L) #[] #[]:=(i2.kH _ (List.mem_of_getElem? YZ) rfl rfl).out
 refine Mw o1 M6 (hY _ w1 _ _ (λk o hk=>bX i2 k o hk.1) (λk hb o ho=>ho.2 ((jB k).2 hb)) (λk hb=>jN k ((jB k).2 hb)) jJ (bx _ (i2.kH _ (List.mem_of_getElem? Y0) rfl rfl)) (bx _ (i2.kH _ (List.mem_of_getElem? Y1) rfl rfl))) ?_
 rintro b w2 ⟨s',hle,hnew,hno,hJ2⟩
 have U3:er (β c.N) w1 w2:=⟨hle.os,hle.tape,hle.output,hle.size,λk hk hn=>hle.block k hk λhb=>hn ((jB k).2 hb)⟩
 have i3:=i2.move (B':=Bs s') (R':=λB' w _=>(∀k,B' k↔Bs s' k)/\JX b s' w) hp2 hg2 hJ (jC hu) U3 (λk hk=>(hnew k hk).imp (jB k).2 λh=>h) hno (hJ2.imp λ_ h=>⟨λ_=>Iff.rfl,h⟩)
 have WC:∀x,x∈V2.set n0 (jV c.N (Bs s') (JX b s'))->x.slot≠d/\x.slot≠e:=λx hx=>by
  rcases List.mem_or_eq_of_mem_set hx with hx|rfl
  ·exact fV x hx
  ·exact fV (jV c.N B J) hx0
 have i4:=i3.rD (d:=d) (p:=pB b) (v:=.bool b) Iy (λx hx=>(WC x hx).1) (λx hx=>(fG x hx).1) (aL.always rfl _)
 rw[wpOpsIn_cons]
 have YU:sl (a1.put (some d) (.bool b)) d=.bool b:=kD (by rw[i3.size]; exact Iy)
 have hnot:eC P l.toArray ⟨some e,.unOp .not Qe (.tmp d),ty2,pos2,aft2,none⟩ (a1.put (some d) (.bool b)) w2 (λa w=>Inv c (V2.set n0 (jV c.N (Bs s') (JX b s'))) [] (⟨none,none,e,pB !b⟩::⟨none,none,d,pB b⟩::G2) none_ a w):=by
  refine .of rfl ?_
  have hr:(execOp (a1.put (some d) (.bool b)).eval ⟨some e,.unOp .not Qe (.tmp d),ty2,pos2,aft2,none⟩).run P w2=.ok (.value (.bool !b)) w2:=by
   show(do pure (Next.value (<-Op.unary .not ((a1.put (some d) (.bool b)).eval (.tmp d))))).run P w2=_
   rw[show(a1.put (some d) (.bool b)).eval (.tmp d)=.bool b from YU]
   rfl
  unfold Does
  rw[hr]
  refine⟨_,i4.rD (d:=e) (p:=pB !b) (v:=.bool !b) Lm (λx hx=>(WC x hx).2) (λx hx=>?_) (aL.always rfl _)⟩
  rcases List.mem_cons.1 hx with rfl|hx
  ·exact GM
  ·exact(fG x hx).2
 refine hnot.JA o2 rfl λa3 w3 Yr=>⟨a3,rfl,next b s' a3 w3 Yr⟩
variable {R:Ending->World->Prop} {fn:Func} {M:Nat->Nat->Prop}
theorem yh {f:FuncId} {vs:List Value} (hf:P.funcs[f]?=some fn) (hb:fn.body=some C) (hN:fn.ntmps=N) (hlen:decide (vs.length<=N)=true)
  (hM:dc M w) (T8:∀k,B k->∀o,¬M k o) (hno:kJ B w) (hJ:aL M J w) (hG:ck (λk o=>M k o\/B k) w vs G)
  (h:∀a,Inv ⟨N,w,M,B⟩ [jV N B J] [] G none_ a w->C.ww none [] P (bodyPost P fn R) a w):Calls P f vs.toArray w R:=by
 have key:=λhI=>h { tmps:=vs.toArray++Array.replicate (fn.ntmps-vs.toArray.size) undef,defers:=[] } hI 0
 refine calls_of_wp hf hb ((wpIn_wide (n:=0)).1 (wpIn_mono (key ?_) λe a' w' ⟨a0,e0,h0⟩=>by subst e0; exact h0))
 have Ua:=ck.ok (m:=fn.ntmps-vs.toArray.size) hG
 have eo:∀k o,own ⟨N,w,M,B⟩ [jV N B J] none_ (λ_=>B) k o->M k o\/B k:=λk o h=>h.elim .inl λ⟨x,_,_,h,_⟩=>.inr h
 refine⟨λ_=>B,by have:=of_decide_eq_true hlen; simp[hN]; omega,rfl,er.refl _ _,(λk o h=>⟨⟨(hM k o h).1,λhb=>T8 k hb o h⟩,(hM k o h).2⟩),(λx hx _=>?_),(λx y g hx hy _ _ hne=>?_),(λp hp=>by cases hp),λe he _ _=>(Ua.get e he).2.sub λk o _ h=>eo k o h⟩
 ·rcases List.mem_singleton.1 hx with rfl
  exact(bh rfl).2 ⟨λk hk=>⟨.inr hk,hno k hk⟩,(hJ.imp λ_ h=>⟨λ_=>Iff.rfl,h⟩).sub λk o _ hk=>(eo k o hk.1).elim (λh=>h) λhb=>absurd hb hk.2⟩
 ·rcases List.mem_singleton.1 hx with rfl
  rcases List.mem_singleton.1 hy with rfl
  exact absurd rfl hne
theorem QS {w0:World} {B0:Nat->Prop} (hI:Inv ⟨N,w0,M,B0⟩ V [] G none_ a w) (hr:fn.results=#[]) (hJ:V[n0]?=some (jV N B J))
  (hR:er B0 w0 w->(∀k,B k->B0 k\/w0.heap.size<=k)->kJ B w->aL M J w->R (.returned (.tuple #[])) w):bodyPost P fn R .ret a w:=by
 obtain⟨β,hI⟩:=hI
 obtain⟨jB,jJ,jN,jm⟩:=hI.Sa hJ
 refine lH hI (results_none hr _ _ _) (hR hI.below (λk hk=>(jm k ((jB k).2 hk)).symm) (λk hk=>jN k ((jB k).2 hk)) (jJ.sub λk o _ hk=>⟨.inl hk,λhb=>ju hI (jm k hb) hk⟩))
end
end Wx

namespace Wx
open Go Go.RowKit
variable {V:List Vr} {N:Nat} {B:Nat->Prop} {J:World->Prop}
theorem vJ (h:om N V=some (jV N B J):=by exact rfl):∃r:Rel,om (jV N B J).id V=some ⟨(jV N B J).id,(jV N B J).slot,none,none,(jV N B J).kd,(jV N B J).T,(jV N B J).n,(jV N B J).agg,r,[]⟩/\((jV N B J).born=none/\(jV N B J).dead=none/\(jV N B J).st=[])/\∀F w v,r F w v->(jV N B J).c0 F w v:=⟨_,h,⟨rfl,rfl,rfl⟩,λ_ _ _ h=>h⟩
variable {P:Program} {fn:Func} {f:FuncId} {sz:Nat} {ag:Bool} {q:Pred} {u:Value} {M:Nat->Nat->Prop} {R:Ending->World->Prop} {w:World}
theorem ZK {C:Code} {l:Nat} (hf:P.funcs[f]?=some fn) (hb:fn.body=some C) (hN:fn.ntmps=N)
  (hM:dc M w) (T8:∀k,B k->∀o,¬M k o) (hno:kJ B w) (hJ:aL M J w) (hc:aL (λk o=>M k o\/B k) (λw=>fL sz ag q w u) w)
  (h:∀a,Inv ⟨N,w,M,B⟩ [jV N B J] [] [Uz 0 (cI (.func (.yield l) #[] #[])),Uz 1 (fL sz ag q)] none_ a w->C.ww none [] P (bodyPost P fn R) a w) (hlen:decide (2<=N)=true:=by kernel_rfl):Calls P f (#[.func (.yield l) #[] #[]]++#[u]) w R:=
 yh (vs:=[.func (.yield l) #[] #[],u]) hf hb hN hlen hM T8 hno hJ (show ck (λk o=>M k o\/B k) w [.func (.yield l) #[] #[],u] [Uz 0 (cI (.func (.yield l) #[] #[])),Uz 1 (fL sz ag q)]from⟨⟨rfl,_,rfl,λ_ _=>rfl⟩,⟨rfl,_,rfl,hc⟩,trivial⟩) h
theorem QT {G:List bI} {a:Act} {n0:Nat} {w0:World} {B0:Nat->Prop} (hI:Inv ⟨N,w0,M,B0⟩ V [] G none_ a w) (hr:fn.results=#[]) (hJ:V[n0]?=some (jV N B J))
  (hR:er B0 w0 w->(∀k,B k->B0 k\/w0.heap.size<=k)->kJ B w->aL M J w->R (.returned (.tuple #[])) w):bodyPost P fn R .normal a w:=QS hI hr hJ hR
def Hs (sz:Nat) (ag:Bool) (q:Pred) (lb:Array Value) (w:World):Prop:=∃u,lb=#[u]/\fL sz ag q w u
theorem Ht (h:aL M (Hs sz ag q #[u]) w):aL M (λw=>fL sz ag q w u) w:=h.imp λ_ ⟨u',e,h⟩=>by
 have e:u=u':=by simpa using e
 rw[e]; exact h
theorem KT {n:Nat} {p r:Nat->Pred} (hf:aM P f) (hs:∀u,G8 P f #[u] n p r (Hs sz ag q #[u])):∀w v,Gi f sz ag q w v->JM P n p r (Hs sz ag q) w v:=λ_ _ ⟨u,e,h⟩=>⟨f,#[u],e,hf,hs u,u,rfl,h⟩
end Wx

namespace Wx
open Go Go.RowKit
section
variable {ro:Option Nat} {ds:List Deferred} {P:Program} {Q:Exit->Act->World->Prop} {c:eL} {V:List Vr} {A:List Al} {G:List bI} {a:Act} {w:World}
theorem ED {l:List Oper} {n:Nat}:∀(os:List Oper) (k m:Nat) (K:Nat->Act->World->Prop),tw P l.toArray K m os->(∀j o,os[j]?=some o->l[k+j]?=some o)->os.all iA=true->(∀a w,K (m+os.length) a w->Q .normal a w)->∀a w,K m a w ->
  wpOpsIn (Cp ro) n P l.toArray (λe a' w'=>∃a0,a'=ot ds a0/\Q e a0 w') (List.range' k os.length) (ot ds a) w
 |[],k,m,K,_,_,_,hq,a,w,h=>⟨a,rfl,hq a w h⟩
 |o::os,k,m,K,hs,hl,hd,hq,a,w,h=>by
  rw[List.length_cons,List.range'_succ,wpOpsIn_cons]
  rw[List.all_cons,Bool.and_eq_true]at hd
  refine(hs.1 a w h).JA (by have:=hl 0 o rfl; simpa using this) hd.1 λa' w' h'=>ED os (k+1) (m+1) K hs.2 (λj o ho=>by rw[show k+1+j=k+(j+1) by omega]; exact hl (j+1) o ho) hd.2 (λa w hk=>hq a w ?_) a' w' h'
  rw[List.length_cons,show m+(os.length+1)=m+1+os.length by omega]
  exact hk
variable {id:Nat} {l:List Oper} {V1 V2:List Vr} {G1 G2:List bI} {K':Act->World->Prop}
theorem Tg (h:Inv c V [] G none_ a w) (n k:Nat) (nv:List Vr) (A1:List Al) (ne:List bI) (hV:vT nv V V1) (hG:me ne G G1) (hs:oC P l.toArray (tm n 0) c V1 A1 G1 0 (l.take k)) (kV:fH V1 V2) (kG:aH G1 G2) (hst:gU P l.toArray (Inv c V2 [] G2 none_) (l.drop k) K') (hq:∀a w,K' a w->Q .normal a w)
  (hn:jF nv A1 ne=true:=by kernel_rfl) (hb:C4 c.N l (tm n 0) k V1 A1 G1=true:=by kernel_rfl) (hd:l.all iA=true:=by kernel_rfl):(Code.region id l.toArray false).ww ro ds P Q a w:=by
 unfold C4 at hb
 simp only[Bool.and_eq_true,beq_iff_eq]at hb
 obtain⟨wm,hkn,hwf⟩:=hb
 obtain⟨F,e0,e1,hF⟩:=hst.steps
 have hkn:=of_decide_eq_true hkn
 refine xW k hkn hwf (List.all_eq_true.2 λo ho=>List.all_eq_true.1 hd o (List.mem_of_mem_take ho)) (jf h hV hG hn) (by rw[wm]; exact hs) λa w hI n=>?_
 have:=ED (ro:=ro) (ds:=ds) (Q:=Q) (n:=n) (l:=l) (l.drop k) k 0 F hF (λj o ho=>by rw[List.getElem?_drop]at ho; exact ho) (List.all_eq_true.2 λo ho=>List.all_eq_true.1 hd o (List.mem_of_mem_drop ho)) (λa w hI=>hq a w (by rw[Nat.zero_add,e1]at hI; exact hI)) a w (by rw[e0]; exact kZ hwf kV kG hI)
 rw[List.length_drop]at this
 exact this
theorem BH {y:Code} (h:Inv c V [] G none_ a w) (n k:Nat) (nv:List Vr) (A1:List Al) (ne:List bI) (hV:vT nv V V1) (hG:me ne G G1) (hs:oC P l.toArray (tm n 0) c V1 A1 G1 0 (l.take k)) (kV:fH V1 V2) (kG:aH G1 G2) (hst:gU P l.toArray (Inv c V2 [] G2 none_) (l.drop k) K') (hq:∀a w,K' a w->y.ww ro ds P Q a w)
  (hn:jF nv A1 ne=true:=by kernel_rfl) (hb:C4 c.N l (tm n 0) k V1 A1 G1=true:=by kernel_rfl) (hd:l.all iA=true:=by kernel_rfl):(Code.seq (Code.region id l.toArray false) y).ww ro ds P Q a w:=aU (Tg h n k nv A1 ne hV hG hs kV kG hst hq hn hb hd)
end
end Wx

namespace Wx
open Go Go.RowKit
def One (b n:Nat) (q:Pred) (w:World):Prop:=∃(cs:List Value) (T:TypeId),w.heap[b]?=some (.cells cs.toArray T (0,0))/\cs.length=n/\(∀v∈cs,fq v)/\q w (aA true cs)
def Gj (b n:Nat) (q:Pred):Rel:=λB w _=>(∀k,B k↔k=b)/\One b n q w
abbrev gm (id b n:Nat) (q:Pred):Vr:=fM id id (Gj b n q)
variable {b n:Nat} {q:Pred} {w:World}
theorem One.lt (h:One b n q w):b<w.heap.size:=by
 obtain⟨cs,T,h1,_⟩:=h
 exact(Array.getElem?_eq_some_iff.1 h1).1
theorem One.Sj (h:One b n q w):∀o v,w.cell? ⟨b,o,none⟩=some v->fq v:=by
 obtain⟨cs,T,h1,_,h3,_⟩:=h
 intro o v hv
 simp only[World.cell?,h1]at hv
 have:cs[o]?=some v:=by simpa using hv
 exact h3 v (List.mem_of_getElem? this)
theorem One.imp {q':Pred} (h:One b n q w) (hq:∀w v,q w v->q' w v):One b n q' w:=by
 obtain⟨cs,T,h1,h2,h3,h4⟩:=h
 exact⟨cs,T,h1,h2,h3,hq _ _ h4⟩
theorem One.box {M:Nat->Nat->Prop} {B:Nat->Prop} (h:One b n q w) (hB:B b) (hn:aB q) (hM:dc M w):aL (minus M B) (One b n q) w:=by
 obtain⟨cs,T,h1,h2,h3,h4⟩:=h
 intro w' he
 exact⟨cs,T,(he.block b ((Array.getElem?_eq_some_iff.1 h1).1) λo ho=>ho.2 hB).trans h1,h2,h3,hn _ w _ (λk o hk=>hM k o hk.1) h4 w' he⟩
section
variable {P:Program} {ops:Array Oper} {ms:List Nat} {c:eL} {V:List Vr} {A:List Al} {G:List bI} {i:Nat}{d:Nat} {x y z:Operand} {ty:TypeId} {pos:String} {aZ:Array Edge}{b n:Nat} {q:Pred} {v:Vr}
theorem Pp {L:Nat->Bool} {β:Nat->Nat->Prop} {a:Act} {w:World} (hI:bO c V A G L β a w) (hd:oB ms i L) (hv:v∈V) (ho:cG ms i v=true) (dI:v.kd=.obj) (hst:(v.st.all λq=>(q.1==i||(ms.getD i 0).testBit q.1)||(ms.getD q.1 0).testBit i)=true)
  (hc:cont (λj=>(ms.getD i 0).testBit j) v.c0 v.st=Gj b n q):(∀k,β v.id k↔k=b)/\One b n q w:=by
 have hH:=(CN hI hd hv ho dI).2.out
 rw[tN hd hst,hc]at hH
 exact hH
theorem JC {T:TypeId} {off m:Nat} {ag:Bool} {p:Pred} (k:Nat) (hk:V[k]?=some v) (ho:cG ms i v=true) (dI:v.kd=.obj) (hst:(v.st.all λq=>(q.1==i||(ms.getD i 0).testBit q.1)||(ms.getD q.1 0).testBit i)=true)
  (hc:cont (λj=>(ms.getD i 0).testBit j) v.c0 v.st=Gj b n q) (h:Has ms G i y (cI (.pointer (some ⟨b,off,none⟩)))) (hlen:off+m<=n) (ht:Ty P T ag m) (hq:∀w cs,cs.length=n->q w (aA true cs)->p w (aA ag ((cs.drop off).take m))) (hn:aB p) (hp:Post G i p):
  OpOk P ops ms c V A G i ⟨some d,.load T y,ty,pos,aZ,none⟩:=
 dW rfl rfl rfl (.inl rfl) hp λL β a w hI hd=>by
  obtain⟨_,cs,t,h1,h2,h3,h4⟩:=Pp hI hd (List.mem_of_getElem? hk) ho dI hst hc
  have hy:a.eval y=.pointer (some ⟨b,off,none⟩):=(h.spec hI hd).out
  refine⟨aA ag ((cs.drop off).take m),w,?_,Below.refl _ _,hn _ w _ (bX hI) (hq w cs h2 h4)⟩
  show(do pure (Next.value (<-Instr.loadAt T (a.eval y)))).run P w=_
  rw[hy,Sem.run_bind,gJ (cs:=(cs.drop off).take m) ht (jk h1 off m) (by rw[List.length_take,List.length_drop]; omega)]
  rfl
end
variable {V:List Vr} {N:Nat}
theorem vO {b n:Nat} {q q':Pred} (hq:∀w v,q w v->q' w v:=by exactλ_ _ h=>h) (h:om N V=some (gm N b n q):=by exact rfl):∃r:Rel,om (gm N b n q').id V=some ⟨(gm N b n q').id,(gm N b n q').slot,none,none,(gm N b n q').kd,(gm N b n q').T,(gm N b n q').n,(gm N b n q').agg,r,[]⟩/\((gm N b n q').born=none/\(gm N b n q').dead=none/\(gm N b n q').st=[])/\∀F w v,r F w v->(gm N b n q').c0 F w v:=
 ⟨_,h,⟨rfl,rfl,rfl⟩,λ_ _ _ h=>⟨h.1,h.2.imp hq⟩⟩
theorem vA {s:Nat} {R:Rel} (h:om N V=some (fM N s R):=by exact rfl):∃r:Rel,om (fM N s R).id V=some ⟨(fM N s R).id,(fM N s R).slot,none,none,(fM N s R).kd,(fM N s R).T,(fM N s R).n,(fM N s R).agg,r,[]⟩/\((fM N s R).born=none/\(fM N s R).dead=none/\(fM N s R).st=[])/\∀F w v,r F w v->(fM N s R).c0 F w v:=⟨_,h,⟨rfl,rfl,rfl⟩,λ_ _ _ h=>h⟩
def ya (M:Nat->Nat->Prop) (b n:Nat) (p q:Pred) (w:World) (e:Ending) (w':World):Prop:=∃v,e=.returned v/\aL M (λw=>p w v) w'/\er (·=b) w w'/\One b n q w'
abbrev mm (M:Nat->Nat->Prop) (b:Nat) (k o:Nat):Prop:=M k o\/k=b
section
variable {P:Program} {c:eL} {V:List Vr} {G:List bI} {a:Act} {w:World} {x y z:Operand} {d:Nat} {ty:TypeId} {pos:String} {aZ:Array Edge}{id b n n0:Nat} {q:Pred}
theorem vH {q' p:Pred} {f:FuncId} {args:Array Operand} {ts:Array TypeId} {ops:Array Oper} (hf:aM P f) (h:Inv c V [] G none_ a w) (hk:V[n0]?=some (gm id b n q)) (hp:aB p) (hq:aB q')
  (hc:∀β,bO c V [] G none_ β a w->Calls P f (args.map a.eval) w (ya (minus (own c V none_ β) (β id)) b n p q' w))
  (hV:dw V=true) (hG:eI G=true) (hu:iG V id n0=true) (hd':decide (d<c.N)=true) (Lk:(V.all λx=>x.slot != d)=true) (MX:(G.all λx=>x.slot != d)=true):
  eC P ops ⟨some d,.call ⟨.value (.func f),args,ts⟩,ty,pos,aZ,none⟩ a w (Inv c (V.set n0 (gm id b n q')) [] (⟨none,none,d,p⟩::G) none_):=by
 obtain⟨β,hI⟩:=h
 have hx0:=List.mem_of_getElem? hk
 obtain⟨hβ,hone⟩:(∀k,β id k↔k=b)/\One b n q w:=((bh rfl).1 (hI.var _ hx0 rfl)).2.out
 refine .of rfl (nO hf ((hc β hI).mono ?_))
 rintro e w' ⟨v,rfl,h1,h2,h3⟩
 refine⟨v,rfl,lu β id (β id),?_⟩
 have hle:er (β id) w w':=⟨h2.os,h2.tape,h2.output,h2.size,λk hk hn=>h2.block k hk λe=>hn ((hβ k).2 e)⟩
 have yM:dc (own c V none_ β) w':=λk o hk=>by
  obtain⟨k1,k2⟩:=bX hI k o hk
  refine⟨Nat.lt_of_lt_of_le k1 h2.size,λu zz=>?_⟩
  by_cases hkb:k=b
  ·exact h3.Sj o u (by rw[<-hkb]; exact zz)
  ·rw[World.cell?_of_block (w:=w) (a:=⟨k,o,none⟩) (h2.block k k1 hkb)]at zz
   exact k2 u zz
 have hm:=hI.move (B':=β id) (R':=Gj b n q') hV hG hk (jC hu) hle (λk hk=>.inl hk) (λk hk=>by rw[(hβ k).1 hk]; exact⟨h3.lt,h3.Sj⟩) ((h3.box ((hβ b).2 rfl) hq yM).imp λw h=>⟨hβ,h⟩)
 rw[List.all_eq_true]at Lk MX
 refine hm.rD (of_decide_eq_true hd') (λx hx=>?_) (λe he=>by simpa using MX e he) ?_
 ·rcases List.mem_or_eq_of_mem_set hx with hx|rfl
  ·simpa using Lk x hx
  ·simpa using Lk _ hx0
 ·exact hp _ w' v (bX hm) h1.out
theorem uO {β:Nat->Nat->Prop} (h:bO c V [] G none_ β a w) (hk:V[n0]?=some (gm id b n q)) {F:World->Prop} (hF:aL (own c V none_ β) F w):aL (mm (minus (own c V none_ β) (β id)) b) F w:=by
 have hx0:=List.mem_of_getElem? hk
 obtain⟨hβ,hone⟩:(∀k,β id k↔k=b)/\One b n q w:=((bh rfl).1 (h.var _ hx0 rfl)).2.out
 exact hF.sub λk o _ hk'=>hk'.elim (λh=>h.1) λe=>.inr ⟨_,hx0,rfl,(hβ k).2 e,Nat.zero_le _⟩
end
end Wx
