import Derived.Test.YtadigiledciihaaGreatCRBRangeC
import Derived.Test.YtadigiledciihaaGreatJRB29
namespace Wx
open Go Go.RowKit
section
variable {ro:Option Nat} {P:Program} {Q:Exit->Act->World->Prop} {c:dg} {V:List Vr} {A:List Al} {G:List aX} {β:Nat->Nat->Prop} {a a':Act} {w w':World}
theorem ry {x:Code} {d:Deferred} (h:x.ww ro [d] P (λe a w=>Q e (mj [d] a) w) a w):x.ww ro [] P Q (mj [d] a) w:=λn=>wpIn_mono (h n) λ_ _ _ ⟨a0,e0,h0⟩=>⟨mj [d] a0,e0,h0⟩
def vD (P:Program) (fn:Func) (R:Ending->World->Prop):Exit->Act->World->Prop:=bodyPostM (Ar none) 0 P fn R
variable {fn:Func} {R:Ending->World->Prop}
theorem uD {f:FuncId} {C:Code} {vs:List Value} {M:Nat->Nat->Prop} {N:Nat} {G:List aX} (hf:P.funcs[f]?=some fn) (hb:fn.body=some C) (hN:fn.ntmps=N) (hlen:decide (vs.length<=N)=true) (hM:dR M w) (hG:eF M w vs G)
  (h:∀a,Inv ⟨N,w,M,λ_=>False⟩ [] [] G none_ a w->C.ww none [] P (vD P fn R) a w):Calls P f vs.toArray w R:=
 (callsIn_wide (n:=0)).1 (callsIn_of_wp_marks (F:=Ar none) (n:=0) hf hb trivial (wpIn_mono (h _ (pE hM (by have:=of_decide_eq_true hlen; simp[hN]; omega) rfl hG.ok) 0) λe a' w' ⟨a0,e0,h0⟩=>by subst e0; exact h0))
variable {p:Pred} {n0 id:Nat}
theorem dw.set {r:ResultVar} {s:Nat} {R R':Rel} (h:dw P V G r p) (uT:V[n0]?=some (dY id s R)):dw P (V.set n0 (dY id s R')) G r p:=by
 induction h with
 |tmp k hk=>exact .tmp k hk
 |@cell x p T s k hk hb cg hs ht hc=>
  refine .cell k ?_ hb cg hs ht hc
  have hne:n0≠k:=λe=>by
   rw[e,hk]at uT
   injection uT with uT
   rw[uT]at cg
   cases cg
  rw[List.getElem?_set_ne hne]
  exact hk
 |imp _ hq ih=>exact .imp ih hq
variable {r:Loop} {l D:Nat}
theorem aY.taken (h:aY c V [] G none_ β a w) (hV:cq V=true) (hG:dn G=true) (hk:V[n0]?=some (dL id l D r)) (hu:gv V id n0=true):
  (Instr.takeDeferred D).run P w=.ok [] (w.putObj D (.deferred none))/\∃β',aY c (V.set n0 (dY id id λ_ _ _=>True)) [] G none_ β' a (w.putObj D (.deferred none)):=by
 obtain⟨h1,h2,h3,h4⟩:=h.Ea hk
 have hlt:l<w.heap.size:=(Array.getElem?_eq_some_iff.1 h2).1
 have hl2:(w.putObj D (.deferred none)).heap[l]?=some (.loop r):=(World.putObj_heap_other (by omega)).trans h2
 have LY:(w.putObj D (.deferred none)).heap[D]?=some (.deferred none):=World.putObj_heap_same (by omega)
 refine⟨run_takeDeferred h3,_,h.move (B':=β id) (R':=λ_ _ _=>True) hV hG hk (iG hu) (qp _ ((h1 D).2 (.inr rfl))) (λk hk'=>.inl hk') (λk hk'=>?_) (aQ.always trivial _)⟩
 rw[World.putObj_size]
 rcases (h1 k).1 hk' with rfl|rfl
 ·exact⟨hlt,λo v hv=>absurd hv (gT hl2 rfl v)⟩
 ·exact⟨by omega,λo v hv=>absurd hv (gT LY rfl v)⟩
theorem Fl {v:Value} (hd:a.defers=[]) (ht:(Instr.takeDeferred D).run P w=.ok [] w') (hr:(results fn a.tmps).run P w'=.ok v w') (hR:R (.returned v) w'):vD P fn R .ret (mj [coll D] a) w:=by
 show LeavesInM (Ar none) 0 P fn a.tmps R ([coll D]++a.defers) .returning w
 rw[hd]
 exact⟨(λh=>(by cases h)),.inl ⟨D,w',rfl,ht,v,hr,hR⟩⟩
theorem Cf {r1:ResultVar} (hI:Inv c V [] G none_ a w) (n0:Nat) (hr:fn.results=#[r1]) (h:dw P V G r1 p) (hk:V[n0]?=some (dL id l D r):=by exact rfl) (hn:∀k,¬c.gM k:=by exactλ_ h=>h)
  (hV:cq V=true:=by kernel_rfl) (hG:dn G=true:=by kernel_rfl) (hu:gv V id n0=true:=by kernel_rfl):vD P fn (cA c.M0 p c.w0) .ret (mj [coll D] a) w:=by
 obtain⟨β,hI⟩:=hI
 obtain⟨h1,β',h2⟩:=hI.taken (P:=P) hV hG hk hu
 obtain⟨v,h3,h4⟩:=(h.set hk).run h2
 refine Fl hI.defers h1 (v:=v) ?_ ⟨v,rfl,iM h4,h2.below.below hn⟩
 rw[ee,hr]
 simp[h3]
end
end Wx

namespace Wx
open Go Go.RowKit
abbrev jV (N:Nat) (B:Nat->Prop) (J:World->Prop):Vr:=dY N N λB' w _=>(∀k,B' k↔B k)/\J w
section
variable {ro:Option Nat} {ds:List Deferred} {P:Program} {Q:Exit->Act->World->Prop} {c:dg} {V:List Vr} {A:List Al} {G:List aX} {β:Nat->Nat->Prop} {a a':Act} {w w':World}{id:Nat} {l:List Oper}
theorem vR (k:Nat) (hkn:k<=l.length) (hwf:qE c.N (l.take k) V A G=true) (Kq:(l.take k).all eJ=true)
  (h0:Inv c V A G none_ a w) (hs:oN P l.toArray (aT l.length) c V A G 0 (l.take k))
  (hK:∀a w,Inv c V A G (λ_=>true) a w->∀n,wpOpsIn (Ar ro) n P l.toArray (λe a' w'=>∃a0,a'=mj ds a0/\Q e a0 w') (List.range' k (l.length-k)) (mj ds a) w):(Code.region id l.toArray false).ww ro ds P Q a w:=by
 intro n
 refine wpIn_region ?_
 have tm:∀k j,((aT l.length).getD k 0).testBit j=true->j<k:=by
  intro k j h
  rcases Nat.lt_or_ge k l.length with h'|h'
  ·have e:(aT l.length).getD k 0=2^k-1:=by simp[aT,h']
   rw[e,Nat.testBit_two_pow_sub_one]at h
   simpa using h
  ·have e:(aT l.length).getD k 0=0:=by simp[aT,Nat.not_lt.2 h']
   rw[e]at h
   simp at h
 have key:∀(m i:Nat),i+m=k->∀(a:Act) (w:World),Inv c V A G (λj=>decide (j<i)) a w->wpOpsIn (Ar ro) n P l.toArray (λe a' w'=>∃a0,a'=mj ds a0/\Q e a0 w') (List.range' i m++List.range' k (l.length-k)) (mj ds a) w:=by
  intro m
  induction m with
  |zero=>
   rintro i hi a w ⟨β,hI⟩
   exact hK a w ⟨β,hI.congr (fl hwf) λj hj=>by simp at hj; simp; omega⟩ n
  |succ m ih=>
   intro i hi a w hI
   have Km:i<k:=by omega
   obtain⟨o,ho⟩:∃o,l[i]?=some o:=⟨l[i]'(by omega),List.getElem?_eq_getElem (by omega)⟩
   have T6:(l.take k)[i]?=some o:=by rw[List.getElem?_take,if_pos Km]; exact ho
   rw[List.range'_succ,List.cons_append,wpOpsIn_cons]
   have sA:lZ (aT l.length) i (λj=>decide (j<i)):=⟨by simp,λj hj=>by simpa using tm i j hj,λj hj=>by have:=tm j i hj; simp; omega⟩
   have hop:=hs.get T6
   rw[Nat.zero_add]at hop
   refine(hop _ a w hI sA (zN hwf ho Km)).A7 (by simpa using ho) (List.all_eq_true.1 Kq o (List.mem_of_getElem? T6)) λa' w' h'=>ih (i+1) (by omega) a' w' ?_
   have e:upd (λj=>decide (j<i)) i=(λj=>decide (j<i+1)):=by
    funext j
    unfold upd
    by_cases h:j=i
    ·simp[h]
    ·rw[if_neg h]
     by_cases h2:j<i
     ·simp[h2]; omega
     ·simp[h2]; omega
   rw[<-e]
   exact h'
 have:=key k 0 (by omega) a w (by
  have e:(λj=>decide (j<0))=none_:=by funext j; simp
  rw[e]
  exact h0)
 have e2:List.range' 0 k++List.range' k (l.length-k)=List.range l.toArray.size:=by
  rw[List.range_eq_range',show l.toArray.size=k+(l.length-k) by simp; omega]
  have:=List.range'_append_1 (s:=0) (m:=k) (n:=l.length-k)
  rw[Nat.zero_add]at this
  exact this
 rwa [e2]at this
variable {d f:Nat} {ts:Array TypeId} {ty:TypeId} {pos:String} {aI:Array Edge}
theorem JS {n:Nat} {ops:Array Oper} {i l:Nat} {x y:Operand} {R:Bool->World->Prop} {K:Act->World->Prop} (hi:ops[i]?=some ⟨some d,.call ⟨.value (.tmp f),#[x,y],ts⟩,ty,pos,aI,none⟩)
  (hf:sl a f=.func (.yield l) #[] #[]) (hY:vY P l #[a.eval x,a.eval y] w R) (hK:∀b w',R b w'->K (mj ds (a.put (some d) (.bool b))) w'):wpOpIn (Ar none) n P ops Q i K (mj ds a) w:=by
 obtain⟨fn,tmps,assign,body,hy,hR⟩:=hY (n-1)
 have hr:(execOp a.eval ⟨some d,.call ⟨.value (.tmp f),#[x,y],ts⟩,ty,pos,aI,none⟩).run P w=.ok (.round l fn tmps assign body) w:=by
  have hf':a.eval (.tmp f)=.func (.yield l) #[] #[]:=hf
  simp only[execOp,resolve,hf',Deferred.ofValue,pure_bind,invoke]
  simpa using hy
 unfold wpOpIn
 rw[hi]
 simp only
 rw[if_pos (by simp[Region.wanted])]
 unfold Oper.wpIn
 refine⟨λ_ _=>trivial,?_⟩
 rw[rW,Oper.semAt_eq _ _ _ (λc hc=>by cases hc),hr]
 refine⟨λh=>(by cases h),hR.mono ?_⟩
 rintro e w' ⟨b,rfl,h⟩
 show K ((mj ds a).put (some d) (.bool b)) w'
 rw[qY]
 exact hK b w' h
variable {N n0:Nat} {B:Nat->Prop} {J:World->Prop}
theorem aY.Pc (h:aY c V [] G none_ β a w) (hk:V[n0]?=some (jV N B J)):(∀k,β N k↔B k)/\aQ (minus (own c V none_ β) (β N)) J w/\jo (β N) w/\∀k,β N k->mine c k:=by
 obtain⟨h1,h2⟩:=(aJ rfl).1 (h.var _ (List.mem_of_getElem? hk) rfl)
 exact⟨h2.out.1,h2.imp λ_ h=>h.2,λk hk=>(h1 k hk).2,λk hk=>(h1 k hk).1⟩
def qh (V:List Vr) (G:List aX) (d e N:Nat):Bool:=V.all (λx=>x.slot != d&&x.slot != e)&&(G.all (λx=>x.slot != d&&x.slot != e)&&(decide (d<N)&&(decide (e<N)&&d != e)))
variable {C:Code}
theorem Hu {σ:Type} {V1 V2:List Vr} {G1 G2:List aX} {A1:List Al} {nv:List Vr} {ne:List aX} {e L x y:Nat} {Nx ty2:TypeId} {pos2:String} {aft2:Array Edge} {p q:Pred}
  (Bs:σ->Nat->Prop) (JX:Bool->σ->World->Prop) (k:Nat) (h:Inv c V [] G none_ a w) (hV:xD nv V V1) (hG:mb ne G G1) (hs:oN P l.toArray (aT l.length) c V1 A1 G1 0 (l.take k)) (kV:eY V1 V2) (kG:aC G1 G2)
  (hl:l.drop k=[⟨some d,.call ⟨.value (.tmp f),#[.tmp x,.tmp y],ts⟩,ty,pos,aI,none⟩,⟨some e,.unOp .not Nx (.tmp d),ty2,pos2,aft2,none⟩])
  (hf:gL f G2=some (bR (.func (.yield L) #[] #[]))) (hx:gL x G2=some p) (hy:gL y G2=some q) (hJ:V2[n0]?=some (jV c.N B J))
  (hY:∀M' w' v0 v1,dR M' w'->(∀k,B k->∀o,¬M' k o)->jo B w'->aQ M' J w'->aQ (λk o=>M' k o\/B k) (λw=>p w v0) w'->aQ (λk o=>M' k o\/B k) (λw=>q w v1) w' ->
   vY P L #[v0,v1] w' λb w''=>∃s':σ,de B w' w''/\(∀k,Bs s' k->B k\/w'.heap.size<=k)/\jo (Bs s') w''/\aQ M' (JX b s') w'')
  (next:∀b s' a w,Inv c (V2.set n0 (jV c.N (Bs s') (JX b s'))) [] (⟨none,none,e,pB !b⟩::⟨none,none,d,pB b⟩::G2) none_ a w->C.ww none ds P Q a w)
  (hn:kO nv A1 ne=true:=by kernel_rfl) (hk:decide (k<=l.length)=true:=by kernel_rfl) (hb:qE c.N (l.take k) V1 A1 G1=true:=by kernel_rfl) (hd:(l.take k).all eJ=true:=by kernel_rfl) (hp2:cq V2=true:=by kernel_rfl) (hg2:dn G2=true:=by kernel_rfl) (hu:gv V2 c.N n0=true:=by kernel_rfl) (hfr:qh V2 G2 d e c.N=true:=by kernel_rfl):
  (Code.seq (Code.region id l.toArray false) C).ww none ds P Q a w:=by
 have hk':=of_decide_eq_true hk
 refine ax (vR k hk' hb hd (gV h hV hG hn) hs λa1 w1 Vh n=>?_)
 have Ci:=jy hb kV kG Vh
 have hlen:l.length-k=2:=by rw[<-List.length_drop,hl]; rfl
 have o1:l.toArray[k]?=some ⟨some d,.call ⟨.value (.tmp f),#[.tmp x,.tmp y],ts⟩,ty,pos,aI,none⟩:=by
  have:(l.drop k)[0]?=l[k+0]?:=List.getElem?_drop
  rw[hl]at this
  simpa using this.symm
 have o2:l.toArray[k+1]?=some ⟨some e,.unOp .not Nx (.tmp d),ty2,pos2,aft2,none⟩:=by
  have:(l.drop k)[1]?=l[k+1]?:=List.getElem?_drop
  rw[hl]at this
  simpa using this.symm
 rw[hlen,show List.range' k 2=[k,k+1]from rfl,wpOpsIn_cons]
 unfold qh at hfr
 simp only[Bool.and_eq_true,List.all_eq_true,decide_eq_true_eq,bne_iff_ne]at hfr
 obtain⟨fV,fG,Fw,II,Ey⟩:=hfr
 obtain⟨β,i2⟩:=Ci
 obtain⟨jB,jJ,jN,jm⟩:=i2.Pc hJ
 have hx0:=List.mem_of_getElem? hJ
 have ob:∀k o,B k->own c V2 none_ β k o:=λk o hb=>.inr ⟨_,hx0,rfl,(jB k).2 hb,Nat.zero_le _⟩
 have bx:∀F:World->Prop,aQ (own c V2 none_ β) F w1->aQ (λk o=>minus (own c V2 none_ β) (β c.N) k o\/B k) F w1:=λF hF=>hF.sub λk o _ hk=>hk.elim (λh=>h.1) (ob k o)
 obtain⟨kx,VV⟩:=eG hx
 obtain⟨ky,VW⟩:=eG hy
 obtain⟨kf,VU⟩:=eG hf
 have Kk:sl a1 f=.func (.yield L) #[] #[]:=(i2.jl _ (List.mem_of_getElem? VU) rfl rfl).out
 refine JS o1 Kk (hY _ w1 _ _ (λk o hk=>bB i2 k o hk.1) (λk hb o ho=>ho.2 ((jB k).2 hb)) (λk hb=>jN k ((jB k).2 hb)) jJ (bx _ (i2.jl _ (List.mem_of_getElem? VV) rfl rfl)) (bx _ (i2.jl _ (List.mem_of_getElem? VW) rfl rfl))) ?_
 rintro b w2 ⟨s',hle,hnew,hno,hJ2⟩
 have Sd:de (β c.N) w1 w2:=⟨hle.os,hle.tape,hle.output,hle.size,λk hk hn=>hle.block k hk λhb=>hn ((jB k).2 hb)⟩
 have i3:=i2.move (B':=Bs s') (R':=λB' w _=>(∀k,B' k↔Bs s' k)/\JX b s' w) hp2 hg2 hJ (iG hu) Sd (λk hk=>(hnew k hk).imp (jB k).2 λh=>h) hno (hJ2.imp λ_ h=>⟨λ_=>Iff.rfl,h⟩)
 have TA:∀x,x∈V2.set n0 (jV c.N (Bs s') (JX b s'))->x.slot≠d/\x.slot≠e:=λx hx=>by
  rcases List.mem_or_eq_of_mem_set hx with hx|rfl
  ·exact fV x hx
  ·exact fV (jV c.N B J) hx0
 have i4:=i3.pL (d:=d) (p:=pB b) (v:=.bool b) Fw (λx hx=>(TA x hx).1) (λx hx=>(fG x hx).1) (aQ.always rfl _)
 rw[wpOpsIn_cons]
 have VP:sl (a1.put (some d) (.bool b)) d=.bool b:=gE (by rw[i3.size]; exact Fw)
 have hnot:cO P l.toArray ⟨some e,.unOp .not Nx (.tmp d),ty2,pos2,aft2,none⟩ (a1.put (some d) (.bool b)) w2 (λa w=>Inv c (V2.set n0 (jV c.N (Bs s') (JX b s'))) [] (⟨none,none,e,pB !b⟩::⟨none,none,d,pB b⟩::G2) none_ a w):=by
  refine .of rfl ?_
  have hr:(execOp (a1.put (some d) (.bool b)).eval ⟨some e,.unOp .not Nx (.tmp d),ty2,pos2,aft2,none⟩).run P w2=.ok (.value (.bool !b)) w2:=by
   show(do pure (Next.value (<-Op.unary .not ((a1.put (some d) (.bool b)).eval (.tmp d))))).run P w2=_
   rw[show(a1.put (some d) (.bool b)).eval (.tmp d)=.bool b from VP]
   rfl
  unfold Does
  rw[hr]
  refine⟨_,i4.pL (d:=e) (p:=pB !b) (v:=.bool !b) II (λx hx=>(TA x hx).2) (λx hx=>?_) (aQ.always rfl _)⟩
  rcases List.mem_cons.1 hx with rfl|hx
  ·exact Ey
  ·exact(fG x hx).2
 refine hnot.A7 o2 rfl λa3 w3 Vi=>⟨a3,rfl,next b s' a3 w3 Vi⟩
variable {R:Ending->World->Prop} {fn:Func} {M:Nat->Nat->Prop}
theorem wj {f:FuncId} {vs:List Value} (hf:P.funcs[f]?=some fn) (hb:fn.body=some C) (hN:fn.ntmps=N) (hlen:decide (vs.length<=N)=true)
  (hM:dR M w) (Rf:∀k,B k->∀o,¬M k o) (hno:jo B w) (hJ:aQ M J w) (hG:eF (λk o=>M k o\/B k) w vs G)
  (h:∀a,Inv ⟨N,w,M,B⟩ [jV N B J] [] G none_ a w->C.ww none [] P (bodyPost P fn R) a w):Calls P f vs.toArray w R:=by
 have key:=λhI=>h { tmps:=vs.toArray++Array.replicate (fn.ntmps-vs.toArray.size) undef,defers:=[] } hI 0
 refine calls_of_wp hf hb ((wpIn_wide (n:=0)).1 (wpIn_mono (key ?_) λe a' w' ⟨a0,e0,h0⟩=>by subst e0; exact h0))
 have Rh:=eF.ok (m:=fn.ntmps-vs.toArray.size) hG
 have eo:∀k o,own ⟨N,w,M,B⟩ [jV N B J] none_ (λ_=>B) k o->M k o\/B k:=λk o h=>h.elim .inl λ⟨x,_,_,h,_⟩=>.inr h
 refine⟨λ_=>B,by have:=of_decide_eq_true hlen; simp[hN]; omega,rfl,de.refl _ _,(λk o h=>⟨⟨(hM k o h).1,λhb=>Rf k hb o h⟩,(hM k o h).2⟩),(λx hx _=>?_),(λx y g hx hy _ _ hne=>?_),(λp hp=>by cases hp),λe he _ _=>(Rh.get e he).2.sub λk o _ h=>eo k o h⟩
 ·rcases List.mem_singleton.1 hx with rfl
  exact(aJ rfl).2 ⟨λk hk=>⟨.inr hk,hno k hk⟩,(hJ.imp λ_ h=>⟨λ_=>Iff.rfl,h⟩).sub λk o _ hk=>(eo k o hk.1).elim (λh=>h) λhb=>absurd hb hk.2⟩
 ·rcases List.mem_singleton.1 hx with rfl
  rcases List.mem_singleton.1 hy with rfl
  exact absurd rfl hne
theorem N3 {w0:World} {B0:Nat->Prop} (hI:Inv ⟨N,w0,M,B0⟩ V [] G none_ a w) (hr:fn.results=#[]) (hJ:V[n0]?=some (jV N B J))
  (hR:de B0 w0 w->(∀k,B k->B0 k\/w0.heap.size<=k)->jo B w->aQ M J w->R (.returned (.tuple #[])) w):bodyPost P fn R .ret a w:=by
 obtain⟨β,hI⟩:=hI
 obtain⟨jB,jJ,jN,jm⟩:=hI.Pc hJ
 refine jY hI (results_none hr _ _ _) (hR hI.below (λk hk=>(jm k ((jB k).2 hk)).symm) (λk hk=>jN k ((jB k).2 hk)) (jJ.sub λk o _ hk=>⟨.inl hk,λhb=>iw hI (jm k hb) hk⟩))
end
end Wx

namespace Wx
open Go Go.RowKit
variable {V:List Vr} {N:Nat} {B:Nat->Prop} {J:World->Prop}
theorem vJ (h:lW N V=some (jV N B J):=by exact rfl):∃r:Rel,lW (jV N B J).id V=some ⟨(jV N B J).id,(jV N B J).slot,none,none,(jV N B J).kd,(jV N B J).T,(jV N B J).n,(jV N B J).agg,r,[]⟩/\((jV N B J).born=none/\(jV N B J).dead=none/\(jV N B J).st=[])/\∀F w v,r F w v->(jV N B J).c0 F w v:=⟨_,h,⟨rfl,rfl,rfl⟩,λ_ _ _ h=>h⟩
variable {P:Program} {fn:Func} {f:FuncId} {sz:Nat} {ag:Bool} {q:Pred} {u:Value} {M:Nat->Nat->Prop} {R:Ending->World->Prop} {w:World}
theorem WQ {C:Code} {l:Nat} (hf:P.funcs[f]?=some fn) (hb:fn.body=some C) (hN:fn.ntmps=N)
  (hM:dR M w) (Rf:∀k,B k->∀o,¬M k o) (hno:jo B w) (hJ:aQ M J w) (hc:aQ (λk o=>M k o\/B k) (λw=>dP sz ag q w u) w)
  (h:∀a,Inv ⟨N,w,M,B⟩ [jV N B J] [] [Uz 0 (bR (.func (.yield l) #[] #[])),Uz 1 (dP sz ag q)] none_ a w->C.ww none [] P (bodyPost P fn R) a w) (hlen:decide (2<=N)=true:=by kernel_rfl):Calls P f (#[.func (.yield l) #[] #[]]++#[u]) w R:=
 wj (vs:=[.func (.yield l) #[] #[],u]) hf hb hN hlen hM Rf hno hJ (show eF (λk o=>M k o\/B k) w [.func (.yield l) #[] #[],u] [Uz 0 (bR (.func (.yield l) #[] #[])),Uz 1 (dP sz ag q)]from⟨⟨rfl,_,rfl,λ_ _=>rfl⟩,⟨rfl,_,rfl,hc⟩,trivial⟩) h
theorem N4 {G:List aX} {a:Act} {n0:Nat} {w0:World} {B0:Nat->Prop} (hI:Inv ⟨N,w0,M,B0⟩ V [] G none_ a w) (hr:fn.results=#[]) (hJ:V[n0]?=some (jV N B J))
  (hR:de B0 w0 w->(∀k,B k->B0 k\/w0.heap.size<=k)->jo B w->aQ M J w->R (.returned (.tuple #[])) w):bodyPost P fn R .normal a w:=N3 hI hr hJ hR
def EZ (sz:Nat) (ag:Bool) (q:Pred) (lb:Array Value) (w:World):Prop:=∃u,lb=#[u]/\dP sz ag q w u
theorem E4 (h:aQ M (EZ sz ag q #[u]) w):aQ M (λw=>dP sz ag q w u) w:=h.imp λ_ ⟨u',e,h⟩=>by
 have e:u=u':=by simpa using e
 rw[e]; exact h
theorem Im {n:Nat} {p r:Nat->Pred} (hf:aL P f) (hs:∀u,EJ P f #[u] n p r (EZ sz ag q #[u])):∀w v,D5 f sz ag q w v->GA P n p r (EZ sz ag q) w v:=λ_ _ ⟨u,e,h⟩=>⟨f,#[u],e,hf,hs u,u,rfl,h⟩
end Wx

namespace Wx
open Go Go.RowKit
section
variable {ro:Option Nat} {ds:List Deferred} {P:Program} {Q:Exit->Act->World->Prop} {c:dg} {V:List Vr} {A:List Al} {G:List aX} {a:Act} {w:World}{id:Nat} {l:List Oper}
theorem Ht (ms:List Nat) (k:Nat) (uT:0<k) (hm:P.follows .mixedOrders=true) (hok:fI l.toArray=true) (uf:qv l=ms) (yG:Cs ms k l.length=true) (Kq:l.all eJ=true) (hkn:decide (k<=l.length)=true) (hwf:qE c.N (l.take k) V A G=true)
  (h0:Inv c V A G none_ a w) (hs:oN P l.toArray ms c V A G 0 (l.take k)) (K:Nat->Act->World->Prop) (hK:∀a w,Inv c V A G (λ_=>true) a w->K 0 a w) (hst:kQ P l.toArray K 0 (l.drop k)) (hq:∀a w,K (l.length-k) a w->Q .normal a w):
  (Code.region id l.toArray true).ww ro ds P Q a w:=by
 intro n
 have hkn:=of_decide_eq_true hkn
 have nk:=sO l
 rw[uf]at nk
 let J:(Nat->Bool)->Act->World->Prop:=λL a w=>iJ l L/\(((∃j,j<k/\L j=false)/\Inv c V A G L a w)\/((∀j,j<k->L j=true)/\∃m,m<=l.length-k/\(∀i,k<=i->i<l.length->(L i=true↔i<k+m))/\K m a w))
 refine qC hm hok (λL a' w=>∃a,a'=mj ds a/\J L a w) ⟨a,rfl,λi o _ h=>(by cases h),.inl ⟨⟨0,uT,rfl⟩,?_⟩⟩ ?_ ?_
 ·obtain⟨β,hβ⟩:=h0
  exact⟨β,hβ.draws⟩
 ·rintro i o hi L _ w ⟨a,rfl,hc,hJ⟩ hno hpre
  ··have Fy:i<l.length:=by
     rcases Nat.lt_or_ge i l.length with h'|h'
     ·exact h'
     ·rw[List.getElem?_eq_none h']at hi; cases hi
    have TY:l.toArray[i]?=some o:=by simpa using hi
    have OQ:eJ o=true:=List.all_eq_true.1 Kq o (List.mem_of_getElem? hi)
    have LU:∀j,(ms.getD i 0).testBit j=true->L j=true:=λj hj=>nk.2 L hc i o hi hpre j hj
    have ni:iJ l (upd L i):=by
     intro k' ok lE hL j hj
     by_cases FA:k'=i
     ·subst FA
      rw[hi]at lE
      injection lE with lE
      subst lE
      have:=hpre j hj
      unfold upd
      split
      ·rfl
      ·exact this
     ·have:=hc k' ok lE (BC hL FA) j hj
      unfold upd
      split
      ·rfl
      ·exact this
    rcases hJ with⟨⟨j0,R9,Oa⟩,hI⟩|⟨hall,m,hmn,Ob,Ri⟩
    ·have Km:i<k:=by
      rcases Nat.lt_or_ge i k with h'|h'
      ·exact h'
      ·have:=LU j0 (nu yG Fy h' (by omega))
       rw[Oa]at this; cases this
     have sA:lZ ms i L:=⟨hno,LU,λj hj=>by
      cases hL:L j with
      |false=>rfl
      |true=>
       cases FD:l[j]? with
       |none=>
        have h1:=nk.1
        rw[List.getD_eq_getElem?_getD,List.getElem?_eq_none (by have:=List.getElem?_eq_none_iff.1 FD; omega)]at hj
        simp at hj
       |some oj=>
        have:=nk.2 L hc j oj FD (λm hm=>hc j oj FD hL m hm) i hj
        rw[hno]at this
        cases this⟩
     have hop:=hs.get (j:=i) (o:=o) (by rw[List.getElem?_take,if_pos Km]; exact hi)
     rw[Nat.zero_add]at hop
     refine(hop L a w hI sA (zN hwf hi Km)).A7 TY OQ λa' w' h'=>⟨a',rfl,(show J (upd L i) a' w' from⟨ni,?_⟩)⟩
     by_cases hfull:∀j,j<k->upd L i j=true
     ·refine .inr ⟨hfull,0,Nat.zero_le _,λq hq Mi=>?_,hK a' w' ?_⟩
      ·have Rj:L q=false:=by
        cases Rj:L q with
        |false=>rfl
        |true=>
         cases hoq:l[q]? with
         |none=>rw[List.getElem?_eq_none_iff]at hoq; omega
         |some oq=>
          have:=nk.2 L hc q oq hoq (λm hm=>hc q oq hoq Rj m hm) j0 (nu yG Mi hq (by omega))
          rw[Oa]at this; cases this
       have:upd L i q=L q:=by unfold upd; rw[if_neg (by omega)]
       rw[this,Rj]
       constructor
       ·intro h; cases h
       ·intro h; omega
      ·obtain⟨β,hI'⟩:=h'
       refine⟨β,hI'.congr (fl hwf) λj hj=>?_⟩
       rw[List.length_take]at hj
       exact hfull j (by omega)
     ·refine .inl ⟨?_,h'⟩
      rw[Classical.not_forall]at hfull
      obtain⟨j,hj⟩:=hfull
      rw[Classical.not_imp]at hj
      exact⟨j,hj.1,Bool.not_eq_true _▸hj.2⟩
    ·have FA:k<=i:=by
      rcases Nat.lt_or_ge i k with h'|h'
      ·rw[hall i h']at hno; cases hno
      ·exact h'
     have AA:i=k+m:=by
      have h1:¬i<k+m:=λh=>by rw[(Ob i FA Fy).2 h]at hno; cases hno
      rcases Nat.lt_or_ge (k+m) i with h2|h2
      ·have h3:=LU (k+m) (nu yG Fy FA h2)
       have:=(Ob (k+m) (by omega) (by omega)).1 h3
       omega
      ·omega
     have ho:(l.drop k)[m]?=some o:=by rw[List.getElem?_drop,<-AA]; exact hi
     have IU:=hst.get ho a w (by rw[Nat.zero_add]; exact Ri)
     rw[Nat.zero_add]at IU
     refine IU.A7 TY OQ λa' w' h'=>⟨a',rfl,(show J (upd L i) a' w' from⟨ni,.inr ⟨λj hj=>?_,m+1,by omega,λq hq Mi=>?_,h'⟩⟩)⟩
     ·unfold upd
      split
      ·rfl
      ·exact hall j hj
     ·unfold upd
      split
      ·rename_i e
       constructor
       ·intro _; omega
       ·intro _; rfl
      ·rename_i e
       rw[Ob q hq Mi]
       omega
 ·rintro L _ w ⟨a,rfl,_,hJ⟩ hall
  rcases hJ with⟨⟨j,hj,hL⟩,_⟩|⟨_,m,hmn,Ob,Ri⟩
  ·rw[hall j (by omega)]at hL; cases hL
  ·have hme:m=l.length-k:=by
    rcases Nat.lt_or_ge m (l.length-k)with h'|h'
    ·have:=(Ob (k+m) (by omega) (by omega)).1 (hall (k+m) (by omega))
     omega
    ·omega
   subst hme
   exact⟨a,rfl,hq a w Ri⟩
theorem CL {l:List Oper} {n:Nat}:∀(os:List Oper) (k m:Nat) (K:Nat->Act->World->Prop),kQ P l.toArray K m os->(∀j o,os[j]?=some o->l[k+j]?=some o)->os.all eJ=true->(∀a w,K (m+os.length) a w->Q .normal a w)->∀a w,K m a w ->
  wpOpsIn (Ar ro) n P l.toArray (λe a' w'=>∃a0,a'=mj ds a0/\Q e a0 w') (List.range' k os.length) (mj ds a) w
 |[],k,m,K,_,_,_,hq,a,w,h=>⟨a,rfl,hq a w h⟩
 |o::os,k,m,K,hs,hl,hd,hq,a,w,h=>by
  rw[List.length_cons,List.range'_succ,wpOpsIn_cons]
  rw[List.all_cons,Bool.and_eq_true]at hd
  refine(hs.1 a w h).A7 (by have:=hl 0 o rfl; simpa using this) hd.1 λa' w' h'=>CL os (k+1) (m+1) K hs.2 (λj o ho=>by rw[show k+1+j=k+(j+1) by omega]; exact hl (j+1) o ho) hd.2 (λa w hk=>hq a w ?_) a' w' h'
  rw[List.length_cons,show m+(os.length+1)=m+1+os.length by omega]
  exact hk
variable {V1 V2:List Vr} {G1 G2:List aX} {K':Act->World->Prop}
theorem Ux (h:Inv c V [] G none_ a w) (ms:List Nat) (k:Nat) (nv:List Vr) (A1:List Al) (ne:List aX) (hV:xD nv V V1) (hG:mb ne G G1) (hs:oN P l.toArray ms c V1 A1 G1 0 (l.take k)) (kV:eY V1 V2) (kG:aC G1 G2) (hst:eU P l.toArray (Inv c V2 [] G2 none_) (l.drop k) K') (hq:∀a w,K' a w->Q .normal a w)
  (hn:kO nv A1 ne=true:=by kernel_rfl) (hb:Bn P c.N l ms k V1 A1 G1=true:=by kernel_rfl) (hd:l.all eJ=true:=by kernel_rfl):(Code.region id l.toArray true).ww ro ds P Q a w:=by
 unfold Bn at hb
 simp only[Bool.and_eq_true,beq_iff_eq]at hb
 obtain⟨uT,hm,hok,uf,yG,hkn,hwf⟩:=hb
 obtain⟨F,e0,e1,hF⟩:=hst.steps
 refine Ht ms k (of_decide_eq_true uT) hm hok uf yG hd hkn hwf (gV h hV hG hn) hs F (λa w hI=>by rw[e0]; exact jy hwf kV kG hI) hF λa w hI=>hq a w ?_
 rw[<-e1,List.length_drop]
 exact hI
theorem Ql (h:Inv c V [] G none_ a w) (n k:Nat) (nv:List Vr) (A1:List Al) (ne:List aX) (hV:xD nv V V1) (hG:mb ne G G1) (hs:oN P l.toArray (tm n 0) c V1 A1 G1 0 (l.take k)) (kV:eY V1 V2) (kG:aC G1 G2) (hst:eU P l.toArray (Inv c V2 [] G2 none_) (l.drop k) K') (hq:∀a w,K' a w->Q .normal a w)
  (hn:kO nv A1 ne=true:=by kernel_rfl) (hb:Bo c.N l (tm n 0) k V1 A1 G1=true:=by kernel_rfl) (hd:l.all eJ=true:=by kernel_rfl):(Code.region id l.toArray false).ww ro ds P Q a w:=by
 unfold Bo at hb
 simp only[Bool.and_eq_true,beq_iff_eq]at hb
 obtain⟨uf,hkn,hwf⟩:=hb
 obtain⟨F,e0,e1,hF⟩:=hst.steps
 have hkn:=of_decide_eq_true hkn
 refine vR k hkn hwf (List.all_eq_true.2 λo ho=>List.all_eq_true.1 hd o (List.mem_of_mem_take ho)) (gV h hV hG hn) (by rw[uf]; exact hs) λa w hI n=>?_
 have:=CL (ro:=ro) (ds:=ds) (Q:=Q) (n:=n) (l:=l) (l.drop k) k 0 F hF (λj o ho=>by rw[List.getElem?_drop]at ho; exact ho) (List.all_eq_true.2 λo ho=>List.all_eq_true.1 hd o (List.mem_of_mem_drop ho)) (λa w hI=>hq a w (by rw[Nat.zero_add,e1]at hI; exact hI)) a w (by rw[e0]; exact jy hwf kV kG hI)
 rw[List.length_drop]at this
 exact this
variable {y:Code}
theorem Ta (h:Inv c V [] G none_ a w) (ms:List Nat) (k:Nat) (nv:List Vr) (A1:List Al) (ne:List aX) (hV:xD nv V V1) (hG:mb ne G G1) (hs:oN P l.toArray ms c V1 A1 G1 0 (l.take k)) (kV:eY V1 V2) (kG:aC G1 G2) (hst:eU P l.toArray (Inv c V2 [] G2 none_) (l.drop k) K') (hq:∀a w,K' a w->y.ww ro ds P Q a w)
  (hn:kO nv A1 ne=true:=by kernel_rfl) (hb:Bn P c.N l ms k V1 A1 G1=true:=by kernel_rfl) (hd:l.all eJ=true:=by kernel_rfl):(Code.seq (Code.region id l.toArray true) y).ww ro ds P Q a w:=ax (Ux h ms k nv A1 ne hV hG hs kV kG hst hq hn hb hd)
theorem zM (h:Inv c V [] G none_ a w) (n k:Nat) (nv:List Vr) (A1:List Al) (ne:List aX) (hV:xD nv V V1) (hG:mb ne G G1) (hs:oN P l.toArray (tm n 0) c V1 A1 G1 0 (l.take k)) (kV:eY V1 V2) (kG:aC G1 G2) (hst:eU P l.toArray (Inv c V2 [] G2 none_) (l.drop k) K') (hq:∀a w,K' a w->y.ww ro ds P Q a w)
  (hn:kO nv A1 ne=true:=by kernel_rfl) (hb:Bo c.N l (tm n 0) k V1 A1 G1=true:=by kernel_rfl) (hd:l.all eJ=true:=by kernel_rfl):(Code.seq (Code.region id l.toArray false) y).ww ro ds P Q a w:=ax (Ql h n k nv A1 ne hV hG hs kV kG hst hq hn hb hd)
end
end Wx
