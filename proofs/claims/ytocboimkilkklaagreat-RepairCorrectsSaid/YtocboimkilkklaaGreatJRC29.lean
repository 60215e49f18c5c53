import Derived.Test.YtocboimkilkklaaGreatJRC28
import Derived.Test.YtocboimkilkklaaGreatJRC27
namespace Wx
open Go Go.RowKit
section
variable {ro:Option Nat} {P:Program} {Q:Exit->Act->World->Prop} {c:dS} {V:List Vr} {A:List Al} {G:List bf} {β:Nat->Nat->Prop} {a a':Act} {w w':World}
theorem sR {x:Code} {d:Deferred} (h:x.ww ro [d] P (λe a w=>Q e (nH [d] a) w) a w):x.ww ro [] P Q (nH [d] a) w:=λn=>wpIn_mono (h n) λ_ _ _ ⟨a0,e0,h0⟩=>⟨nH [d] a0,e0,h0⟩
def xp (P:Program) (fn:Func) (R:Ending->World->Prop):Exit->Act->World->Prop:=bodyPostM (B5 none) 0 P fn R
variable {fn:Func} {R:Ending->World->Prop}
theorem wA {f:FuncId} {C:Code} {vs:List Value} {M:Nat->Nat->Prop} {N:Nat} {G:List bf} (hf:P.funcs[f]?=some fn) (hb:fn.body=some C) (hN:fn.ntmps=N) (hlen:decide (vs.length<=N)=true) (hM:dz M w) (hG:cQ M w vs G)
  (h:∀a,Inv ⟨N,w,M,λ_=>False⟩ [] [] G none_ a w->C.ww none [] P (xp P fn R) a w):Calls P f vs.toArray w R:=
 (callsIn_wide (n:=0)).1 (callsIn_of_wp_marks (F:=B5 none) (n:=0) hf hb trivial (wpIn_mono (h _ (qI hM (by have:=of_decide_eq_true hlen; simp[hN]; omega) rfl hG.ok) 0) λe a' w' ⟨a0,e0,h0⟩=>by subst e0; exact h0))
variable {p:Pred} {n0 id:Nat}
theorem eu.set {r:ResultVar} {s:Nat} {R R':Rel} (h:eu P V G r p) (tQ:V[n0]?=some (fc id s R)):eu P (V.set n0 (fc id s R')) G r p:=by
 induction h with
 |tmp k hk=>exact .tmp k hk
 |@cell x p T s k hk hb cI hs ht hc=>
  refine .cell k ?_ hb cI hs ht hc
  have hne:n0≠k:=λe=>by
   rw[e,hk]at tQ
   injection tQ with tQ
   rw[tQ]at cI
   cases cI
  rw[List.getElem?_set_ne hne]
  exact hk
 |imp _ hq ih=>exact .imp ih hq
variable {r:Loop} {l D:Nat}
theorem bq.taken (h:bq c V [] G none_ β a w) (hV:cO V=true) (hG:ek G=true) (hk:V[n0]?=some (eK id l D r)) (hu:iv V id n0=true):
  (Instr.takeDeferred D).run P w=.ok [] (w.putObj D (.deferred none))/\∃β',bq c (V.set n0 (fc id id λ_ _ _=>True)) [] G none_ β' a (w.putObj D (.deferred none)):=by
 obtain⟨h1,h2,h3,h4⟩:=h.F8 hk
 have hlt:l<w.heap.size:=(Array.getElem?_eq_some_iff.1 h2).1
 have hl2:(w.putObj D (.deferred none)).heap[l]?=some (.loop r):=(World.putObj_heap_other (by omega)).trans h2
 have Og:(w.putObj D (.deferred none)).heap[D]?=some (.deferred none):=World.putObj_heap_same (by omega)
 refine⟨run_takeDeferred h3,_,h.move (B':=β id) (R':=λ_ _ _=>True) hV hG hk (jw hu) (rA _ ((h1 D).2 (.inr rfl))) (λk hk'=>.inl hk') (λk hk'=>?_) (aP.always trivial _)⟩
 rw[World.putObj_size]
 rcases (h1 k).1 hk' with rfl|rfl
 ·exact⟨hlt,λo v hv=>absurd hv (iW hl2 rfl v)⟩
 ·exact⟨by omega,λo v hv=>absurd hv (iW Og rfl v)⟩
theorem Hp {v:Value} (hd:a.defers=[]) (ht:(Instr.takeDeferred D).run P w=.ok [] w') (hr:(results fn a.tmps).run P w'=.ok v w') (hR:R (.returned v) w'):xp P fn R .ret (nH [coll D] a) w:=by
 show LeavesInM (B5 none) 0 P fn a.tmps R ([coll D]++a.defers) .returning w
 rw[hd]
 exact⟨(λh=>(by cases h)),.inl ⟨D,w',rfl,ht,v,hr,hR⟩⟩
theorem DD {r1:ResultVar} (hI:Inv c V [] G none_ a w) (n0:Nat) (hr:fn.results=#[r1]) (h:eu P V G r1 p) (hk:V[n0]?=some (eK id l D r):=by exact rfl) (hn:∀k,¬c.iQ k:=by exactλ_ h=>h)
  (hV:cO V=true:=by kernel_rfl) (hG:ek G=true:=by kernel_rfl) (hu:iv V id n0=true:=by kernel_rfl):xp P fn (bE c.M0 p c.w0) .ret (nH [coll D] a) w:=by
 obtain⟨β,hI⟩:=hI
 obtain⟨h1,β',h2⟩:=hI.taken (P:=P) hV hG hk hu
 obtain⟨v,h3,h4⟩:=(h.set hk).run h2
 refine Hp hI.defers h1 (v:=v) ?_ ⟨v,rfl,jD h4,h2.below.below hn⟩
 rw[fe,hr]
 simp[h3]
end
end Wx

namespace Wx
open Go Go.RowKit
abbrev jV (N:Nat) (B:Nat->Prop) (J:World->Prop):Vr:=fc N N λB' w _=>(∀k,B' k↔B k)/\J w
section
variable {ro:Option Nat} {ds:List Deferred} {P:Program} {Q:Exit->Act->World->Prop} {c:dS} {V:List Vr} {A:List Al} {G:List bf} {β:Nat->Nat->Prop} {a a':Act} {w w':World}{id:Nat} {l:List Oper}
theorem xF (k:Nat) (hkn:k<=l.length) (hwf:rM c.N (l.take k) V A G=true) (MI:(l.take k).all fH=true)
  (h0:Inv c V A G none_ a w) (hs:mm P l.toArray (aZ l.length) c V A G 0 (l.take k))
  (hK:∀a w,Inv c V A G (λ_=>true) a w->∀n,wpOpsIn (B5 ro) n P l.toArray (λe a' w'=>∃a0,a'=nH ds a0/\Q e a0 w') (List.range' k (l.length-k)) (nH ds a) w):(Code.region id l.toArray false).ww ro ds P Q a w:=by
 intro n
 refine wpIn_region ?_
 have tm:∀k j,((aZ l.length).getD k 0).testBit j=true->j<k:=by
  intro k j h
  rcases Nat.lt_or_ge k l.length with h'|h'
  ·have e:(aZ l.length).getD k 0=2^k-1:=by simp[aZ,h']
   rw[e,Nat.testBit_two_pow_sub_one]at h
   simpa using h
  ·have e:(aZ l.length).getD k 0=0:=by simp[aZ,Nat.not_lt.2 h']
   rw[e]at h
   simp at h
 have key:∀(m i:Nat),i+m=k->∀(a:Act) (w:World),Inv c V A G (λj=>decide (j<i)) a w->wpOpsIn (B5 ro) n P l.toArray (λe a' w'=>∃a0,a'=nH ds a0/\Q e a0 w') (List.range' i m++List.range' k (l.length-k)) (nH ds a) w:=by
  intro m
  induction m with
  |zero=>
   rintro i hi a w ⟨β,hI⟩
   exact hK a w ⟨β,hI.congr (gl hwf) λj hj=>by simp at hj; simp; omega⟩ n
  |succ m ih=>
   intro i hi a w hI
   have Bz:i<k:=by omega
   obtain⟨o,ho⟩:∃o,l[i]?=some o:=⟨l[i]'(by omega),List.getElem?_eq_getElem (by omega)⟩
   have WT:(l.take k)[i]?=some o:=by rw[List.getElem?_take,if_pos Bz]; exact ho
   rw[List.range'_succ,List.cons_append,wpOpsIn_cons]
   have tP:nw (aZ l.length) i (λj=>decide (j<i)):=⟨by simp,λj hj=>by simpa using tm i j hj,λj hj=>by have:=tm j i hj; simp; omega⟩
   have hop:=hs.get WT
   rw[Nat.zero_add]at hop
   refine(hop _ a w hI tP (Bp hwf ho Bz)).Cz (by simpa using ho) (List.all_eq_true.1 MI o (List.mem_of_getElem? WT)) λa' w' h'=>ih (i+1) (by omega) a' w' ?_
   have e:upd (λj=>decide (j<i)) i=(λj=>decide (j<i+1)):=by
    funext j
    unfold upd
    by_cases h:j=i
    ·simp[h]
    ·rw[if_neg h]
     by_cases h2:j<i
     ·simp[h2]; omega
     ·simp[h2]; omega
   rw[<-e]
   exact h'
 have:=key k 0 (by omega) a w (by
  have e:(λj=>decide (j<0))=none_:=by funext j; simp
  rw[e]
  exact h0)
 have e2:List.range' 0 k++List.range' k (l.length-k)=List.range l.toArray.size:=by
  rw[List.range_eq_range',show l.toArray.size=k+(l.length-k) by simp; omega]
  have:=List.range'_append_1 (s:=0) (m:=k) (n:=l.length-k)
  rw[Nat.zero_add]at this
  exact this
 rwa [e2]at this
variable {d f:Nat} {ts:Array TypeId} {ty:TypeId} {pos:String} {aJ:Array Edge}
theorem Md {n:Nat} {ops:Array Oper} {i l:Nat} {x y:Operand} {R:Bool->World->Prop} {K:Act->World->Prop} (hi:ops[i]?=some ⟨some d,.call ⟨.value (.tmp f),#[x,y],ts⟩,ty,pos,aJ,none⟩)
  (hf:sl a f=.func (.yield l) #[] #[]) (hY:xN P l #[a.eval x,a.eval y] w R) (hK:∀b w',R b w'->K (nH ds (a.put (some d) (.bool b))) w'):wpOpIn (B5 none) n P ops Q i K (nH ds a) w:=by
 obtain⟨fn,tmps,assign,body,hy,hR⟩:=hY (n-1)
 have hr:(execOp a.eval ⟨some d,.call ⟨.value (.tmp f),#[x,y],ts⟩,ty,pos,aJ,none⟩).run P w=.ok (.round l fn tmps assign body) w:=by
  have hf':a.eval (.tmp f)=.func (.yield l) #[] #[]:=hf
  simp only[execOp,resolve,hf',Deferred.ofValue,pure_bind,invoke]
  simpa using hy
 unfold wpOpIn
 rw[hi]
 simp only
 rw[if_pos (by simp[Region.wanted])]
 unfold Oper.wpIn
 refine⟨λ_ _=>trivial,?_⟩
 rw[tB,Oper.semAt_eq _ _ _ (λc hc=>by cases hc),hr]
 refine⟨λh=>(by cases h),hR.mono ?_⟩
 rintro e w' ⟨b,rfl,h⟩
 show K ((nH ds a).put (some d) (.bool b)) w'
 rw[sC]
 exact hK b w' h
variable {N n0:Nat} {B:Nat->Prop} {J:World->Prop}
theorem bq.Ry (h:bq c V [] G none_ β a w) (hk:V[n0]?=some (jV N B J)):(∀k,β N k↔B k)/\aP (minus (own c V none_ β) (β N)) J w/\kB (β N) w/\∀k,β N k->mine c k:=by
 obtain⟨h1,h2⟩:=(aQ rfl).1 (h.var _ (List.mem_of_getElem? hk) rfl)
 exact⟨h2.out.1,h2.imp λ_ h=>h.2,λk hk=>(h1 k hk).2,λk hk=>(h1 k hk).1⟩
def rh (V:List Vr) (G:List bf) (d e N:Nat):Bool:=V.all (λx=>x.slot != d&&x.slot != e)&&(G.all (λx=>x.slot != d&&x.slot != e)&&(decide (d<N)&&(decide (e<N)&&d != e)))
variable {C:Code}
theorem JT {σ:Type} {V1 V2:List Vr} {G1 G2:List bf} {A1:List Al} {nv:List Vr} {ne:List bf} {e L x y:Nat} {PF ty2:TypeId} {pos2:String} {aft2:Array Edge} {p q:Pred}
  (Bs:σ->Nat->Prop) (JX:Bool->σ->World->Prop) (k:Nat) (h:Inv c V [] G none_ a w) (hV:rQ nv V V1) (hG:kA ne G G1) (hs:mm P l.toArray (aZ l.length) c V1 A1 G1 0 (l.take k)) (kV:dX V1 V2) (kG:az G1 G2)
  (hl:l.drop k=[⟨some d,.call ⟨.value (.tmp f),#[.tmp x,.tmp y],ts⟩,ty,pos,aJ,none⟩,⟨some e,.unOp .not PF (.tmp d),ty2,pos2,aft2,none⟩])
  (hf:iP f G2=some (bY (.func (.yield L) #[] #[]))) (hx:iP x G2=some p) (hy:iP y G2=some q) (hJ:V2[n0]?=some (jV c.N B J))
  (hY:∀M' w' v0 v1,dz M' w'->(∀k,B k->∀o,¬M' k o)->kB B w'->aP M' J w'->aP (λk o=>M' k o\/B k) (λw=>p w v0) w'->aP (λk o=>M' k o\/B k) (λw=>q w v1) w' ->
   xN P L #[v0,v1] w' λb w''=>∃s':σ,dN B w' w''/\(∀k,Bs s' k->B k\/w'.heap.size<=k)/\kB (Bs s') w''/\aP M' (JX b s') w'')
  (next:∀b s' a w,Inv c (V2.set n0 (jV c.N (Bs s') (JX b s'))) [] (⟨none,none,e,pB !b⟩::⟨none,none,d,pB b⟩::G2) none_ a w->C.ww none ds P Q a w)
  (hn:iF nv A1 ne=true:=by kernel_rfl) (hk:decide (k<=l.length)=true:=by kernel_rfl) (hb:rM c.N (l.take k) V1 A1 G1=true:=by kernel_rfl) (hd:(l.take k).all fH=true:=by kernel_rfl) (hp2:cO V2=true:=by kernel_rfl) (hg2:ek G2=true:=by kernel_rfl) (hu:iv V2 c.N n0=true:=by kernel_rfl) (hfr:rh V2 G2 d e c.N=true:=by kernel_rfl):
  (Code.seq (Code.region id l.toArray false) C).ww none ds P Q a w:=by
 have hk':=of_decide_eq_true hk
 refine aC (xF k hk' hb hd (fT h hV hG hn) hs λa1 w1 X8 n=>?_)
 have DI:=ic hb kV kG X8
 have hlen:l.length-k=2:=by rw[<-List.length_drop,hl]; rfl
 have o1:l.toArray[k]?=some ⟨some d,.call ⟨.value (.tmp f),#[.tmp x,.tmp y],ts⟩,ty,pos,aJ,none⟩:=by
  have:(l.drop k)[0]?=l[k+0]?:=List.getElem?_drop
  rw[hl]at this
  simpa using this.symm
 have o2:l.toArray[k+1]?=some ⟨some e,.unOp .not PF (.tmp d),ty2,pos2,aft2,none⟩:=by
  have:(l.drop k)[1]?=l[k+1]?:=List.getElem?_drop
  rw[hl]at this
  simpa using this.symm
 rw[hlen,show List.range' k 2=[k,k+1]from rfl,wpOpsIn_cons]
 unfold rh at hfr
 simp only[Bool.and_eq_true,List.all_eq_true,decide_eq_true_eq,bne_iff_ne]at hfr
 obtain⟨fV,fG,Hz,KP,Gv⟩:=hfr
 obtain⟨β,i2⟩:=DI
 obtain⟨jB,jJ,jN,jm⟩:=i2.Ry hJ
 have hx0:=List.mem_of_getElem? hJ
 have ob:∀k o,B k->own c V2 none_ β k o:=λk o hb=>.inr ⟨_,hx0,rfl,(jB k).2 hb,Nat.zero_le _⟩
 have bx:∀F:World->Prop,aP (own c V2 none_ β) F w1->aP (λk o=>minus (own c V2 none_ β) (β c.N) k o\/B k) F w1:=λF hF=>hF.sub λk o _ hk=>hk.elim (λh=>h.1) (ob k o)
 obtain⟨kx,YI⟩:=fE hx
 obtain⟨ky,YJ⟩:=fE hy
 obtain⟨kf,YH⟩:=fE hf
 have ME:sl a1 f=.func (.yield L) #[] #[]:=(i2.ku _ (List.mem_of_getElem? YH) rfl rfl).out
 refine Md o1 ME (hY _ w1 _ _ (λk o hk=>bK i2 k o hk.1) (λk hb o ho=>ho.2 ((jB k).2 hb)) (λk hb=>jN k ((jB k).2 hb)) jJ (bx _ (i2.ku _ (List.mem_of_getElem? YI) rfl rfl)) (bx _ (i2.ku _ (List.mem_of_getElem? YJ) rfl rfl))) ?_
 rintro b w2 ⟨s',hle,hnew,hno,hJ2⟩
 have UR:dN (β c.N) w1 w2:=⟨hle.os,hle.tape,hle.output,hle.size,λk hk hn=>hle.block k hk λhb=>hn ((jB k).2 hb)⟩
 have i3:=i2.move (B':=Bs s') (R':=λB' w _=>(∀k,B' k↔Bs s' k)/\JX b s' w) hp2 hg2 hJ (jw hu) UR (λk hk=>(hnew k hk).imp (jB k).2 λh=>h) hno (hJ2.imp λ_ h=>⟨λ_=>Iff.rfl,h⟩)
 have Wn:∀x,x∈V2.set n0 (jV c.N (Bs s') (JX b s'))->x.slot≠d/\x.slot≠e:=λx hx=>by
  rcases List.mem_or_eq_of_mem_set hx with hx|rfl
  ·exact fV x hx
  ·exact fV (jV c.N B J) hx0
 have i4:=i3.qN (d:=d) (p:=pB b) (v:=.bool b) Hz (λx hx=>(Wn x hx).1) (λx hx=>(fG x hx).1) (aP.always rfl _)
 rw[wpOpsIn_cons]
 have YC:sl (a1.put (some d) (.bool b)) d=.bool b:=iG (by rw[i3.size]; exact Hz)
 have hnot:dy P l.toArray ⟨some e,.unOp .not PF (.tmp d),ty2,pos2,aft2,none⟩ (a1.put (some d) (.bool b)) w2 (λa w=>Inv c (V2.set n0 (jV c.N (Bs s') (JX b s'))) [] (⟨none,none,e,pB !b⟩::⟨none,none,d,pB b⟩::G2) none_ a w):=by
  refine .of rfl ?_
  have hr:(execOp (a1.put (some d) (.bool b)).eval ⟨some e,.unOp .not PF (.tmp d),ty2,pos2,aft2,none⟩).run P w2=.ok (.value (.bool !b)) w2:=by
   show(do pure (Next.value (<-Op.unary .not ((a1.put (some d) (.bool b)).eval (.tmp d))))).run P w2=_
   rw[show(a1.put (some d) (.bool b)).eval (.tmp d)=.bool b from YC]
   rfl
  unfold Does
  rw[hr]
  refine⟨_,i4.qN (d:=e) (p:=pB !b) (v:=.bool !b) KP (λx hx=>(Wn x hx).2) (λx hx=>?_) (aP.always rfl _)⟩
  rcases List.mem_cons.1 hx with rfl|hx
  ·exact Gv
  ·exact(fG x hx).2
 refine hnot.Cz o2 rfl λa3 w3 X9=>⟨a3,rfl,next b s' a3 w3 X9⟩
variable {R:Ending->World->Prop} {fn:Func} {M:Nat->Nat->Prop}
theorem xS {f:FuncId} {vs:List Value} (hf:P.funcs[f]?=some fn) (hb:fn.body=some C) (hN:fn.ntmps=N) (hlen:decide (vs.length<=N)=true)
  (hM:dz M w) (TT:∀k,B k->∀o,¬M k o) (hno:kB B w) (hJ:aP M J w) (hG:cQ (λk o=>M k o\/B k) w vs G)
  (h:∀a,Inv ⟨N,w,M,B⟩ [jV N B J] [] G none_ a w->C.ww none [] P (bodyPost P fn R) a w):Calls P f vs.toArray w R:=by
 have key:=λhI=>h { tmps:=vs.toArray++Array.replicate (fn.ntmps-vs.toArray.size) undef,defers:=[] } hI 0
 refine calls_of_wp hf hb ((wpIn_wide (n:=0)).1 (wpIn_mono (key ?_) λe a' w' ⟨a0,e0,h0⟩=>by subst e0; exact h0))
 have TV:=cQ.ok (m:=fn.ntmps-vs.toArray.size) hG
 have eo:∀k o,own ⟨N,w,M,B⟩ [jV N B J] none_ (λ_=>B) k o->M k o\/B k:=λk o h=>h.elim .inl λ⟨x,_,_,h,_⟩=>.inr h
 refine⟨λ_=>B,by have:=of_decide_eq_true hlen; simp[hN]; omega,rfl,dN.refl _ _,(λk o h=>⟨⟨(hM k o h).1,λhb=>TT k hb o h⟩,(hM k o h).2⟩),(λx hx _=>?_),(λx y g hx hy _ _ hne=>?_),(λp hp=>by cases hp),λe he _ _=>(TV.get e he).2.sub λk o _ h=>eo k o h⟩
 ·rcases List.mem_singleton.1 hx with rfl
  exact(aQ rfl).2 ⟨λk hk=>⟨.inr hk,hno k hk⟩,(hJ.imp λ_ h=>⟨λ_=>Iff.rfl,h⟩).sub λk o _ hk=>(eo k o hk.1).elim (λh=>h) λhb=>absurd hb hk.2⟩
 ·rcases List.mem_singleton.1 hx with rfl
  rcases List.mem_singleton.1 hy with rfl
  exact absurd rfl hne
theorem Qm {w0:World} {B0:Nat->Prop} (hI:Inv ⟨N,w0,M,B0⟩ V [] G none_ a w) (hr:fn.results=#[]) (hJ:V[n0]?=some (jV N B J))
  (hR:dN B0 w0 w->(∀k,B k->B0 k\/w0.heap.size<=k)->kB B w->aP M J w->R (.returned (.tuple #[])) w):bodyPost P fn R .ret a w:=by
 obtain⟨β,hI⟩:=hI
 obtain⟨jB,jJ,jN,jm⟩:=hI.Ry hJ
 refine lA hI (results_none hr _ _ _) (hR hI.below (λk hk=>(jm k ((jB k).2 hk)).symm) (λk hk=>jN k ((jB k).2 hk)) (jJ.sub λk o _ hk=>⟨.inl hk,λhb=>jn hI (jm k hb) hk⟩))
end
end Wx

namespace Wx
open Go Go.RowKit
variable {V:List Vr} {N:Nat} {B:Nat->Prop} {J:World->Prop}
theorem vJ (h:mh N V=some (jV N B J):=by exact rfl):∃r:Rel,mh (jV N B J).id V=some ⟨(jV N B J).id,(jV N B J).slot,none,none,(jV N B J).kd,(jV N B J).T,(jV N B J).n,(jV N B J).agg,r,[]⟩/\((jV N B J).born=none/\(jV N B J).dead=none/\(jV N B J).st=[])/\∀F w v,r F w v->(jV N B J).c0 F w v:=⟨_,h,⟨rfl,rfl,rfl⟩,λ_ _ _ h=>h⟩
variable {P:Program} {fn:Func} {f:FuncId} {sz:Nat} {ag:Bool} {q:Pred} {u:Value} {M:Nat->Nat->Prop} {R:Ending->World->Prop} {w:World}
theorem Zu {C:Code} {l:Nat} (hf:P.funcs[f]?=some fn) (hb:fn.body=some C) (hN:fn.ntmps=N)
  (hM:dz M w) (TT:∀k,B k->∀o,¬M k o) (hno:kB B w) (hJ:aP M J w) (hc:aP (λk o=>M k o\/B k) (λw=>dU sz ag q w u) w)
  (h:∀a,Inv ⟨N,w,M,B⟩ [jV N B J] [] [Uz 0 (bY (.func (.yield l) #[] #[])),Uz 1 (dU sz ag q)] none_ a w->C.ww none [] P (bodyPost P fn R) a w) (hlen:decide (2<=N)=true:=by kernel_rfl):Calls P f (#[.func (.yield l) #[] #[]]++#[u]) w R:=
 xS (vs:=[.func (.yield l) #[] #[],u]) hf hb hN hlen hM TT hno hJ (show cQ (λk o=>M k o\/B k) w [.func (.yield l) #[] #[],u] [Uz 0 (bY (.func (.yield l) #[] #[])),Uz 1 (dU sz ag q)]from⟨⟨rfl,_,rfl,λ_ _=>rfl⟩,⟨rfl,_,rfl,hc⟩,trivial⟩) h
theorem Qo {G:List bf} {a:Act} {n0:Nat} {w0:World} {B0:Nat->Prop} (hI:Inv ⟨N,w0,M,B0⟩ V [] G none_ a w) (hr:fn.results=#[]) (hJ:V[n0]?=some (jV N B J))
  (hR:dN B0 w0 w->(∀k,B k->B0 k\/w0.heap.size<=k)->kB B w->aP M J w->R (.returned (.tuple #[])) w):bodyPost P fn R .normal a w:=Qm hI hr hJ hR
def GX (sz:Nat) (ag:Bool) (q:Pred) (lb:Array Value) (w:World):Prop:=∃u,lb=#[u]/\dU sz ag q w u
theorem GY (h:aP M (GX sz ag q #[u]) w):aP M (λw=>dU sz ag q w u) w:=h.imp λ_ ⟨u',e,h⟩=>by
 have e:u=u':=by simpa using e
 rw[e]; exact h
theorem Kq {n:Nat} {p r:Nat->Pred} (hf:aI P f) (hs:∀u,GL P f #[u] n p r (GX sz ag q #[u])):∀w v,FY f sz ag q w v->Ji P n p r (GX sz ag q) w v:=λ_ _ ⟨u,e,h⟩=>⟨f,#[u],e,hf,hs u,u,rfl,h⟩
end Wx

namespace Wx
open Go Go.RowKit
section
variable {ro:Option Nat} {ds:List Deferred} {P:Program} {Q:Exit->Act->World->Prop} {c:dS} {V:List Vr} {A:List Al} {G:List bf} {a:Act} {w:World}{id:Nat} {l:List Oper}
theorem JS (ms:List Nat) (k:Nat) (tQ:0<k) (hm:P.follows .mixedOrders=true) (hok:gC l.toArray=true) (rX:rC l=ms) (Aj:DX ms k l.length=true) (MI:l.all fH=true) (hkn:decide (k<=l.length)=true) (hwf:rM c.N (l.take k) V A G=true)
  (h0:Inv c V A G none_ a w) (hs:mm P l.toArray ms c V A G 0 (l.take k)) (K:Nat->Act->World->Prop) (hK:∀a w,Inv c V A G (λ_=>true) a w->K 0 a w) (hst:my P l.toArray K 0 (l.drop k)) (hq:∀a w,K (l.length-k) a w->Q .normal a w):
  (Code.region id l.toArray true).ww ro ds P Q a w:=by
 intro n
 have hkn:=of_decide_eq_true hkn
 have oD:=ud l
 rw[rX]at oD
 let J:(Nat->Bool)->Act->World->Prop:=λL a w=>jz l L/\(((∃j,j<k/\L j=false)/\Inv c V A G L a w)\/((∀j,j<k->L j=true)/\∃m,m<=l.length-k/\(∀i,k<=i->i<l.length->(L i=true↔i<k+m))/\K m a w))
 refine rH hm hok (λL a' w=>∃a,a'=nH ds a/\J L a w) ⟨a,rfl,λi o _ h=>(by cases h),.inl ⟨⟨0,tQ,rfl⟩,?_⟩⟩ ?_ ?_
 ·obtain⟨β,hβ⟩:=h0
  exact⟨β,hβ.draws⟩
 ·rintro i o hi L _ w ⟨a,rfl,hc,hJ⟩ hno hpre
  ··have H6:i<l.length:=by
     rcases Nat.lt_or_ge i l.length with h'|h'
     ·exact h'
     ·rw[List.getElem?_eq_none h']at hi; cases hi
    have WM:l.toArray[i]?=some o:=by simpa using hi
    have Rb:fH o=true:=List.all_eq_true.1 MI o (List.mem_of_getElem? hi)
    have Oc:∀j,(ms.getD i 0).testBit j=true->L j=true:=λj hj=>oD.2 L hc i o hi hpre j hj
    have oB:jz l (upd L i):=by
     intro k' ok mN hL j hj
     by_cases H8:k'=i
     ·subst H8
      rw[hi]at mN
      injection mN with mN
      subst mN
      have:=hpre j hj
      unfold upd
      split
      ·rfl
      ·exact this
     ·have:=hc k' ok mN (C3 hL H8) j hj
      unfold upd
      split
      ·rfl
      ·exact this
    rcases hJ with⟨⟨j0,UM,Qu⟩,hI⟩|⟨hall,m,hmn,Qv,TX⟩
    ·have Bz:i<k:=by
      rcases Nat.lt_or_ge i k with h'|h'
      ·exact h'
      ·have:=Oc j0 (oG Aj H6 h' (by omega))
       rw[Qu]at this; cases this
     have tP:nw ms i L:=⟨hno,Oc,λj hj=>by
      cases hL:L j with
      |false=>rfl
      |true=>
       cases Ib:l[j]? with
       |none=>
        have h1:=oD.1
        rw[List.getD_eq_getElem?_getD,List.getElem?_eq_none (by have:=List.getElem?_eq_none_iff.1 Ib; omega)]at hj
        simp at hj
       |some oj=>
        have:=oD.2 L hc j oj Ib (λm hm=>hc j oj Ib hL m hm) i hj
        rw[hno]at this
        cases this⟩
     have hop:=hs.get (j:=i) (o:=o) (by rw[List.getElem?_take,if_pos Bz]; exact hi)
     rw[Nat.zero_add]at hop
     refine(hop L a w hI tP (Bp hwf hi Bz)).Cz WM Rb λa' w' h'=>⟨a',rfl,(show J (upd L i) a' w' from⟨oB,?_⟩)⟩
     by_cases hfull:∀j,j<k->upd L i j=true
     ·refine .inr ⟨hfull,0,Nat.zero_le _,λq hq Ov=>?_,hK a' w' ?_⟩
      ·have TY:L q=false:=by
        cases TY:L q with
        |false=>rfl
        |true=>
         cases hoq:l[q]? with
         |none=>rw[List.getElem?_eq_none_iff]at hoq; omega
         |some oq=>
          have:=oD.2 L hc q oq hoq (λm hm=>hc q oq hoq TY m hm) j0 (oG Aj Ov hq (by omega))
          rw[Qu]at this; cases this
       have:upd L i q=L q:=by unfold upd; rw[if_neg (by omega)]
       rw[this,TY]
       constructor
       ·intro h; cases h
       ·intro h; omega
      ·obtain⟨β,hI'⟩:=h'
       refine⟨β,hI'.congr (gl hwf) λj hj=>?_⟩
       rw[List.length_take]at hj
       exact hfull j (by omega)
     ·refine .inl ⟨?_,h'⟩
      rw[Classical.not_forall]at hfull
      obtain⟨j,hj⟩:=hfull
      rw[Classical.not_imp]at hj
      exact⟨j,hj.1,Bool.not_eq_true _▸hj.2⟩
    ·have H8:k<=i:=by
      rcases Nat.lt_or_ge i k with h'|h'
      ·rw[hall i h']at hno; cases hno
      ·exact h'
     have Ca:i=k+m:=by
      have h1:¬i<k+m:=λh=>by rw[(Qv i H8 H6).2 h]at hno; cases hno
      rcases Nat.lt_or_ge (k+m) i with h2|h2
      ·have h3:=Oc (k+m) (oG Aj H6 H8 h2)
       have:=(Qv (k+m) (by omega) (by omega)).1 h3
       omega
      ·omega
     have ho:(l.drop k)[m]?=some o:=by rw[List.getElem?_drop,<-Ca]; exact hi
     have KW:=hst.get ho a w (by rw[Nat.zero_add]; exact TX)
     rw[Nat.zero_add]at KW
     refine KW.Cz WM Rb λa' w' h'=>⟨a',rfl,(show J (upd L i) a' w' from⟨oB,.inr ⟨λj hj=>?_,m+1,by omega,λq hq Ov=>?_,h'⟩⟩)⟩
     ·unfold upd
      split
      ·rfl
      ·exact hall j hj
     ·unfold upd
      split
      ·rename_i e
       constructor
       ·intro _; omega
       ·intro _; rfl
      ·rename_i e
       rw[Qv q hq Ov]
       omega
 ·rintro L _ w ⟨a,rfl,_,hJ⟩ hall
  rcases hJ with⟨⟨j,hj,hL⟩,_⟩|⟨_,m,hmn,Qv,TX⟩
  ·rw[hall j (by omega)]at hL; cases hL
  ·have hme:m=l.length-k:=by
    rcases Nat.lt_or_ge m (l.length-k)with h'|h'
    ·have:=(Qv (k+m) (by omega) (by omega)).1 (hall (k+m) (by omega))
     omega
    ·omega
   subst hme
   exact⟨a,rfl,hq a w TX⟩
theorem Es {l:List Oper} {n:Nat}:∀(os:List Oper) (k m:Nat) (K:Nat->Act->World->Prop),my P l.toArray K m os->(∀j o,os[j]?=some o->l[k+j]?=some o)->os.all fH=true->(∀a w,K (m+os.length) a w->Q .normal a w)->∀a w,K m a w ->
  wpOpsIn (B5 ro) n P l.toArray (λe a' w'=>∃a0,a'=nH ds a0/\Q e a0 w') (List.range' k os.length) (nH ds a) w
 |[],k,m,K,_,_,_,hq,a,w,h=>⟨a,rfl,hq a w h⟩
 |o::os,k,m,K,hs,hl,hd,hq,a,w,h=>by
  rw[List.length_cons,List.range'_succ,wpOpsIn_cons]
  rw[List.all_cons,Bool.and_eq_true]at hd
  refine(hs.1 a w h).Cz (by have:=hl 0 o rfl; simpa using this) hd.1 λa' w' h'=>Es os (k+1) (m+1) K hs.2 (λj o ho=>by rw[show k+1+j=k+(j+1) by omega]; exact hl (j+1) o ho) hd.2 (λa w hk=>hq a w ?_) a' w' h'
  rw[List.length_cons,show m+(os.length+1)=m+1+os.length by omega]
  exact hk
variable {V1 V2:List Vr} {G1 G2:List bf} {K':Act->World->Prop}
theorem Xp (h:Inv c V [] G none_ a w) (ms:List Nat) (k:Nat) (nv:List Vr) (A1:List Al) (ne:List bf) (hV:rQ nv V V1) (hG:kA ne G G1) (hs:mm P l.toArray ms c V1 A1 G1 0 (l.take k)) (kV:dX V1 V2) (kG:az G1 G2) (hst:fN P l.toArray (Inv c V2 [] G2 none_) (l.drop k) K') (hq:∀a w,K' a w->Q .normal a w)
  (hn:iF nv A1 ne=true:=by kernel_rfl) (hb:CM P c.N l ms k V1 A1 G1=true:=by kernel_rfl) (hd:l.all fH=true:=by kernel_rfl):(Code.region id l.toArray true).ww ro ds P Q a w:=by
 unfold CM at hb
 simp only[Bool.and_eq_true,beq_iff_eq]at hb
 obtain⟨tQ,hm,hok,rX,Aj,hkn,hwf⟩:=hb
 obtain⟨F,e0,e1,hF⟩:=hst.steps
 refine JS ms k (of_decide_eq_true tQ) hm hok rX Aj hd hkn hwf (fT h hV hG hn) hs F (λa w hI=>by rw[e0]; exact ic hwf kV kG hI) hF λa w hI=>hq a w ?_
 rw[<-e1,List.length_drop]
 exact hI
theorem SZ (h:Inv c V [] G none_ a w) (n k:Nat) (nv:List Vr) (A1:List Al) (ne:List bf) (hV:rQ nv V V1) (hG:kA ne G G1) (hs:mm P l.toArray (tm n 0) c V1 A1 G1 0 (l.take k)) (kV:dX V1 V2) (kG:az G1 G2) (hst:fN P l.toArray (Inv c V2 [] G2 none_) (l.drop k) K') (hq:∀a w,K' a w->Q .normal a w)
  (hn:iF nv A1 ne=true:=by kernel_rfl) (hb:CN c.N l (tm n 0) k V1 A1 G1=true:=by kernel_rfl) (hd:l.all fH=true:=by kernel_rfl):(Code.region id l.toArray false).ww ro ds P Q a w:=by
 unfold CN at hb
 simp only[Bool.and_eq_true,beq_iff_eq]at hb
 obtain⟨rX,hkn,hwf⟩:=hb
 obtain⟨F,e0,e1,hF⟩:=hst.steps
 have hkn:=of_decide_eq_true hkn
 refine xF k hkn hwf (List.all_eq_true.2 λo ho=>List.all_eq_true.1 hd o (List.mem_of_mem_take ho)) (fT h hV hG hn) (by rw[rX]; exact hs) λa w hI n=>?_
 have:=Es (ro:=ro) (ds:=ds) (Q:=Q) (n:=n) (l:=l) (l.drop k) k 0 F hF (λj o ho=>by rw[List.getElem?_drop]at ho; exact ho) (List.all_eq_true.2 λo ho=>List.all_eq_true.1 hd o (List.mem_of_mem_drop ho)) (λa w hI=>hq a w (by rw[Nat.zero_add,e1]at hI; exact hI)) a w (by rw[e0]; exact ic hwf kV kG hI)
 rw[List.length_drop]at this
 exact this
variable {y:Code}
theorem VP (h:Inv c V [] G none_ a w) (ms:List Nat) (k:Nat) (nv:List Vr) (A1:List Al) (ne:List bf) (hV:rQ nv V V1) (hG:kA ne G G1) (hs:mm P l.toArray ms c V1 A1 G1 0 (l.take k)) (kV:dX V1 V2) (kG:az G1 G2) (hst:fN P l.toArray (Inv c V2 [] G2 none_) (l.drop k) K') (hq:∀a w,K' a w->y.ww ro ds P Q a w)
  (hn:iF nv A1 ne=true:=by kernel_rfl) (hb:CM P c.N l ms k V1 A1 G1=true:=by kernel_rfl) (hd:l.all fH=true:=by kernel_rfl):(Code.seq (Code.region id l.toArray true) y).ww ro ds P Q a w:=aC (Xp h ms k nv A1 ne hV hG hs kV kG hst hq hn hb hd)
theorem Bo (h:Inv c V [] G none_ a w) (n k:Nat) (nv:List Vr) (A1:List Al) (ne:List bf) (hV:rQ nv V V1) (hG:kA ne G G1) (hs:mm P l.toArray (tm n 0) c V1 A1 G1 0 (l.take k)) (kV:dX V1 V2) (kG:az G1 G2) (hst:fN P l.toArray (Inv c V2 [] G2 none_) (l.drop k) K') (hq:∀a w,K' a w->y.ww ro ds P Q a w)
  (hn:iF nv A1 ne=true:=by kernel_rfl) (hb:CN c.N l (tm n 0) k V1 A1 G1=true:=by kernel_rfl) (hd:l.all fH=true:=by kernel_rfl):(Code.seq (Code.region id l.toArray false) y).ww ro ds P Q a w:=aC (SZ h n k nv A1 ne hV hG hs kV kG hst hq hn hb hd)
end
end Wx
