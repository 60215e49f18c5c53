import Derived.Test.YtikkgpljpglnbaaGreatCRMRangeC
namespace Wx
open Go Go.RowKit
section
variable {ro:Option Nat} {P:Program} {Q:Exit->Act->World->Prop} {c:cF} {V:List Vr} {A:List Al} {G:List aQ} {β:Nat->Nat->Prop} {a a':Act} {w w':World}
theorem pO {x:Code} {d:Deferred} (h:x.ww ro [d] P (λe a w=>Q e (kK [d] a) w) a w):x.ww ro [] P Q (kK [d] a) w:=λn=>wpIn_mono (h n) λ_ _ _ ⟨a0,e0,h0⟩=>⟨kK [d] a0,e0,h0⟩
def tD (P:Program) (fn:Func) (R:Ending->World->Prop):Exit->Act->World->Prop:=bodyPostM (yc none) 0 P fn R
variable {fn:Func} {R:Ending->World->Prop}
theorem sM {f:FuncId} {C:Code} {vs:List Value} {M:Nat->Nat->Prop} {N:Nat} {G:List aQ} (hf:P.funcs[f]?=some fn) (hb:fn.body=some C) (hN:fn.ntmps=N) (hlen:decide (vs.length<=N)=true) (hM:cQ M w) (hG:dO M w vs G)
  (h:∀a,Inv ⟨N,w,M,λ_=>False⟩ [] [] G none_ a w->C.ww none [] P (tD P fn R) a w):Calls P f vs.toArray w R:=
 (callsIn_wide (n:=0)).1 (callsIn_of_wp_marks (F:=yc none) (n:=0) hf hb trivial (wpIn_mono (h _ (nE hM (by have:=of_decide_eq_true hlen; simp[hN]; omega) rfl hG.ok) 0) λe a' w' ⟨a0,e0,h0⟩=>by subst e0; exact h0))
variable {p:Pred} {n0 id:Nat}
theorem cN.set {r:ResultVar} {s:Nat} {R R':Rel} (h:cN P V G r p) (pA:V[n0]?=some (dc id s R)):cN P (V.set n0 (dc id s R')) G r p:=by
 induction h with
 |tmp k hk=>exact .tmp k hk
 |@cell x p T s k hk hb bD hs ht hc=>
  refine .cell k ?_ hb bD hs ht hc
  have hne:n0≠k:=λe=>by
   rw[e,hk]at pA
   injection pA with pA
   rw[pA]at bD
   cases bD
  rw[List.getElem?_set_ne hne]
  exact hk
 |imp _ hq ih=>exact .imp ih hq
variable {r:Loop} {l D:Nat}
theorem aT.taken (h:aT c V [] G none_ β a w) (hV:bE V=true) (hG:cw G=true) (hk:V[n0]?=some (cS id l D r)) (hu:eu V id n0=true):
  (Instr.takeDeferred D).run P w=.ok [] (w.putObj D (.deferred none))/\∃β',aT c (V.set n0 (dc id id λ_ _ _=>True)) [] G none_ β' a (w.putObj D (.deferred none)):=by
 obtain⟨h1,h2,h3,h4⟩:=h.B3 hk
 have hlt:l<w.heap.size:=(Array.getElem?_eq_some_iff.1 h2).1
 have hl2:(w.putObj D (.deferred none)).heap[l]?=some (.loop r):=(World.putObj_heap_other (by omega)).trans h2
 have KQ:(w.putObj D (.deferred none)).heap[D]?=some (.deferred none):=World.putObj_heap_same (by omega)
 refine⟨run_takeDeferred h3,_,h.move (B':=β id) (R':=λ_ _ _=>True) hV hG hk (ew hu) (oq _ ((h1 D).2 (.inr rfl))) (λk hk'=>.inl hk') (λk hk'=>?_) (aL.always trivial _)⟩
 rw[World.putObj_size]
 rcases (h1 k).1 hk' with rfl|rfl
 ·exact⟨hlt,λo v hv=>absurd hv (fS hl2 rfl v)⟩
 ·exact⟨by omega,λo v hv=>absurd hv (fS KQ rfl v)⟩
theorem C4 {v:Value} (hd:a.defers=[]) (ht:(Instr.takeDeferred D).run P w=.ok [] w') (hr:(results fn a.tmps).run P w'=.ok v w') (hR:R (.returned v) w'):tD P fn R .ret (kK [coll D] a) w:=by
 show LeavesInM (yc none) 0 P fn a.tmps R ([coll D]++a.defers) .returning w
 rw[hd]
 exact⟨(λh=>(by cases h)),.inl ⟨D,w',rfl,ht,v,hr,hR⟩⟩
theorem zV {r1:ResultVar} (hI:Inv c V [] G none_ a w) (n0:Nat) (hr:fn.results=#[r1]) (h:cN P V G r1 p) (hk:V[n0]?=some (cS id l D r):=by exact rfl) (hn:∀k,¬c.fH k:=by exactλ_ h=>h)
  (hV:bE V=true:=by kernel_rfl) (hG:cw G=true:=by kernel_rfl) (hu:eu V id n0=true:=by kernel_rfl):tD P fn (bV c.M0 p c.w0) .ret (kK [coll D] a) w:=by
 obtain⟨β,hI⟩:=hI
 obtain⟨h1,β',h2⟩:=hI.taken (P:=P) hV hG hk hu
 obtain⟨v,h3,h4⟩:=(h.set hk).run h2
 refine C4 hI.defers h1 (v:=v) ?_ ⟨v,rfl,gF h4,h2.below.below hn⟩
 rw[cR,hr]
 simp[h3]
end
end Wx

namespace Wx
open Go Go.RowKit
abbrev jV (N:Nat) (B:Nat->Prop) (J:World->Prop):Vr:=dc N N λB' w _=>(∀k,B' k↔B k)/\J w
section
variable {ro:Option Nat} {ds:List Deferred} {P:Program} {Q:Exit->Act->World->Prop} {c:cF} {V:List Vr} {A:List Al} {G:List aQ} {β:Nat->Nat->Prop} {a a':Act} {w w':World}{id:Nat} {l:List Oper}
theorem tJ (k:Nat) (hkn:k<=l.length) (hwf:pM c.N (l.take k) V A G=true) (KV:(l.take k).all fg=true)
  (h0:Inv c V A G none_ a w) (hs:oC P l.toArray (aN l.length) c V A G 0 (l.take k))
  (hK:∀a w,Inv c V A G (λ_=>true) a w->∀n,wpOpsIn (yc ro) n P l.toArray (λe a' w'=>∃a0,a'=kK ds a0/\Q e a0 w') (List.range' k (l.length-k)) (kK ds a) w):(Code.region id l.toArray false).ww ro ds P Q a w:=by
 intro n
 refine wpIn_region ?_
 have tm:∀k j,((aN l.length).getD k 0).testBit j=true->j<k:=by
  intro k j h
  rcases Nat.lt_or_ge k l.length with h'|h'
  ·have e:(aN l.length).getD k 0=2^k-1:=by simp[aN,h']
   rw[e,Nat.testBit_two_pow_sub_one]at h
   simpa using h
  ·have e:(aN l.length).getD k 0=0:=by simp[aN,Nat.not_lt.2 h']
   rw[e]at h
   simp at h
 have key:∀(m i:Nat),i+m=k->∀(a:Act) (w:World),Inv c V A G (λj=>decide (j<i)) a w->wpOpsIn (yc ro) n P l.toArray (λe a' w'=>∃a0,a'=kK ds a0/\Q e a0 w') (List.range' i m++List.range' k (l.length-k)) (kK ds a) w:=by
  intro m
  induction m with
  |zero=>
   rintro i hi a w ⟨β,hI⟩
   exact hK a w ⟨β,hI.congr (eU hwf) λj hj=>by simp at hj; simp; omega⟩ n
  |succ m ih=>
   intro i hi a w hI
   have Mj:i<k:=by omega
   obtain⟨o,ho⟩:∃o,l[i]?=some o:=⟨l[i]'(by omega),List.getElem?_eq_getElem (by omega)⟩
   have Rz:(l.take k)[i]?=some o:=by rw[List.getElem?_take,if_pos Mj]; exact ho
   rw[List.range'_succ,List.cons_append,wpOpsIn_cons]
   have ug:kO (aN l.length) i (λj=>decide (j<i)):=⟨by simp,λj hj=>by simpa using tm i j hj,λj hj=>by have:=tm j i hj; simp; omega⟩
   have hop:=hs.get Rz
   rw[Nat.zero_add]at hop
   refine(hop _ a w hI ug (EG hwf ho Mj)).DS (by simpa using ho) (List.all_eq_true.1 KV o (List.mem_of_getElem? Rz)) λa' w' h'=>ih (i+1) (by omega) a' w' ?_
   have e:upd (λj=>decide (j<i)) i=(λj=>decide (j<i+1)):=by
    funext j
    unfold upd
    by_cases h:j=i
    ·simp[h]
    ·rw[if_neg h]
     by_cases h2:j<i
     ·simp[h2]; omega
     ·simp[h2]; omega
   rw[<-e]
   exact h'
 have:=key k 0 (by omega) a w (by
  have e:(λj=>decide (j<0))=none_:=by funext j; simp
  rw[e]
  exact h0)
 have e2:List.range' 0 k++List.range' k (l.length-k)=List.range l.toArray.size:=by
  rw[List.range_eq_range',show l.toArray.size=k+(l.length-k) by simp; omega]
  have:=List.range'_append_1 (s:=0) (m:=k) (n:=l.length-k)
  rw[Nat.zero_add]at this
  exact this
 rwa [e2]at this
variable {d f:Nat} {ts:Array TypeId} {ty:TypeId} {pos:String} {aI:Array Edge}
theorem GY {n:Nat} {ops:Array Oper} {i l:Nat} {x y:Operand} {R:Bool->World->Prop} {K:Act->World->Prop} (hi:ops[i]?=some ⟨some d,.call ⟨.value (.tmp f),#[x,y],ts⟩,ty,pos,aI,none⟩)
  (hf:sl a f=.func (.yield l) #[] #[]) (hY:tQ P l #[a.eval x,a.eval y] w R) (hK:∀b w',R b w'->K (kK ds (a.put (some d) (.bool b))) w'):wpOpIn (yc none) n P ops Q i K (kK ds a) w:=by
 obtain⟨fn,tmps,assign,body,hy,hR⟩:=hY (n-1)
 have hr:(execOp a.eval ⟨some d,.call ⟨.value (.tmp f),#[x,y],ts⟩,ty,pos,aI,none⟩).run P w=.ok (.round l fn tmps assign body) w:=by
  have hf':a.eval (.tmp f)=.func (.yield l) #[] #[]:=hf
  simp only[execOp,resolve,hf',Deferred.ofValue,pure_bind,invoke]
  simpa using hy
 unfold wpOpIn
 rw[hi]
 simp only
 rw[if_pos (by simp[Region.wanted])]
 unfold Oper.wpIn
 refine⟨λ_ _=>trivial,?_⟩
 rw[qm,Oper.semAt_eq _ _ _ (λc hc=>by cases hc),hr]
 refine⟨λh=>(by cases h),hR.mono ?_⟩
 rintro e w' ⟨b,rfl,h⟩
 show K ((kK ds a).put (some d) (.bool b)) w'
 rw[pc]
 exact hK b w' h
variable {N n0:Nat} {B:Nat->Prop} {J:World->Prop}
theorem aT.MM (h:aT c V [] G none_ β a w) (hk:V[n0]?=some (jV N B J)):(∀k,β N k↔B k)/\aL (minus (own c V none_ β) (β N)) J w/\iv (β N) w/\∀k,β N k->mine c k:=by
 obtain⟨h1,h2⟩:=(aG rfl).1 (h.var _ (List.mem_of_getElem? hk) rfl)
 exact⟨h2.out.1,h2.imp λ_ h=>h.2,λk hk=>(h1 k hk).2,λk hk=>(h1 k hk).1⟩
def nZ (V:List Vr) (G:List aQ) (d e N:Nat):Bool:=V.all (λx=>x.slot != d&&x.slot != e)&&(G.all (λx=>x.slot != d&&x.slot != e)&&(decide (d<N)&&(decide (e<N)&&d != e)))
variable {C:Code}
theorem EN {σ:Type} {V1 V2:List Vr} {G1 G2:List aQ} {A1:List Al} {nv:List Vr} {ne:List aQ} {e L x y:Nat} {K6 ty2:TypeId} {pos2:String} {aft2:Array Edge} {p q:Pred}
  (Bs:σ->Nat->Prop) (JX:Bool->σ->World->Prop) (k:Nat) (h:Inv c V [] G none_ a w) (hV:xD nv V V1) (hG:kP ne G G1) (hs:oC P l.toArray (aN l.length) c V1 A1 G1 0 (l.take k)) (kV:eE V1 V2) (kG:aA G1 G2)
  (hl:l.drop k=[⟨some d,.call ⟨.value (.tmp f),#[.tmp x,.tmp y],ts⟩,ty,pos,aI,none⟩,⟨some e,.unOp .not K6 (.tmp d),ty2,pos2,aft2,none⟩])
  (hf:eK f G2=some (bg (.func (.yield L) #[] #[]))) (hx:eK x G2=some p) (hy:eK y G2=some q) (hJ:V2[n0]?=some (jV c.N B J))
  (hY:∀M' w' v0 v1,cQ M' w'->(∀k,B k->∀o,¬M' k o)->iv B w'->aL M' J w'->aL (λk o=>M' k o\/B k) (λw=>p w v0) w'->aL (λk o=>M' k o\/B k) (λw=>q w v1) w' ->
   tQ P L #[v0,v1] w' λb w''=>∃s':σ,cA B w' w''/\(∀k,Bs s' k->B k\/w'.heap.size<=k)/\iv (Bs s') w''/\aL M' (JX b s') w'')
  (next:∀b s' a w,Inv c (V2.set n0 (jV c.N (Bs s') (JX b s'))) [] (⟨none,none,e,pB !b⟩::⟨none,none,d,pB b⟩::G2) none_ a w->C.ww none ds P Q a w)
  (hn:kM nv A1 ne=true:=by kernel_rfl) (hk:decide (k<=l.length)=true:=by kernel_rfl) (hb:pM c.N (l.take k) V1 A1 G1=true:=by kernel_rfl) (hd:(l.take k).all fg=true:=by kernel_rfl) (hp2:bE V2=true:=by kernel_rfl) (hg2:cw G2=true:=by kernel_rfl) (hu:eu V2 c.N n0=true:=by kernel_rfl) (hfr:nZ V2 G2 d e c.N=true:=by kernel_rfl):
  (Code.seq (Code.region id l.toArray false) C).ww none ds P Q a w:=by
 have hk':=of_decide_eq_true hk
 refine au (tJ k hk' hb hd (iB h hV hG hn) hs λa1 w1 SD n=>?_)
 have zY:=jR hb kV kG SD
 have hlen:l.length-k=2:=by rw[<-List.length_drop,hl]; rfl
 have o1:l.toArray[k]?=some ⟨some d,.call ⟨.value (.tmp f),#[.tmp x,.tmp y],ts⟩,ty,pos,aI,none⟩:=by
  have:(l.drop k)[0]?=l[k+0]?:=List.getElem?_drop
  rw[hl]at this
  simpa using this.symm
 have o2:l.toArray[k+1]?=some ⟨some e,.unOp .not K6 (.tmp d),ty2,pos2,aft2,none⟩:=by
  have:(l.drop k)[1]?=l[k+1]?:=List.getElem?_drop
  rw[hl]at this
  simpa using this.symm
 rw[hlen,show List.range' k 2=[k,k+1]from rfl,wpOpsIn_cons]
 unfold nZ at hfr
 simp only[Bool.and_eq_true,List.all_eq_true,decide_eq_true_eq,bne_iff_ne]at hfr
 obtain⟨fV,fG,Hx,FI,ND⟩:=hfr
 obtain⟨β,i2⟩:=zY
 obtain⟨jB,jJ,jN,jm⟩:=i2.MM hJ
 have hx0:=List.mem_of_getElem? hJ
 have ob:∀k o,B k->own c V2 none_ β k o:=λk o hb=>.inr ⟨_,hx0,rfl,(jB k).2 hb,Nat.zero_le _⟩
 have bx:∀F:World->Prop,aL (own c V2 none_ β) F w1->aL (λk o=>minus (own c V2 none_ β) (β c.N) k o\/B k) F w1:=λF hF=>hF.sub λk o _ hk=>hk.elim (λh=>h.1) (ob k o)
 obtain⟨kx,Tg⟩:=dh hx
 obtain⟨ky,Th⟩:=dh hy
 obtain⟨kf,Tf⟩:=dh hf
 have Hy:sl a1 f=.func (.yield L) #[] #[]:=(i2.gD _ (List.mem_of_getElem? Tf) rfl rfl).out
 refine GY o1 Hy (hY _ w1 _ _ (λk o hk=>aS i2 k o hk.1) (λk hb o ho=>ho.2 ((jB k).2 hb)) (λk hb=>jN k ((jB k).2 hb)) jJ (bx _ (i2.gD _ (List.mem_of_getElem? Tg) rfl rfl)) (bx _ (i2.gD _ (List.mem_of_getElem? Th) rfl rfl))) ?_
 rintro b w2 ⟨s',hle,hnew,hno,hJ2⟩
 have Pz:cA (β c.N) w1 w2:=⟨hle.os,hle.tape,hle.output,hle.size,λk hk hn=>hle.block k hk λhb=>hn ((jB k).2 hb)⟩
 have i3:=i2.move (B':=Bs s') (R':=λB' w _=>(∀k,B' k↔Bs s' k)/\JX b s' w) hp2 hg2 hJ (ew hu) Pz (λk hk=>(hnew k hk).imp (jB k).2 λh=>h) hno (hJ2.imp λ_ h=>⟨λ_=>Iff.rfl,h⟩)
 have Q8:∀x,x∈V2.set n0 (jV c.N (Bs s') (JX b s'))->x.slot≠d/\x.slot≠e:=λx hx=>by
  rcases List.mem_or_eq_of_mem_set hx with hx|rfl
  ·exact fV x hx
  ·exact fV (jV c.N B J) hx0
 have i4:=i3.mK (d:=d) (p:=pB b) (v:=.bool b) Hx (λx hx=>(Q8 x hx).1) (λx hx=>(fG x hx).1) (aL.always rfl _)
 rw[wpOpsIn_cons]
 have S8:sl (a1.put (some d) (.bool b)) d=.bool b:=gy (by rw[i3.size]; exact Hx)
 have hnot:bR P l.toArray ⟨some e,.unOp .not K6 (.tmp d),ty2,pos2,aft2,none⟩ (a1.put (some d) (.bool b)) w2 (λa w=>Inv c (V2.set n0 (jV c.N (Bs s') (JX b s'))) [] (⟨none,none,e,pB !b⟩::⟨none,none,d,pB b⟩::G2) none_ a w):=by
  refine .of rfl ?_
  have hr:(execOp (a1.put (some d) (.bool b)).eval ⟨some e,.unOp .not K6 (.tmp d),ty2,pos2,aft2,none⟩).run P w2=.ok (.value (.bool !b)) w2:=by
   show(do pure (Next.value (<-Op.unary .not ((a1.put (some d) (.bool b)).eval (.tmp d))))).run P w2=_
   rw[show(a1.put (some d) (.bool b)).eval (.tmp d)=.bool b from S8]
   rfl
  unfold Does
  rw[hr]
  refine⟨_,i4.mK (d:=e) (p:=pB !b) (v:=.bool !b) FI (λx hx=>(Q8 x hx).2) (λx hx=>?_) (aL.always rfl _)⟩
  rcases List.mem_cons.1 hx with rfl|hx
  ·exact ND
  ·exact(fG x hx).2
 refine hnot.DS o2 rfl λa3 w3 SE=>⟨a3,rfl,next b s' a3 w3 SE⟩
variable {R:Ending->World->Prop} {fn:Func} {M:Nat->Nat->Prop}
theorem tU {f:FuncId} {vs:List Value} (hf:P.funcs[f]?=some fn) (hb:fn.body=some C) (hN:fn.ntmps=N) (hlen:decide (vs.length<=N)=true)
  (hM:cQ M w) (OO:∀k,B k->∀o,¬M k o) (hno:iv B w) (hJ:aL M J w) (hG:dO (λk o=>M k o\/B k) w vs G)
  (h:∀a,Inv ⟨N,w,M,B⟩ [jV N B J] [] G none_ a w->C.ww none [] P (bodyPost P fn R) a w):Calls P f vs.toArray w R:=by
 have key:=λhI=>h { tmps:=vs.toArray++Array.replicate (fn.ntmps-vs.toArray.size) undef,defers:=[] } hI 0
 refine calls_of_wp hf hb ((wpIn_wide (n:=0)).1 (wpIn_mono (key ?_) λe a' w' ⟨a0,e0,h0⟩=>by subst e0; exact h0))
 have OQ:=dO.ok (m:=fn.ntmps-vs.toArray.size) hG
 have eo:∀k o,own ⟨N,w,M,B⟩ [jV N B J] none_ (λ_=>B) k o->M k o\/B k:=λk o h=>h.elim .inl λ⟨x,_,_,h,_⟩=>.inr h
 refine⟨λ_=>B,by have:=of_decide_eq_true hlen; simp[hN]; omega,rfl,cA.refl _ _,(λk o h=>⟨⟨(hM k o h).1,λhb=>OO k hb o h⟩,(hM k o h).2⟩),(λx hx _=>?_),(λx y g hx hy _ _ hne=>?_),(λp hp=>by cases hp),λe he _ _=>(OQ.get e he).2.sub λk o _ h=>eo k o h⟩
 ·rcases List.mem_singleton.1 hx with rfl
  exact(aG rfl).2 ⟨λk hk=>⟨.inr hk,hno k hk⟩,(hJ.imp λ_ h=>⟨λ_=>Iff.rfl,h⟩).sub λk o _ hk=>(eo k o hk.1).elim (λh=>h) λhb=>absurd hb hk.2⟩
 ·rcases List.mem_singleton.1 hx with rfl
  rcases List.mem_singleton.1 hy with rfl
  exact absurd rfl hne
theorem LC {w0:World} {B0:Nat->Prop} (hI:Inv ⟨N,w0,M,B0⟩ V [] G none_ a w) (hr:fn.results=#[]) (hJ:V[n0]?=some (jV N B J))
  (hR:cA B0 w0 w->(∀k,B k->B0 k\/w0.heap.size<=k)->iv B w->aL M J w->R (.returned (.tuple #[])) w):bodyPost P fn R .ret a w:=by
 obtain⟨β,hI⟩:=hI
 obtain⟨jB,jJ,jN,jm⟩:=hI.MM hJ
 refine gG hI (results_none hr _ _ _) (hR hI.below (λk hk=>(jm k ((jB k).2 hk)).symm) (λk hk=>jN k ((jB k).2 hk)) (jJ.sub λk o _ hk=>⟨.inl hk,λhb=>gl hI (jm k hb) hk⟩))
end
end Wx
