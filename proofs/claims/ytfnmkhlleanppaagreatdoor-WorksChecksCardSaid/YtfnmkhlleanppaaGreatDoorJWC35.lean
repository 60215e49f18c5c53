import Derived.Test.YtfnmkhlleanppaaGreatDoorJWC34
namespace Wx
open Go Go.RowKit
set_option linter.unusedVariables false
abbrev Kq (u:Nat):Pred:=aG (.pointer (some ⟨u,0,none⟩))
abbrev qi (M:Nat->Nat->Prop) (u k o:Nat):Prop:=M k o/\k≠u
abbrev sE (B:Nat->Prop) (u k:Nat):Prop:=B k\/k=u
section
variable {ro:Option Nat} {ds:List Deferred} {P:Program} {Q:Exit->Act->World->Prop} {c:bQ} {V:List Vr} {A:List Al} {G:List aN} {β:Nat->Nat->Prop} {a a':Act} {w w':World}{fn:Func} {C:Code} {N u l:Nat} {T:TypeId} {M:Nat->Nat->Prop} {B:Nat->Prop} {J:World->Prop} {R:Ending->World->Prop}
theorem oY {f:FuncId} {c0:Value} (hf:P.funcs[f]?=some fn) (hb:fn.body=some C) (hN:fn.ntmps=N)
  (hM:cS M w) (kL:∀o,M u o) (hu:w.heap[u]?=some (.cells #[c0] T (0,0))) (hn:dB c0) (jx:∀k,B k->∀o,¬M k o) (hno:ij B w) (hJ:aJ M J w)
  (h:∀a,Inv ⟨N,w,qi M u,sE B u⟩ [jV N B J,Vz 1 1 T 1 false (aG c0)] [] [Uz 0 (aG (.func (.yield l) #[] #[])),Uz 1 (Kq u)] none_ a w->C.ww none [] P (bodyPost P fn R) a w) (hlen:decide (2<=N)=true:=by kernel_rfl):Calls P f (#[.func (.yield l) #[] #[]]++#[.pointer (some ⟨u,0,none⟩)]) w R:=by
 have Md:=of_decide_eq_true hlen
 have key:=λhI=>h { tmps:=#[.func (.yield l) #[] #[],.pointer (some ⟨u,0,none⟩)]++Array.replicate (fn.ntmps-2) undef,defers:=[] } hI 0
 refine calls_of_wp hf hb ((wpIn_wide (n:=0)).1 (wpIn_mono (key ?_) λe a' w' ⟨a0,e0,h0⟩=>by subst e0; exact h0))
 have Le:¬B u:=λhb=>jx u hb 0 (kL 0)
 have s1:sl { tmps:=#[.func (.yield l) #[] #[],.pointer (some ⟨u,0,none⟩)]++Array.replicate (fn.ntmps-2) undef,defers:=[] } 1=.pointer (some ⟨u,0,none⟩):=by simp[sl,Array.getD_eq_getD_getElem?,Array.getElem?_append]
 have s0:sl { tmps:=#[.func (.yield l) #[] #[],.pointer (some ⟨u,0,none⟩)]++Array.replicate (fn.ntmps-2) undef,defers:=[] } 0=.func (.yield l) #[] #[]:=by simp[sl,Array.getD]
 let β0:Nat->Nat->Prop:=λid k=>if id=N then B k else k=u
 have bN:∀k,β0 N k↔B k:=λk=>by show(if N=N then _ else _)↔_; rw[if_pos rfl]
 have b1:∀k,β0 1 k↔k=u:=λk=>by show(if 1=N then _ else _)↔_; rw[if_neg (by omega)]
 have eo:∀k o,own ⟨N,w,qi M u,sE B u⟩ [jV N B J,Vz 1 1 T 1 false (aG c0)] none_ β0 k o->M k o\/B k:=by
  rintro k o (h|⟨x,hx,_,h,_⟩)
  ·exact .inl h.1
  ·rcases List.mem_cons.1 hx with rfl|hx
   ·exact .inr ((bN k).1 h)
   ·rw[List.mem_singleton]at hx
    subst hx
    rw[(b1 k).1 h]; exact .inl (kL o)
 refine⟨β0,by simp[hN]; omega,rfl,bX.refl _ _,(λk o h=>⟨⟨(hM k o h.1).1,λhb=>hb.elim (λhb=>jx k hb o h.1) h.2⟩,(hM k o h.1).2⟩),(λx hx _=>?_),(λx y g hx hy _ _ hne=>?_),(λp hp=>by cases hp),λe he _ _=>?_⟩
 ·rcases List.mem_cons.1 hx with rfl|hx
  ·exact(aB rfl).2 ⟨λk hk=>⟨.inr (.inl ((bN k).1 hk)),hno k ((bN k).1 hk)⟩,(hJ.imp λ_ h=>⟨bN,h⟩).sub λk o _ hk=>(eo k o hk.1).elim (λh=>h) λhb=>absurd ((bN k).2 hb) hk.2⟩
  ·rw[List.mem_singleton]at hx
   subst hx
   exact(aY rfl).2 ⟨u,b1,s1,⟨.inr (.inr rfl),[c0],hu,rfl,λv hv=>by rw[List.mem_singleton.1 hv]; exact hn,aJ.always rfl _⟩⟩
 ·rcases List.mem_cons.1 hx with rfl|hx
  ·rcases List.mem_cons.1 hy with rfl|hy
   ·exact absurd rfl hne
   ·rw[List.mem_singleton]at hy
    subst hy
    exactλh1 h2=>Le (by rw[<-(b1 g).1 h2]; exact(bN g).1 h1)
  ·rw[List.mem_singleton]at hx
   subst hx
   rcases List.mem_cons.1 hy with rfl|hy
   ·exactλh1 h2=>Le (by rw[<-(b1 g).1 h1]; exact(bN g).1 h2)
   ·rw[List.mem_singleton]at hy
    subst hy
    exact absurd rfl hne
 ·rcases List.mem_cons.1 he with rfl|he
  ·exact aJ.always s0 _
  ·rw[List.mem_singleton]at he
   subst he
   exact aJ.always s1 _
variable {n0:Nat} {p:Pred}
theorem GJ {n1:Nat} {w0:World} {B0:Nat->Prop} (kL:∀o,M u o) (hI:Inv ⟨N,w0,qi M u,sE B0 u⟩ V [] G none_ a w) (hr:fn.results=#[]) (hJ:V[n0]?=some (jV N B J)) (hv:V[n1]?=some (Vz 1 1 T 1 false p)) (hf:dz 1 G=some (Kq u)) (Mc:decide (N≠1)=true)
  (hR:cS M w->bX (λk=>B0 k\/k=u) w0 w->(∀k,B k->B0 k\/w0.heap.size<=k)->ij B w->aJ M J w->R (.returned (.tuple #[])) w):bodyPost P fn R .ret a w:=by
 obtain⟨β,hI⟩:=hI
 obtain⟨jB,jJ,jN,jm⟩:=hI.Hy hJ
 obtain⟨kf,JQ⟩:=cx hf
 have sL:sl a 1=.pointer (some ⟨u,0,none⟩):=(hI.ew _ (List.mem_of_getElem? JQ) rfl rfl).out
 have hx1:=List.mem_of_getElem? hv
 obtain⟨g,hg,hs,dV⟩:=(aY rfl).1 (hI.var _ hx1 rfl)
 have JM:g=u:=by
  have e:Value.pointer (some ⟨g,0,none⟩)=.pointer (some ⟨u,0,none⟩):=hs.symm.trans sL
  injection e with e; injection e with e; injection e
 have b1:β 1 u:=(hg u).2 JM.symm
 have KZ:¬β N u:=λhb=>hI.apart _ _ u (List.mem_of_getElem? hJ) hx1 rfl rfl (of_decide_eq_true Mc) hb b1
 have sub:∀k o,M k o->own ⟨N,w0,qi M u,sE B0 u⟩ V none_ β k o:=λk o h=>by
  by_cases hk:k=u
  ·rw[hk]; exact .inr ⟨_,hx1,rfl,b1,Nat.zero_le _⟩
  ·exact .inl ⟨h,hk⟩
 have off:∀k o,M k o->¬β N k:=λk o h hb=>by
  by_cases hk:k=u
  ·exact KZ (hk▸hb)
  ·exact eX hI (jm k hb) ⟨h,hk⟩
 refine fU hI (results_none hr _ _ _) (hR (λk o h=>aF hI k o (sub k o h)) hI.below (λk hk=>?_) (λk hk=>jN k ((jB k).2 hk)) (jJ.sub λk o _ hk=>⟨sub k o hk,off k o hk⟩))
 rcases jm k ((jB k).2 hk)with h|h|h
 ·exact .inr h
 ·exact .inl h
 ·exact absurd ((jB k).2 hk) (h▸KZ)
variable {ops:Array Oper} {j m:Nat}
theorem ny {b:Bool} (hs:(ops[j]?).bind (·.dst)=some m) (hm:m<a.tmps.size) (hv:sl a m=.bool b):yielded ops a.tmps j=some b:=by
 unfold yielded
 rw[hs]
 have e:a.tmps[m]?=some (.bool b):=by
  rw[Array.getElem?_eq_getElem hm]
  have:a.tmps.getD m undef=.bool b:=hv
  rw[Array.getD_eq_getD_getElem?,Array.getElem?_eq_getElem hm]at this
  exact congrArg some this
 simp only[Option.bind_some,e]
variable {f d:Nat} {ts:Array TypeId} {ty:TypeId} {pos:String} {aft:Array Edge}
theorem Ae {n i:Nat} {x:Operand} {R:Bool->World->Prop} {K:Act->World->Prop} (hi:ops[i]?=some ⟨some d,.call ⟨.value (.tmp f),#[x],ts⟩,ty,pos,aft,some (j,false)⟩)
  (hy0:yielded ops a.tmps j=some false) (hf:sl a f=.func (.yield l) #[] #[]) (hY:oQ P l #[a.eval x] w R) (hK:∀b w',R b w'->K (fo ds (a.put (some d) (.bool b))) w'):wpOpIn (rf none) n P ops Q i K (fo ds a) w:=by
 obtain⟨fn,tmps,assign,body,hy,hR⟩:=hY (n-1)
 have hr:(execOp a.eval ⟨some d,.call ⟨.value (.tmp f),#[x],ts⟩,ty,pos,aft,some (j,false)⟩).run P w=.ok (.round l fn tmps assign body) w:=by
  have hf':a.eval (.tmp f)=.func (.yield l) #[] #[]:=hf
  simp only[execOp,resolve,hf',Deferred.ofValue,pure_bind,invoke]
  simpa using hy
 have IW:yielded ops (fo ds a).tmps j=some false:=hy0
 unfold wpOpIn
 rw[hi]
 simp only
 rw[if_pos (by simp[Region.wanted,IW])]
 unfold Oper.wpIn
 refine⟨λ_ _=>trivial,?_⟩
 rw[iA,Oper.semAt_eq _ _ _ (λc hc=>by cases hc),hr]
 refine⟨λh=>(by cases h),hR.mono ?_⟩
 rintro e w' ⟨b,rfl,h⟩
 show K ((fo ds a).put (some d) (.bool b)) w'
 rw[lP]
 exact hK b w' h
def CL (V:List Vr) (G:List aN) (d e g m N:Nat):Bool:=V.all (λx=>x.slot != d&&(x.slot != e&&x.slot != g))&&(G.all (λx=>x.slot != d&&(x.slot != e&&x.slot != g))&&(decide (d<N)&&(decide (e<N)&&(decide (g<N)&&(decide (m<N)&&(d != e&&(d != g&&(e != g&&(m != d&&m != e)))))))))
theorem wT {id:Nat} {l:List Oper} {σ:Type} {V1 V2:List Vr} {G1 G2:List aN} {A1:List Al} {nv:List Vr} {ne:List aN} {e g L x:Nat} {φ ψ:Prop} {F6 zU I2:TypeId} {pos2 B4:String} {mm Ay:Array Edge}
  (Bs:σ->Nat->Prop) (JX:Bool->σ->World->Prop) (k:Nat) (h:Inv c V [] G none_ a w) (hV:oa nv V V1) (hG:ic ne G G1) (hs:mh P l.toArray (bM l.length) c V1 A1 G1 0 (l.take k)) (kV:dA V1 V2) (kG:aA G1 G2)
  (hl:l.drop k=[⟨some d,.call ⟨.value (.tmp f),#[.tmp x],ts⟩,ty,pos,aft,some (j,false)⟩,⟨some e,.unOp .not F6 (.tmp d),zU,pos2,mm,some (j,false)⟩,⟨some g,.pick (.tmp m) (.const (.bool true)) (.tmp e),I2,B4,Ay,none⟩])
  (hj:(l.toArray[j]?).bind (·.dst)=some m) (hm:dz m G2=some (pB false)) (hf:dz f G2=some (jc φ (aG (.func (.yield L) #[] #[])))) (hφ:φ) (hx:dz x G2=some (jc ψ p)) (hψ:ψ) (hJ:V2[n0]?=some (jV c.N B J))
  (hY:∀M' w' v0,cS M' w'->(∀k,B k->∀o,¬M' k o)->ij B w'->aJ M' J w'->aJ (λk o=>M' k o\/B k) (λw=>p w v0) w' ->
   oQ P L #[v0] w' λb w''=>∃s':σ,bX B w' w''/\(∀k,Bs s' k->B k\/w'.heap.size<=k)/\ij (Bs s') w''/\aJ M' (JX b s') w'')
  (next:∀b s' a w,Inv c (V2.set n0 (jV c.N (Bs s') (JX b s'))) [] (⟨none,none,g,pB !b⟩::⟨none,none,e,pB !b⟩::⟨none,none,d,pB b⟩::G2) none_ a w->C.ww none ds P Q a w)
  (hn:gH nv A1 ne=true:=by kernel_rfl) (hk:decide (k<=l.length)=true:=by kernel_rfl) (hb:nY c.N (l.take k) V1 A1 G1=true:=by kernel_rfl) (hd:(l.take k).all cF=true:=by kernel_rfl) (MA:bE V2=true:=by kernel_rfl) (hg2:bT G2=true:=by kernel_rfl) (hu:dG V2 c.N n0=true:=by kernel_rfl) (hfr:CL V2 G2 d e g m c.N=true:=by kernel_rfl):
  (Code.seq (Code.region id l.toArray false) C).ww none ds P Q a w:=by
 have hk':=of_decide_eq_true hk
 refine ah (kZ k hk' hb hd (dS h hV hG hn) hs λa1 w1 L8 n=>?_)
 have FQ:=eY hb kV kG L8
 have hlen:l.length-k=3:=by rw[<-List.length_drop,hl]; rfl
 have o1:l.toArray[k]?=some ⟨some d,.call ⟨.value (.tmp f),#[.tmp x],ts⟩,ty,pos,aft,some (j,false)⟩:=by
  have:(l.drop k)[0]?=l[k+0]?:=List.getElem?_drop
  rw[hl]at this
  simpa using this.symm
 have o2:l.toArray[k+1]?=some ⟨some e,.unOp .not F6 (.tmp d),zU,pos2,mm,some (j,false)⟩:=by
  have:(l.drop k)[1]?=l[k+1]?:=List.getElem?_drop
  rw[hl]at this
  simpa using this.symm
 have o3:l.toArray[k+1+1]?=some ⟨some g,.pick (.tmp m) (.const (.bool true)) (.tmp e),I2,B4,Ay,none⟩:=by
  have:(l.drop k)[2]?=l[k+2]?:=List.getElem?_drop
  rw[hl]at this
  simpa using this.symm
 rw[hlen,show List.range' k 3=[k,k+1,k+1+1]from rfl,wpOpsIn_cons]
 unfold CL at hfr
 simp only[Bool.and_eq_true,List.all_eq_true,decide_eq_true_eq,bne_iff_ne]at hfr
 obtain⟨fV,fG,vI,K8,Mq,Lc,Mj,FW,Mn,Mv,hme⟩:=hfr
 obtain⟨β,i2⟩:=FQ
 obtain⟨jB,jJ,jN,jm⟩:=i2.Hy hJ
 have hx0:=List.mem_of_getElem? hJ
 have ob:∀k o,B k->own c V2 none_ β k o:=λk o hb=>.inr ⟨_,hx0,rfl,(jB k).2 hb,Nat.zero_le _⟩
 have bx:∀F:World->Prop,aJ (own c V2 none_ β) F w1->aJ (λk o=>minus (own c V2 none_ β) (β c.N) k o\/B k) F w1:=λF hF=>hF.sub λk o _ hk=>hk.elim (λh=>h.1) (ob k o)
 obtain⟨kx,Ms⟩:=cx hx
 obtain⟨kf,JQ⟩:=cx hf
 obtain⟨km,hkm⟩:=cx hm
 have sL:sl a1 f=.func (.yield L) #[] #[]:=(i2.ew _ (List.mem_of_getElem? JQ) rfl rfl).out.1 hφ
 have G8:sl a1 m=.bool false:=(i2.ew _ (List.mem_of_getElem? hkm) rfl rfl).out
 refine Ae o1 (ny hj (by rw[i2.size]; exact Lc) G8) sL (hY _ w1 _ (λk o hk=>aF i2 k o hk.1) (λk hb o ho=>ho.2 ((jB k).2 hb)) (λk hb=>jN k ((jB k).2 hb)) jJ (bx _ ((i2.ew _ (List.mem_of_getElem? Ms) rfl rfl).imp λ_ h=>h.1 hψ))) ?_
 rintro b w2 ⟨s',hle,hnew,hno,hJ2⟩
 have JT:bX (β c.N) w1 w2:=⟨hle.os,hle.tape,hle.output,hle.size,λk hk hn=>hle.block k hk λhb=>hn ((jB k).2 hb)⟩
 have i3:=i2.move (B':=Bs s') (R':=λB' w _=>(∀k,B' k↔Bs s' k)/\JX b s' w) MA hg2 hJ (cX hu) JT (λk hk=>(hnew k hk).imp (jB k).2 λh=>h) hno (hJ2.imp λ_ h=>⟨λ_=>Iff.rfl,h⟩)
 have Jq:∀x,x∈V2.set n0 (jV c.N (Bs s') (JX b s'))->x.slot≠d/\x.slot≠e/\x.slot≠g:=λx hx=>by
  rcases List.mem_or_eq_of_mem_set hx with hx|rfl
  ·exact fV x hx
  ·exact fV (jV c.N B J) hx0
 have i4:=i3.qo (d:=d) (p:=pB b) (v:=.bool b) vI (λx hx=>(Jq x hx).1) (λx hx=>(fG x hx).1) (aJ.always rfl _)
 have i5:=i4.qo (d:=e) (p:=pB !b) (v:=.bool !b) K8 (λx hx=>(Jq x hx).2.1) (λx hx=>by
  rcases List.mem_cons.1 hx with rfl|hx
  ·exact Mj
  ·exact(fG x hx).2.1) (aJ.always rfl _)
 have i6:=i5.qo (d:=g) (p:=pB !b) (v:=.bool !b) Mq (λx hx=>(Jq x hx).2.2) (λx hx=>by
  rcases List.mem_cons.1 hx with rfl|hx
  ·exact Mn
  ·rcases List.mem_cons.1 hx with rfl|hx
   ·exact FW
   ·exact(fG x hx).2.2) (aJ.always rfl _)
 rw[wpOpsIn_cons]
 have JE:sl (a1.put (some d) (.bool b)) d=.bool b:=dr (by rw[i3.size]; exact vI)
 have G9:sl (a1.put (some d) (.bool b)) m=.bool false:=(bG λh=>Mv (Option.some.inj h).symm).trans G8
 have MR:yielded l.toArray (a1.put (some d) (.bool b)).tmps j=some false:=ny hj (by rw[i4.size]; exact Lc) G9
 have hnot:aW P l.toArray ⟨some e,.unOp .not F6 (.tmp d),zU,pos2,mm,some (j,false)⟩ (a1.put (some d) (.bool b)) w2 (λa w=>a=(a1.put (some d) (.bool b)).put (some e) (.bool !b)/\w=w2):=by
  unfold aW
  rw[if_pos (by simp[Region.wanted,MR])]
  have hr:(execOp (a1.put (some d) (.bool b)).eval ⟨some e,.unOp .not F6 (.tmp d),zU,pos2,mm,some (j,false)⟩).run P w2=.ok (.value (.bool !b)) w2:=by
   show(do pure (Next.value (<-Op.unary .not ((a1.put (some d) (.bool b)).eval (.tmp d))))).run P w2=_
   rw[show(a1.put (some d) (.bool b)).eval (.tmp d)=.bool b from JE]
   rfl
  unfold Does
  rw[hr]
  exact⟨rfl,rfl⟩
 refine hnot.nT o2 rfl ?_
 rintro a3 w3 ⟨rfl,rfl⟩
 rw[wpOpsIn_cons]
 have J4:sl ((a1.put (some d) (.bool b)).put (some e) (.bool !b)) m=.bool false:=(bG λh=>hme (Option.some.inj h).symm).trans G9
 have Mo:sl ((a1.put (some d) (.bool b)).put (some e) (.bool !b)) e=.bool !b:=dr (by rw[i4.size]; exact K8)
 have Hg:aW P l.toArray ⟨some g,.pick (.tmp m) (.const (.bool true)) (.tmp e),I2,B4,Ay,none⟩ ((a1.put (some d) (.bool b)).put (some e) (.bool !b)) w3 (λa w=>Inv c (V2.set n0 (jV c.N (Bs s') (JX b s'))) [] (⟨none,none,g,pB !b⟩::⟨none,none,e,pB !b⟩::⟨none,none,d,pB b⟩::G2) none_ a w):=by
  refine .of rfl ?_
  have hr:(execOp ((a1.put (some d) (.bool b)).put (some e) (.bool !b)).eval ⟨some g,.pick (.tmp m) (.const (.bool true)) (.tmp e),I2,B4,Ay,none⟩).run P w3=.ok (.value (.bool !b)) w3:=by
   show(do pure (Next.value (if <-asBool (((a1.put (some d) (.bool b)).put (some e) (.bool !b)).eval (.tmp m))then _ else((a1.put (some d) (.bool b)).put (some e) (.bool !b)).eval (.tmp e)))).run P w3=_
   rw[show((a1.put (some d) (.bool b)).put (some e) (.bool !b)).eval (.tmp m)=.bool false from J4,show((a1.put (some d) (.bool b)).put (some e) (.bool !b)).eval (.tmp e)=.bool !b from Mo]
   rfl
  unfold Does
  rw[hr]
  exact⟨_,i6⟩
 refine Hg.nT o3 rfl λa4 w4 wW=>⟨a4,rfl,next b s' a4 w4 wW⟩
end
end Wx

namespace Wx
open Go Go.RowKit
set_option linter.unusedVariables false
abbrev iy (u:Nat) (T:TypeId) (c0:Value) (w:World):Prop:=w.heap[u]?=some (.cells #[c0] T (0,0))
abbrev uV (id u:Nat) (F:World->Prop):Vr:=cr id id λB w _=>(∀k,B k↔k=u)/\F w
abbrev xj (M:Nat->Nat->Prop) (u:Nat) (p:Pred) (w:World):Ending->World->Prop:=λe w'=>∃v,e=.returned v/\aJ M (λw=>p w v) w'/\bX (λk=>k=u) w w'/\cS M w'
section
variable {ro:Option Nat} {ds:List Deferred} {P:Program} {Q:Exit->Act->World->Prop} {c:bQ} {V:List Vr} {A:List Al} {G:List aN} {β:Nat->Nat->Prop} {a a':Act} {w w':World}{fn:Func} {f:FuncId} {C:Code} {M:Nat->Nat->Prop} {R:Ending->World->Prop} {N:Nat}
theorem vw {vs:List Value} {G:List aN} (hf:P.funcs[f]?=some fn) (hb:fn.body=some C) (hN:fn.ntmps=N) (hlen:decide (vs.length<=N)=true) (hM:cS M w) (hG:eR M w vs G)
  (h:∀a,Inv ⟨N,w,M,λ_=>False⟩ [] [] G none_ a w->C.ww none [] P (bodyPost P fn R) a w):Calls P f vs.toArray w R:=
 calls_of_wp hf hb ((wpIn_wide (n:=0)).1 (wpIn_mono (h _ (iS hM (by have:=of_decide_eq_true hlen; simp[hN]; omega) rfl hG.ok) 0) λe a' w' ⟨a0,e0,h0⟩=>by subst e0; exact h0))
variable {u:Nat} {w0:World}
theorem yK {w1:World} {L:Nat->Prop} (h:xg u w0 w1) (hl:bX L w1 w) (hn:∀k,¬L k):bX (λk=>k=u) w0 w:=
 ⟨hl.os.trans h.os,hl.tape.trans h.tape,hl.output.trans h.output,by rw[<-h.size]; exact hl.size,λk hk hne=>(hl.block k (by rw[h.size]; exact hk) (hn k)).trans (h.block k hne)⟩
variable {r1:ResultVar} {p:Pred} {id:Nat}
theorem GG {l D:Nat} {r:Loop} (hoff:xg u w0 c.w0) (hI:Inv c V [] G none_ a w) (n0:Nat) (hr:fn.results=#[r1]) (h:cw P V G r1 p) (hk:V[n0]?=some (cW id l D r):=by exact rfl) (hn:∀k,¬c.dc k:=by exactλ_ h=>h)
  (hV:bE V=true:=by kernel_rfl) (hG:bT G=true:=by kernel_rfl) (hu:dG V id n0=true:=by kernel_rfl):zH P fn (xj c.M0 u p w0) .ret (fo [coll D] a) w:=by
 obtain⟨β,hI⟩:=hI
 obtain⟨h1,β',h2⟩:=hI.taken (P:=P) hV hG hk hu
 obtain⟨v,h3,h4⟩:=(h.set hk).run h2
 refine xI hI.defers h1 (v:=v) ?_ ⟨v,rfl,gQ h4,yK hoff h2.below hn,λk o hk=>aF h2 k o (.inl hk)⟩
 rw[cu,hr]
 simp[h3]
variable {T:TypeId} {c0:Value}
theorem oZ {v0:Value} (hf:P.funcs[f]?=some fn) (hb:fn.body=some C) (hN:fn.ntmps=N)
  (hM:cS M w) (kL:∀o,M u o) (hu:iy u T c0 w)
  (h:∀a,Inv ⟨N,w,qi M u,λk=>k=u⟩ [uV N u (iy u T c0)] [] [Uz 0 (aG v0)] none_ a w->C.ww none [] P (bodyPost P fn R) a w) (hlen:decide (1<=N)=true:=by kernel_rfl):Calls P f #[v0] w R:=by
 have Md:=of_decide_eq_true hlen
 have key:=λhI=>h { tmps:=#[v0]++Array.replicate (fn.ntmps-1) undef,defers:=[] } hI 0
 refine calls_of_wp hf hb ((wpIn_wide (n:=0)).1 (wpIn_mono (key ?_) λe a' w' ⟨a0,e0,h0⟩=>by subst e0; exact h0))
 have s0:sl { tmps:=#[v0]++Array.replicate (fn.ntmps-1) undef,defers:=[] } 0=v0:=by simp[sl,Array.getD]
 have Lf:=(hM u 0 (kL 0)).1
 refine⟨λ_ k=>k=u,by simp[hN]; omega,rfl,bX.refl _ _,(λk o h=>⟨⟨(hM k o h.1).1,h.2⟩,(hM k o h.1).2⟩),(λx hx _=>?_),(λx y g hx hy _ _ hne=>?_),(λp hp=>by cases hp),λe he _ _=>?_⟩
 ·rw[List.mem_singleton]at hx
  subst hx
  refine(aB rfl).2 ⟨λk hk=>⟨.inr hk,hk▸Lf,λo v hv=>(hM u o (kL o)).2 v (hk▸hv)⟩,λw' he=>⟨λ_=>Iff.rfl,?_⟩⟩
  exact(he.block u Lf λo ho=>ho.2 rfl).trans hu
 ·rw[List.mem_singleton]at hx hy
  subst hx; subst hy
  exact absurd rfl hne
 ·rw[List.mem_singleton]at he
  subst he
  exact aJ.always s0 _
variable {n0:Nat}
theorem GK {F:World->Prop} (kL:∀o,M u o) (hI:Inv ⟨N,w0,qi M u,λk=>k=u⟩ V [] G none_ a w) (hr:fn.results=#[r1]) (h:cw P V G r1 p) (hv:V[n0]?=some (uV N u F)):bodyPost P fn (xj M u p w0) .ret a w:=by
 obtain⟨β,hI⟩:=hI
 have hx:=List.mem_of_getElem? hv
 have b1:β N u:=(((aB rfl).1 (hI.var _ hx rfl)).2.out.1 u).2 rfl
 have sub:∀k o,M k o->own ⟨N,w0,qi M u,λk=>k=u⟩ V none_ β k o:=λk o h=>by
  by_cases hk:k=u
  ·rw[hk]; exact .inr ⟨_,hx,rfl,b1,Nat.zero_le _⟩
  ·exact .inl ⟨h,hk⟩
 obtain⟨v,h3,h4⟩:=h.run hI
 refine fU hI (v:=v) ?_ ⟨v,rfl,h4.sub λk o _ hk=>sub k o hk,hI.below,λk o hk=>aF hI k o (sub k o hk)⟩
 rw[cu,hr]
 simp[h3]
variable {d:Nat} {args:Array Operand} {ts:Array TypeId} {ty:TypeId} {pos:String} {aft:Array Edge} {ops:Array Oper}
theorem nr (kK:aJ (λk o=>c.M0 k o\/c.dc k) jd c.w0) (hf:aK P f) (h:Inv c V [] G none_ a w) (hk:V[n0]?=some (uV id u (iy u T c0)))
  (hc:∀β M,aQ c V [] G none_ β a w->cS M w->(∀o,M u o)->iy u T c0 w->aJ M jd w->Calls P f (args.map a.eval) w (xj M u p w))
  (hd':decide (d<c.N)=true) (AY:(V.all λy=>y.slot != d)=true) (CP:(G.all λe=>e.slot != d)=true) (hid:(id != d)=true) (hV:bE V=true) (hG:bT G=true) (hu:dG V id n0=true):
  aW P ops ⟨some d,.call ⟨.value (.func f),args,ts⟩,ty,pos,aft,none⟩ a w (λa w=>Inv c (V.set n0 (uV id u λ_=>True)) [] (⟨none,none,d,p⟩::G) none_ a w):=by
 obtain⟨β,hI⟩:=h
 have hx:=List.mem_of_getElem? hk
 have hO:=(aB rfl).1 (hI.var _ hx rfl)
 have hb:=hO.2.out
 have b1:∀k,β id k↔k=u:=hb.1
 have oU:∀o,own c V none_ β u o:=λo=>.inr ⟨_,hx,rfl,(b1 u).2 rfl,Nat.zero_le _⟩
 refine .of rfl (gB hf ((hc β (own c V none_ β) hI (aF hI) oU hb.2 (ki kK hI)).mono ?_))
 rintro e w' ⟨v,rfl,hp,hle,fg⟩
 have hle':bX (β id) w w':=⟨hle.os,hle.tape,hle.output,hle.size,λk hk hn=>hle.block k hk λe=>hn ((b1 k).2 e)⟩
 have i2:=hI.move (B':=β id) (R':=λB w _=>(∀k,B k↔k=u)/\True) hV hG hk (cX hu) hle' (λk hk=>.inl hk) (λk hk=>by
  rw[(b1 k).1 hk]; exact⟨(fg u 0 (oU 0)).1,λo v hv=>(fg u o (oU o)).2 v hv⟩) (aJ.always ⟨b1,trivial⟩ _)
 refine⟨_,rfl,_,i2.qo (d:=d) (p:=p) (v:=v) (of_decide_eq_true hd') (λx hx2=>?_) (λe he=>by simpa using List.all_eq_true.1 CP e he) (hp.sub λk o _ hk2=>?_)⟩
 ·rcases List.mem_or_eq_of_mem_set hx2 with hx2|rfl
  ·simpa using List.all_eq_true.1 AY x hx2
  ·simpa using hid
 ·rcases hk2 with hk2|⟨x,hx2,hl,hb2,ho⟩
  ·exact .inl hk2
  ·have dm:∀i k,gW β id (β id) i k->β i k:=λi k h=>by
    by_cases e:i=id
    ·rw[e,gJ]at h; rw[e]; exact h
    ·rw[kr e]at h; exact h
   rcases List.mem_or_eq_of_mem_set hx2 with hx2|rfl
   ·exact .inr ⟨x,hx2,hl,dm _ _ hb2,ho⟩
   ·exact .inr ⟨_,hx,rfl,dm _ _ hb2,ho⟩
theorem wN (hd:Nat->Value) (hn:dB c0) (hf:aK P f) (h:Inv c V [] G none_ a w)
  (hc:∀β,aQ c V [] G none_ β a w->Calls P f (args.map a.eval) w λe w'=>∃u,e=.returned (hd u)/\Below w.heap.size w w'/\w.heap.size<=u/\iy u T c0 w')
  (hd':decide (d<c.N)=true) (hV:(V.all λy=>(y.slot != d&&y.id != d)&&(y.born.isNone&&y.dead.isNone))=true) (hG:(G.all λe=>e.slot != d)=true):
  aW P ops ⟨some d,.call ⟨.value (.func f),args,ts⟩,ty,pos,aft,none⟩ a w (λa w=>∃u,True/\Inv c (uV d u (iy u T c0)::V) [] (⟨none,none,d,aG (hd u)⟩::G) none_ a w):=by
 obtain⟨β,hI⟩:=h
 refine .of rfl (gB hf ((hc β hI).mono ?_))
 rintro e w' ⟨u,rfl,hb,hu,hcell⟩
 have hlt:u<w'.heap.size:=(Array.getElem?_eq_some_iff.1 hcell).1
 refine⟨_,rfl,u,trivial,hI.xm (R:=λB w=>(∀k,B k↔k=u)/\iy u T c0 w) hb hu hlt (λo x hx=>?_) (λM hM w2 he=>⟨λ_=>Iff.rfl,(he.block u hlt λo ho=>ho.2 rfl).trans hcell⟩) (of_decide_eq_true hd') hV hG⟩
 unfold World.cell? at hx
 rw[hcell]at hx
 simp only at hx
 cases o with
 |zero=>simp at hx; rw[<-hx]; exact hn
 |succ o=>simp at hx
end
end Wx

namespace Wx
set_option maxRecDepth 100000
set_option maxHeartbeats 1000000
open Go Go.RowKit Go.Proofs
attribute [local irreducible] OpOk
set_option linter.unusedVariables false
variable {s:ByteArray}
theorem Bq (h:s.size<=1000000):J2 Tryz.prog 66 (pT s) (pT ⟨#[10]⟩) (kj (pT (eU 10 s)) (pT (fA 10 s)) (pB (iz 10 s))):=C3 10 h
theorem Br (h:s.size<=1000000):J2 Tryz.prog 66 (pT s) (pT ⟨#[32]⟩) (kj (pT (eU 32 s)) (pT (fA 32 s)) (pB (iz 32 s))):=C3 32 h
theorem ER (t:ByteArray):∀w v,aG (.string t) w v->pT (ie t 0) w v:=by rw[HI]; exactλ_ _ h=>h
theorem yG {t:ByteArray} (ht:t.size<=1000000) (u:Nat):Gb Tryz.prog 65 u 9 (.string t) (aL t) (λq=>pT (cZ t q)):=by
 intro σ l M Bs J X s0 w0 hM kL hu hB hN hJ GQ hr
 have hG:aJ (λk o=>qi M u k o\/sE (Bs s0) u k) jd w0:=GQ.sub λk o _ hk=>hk.elim (λh=>.inl h.1) λh=>h.elim .inr λh=>.inl (h▸kL o)
 refine oY (N:=21) Tryz.func65 rfl rfl hM kL hu (eH _) hB hN hJ λa hI=>?_
 refine aD ?_
 refine qz [] [Uz 0 _,Uz 1 _] (λ(i:Nat×σ)=>[jV 21 (Bs i.2) (J i.1 i.2),Vz 1 1 9 1 false (pT (ie t i.1))]) (λ(i:Nat×σ)=>[]) (λ(i:Nat×σ)=>i.1<=aL t) (λ(i:Nat×σ)=>aL t-i.1) ((0,s0)) (Nat.zero_le _) hI ⟨vJ,vC (ER t),trivial⟩ ⟨gi,gi,trivial⟩ ?_
 intro i a w hi hI
 have hz:(ie t i.1).size<=1000000:=Nat.le_trans (yO t i.1) ht
 refine aD ?_
 refine bO hI 9 [] [] [Uc 0 7 _,Uc 1 8 _,Uc 2 6 _,Uc 3 9 _,Uc 4 10 _,Uc 5 11 _,Uc 6 3 _,Uc 7 4 _,Uc 8 5 _] (.k (.k .z)) (.kk .z) ⟨ld,wU hG (Bq (s:=ie t i.1)) (hφ:=hz),mv,ext,ext,ext,mv,mv,mv,trivial⟩ (.k (.k .z)) (.bK (.bp (.aU .z))) λa w hI=>?_
 rw[yP]at hI
 cases hF:rM t i.1 with
 |false=>
  have hq:i.1=aL t:=by
   rcases Nat.lt_or_ge i.1 (aL t)with h|h
   ·rw[(jG t).1 _ h]at hF; cases hF
   ·omega
  rw[show iz 10 (ie t i.1)=false from hF]at hI
  refine ah ?_
  refine bO hI 8 [] [] [Uc 0 12 _,Uc 1 13 _,Uc 2 14 _,Uc 3 15 _,Uc 4 16 _,Uc 5 17 _,Uc 6 18 _,Uc 7 19 _] (.k (.k .z)) (.af (.k .z)) ⟨mv,nt,mv,gd λh=>cy h,gd λh=>cy h,GN H6 (cb:=true) (by decide),GN H6 (cb:=true) (by decide),Ia,trivial⟩ (.k (.k .z)) (.bK (.bp (.bp (.k .z)))) λa w hI=>?_
  refine Ir hI (rfl) ?_
  refine av ?_
  refine aj ?_
  refine aS ?_
  refine aj ?_
  refine aS ?_
  exact GJ (n0:=0) (n1:=1) kL hI rfl rfl rfl rfl (by decide) λh0 h1 h2 h3 h4=>⟨_,i.2,rfl,h0,h1,h2,h3,.inl (hq▸h4)⟩
 |true=>
  have hq:i.1<aL t:=by
   rcases Nat.lt_or_ge i.1 (aL t)with h|h
   ·exact h
   ·rw[show i.1=aL t by omega,(jG t).2]at hF; cases hF
  rw[show iz 10 (ie t i.1)=true from hF]at hI
  refine ah ?_
  refine wT (n0:=0) (nv:=[]) (A1:=[]) (ne:=[Uc 0 12 _,Uc 1 13 _,Uc 2 14 _,Uc 3 15 _,Uc 4 16 _]) Bs (λb s'=>if b then J (i.1+1) s' else X s') 5 hI (.k (.k .z)) (.af (.k .z)) ⟨mv,nt,mv,gd λh=>cy h,gd λh=>cy h,trivial⟩ (.k (.k .z)) (.af (.cf (.kk .z))) rfl rfl rfl rfl rfl rfl rfl rfl (λM' w' u0 k1 k2 k3 k4 k5=>hr i.1 i.2 M' w' u0 hq k1 k2 k3 k4 k5) (λb s' a w hI=>?_)
  dsimp only[List.set]at hI
  refine nX hI (λt2=>?_) (λt2=>?_)
  ·
   obtain rfl:b=false:=by simpa using t2
   refine av ?_
   refine aj ?_
   refine aS ?_
   refine aj ?_
   refine aS ?_
   exact GJ (n0:=0) (n1:=1) kL hI rfl rfl rfl rfl (by decide) λh0 h1 h2 h3 h4=>⟨_,s',rfl,h0,h1,h2,h3,.inr h4⟩
  ·
   obtain rfl:b=true:=by simpa using t2
   refine ak ?_
   refine ae ?_
   refine sG hI 2 [] [] [Uc 0 20 _] (.k (.u none [(1,pv _)] .z)) (.af (.af (.kk .z))) ⟨mv,tW,trivial⟩ (.k (.s .o .z)) (.cf (.gE (.Gr .z))) λa w hI=>?_
   refine bk ?_
   refine ae ?_
   exact nQ ((i.1+1,s')) (by(show i.1+1<=aL t); omega) hI ⟨vJ,vC (λ_ _ h=>h),trivial⟩ ⟨gc,gc,trivial⟩ (by(show aL t-(i.1+1)<aL t-i.1); omega)
end Wx
