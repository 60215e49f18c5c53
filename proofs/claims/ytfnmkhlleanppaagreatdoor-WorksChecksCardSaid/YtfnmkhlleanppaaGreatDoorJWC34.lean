import Derived.Lib.ItoaNum
import Derived.Test.YtfnmkhlleanppaaGreatDoorJWC33
namespace Wx
set_option maxRecDepth 100000
set_option maxHeartbeats 1000000
open Go Go.RowKit Go.Proofs
set_option linter.unusedVariables false
attribute [local irreducible] OpOk
def Hx (n:Int):ByteArray:=⟨(Lib.decDigits n.toNat).toArray⟩
variable {n:Int}
theorem yq (h:n<100):(Hx n).size<=2:=by
 show(Lib.decDigits n.toNat).toArray.size<=2
 rw[List.size_toArray]
 by_cases h1:n.toNat<10
 ·rw[Lib.decDigits_one h1]; simp
 ·rw[Lib.decDigits_two h1 (by omega)]; simp
theorem yz (h:0<=n/\n<100):K1 Tryz.prog 51 (pI n) (pT (Hx n)):=λM w v0 hM h0=>by
 have e:v0=.int .i64 n:=h0.out
 rw[e,show n=((n.toNat:Nat):Int) by omega]
 refine(Tryz.strconv_Itoa_small n.toNat (by omega) w).mono ?_
 rintro en w' ⟨rfl,rfl⟩
 exact⟨_,rfl,λ_ _=>rfl,Below.refl _ _⟩
section
variable {P:Program} {ops:Array Oper} {ms:List Nat} {c:bQ} {V:List Vr} {A:List Al} {G:List aN} {i d:Nat} {x y:Operand} {ty t u:TypeId} {pos:String} {aft:Array Edge}
theorem Ja {sz:Nat} {ag:Bool} {q:Pred} (h:Has ms G i x (dM sz ag q):=by exact hs) (h2:Has ms G i y (aG (.pointer none)):=by exact hs) (hr:∀b o w,(do eqGuard .eql t x y (.pointer (some ⟨b,o,none⟩)) (.pointer none); Go.binOp .eql t (.pointer (some ⟨b,o,none⟩)) (.pointer none):Sem Value).run P w=.ok (.bool false) w:=by exactλ_ _ _=>by kernel_rfl) (hp:Post G i (pB false):=by exact pt rfl):OpOk P ops ms c V A G i ⟨some d,.binOp .eql t x y u,ty,pos,aft,none⟩:=
 bD rfl rfl rfl (.inl rfl) hp λL β a w hI hd=>by
  obtain⟨b,o,cs,e,_⟩:=(h.spec hI hd).out
  have e2:a.eval y=.pointer none:=(h2.spec hI hd).out
  refine⟨.bool false,w,?_,Below.refl _ _,λ_ _=>rfl⟩
  show(do pure (Next.value (<-(do eqGuard .eql t x y (a.eval x) (a.eval y); Go.binOp .eql t (a.eval x) (a.eval y))))).run P w=_
  rw[e,e2,Sem.run_bind,hr]
  rfl
end
variable {l:HL} {x:ig}
theorem yE {s:ByteArray} (hi:jg (λk=>[x].getD k gz) 1 s=0):K2 Tryz.prog 128 (Fi l [x]) (pT s) (aG (.pointer (some ⟨l.bb,0,none⟩))):=by
 intro M w0 v0 v1 hM hv0 da
 refine fT (N:=13) Tryz.func128 rfl rfl rfl hM hv0 da λa hI=>?_
 refine au hI 1 [Uc 0 4 _] (.kk .z) ⟨mv,trivial⟩ (.aU .z) λa w hI=>?_
 refine au hI 4 [Uc 0 6 _,Uc 1 7 _,Uc 2 8 _,Uc 3 5 _] (.aU .z) ⟨mv,mv,mz (yB (l:=l) (x:=x) (s:=s)) (hφ:=hi),mv,trivial⟩ (.qR (.eC .z)) λa w hI=>?_
 refine au hI 3 [Uc 0 9 _,Uc 1 10 _,Uc 2 11 _] (.kk .z) ⟨mv,vp false,mz (jY (e:=5)),trivial⟩ (.bK (.d .z)) λa w hI=>?_
 refine au hI 2 [Uc 0 12 _,Uc 1 4 _] (.t 1 (.k .z)) ⟨mv,mv,trivial⟩ (.cf .z) λa w hI=>?_
 refine av ?_
 exact bW hI rfl cm
theorem EK {n:Nat} {g:Nat->ByteArray} (hi:jg (λk=>[x].getD k gz) 1 (g 0)=0/\(0<=x.2.1/\x.2.1<100)/\1<=n):K2 Tryz.prog 125 (Fi l [x]) (aI 1 false n λk=>pT (g k)) (dF (pT (Hx x.2.1)) (pI 0)):=by
 intro M w0 v0 v1 hM hv0 da
 refine fT (N:=19) Tryz.func125 rfl rfl rfl hM hv0 da λa hI=>?_
 refine au hI 2 [Uc 0 4 _,Uc 1 5 _] (.kk .z) ⟨mv,mv,trivial⟩ (.af .z) λa w hI=>?_
 refine au hI 6 [Uc 0 7 _,Uc 1 8 _,Uc 2 9 _,Uc 3 10 _,Uc 4 11 _,Uc 5 6 _] (.af .z) ⟨mv,mv,az 0 hs hs rfl (pt rfl) (by omega) (by kernel_rfl) (by kernel_rfl),ax hs (pt rfl) (by kernel_rfl) (aE _),mz (yC (l:=l) (x:=x) (s:=g 0)) (hφ:=hi.1),mv,trivial⟩ (.AO (.bp (.dk .z))) λa w hI=>?_
 refine ah ?_
 refine au hI 2 [Uc 0 12 _,Uc 1 13 _] (.aU .z) ⟨mv,Ja,trivial⟩ (.bj (.k .z)) λa w hI=>?_
 refine mb hI (rfl) ?_
 refine ak ?_
 refine ae ?_
 refine au hI 7 [Uc 0 14 _,Uc 1 15 _,Uc 2 16 _,Uc 3 17 _,Uc 4 18 _,Uc 5 4 _,Uc 6 5 _] (.t 5 (.t 6 (.kk .z))) ⟨mv,F3,fP (fs:=[⟨false,1,pT x.1⟩,⟨false,1,pI x.2.1⟩,⟨false,1,pB x.2.2⟩]) 1 1 false,ax hs (pt rfl) (by kernel_rfl) (fits_int _),nH (yz (n:=x.2.1)) (hφ:=hi.2.1),mv,mv,trivial⟩ (.d8 (.xA .z)) λa w hI=>?_
 refine av ?_
 exact fe hI rfl cm cm
end Wx

namespace Wx
open Go Go.RowKit Go.Proofs
set_option linter.unusedVariables false
attribute [local irreducible] OpOk
section
variable {P:Program} {ops:Array Oper} {ms:List Nat} {c:bQ} {V:List Vr} {A:List Al} {G:List aN} {i d:Nat} {ty:TypeId} {pos:String} {aft:Array Edge}
theorem GN {j:Nat} {b cb:Bool} {op:Op} (q:Pred) (hne:cb≠b) (MC:fZ i G=some (jc (cb=b) q):=by exact rfl) (hq:fZ j G=some (pB cb):=by exact rfl) (hA:¬cb=b->me A i:=by intro hn; first|exact .none rfl|exact I7 rfl hn (by kernel_rfl))
  (hj:(G.all λe=>e.tag != some j||((ms.getD i 0).testBit j&&fN ms i e.till))=true:=by kernel_rfl) (hb:(V.all λx=>(x.born != some i&&x.dead != some i)&&x.st.all λq=>q.1 != i)=true:=by kernel_rfl):OpOk P ops ms c V A G i ⟨some d,op,ty,pos,aft,some (j,b)⟩:=
 gd (λh=>absurd h hne) hq hA (λhn=>Kt hn MC) hj hb
end
abbrev H6:Pred:=aG (.pointer none)
end Wx

namespace Wx
open Go Go.RowKit
set_option linter.unusedVariables false
structure xg (u:Nat) (w w':World):Prop where
 os:w'.os=w.os
 tape:w'.tape=w.tape
 output:w'.output=w.output
 size:w'.heap.size=w.heap.size
 block:∀k,k≠u->w'.heap[k]?=w.heap[k]?
def Gb (P:Program) (g:FuncId) (u:Nat) (T:TypeId) (c0:Value) (n:Nat) (p:Nat->Pred):Prop:=
 ∀(σ:Type) (l:Nat) (M:Nat->Nat->Prop) (Bs:σ->Nat->Prop) (J:Nat->σ->World->Prop) (X:σ->World->Prop) (s0:σ) (w:World),cS M w->(∀o,M u o)->w.heap[u]?=some (.cells #[c0] T (0,0))->(∀k,Bs s0 k->∀o,¬M k o)->ij (Bs s0) w->aJ M (J 0 s0) w->aJ (λk o=>M k o\/Bs s0 k) jd w ->
  (∀k s M' w' v0,k<n->cS M' w'->(∀k,Bs s k->∀o,¬M' k o)->ij (Bs s) w'->aJ M' (J k s) w'->aJ (λk o=>M' k o\/Bs s k) (λw=>p k w v0) w' ->
   oQ P l #[v0] w' λb w''=>∃s',bX (Bs s) w' w''/\(∀k,Bs s' k->Bs s k\/w'.heap.size<=k)/\ij (Bs s') w''/\aJ M' (if b then J (k+1) s' else X s') w'') ->
  Calls P g (#[.func (.yield l) #[] #[]]++#[.pointer (some ⟨u,0,none⟩)]) w λe w'=>∃v s',e=.returned v/\cS M w'/\bX (λk=>Bs s0 k\/k=u) w w'/\(∀k,Bs s' k->Bs s0 k\/w.heap.size<=k)/\ij (Bs s') w'/\(aJ M (J n s') w'\/aJ M (X s') w')
def uO (P:Program) (u:Nat) (T:TypeId) (c0:Value) (n:Nat) (p:Nat->Pred):Pred:=λ_ v=>∃g,v=.func (.func g) #[] #[.pointer (some ⟨u,0,none⟩)]/\aK P g/\Gb P g u T c0 n p
section
variable {P:Program} {Q:Exit->Act->World->Prop} {c:bQ} {V:List Vr} {A:List Al} {G:List aN} {β:Nat->Nat->Prop} {a a':Act} {w w':World}
theorem wS {τ:Type} {s y0 n u:Nat} {T:TypeId} {c0:Value} {p:Nat->Pred} {assign body:Code} (hG:aJ (λk o=>c.M0 k o\/c.dc k) jd c.w0) (kL:∀o,c.M0 u o) (MJ:c.w0.heap[u]?=some (.cells #[c0] T (0,0))) (Vk:Nat->τ->List Vr) (VX:Code->τ->List Vr) (G0:List aN) (S:List Nat) (t0:τ)
  (hI:Inv c (Vk 0 t0) [] G0 none_ a w) (hs:dz s G0=some (uO P u T c0 n p)) (FR:∀k t,nW c.N S (Vk k t)=true) (Jx:∀cd t,nW c.N S (VX cd t)=true) (CO:FA S G0=true) (Ju:Du c.N y0 y0 S=true) (hy:decide (y0<c.N)=true)
  (round:∀k t w0 M1 B1 a1 w1 D l r,k<n->r.state=.ready->Inv ⟨c.N,w0,M1,B1⟩ (Vk k t++[cW c.N l D r]) [] (⟨none,none,y0,p k⟩::(G0++S.map (CH a))) none_ a1 w1 ->
   assign.ww (some l) [] P (Exit.then (Cz l P body (I4 ⟨c.N,w0,M1,B1⟩ (Vk (k+1)) VX (G0++S.map (CH a)) (cW c.N l D { r with state:=.busy }))) λ_ _ _=>False) a1 w1)
  (done:∀t w D l r w0,xg u c.w0 w0->Inv { c with w0:=w0 } (Vk n t++[cW c.N l D r]) [] G0 none_ a w->Q .normal (fo [coll D] a) w)
  (stop:∀cd t w D l r w0,xg u c.w0 w0->Inv { c with w0:=w0 } (VX cd t++[cW c.N l D r]) [] G0 none_ a w->cd.ww none [] P Q (fo [coll D] a) w):
  (Code.rangeFunc (.tmp s) #[y0] assign body).ww none [] P Q a w:=by
 intro n0
 obtain⟨β0,h0⟩:=hI
 have IU:bT G0=true:=by unfold FA at CO; simp only[Bool.and_eq_true]at CO; exact CO.1
 have Jt:∀e,e∈G0->e.slot∈S:=by
  unfold FA at CO
  simp only[Bool.and_eq_true,List.all_eq_true,List.contains_iff_mem]at CO
  exact CO.2
 have K4:∀{V:List Vr},nW c.N S V=true->(∀x,x∈V->x.slot∈S):=λhV=>by
  unfold nW at hV
  simp only[Bool.and_eq_true,List.all_eq_true,List.contains_iff_mem]at hV
  exactλx hx=>(hV.2 x hx).1
 have Jv:∀s,s∈S->s<c.N/\s≠y0/\s≠y0:=by
  unfold Du at Ju
  simp only[Bool.and_eq_true,List.all_eq_true,decide_eq_true_eq,bne_iff_ne]at Ju
  exact Ju
 have hy0:=of_decide_eq_true hy
 obtain⟨k0,ux⟩:=cx hs
 have CX:uO P u T c0 n p w (sl a s):=(h0.ew _ (List.mem_of_getElem? ux) rfl rfl).out
 obtain⟨g,hv,hce,hseq⟩:=CX
 refine wpIn_rangeFunc λfn hfn=>?_
 obtain⟨rec,pK⟩:∃rec:LoopState->Option Code->Loop,rec=λst pe=>{ state:=st,pending:=pe,fn,tmps:=a.tmps,params:=#[y0],assign,body,defers:=w.heap.size }:=⟨_,rfl⟩
 obtain⟨β1,h1⟩:=h0.DF (r:=rec .ready none) (FR 0 t0) IU
 obtain⟨W1,hW1⟩:∃W1,(w.alloc (.deferred (some []))).alloc (.loop (rec .ready none))=W1:=⟨_,rfl⟩
 rw[hW1]at h1
 obtain⟨l,hl⟩:∃l,l=w.heap.size+1:=⟨_,rfl⟩
 obtain⟨D,hD⟩:∃D,D=w.heap.size:=⟨_,rfl⟩
 rw[<-hl,<-hD]at h1
 have yg:=(fO (FR 0 t0) l D (rec .ready none)).1
 refine⟨l,[coll D],W1,{ target:=.fn (.func g) #[.pointer (some ⟨u,0,none⟩)],args:=#[.func (.yield l) #[] #[]] },W1,g,#[.func (.yield l) #[] #[]]++#[.pointer (some ⟨u,0,none⟩)],W1,?_,?_,λ_ _=>trivial,?_,λh=>(by cases h),?_⟩
 ·rw[<-hW1,pK,hl,hD]; exact run_enterLoop_outer _ _ _ _ _
 ·have hg:(fo [] a).eval (.tmp s)=.func (.func g) #[] #[.pointer (some ⟨u,0,none⟩)]:=hv
  simp only[resolve,hg]
  simp[go_sem]
 ·simp[invoke,go_sem,hce _ _]
 let J:Nat->St τ->World->Prop:=λk s w=>s.B=gh (Vk k s.t++[cW c.N l D (rec .ready none)]) s.β/\Told a (Vk k s.t++[cW c.N l D (rec .ready none)]) G0 s.β w
 let X:St τ->World->Prop:=λs w=>s.B=gh (VX s.cd s.t++[cW c.N l D (rec .done (some s.cd))]) s.β/\Told a (VX s.cd s.t++[cW c.N l D (rec .done (some s.cd))]) G0 s.β w
 let s0:St τ:=⟨gh (Vk 0 t0++[cW c.N l D (rec .ready none)]) β1,β1,t0,.skip⟩
 have hm0:∀k,s0.B k->mine c k:=λk hk=>(h1.gg yg hk).1
 have Lh:W1.heap[u]?=some (.cells #[c0] T (0,0)):=(h1.below.block u (h0.old u 0 (kL 0)).1.1 (h0.old u 0 (kL 0)).1.2).trans MJ
 have Lb:cS c.M0 W1:=λk o hk=>⟨Nat.lt_of_lt_of_le (h1.old k o hk).1.1 h1.below.size,(h1.old k o hk).2⟩
 refine kI (Calls.mono (hseq (St τ) l c.M0 St.B J X s0 W1 Lb kL Lh (λk hk o=>eX h1 (hm0 k hk)) (λk hk=>(h1.gg yg hk).2) ((h1.told yg IU).imp λ_ h=>⟨rfl,h⟩) ?_ ?_) ?_)
 ·exact(ki hG h1).sub λk o _ hk=>hk.elim .inl λ⟨x,hx,IV⟩=>.inr ⟨x,hx,(bL yg hx).1,IV,by rw[(bL yg hx).2.1]; exact Nat.zero_le _⟩
 ·-- one round
  intro k st M' w' v0 hk hM JD hno hJ hp m
  obtain⟨hB,hT0⟩:=hJ.out
  have hT:aJ M' (Told a (Vk k st.t++[cW c.N l D (rec .ready none)]) G0 st.β) w':=hJ.imp λ_ h=>h.2
  have hpk:=fO (FR k st.t) l D (rec .ready none)
  have i1:aQ ⟨c.N,w',M',st.B⟩ (Vk k st.t++[cW c.N l D (rec .ready none)]) [] G0 none_ st.β a w':=Told.inv (c:=⟨c.N,w',M',st.B⟩) hT hpk.1 h0.size h0.defers (λk hk=>.inr (by show st.B k; rw[hB]; exact hk)) (bX.refl _ _) λk o hk=>⟨⟨(hM k o hk).1,λhb=>JD k hb o hk⟩,(hM k o hk).2⟩
  have hown:∀k' o,own ⟨c.N,w',M',st.B⟩ (Vk k st.t++[cW c.N l D (rec .ready none)]) none_ st.β k' o->M' k' o\/st.B k':=λk' o h=>h.elim .inl λ⟨x,hx,_,hb,_⟩=>.inr (by rw[hB]; exact⟨x,hx,hb⟩)
  have nV:∀y,y<c.N->(y=y0\/y=y0)->∀x,x∈Vk k st.t++[cW c.N l D (rec .ready none)]->x.slot≠y:=λy hyN hy x hx e=>by
   rcases List.mem_append.1 hx with hx|hx
   ·have:=Jv _ (K4 (FR k st.t) x hx)
    rcases hy with rfl|rfl<;>simp_all
   ·rw[List.mem_singleton]at hx
    subst hx
    have e:c.N=y:=e
    omega
  have nG:∀y,(y=y0\/y=y0)->∀e,e∈G0++S.map (CH a)->e.slot≠y:=λy hy e he=>by
   rcases List.mem_append.1 he with he|he
   ·have:=Jv _ (Jt e he)
    rcases hy with rfl|rfl<;>simp_all
   ·obtain⟨s',hs',rfl⟩:=List.mem_map.1 he
    have:=Jv _ hs'
    show s'≠y
    rcases hy with rfl|rfl<;>simp_all
  have i2:=(i1.Ik S).qo (d:=y0) (p:=p k) (v:=v0) hy0 (nV y0 hy0 (.inl rfl)) (nG y0 (.inl rfl)) (hp.eqv hown)
  have hrd:=(i1.wF (n0:=(Vk k st.t).length) iB).2.1
  have C1:=run_yield (P:=P) (args:=#[v0]) hrd (by rw[pK]; rfl)
  rw[pK]at C1
  refine⟨fn,_,assign,body,C1,roundIn_of_wpIn (F:=rf none) trivial ?_⟩
  have hr:=round k st.t w' M' st.B _ w' D l (rec .ready none) hk (by rw[pK]) ⟨_,i2⟩ m
  have ea:fo [] (a.put (some y0) v0)={ tmps:=(#[y0].zip #[v0]).foldl (λt (x:Nat×Value)=>t.setIfInBounds x.1 x.2) a.tmps,defers:=[] }:=by
   have:=h0.defers
   cases a
   simp only at this
   subst this
   simp[fo,Act.put]
  rw[ea]at hr
  refine wpIn_mono hr ?_
  rintro e a2 w2 ⟨a3,rfl,h2⟩
  cases e with
  |normal=>
   obtain⟨w3,hb3,hbody⟩:=h2
   refine⟨w3,hb3,wpIn_mono (hbody m) ?_⟩
   have fin:∀(V':List Vr) (jump:Option Code) (a4:Act) (w4:World),nW c.N S V'=true->Inv ⟨c.N,w',M',st.B⟩ (V'++[cW c.N l D { rec .ready none with state:=.busy }]) [] (G0++S.map (CH a)) none_ a4 w4 ->
     ∃β' w5,(Instr.endRound l jump).run P w4=.ok (.bool jump.isNone) w5/\bX st.B w' w5/\(∀k,gh (V'++[cW c.N l D (rec (if jump.isNone then .ready else .done) jump)]) β' k->st.B k\/w'.heap.size<=k) /\
      ij (gh (V'++[cW c.N l D (rec (if jump.isNone then .ready else .done) jump)]) β') w5/\aJ M' (Told a (V'++[cW c.N l D (rec (if jump.isNone then .ready else .done) jump)]) G0 β') w5:=by
    intro V' jump a4 w4 IF wW
    have J7:=fO IF l D { rec .ready none with state:=.busy }
    obtain⟨β',w5,k1,k2,k3,k4,k5⟩:=end_ jump wW iB J7.1 IU J7.2 (λx hx=>by
     rcases List.mem_append.1 hx with hx|hx
     ·exact .inl (K4 IF x hx)
     ·rw[List.mem_singleton]at hx
      subst hx
      obtain⟨β4,wW⟩:=wW
      have s4:a4.tmps.size=c.N:=wW.size
      have s5:a.tmps.size=c.N:=h0.size
      right
      show sl a4 c.N=sl a c.N
      unfold sl
      simp[Array.getD,s4,s5]) Jt
    rw[nk]at k3 k4 k5
    rw[pK]at *
    exact⟨β',w5,k1,k2,λk hk=>(k3 k hk).elim .inr .inl,k4,k5⟩
   rintro e a5 w4 ⟨a4,rfl,h4⟩
   cases e with
   |normal=>
    obtain⟨t',wW⟩:=h4
    obtain⟨β',w5,k1,k2,k3,k4,k5⟩:=fin _ none a4 w4 (FR (k+1) t') wW
    exact⟨_,w5,k1,true,rfl,⟨_,β',t',.skip⟩,k2,k3,k4,k5.imp λ_ h=>⟨rfl,h⟩⟩
   |ret=>
    obtain⟨t',wW⟩:=h4
    obtain⟨β',w5,k1,k2,k3,k4,k5⟩:=fin _ (some .ret) a4 w4 (Jx .ret t') wW
    exact⟨_,w5,k1,false,rfl,⟨_,β',t',.ret⟩,k2,k3,k4,k5.imp λ_ h=>⟨rfl,h⟩⟩
   |exit id=>
    obtain⟨t',wW⟩:=h4
    obtain⟨β',w5,k1,k2,k3,k4,k5⟩:=fin _ (some (.exit id)) a4 w4 (Jx (.exit id) t') wW
    exact⟨_,w5,k1,false,rfl,⟨_,β',t',.exit id⟩,k2,k3,k4,k5.imp λ_ h=>⟨rfl,h⟩⟩
   |goto t=>exact h4.elim
   |panic ch=>exact h4.elim
   |outgrown=>exact h4.elim
  |exit id=>exact h2.elim
  |goto t=>exact h2.elim
  |ret=>exact h2.elim
  |panic ch=>exact h2.elim
  |outgrown=>exact h2.elim
 ·-- behind the iterator
  rintro e w3 ⟨v,s',rfl,fg,hle,hnew,hno,Ma⟩
  have ML:u<W1.heap.size:=(Array.getElem?_eq_some_iff.1 Lh).1
  obtain⟨ob,My⟩:∃ob,w3.heap[u]?=some ob:=⟨_,Array.getElem?_eq_getElem (Nat.lt_of_lt_of_le ML hle.size)⟩
  have Ke:u<c.w0.heap.size:=(h0.old u 0 (kL 0)).1.1
  obtain⟨wz,Ll⟩:∃wz,wz=c.w0.putObj u ob:=⟨_,rfl⟩
  have hoff:xg u c.w0 wz:=by
   subst Ll
   exact⟨rfl,rfl,rfl,World.putObj_size ..,λk hk=>World.putObj_heap_other λe=>hk e⟩
  have hb:bX c.dc wz w3:=by
   refine⟨?_,?_,?_,?_,λk hk hn=>?_⟩
   ·rw[hoff.os]; exact hle.os.trans h1.below.os
   ·rw[hoff.tape]; exact hle.tape.trans h1.below.tape
   ·rw[hoff.output]; exact hle.output.trans h1.below.output
   ·rw[hoff.size]; exact Nat.le_trans h1.below.size hle.size
   ·rw[hoff.size]at hk
    by_cases JS:k=u
    ·rw[JS,My,Ll,World.putObj_heap_same Ke]
    ·rw[hoff.block k JS,<-h1.below.block k hk hn]
     exact hle.block k (Nat.lt_of_lt_of_le hk h1.below.size) λhx=>hx.elim (λhx=>(hm0 k hx).elim (λh3=>by omega) hn) JS
  have ho:∀k o,c.M0 k o->(k<wz.heap.size/\¬c.dc k)/\∀v,w3.cell? ⟨k,o,none⟩=some v->dB v:=λk o hk=>⟨⟨by rw[hoff.size]; exact(h0.old k o hk).1.1,(h0.old k o hk).1.2⟩,(fg k o hk).2⟩
  have hm:∀k,s'.B k->mine { c with w0:=wz } k:=λk hk=>(hnew k hk).elim (λh=>(hm0 k h).imp (λh=>by show wz.heap.size<=k; rw[hoff.size]; exact h) λh=>h) λh=>.inl (by show wz.heap.size<=k; rw[hoff.size]; exact Nat.le_trans h1.below.size h)
  have back:∀(V':List Vr) (r:Loop),nW c.N S V'=true->s'.B=gh (V'++[cW c.N l D r]) s'.β->aJ c.M0 (Told a (V'++[cW c.N l D r]) G0 s'.β) w3->r.state≠.busy ->
    ∃w4,(Instr.endLoop l).run P w3=.ok r.pending w4/\Inv { c with w0:=wz } (V'++[cW c.N l D { r with state:=.exhausted }]) [] G0 none_ a w4:=by
   intro V' r IF hB hT hr
   have hp:=fO IF l D r
   have i3:aQ { c with w0:=wz } (V'++[cW c.N l D r]) [] G0 none_ s'.β a w3:=Told.inv (c:={ c with w0:=wz }) hT hp.1 h0.size h0.defers (λk hk=>hm k (by rw[hB]; exact hk)) hb ho
   obtain⟨β4,i4⟩:=i3.record { r with state:=.exhausted } hp.1 IU iB hp.2
   rw[nk]at i4
   exact⟨_,run_endLoop (i3.wF (n0:=V'.length) iB).2.1 hr,β4,i4⟩
  rcases Ma with hJ|hX
  ·obtain⟨w4,k1,k2⟩:=back _ _ (FR n s'.t) hJ.out.1 (hJ.imp λ_ h=>h.2) (by rw[pK]; simp)
   refine⟨_,w4,k1,?_⟩
   rw[pK]
   exact⟨_,rfl,done _ _ _ _ _ _ hoff k2⟩
  ·obtain⟨w4,k1,k2⟩:=back _ _ (Jx s'.cd s'.t) hX.out.1 (hX.imp λ_ h=>h.2) (by rw[pK]; simp)
   refine⟨_,w4,k1,?_⟩
   rw[pK]
   exact stop _ _ _ _ _ _ _ hoff k2 n0
end
end Wx
