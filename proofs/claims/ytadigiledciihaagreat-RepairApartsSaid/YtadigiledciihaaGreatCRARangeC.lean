import Derived.Test.YtadigiledciihaaGreatJRA26
namespace Wx
open Go Go.RowKit
structure St (τ:Type) where
 B:Nat->Prop
 β:Nat->Nat->Prop
 t:τ
 cd:Code
def Dl (N y0 y1:Nat) (S:List Nat):Bool:=S.all λs=>decide (s<N)&&(s != y0&&s != y1)
def uC (N:Nat) (S:List Nat) (V:List Vr):Bool:=bE V&&V.all λx=>S.contains x.slot&&decide (x.id<N)
def EP (S:List Nat) (G:List bg):Bool:=cG G&&G.all λe=>S.contains e.slot
def N8 {τ:Type} (c1:dM) (V':τ->List Vr) (VX:Code->τ->List Vr) (G:List bg) (Ry:Vr):Exit->Act->World->Prop
 |.normal,a,w=>∃t,Inv c1 (V' t++[Ry]) [] G none_ a w
 |.ret,a,w=>∃t,Inv c1 (VX .ret t++[Ry]) [] G none_ a w
 |.exit id,a,w=>∃t,Inv c1 (VX (.exit id) t++[Ry]) [] G none_ a w
 |_,_,_=>False
variable {α:Type} {l:List α} {x:α}
theorem kq {y:α}:(l++[x]).set l.length y=l++[y]:=by simp
theorem eZ:(l++[x])[l.length]?=some x:=by simp
section
variable {P:Program} {Q:Exit->Act->World->Prop} {c:dM} {V:List Vr} {G:List bg} {β:Nat->Nat->Prop} {a a':Act} {w w':World}{N:Nat} {S:List Nat}
theorem iW {V:List Vr} (h:uC N S V=true) (l D:Nat) (r:Loop):bE (V++[dX N l D r])=true/\eT (V++[dX N l D r]) N V.length=true:=by
 unfold uC at h
 simp only[Bool.and_eq_true,List.all_eq_true]at h
 refine⟨?_,?_⟩
 ·have h1:=h.1
  unfold bE at h1 ⊢
  rw[List.all_append,h1]
  rfl
 ·unfold eT
  rw[List.all_eq_true]
  rintro⟨y,n⟩ hy
  have hy:=List.mem_iff_getElem?.1 hy
  obtain⟨m,hm⟩:=hy
  simp only[List.getElem?_zipIdx]at hm
  cases hg:(V++[dX N l D r])[m]? with
  |none=>rw[hg]at hm; cases hm
  |some z=>
   rw[hg]at hm
   simp only[Option.map_some,Option.some.injEq,Prod.mk.injEq]at hm
   obtain⟨rfl,rfl⟩:=hm
   rcases Nat.lt_or_ge m V.length with hlt|hge
   ·rw[List.getElem?_append_left hlt]at hg
    have h2:=(h.2 z (List.mem_of_getElem? hg)).2
    simp at h2
    simp; omega
   ·rw[List.getElem?_append_right hge]at hg
    have:m<V.length+1:=by
     rcases Nat.lt_or_ge m (V.length+1)with h3|h3
     ·exact h3
     ·rw[List.getElem?_eq_none (by simp; omega)]at hg; cases hg
    simp; omega
theorem aW.LN {r:Loop} (h:aW c V [] G none_ β a w) (hV:uC N S V=true) (hG:cG G=true):
  ∃β',aW c (V++[dX N (w.heap.size+1) w.heap.size r]) [] G none_ β' a ((w.alloc (.deferred (some []))).alloc (.loop r)):=by
 have hv:=hV
 unfold uC at hV
 simp only[Bool.and_eq_true,List.all_eq_true]at hV
 have hid:∀y,y∈V->y.id≠N:=λy hy e=>by have:=(hV.2 y hy).2; simp at this; omega
 let β1:=jF β N λ_=>False
 have e1:∀y,y∈V->β1 y.id=β y.id:=λy hy=>rG (hid y hy)
 have eN:∀k,¬β1 N k:=λk h=>by rw[show β1 N=λ_=>False from mW]at h; exact h
 have hmem:∀y,y∈V++[dF N N λB _ _=>∀k,¬B k]->y∈V\/y=dF N N λB _ _=>∀k,¬B k:=λy hy=>by simpa using hy
 have hown:∀k o,own c (V++[dF N N λB _ _=>∀k,¬B k]) none_ β1 k o->own c V none_ β k o:=by
  rintro k o (h1|⟨y,hy,h1,h2,h3⟩)
  ·exact .inl h1
  ·rcases hmem y hy with hy|rfl
   ·rw[e1 y hy]at h2
    exact .inr ⟨y,hy,h1,h2,h3⟩
   ·exact absurd h2 (eN k)
 have h1:aW c (V++[dF N N λB _ _=>∀k,¬B k]) [] G none_ β1 a w:=by
  refine⟨h.size,h.defers,h.below,h.old,λy hy hl=>?_,λy y' g hy hy' hl hl' hne=>?_,(λp hp=>by cases hp),λe he ho hf=>(h.jb e he ho hf).sub λk o _ hk=>hown k o hk⟩
  ·rcases hmem y hy with hy|rfl
   ·exact(h.var y hy hl).keep rfl (e1 y hy) (λ_ _=>rfl) (Nat.le_refl _) (λ_ hF=>hF.sub λk o _ hk=>hown k o hk) (λ_ hF=>hF.sub λk o _ hk=>⟨hown k o hk.1,hk.2⟩) rfl
   ·exact(aQ rfl).2 ⟨λk hk=>absurd hk (eN k),λ_ _=>eN⟩
  ·rcases hmem y hy with hy|rfl<;>rcases hmem y' hy' with hy'|rfl
   ·rw[e1 y hy,e1 y' hy']
    exact h.apart y y' g hy hy' hl hl' hne
   ·exactλ_=>eN g
   ·exactλh2=>absurd h2 (eN g)
   ·exact absurd rfl hne
 obtain⟨hp,hu⟩:=iW hv (w.heap.size+1) w.heap.size r
 have hp1:bE (V++[dF N N λB _ _=>∀k,¬B k])=true:=by
  have h2:=hV.1
  unfold bE at h2 ⊢
  rw[List.all_append,h2]
  rfl
 have S2:∀(y:Vr) (n:Nat),(V++[dF N N λB _ _=>∀k,¬B k])[n]?=some y->y.id=N->n=V.length:=by
  intro y n hn hy
  rcases Nat.lt_or_ge n V.length with hlt|hge
  ·rw[List.getElem?_append_left hlt]at hn
   exact absurd hy (hid y (List.mem_of_getElem? hn))
  ·have:=(List.getElem?_eq_some_iff.1 hn).1
   simp at this
   omega
 have hb:Below w.heap.size w ((w.alloc (.deferred (some []))).alloc (.loop r)):=((Below.refl _ w).alloc (Nat.le_refl _) _).alloc (by simp) _
 have hsz:((w.alloc (.deferred (some []))).alloc (.loop r)).heap.size=w.heap.size+2:=by simp
 have hl:((w.alloc (.deferred (some []))).alloc (.loop r)).heap[w.heap.size+1]?=some (.loop r):=by
  have:=World.alloc_heap_new (w.alloc (.deferred (some []))) (.loop r); rwa [World.size_alloc]at this
 have hd:((w.alloc (.deferred (some []))).alloc (.loop r)).heap[w.heap.size]?=some (.deferred (some [])):=
  (Below.heap_alloc _ _ _ (by simp)).trans (World.alloc_heap_new w _)
 refine⟨_,by
  have:=h1.move (n0:=V.length) (B':=λk=>k=w.heap.size+1\/k=w.heap.size) (R':=Hr (w.heap.size+1) w.heap.size r) hp1 hG eZ S2 (cS.cA hb) (λk hk=>.inr (by omega)) (λk hk=>?_) ?_
  ·rw[kq]at this
   exact this
  ·rcases hk with rfl|rfl
   ·exact⟨by omega,λo v hv=>absurd hv (fB hl rfl v)⟩
   ·exact⟨by omega,λo v hv=>absurd hv (fB hd rfl v)⟩
  ·intro w'' he
   have hn:∀k o,w.heap.size<=k->¬minus (own c (V++[dF N N λB _ _=>∀k,¬B k]) none_ β1) (β1 N) k o:=λk o hk ho=>by
    rcases hown k o ho.1 with h5|⟨y,hy,h5,h6,_⟩
    ·have h7:=(h.old k o h5).1.1
     have h8:=h.below.size
     omega
    ·have:=(h.var y hy h5).blk h6
     omega
   exact⟨λ_=>Iff.rfl,(he.block _ (by omega) λo=>hn _ o (by omega)).trans hl,(he.block _ (by omega) λo=>hn _ o (by omega)).trans hd,by omega⟩⟩
theorem vv {A:List Al} {L:Nat->Bool} {B:Nat->Prop} (h:aW c V A G L β a w) (hle:cS B w w') (hm:∀k,B k->mine c k):cS c.iv c.w0 w'/\∀k o,c.M0 k o->(k<c.w0.heap.size/\¬c.iv k)/\∀v,w'.cell? ⟨k,o,none⟩=some v->iH v:=by
 refine⟨⟨hle.os.trans h.below.os,hle.tape.trans h.below.tape,hle.output.trans h.below.output,Nat.le_trans h.below.size hle.size,λk hk hn=>(hle.block k (Nat.lt_of_lt_of_le hk h.below.size) λhb=>(hm k hb).elim (λh3=>by omega) hn).trans (h.below.block k hk hn)⟩,λk o h0=>⟨(h.old k o h0).1,λv hv=>(h.old k o h0).2 v ?_⟩⟩
 rw[World.cell?_of_block (w:=w) (a:=⟨k,o,none⟩) (hle.block k (Nat.lt_of_lt_of_le (h.old k o h0).1.1 h.below.size) λhb=>gM h (hm k hb) h0)]at hv
 exact hv
theorem aS.eqv {M M':Nat->Nat->Prop} {F:World->Prop} (h:aS M F w) (hm:∀k o,M' k o->M k o):aS M' F w:=h.sub λk o _ hk=>hm k o hk
abbrev coll (D:Nat):Deferred:={ target:=.collected D,args:=#[] }
theorem ue {τ:Type} {s y0 y1 n:Nat} {p q:Nat->Pred} {cap:Array Value->World->Prop} {assign body:Code} (Vk:Nat->τ->List Vr) (VX:Code->τ->List Vr) (G0:List bg) (S:List Nat) (t0:τ)
  (hI:Inv c (Vk 0 t0) [] G0 none_ a w) (hs:gZ s G0=some (zM P n p q cap)) (DX:∀k t,uC c.N S (Vk k t)=true) (Mv:∀cd t,uC c.N S (VX cd t)=true) (yT:EP S G0=true) (Ms:Dl c.N y0 y1 S=true) (hy:decide (y0<c.N)&&(decide (y1<c.N)&&y0 != y1)=true)
  (round:∀k t w0 M1 B1 a1 w1 D l r,k<n->r.state=.ready->Inv ⟨c.N,w0,M1,B1⟩ (Vk k t++[dX c.N l D r]) [] (⟨none,none,y1,q k⟩::⟨none,none,y0,p k⟩::(G0++S.map (yK a))) none_ a1 w1 ->
   assign.ww (some l) [] P (Exit.then (Cc l P body (N8 ⟨c.N,w0,M1,B1⟩ (Vk (k+1)) VX (G0++S.map (yK a)) (dX c.N l D { r with state:=.busy }))) λ_ _ _=>False) a1 w1)
  (done:∀t w D l r,Inv c (Vk n t++[dX c.N l D r]) [] G0 none_ a w->Q .normal (lD [coll D] a) w)
  (stop:∀cd t w D l r,Inv c (VX cd t++[dX c.N l D r]) [] G0 none_ a w->cd.ww none [] P Q (lD [coll D] a) w):
  (Code.rangeFunc (.tmp s) #[y0,y1] assign body).ww none [] P Q a w:=by
 intro n0
 obtain⟨β0,h0⟩:=hI
 have JC:cG G0=true:=by unfold EP at yT; simp only[Bool.and_eq_true]at yT; exact yT.1
 have OS:∀e,e∈G0->e.slot∈S:=by
  unfold EP at yT
  simp only[Bool.and_eq_true,List.all_eq_true,List.contains_iff_mem]at yT
  exact yT.2
 have O2:∀{V:List Vr},uC c.N S V=true->(∀x,x∈V->x.slot∈S):=λhV=>by
  unfold uC at hV
  simp only[Bool.and_eq_true,List.all_eq_true,List.contains_iff_mem]at hV
  exactλx hx=>(hV.2 x hx).1
 have Mt:∀s,s∈S->s<c.N/\s≠y0/\s≠y1:=by
  unfold Dl at Ms
  simp only[Bool.and_eq_true,List.all_eq_true,decide_eq_true_eq,bne_iff_ne]at Ms
  exact Ms
 simp only[Bool.and_eq_true,decide_eq_true_eq,bne_iff_ne]at hy
 obtain⟨hy0,oF,Te⟩:=hy
 obtain⟨k0,wR⟩:=eL hs
 have MQ:zM P n p q cap w (sl a s):=(h0.jb _ (List.mem_of_getElem? wR) rfl rfl).out
 obtain⟨g,lb,hv,hce,hseq,_⟩:=MQ
 refine wpIn_rangeFunc λfn hfn=>?_
 obtain⟨rec,kL⟩:∃rec:LoopState->Option Code->Loop,rec=λst pe=>{ state:=st,pending:=pe,fn,tmps:=a.tmps,params:=#[y0,y1],assign,body,defers:=w.heap.size }:=⟨_,rfl⟩
 obtain⟨β1,h1⟩:=h0.LN (r:=rec .ready none) (DX 0 t0) JC
 obtain⟨W1,hW1⟩:∃W1,(w.alloc (.deferred (some []))).alloc (.loop (rec .ready none))=W1:=⟨_,rfl⟩
 rw[hW1]at h1
 obtain⟨l,hl⟩:∃l,l=w.heap.size+1:=⟨_,rfl⟩
 obtain⟨D,hD⟩:∃D,D=w.heap.size:=⟨_,rfl⟩
 rw[<-hl,<-hD]at h1
 have hp1:=(iW (DX 0 t0) l D (rec .ready none)).1
 refine⟨l,[coll D],W1,{ target:=.fn (.func g) lb,args:=#[.func (.yield l) #[] #[]] },W1,g,#[.func (.yield l) #[] #[]]++lb,W1,?_,?_,λ_ _=>trivial,?_,λh=>(by cases h),?_⟩
 ·rw[<-hW1,kL,hl,hD]; exact run_enterLoop_outer _ _ _ _ _
 ·have hg:(lD [] a).eval (.tmp s)=.func (.func g) #[] lb:=hv
  simp only[resolve,hg]
  simp[go_sem]
 ·simp[invoke,go_sem,hce _ _]
 let J:Nat->St τ->World->Prop:=λk s w=>s.B=fK (Vk k s.t++[dX c.N l D (rec .ready none)]) s.β/\Told a (Vk k s.t++[dX c.N l D (rec .ready none)]) G0 s.β w
 let X:St τ->World->Prop:=λs w=>s.B=fK (VX s.cd s.t++[dX c.N l D (rec .done (some s.cd))]) s.β/\Told a (VX s.cd s.t++[dX c.N l D (rec .done (some s.cd))]) G0 s.β w
 let s0:St τ:=⟨fK (Vk 0 t0++[dX c.N l D (rec .ready none)]) β1,β1,t0,.skip⟩
 have hm0:∀k,s0.B k->mine c k:=λk hk=>(h1.fJ hp1 hk).1
 refine pT (Calls.mono (hseq (St τ) l c.M0 St.B J X s0 W1 (λk o hk=>⟨Nat.lt_of_lt_of_le (h1.old k o hk).1.1 h1.below.size,(h1.old k o hk).2⟩) (λk hk o=>gM h1 (hm0 k hk)) (λk hk=>(h1.fJ hp1 hk).2) ((h1.told hp1 JC).imp λ_ h=>⟨rfl,h⟩) ?_ ?_) ?_)
 ·intro w' he
  have hb:aS (λk o=>c.M0 k o\/s0.B k) (λw=>zM P n p q cap w (sl a s)) W1:=(h1.jb _ (List.mem_of_getElem? wR) rfl rfl).sub λk o _ hk=>hk.elim .inl λ⟨x,hx,dZ⟩=>.inr ⟨x,hx,(bF hp1 hx).1,dZ,by rw[(bF hp1 hx).2.1]; exact Nat.zero_le _⟩
  obtain⟨g',lb',e',_,_,hc'⟩:=hb w' he
  have e2:Value.func (.func g) #[] lb=Value.func (.func g') #[] lb':=hv.symm.trans e'
  injection e2 with _ _ e3
  rw[e3]; exact hc'
 ·-- one round
  intro k st M' w' v0 v1 hk hM MC hno hJ hp hq m
  obtain⟨hB,VT⟩:=hJ.out
  have hT:aS M' (Told a (Vk k st.t++[dX c.N l D (rec .ready none)]) G0 st.β) w':=hJ.imp λ_ h=>h.2
  have hpk:=iW (DX k st.t) l D (rec .ready none)
  have i1:aW ⟨c.N,w',M',st.B⟩ (Vk k st.t++[dX c.N l D (rec .ready none)]) [] G0 none_ st.β a w':=Told.inv (c:=⟨c.N,w',M',st.B⟩) hT hpk.1 h0.size h0.defers (λk hk=>.inr (by show st.B k; rw[hB]; exact hk)) (cS.refl _ _) λk o hk=>⟨⟨(hM k o hk).1,λhb=>MC k hb o hk⟩,(hM k o hk).2⟩
  have hown:∀k' o,own ⟨c.N,w',M',st.B⟩ (Vk k st.t++[dX c.N l D (rec .ready none)]) none_ st.β k' o->M' k' o\/st.B k':=λk' o h=>h.elim .inl λ⟨x,hx,_,hb,_⟩=>.inr (by rw[hB]; exact⟨x,hx,hb⟩)
  have nV:∀y,y<c.N->(y=y0\/y=y1)->∀x,x∈Vk k st.t++[dX c.N l D (rec .ready none)]->x.slot≠y:=λy WT hy x hx e=>by
   rcases List.mem_append.1 hx with hx|hx
   ·have:=Mt _ (O2 (DX k st.t) x hx)
    rcases hy with rfl|rfl<;>simp_all
   ·rw[List.mem_singleton]at hx
    subst hx
    have e:c.N=y:=e
    omega
  have nG:∀y,(y=y0\/y=y1)->∀e,e∈G0++S.map (yK a)->e.slot≠y:=λy hy e he=>by
   rcases List.mem_append.1 he with he|he
   ·have:=Mt _ (OS e he)
    rcases hy with rfl|rfl<;>simp_all
   ·obtain⟨s',hs',rfl⟩:=List.mem_map.1 he
    have:=Mt _ hs'
    show s'≠y
    rcases hy with rfl|rfl<;>simp_all
  have i2:=(i1.Lv S).nU (d:=y0) (p:=p k) (v:=v0) hy0 (nV y0 hy0 (.inl rfl)) (nG y0 (.inl rfl)) (hp.eqv hown)
  have i3:=i2.nU (d:=y1) (p:=q k) (v:=v1) oF (nV y1 oF (.inr rfl)) (λe he=>by
   rcases List.mem_cons.1 he with rfl|he
   ·exact Te
   ·exact nG y1 (.inr rfl) e he) (hq.eqv hown)
  have hrd:=(i1.BO (n0:=(Vk k st.t).length) eZ).2.1
  have Lc:=run_yield (P:=P) (args:=#[v0,v1]) hrd (by rw[kL]; rfl)
  rw[kL]at Lc
  refine⟨fn,_,assign,body,Lc,roundIn_of_wpIn (F:=Au none) trivial ?_⟩
  have hr:=round k st.t w' M' st.B _ w' D l (rec .ready none) hk (by rw[kL]) ⟨_,i3⟩ m
  have ea:lD [] ((a.put (some y0) v0).put (some y1) v1)={ tmps:=(#[y0,y1].zip #[v0,v1]).foldl (λt (x:Nat×Value)=>t.setIfInBounds x.1 x.2) a.tmps,defers:=[] }:=by
   have:=h0.defers
   cases a
   simp only at this
   subst this
   simp[lD,Act.put]
  rw[ea]at hr
  refine wpIn_mono hr ?_
  rintro e a2 w2 ⟨a3,rfl,h2⟩
  cases e with
  |normal=>
   obtain⟨w3,hb3,hbody⟩:=h2
   refine⟨w3,hb3,wpIn_mono (hbody m) ?_⟩
   have fin:∀(V':List Vr) (jump:Option Code) (a4:Act) (w4:World),uC c.N S V'=true->Inv ⟨c.N,w',M',st.B⟩ (V'++[dX c.N l D { rec .ready none with state:=.busy }]) [] (G0++S.map (yK a)) none_ a4 w4 ->
     ∃β' w5,(Instr.endRound l jump).run P w4=.ok (.bool jump.isNone) w5/\cS st.B w' w5/\(∀k,fK (V'++[dX c.N l D (rec (if jump.isNone then .ready else .done) jump)]) β' k->st.B k\/w'.heap.size<=k) /\
      iG (fK (V'++[dX c.N l D (rec (if jump.isNone then .ready else .done) jump)]) β') w5/\aS M' (Told a (V'++[dX c.N l D (rec (if jump.isNone then .ready else .done) jump)]) G0 β') w5:=by
    intro V' jump a4 w4 Jt uv
    have PC:=iW Jt l D { rec .ready none with state:=.busy }
    obtain⟨β',w5,k1,k2,k3,k4,k5⟩:=end_ jump uv eZ PC.1 JC PC.2 (λx hx=>by
     rcases List.mem_append.1 hx with hx|hx
     ·exact .inl (O2 Jt x hx)
     ·rw[List.mem_singleton]at hx
      subst hx
      obtain⟨β4,uv⟩:=uv
      have s4:a4.tmps.size=c.N:=uv.size
      have s5:a.tmps.size=c.N:=h0.size
      right
      show sl a4 c.N=sl a c.N
      unfold sl
      simp[Array.getD,s4,s5]) OS
    rw[kq]at k3 k4 k5
    rw[kL]at *
    exact⟨β',w5,k1,k2,λk hk=>(k3 k hk).elim .inr .inl,k4,k5⟩
   rintro e a5 w4 ⟨a4,rfl,h4⟩
   cases e with
   |normal=>
    obtain⟨t',uv⟩:=h4
    obtain⟨β',w5,k1,k2,k3,k4,k5⟩:=fin _ none a4 w4 (DX (k+1) t') uv
    exact⟨_,w5,k1,true,rfl,⟨_,β',t',.skip⟩,k2,k3,k4,k5.imp λ_ h=>⟨rfl,h⟩⟩
   |ret=>
    obtain⟨t',uv⟩:=h4
    obtain⟨β',w5,k1,k2,k3,k4,k5⟩:=fin _ (some .ret) a4 w4 (Mv .ret t') uv
    exact⟨_,w5,k1,false,rfl,⟨_,β',t',.ret⟩,k2,k3,k4,k5.imp λ_ h=>⟨rfl,h⟩⟩
   |exit id=>
    obtain⟨t',uv⟩:=h4
    obtain⟨β',w5,k1,k2,k3,k4,k5⟩:=fin _ (some (.exit id)) a4 w4 (Mv (.exit id) t') uv
    exact⟨_,w5,k1,false,rfl,⟨_,β',t',.exit id⟩,k2,k3,k4,k5.imp λ_ h=>⟨rfl,h⟩⟩
   |goto t=>exact h4.elim
   |panic ch=>exact h4.elim
   |outgrown=>exact h4.elim
  |exit id=>exact h2.elim
  |goto t=>exact h2.elim
  |ret=>exact h2.elim
  |panic ch=>exact h2.elim
  |outgrown=>exact h2.elim
 ·-- behind the iterator
  rintro e w3 ⟨v,s',rfl,hle,hnew,hno,RR⟩
  obtain⟨hb,ho⟩:=vv h1 hle hm0
  have hm:∀k,s'.B k->mine c k:=λk hk=>(hnew k hk).elim (hm0 k) λh=>.inl (Nat.le_trans h1.below.size h)
  have back:∀(V':List Vr) (r:Loop),uC c.N S V'=true->s'.B=fK (V'++[dX c.N l D r]) s'.β->aS c.M0 (Told a (V'++[dX c.N l D r]) G0 s'.β) w3->r.state≠.busy ->
    ∃w4,(Instr.endLoop l).run P w3=.ok r.pending w4/\Inv c (V'++[dX c.N l D { r with state:=.exhausted }]) [] G0 none_ a w4:=by
   intro V' r Jt hB hT hr
   have hp:=iW Jt l D r
   have i3:aW c (V'++[dX c.N l D r]) [] G0 none_ s'.β a w3:=Told.inv hT hp.1 h0.size h0.defers (λk hk=>hm k (by rw[hB]; exact hk)) hb ho
   obtain⟨β4,i4⟩:=i3.record { r with state:=.exhausted } hp.1 JC eZ hp.2
   rw[kq]at i4
   exact⟨_,run_endLoop (i3.BO (n0:=V'.length) eZ).2.1 hr,β4,i4⟩
  rcases RR with hJ|hX
  ·obtain⟨w4,k1,k2⟩:=back _ _ (DX n s'.t) hJ.out.1 (hJ.imp λ_ h=>h.2) (by rw[kL]; simp)
   refine⟨_,w4,k1,?_⟩
   rw[kL]
   exact⟨_,rfl,done _ _ _ _ _ k2⟩
  ·obtain⟨w4,k1,k2⟩:=back _ _ (Mv s'.cd s'.t) hX.out.1 (hX.imp λ_ h=>h.2) (by rw[kL]; simp)
   refine⟨_,w4,k1,?_⟩
   rw[kL]
   exact stop _ _ _ _ _ _ k2 n0
end
end Wx
