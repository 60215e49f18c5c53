import Derived.Test.YtadigiledciihaaGreatJRB30
namespace Wx
open Go Go.RowKit
structure St (τ:Type) where
 B:Nat->Prop
 β:Nat->Nat->Prop
 t:τ
 cd:Code
def KX (N y0 y1:Nat) (S:List Nat):Bool:=S.all λs=>decide (s<N)&&(s != y0&&s != y1)
def uq (N:Nat) (S:List Nat) (V:List Vr):Bool:=cq V&&V.all λx=>S.contains x.slot&&decide (x.id<N)
def MY (S:List Nat) (G:List aX):Bool:=dn G&&G.all λe=>S.contains e.slot
def QJ {τ:Type} (c1:dg) (V':τ->List Vr) (VX:Code->τ->List Vr) (G:List aX) (QY:Vr):Exit->Act->World->Prop
 |.normal,a,w=>∃t,Inv c1 (V' t++[QY]) [] G none_ a w
 |.ret,a,w=>∃t,Inv c1 (VX .ret t++[QY]) [] G none_ a w
 |.exit id,a,w=>∃t,Inv c1 (VX (.exit id) t++[QY]) [] G none_ a w
 |_,_,_=>False
variable {α:Type} {l:List α} {x:α}
theorem tI {y:α}:(l++[x]).set l.length y=l++[y]:=by simp
theorem lB:(l++[x])[l.length]?=some x:=by simp
section
variable {P:Program} {Q:Exit->Act->World->Prop} {c:dg} {V:List Vr} {G:List aX} {β:Nat->Nat->Prop} {a a':Act} {w w':World}{N:Nat} {S:List Nat}
theorem iE {V:List Vr} (h:uq N S V=true) (l D:Nat) (r:Loop):cq (V++[dL N l D r])=true/\gv (V++[dL N l D r]) N V.length=true:=by
 unfold uq at h
 simp only[Bool.and_eq_true,List.all_eq_true]at h
 refine⟨?_,?_⟩
 ·have h1:=h.1
  unfold cq at h1 ⊢
  rw[List.all_append,h1]
  rfl
 ·unfold gv
  rw[List.all_eq_true]
  rintro⟨y,n⟩ hy
  have hy:=List.mem_iff_getElem?.1 hy
  obtain⟨m,hm⟩:=hy
  simp only[List.getElem?_zipIdx]at hm
  cases hg:(V++[dL N l D r])[m]? with
  |none=>rw[hg]at hm; cases hm
  |some z=>
   rw[hg]at hm
   simp only[Option.map_some,Option.some.injEq,Prod.mk.injEq]at hm
   obtain⟨rfl,rfl⟩:=hm
   rcases Nat.lt_or_ge m V.length with hlt|hge
   ·rw[List.getElem?_append_left hlt]at hg
    have h2:=(h.2 z (List.mem_of_getElem? hg)).2
    simp at h2
    simp; omega
   ·rw[List.getElem?_append_right hge]at hg
    have:m<V.length+1:=by
     rcases Nat.lt_or_ge m (V.length+1)with h3|h3
     ·exact h3
     ·rw[List.getElem?_eq_none (by simp; omega)]at hg; cases hg
    simp; omega
theorem aY.Lh {r:Loop} (h:aY c V [] G none_ β a w) (hV:uq N S V=true) (hG:dn G=true):
  ∃β',aY c (V++[dL N (w.heap.size+1) w.heap.size r]) [] G none_ β' a ((w.alloc (.deferred (some []))).alloc (.loop r)):=by
 have hv:=hV
 unfold uq at hV
 simp only[Bool.and_eq_true,List.all_eq_true]at hV
 have hid:∀y,y∈V->y.id≠N:=λy hy e=>by have:=(hV.2 y hy).2; simp at this; omega
 let β1:=jE β N λ_=>False
 have e1:∀y,y∈V->β1 y.id=β y.id:=λy hy=>xo (hid y hy)
 have eN:∀k,¬β1 N k:=λk h=>by rw[show β1 N=λ_=>False from pP]at h; exact h
 have hmem:∀y,y∈V++[dY N N λB _ _=>∀k,¬B k]->y∈V\/y=dY N N λB _ _=>∀k,¬B k:=λy hy=>by simpa using hy
 have hown:∀k o,own c (V++[dY N N λB _ _=>∀k,¬B k]) none_ β1 k o->own c V none_ β k o:=by
  rintro k o (h1|⟨y,hy,h1,h2,h3⟩)
  ·exact .inl h1
  ·rcases hmem y hy with hy|rfl
   ·rw[e1 y hy]at h2
    exact .inr ⟨y,hy,h1,h2,h3⟩
   ·exact absurd h2 (eN k)
 have h1:aY c (V++[dY N N λB _ _=>∀k,¬B k]) [] G none_ β1 a w:=by
  refine⟨h.size,h.defers,h.below,h.old,λy hy hl=>?_,λy y' g hy hy' hl hl' hne=>?_,(λp hp=>by cases hp),λe he ho hf=>(h.jl e he ho hf).sub λk o _ hk=>hown k o hk⟩
  ·rcases hmem y hy with hy|rfl
   ·exact(h.var y hy hl).keep rfl (e1 y hy) (λ_ _=>rfl) (Nat.le_refl _) (λ_ hF=>hF.sub λk o _ hk=>hown k o hk) (λ_ hF=>hF.sub λk o _ hk=>⟨hown k o hk.1,hk.2⟩) rfl
   ·exact(aJ rfl).2 ⟨λk hk=>absurd hk (eN k),λ_ _=>eN⟩
  ·rcases hmem y hy with hy|rfl<;>rcases hmem y' hy' with hy'|rfl
   ·rw[e1 y hy,e1 y' hy']
    exact h.apart y y' g hy hy' hl hl' hne
   ·exactλ_=>eN g
   ·exactλh2=>absurd h2 (eN g)
   ·exact absurd rfl hne
 obtain⟨hp,hu⟩:=iE hv (w.heap.size+1) w.heap.size r
 have hp1:cq (V++[dY N N λB _ _=>∀k,¬B k])=true:=by
  have h2:=hV.1
  unfold cq at h2 ⊢
  rw[List.all_append,h2]
  rfl
 have Sv:∀(y:Vr) (n:Nat),(V++[dY N N λB _ _=>∀k,¬B k])[n]?=some y->y.id=N->n=V.length:=by
  intro y n hn hy
  rcases Nat.lt_or_ge n V.length with hlt|hge
  ·rw[List.getElem?_append_left hlt]at hn
   exact absurd hy (hid y (List.mem_of_getElem? hn))
  ·have:=(List.getElem?_eq_some_iff.1 hn).1
   simp at this
   omega
 have hb:Below w.heap.size w ((w.alloc (.deferred (some []))).alloc (.loop r)):=((Below.refl _ w).alloc (Nat.le_refl _) _).alloc (by simp) _
 have hsz:((w.alloc (.deferred (some []))).alloc (.loop r)).heap.size=w.heap.size+2:=by simp
 have hl:((w.alloc (.deferred (some []))).alloc (.loop r)).heap[w.heap.size+1]?=some (.loop r):=by
  have:=World.alloc_heap_new (w.alloc (.deferred (some []))) (.loop r); rwa [World.size_alloc]at this
 have hd:((w.alloc (.deferred (some []))).alloc (.loop r)).heap[w.heap.size]?=some (.deferred (some [])):=
  (Below.heap_alloc _ _ _ (by simp)).trans (World.alloc_heap_new w _)
 refine⟨_,by
  have:=h1.move (n0:=V.length) (B':=λk=>k=w.heap.size+1\/k=w.heap.size) (R':=MN (w.heap.size+1) w.heap.size r) hp1 hG lB Sv (de.bT hb) (λk hk=>.inr (by omega)) (λk hk=>?_) ?_
  ·rw[tI]at this
   exact this
  ·rcases hk with rfl|rfl
   ·exact⟨by omega,λo v hv=>absurd hv (gT hl rfl v)⟩
   ·exact⟨by omega,λo v hv=>absurd hv (gT hd rfl v)⟩
  ·intro w'' he
   have hn:∀k o,w.heap.size<=k->¬minus (own c (V++[dY N N λB _ _=>∀k,¬B k]) none_ β1) (β1 N) k o:=λk o hk ho=>by
    rcases hown k o ho.1 with h5|⟨y,hy,h5,h6,_⟩
    ·have h7:=(h.old k o h5).1.1
     have h8:=h.below.size
     omega
    ·have:=(h.var y hy h5).blk h6
     omega
   exact⟨λ_=>Iff.rfl,(he.block _ (by omega) λo=>hn _ o (by omega)).trans hl,(he.block _ (by omega) λo=>hn _ o (by omega)).trans hd,by omega⟩⟩
theorem DC {A:List Al} {L:Nat->Bool} {B:Nat->Prop} (h:aY c V A G L β a w) (hle:de B w w') (hm:∀k,B k->mine c k):de c.gM c.w0 w'/\∀k o,c.M0 k o->(k<c.w0.heap.size/\¬c.gM k)/\∀v,w'.cell? ⟨k,o,none⟩=some v->gR v:=by
 refine⟨⟨hle.os.trans h.below.os,hle.tape.trans h.below.tape,hle.output.trans h.below.output,Nat.le_trans h.below.size hle.size,λk hk hn=>(hle.block k (Nat.lt_of_lt_of_le hk h.below.size) λhb=>(hm k hb).elim (λh3=>by omega) hn).trans (h.below.block k hk hn)⟩,λk o h0=>⟨(h.old k o h0).1,λv hv=>(h.old k o h0).2 v ?_⟩⟩
 rw[World.cell?_of_block (w:=w) (a:=⟨k,o,none⟩) (hle.block k (Nat.lt_of_lt_of_le (h.old k o h0).1.1 h.below.size) λhb=>iw h (hm k hb) h0)]at hv
 exact hv
theorem aQ.eqv {M M':Nat->Nat->Prop} {F:World->Prop} (h:aQ M F w) (hm:∀k o,M' k o->M k o):aQ M' F w:=h.sub λk o _ hk=>hm k o hk
abbrev coll (D:Nat):Deferred:={ target:=.collected D,args:=#[] }
theorem zR {τ:Type} {s y0 y1 n:Nat} {p q:Nat->Pred} {cap:Array Value->World->Prop} {assign body:Code} (Vk:Nat->τ->List Vr) (VX:Code->τ->List Vr) (G0:List aX) (S:List Nat) (t0:τ)
  (hI:Inv c (Vk 0 t0) [] G0 none_ a w) (hs:gL s G0=some (GA P n p q cap)) (Np:∀k t,uq c.N S (Vk k t)=true) (Rq:∀cd t,uq c.N S (VX cd t)=true) (Ke:MY S G0=true) (Rl:KX c.N y0 y1 S=true) (hy:decide (y0<c.N)&&(decide (y1<c.N)&&y0 != y1)=true)
  (round:∀k t w0 M1 B1 a1 w1 D l r,k<n->r.state=.ready->Inv ⟨c.N,w0,M1,B1⟩ (Vk k t++[dL c.N l D r]) [] (⟨none,none,y1,q k⟩::⟨none,none,y0,p k⟩::(G0++S.map (Iu a))) none_ a1 w1 ->
   assign.ww (some l) [] P (Exit.then (JU l P body (QJ ⟨c.N,w0,M1,B1⟩ (Vk (k+1)) VX (G0++S.map (Iu a)) (dL c.N l D { r with state:=.busy }))) λ_ _ _=>False) a1 w1)
  (done:∀t w D l r,Inv c (Vk n t++[dL c.N l D r]) [] G0 none_ a w->Q .normal (mj [coll D] a) w)
  (stop:∀cd t w D l r,Inv c (VX cd t++[dL c.N l D r]) [] G0 none_ a w->cd.ww none [] P Q (mj [coll D] a) w):
  (Code.rangeFunc (.tmp s) #[y0,y1] assign body).ww none [] P Q a w:=by
 intro n0
 obtain⟨β0,h0⟩:=hI
 have Qc:dn G0=true:=by unfold MY at Ke; simp only[Bool.and_eq_true]at Ke; exact Ke.1
 have TF:∀e,e∈G0->e.slot∈S:=by
  unfold MY at Ke
  simp only[Bool.and_eq_true,List.all_eq_true,List.contains_iff_mem]at Ke
  exact Ke.2
 have TQ:∀{V:List Vr},uq c.N S V=true->(∀x,x∈V->x.slot∈S):=λhV=>by
  unfold uq at hV
  simp only[Bool.and_eq_true,List.all_eq_true,List.contains_iff_mem]at hV
  exactλx hx=>(hV.2 x hx).1
 have Rm:∀s,s∈S->s<c.N/\s≠y0/\s≠y1:=by
  unfold KX at Rl
  simp only[Bool.and_eq_true,List.all_eq_true,decide_eq_true_eq,bne_iff_ne]at Rl
  exact Rl
 simp only[Bool.and_eq_true,decide_eq_true_eq,bne_iff_ne]at hy
 obtain⟨hy0,oQ,Wv⟩:=hy
 obtain⟨k0,uT⟩:=eG hs
 have OU:GA P n p q cap w (sl a s):=(h0.jl _ (List.mem_of_getElem? uT) rfl rfl).out
 obtain⟨g,lb,hv,hce,hseq,_⟩:=OU
 refine wpIn_rangeFunc λfn hfn=>?_
 obtain⟨rec,wL⟩:∃rec:LoopState->Option Code->Loop,rec=λst pe=>{ state:=st,pending:=pe,fn,tmps:=a.tmps,params:=#[y0,y1],assign,body,defers:=w.heap.size }:=⟨_,rfl⟩
 obtain⟨β1,h1⟩:=h0.Lh (r:=rec .ready none) (Np 0 t0) Qc
 obtain⟨W1,hW1⟩:∃W1,(w.alloc (.deferred (some []))).alloc (.loop (rec .ready none))=W1:=⟨_,rfl⟩
 rw[hW1]at h1
 obtain⟨l,hl⟩:∃l,l=w.heap.size+1:=⟨_,rfl⟩
 obtain⟨D,hD⟩:∃D,D=w.heap.size:=⟨_,rfl⟩
 rw[<-hl,<-hD]at h1
 have hp1:=(iE (Np 0 t0) l D (rec .ready none)).1
 refine⟨l,[coll D],W1,{ target:=.fn (.func g) lb,args:=#[.func (.yield l) #[] #[]] },W1,g,#[.func (.yield l) #[] #[]]++lb,W1,?_,?_,λ_ _=>trivial,?_,λh=>(by cases h),?_⟩
 ·rw[<-hW1,wL,hl,hD]; exact run_enterLoop_outer _ _ _ _ _
 ·have hg:(mj [] a).eval (.tmp s)=.func (.func g) #[] lb:=hv
  simp only[resolve,hg]
  simp[go_sem]
 ·simp[invoke,go_sem,hce _ _]
 let J:Nat->St τ->World->Prop:=λk s w=>s.B=jb (Vk k s.t++[dL c.N l D (rec .ready none)]) s.β/\Told a (Vk k s.t++[dL c.N l D (rec .ready none)]) G0 s.β w
 let X:St τ->World->Prop:=λs w=>s.B=jb (VX s.cd s.t++[dL c.N l D (rec .done (some s.cd))]) s.β/\Told a (VX s.cd s.t++[dL c.N l D (rec .done (some s.cd))]) G0 s.β w
 let s0:St τ:=⟨jb (Vk 0 t0++[dL c.N l D (rec .ready none)]) β1,β1,t0,.skip⟩
 have hm0:∀k,s0.B k->mine c k:=λk hk=>(h1.ja hp1 hk).1
 refine uC (Calls.mono (hseq (St τ) l c.M0 St.B J X s0 W1 (λk o hk=>⟨Nat.lt_of_lt_of_le (h1.old k o hk).1.1 h1.below.size,(h1.old k o hk).2⟩) (λk hk o=>iw h1 (hm0 k hk)) (λk hk=>(h1.ja hp1 hk).2) ((h1.told hp1 Qc).imp λ_ h=>⟨rfl,h⟩) ?_ ?_) ?_)
 ·intro w' he
  have hb:aQ (λk o=>c.M0 k o\/s0.B k) (λw=>GA P n p q cap w (sl a s)) W1:=(h1.jl _ (List.mem_of_getElem? uT) rfl rfl).sub λk o _ hk=>hk.elim .inl λ⟨x,hx,dm⟩=>.inr ⟨x,hx,(bM hp1 hx).1,dm,by rw[(bM hp1 hx).2.1]; exact Nat.zero_le _⟩
  obtain⟨g',lb',e',_,_,hc'⟩:=hb w' he
  have e2:Value.func (.func g) #[] lb=Value.func (.func g') #[] lb':=hv.symm.trans e'
  injection e2 with _ _ e3
  rw[e3]; exact hc'
 ·-- one round
  intro k st M' w' v0 v1 hk hM RR hno hJ hp hq m
  obtain⟨hB,hT0⟩:=hJ.out
  have hT:aQ M' (Told a (Vk k st.t++[dL c.N l D (rec .ready none)]) G0 st.β) w':=hJ.imp λ_ h=>h.2
  have hpk:=iE (Np k st.t) l D (rec .ready none)
  have i1:aY ⟨c.N,w',M',st.B⟩ (Vk k st.t++[dL c.N l D (rec .ready none)]) [] G0 none_ st.β a w':=Told.inv (c:=⟨c.N,w',M',st.B⟩) hT hpk.1 h0.size h0.defers (λk hk=>.inr (by show st.B k; rw[hB]; exact hk)) (de.refl _ _) λk o hk=>⟨⟨(hM k o hk).1,λhb=>RR k hb o hk⟩,(hM k o hk).2⟩
  have hown:∀k' o,own ⟨c.N,w',M',st.B⟩ (Vk k st.t++[dL c.N l D (rec .ready none)]) none_ st.β k' o->M' k' o\/st.B k':=λk' o h=>h.elim .inl λ⟨x,hx,_,hb,_⟩=>.inr (by rw[hB]; exact⟨x,hx,hb⟩)
  have nV:∀y,y<c.N->(y=y0\/y=y1)->∀x,x∈Vk k st.t++[dL c.N l D (rec .ready none)]->x.slot≠y:=λy hyN hy x hx e=>by
   rcases List.mem_append.1 hx with hx|hx
   ·have:=Rm _ (TQ (Np k st.t) x hx)
    rcases hy with rfl|rfl<;>simp_all
   ·rw[List.mem_singleton]at hx
    subst hx
    have e:c.N=y:=e
    omega
  have nG:∀y,(y=y0\/y=y1)->∀e,e∈G0++S.map (Iu a)->e.slot≠y:=λy hy e he=>by
   rcases List.mem_append.1 he with he|he
   ·have:=Rm _ (TF e he)
    rcases hy with rfl|rfl<;>simp_all
   ·obtain⟨s',hs',rfl⟩:=List.mem_map.1 he
    have:=Rm _ hs'
    show s'≠y
    rcases hy with rfl|rfl<;>simp_all
  have i2:=(i1.PC S).pL (d:=y0) (p:=p k) (v:=v0) hy0 (nV y0 hy0 (.inl rfl)) (nG y0 (.inl rfl)) (hp.eqv hown)
  have i3:=i2.pL (d:=y1) (p:=q k) (v:=v1) oQ (nV y1 oQ (.inr rfl)) (λe he=>by
   rcases List.mem_cons.1 he with rfl|he
   ·exact Wv
   ·exact nG y1 (.inr rfl) e he) (hq.eqv hown)
  have hrd:=(i1.Ea (n0:=(Vk k st.t).length) lB).2.1
  have O8:=run_yield (P:=P) (args:=#[v0,v1]) hrd (by rw[wL]; rfl)
  rw[wL]at O8
  refine⟨fn,_,assign,body,O8,roundIn_of_wpIn (F:=Ar none) trivial ?_⟩
  have hr:=round k st.t w' M' st.B _ w' D l (rec .ready none) hk (by rw[wL]) ⟨_,i3⟩ m
  have ea:mj [] ((a.put (some y0) v0).put (some y1) v1)={ tmps:=(#[y0,y1].zip #[v0,v1]).foldl (λt (x:Nat×Value)=>t.setIfInBounds x.1 x.2) a.tmps,defers:=[] }:=by
   have:=h0.defers
   cases a
   simp only at this
   subst this
   simp[mj,Act.put]
  rw[ea]at hr
  refine wpIn_mono hr ?_
  rintro e a2 w2 ⟨a3,rfl,h2⟩
  cases e with
  |normal=>
   obtain⟨w3,hb3,hbody⟩:=h2
   refine⟨w3,hb3,wpIn_mono (hbody m) ?_⟩
   have fin:∀(V':List Vr) (jump:Option Code) (a4:Act) (w4:World),uq c.N S V'=true->Inv ⟨c.N,w',M',st.B⟩ (V'++[dL c.N l D { rec .ready none with state:=.busy }]) [] (G0++S.map (Iu a)) none_ a4 w4 ->
     ∃β' w5,(Instr.endRound l jump).run P w4=.ok (.bool jump.isNone) w5/\de st.B w' w5/\(∀k,jb (V'++[dL c.N l D (rec (if jump.isNone then .ready else .done) jump)]) β' k->st.B k\/w'.heap.size<=k) /\
      jo (jb (V'++[dL c.N l D (rec (if jump.isNone then .ready else .done) jump)]) β') w5/\aQ M' (Told a (V'++[dL c.N l D (rec (if jump.isNone then .ready else .done) jump)]) G0 β') w5:=by
    intro V' jump a4 w4 P6 Hz
    have T7:=iE P6 l D { rec .ready none with state:=.busy }
    obtain⟨β',w5,k1,k2,k3,k4,k5⟩:=end_ jump Hz lB T7.1 Qc T7.2 (λx hx=>by
     rcases List.mem_append.1 hx with hx|hx
     ·exact .inl (TQ P6 x hx)
     ·rw[List.mem_singleton]at hx
      subst hx
      obtain⟨β4,Hz⟩:=Hz
      have s4:a4.tmps.size=c.N:=Hz.size
      have s5:a.tmps.size=c.N:=h0.size
      right
      show sl a4 c.N=sl a c.N
      unfold sl
      simp[Array.getD,s4,s5]) TF
    rw[tI]at k3 k4 k5
    rw[wL]at *
    exact⟨β',w5,k1,k2,λk hk=>(k3 k hk).elim .inr .inl,k4,k5⟩
   rintro e a5 w4 ⟨a4,rfl,h4⟩
   cases e with
   |normal=>
    obtain⟨t',Hz⟩:=h4
    obtain⟨β',w5,k1,k2,k3,k4,k5⟩:=fin _ none a4 w4 (Np (k+1) t') Hz
    exact⟨_,w5,k1,true,rfl,⟨_,β',t',.skip⟩,k2,k3,k4,k5.imp λ_ h=>⟨rfl,h⟩⟩
   |ret=>
    obtain⟨t',Hz⟩:=h4
    obtain⟨β',w5,k1,k2,k3,k4,k5⟩:=fin _ (some .ret) a4 w4 (Rq .ret t') Hz
    exact⟨_,w5,k1,false,rfl,⟨_,β',t',.ret⟩,k2,k3,k4,k5.imp λ_ h=>⟨rfl,h⟩⟩
   |exit id=>
    obtain⟨t',Hz⟩:=h4
    obtain⟨β',w5,k1,k2,k3,k4,k5⟩:=fin _ (some (.exit id)) a4 w4 (Rq (.exit id) t') Hz
    exact⟨_,w5,k1,false,rfl,⟨_,β',t',.exit id⟩,k2,k3,k4,k5.imp λ_ h=>⟨rfl,h⟩⟩
   |goto t=>exact h4.elim
   |panic ch=>exact h4.elim
   |outgrown=>exact h4.elim
  |exit id=>exact h2.elim
  |goto t=>exact h2.elim
  |ret=>exact h2.elim
  |panic ch=>exact h2.elim
  |outgrown=>exact h2.elim
 ·-- behind the iterator
  rintro e w3 ⟨v,s',rfl,hle,hnew,hno,Vj⟩
  obtain⟨hb,ho⟩:=DC h1 hle hm0
  have hm:∀k,s'.B k->mine c k:=λk hk=>(hnew k hk).elim (hm0 k) λh=>.inl (Nat.le_trans h1.below.size h)
  have back:∀(V':List Vr) (r:Loop),uq c.N S V'=true->s'.B=jb (V'++[dL c.N l D r]) s'.β->aQ c.M0 (Told a (V'++[dL c.N l D r]) G0 s'.β) w3->r.state≠.busy ->
    ∃w4,(Instr.endLoop l).run P w3=.ok r.pending w4/\Inv c (V'++[dL c.N l D { r with state:=.exhausted }]) [] G0 none_ a w4:=by
   intro V' r P6 hB hT hr
   have hp:=iE P6 l D r
   have i3:aY c (V'++[dL c.N l D r]) [] G0 none_ s'.β a w3:=Told.inv hT hp.1 h0.size h0.defers (λk hk=>hm k (by rw[hB]; exact hk)) hb ho
   obtain⟨β4,i4⟩:=i3.record { r with state:=.exhausted } hp.1 Qc lB hp.2
   rw[tI]at i4
   exact⟨_,run_endLoop (i3.Ea (n0:=V'.length) lB).2.1 hr,β4,i4⟩
  rcases Vj with hJ|hX
  ·obtain⟨w4,k1,k2⟩:=back _ _ (Np n s'.t) hJ.out.1 (hJ.imp λ_ h=>h.2) (by rw[wL]; simp)
   refine⟨_,w4,k1,?_⟩
   rw[wL]
   exact⟨_,rfl,done _ _ _ _ _ k2⟩
  ·obtain⟨w4,k1,k2⟩:=back _ _ (Rq s'.cd s'.t) hX.out.1 (hX.imp λ_ h=>h.2) (by rw[wL]; simp)
   refine⟨_,w4,k1,?_⟩
   rw[wL]
   exact stop _ _ _ _ _ _ k2 n0
end
end Wx
