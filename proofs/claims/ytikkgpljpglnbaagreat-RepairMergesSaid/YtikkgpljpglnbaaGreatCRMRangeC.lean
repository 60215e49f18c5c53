import Derived.Test.YtikkgpljpglnbaaGreatJRM27
namespace Wx
open Go Go.RowKit
structure St (τ:Type) where
 B:Nat->Prop
 β:Nat->Nat->Prop
 t:τ
 cd:Code
def IQ (N y0 y1:Nat) (S:List Nat):Bool:=S.all λs=>decide (s<N)&&(s != y0&&s != y1)
def sD (N:Nat) (S:List Nat) (V:List Vr):Bool:=bE V&&V.all λx=>S.contains x.slot&&decide (x.id<N)
def Kk (S:List Nat) (G:List aQ):Bool:=cw G&&G.all λe=>S.contains e.slot
def Of {τ:Type} (c1:cF) (V':τ->List Vr) (VX:Code->τ->List Vr) (G:List aQ) (Ow:Vr):Exit->Act->World->Prop
 |.normal,a,w=>∃t,Inv c1 (V' t++[Ow]) [] G none_ a w
 |.ret,a,w=>∃t,Inv c1 (VX .ret t++[Ow]) [] G none_ a w
 |.exit id,a,w=>∃t,Inv c1 (VX (.exit id) t++[Ow]) [] G none_ a w
 |_,_,_=>False
variable {α:Type} {l:List α} {x:α}
theorem rP {y:α}:(l++[x]).set l.length y=l++[y]:=by simp
theorem jI:(l++[x])[l.length]?=some x:=by simp
section
variable {P:Program} {Q:Exit->Act->World->Prop} {c:cF} {V:List Vr} {G:List aQ} {β:Nat->Nat->Prop} {a a':Act} {w w':World}{N:Nat} {S:List Nat}
theorem gp {V:List Vr} (h:sD N S V=true) (l D:Nat) (r:Loop):bE (V++[cS N l D r])=true/\eu (V++[cS N l D r]) N V.length=true:=by
 unfold sD at h
 simp only[Bool.and_eq_true,List.all_eq_true]at h
 refine⟨?_,?_⟩
 ·have h1:=h.1
  unfold bE at h1 ⊢
  rw[List.all_append,h1]
  rfl
 ·unfold eu
  rw[List.all_eq_true]
  rintro⟨y,n⟩ hy
  have hy:=List.mem_iff_getElem?.1 hy
  obtain⟨m,hm⟩:=hy
  simp only[List.getElem?_zipIdx]at hm
  cases hg:(V++[cS N l D r])[m]? with
  |none=>rw[hg]at hm; cases hm
  |some z=>
   rw[hg]at hm
   simp only[Option.map_some,Option.some.injEq,Prod.mk.injEq]at hm
   obtain⟨rfl,rfl⟩:=hm
   rcases Nat.lt_or_ge m V.length with hlt|hge
   ·rw[List.getElem?_append_left hlt]at hg
    have h2:=(h.2 z (List.mem_of_getElem? hg)).2
    simp at h2
    simp; omega
   ·rw[List.getElem?_append_right hge]at hg
    have:m<V.length+1:=by
     rcases Nat.lt_or_ge m (V.length+1)with h3|h3
     ·exact h3
     ·rw[List.getElem?_eq_none (by simp; omega)]at hg; cases hg
    simp; omega
theorem aT.I9 {r:Loop} (h:aT c V [] G none_ β a w) (hV:sD N S V=true) (hG:cw G=true):
  ∃β',aT c (V++[cS N (w.heap.size+1) w.heap.size r]) [] G none_ β' a ((w.alloc (.deferred (some []))).alloc (.loop r)):=by
 have hv:=hV
 unfold sD at hV
 simp only[Bool.and_eq_true,List.all_eq_true]at hV
 have hid:∀y,y∈V->y.id≠N:=λy hy e=>by have:=(hV.2 y hy).2; simp at this; omega
 let β1:=gZ β N λ_=>False
 have e1:∀y,y∈V->β1 y.id=β y.id:=λy hy=>uI (hid y hy)
 have eN:∀k,¬β1 N k:=λk h=>by rw[show β1 N=λ_=>False from nM]at h; exact h
 have hmem:∀y,y∈V++[dc N N λB _ _=>∀k,¬B k]->y∈V\/y=dc N N λB _ _=>∀k,¬B k:=λy hy=>by simpa using hy
 have hown:∀k o,own c (V++[dc N N λB _ _=>∀k,¬B k]) none_ β1 k o->own c V none_ β k o:=by
  rintro k o (h1|⟨y,hy,h1,h2,h3⟩)
  ·exact .inl h1
  ·rcases hmem y hy with hy|rfl
   ·rw[e1 y hy]at h2
    exact .inr ⟨y,hy,h1,h2,h3⟩
   ·exact absurd h2 (eN k)
 have h1:aT c (V++[dc N N λB _ _=>∀k,¬B k]) [] G none_ β1 a w:=by
  refine⟨h.size,h.defers,h.below,h.old,λy hy hl=>?_,λy y' g hy hy' hl hl' hne=>?_,(λp hp=>by cases hp),λe he ho hf=>(h.gD e he ho hf).sub λk o _ hk=>hown k o hk⟩
  ·rcases hmem y hy with hy|rfl
   ·exact(h.var y hy hl).keep rfl (e1 y hy) (λ_ _=>rfl) (Nat.le_refl _) (λ_ hF=>hF.sub λk o _ hk=>hown k o hk) (λ_ hF=>hF.sub λk o _ hk=>⟨hown k o hk.1,hk.2⟩) rfl
   ·exact(aG rfl).2 ⟨λk hk=>absurd hk (eN k),λ_ _=>eN⟩
  ·rcases hmem y hy with hy|rfl<;>rcases hmem y' hy' with hy'|rfl
   ·rw[e1 y hy,e1 y' hy']
    exact h.apart y y' g hy hy' hl hl' hne
   ·exactλ_=>eN g
   ·exactλh2=>absurd h2 (eN g)
   ·exact absurd rfl hne
 obtain⟨hp,hu⟩:=gp hv (w.heap.size+1) w.heap.size r
 have hp1:bE (V++[dc N N λB _ _=>∀k,¬B k])=true:=by
  have h2:=hV.1
  unfold bE at h2 ⊢
  rw[List.all_append,h2]
  rfl
 have PS:∀(y:Vr) (n:Nat),(V++[dc N N λB _ _=>∀k,¬B k])[n]?=some y->y.id=N->n=V.length:=by
  intro y n hn hy
  rcases Nat.lt_or_ge n V.length with hlt|hge
  ·rw[List.getElem?_append_left hlt]at hn
   exact absurd hy (hid y (List.mem_of_getElem? hn))
  ·have:=(List.getElem?_eq_some_iff.1 hn).1
   simp at this
   omega
 have hb:Below w.heap.size w ((w.alloc (.deferred (some []))).alloc (.loop r)):=((Below.refl _ w).alloc (Nat.le_refl _) _).alloc (by simp) _
 have hsz:((w.alloc (.deferred (some []))).alloc (.loop r)).heap.size=w.heap.size+2:=by simp
 have hl:((w.alloc (.deferred (some []))).alloc (.loop r)).heap[w.heap.size+1]?=some (.loop r):=by
  have:=World.alloc_heap_new (w.alloc (.deferred (some []))) (.loop r); rwa [World.size_alloc]at this
 have hd:((w.alloc (.deferred (some []))).alloc (.loop r)).heap[w.heap.size]?=some (.deferred (some [])):=
  (Below.heap_alloc _ _ _ (by simp)).trans (World.alloc_heap_new w _)
 refine⟨_,by
  have:=h1.move (n0:=V.length) (B':=λk=>k=w.heap.size+1\/k=w.heap.size) (R':=J7 (w.heap.size+1) w.heap.size r) hp1 hG jI PS (cA.bH hb) (λk hk=>.inr (by omega)) (λk hk=>?_) ?_
  ·rw[rP]at this
   exact this
  ·rcases hk with rfl|rfl
   ·exact⟨by omega,λo v hv=>absurd hv (fS hl rfl v)⟩
   ·exact⟨by omega,λo v hv=>absurd hv (fS hd rfl v)⟩
  ·intro w'' he
   have hn:∀k o,w.heap.size<=k->¬minus (own c (V++[dc N N λB _ _=>∀k,¬B k]) none_ β1) (β1 N) k o:=λk o hk ho=>by
    rcases hown k o ho.1 with h5|⟨y,hy,h5,h6,_⟩
    ·have h7:=(h.old k o h5).1.1
     have h8:=h.below.size
     omega
    ·have:=(h.var y hy h5).blk h6
     omega
   exact⟨λ_=>Iff.rfl,(he.block _ (by omega) λo=>hn _ o (by omega)).trans hl,(he.block _ (by omega) λo=>hn _ o (by omega)).trans hd,by omega⟩⟩
theorem BC {A:List Al} {L:Nat->Bool} {B:Nat->Prop} (h:aT c V A G L β a w) (hle:cA B w w') (hm:∀k,B k->mine c k):cA c.fH c.w0 w'/\∀k o,c.M0 k o->(k<c.w0.heap.size/\¬c.fH k)/\∀v,w'.cell? ⟨k,o,none⟩=some v->fq v:=by
 refine⟨⟨hle.os.trans h.below.os,hle.tape.trans h.below.tape,hle.output.trans h.below.output,Nat.le_trans h.below.size hle.size,λk hk hn=>(hle.block k (Nat.lt_of_lt_of_le hk h.below.size) λhb=>(hm k hb).elim (λh3=>by omega) hn).trans (h.below.block k hk hn)⟩,λk o h0=>⟨(h.old k o h0).1,λv hv=>(h.old k o h0).2 v ?_⟩⟩
 rw[World.cell?_of_block (w:=w) (a:=⟨k,o,none⟩) (hle.block k (Nat.lt_of_lt_of_le (h.old k o h0).1.1 h.below.size) λhb=>gl h (hm k hb) h0)]at hv
 exact hv
theorem aL.eqv {M M':Nat->Nat->Prop} {F:World->Prop} (h:aL M F w) (hm:∀k o,M' k o->M k o):aL M' F w:=h.sub λk o _ hk=>hm k o hk
abbrev coll (D:Nat):Deferred:={ target:=.collected D,args:=#[] }
theorem xC {τ:Type} {s y0 y1 n:Nat} {p q:Nat->Pred} {cap:Array Value->World->Prop} {assign body:Code} (Vk:Nat->τ->List Vr) (VX:Code->τ->List Vr) (G0:List aQ) (S:List Nat) (t0:τ)
  (hI:Inv c (Vk 0 t0) [] G0 none_ a w) (hs:eK s G0=some (D3 P n p q cap)) (KP:∀k t,sD c.N S (Vk k t)=true) (OY:∀cd t,sD c.N S (VX cd t)=true) (Ht:Kk S G0=true) (OT:IQ c.N y0 y1 S=true) (hy:decide (y0<c.N)&&(decide (y1<c.N)&&y0 != y1)=true)
  (round:∀k t w0 M1 B1 a1 w1 D l r,k<n->r.state=.ready->Inv ⟨c.N,w0,M1,B1⟩ (Vk k t++[cS c.N l D r]) [] (⟨none,none,y1,q k⟩::⟨none,none,y0,p k⟩::(G0++S.map (Fx a))) none_ a1 w1 ->
   assign.ww (some l) [] P (Exit.then (G3 l P body (Of ⟨c.N,w0,M1,B1⟩ (Vk (k+1)) VX (G0++S.map (Fx a)) (cS c.N l D { r with state:=.busy }))) λ_ _ _=>False) a1 w1)
  (done:∀t w D l r,Inv c (Vk n t++[cS c.N l D r]) [] G0 none_ a w->Q .normal (kK [coll D] a) w)
  (stop:∀cd t w D l r,Inv c (VX cd t++[cS c.N l D r]) [] G0 none_ a w->cd.ww none [] P Q (kK [coll D] a) w):
  (Code.rangeFunc (.tmp s) #[y0,y1] assign body).ww none [] P Q a w:=by
 intro n0
 obtain⟨β0,h0⟩:=hI
 have NH:cw G0=true:=by unfold Kk at Ht; simp only[Bool.and_eq_true]at Ht; exact Ht.1
 have Re:∀e,e∈G0->e.slot∈S:=by
  unfold Kk at Ht
  simp only[Bool.and_eq_true,List.all_eq_true,List.contains_iff_mem]at Ht
  exact Ht.2
 have Rn:∀{V:List Vr},sD c.N S V=true->(∀x,x∈V->x.slot∈S):=λhV=>by
  unfold sD at hV
  simp only[Bool.and_eq_true,List.all_eq_true,List.contains_iff_mem]at hV
  exactλx hx=>(hV.2 x hx).1
 have OU:∀s,s∈S->s<c.N/\s≠y0/\s≠y1:=by
  unfold IQ at OT
  simp only[Bool.and_eq_true,List.all_eq_true,decide_eq_true_eq,bne_iff_ne]at OT
  exact OT
 simp only[Bool.and_eq_true,decide_eq_true_eq,bne_iff_ne]at hy
 obtain⟨hy0,uP,TG⟩:=hy
 obtain⟨k0,pA⟩:=dh hs
 have JL:D3 P n p q cap w (sl a s):=(h0.gD _ (List.mem_of_getElem? pA) rfl rfl).out
 obtain⟨g,lb,hv,hce,hseq,_⟩:=JL
 refine wpIn_rangeFunc λfn hfn=>?_
 obtain⟨rec,uj⟩:∃rec:LoopState->Option Code->Loop,rec=λst pe=>{ state:=st,pending:=pe,fn,tmps:=a.tmps,params:=#[y0,y1],assign,body,defers:=w.heap.size }:=⟨_,rfl⟩
 obtain⟨β1,h1⟩:=h0.I9 (r:=rec .ready none) (KP 0 t0) NH
 obtain⟨W1,hW1⟩:∃W1,(w.alloc (.deferred (some []))).alloc (.loop (rec .ready none))=W1:=⟨_,rfl⟩
 rw[hW1]at h1
 obtain⟨l,hl⟩:∃l,l=w.heap.size+1:=⟨_,rfl⟩
 obtain⟨D,hD⟩:∃D,D=w.heap.size:=⟨_,rfl⟩
 rw[<-hl,<-hD]at h1
 have hp1:=(gp (KP 0 t0) l D (rec .ready none)).1
 refine⟨l,[coll D],W1,{ target:=.fn (.func g) lb,args:=#[.func (.yield l) #[] #[]] },W1,g,#[.func (.yield l) #[] #[]]++lb,W1,?_,?_,λ_ _=>trivial,?_,λh=>(by cases h),?_⟩
 ·rw[<-hW1,uj,hl,hD]; exact run_enterLoop_outer _ _ _ _ _
 ·have hg:(kK [] a).eval (.tmp s)=.func (.func g) #[] lb:=hv
  simp only[resolve,hg]
  simp[go_sem]
 ·simp[invoke,go_sem,hce _ _]
 let J:Nat->St τ->World->Prop:=λk s w=>s.B=gT (Vk k s.t++[cS c.N l D (rec .ready none)]) s.β/\Told a (Vk k s.t++[cS c.N l D (rec .ready none)]) G0 s.β w
 let X:St τ->World->Prop:=λs w=>s.B=gT (VX s.cd s.t++[cS c.N l D (rec .done (some s.cd))]) s.β/\Told a (VX s.cd s.t++[cS c.N l D (rec .done (some s.cd))]) G0 s.β w
 let s0:St τ:=⟨gT (Vk 0 t0++[cS c.N l D (rec .ready none)]) β1,β1,t0,.skip⟩
 have hm0:∀k,s0.B k->mine c k:=λk hk=>(h1.gR hp1 hk).1
 refine sK (Calls.mono (hseq (St τ) l c.M0 St.B J X s0 W1 (λk o hk=>⟨Nat.lt_of_lt_of_le (h1.old k o hk).1.1 h1.below.size,(h1.old k o hk).2⟩) (λk hk o=>gl h1 (hm0 k hk)) (λk hk=>(h1.gR hp1 hk).2) ((h1.told hp1 NH).imp λ_ h=>⟨rfl,h⟩) ?_ ?_) ?_)
 ·intro w' he
  have hb:aL (λk o=>c.M0 k o\/s0.B k) (λw=>D3 P n p q cap w (sl a s)) W1:=(h1.gD _ (List.mem_of_getElem? pA) rfl rfl).sub λk o _ hk=>hk.elim .inl λ⟨x,hx,nr⟩=>.inr ⟨x,hx,(bA hp1 hx).1,nr,by rw[(bA hp1 hx).2.1]; exact Nat.zero_le _⟩
  obtain⟨g',lb',e',_,_,hc'⟩:=hb w' he
  have e2:Value.func (.func g) #[] lb=Value.func (.func g') #[] lb':=hv.symm.trans e'
  injection e2 with _ _ e3
  rw[e3]; exact hc'
 ·-- one round
  intro k st M' w' v0 v1 hk hM Pk hno hJ hp hq m
  obtain⟨hB,hT0⟩:=hJ.out
  have hT:aL M' (Told a (Vk k st.t++[cS c.N l D (rec .ready none)]) G0 st.β) w':=hJ.imp λ_ h=>h.2
  have hpk:=gp (KP k st.t) l D (rec .ready none)
  have i1:aT ⟨c.N,w',M',st.B⟩ (Vk k st.t++[cS c.N l D (rec .ready none)]) [] G0 none_ st.β a w':=Told.inv (c:=⟨c.N,w',M',st.B⟩) hT hpk.1 h0.size h0.defers (λk hk=>.inr (by show st.B k; rw[hB]; exact hk)) (cA.refl _ _) λk o hk=>⟨⟨(hM k o hk).1,λhb=>Pk k hb o hk⟩,(hM k o hk).2⟩
  have hown:∀k' o,own ⟨c.N,w',M',st.B⟩ (Vk k st.t++[cS c.N l D (rec .ready none)]) none_ st.β k' o->M' k' o\/st.B k':=λk' o h=>h.elim .inl λ⟨x,hx,_,hb,_⟩=>.inr (by rw[hB]; exact⟨x,hx,hb⟩)
  have nV:∀y,y<c.N->(y=y0\/y=y1)->∀x,x∈Vk k st.t++[cS c.N l D (rec .ready none)]->x.slot≠y:=λy hyN hy x hx e=>by
   rcases List.mem_append.1 hx with hx|hx
   ·have:=OU _ (Rn (KP k st.t) x hx)
    rcases hy with rfl|rfl<;>simp_all
   ·rw[List.mem_singleton]at hx
    subst hx
    have e:c.N=y:=e
    omega
  have nG:∀y,(y=y0\/y=y1)->∀e,e∈G0++S.map (Fx a)->e.slot≠y:=λy hy e he=>by
   rcases List.mem_append.1 he with he|he
   ·have:=OU _ (Re e he)
    rcases hy with rfl|rfl<;>simp_all
   ·obtain⟨s',hs',rfl⟩:=List.mem_map.1 he
    have:=OU _ hs'
    show s'≠y
    rcases hy with rfl|rfl<;>simp_all
  have i2:=(i1.M9 S).mK (d:=y0) (p:=p k) (v:=v0) hy0 (nV y0 hy0 (.inl rfl)) (nG y0 (.inl rfl)) (hp.eqv hown)
  have i3:=i2.mK (d:=y1) (p:=q k) (v:=v1) uP (nV y1 uP (.inr rfl)) (λe he=>by
   rcases List.mem_cons.1 he with rfl|he
   ·exact TG
   ·exact nG y1 (.inr rfl) e he) (hq.eqv hown)
  have hrd:=(i1.B3 (n0:=(Vk k st.t).length) jI).2.1
  have MI:=run_yield (P:=P) (args:=#[v0,v1]) hrd (by rw[uj]; rfl)
  rw[uj]at MI
  refine⟨fn,_,assign,body,MI,roundIn_of_wpIn (F:=yc none) trivial ?_⟩
  have hr:=round k st.t w' M' st.B _ w' D l (rec .ready none) hk (by rw[uj]) ⟨_,i3⟩ m
  have ea:kK [] ((a.put (some y0) v0).put (some y1) v1)={ tmps:=(#[y0,y1].zip #[v0,v1]).foldl (λt (x:Nat×Value)=>t.setIfInBounds x.1 x.2) a.tmps,defers:=[] }:=by
   have:=h0.defers
   cases a
   simp only at this
   subst this
   simp[kK,Act.put]
  rw[ea]at hr
  refine wpIn_mono hr ?_
  rintro e a2 w2 ⟨a3,rfl,h2⟩
  cases e with
  |normal=>
   obtain⟨w3,hb3,hbody⟩:=h2
   refine⟨w3,hb3,wpIn_mono (hbody m) ?_⟩
   have fin:∀(V':List Vr) (jump:Option Code) (a4:Act) (w4:World),sD c.N S V'=true->Inv ⟨c.N,w',M',st.B⟩ (V'++[cS c.N l D { rec .ready none with state:=.busy }]) [] (G0++S.map (Fx a)) none_ a4 w4 ->
     ∃β' w5,(Instr.endRound l jump).run P w4=.ok (.bool jump.isNone) w5/\cA st.B w' w5/\(∀k,gT (V'++[cS c.N l D (rec (if jump.isNone then .ready else .done) jump)]) β' k->st.B k\/w'.heap.size<=k) /\
      iv (gT (V'++[cS c.N l D (rec (if jump.isNone then .ready else .done) jump)]) β') w5/\aL M' (Told a (V'++[cS c.N l D (rec (if jump.isNone then .ready else .done) jump)]) G0 β') w5:=by
    intro V' jump a4 w4 Nz EV
    have RA:=gp Nz l D { rec .ready none with state:=.busy }
    obtain⟨β',w5,k1,k2,k3,k4,k5⟩:=end_ jump EV jI RA.1 NH RA.2 (λx hx=>by
     rcases List.mem_append.1 hx with hx|hx
     ·exact .inl (Rn Nz x hx)
     ·rw[List.mem_singleton]at hx
      subst hx
      obtain⟨β4,EV⟩:=EV
      have s4:a4.tmps.size=c.N:=EV.size
      have s5:a.tmps.size=c.N:=h0.size
      right
      show sl a4 c.N=sl a c.N
      unfold sl
      simp[Array.getD,s4,s5]) Re
    rw[rP]at k3 k4 k5
    rw[uj]at *
    exact⟨β',w5,k1,k2,λk hk=>(k3 k hk).elim .inr .inl,k4,k5⟩
   rintro e a5 w4 ⟨a4,rfl,h4⟩
   cases e with
   |normal=>
    obtain⟨t',EV⟩:=h4
    obtain⟨β',w5,k1,k2,k3,k4,k5⟩:=fin _ none a4 w4 (KP (k+1) t') EV
    exact⟨_,w5,k1,true,rfl,⟨_,β',t',.skip⟩,k2,k3,k4,k5.imp λ_ h=>⟨rfl,h⟩⟩
   |ret=>
    obtain⟨t',EV⟩:=h4
    obtain⟨β',w5,k1,k2,k3,k4,k5⟩:=fin _ (some .ret) a4 w4 (OY .ret t') EV
    exact⟨_,w5,k1,false,rfl,⟨_,β',t',.ret⟩,k2,k3,k4,k5.imp λ_ h=>⟨rfl,h⟩⟩
   |exit id=>
    obtain⟨t',EV⟩:=h4
    obtain⟨β',w5,k1,k2,k3,k4,k5⟩:=fin _ (some (.exit id)) a4 w4 (OY (.exit id) t') EV
    exact⟨_,w5,k1,false,rfl,⟨_,β',t',.exit id⟩,k2,k3,k4,k5.imp λ_ h=>⟨rfl,h⟩⟩
   |goto t=>exact h4.elim
   |panic ch=>exact h4.elim
   |outgrown=>exact h4.elim
  |exit id=>exact h2.elim
  |goto t=>exact h2.elim
  |ret=>exact h2.elim
  |panic ch=>exact h2.elim
  |outgrown=>exact h2.elim
 ·-- behind the iterator
  rintro e w3 ⟨v,s',rfl,hle,hnew,hno,SF⟩
  obtain⟨hb,ho⟩:=BC h1 hle hm0
  have hm:∀k,s'.B k->mine c k:=λk hk=>(hnew k hk).elim (hm0 k) λh=>.inl (Nat.le_trans h1.below.size h)
  have back:∀(V':List Vr) (r:Loop),sD c.N S V'=true->s'.B=gT (V'++[cS c.N l D r]) s'.β->aL c.M0 (Told a (V'++[cS c.N l D r]) G0 s'.β) w3->r.state≠.busy ->
    ∃w4,(Instr.endLoop l).run P w3=.ok r.pending w4/\Inv c (V'++[cS c.N l D { r with state:=.exhausted }]) [] G0 none_ a w4:=by
   intro V' r Nz hB hT hr
   have hp:=gp Nz l D r
   have i3:aT c (V'++[cS c.N l D r]) [] G0 none_ s'.β a w3:=Told.inv hT hp.1 h0.size h0.defers (λk hk=>hm k (by rw[hB]; exact hk)) hb ho
   obtain⟨β4,i4⟩:=i3.record { r with state:=.exhausted } hp.1 NH jI hp.2
   rw[rP]at i4
   exact⟨_,run_endLoop (i3.B3 (n0:=V'.length) jI).2.1 hr,β4,i4⟩
  rcases SF with hJ|hX
  ·obtain⟨w4,k1,k2⟩:=back _ _ (KP n s'.t) hJ.out.1 (hJ.imp λ_ h=>h.2) (by rw[uj]; simp)
   refine⟨_,w4,k1,?_⟩
   rw[uj]
   exact⟨_,rfl,done _ _ _ _ _ k2⟩
  ·obtain⟨w4,k1,k2⟩:=back _ _ (OY s'.cd s'.t) hX.out.1 (hX.imp λ_ h=>h.2) (by rw[uj]; simp)
   refine⟨_,w4,k1,?_⟩
   rw[uj]
   exact stop _ _ _ _ _ _ k2 n0
end
end Wx
