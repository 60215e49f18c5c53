import Derived.Test.YtikkgpljpglnbaaGreatJRM25
namespace Wx
open Go Go.RowKit
structure St (τ:Type) where
 B:Nat->Prop
 β:Nat->Nat->Prop
 t:τ
 cd:Code
def CY (N y0 y1:Nat) (S:List Nat):Bool:=S.all λs=>decide (s<N)&&(s != y0&&s != y1)
def uw (N:Nat) (S:List Nat) (V:List Vr):Bool:=bj V&&V.all λx=>S.contains x.slot&&decide (x.id<N)
def Ec (S:List Nat) (G:List aV):Bool:=bV G&&G.all λe=>S.contains e.slot
def N0 {τ:Type} (c1:cM) (V':τ->List Vr) (VX:Code->τ->List Vr) (G:List aV) (Rp:Vr):Exit->Act->World->Prop
 |.normal,a,w=>∃t,Inv c1 (V' t++[Rp]) [] G none_ a w
 |.ret,a,w=>∃t,Inv c1 (VX .ret t++[Rp]) [] G none_ a w
 |.exit id,a,w=>∃t,Inv c1 (VX (.exit id) t++[Rp]) [] G none_ a w
 |_,_,_=>False
variable {α:Type} {l:List α} {x:α}
theorem jv {y:α}:(l++[x]).set l.length y=l++[y]:=by simp
theorem ez:(l++[x])[l.length]?=some x:=by simp
section
variable {P:Program} {Q:Exit->Act->World->Prop} {c:cM} {V:List Vr} {G:List aV} {β:Nat->Nat->Prop} {a a':Act} {w w':World}{N:Nat} {S:List Nat}
theorem iD {V:List Vr} (h:uw N S V=true) (l D:Nat) (r:Loop):bj (V++[de N l D r])=true/\dO (V++[de N l D r]) N V.length=true:=by
 unfold uw at h
 simp only[Bool.and_eq_true,List.all_eq_true]at h
 refine⟨?_,?_⟩
 ·have h1:=h.1
  unfold bj at h1 ⊢
  rw[List.all_append,h1]
  rfl
 ·unfold dO
  rw[List.all_eq_true]
  rintro⟨y,n⟩ hy
  have hy:=List.mem_iff_getElem?.1 hy
  obtain⟨m,hm⟩:=hy
  simp only[List.getElem?_zipIdx]at hm
  cases hg:(V++[de N l D r])[m]? with
  |none=>rw[hg]at hm; cases hm
  |some z=>
   rw[hg]at hm
   simp only[Option.map_some,Option.some.injEq,Prod.mk.injEq]at hm
   obtain⟨rfl,rfl⟩:=hm
   rcases Nat.lt_or_ge m V.length with hlt|hge
   ·rw[List.getElem?_append_left hlt]at hg
    have h2:=(h.2 z (List.mem_of_getElem? hg)).2
    simp at h2
    simp; omega
   ·rw[List.getElem?_append_right hge]at hg
    have:m<V.length+1:=by
     rcases Nat.lt_or_ge m (V.length+1)with h3|h3
     ·exact h3
     ·rw[List.getElem?_eq_none (by simp; omega)]at hg; cases hg
    simp; omega
theorem aT.Lt {r:Loop} (h:aT c V [] G none_ β a w) (hV:uw N S V=true) (hG:bV G=true):
  ∃β',aT c (V++[de N (w.heap.size+1) w.heap.size r]) [] G none_ β' a ((w.alloc (.deferred (some []))).alloc (.loop r)):=by
 have hv:=hV
 unfold uw at hV
 simp only[Bool.and_eq_true,List.all_eq_true]at hV
 have hid:∀y,y∈V->y.id≠N:=λy hy e=>by have:=(hV.2 y hy).2; simp at this; omega
 let β1:=jh β N λ_=>False
 have e1:∀y,y∈V->β1 y.id=β y.id:=λy hy=>rF (hid y hy)
 have eN:∀k,¬β1 N k:=λk h=>by rw[show β1 N=λ_=>False from mj]at h; exact h
 have hmem:∀y,y∈V++[cN N N λB _ _=>∀k,¬B k]->y∈V\/y=cN N N λB _ _=>∀k,¬B k:=λy hy=>by simpa using hy
 have hown:∀k o,own c (V++[cN N N λB _ _=>∀k,¬B k]) none_ β1 k o->own c V none_ β k o:=by
  rintro k o (h1|⟨y,hy,h1,h2,h3⟩)
  ·exact .inl h1
  ·rcases hmem y hy with hy|rfl
   ·rw[e1 y hy]at h2
    exact .inr ⟨y,hy,h1,h2,h3⟩
   ·exact absurd h2 (eN k)
 have h1:aT c (V++[cN N N λB _ _=>∀k,¬B k]) [] G none_ β1 a w:=by
  refine⟨h.size,h.defers,h.below,h.old,λy hy hl=>?_,λy y' g hy hy' hl hl' hne=>?_,(λp hp=>by cases hp),λe he ho hf=>(h.gY e he ho hf).sub λk o _ hk=>hown k o hk⟩
  ·rcases hmem y hy with hy|rfl
   ·exact(h.var y hy hl).keep rfl (e1 y hy) (λ_ _=>rfl) (Nat.le_refl _) (λ_ hF=>hF.sub λk o _ hk=>hown k o hk) (λ_ hF=>hF.sub λk o _ hk=>⟨hown k o hk.1,hk.2⟩) rfl
   ·exact(aK rfl).2 ⟨λk hk=>absurd hk (eN k),λ_ _=>eN⟩
  ·rcases hmem y hy with hy|rfl<;>rcases hmem y' hy' with hy'|rfl
   ·rw[e1 y hy,e1 y' hy']
    exact h.apart y y' g hy hy' hl hl' hne
   ·exactλ_=>eN g
   ·exactλh2=>absurd h2 (eN g)
   ·exact absurd rfl hne
 obtain⟨hp,hu⟩:=iD hv (w.heap.size+1) w.heap.size r
 have hp1:bj (V++[cN N N λB _ _=>∀k,¬B k])=true:=by
  have h2:=hV.1
  unfold bj at h2 ⊢
  rw[List.all_append,h2]
  rfl
 have SI:∀(y:Vr) (n:Nat),(V++[cN N N λB _ _=>∀k,¬B k])[n]?=some y->y.id=N->n=V.length:=by
  intro y n hn hy
  rcases Nat.lt_or_ge n V.length with hlt|hge
  ·rw[List.getElem?_append_left hlt]at hn
   exact absurd hy (hid y (List.mem_of_getElem? hn))
  ·have:=(List.getElem?_eq_some_iff.1 hn).1
   simp at this
   omega
 have hb:Below w.heap.size w ((w.alloc (.deferred (some []))).alloc (.loop r)):=((Below.refl _ w).alloc (Nat.le_refl _) _).alloc (by simp) _
 have hsz:((w.alloc (.deferred (some []))).alloc (.loop r)).heap.size=w.heap.size+2:=by simp
 have hl:((w.alloc (.deferred (some []))).alloc (.loop r)).heap[w.heap.size+1]?=some (.loop r):=by
  have:=World.alloc_heap_new (w.alloc (.deferred (some []))) (.loop r); rwa [World.size_alloc]at this
 have hd:((w.alloc (.deferred (some []))).alloc (.loop r)).heap[w.heap.size]?=some (.deferred (some [])):=
  (Below.heap_alloc _ _ _ (by simp)).trans (World.alloc_heap_new w _)
 refine⟨_,by
  have:=h1.move (n0:=V.length) (B':=λk=>k=w.heap.size+1\/k=w.heap.size) (R':=GA (w.heap.size+1) w.heap.size r) hp1 hG ez SI (cz.bI hb) (λk hk=>.inr (by omega)) (λk hk=>?_) ?_
  ·rw[jv]at this
   exact this
  ·rcases hk with rfl|rfl
   ·exact⟨by omega,λo v hv=>absurd hv (eG hl rfl v)⟩
   ·exact⟨by omega,λo v hv=>absurd hv (eG hd rfl v)⟩
  ·intro w'' he
   have hn:∀k o,w.heap.size<=k->¬minus (own c (V++[cN N N λB _ _=>∀k,¬B k]) none_ β1) (β1 N) k o:=λk o hk ho=>by
    rcases hown k o ho.1 with h5|⟨y,hy,h5,h6,_⟩
    ·have h7:=(h.old k o h5).1.1
     have h8:=h.below.size
     omega
    ·have:=(h.var y hy h5).blk h6
     omega
   exact⟨λ_=>Iff.rfl,(he.block _ (by omega) λo=>hn _ o (by omega)).trans hl,(he.block _ (by omega) λo=>hn _ o (by omega)).trans hd,by omega⟩⟩
theorem uZ {A:List Al} {L:Nat->Bool} {B:Nat->Prop} (h:aT c V A G L β a w) (hle:cz B w w') (hm:∀k,B k->mine c k):cz c.gw c.w0 w'/\∀k o,c.M0 k o->(k<c.w0.heap.size/\¬c.gw k)/\∀v,w'.cell? ⟨k,o,none⟩=some v->gv v:=by
 refine⟨⟨hle.os.trans h.below.os,hle.tape.trans h.below.tape,hle.output.trans h.below.output,Nat.le_trans h.below.size hle.size,λk hk hn=>(hle.block k (Nat.lt_of_lt_of_le hk h.below.size) λhb=>(hm k hb).elim (λh3=>by omega) hn).trans (h.below.block k hk hn)⟩,λk o h0=>⟨(h.old k o h0).1,λv hv=>(h.old k o h0).2 v ?_⟩⟩
 rw[World.cell?_of_block (w:=w) (a:=⟨k,o,none⟩) (hle.block k (Nat.lt_of_lt_of_le (h.old k o h0).1.1 h.below.size) λhb=>gy h (hm k hb) h0)]at hv
 exact hv
theorem aM.eqv {M M':Nat->Nat->Prop} {F:World->Prop} (h:aM M F w) (hm:∀k o,M' k o->M k o):aM M' F w:=h.sub λk o _ hk=>hm k o hk
abbrev coll (D:Nat):Deferred:={ target:=.collected D,args:=#[] }
theorem pn {τ:Type} {s y0 y1 n:Nat} {p q:Nat->Pred} {cap:Array Value->World->Prop} {assign body:Code} (Vk:Nat->τ->List Vr) (VX:Code->τ->List Vr) (G0:List aV) (S:List Nat) (t0:τ)
  (hI:Inv c (Vk 0 t0) [] G0 none_ a w) (hs:fD s G0=some (zk P n p q cap)) (Du:∀k t,uw c.N S (Vk k t)=true) (L6:∀cd t,uw c.N S (VX cd t)=true) (yy:Ec S G0=true) (LZ:CY c.N y0 y1 S=true) (hy:decide (y0<c.N)&&(decide (y1<c.N)&&y0 != y1)=true)
  (round:∀k t w0 M1 B1 a1 w1 D l r,k<n->r.state=.ready->Inv ⟨c.N,w0,M1,B1⟩ (Vk k t++[de c.N l D r]) [] (⟨none,none,y1,q k⟩::⟨none,none,y0,p k⟩::(G0++S.map (xo a))) none_ a1 w1 ->
   assign.ww (some l) [] P (Exit.then (BU l P body (N0 ⟨c.N,w0,M1,B1⟩ (Vk (k+1)) VX (G0++S.map (xo a)) (de c.N l D { r with state:=.busy }))) λ_ _ _=>False) a1 w1)
  (done:∀t w D l r,Inv c (Vk n t++[de c.N l D r]) [] G0 none_ a w->Q .normal (kH [coll D] a) w)
  (stop:∀cd t w D l r,Inv c (VX cd t++[de c.N l D r]) [] G0 none_ a w->cd.ww none [] P Q (kH [coll D] a) w):
  (Code.rangeFunc (.tmp s) #[y0,y1] assign body).ww none [] P Q a w:=by
 intro n0
 obtain⟨β0,h0⟩:=hI
 have I1:bV G0=true:=by unfold Ec at yy; simp only[Bool.and_eq_true]at yy; exact yy.1
 have OJ:∀e,e∈G0->e.slot∈S:=by
  unfold Ec at yy
  simp only[Bool.and_eq_true,List.all_eq_true,List.contains_iff_mem]at yy
  exact yy.2
 have OV:∀{V:List Vr},uw c.N S V=true->(∀x,x∈V->x.slot∈S):=λhV=>by
  unfold uw at hV
  simp only[Bool.and_eq_true,List.all_eq_true,List.contains_iff_mem]at hV
  exactλx hx=>(hV.2 x hx).1
 have L3:∀s,s∈S->s<c.N/\s≠y0/\s≠y1:=by
  unfold CY at LZ
  simp only[Bool.and_eq_true,List.all_eq_true,decide_eq_true_eq,bne_iff_ne]at LZ
  exact LZ
 simp only[Bool.and_eq_true,decide_eq_true_eq,bne_iff_ne]at hy
 obtain⟨hy0,wH,SY⟩:=hy
 obtain⟨k0,lZ⟩:=dn hs
 have Mr:zk P n p q cap w (sl a s):=(h0.gY _ (List.mem_of_getElem? lZ) rfl rfl).out
 obtain⟨g,lb,hv,hce,hseq,_⟩:=Mr
 refine wpIn_rangeFunc λfn hfn=>?_
 obtain⟨rec,jR⟩:∃rec:LoopState->Option Code->Loop,rec=λst pe=>{ state:=st,pending:=pe,fn,tmps:=a.tmps,params:=#[y0,y1],assign,body,defers:=w.heap.size }:=⟨_,rfl⟩
 obtain⟨β1,h1⟩:=h0.Lt (r:=rec .ready none) (Du 0 t0) I1
 obtain⟨W1,hW1⟩:∃W1,(w.alloc (.deferred (some []))).alloc (.loop (rec .ready none))=W1:=⟨_,rfl⟩
 rw[hW1]at h1
 obtain⟨l,hl⟩:∃l,l=w.heap.size+1:=⟨_,rfl⟩
 obtain⟨D,hD⟩:∃D,D=w.heap.size:=⟨_,rfl⟩
 rw[<-hl,<-hD]at h1
 have hp1:=(iD (Du 0 t0) l D (rec .ready none)).1
 refine⟨l,[coll D],W1,{ target:=.fn (.func g) lb,args:=#[.func (.yield l) #[] #[]] },W1,g,#[.func (.yield l) #[] #[]]++lb,W1,?_,?_,λ_ _=>trivial,?_,λh=>(by cases h),?_⟩
 ·rw[<-hW1,jR,hl,hD]; exact run_enterLoop_outer _ _ _ _ _
 ·have hg:(kH [] a).eval (.tmp s)=.func (.func g) #[] lb:=hv
  simp only[resolve,hg]
  simp[go_sem]
 ·simp[invoke,go_sem,hce _ _]
 let J:Nat->St τ->World->Prop:=λk s w=>s.B=fe (Vk k s.t++[de c.N l D (rec .ready none)]) s.β/\Told a (Vk k s.t++[de c.N l D (rec .ready none)]) G0 s.β w
 let X:St τ->World->Prop:=λs w=>s.B=fe (VX s.cd s.t++[de c.N l D (rec .done (some s.cd))]) s.β/\Told a (VX s.cd s.t++[de c.N l D (rec .done (some s.cd))]) G0 s.β w
 let s0:St τ:=⟨fe (Vk 0 t0++[de c.N l D (rec .ready none)]) β1,β1,t0,.skip⟩
 have hm0:∀k,s0.B k->mine c k:=λk hk=>(h1.fc hp1 hk).1
 refine pF (Calls.mono (hseq (St τ) l c.M0 St.B J X s0 W1 (λk o hk=>⟨Nat.lt_of_lt_of_le (h1.old k o hk).1.1 h1.below.size,(h1.old k o hk).2⟩) (λk hk o=>gy h1 (hm0 k hk)) (λk hk=>(h1.fc hp1 hk).2) ((h1.told hp1 I1).imp λ_ h=>⟨rfl,h⟩) ?_ ?_) ?_)
 ·intro w' he
  have hb:aM (λk o=>c.M0 k o\/s0.B k) (λw=>zk P n p q cap w (sl a s)) W1:=(h1.gY _ (List.mem_of_getElem? lZ) rfl rfl).sub λk o _ hk=>hk.elim .inl λ⟨x,hx,kF⟩=>.inr ⟨x,hx,(bq hp1 hx).1,kF,by rw[(bq hp1 hx).2.1]; exact Nat.zero_le _⟩
  obtain⟨g',lb',e',_,_,hc'⟩:=hb w' he
  have e2:Value.func (.func g) #[] lb=Value.func (.func g') #[] lb':=hv.symm.trans e'
  injection e2 with _ _ e3
  rw[e3]; exact hc'
 ·-- one round
  intro k st M' w' v0 v1 hk hM Md hno hJ hp hq m
  obtain⟨hB,VS⟩:=hJ.out
  have hT:aM M' (Told a (Vk k st.t++[de c.N l D (rec .ready none)]) G0 st.β) w':=hJ.imp λ_ h=>h.2
  have hpk:=iD (Du k st.t) l D (rec .ready none)
  have i1:aT ⟨c.N,w',M',st.B⟩ (Vk k st.t++[de c.N l D (rec .ready none)]) [] G0 none_ st.β a w':=Told.inv (c:=⟨c.N,w',M',st.B⟩) hT hpk.1 h0.size h0.defers (λk hk=>.inr (by show st.B k; rw[hB]; exact hk)) (cz.refl _ _) λk o hk=>⟨⟨(hM k o hk).1,λhb=>Md k hb o hk⟩,(hM k o hk).2⟩
  have hown:∀k' o,own ⟨c.N,w',M',st.B⟩ (Vk k st.t++[de c.N l D (rec .ready none)]) none_ st.β k' o->M' k' o\/st.B k':=λk' o h=>h.elim .inl λ⟨x,hx,_,hb,_⟩=>.inr (by rw[hB]; exact⟨x,hx,hb⟩)
  have nV:∀y,y<c.N->(y=y0\/y=y1)->∀x,x∈Vk k st.t++[de c.N l D (rec .ready none)]->x.slot≠y:=λy WV hy x hx e=>by
   rcases List.mem_append.1 hx with hx|hx
   ·have:=L3 _ (OV (Du k st.t) x hx)
    rcases hy with rfl|rfl<;>simp_all
   ·rw[List.mem_singleton]at hx
    subst hx
    have e:c.N=y:=e
    omega
  have nG:∀y,(y=y0\/y=y1)->∀e,e∈G0++S.map (xo a)->e.slot≠y:=λy hy e he=>by
   rcases List.mem_append.1 he with he|he
   ·have:=L3 _ (OJ e he)
    rcases hy with rfl|rfl<;>simp_all
   ·obtain⟨s',hs',rfl⟩:=List.mem_map.1 he
    have:=L3 _ hs'
    show s'≠y
    rcases hy with rfl|rfl<;>simp_all
  have i2:=(i1.Lh S).nu (d:=y0) (p:=p k) (v:=v0) hy0 (nV y0 hy0 (.inl rfl)) (nG y0 (.inl rfl)) (hp.eqv hown)
  have i3:=i2.nu (d:=y1) (p:=q k) (v:=v1) wH (nV y1 wH (.inr rfl)) (λe he=>by
   rcases List.mem_cons.1 he with rfl|he
   ·exact SY
   ·exact nG y1 (.inr rfl) e he) (hq.eqv hown)
  have hrd:=(i1.Bv (n0:=(Vk k st.t).length) ez).2.1
  have KL:=run_yield (P:=P) (args:=#[v0,v1]) hrd (by rw[jR]; rfl)
  rw[jR]at KL
  refine⟨fn,_,assign,body,KL,roundIn_of_wpIn (F:=zU none) trivial ?_⟩
  have hr:=round k st.t w' M' st.B _ w' D l (rec .ready none) hk (by rw[jR]) ⟨_,i3⟩ m
  have ea:kH [] ((a.put (some y0) v0).put (some y1) v1)={ tmps:=(#[y0,y1].zip #[v0,v1]).foldl (λt (x:Nat×Value)=>t.setIfInBounds x.1 x.2) a.tmps,defers:=[] }:=by
   have:=h0.defers
   cases a
   simp only at this
   subst this
   simp[kH,Act.put]
  rw[ea]at hr
  refine wpIn_mono hr ?_
  rintro e a2 w2 ⟨a3,rfl,h2⟩
  cases e with
  |normal=>
   obtain⟨w3,hb3,hbody⟩:=h2
   refine⟨w3,hb3,wpIn_mono (hbody m) ?_⟩
   have fin:∀(V':List Vr) (jump:Option Code) (a4:Act) (w4:World),uw c.N S V'=true->Inv ⟨c.N,w',M',st.B⟩ (V'++[de c.N l D { rec .ready none with state:=.busy }]) [] (G0++S.map (xo a)) none_ a4 w4 ->
     ∃β' w5,(Instr.endRound l jump).run P w4=.ok (.bool jump.isNone) w5/\cz st.B w' w5/\(∀k,fe (V'++[de c.N l D (rec (if jump.isNone then .ready else .done) jump)]) β' k->st.B k\/w'.heap.size<=k) /\
      ij (fe (V'++[de c.N l D (rec (if jump.isNone then .ready else .done) jump)]) β') w5/\aM M' (Told a (V'++[de c.N l D (rec (if jump.isNone then .ready else .done) jump)]) G0 β') w5:=by
    intro V' jump a4 w4 IL um
    have Pw:=iD IL l D { rec .ready none with state:=.busy }
    obtain⟨β',w5,k1,k2,k3,k4,k5⟩:=end_ jump um ez Pw.1 I1 Pw.2 (λx hx=>by
     rcases List.mem_append.1 hx with hx|hx
     ·exact .inl (OV IL x hx)
     ·rw[List.mem_singleton]at hx
      subst hx
      obtain⟨β4,um⟩:=um
      have s4:a4.tmps.size=c.N:=um.size
      have s5:a.tmps.size=c.N:=h0.size
      right
      show sl a4 c.N=sl a c.N
      unfold sl
      simp[Array.getD,s4,s5]) OJ
    rw[jv]at k3 k4 k5
    rw[jR]at *
    exact⟨β',w5,k1,k2,λk hk=>(k3 k hk).elim .inr .inl,k4,k5⟩
   rintro e a5 w4 ⟨a4,rfl,h4⟩
   cases e with
   |normal=>
    obtain⟨t',um⟩:=h4
    obtain⟨β',w5,k1,k2,k3,k4,k5⟩:=fin _ none a4 w4 (Du (k+1) t') um
    exact⟨_,w5,k1,true,rfl,⟨_,β',t',.skip⟩,k2,k3,k4,k5.imp λ_ h=>⟨rfl,h⟩⟩
   |ret=>
    obtain⟨t',um⟩:=h4
    obtain⟨β',w5,k1,k2,k3,k4,k5⟩:=fin _ (some .ret) a4 w4 (L6 .ret t') um
    exact⟨_,w5,k1,false,rfl,⟨_,β',t',.ret⟩,k2,k3,k4,k5.imp λ_ h=>⟨rfl,h⟩⟩
   |exit id=>
    obtain⟨t',um⟩:=h4
    obtain⟨β',w5,k1,k2,k3,k4,k5⟩:=fin _ (some (.exit id)) a4 w4 (L6 (.exit id) t') um
    exact⟨_,w5,k1,false,rfl,⟨_,β',t',.exit id⟩,k2,k3,k4,k5.imp λ_ h=>⟨rfl,h⟩⟩
   |goto t=>exact h4.elim
   |panic ch=>exact h4.elim
   |outgrown=>exact h4.elim
  |exit id=>exact h2.elim
  |goto t=>exact h2.elim
  |ret=>exact h2.elim
  |panic ch=>exact h2.elim
  |outgrown=>exact h2.elim
 ·-- behind the iterator
  rintro e w3 ⟨v,s',rfl,hle,hnew,hno,RK⟩
  obtain⟨hb,ho⟩:=uZ h1 hle hm0
  have hm:∀k,s'.B k->mine c k:=λk hk=>(hnew k hk).elim (hm0 k) λh=>.inl (Nat.le_trans h1.below.size h)
  have back:∀(V':List Vr) (r:Loop),uw c.N S V'=true->s'.B=fe (V'++[de c.N l D r]) s'.β->aM c.M0 (Told a (V'++[de c.N l D r]) G0 s'.β) w3->r.state≠.busy ->
    ∃w4,(Instr.endLoop l).run P w3=.ok r.pending w4/\Inv c (V'++[de c.N l D { r with state:=.exhausted }]) [] G0 none_ a w4:=by
   intro V' r IL hB hT hr
   have hp:=iD IL l D r
   have i3:aT c (V'++[de c.N l D r]) [] G0 none_ s'.β a w3:=Told.inv hT hp.1 h0.size h0.defers (λk hk=>hm k (by rw[hB]; exact hk)) hb ho
   obtain⟨β4,i4⟩:=i3.record { r with state:=.exhausted } hp.1 I1 ez hp.2
   rw[jv]at i4
   exact⟨_,run_endLoop (i3.Bv (n0:=V'.length) ez).2.1 hr,β4,i4⟩
  rcases RK with hJ|hX
  ·obtain⟨w4,k1,k2⟩:=back _ _ (Du n s'.t) hJ.out.1 (hJ.imp λ_ h=>h.2) (by rw[jR]; simp)
   refine⟨_,w4,k1,?_⟩
   rw[jR]
   exact⟨_,rfl,done _ _ _ _ _ k2⟩
  ·obtain⟨w4,k1,k2⟩:=back _ _ (L6 s'.cd s'.t) hX.out.1 (hX.imp λ_ h=>h.2) (by rw[jR]; simp)
   refine⟨_,w4,k1,?_⟩
   rw[jR]
   exact stop _ _ _ _ _ _ k2 n0
end
end Wx

namespace Wx
open Go Go.RowKit
section
variable {ro:Option Nat} {P:Program} {Q:Exit->Act->World->Prop} {c:cM} {V:List Vr} {A:List Al} {G:List aV} {β:Nat->Nat->Prop} {a a':Act} {w w':World}
theorem ja {x:Code} {d:Deferred} (h:x.ww ro [d] P (λe a w=>Q e (kH [d] a) w) a w):x.ww ro [] P Q (kH [d] a) w:=λn=>wpIn_mono (h n) λ_ _ _ ⟨a0,e0,h0⟩=>⟨kH [d] a0,e0,h0⟩
def tA (P:Program) (fn:Func) (R:Ending->World->Prop):Exit->Act->World->Prop:=bodyPostM (zU none) 0 P fn R
variable {fn:Func} {R:Ending->World->Prop}
theorem pH {f:FuncId} {C:Code} {vs:List Value} {M:Nat->Nat->Prop} {N:Nat} {G:List aV} (hf:P.funcs[f]?=some fn) (hb:fn.body=some C) (hN:fn.ntmps=N) (hlen:decide (vs.length<=N)=true) (hM:cR M w) (hG:dH M w vs G)
  (h:∀a,Inv ⟨N,w,M,λ_=>False⟩ [] [] G none_ a w->C.ww none [] P (tA P fn R) a w):Calls P f vs.toArray w R:=
 (callsIn_wide (n:=0)).1 (callsIn_of_wp_marks (F:=zU none) (n:=0) hf hb trivial (wpIn_mono (h _ (pT hM (by have:=of_decide_eq_true hlen; simp[hN]; omega) rfl hG.ok) 0) λe a' w' ⟨a0,e0,h0⟩=>by subst e0; exact h0))
variable {p:Pred} {n0 id:Nat}
theorem cZ.set {r:ResultVar} {s:Nat} {R R':Rel} (h:cZ P V G r p) (lZ:V[n0]?=some (cN id s R)):cZ P (V.set n0 (cN id s R')) G r p:=by
 induction h with
 |tmp k hk=>exact .tmp k hk
 |@cell x p T s k hk hb bS hs ht hc=>
  refine .cell k ?_ hb bS hs ht hc
  have hne:n0≠k:=λe=>by
   rw[e,hk]at lZ
   injection lZ with lZ
   rw[lZ]at bS
   cases bS
  rw[List.getElem?_set_ne hne]
  exact hk
 |imp _ hq ih=>exact .imp ih hq
variable {r:Loop} {l D:Nat}
theorem aT.taken (h:aT c V [] G none_ β a w) (hV:bj V=true) (hG:bV G=true) (hk:V[n0]?=some (de id l D r)) (hu:dO V id n0=true):
  (Instr.takeDeferred D).run P w=.ok [] (w.putObj D (.deferred none))/\∃β',aT c (V.set n0 (cN id id λ_ _ _=>True)) [] G none_ β' a (w.putObj D (.deferred none)):=by
 obtain⟨h1,h2,h3,h4⟩:=h.Bv hk
 have hlt:l<w.heap.size:=(Array.getElem?_eq_some_iff.1 h2).1
 have hl2:(w.putObj D (.deferred none)).heap[l]?=some (.loop r):=(World.putObj_heap_other (by omega)).trans h2
 have Ny:(w.putObj D (.deferred none)).heap[D]?=some (.deferred none):=World.putObj_heap_same (by omega)
 refine⟨run_takeDeferred h3,_,h.move (B':=β id) (R':=λ_ _ _=>True) hV hG hk (eC hu) (lj _ ((h1 D).2 (.inr rfl))) (λk hk'=>.inl hk') (λk hk'=>?_) (aM.always trivial _)⟩
 rw[World.putObj_size]
 rcases (h1 k).1 hk' with rfl|rfl
 ·exact⟨hlt,λo v hv=>absurd hv (eG hl2 rfl v)⟩
 ·exact⟨by omega,λo v hv=>absurd hv (eG Ny rfl v)⟩
theorem Fp {v:Value} (hd:a.defers=[]) (ht:(Instr.takeDeferred D).run P w=.ok [] w') (hr:(results fn a.tmps).run P w'=.ok v w') (hR:R (.returned v) w'):tA P fn R .ret (kH [coll D] a) w:=by
 show LeavesInM (zU none) 0 P fn a.tmps R ([coll D]++a.defers) .returning w
 rw[hd]
 exact⟨(λh=>(by cases h)),.inl ⟨D,w',rfl,ht,v,hr,hR⟩⟩
theorem qo {r1:ResultVar} (hI:Inv c V [] G none_ a w) (n0:Nat) (hr:fn.results=#[r1]) (h:cZ P V G r1 p) (hk:V[n0]?=some (de id l D r):=by exact rfl) (hn:∀k,¬c.gw k:=by exactλ_ h=>h)
  (hV:bj V=true:=by kernel_rfl) (hG:bV G=true:=by kernel_rfl) (hu:dO V id n0=true:=by kernel_rfl):tA P fn (bD c.M0 p c.w0) .ret (kH [coll D] a) w:=by
 obtain⟨β,hI⟩:=hI
 obtain⟨h1,β',h2⟩:=hI.taken (P:=P) hV hG hk hu
 obtain⟨v,h3,h4⟩:=(h.set hk).run h2
 refine Fp hI.defers h1 (v:=v) ?_ ⟨v,rfl,iM h4,h2.below.below hn⟩
 rw[dm,hr]
 simp[h3]
end
end Wx

namespace Wx
open Go Go.RowKit
abbrev jV (N:Nat) (B:Nat->Prop) (J:World->Prop):Vr:=cN N N λB' w _=>(∀k,B' k↔B k)/\J w
section
variable {ro:Option Nat} {ds:List Deferred} {P:Program} {Q:Exit->Act->World->Prop} {c:cM} {V:List Vr} {A:List Al} {G:List aV} {β:Nat->Nat->Prop} {a a':Act} {w w':World}{id:Nat} {l:List Oper}
theorem vN (k:Nat) (hkn:k<=l.length) (hwf:tU c.N (l.take k) V A G=true) (ND:(l.take k).all gz=true)
  (h0:Inv c V A G none_ a w) (hs:qH P l.toArray (aU l.length) c V A G 0 (l.take k))
  (hK:∀a w,Inv c V A G (λ_=>true) a w->∀n,wpOpsIn (zU ro) n P l.toArray (λe a' w'=>∃a0,a'=kH ds a0/\Q e a0 w') (List.range' k (l.length-k)) (kH ds a) w):(Code.region id l.toArray false).ww ro ds P Q a w:=by
 intro n
 refine wpIn_region ?_
 have tm:∀k j,((aU l.length).getD k 0).testBit j=true->j<k:=by
  intro k j h
  rcases Nat.lt_or_ge k l.length with h'|h'
  ·have e:(aU l.length).getD k 0=2^k-1:=by simp[aU,h']
   rw[e,Nat.testBit_two_pow_sub_one]at h
   simpa using h
  ·have e:(aU l.length).getD k 0=0:=by simp[aU,Nat.not_lt.2 h']
   rw[e]at h
   simp at h
 have key:∀(m i:Nat),i+m=k->∀(a:Act) (w:World),Inv c V A G (λj=>decide (j<i)) a w->wpOpsIn (zU ro) n P l.toArray (λe a' w'=>∃a0,a'=kH ds a0/\Q e a0 w') (List.range' i m++List.range' k (l.length-k)) (kH ds a) w:=by
  intro m
  induction m with
  |zero=>
   rintro i hi a w ⟨β,hI⟩
   exact hK a w ⟨β,hI.congr (ig hwf) λj hj=>by simp at hj; simp; omega⟩ n
  |succ m ih=>
   intro i hi a w hI
   have Pj:i<k:=by omega
   obtain⟨o,ho⟩:∃o,l[i]?=some o:=⟨l[i]'(by omega),List.getElem?_eq_getElem (by omega)⟩
   have Uv:(l.take k)[i]?=some o:=by rw[List.getElem?_take,if_pos Pj]; exact ho
   rw[List.range'_succ,List.cons_append,wpOpsIn_cons]
   have wD:mB (aU l.length) i (λj=>decide (j<i)):=⟨by simp,λj hj=>by simpa using tm i j hj,λj hj=>by have:=tm j i hj; simp; omega⟩
   have hop:=hs.get Uv
   rw[Nat.zero_add]at hop
   refine(hop _ a w hI wD (Hj hwf ho Pj)).Gn (by simpa using ho) (List.all_eq_true.1 ND o (List.mem_of_getElem? Uv)) λa' w' h'=>ih (i+1) (by omega) a' w' ?_
   have e:upd (λj=>decide (j<i)) i=(λj=>decide (j<i+1)):=by
    funext j
    unfold upd
    by_cases h:j=i
    ·simp[h]
    ·rw[if_neg h]
     by_cases h2:j<i
     ·simp[h2]; omega
     ·simp[h2]; omega
   rw[<-e]
   exact h'
 have:=key k 0 (by omega) a w (by
  have e:(λj=>decide (j<0))=none_:=by funext j; simp
  rw[e]
  exact h0)
 have e2:List.range' 0 k++List.range' k (l.length-k)=List.range l.toArray.size:=by
  rw[List.range_eq_range',show l.toArray.size=k+(l.length-k) by simp; omega]
  have:=List.range'_append_1 (s:=0) (m:=k) (n:=l.length-k)
  rw[Nat.zero_add]at this
  exact this
 rwa [e2]at this
variable {d f:Nat} {ts:Array TypeId} {ty:TypeId} {pos:String} {aL:Array Edge}
theorem J4 {n:Nat} {ops:Array Oper} {i l:Nat} {x y:Operand} {R:Bool->World->Prop} {K:Act->World->Prop} (hi:ops[i]?=some ⟨some d,.call ⟨.value (.tmp f),#[x,y],ts⟩,ty,pos,aL,none⟩)
  (hf:sl a f=.func (.yield l) #[] #[]) (hY:vV P l #[a.eval x,a.eval y] w R) (hK:∀b w',R b w'->K (kH ds (a.put (some d) (.bool b))) w'):wpOpIn (zU none) n P ops Q i K (kH ds a) w:=by
 obtain⟨fn,tmps,assign,body,hy,hR⟩:=hY (n-1)
 have hr:(execOp a.eval ⟨some d,.call ⟨.value (.tmp f),#[x,y],ts⟩,ty,pos,aL,none⟩).run P w=.ok (.round l fn tmps assign body) w:=by
  have hf':a.eval (.tmp f)=.func (.yield l) #[] #[]:=hf
  simp only[execOp,resolve,hf',Deferred.ofValue,pure_bind,invoke]
  simpa using hy
 unfold wpOpIn
 rw[hi]
 simp only
 rw[if_pos (by simp[Region.wanted])]
 unfold Oper.wpIn
 refine⟨λ_ _=>trivial,?_⟩
 rw[si,Oper.semAt_eq _ _ _ (λc hc=>by cases hc),hr]
 refine⟨λh=>(by cases h),hR.mono ?_⟩
 rintro e w' ⟨b,rfl,h⟩
 show K ((kH ds a).put (some d) (.bool b)) w'
 rw[rf]
 exact hK b w' h
variable {N n0:Nat} {B:Nat->Prop} {J:World->Prop}
theorem aT.PM (h:aT c V [] G none_ β a w) (hk:V[n0]?=some (jV N B J)):(∀k,β N k↔B k)/\aM (minus (own c V none_ β) (β N)) J w/\ij (β N) w/\∀k,β N k->mine c k:=by
 obtain⟨h1,h2⟩:=(aK rfl).1 (h.var _ (List.mem_of_getElem? hk) rfl)
 exact⟨h2.out.1,h2.imp λ_ h=>h.2,λk hk=>(h1 k hk).2,λk hk=>(h1 k hk).1⟩
def qp (V:List Vr) (G:List aV) (d e N:Nat):Bool:=V.all (λx=>x.slot != d&&x.slot != e)&&(G.all (λx=>x.slot != d&&x.slot != e)&&(decide (d<N)&&(decide (e<N)&&d != e)))
variable {C:Code}
theorem Hq {σ:Type} {V1 V2:List Vr} {G1 G2:List aV} {A1:List Al} {nv:List Vr} {ne:List aV} {e L x y:Nat} {NM ty2:TypeId} {pos2:String} {aft2:Array Edge} {p q:Pred}
  (Bs:σ->Nat->Prop) (JX:Bool->σ->World->Prop) (k:Nat) (h:Inv c V [] G none_ a w) (hV:Aa nv V V1) (hG:mL ne G G1) (hs:qH P l.toArray (aU l.length) c V1 A1 G1 0 (l.take k)) (kV:gp V1 V2) (kG:aF G1 G2)
  (hl:l.drop k=[⟨some d,.call ⟨.value (.tmp f),#[.tmp x,.tmp y],ts⟩,ty,pos,aL,none⟩,⟨some e,.unOp .not NM (.tmp d),ty2,pos2,aft2,none⟩])
  (hf:fD f G2=some (bp (.func (.yield L) #[] #[]))) (hx:fD x G2=some p) (hy:fD y G2=some q) (hJ:V2[n0]?=some (jV c.N B J))
  (hY:∀M' w' v0 v1,cR M' w'->(∀k,B k->∀o,¬M' k o)->ij B w'->aM M' J w'->aM (λk o=>M' k o\/B k) (λw=>p w v0) w'->aM (λk o=>M' k o\/B k) (λw=>q w v1) w' ->
   vV P L #[v0,v1] w' λb w''=>∃s':σ,cz B w' w''/\(∀k,Bs s' k->B k\/w'.heap.size<=k)/\ij (Bs s') w''/\aM M' (JX b s') w'')
  (next:∀b s' a w,Inv c (V2.set n0 (jV c.N (Bs s') (JX b s'))) [] (⟨none,none,e,pB !b⟩::⟨none,none,d,pB b⟩::G2) none_ a w->C.ww none ds P Q a w)
  (hn:ni nv A1 ne=true:=by kernel_rfl) (hk:decide (k<=l.length)=true:=by kernel_rfl) (hb:tU c.N (l.take k) V1 A1 G1=true:=by kernel_rfl) (hd:(l.take k).all gz=true:=by kernel_rfl) (hp2:bj V2=true:=by kernel_rfl) (hg2:bV G2=true:=by kernel_rfl) (hu:dO V2 c.N n0=true:=by kernel_rfl) (hfr:qp V2 G2 d e c.N=true:=by kernel_rfl):
  (Code.seq (Code.region id l.toArray false) C).ww none ds P Q a w:=by
 have hk':=of_decide_eq_true hk
 refine av (vN k hk' hb hd (lY h hV hG hn) hs λa1 w1 VM n=>?_)
 have yz:=ow hb kV kG VM
 have hlen:l.length-k=2:=by rw[<-List.length_drop,hl]; rfl
 have o1:l.toArray[k]?=some ⟨some d,.call ⟨.value (.tmp f),#[.tmp x,.tmp y],ts⟩,ty,pos,aL,none⟩:=by
  have:(l.drop k)[0]?=l[k+0]?:=List.getElem?_drop
  rw[hl]at this
  simpa using this.symm
 have o2:l.toArray[k+1]?=some ⟨some e,.unOp .not NM (.tmp d),ty2,pos2,aft2,none⟩:=by
  have:(l.drop k)[1]?=l[k+1]?:=List.getElem?_drop
  rw[hl]at this
  simpa using this.symm
 rw[hlen,show List.range' k 2=[k,k+1]from rfl,wpOpsIn_cons]
 unfold qp at hfr
 simp only[Bool.and_eq_true,List.all_eq_true,decide_eq_true_eq,bne_iff_ne]at hfr
 obtain⟨fV,fG,Kv,IQ,Qy⟩:=hfr
 obtain⟨β,i2⟩:=yz
 obtain⟨jB,jJ,jN,jm⟩:=i2.PM hJ
 have hx0:=List.mem_of_getElem? hJ
 have ob:∀k o,B k->own c V2 none_ β k o:=λk o hb=>.inr ⟨_,hx0,rfl,(jB k).2 hb,Nat.zero_le _⟩
 have bx:∀F:World->Prop,aM (own c V2 none_ β) F w1->aM (λk o=>minus (own c V2 none_ β) (β c.N) k o\/B k) F w1:=λF hF=>hF.sub λk o _ hk=>hk.elim (λh=>h.1) (ob k o)
 obtain⟨kx,Wr⟩:=dn hx
 obtain⟨ky,Ws⟩:=dn hy
 obtain⟨kf,Wq⟩:=dn hf
 have Ky:sl a1 f=.func (.yield L) #[] #[]:=(i2.gY _ (List.mem_of_getElem? Wq) rfl rfl).out
 refine J4 o1 Ky (hY _ w1 _ _ (λk o hk=>aZ i2 k o hk.1) (λk hb o ho=>ho.2 ((jB k).2 hb)) (λk hb=>jN k ((jB k).2 hb)) jJ (bx _ (i2.gY _ (List.mem_of_getElem? Wr) rfl rfl)) (bx _ (i2.gY _ (List.mem_of_getElem? Ws) rfl rfl))) ?_
 rintro b w2 ⟨s',hle,hnew,hno,hJ2⟩
 have Sq:cz (β c.N) w1 w2:=⟨hle.os,hle.tape,hle.output,hle.size,λk hk hn=>hle.block k hk λhb=>hn ((jB k).2 hb)⟩
 have i3:=i2.move (B':=Bs s') (R':=λB' w _=>(∀k,B' k↔Bs s' k)/\JX b s' w) hp2 hg2 hJ (eC hu) Sq (λk hk=>(hnew k hk).imp (jB k).2 λh=>h) hno (hJ2.imp λ_ h=>⟨λ_=>Iff.rfl,h⟩)
 have T8:∀x,x∈V2.set n0 (jV c.N (Bs s') (JX b s'))->x.slot≠d/\x.slot≠e:=λx hx=>by
  rcases List.mem_or_eq_of_mem_set hx with hx|rfl
  ·exact fV x hx
  ·exact fV (jV c.N B J) hx0
 have i4:=i3.nu (d:=d) (p:=pB b) (v:=.bool b) Kv (λx hx=>(T8 x hx).1) (λx hx=>(fG x hx).1) (aM.always rfl _)
 rw[wpOpsIn_cons]
 have Wj:sl (a1.put (some d) (.bool b)) d=.bool b:=iG (by rw[i3.size]; exact Kv)
 have hnot:cO P l.toArray ⟨some e,.unOp .not NM (.tmp d),ty2,pos2,aft2,none⟩ (a1.put (some d) (.bool b)) w2 (λa w=>Inv c (V2.set n0 (jV c.N (Bs s') (JX b s'))) [] (⟨none,none,e,pB !b⟩::⟨none,none,d,pB b⟩::G2) none_ a w):=by
  refine .of rfl ?_
  have hr:(execOp (a1.put (some d) (.bool b)).eval ⟨some e,.unOp .not NM (.tmp d),ty2,pos2,aft2,none⟩).run P w2=.ok (.value (.bool !b)) w2:=by
   show(do pure (Next.value (<-Op.unary .not ((a1.put (some d) (.bool b)).eval (.tmp d))))).run P w2=_
   rw[show(a1.put (some d) (.bool b)).eval (.tmp d)=.bool b from Wj]
   rfl
  unfold Does
  rw[hr]
  refine⟨_,i4.nu (d:=e) (p:=pB !b) (v:=.bool !b) IQ (λx hx=>(T8 x hx).2) (λx hx=>?_) (aM.always rfl _)⟩
  rcases List.mem_cons.1 hx with rfl|hx
  ·exact Qy
  ·exact(fG x hx).2
 refine hnot.Gn o2 rfl λa3 w3 VN=>⟨a3,rfl,next b s' a3 w3 VN⟩
variable {R:Ending->World->Prop} {fn:Func} {M:Nat->Nat->Prop}
theorem vZ {f:FuncId} {vs:List Value} (hf:P.funcs[f]?=some fn) (hb:fn.body=some C) (hN:fn.ntmps=N) (hlen:decide (vs.length<=N)=true)
  (hM:cR M w) (RH:∀k,B k->∀o,¬M k o) (hno:ij B w) (hJ:aM M J w) (hG:dH (λk o=>M k o\/B k) w vs G)
  (h:∀a,Inv ⟨N,w,M,B⟩ [jV N B J] [] G none_ a w->C.ww none [] P (bodyPost P fn R) a w):Calls P f vs.toArray w R:=by
 have key:=λhI=>h { tmps:=vs.toArray++Array.replicate (fn.ntmps-vs.toArray.size) undef,defers:=[] } hI 0
 refine calls_of_wp hf hb ((wpIn_wide (n:=0)).1 (wpIn_mono (key ?_) λe a' w' ⟨a0,e0,h0⟩=>by subst e0; exact h0))
 have RJ:=dH.ok (m:=fn.ntmps-vs.toArray.size) hG
 have eo:∀k o,own ⟨N,w,M,B⟩ [jV N B J] none_ (λ_=>B) k o->M k o\/B k:=λk o h=>h.elim .inl λ⟨x,_,_,h,_⟩=>.inr h
 refine⟨λ_=>B,by have:=of_decide_eq_true hlen; simp[hN]; omega,rfl,cz.refl _ _,(λk o h=>⟨⟨(hM k o h).1,λhb=>RH k hb o h⟩,(hM k o h).2⟩),(λx hx _=>?_),(λx y g hx hy _ _ hne=>?_),(λp hp=>by cases hp),λe he _ _=>(RJ.get e he).2.sub λk o _ h=>eo k o h⟩
 ·rcases List.mem_singleton.1 hx with rfl
  exact(aK rfl).2 ⟨λk hk=>⟨.inr hk,hno k hk⟩,(hJ.imp λ_ h=>⟨λ_=>Iff.rfl,h⟩).sub λk o _ hk=>(eo k o hk.1).elim (λh=>h) λhb=>absurd hb hk.2⟩
 ·rcases List.mem_singleton.1 hx with rfl
  rcases List.mem_singleton.1 hy with rfl
  exact absurd rfl hne
theorem OB {w0:World} {B0:Nat->Prop} (hI:Inv ⟨N,w0,M,B0⟩ V [] G none_ a w) (hr:fn.results=#[]) (hJ:V[n0]?=some (jV N B J))
  (hR:cz B0 w0 w->(∀k,B k->B0 k\/w0.heap.size<=k)->ij B w->aM M J w->R (.returned (.tuple #[])) w):bodyPost P fn R .ret a w:=by
 obtain⟨β,hI⟩:=hI
 obtain⟨jB,jJ,jN,jm⟩:=hI.PM hJ
 refine iN hI (results_none hr _ _ _) (hR hI.below (λk hk=>(jm k ((jB k).2 hk)).symm) (λk hk=>jN k ((jB k).2 hk)) (jJ.sub λk o _ hk=>⟨.inl hk,λhb=>gy hI (jm k hb) hk⟩))
end
end Wx
