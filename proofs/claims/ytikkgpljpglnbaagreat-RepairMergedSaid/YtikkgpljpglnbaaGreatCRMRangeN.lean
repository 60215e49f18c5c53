import Derived.Test.YtikkgpljpglnbaaGreatJRM26
namespace Wx
open Go Go.RowKit
def tv (l:Nat) (r:Loop):Rel:=λB w _=>(∀k,B k↔k=l)/\w.heap[l]?=some (.loop r)
abbrev dZ (id l:Nat) (r:Loop):Vr:=cN id id (tv l r)
def ux (N:Nat) (S:List Nat) (V:List Vr):Bool:=bj V&&V.all λx=>(S.contains x.slot||x.slot==N)&&decide (x.id<=N)
section
variable {P:Program} {Q:Exit->Act->World->Prop} {c:cM} {V:List Vr} {G:List aV} {β:Nat->Nat->Prop} {a a':Act} {w w':World}{id n0 l:Nat} {r:Loop}
theorem aT.GL (h:aT c V [] G none_ β a w) (hk:V[n0]?=some (dZ id l r)):(∀k,β id k↔k=l)/\w.heap[l]?=some (.loop r):=
 ((aK rfl).1 (h.var _ (List.mem_of_getElem? hk) rfl)).2.out
theorem aT.wT (r':Loop) (h:aT c V [] G none_ β a w) (hV:bj V=true) (hG:bV G=true) (hk:V[n0]?=some (dZ id l r)) (hu:dO V id n0=true):∃β',aT c (V.set n0 (dZ id l r')) [] G none_ β' a (w.putObj l (.loop r')):=by
 obtain⟨h1,h2⟩:=h.GL hk
 have hlt:l<w.heap.size:=(Array.getElem?_eq_some_iff.1 h2).1
 have hl2:(w.putObj l (.loop r')).heap[l]?=some (.loop r'):=World.putObj_heap_same hlt
 refine⟨_,h.move (B':=β id) (R':=tv l r') hV hG hk (eC hu) (lj _ ((h1 l).2 rfl)) (λk hk'=>.inl hk') (λk hk'=>?_) ?_⟩
 ·rw[World.putObj_size]
  obtain rfl:=(h1 k).1 hk'
  exact⟨hlt,λo v hv=>absurd hv (eG hl2 rfl v)⟩
 ·intro w'' he
  have hb:∀k,β id k->w''.heap[k]?=(w.putObj l (.loop r')).heap[k]?:=λk hk'=>he.block k (by rw[World.putObj_size]; obtain rfl:=(h1 k).1 hk'; omega) λo ho=>ho.2 hk'
  exact⟨h1,(hb l ((h1 l).2 rfl)).trans hl2⟩
variable {body:Code}
theorem Ly (hI:Inv c V [] G none_ a w) (n0:Nat) (hr:r.state=.ready) (h:∀w,Inv c (V.set n0 (dZ id l { r with state:=.busy })) [] G none_ a w->body.ww (some l) [] P Q a w)
  (hk:V[n0]?=some (dZ id l r):=by exact rfl) (hV:bj V=true:=by kernel_rfl) (hG:bV G=true:=by kernel_rfl) (hu:dO V id n0=true:=by kernel_rfl):BU l P body Q a w:=by
 obtain⟨β,hI⟩:=hI
 exact⟨_,run_beginRound (hI.GL hk).2 hr,h _ (hI.wT _ hV hG hk hu)⟩
variable {S:List Nat}
theorem Rs {a0:Act} (jump:Option Code) (hI:Inv c V [] (G++S.map (xo a0)) none_ a w) (hk:V[n0]?=some (dZ id l r)) (hV:bj V=true) (hG:bV G=true) (hu:dO V id n0=true)
  (OS:∀x,x∈V->x.slot∈S\/sl a x.slot=sl a0 x.slot) (yy:∀e,e∈G->e.slot∈S):
  ∃β' w4,(Instr.endRound l jump).run P w=.ok (.bool jump.isNone) w4/\cz c.gw c.w0 w4/\(∀k,fe (V.set n0 (dZ id l { r with state:=if jump.isNone then .ready else .done,pending:=jump })) β' k->mine c k) /\
   ij (fe (V.set n0 (dZ id l { r with state:=if jump.isNone then .ready else .done,pending:=jump })) β') w4/\aM c.M0 (Told a0 (V.set n0 (dZ id l { r with state:=if jump.isNone then .ready else .done,pending:=jump })) G β') w4:=by
 obtain⟨β,hI⟩:=hI
 have heq:∀s,s∈S->sl a0 s=sl a s:=λs hs=>((hI.gY (xo a0 s) (List.mem_append_right _ (List.mem_map.2 ⟨s,hs,rfl⟩)) rfl rfl).out:sl a s=sl a0 s).symm
 have yz:=hI.sR (G':=G) λe he=>List.mem_append_left _ he
 obtain⟨β',h4⟩:=yz.wT { r with state:=if jump.isNone then .ready else .done,pending:=jump } hV hG hk hu
 have L5:bj (V.set n0 (dZ id l { r with state:=if jump.isNone then .ready else .done,pending:=jump }))=true:=by
  unfold bj at hV ⊢
  rw[List.all_eq_true]at hV ⊢
  intro x hx
  rcases List.mem_or_eq_of_mem_set hx with hx|rfl
  ·exact hV x hx
  ·rfl
 refine⟨β',_,run_endRound jump (yz.GL hk).2,h4.below,λk hk'=>(h4.fc L5 hk').1,λk hk'=>(h4.fc L5 hk').2,(h4.told L5 hG).imp λw ht=>ht.act (λx hx=>?_) λe he=>heq _ (yy e he)⟩
 rcases List.mem_or_eq_of_mem_set hx with hx|rfl
 ·exact(OS x hx).elim (heq _) λh=>h.symm
 ·exact(OS (dZ id l r) (List.mem_of_getElem? hk)).elim (heq _) λh=>h.symm
variable {N:Nat}
theorem gD {V:List Vr} (h:ux N S V=true) (R:Rel):bj (V++[cN (N+1) (N+1) R])=true/\dO (V++[cN (N+1) (N+1) R]) (N+1) V.length=true:=by
 unfold ux at h
 simp only[Bool.and_eq_true,List.all_eq_true]at h
 refine⟨?_,?_⟩
 ·have h1:=h.1
  unfold bj at h1 ⊢
  rw[List.all_append,h1]
  rfl
 ·unfold dO
  rw[List.all_eq_true]
  rintro⟨y,n⟩ hy
  have hy:=List.mem_iff_getElem?.1 hy
  obtain⟨m,hm⟩:=hy
  simp only[List.getElem?_zipIdx]at hm
  cases hg:(V++[cN (N+1) (N+1) R])[m]? with
  |none=>rw[hg]at hm; cases hm
  |some z=>
   rw[hg]at hm
   simp only[Option.map_some,Option.some.injEq,Prod.mk.injEq]at hm
   obtain⟨rfl,rfl⟩:=hm
   rcases Nat.lt_or_ge m V.length with hlt|hge
   ·rw[List.getElem?_append_left hlt]at hg
    have h2:=(h.2 z (List.mem_of_getElem? hg)).2
    simp at h2
    simp; omega
   ·rw[List.getElem?_append_right hge]at hg
    have:m<V.length+1:=by
     rcases Nat.lt_or_ge m (V.length+1)with h3|h3
     ·exact h3
     ·rw[List.getElem?_eq_none (by simp; omega)]at hg; cases hg
    simp; omega
theorem aT.Ij (h:aT c V [] G none_ β a w) (hV:ux N S V=true) (hG:bV G=true):
  ∃β',aT c (V++[dZ (N+1) w.heap.size r]) [] G none_ β' a (w.alloc (.loop r)):=by
 have hv:=hV
 unfold ux at hV
 simp only[Bool.and_eq_true,List.all_eq_true]at hV
 have hid:∀y,y∈V->y.id≠N+1:=λy hy e=>by have:=(hV.2 y hy).2; simp at this; omega
 let β1:=jh β (N+1) λ_=>False
 have e1:∀y,y∈V->β1 y.id=β y.id:=λy hy=>rF (hid y hy)
 have eN:∀k,¬β1 (N+1) k:=λk h=>by rw[show β1 (N+1)=λ_=>False from mj]at h; exact h
 obtain⟨Z,hZ⟩:∃Z:Vr,Z=cN (N+1) (N+1) λB _ _=>∀k,¬B k:=⟨_,rfl⟩
 have hmem:∀y,y∈V++[Z]->y∈V\/y=Z:=λy hy=>by simpa using hy
 have hown:∀k o,own c (V++[Z]) none_ β1 k o->own c V none_ β k o:=by
  rintro k o (h1|⟨y,hy,h1,h2,h3⟩)
  ·exact .inl h1
  ·rcases hmem y hy with hy|rfl
   ·rw[e1 y hy]at h2
    exact .inr ⟨y,hy,h1,h2,h3⟩
   ·rw[hZ]at h2
    exact absurd h2 (eN k)
 have h1:aT c (V++[Z]) [] G none_ β1 a w:=by
  refine⟨h.size,h.defers,h.below,h.old,λy hy hl=>?_,λy y' g hy hy' hl hl' hne=>?_,(λp hp=>by cases hp),λe he ho hf=>(h.gY e he ho hf).sub λk o _ hk=>hown k o hk⟩
  ·rcases hmem y hy with hy|rfl
   ·exact(h.var y hy hl).keep rfl (e1 y hy) (λ_ _=>rfl) (Nat.le_refl _) (λ_ hF=>hF.sub λk o _ hk=>hown k o hk) (λ_ hF=>hF.sub λk o _ hk=>⟨hown k o hk.1,hk.2⟩) rfl
   ·subst hZ
    exact(aK rfl).2 ⟨λk hk=>absurd hk (eN k),λ_ _=>eN⟩
  ·rcases hmem y hy with hy|rfl<;>rcases hmem y' hy' with hy'|rfl
   ·rw[e1 y hy,e1 y' hy']
    exact h.apart y y' g hy hy' hl hl' hne
   ·subst hZ; exactλ_=>eN g
   ·subst hZ; exactλh2=>absurd h2 (eN g)
   ·exact absurd rfl hne
 obtain⟨hp1,hu⟩:=gD hv (λB _ _=>∀k,¬B k)
 rw[<-hZ]at hp1 hu
 have hb:Below w.heap.size w (w.alloc (.loop r)):=(Below.refl _ w).alloc (Nat.le_refl _) _
 have hl:(w.alloc (.loop r)).heap[w.heap.size]?=some (.loop r):=World.alloc_heap_new w _
 have hsz:(w.alloc (.loop r)).heap.size=w.heap.size+1:=by simp
 refine⟨_,by
  have:=h1.move (n0:=V.length) (id:=N+1) (s:=N+1) (R:=λB _ _=>∀k,¬B k) (B':=λk=>k=w.heap.size) (R':=tv w.heap.size r) hp1 hG (by rw[hZ]; exact ez) (eC hu) (cz.bI hb) (λk hk=>.inr (by omega)) (λk hk=>?_) ?_
  ·rw[jv]at this
   exact this
  ·subst hk
   exact⟨by omega,λo v hv=>absurd hv (eG hl rfl v)⟩
  ·intro w'' he
   have hn:∀k o,w.heap.size<=k->¬minus (own c (V++[Z]) none_ β1) (β1 (N+1)) k o:=λk o hk ho=>by
    rcases hown k o ho.1 with h5|⟨y,hy,h5,h6,_⟩
    ·have h7:=(h.old k o h5).1.1
     have h8:=h.below.size
     omega
    ·have:=(h.var y hy h5).blk h6
     omega
   exact⟨λ_=>Iff.rfl,(he.block _ (by omega) λo=>hn _ o (Nat.le_refl _)).trans hl⟩⟩
theorem Ev {τ:Type} {s y0 y1 n l0 D0:Nat} {r0:Loop} {p q:Nat->Pred} {cap:Array Value->World->Prop} {assign:Code} (Vk:Nat->τ->List Vr) (VX:Code->τ->List Vr) (G0:List aV) (S:List Nat) (t0:τ)
  (hI:Inv c (Vk 0 t0) [] G0 none_ a w) (ho:(Vk 0 t0)[n0]?=some (de c.N l0 D0 r0)) (hs:fD s G0=some (zk P n p q cap)) (Du:∀k t,ux c.N S (Vk k t)=true) (L6:∀cd t,ux c.N S (VX cd t)=true) (yy:Ec S G0=true) (LZ:CY c.N y0 y1 S=true) (hy:decide (y0<c.N)&&(decide (y1<c.N)&&y0 != y1)=true)
  (round:∀k t w0 M1 B1 a1 w1 l r,k<n->r.state=.ready->Inv ⟨c.N,w0,M1,B1⟩ (Vk k t++[dZ (c.N+1) l r]) [] (⟨none,none,y1,q k⟩::⟨none,none,y0,p k⟩::(G0++S.map (xo a))) none_ a1 w1 ->
   assign.ww (some l) [] P (Exit.then (BU l P body (N0 ⟨c.N,w0,M1,B1⟩ (Vk (k+1)) VX (G0++S.map (xo a)) (dZ (c.N+1) l { r with state:=.busy }))) λ_ _ _=>False) a1 w1)
  (done:∀t w l r,Inv c (Vk n t++[dZ (c.N+1) l r]) [] G0 none_ a w->Q .normal a w)
  (stop:∀cd t w l r,Inv c (VX cd t++[dZ (c.N+1) l r]) [] G0 none_ a w->cd.ww (some l0) [] P Q a w):
  (Code.rangeFunc (.tmp s) #[y0,y1] assign body).ww (some l0) [] P Q a w:=by
 intro m0
 obtain⟨β0,h0⟩:=hI
 have I1:bV G0=true:=by unfold Ec at yy; simp only[Bool.and_eq_true]at yy; exact yy.1
 have OJ:∀e,e∈G0->e.slot∈S:=by
  unfold Ec at yy
  simp only[Bool.and_eq_true,List.all_eq_true,List.contains_iff_mem]at yy
  exact yy.2
 have OV:∀{V:List Vr},ux c.N S V=true->(∀x,x∈V->x.slot∈S\/x.slot=c.N):=λhV=>by
  unfold ux at hV
  simp only[Bool.and_eq_true,List.all_eq_true,Bool.or_eq_true,List.contains_iff_mem,beq_iff_eq]at hV
  exactλx hx=>(hV.2 x hx).1
 have L3:∀s,s∈S->s<c.N/\s≠y0/\s≠y1:=by
  unfold CY at LZ
  simp only[Bool.and_eq_true,List.all_eq_true,decide_eq_true_eq,bne_iff_ne]at LZ
  exact LZ
 simp only[Bool.and_eq_true,decide_eq_true_eq,bne_iff_ne]at hy
 obtain⟨hy0,wH,SY⟩:=hy
 obtain⟨k0,lZ⟩:=dn hs
 have Mr:zk P n p q cap w (sl a s):=(h0.gY _ (List.mem_of_getElem? lZ) rfl rfl).out
 obtain⟨g,lb,hv,hce,hseq,_⟩:=Mr
 refine wpIn_rangeFunc λfn hfn=>?_
 obtain⟨rec,jR⟩:∃rec:LoopState->Option Code->Loop,rec=λst pe=>{ state:=st,pending:=pe,fn,tmps:=a.tmps,params:=#[y0,y1],assign,body,defers:=r0.defers }:=⟨_,rfl⟩
 obtain⟨β1,h1⟩:=h0.Ij (r:=rec .ready none) (Du 0 t0) I1
 obtain⟨W1,hW1⟩:∃W1,w.alloc (.loop (rec .ready none))=W1:=⟨_,rfl⟩
 rw[hW1]at h1
 obtain⟨l,hl⟩:∃l,l=w.heap.size:=⟨_,rfl⟩
 rw[<-hl]at h1
 have hp1:=(gD (Du 0 t0) (tv l (rec .ready none))).1
 refine⟨l,[],W1,{ target:=.fn (.func g) lb,args:=#[.func (.yield l) #[] #[]] },W1,g,#[.func (.yield l) #[] #[]]++lb,W1,?_,?_,λ_ _=>trivial,?_,λh=>(by cases h),?_⟩
 ·rw[<-hW1,jR,hl]; exact run_enterLoop_inner (h0.Bv ho).2.1 _ _ _ _ _
 ·have hg:(kH [] a).eval (.tmp s)=.func (.func g) #[] lb:=hv
  simp only[resolve,hg]
  simp[go_sem]
 ·simp[invoke,go_sem,hce _ _]
 let J:Nat->St τ->World->Prop:=λk s w=>s.B=fe (Vk k s.t++[dZ (c.N+1) l (rec .ready none)]) s.β/\Told a (Vk k s.t++[dZ (c.N+1) l (rec .ready none)]) G0 s.β w
 let X:St τ->World->Prop:=λs w=>s.B=fe (VX s.cd s.t++[dZ (c.N+1) l (rec .done (some s.cd))]) s.β/\Told a (VX s.cd s.t++[dZ (c.N+1) l (rec .done (some s.cd))]) G0 s.β w
 let s0:St τ:=⟨fe (Vk 0 t0++[dZ (c.N+1) l (rec .ready none)]) β1,β1,t0,.skip⟩
 have hm0:∀k,s0.B k->mine c k:=λk hk=>(h1.fc hp1 hk).1
 refine pF (Calls.mono (hseq (St τ) l c.M0 St.B J X s0 W1 (λk o hk=>⟨Nat.lt_of_lt_of_le (h1.old k o hk).1.1 h1.below.size,(h1.old k o hk).2⟩) (λk hk o=>gy h1 (hm0 k hk)) (λk hk=>(h1.fc hp1 hk).2) ((h1.told hp1 I1).imp λ_ h=>⟨rfl,h⟩) ?_ ?_) ?_)
 ·intro w' he
  have hb:aM (λk o=>c.M0 k o\/s0.B k) (λw=>zk P n p q cap w (sl a s)) W1:=(h1.gY _ (List.mem_of_getElem? lZ) rfl rfl).sub λk o _ hk=>hk.elim .inl λ⟨x,hx,kF⟩=>.inr ⟨x,hx,(bq hp1 hx).1,kF,by rw[(bq hp1 hx).2.1]; exact Nat.zero_le _⟩
  obtain⟨g',lb',e',_,_,hc'⟩:=hb w' he
  have e2:Value.func (.func g) #[] lb=Value.func (.func g') #[] lb':=hv.symm.trans e'
  injection e2 with _ _ e3
  rw[e3]; exact hc'
 ·-- one round
  intro k st M' w' v0 v1 hk hM Md hno hJ hp hq m
  obtain⟨hB,VS⟩:=hJ.out
  have hT:aM M' (Told a (Vk k st.t++[dZ (c.N+1) l (rec .ready none)]) G0 st.β) w':=hJ.imp λ_ h=>h.2
  have hpk:=gD (Du k st.t) (tv l (rec .ready none))
  have i1:aT ⟨c.N,w',M',st.B⟩ (Vk k st.t++[dZ (c.N+1) l (rec .ready none)]) [] G0 none_ st.β a w':=Told.inv (c:=⟨c.N,w',M',st.B⟩) hT hpk.1 h0.size h0.defers (λk hk=>.inr (by show st.B k; rw[hB]; exact hk)) (cz.refl _ _) λk o hk=>⟨⟨(hM k o hk).1,λhb=>Md k hb o hk⟩,(hM k o hk).2⟩
  have hown:∀k' o,own ⟨c.N,w',M',st.B⟩ (Vk k st.t++[dZ (c.N+1) l (rec .ready none)]) none_ st.β k' o->M' k' o\/st.B k':=λk' o h=>h.elim .inl λ⟨x,hx,_,hb,_⟩=>.inr (by rw[hB]; exact⟨x,hx,hb⟩)
  have nV:∀y,y<c.N->(y=y0\/y=y1)->∀x,x∈Vk k st.t++[dZ (c.N+1) l (rec .ready none)]->x.slot≠y:=λy WV hy x hx e=>by
   rcases List.mem_append.1 hx with hx|hx
   ·rcases OV (Du k st.t) x hx with h5|h5
    ·have:=L3 _ h5
     rcases hy with rfl|rfl<;>simp_all
    ·omega
   ·rw[List.mem_singleton]at hx
    subst hx
    have e:c.N+1=y:=e
    omega
  have nG:∀y,(y=y0\/y=y1)->∀e,e∈G0++S.map (xo a)->e.slot≠y:=λy hy e he=>by
   rcases List.mem_append.1 he with he|he
   ·have:=L3 _ (OJ e he)
    rcases hy with rfl|rfl<;>simp_all
   ·obtain⟨s',hs',rfl⟩:=List.mem_map.1 he
    have:=L3 _ hs'
    show s'≠y
    rcases hy with rfl|rfl<;>simp_all
  have i2:=(i1.Lh S).nu (d:=y0) (p:=p k) (v:=v0) hy0 (nV y0 hy0 (.inl rfl)) (nG y0 (.inl rfl)) (hp.eqv hown)
  have i3:=i2.nu (d:=y1) (p:=q k) (v:=v1) wH (nV y1 wH (.inr rfl)) (λe he=>by
   rcases List.mem_cons.1 he with rfl|he
   ·exact SY
   ·exact nG y1 (.inr rfl) e he) (hq.eqv hown)
  have hrd:=(i1.GL (n0:=(Vk k st.t).length) ez).2
  have KL:=run_yield (P:=P) (args:=#[v0,v1]) hrd (by rw[jR]; rfl)
  rw[jR]at KL
  refine⟨fn,_,assign,body,KL,roundIn_of_wpIn (F:=zU none) trivial ?_⟩
  have hr:=round k st.t w' M' st.B _ w' l (rec .ready none) hk (by rw[jR]) ⟨_,i3⟩ m
  have ea:kH [] ((a.put (some y0) v0).put (some y1) v1)={ tmps:=(#[y0,y1].zip #[v0,v1]).foldl (λt (x:Nat×Value)=>t.setIfInBounds x.1 x.2) a.tmps,defers:=[] }:=by
   have:=h0.defers
   cases a
   simp only at this
   subst this
   simp[kH,Act.put]
  rw[ea]at hr
  refine wpIn_mono hr ?_
  rintro e a2 w2 ⟨a3,rfl,h2⟩
  cases e with
  |normal=>
   obtain⟨w3,hb3,hbody⟩:=h2
   refine⟨w3,hb3,wpIn_mono (hbody m) ?_⟩
   have fin:∀(V':List Vr) (jump:Option Code) (a4:Act) (w4:World),ux c.N S V'=true->Inv ⟨c.N,w',M',st.B⟩ (V'++[dZ (c.N+1) l { rec .ready none with state:=.busy }]) [] (G0++S.map (xo a)) none_ a4 w4 ->
     ∃β' w5,(Instr.endRound l jump).run P w4=.ok (.bool jump.isNone) w5/\cz st.B w' w5/\(∀k,fe (V'++[dZ (c.N+1) l (rec (if jump.isNone then .ready else .done) jump)]) β' k->st.B k\/w'.heap.size<=k) /\
      ij (fe (V'++[dZ (c.N+1) l (rec (if jump.isNone then .ready else .done) jump)]) β') w5/\aM M' (Told a (V'++[dZ (c.N+1) l (rec (if jump.isNone then .ready else .done) jump)]) G0 β') w5:=by
    intro V' jump a4 w4 IL um
    have Pw:=gD IL (tv l { rec .ready none with state:=.busy })
    have hbig:∀s,c.N<=s->sl a4 s=sl a s:=λs hs=>by
     obtain⟨β4,um⟩:=um
     have s4:a4.tmps.size=c.N:=um.size
     have s5:a.tmps.size=c.N:=h0.size
     unfold sl
     simp[Array.getD,s4,s5,show ¬s<c.N by omega]
    obtain⟨β',w5,k1,k2,k3,k4,k5⟩:=Rs jump um ez Pw.1 I1 Pw.2 (λx hx=>by
     rcases List.mem_append.1 hx with hx|hx
     ·rcases OV IL x hx with h5|h5
      ·exact .inl h5
      ·exact .inr (hbig _ (by omega))
     ·rw[List.mem_singleton]at hx
      subst hx
      exact .inr (hbig _ (Nat.le_succ _))) OJ
    rw[jv]at k3 k4 k5
    rw[jR]at *
    exact⟨β',w5,k1,k2,λk hk=>(k3 k hk).elim .inr .inl,k4,k5⟩
   rintro e a5 w4 ⟨a4,rfl,h4⟩
   cases e with
   |normal=>
    obtain⟨t',um⟩:=h4
    obtain⟨β',w5,k1,k2,k3,k4,k5⟩:=fin _ none a4 w4 (Du (k+1) t') um
    exact⟨_,w5,k1,true,rfl,⟨_,β',t',.skip⟩,k2,k3,k4,k5.imp λ_ h=>⟨rfl,h⟩⟩
   |ret=>
    obtain⟨t',um⟩:=h4
    obtain⟨β',w5,k1,k2,k3,k4,k5⟩:=fin _ (some .ret) a4 w4 (L6 .ret t') um
    exact⟨_,w5,k1,false,rfl,⟨_,β',t',.ret⟩,k2,k3,k4,k5.imp λ_ h=>⟨rfl,h⟩⟩
   |exit id=>
    obtain⟨t',um⟩:=h4
    obtain⟨β',w5,k1,k2,k3,k4,k5⟩:=fin _ (some (.exit id)) a4 w4 (L6 (.exit id) t') um
    exact⟨_,w5,k1,false,rfl,⟨_,β',t',.exit id⟩,k2,k3,k4,k5.imp λ_ h=>⟨rfl,h⟩⟩
   |goto t=>exact h4.elim
   |panic ch=>exact h4.elim
   |outgrown=>exact h4.elim
  |exit id=>exact h2.elim
  |goto t=>exact h2.elim
  |ret=>exact h2.elim
  |panic ch=>exact h2.elim
  |outgrown=>exact h2.elim
 ·-- behind the iterator
  rintro e w3 ⟨v,s',rfl,hle,hnew,hno,RK⟩
  obtain⟨hb,ho⟩:=uZ h1 hle hm0
  have hm:∀k,s'.B k->mine c k:=λk hk=>(hnew k hk).elim (hm0 k) λh=>.inl (Nat.le_trans h1.below.size h)
  have back:∀(V':List Vr) (r:Loop),ux c.N S V'=true->s'.B=fe (V'++[dZ (c.N+1) l r]) s'.β->aM c.M0 (Told a (V'++[dZ (c.N+1) l r]) G0 s'.β) w3->r.state≠.busy ->
    ∃w4,(Instr.endLoop l).run P w3=.ok r.pending w4/\Inv c (V'++[dZ (c.N+1) l { r with state:=.exhausted }]) [] G0 none_ a w4:=by
   intro V' r IL hB hT hr
   have hp:=gD IL (tv l r)
   have i3:aT c (V'++[dZ (c.N+1) l r]) [] G0 none_ s'.β a w3:=Told.inv hT hp.1 h0.size h0.defers (λk hk=>hm k (by rw[hB]; exact hk)) hb ho
   obtain⟨β4,i4⟩:=i3.wT { r with state:=.exhausted } hp.1 I1 ez hp.2
   rw[jv]at i4
   exact⟨_,run_endLoop (i3.GL (n0:=V'.length) ez).2 hr,β4,i4⟩
  rcases RK with hJ|hX
  ·obtain⟨w4,k1,k2⟩:=back _ _ (Du n s'.t) hJ.out.1 (hJ.imp λ_ h=>h.2) (by rw[jR]; simp)
   refine⟨_,w4,k1,?_⟩
   rw[jR]
   exact⟨_,rfl,done _ _ _ _ k2⟩
  ·obtain⟨w4,k1,k2⟩:=back _ _ (L6 s'.cd s'.t) hX.out.1 (hX.imp λ_ h=>h.2) (by rw[jR]; simp)
   refine⟨_,w4,k1,?_⟩
   rw[jR]
   exact stop _ _ _ _ _ k2 m0
end
end Wx
