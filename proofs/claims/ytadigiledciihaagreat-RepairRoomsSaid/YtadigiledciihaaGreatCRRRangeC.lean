import Derived.Test.YtadigiledciihaaGreatJRR30
namespace Wx
open Go Go.RowKit
structure St (τ:Type) where
 B:Nat->Prop
 β:Nat->Nat->Prop
 t:τ
 cd:Code
def IY (N y0 y1:Nat) (S:List Nat):Bool:=S.all λs=>decide (s<N)&&(s != y0&&s != y1)
def sO (N:Nat) (S:List Nat) (V:List Vr):Bool:=b8 V&&V.all λx=>S.contains x.slot&&decide (x.id<N)
def KB (S:List Nat) (G:List aV):Bool:=cW G&&G.all λe=>S.contains e.slot
def Of {τ:Type} (c1:dg) (V':τ->List Vr) (VX:Code->τ->List Vr) (G:List aV) (Ox:Vr):Exit->Act->World->Prop
 |.normal,a,w=>∃t,Inv c1 (V' t++[Ox]) [] G none_ a w
 |.ret,a,w=>∃t,Inv c1 (VX .ret t++[Ox]) [] G none_ a w
 |.exit id,a,w=>∃t,Inv c1 (VX (.exit id) t++[Ox]) [] G none_ a w
 |_,_,_=>False
variable {α:Type} {l:List α} {x:α}
theorem r7 {y:α}:(l++[x]).set l.length y=l++[y]:=by simp
theorem kQ:(l++[x])[l.length]?=some x:=by simp
section
variable {P:Program} {Q:Exit->Act->World->Prop} {c:dg} {V:List Vr} {G:List aV} {β:Nat->Nat->Prop} {a a':Act} {w w':World}{N:Nat} {S:List Nat}
theorem gZ {V:List Vr} (h:sO N S V=true) (l D:Nat) (r:Loop):b8 (V++[dH N l D r])=true/\fW (V++[dH N l D r]) N V.length=true:=by
 unfold sO at h
 simp only[Bool.and_eq_true,List.all_eq_true]at h
 refine⟨?_,?_⟩
 ·have h1:=h.1
  unfold b8 at h1 ⊢
  rw[List.all_append,h1]
  rfl
 ·unfold fW
  rw[List.all_eq_true]
  rintro⟨y,n⟩ hy
  have hy:=List.mem_iff_getElem?.1 hy
  obtain⟨m,hm⟩:=hy
  simp only[List.getElem?_zipIdx]at hm
  cases hg:(V++[dH N l D r])[m]? with
  |none=>rw[hg]at hm; cases hm
  |some z=>
   rw[hg]at hm
   simp only[Option.map_some,Option.some.injEq,Prod.mk.injEq]at hm
   obtain⟨rfl,rfl⟩:=hm
   rcases Nat.lt_or_ge m V.length with hlt|hge
   ·rw[List.getElem?_append_left hlt]at hg
    have h2:=(h.2 z (List.mem_of_getElem? hg)).2
    simp at h2
    simp; omega
   ·rw[List.getElem?_append_right hge]at hg
    have:m<V.length+1:=by
     rcases Nat.lt_or_ge m (V.length+1)with h3|h3
     ·exact h3
     ·rw[List.getElem?_eq_none (by simp; omega)]at hg; cases hg
    simp; omega
theorem aW.Je {r:Loop} (h:aW c V [] G none_ β a w) (hV:sO N S V=true) (hG:cW G=true):
  ∃β',aW c (V++[dH N (w.heap.size+1) w.heap.size r]) [] G none_ β' a ((w.alloc (.deferred (some []))).alloc (.loop r)):=by
 have hv:=hV
 unfold sO at hV
 simp only[Bool.and_eq_true,List.all_eq_true]at hV
 have hid:∀y,y∈V->y.id≠N:=λy hy e=>by have:=(hV.2 y hy).2; simp at this; omega
 let β1:=jn β N λ_=>False
 have e1:∀y,y∈V->β1 y.id=β y.id:=λy hy=>ve (hid y hy)
 have eN:∀k,¬β1 N k:=λk h=>by rw[show β1 N=λ_=>False from oI]at h; exact h
 have hmem:∀y,y∈V++[dP N N λB _ _=>∀k,¬B k]->y∈V\/y=dP N N λB _ _=>∀k,¬B k:=λy hy=>by simpa using hy
 have hown:∀k o,own c (V++[dP N N λB _ _=>∀k,¬B k]) none_ β1 k o->own c V none_ β k o:=by
  rintro k o (h1|⟨y,hy,h1,h2,h3⟩)
  ·exact .inl h1
  ·rcases hmem y hy with hy|rfl
   ·rw[e1 y hy]at h2
    exact .inr ⟨y,hy,h1,h2,h3⟩
   ·exact absurd h2 (eN k)
 have h1:aW c (V++[dP N N λB _ _=>∀k,¬B k]) [] G none_ β1 a w:=by
  refine⟨h.size,h.defers,h.below,h.old,λy hy hl=>?_,λy y' g hy hy' hl hl' hne=>?_,(λp hp=>by cases hp),λe he ho hf=>(h.iU e he ho hf).sub λk o _ hk=>hown k o hk⟩
  ·rcases hmem y hy with hy|rfl
   ·exact(h.var y hy hl).keep rfl (e1 y hy) (λ_ _=>rfl) (Nat.le_refl _) (λ_ hF=>hF.sub λk o _ hk=>hown k o hk) (λ_ hF=>hF.sub λk o _ hk=>⟨hown k o hk.1,hk.2⟩) rfl
   ·exact(aN rfl).2 ⟨λk hk=>absurd hk (eN k),λ_ _=>eN⟩
  ·rcases hmem y hy with hy|rfl<;>rcases hmem y' hy' with hy'|rfl
   ·rw[e1 y hy,e1 y' hy']
    exact h.apart y y' g hy hy' hl hl' hne
   ·exactλ_=>eN g
   ·exactλh2=>absurd h2 (eN g)
   ·exact absurd rfl hne
 obtain⟨hp,hu⟩:=gZ hv (w.heap.size+1) w.heap.size r
 have hp1:b8 (V++[dP N N λB _ _=>∀k,¬B k])=true:=by
  have h2:=hV.1
  unfold b8 at h2 ⊢
  rw[List.all_append,h2]
  rfl
 have P8:∀(y:Vr) (n:Nat),(V++[dP N N λB _ _=>∀k,¬B k])[n]?=some y->y.id=N->n=V.length:=by
  intro y n hn hy
  rcases Nat.lt_or_ge n V.length with hlt|hge
  ·rw[List.getElem?_append_left hlt]at hn
   exact absurd hy (hid y (List.mem_of_getElem? hn))
  ·have:=(List.getElem?_eq_some_iff.1 hn).1
   simp at this
   omega
 have hb:Below w.heap.size w ((w.alloc (.deferred (some []))).alloc (.loop r)):=((Below.refl _ w).alloc (Nat.le_refl _) _).alloc (by simp) _
 have hsz:((w.alloc (.deferred (some []))).alloc (.loop r)).heap.size=w.heap.size+2:=by simp
 have hl:((w.alloc (.deferred (some []))).alloc (.loop r)).heap[w.heap.size+1]?=some (.loop r):=by
  have:=World.alloc_heap_new (w.alloc (.deferred (some []))) (.loop r); rwa [World.size_alloc]at this
 have hd:((w.alloc (.deferred (some []))).alloc (.loop r)).heap[w.heap.size]?=some (.deferred (some [])):=
  (Below.heap_alloc _ _ _ (by simp)).trans (World.alloc_heap_new w _)
 refine⟨_,by
  have:=h1.move (n0:=V.length) (B':=λk=>k=w.heap.size+1\/k=w.heap.size) (R':=Kq (w.heap.size+1) w.heap.size r) hp1 hG kQ P8 (cN.ct hb) (λk hk=>.inr (by omega)) (λk hk=>?_) ?_
  ·rw[r7]at this
   exact this
  ·rcases hk with rfl|rfl
   ·exact⟨by omega,λo v hv=>absurd hv (gF hl rfl v)⟩
   ·exact⟨by omega,λo v hv=>absurd hv (gF hd rfl v)⟩
  ·intro w'' he
   have hn:∀k o,w.heap.size<=k->¬minus (own c (V++[dP N N λB _ _=>∀k,¬B k]) none_ β1) (β1 N) k o:=λk o hk ho=>by
    rcases hown k o ho.1 with h5|⟨y,hy,h5,h6,_⟩
    ·have h7:=(h.old k o h5).1.1
     have h8:=h.below.size
     omega
    ·have:=(h.var y hy h5).blk h6
     omega
   exact⟨λ_=>Iff.rfl,(he.block _ (by omega) λo=>hn _ o (by omega)).trans hl,(he.block _ (by omega) λo=>hn _ o (by omega)).trans hd,by omega⟩⟩
theorem BR {A:List Al} {L:Nat->Bool} {B:Nat->Prop} (h:aW c V A G L β a w) (hle:cN B w w') (hm:∀k,B k->mine c k):cN c.gR c.w0 w'/\∀k o,c.M0 k o->(k<c.w0.heap.size/\¬c.gR k)/\∀v,w'.cell? ⟨k,o,none⟩=some v->gK v:=by
 refine⟨⟨hle.os.trans h.below.os,hle.tape.trans h.below.tape,hle.output.trans h.below.output,Nat.le_trans h.below.size hle.size,λk hk hn=>(hle.block k (Nat.lt_of_lt_of_le hk h.below.size) λhb=>(hm k hb).elim (λh3=>by omega) hn).trans (h.below.block k hk hn)⟩,λk o h0=>⟨(h.old k o h0).1,λv hv=>(h.old k o h0).2 v ?_⟩⟩
 rw[World.cell?_of_block (w:=w) (a:=⟨k,o,none⟩) (hle.block k (Nat.lt_of_lt_of_le (h.old k o h0).1.1 h.below.size) λhb=>gT h (hm k hb) h0)]at hv
 exact hv
theorem aP.eqv {M M':Nat->Nat->Prop} {F:World->Prop} (h:aP M F w) (hm:∀k o,M' k o->M k o):aP M' F w:=h.sub λk o _ hk=>hm k o hk
abbrev coll (D:Nat):Deferred:={ target:=.collected D,args:=#[] }
theorem sr {τ:Type} {s y0 y1 n:Nat} {p q:Nat->Pred} {cap:Array Value->World->Prop} {assign body:Code} (Vk:Nat->τ->List Vr) (VX:Code->τ->List Vr) (G0:List aV) (S:List Nat) (t0:τ)
  (hI:Inv c (Vk 0 t0) [] G0 none_ a w) (hs:gB s G0=some (Er P n p q cap)) (KT:∀k t,sO c.N S (Vk k t)=true) (OZ:∀cd t,sO c.N S (VX cd t)=true) (Ic:KB S G0=true) (OU:IY c.N y0 y1 S=true) (hy:decide (y0<c.N)&&(decide (y1<c.N)&&y0 != y1)=true)
  (round:∀k t w0 M1 B1 a1 w1 D l r,k<n->r.state=.ready->Inv ⟨c.N,w0,M1,B1⟩ (Vk k t++[dH c.N l D r]) [] (⟨none,none,y1,q k⟩::⟨none,none,y0,p k⟩::(G0++S.map (Fk a))) none_ a1 w1 ->
   assign.ww (some l) [] P (Exit.then (Hp l P body (Of ⟨c.N,w0,M1,B1⟩ (Vk (k+1)) VX (G0++S.map (Fk a)) (dH c.N l D { r with state:=.busy }))) λ_ _ _=>False) a1 w1)
  (done:∀t w D l r,Inv c (Vk n t++[dH c.N l D r]) [] G0 none_ a w->Q .normal (l8 [coll D] a) w)
  (stop:∀cd t w D l r,Inv c (VX cd t++[dH c.N l D r]) [] G0 none_ a w->cd.ww none [] P Q (l8 [coll D] a) w):
  (Code.rangeFunc (.tmp s) #[y0,y1] assign body).ww none [] P Q a w:=by
 intro n0
 obtain⟨β0,h0⟩:=hI
 have NJ:cW G0=true:=by unfold KB at Ic; simp only[Bool.and_eq_true]at Ic; exact Ic.1
 have Rm:∀e,e∈G0->e.slot∈S:=by
  unfold KB at Ic
  simp only[Bool.and_eq_true,List.all_eq_true,List.contains_iff_mem]at Ic
  exact Ic.2
 have Rx:∀{V:List Vr},sO c.N S V=true->(∀x,x∈V->x.slot∈S):=λhV=>by
  unfold sO at hV
  simp only[Bool.and_eq_true,List.all_eq_true,List.contains_iff_mem]at hV
  exactλx hx=>(hV.2 x hx).1
 have OV:∀s,s∈S->s<c.N/\s≠y0/\s≠y1:=by
  unfold IY at OU
  simp only[Bool.and_eq_true,List.all_eq_true,decide_eq_true_eq,bne_iff_ne]at OU
  exact OU
 simp only[Bool.and_eq_true,decide_eq_true_eq,bne_iff_ne]at hy
 obtain⟨hy0,sA,T4⟩:=hy
 obtain⟨k0,yb⟩:=en hs
 have Mx:Er P n p q cap w (sl a s):=(h0.iU _ (List.mem_of_getElem? yb) rfl rfl).out
 obtain⟨g,lb,hv,hce,hseq,_⟩:=Mx
 refine wpIn_rangeFunc λfn hfn=>?_
 obtain⟨rec,uI⟩:∃rec:LoopState->Option Code->Loop,rec=λst pe=>{ state:=st,pending:=pe,fn,tmps:=a.tmps,params:=#[y0,y1],assign,body,defers:=w.heap.size }:=⟨_,rfl⟩
 obtain⟨β1,h1⟩:=h0.Je (r:=rec .ready none) (KT 0 t0) NJ
 obtain⟨W1,hW1⟩:∃W1,(w.alloc (.deferred (some []))).alloc (.loop (rec .ready none))=W1:=⟨_,rfl⟩
 rw[hW1]at h1
 obtain⟨l,hl⟩:∃l,l=w.heap.size+1:=⟨_,rfl⟩
 obtain⟨D,hD⟩:∃D,D=w.heap.size:=⟨_,rfl⟩
 rw[<-hl,<-hD]at h1
 have hp1:=(gZ (KT 0 t0) l D (rec .ready none)).1
 refine⟨l,[coll D],W1,{ target:=.fn (.func g) lb,args:=#[.func (.yield l) #[] #[]] },W1,g,#[.func (.yield l) #[] #[]]++lb,W1,?_,?_,λ_ _=>trivial,?_,λh=>(by cases h),?_⟩
 ·rw[<-hW1,uI,hl,hD]; exact run_enterLoop_outer _ _ _ _ _
 ·have hg:(l8 [] a).eval (.tmp s)=.func (.func g) #[] lb:=hv
  simp only[resolve,hg]
  simp[go_sem]
 ·simp[invoke,go_sem,hce _ _]
 let J:Nat->St τ->World->Prop:=λk s w=>s.B=iK (Vk k s.t++[dH c.N l D (rec .ready none)]) s.β/\Told a (Vk k s.t++[dH c.N l D (rec .ready none)]) G0 s.β w
 let X:St τ->World->Prop:=λs w=>s.B=iK (VX s.cd s.t++[dH c.N l D (rec .done (some s.cd))]) s.β/\Told a (VX s.cd s.t++[dH c.N l D (rec .done (some s.cd))]) G0 s.β w
 let s0:St τ:=⟨iK (Vk 0 t0++[dH c.N l D (rec .ready none)]) β1,β1,t0,.skip⟩
 have hm0:∀k,s0.B k->mine c k:=λk hk=>(h1.iJ hp1 hk).1
 refine s9 (Calls.mono (hseq (St τ) l c.M0 St.B J X s0 W1 (λk o hk=>⟨Nat.lt_of_lt_of_le (h1.old k o hk).1.1 h1.below.size,(h1.old k o hk).2⟩) (λk hk o=>gT h1 (hm0 k hk)) (λk hk=>(h1.iJ hp1 hk).2) ((h1.told hp1 NJ).imp λ_ h=>⟨rfl,h⟩) ?_ ?_) ?_)
 ·intro w' he
  have hb:aP (λk o=>c.M0 k o\/s0.B k) (λw=>Er P n p q cap w (sl a s)) W1:=(h1.iU _ (List.mem_of_getElem? yb) rfl rfl).sub λk o _ hk=>hk.elim .inl λ⟨x,hx,fO⟩=>.inr ⟨x,hx,(bG hp1 hx).1,fO,by rw[(bG hp1 hx).2.1]; exact Nat.zero_le _⟩
  obtain⟨g',lb',e',_,_,hc'⟩:=hb w' he
  have e2:Value.func (.func g) #[] lb=Value.func (.func g') #[] lb':=hv.symm.trans e'
  injection e2 with _ _ e3
  rw[e3]; exact hc'
 ·-- one round
  intro k st M' w' v0 v1 hk hM Pq hno hJ hp hq m
  obtain⟨hB,hT0⟩:=hJ.out
  have hT:aP M' (Told a (Vk k st.t++[dH c.N l D (rec .ready none)]) G0 st.β) w':=hJ.imp λ_ h=>h.2
  have hpk:=gZ (KT k st.t) l D (rec .ready none)
  have i1:aW ⟨c.N,w',M',st.B⟩ (Vk k st.t++[dH c.N l D (rec .ready none)]) [] G0 none_ st.β a w':=Told.inv (c:=⟨c.N,w',M',st.B⟩) hT hpk.1 h0.size h0.defers (λk hk=>.inr (by show st.B k; rw[hB]; exact hk)) (cN.refl _ _) λk o hk=>⟨⟨(hM k o hk).1,λhb=>Pq k hb o hk⟩,(hM k o hk).2⟩
  have hown:∀k' o,own ⟨c.N,w',M',st.B⟩ (Vk k st.t++[dH c.N l D (rec .ready none)]) none_ st.β k' o->M' k' o\/st.B k':=λk' o h=>h.elim .inl λ⟨x,hx,_,hb,_⟩=>.inr (by rw[hB]; exact⟨x,hx,hb⟩)
  have nV:∀y,y<c.N->(y=y0\/y=y1)->∀x,x∈Vk k st.t++[dH c.N l D (rec .ready none)]->x.slot≠y:=λy hyN hy x hx e=>by
   rcases List.mem_append.1 hx with hx|hx
   ·have:=OV _ (Rx (KT k st.t) x hx)
    rcases hy with rfl|rfl<;>simp_all
   ·rw[List.mem_singleton]at hx
    subst hx
    have e:c.N=y:=e
    omega
  have nG:∀y,(y=y0\/y=y1)->∀e,e∈G0++S.map (Fk a)->e.slot≠y:=λy hy e he=>by
   rcases List.mem_append.1 he with he|he
   ·have:=OV _ (Rm e he)
    rcases hy with rfl|rfl<;>simp_all
   ·obtain⟨s',hs',rfl⟩:=List.mem_map.1 he
    have:=OV _ hs'
    show s'≠y
    rcases hy with rfl|rfl<;>simp_all
  have i2:=(i1.Ng S).oF (d:=y0) (p:=p k) (v:=v0) hy0 (nV y0 hy0 (.inl rfl)) (nG y0 (.inl rfl)) (hp.eqv hown)
  have i3:=i2.oF (d:=y1) (p:=q k) (v:=v1) sA (nV y1 sA (.inr rfl)) (λe he=>by
   rcases List.mem_cons.1 he with rfl|he
   ·exact T4
   ·exact nG y1 (.inr rfl) e he) (hq.eqv hown)
  have hrd:=(i1.Cl (n0:=(Vk k st.t).length) kQ).2.1
  have MM:=run_yield (P:=P) (args:=#[v0,v1]) hrd (by rw[uI]; rfl)
  rw[uI]at MM
  refine⟨fn,_,assign,body,MM,roundIn_of_wpIn (F:=yH none) trivial ?_⟩
  have hr:=round k st.t w' M' st.B _ w' D l (rec .ready none) hk (by rw[uI]) ⟨_,i3⟩ m
  have ea:l8 [] ((a.put (some y0) v0).put (some y1) v1)={ tmps:=(#[y0,y1].zip #[v0,v1]).foldl (λt (x:Nat×Value)=>t.setIfInBounds x.1 x.2) a.tmps,defers:=[] }:=by
   have:=h0.defers
   cases a
   simp only at this
   subst this
   simp[l8,Act.put]
  rw[ea]at hr
  refine wpIn_mono hr ?_
  rintro e a2 w2 ⟨a3,rfl,h2⟩
  cases e with
  |normal=>
   obtain⟨w3,hb3,hbody⟩:=h2
   refine⟨w3,hb3,wpIn_mono (hbody m) ?_⟩
   have fin:∀(V':List Vr) (jump:Option Code) (a4:Act) (w4:World),sO c.N S V'=true->Inv ⟨c.N,w',M',st.B⟩ (V'++[dH c.N l D { rec .ready none with state:=.busy }]) [] (G0++S.map (Fk a)) none_ a4 w4 ->
     ∃β' w5,(Instr.endRound l jump).run P w4=.ok (.bool jump.isNone) w5/\cN st.B w' w5/\(∀k,iK (V'++[dH c.N l D (rec (if jump.isNone then .ready else .done) jump)]) β' k->st.B k\/w'.heap.size<=k) /\
      iW (iK (V'++[dH c.N l D (rec (if jump.isNone then .ready else .done) jump)]) β') w5/\aP M' (Told a (V'++[dH c.N l D (rec (if jump.isNone then .ready else .done) jump)]) G0 β') w5:=by
    intro V' jump a4 w4 NC Fl
    have RL:=gZ NC l D { rec .ready none with state:=.busy }
    obtain⟨β',w5,k1,k2,k3,k4,k5⟩:=end_ jump Fl kQ RL.1 NJ RL.2 (λx hx=>by
     rcases List.mem_append.1 hx with hx|hx
     ·exact .inl (Rx NC x hx)
     ·rw[List.mem_singleton]at hx
      subst hx
      obtain⟨β4,Fl⟩:=Fl
      have s4:a4.tmps.size=c.N:=Fl.size
      have s5:a.tmps.size=c.N:=h0.size
      right
      show sl a4 c.N=sl a c.N
      unfold sl
      simp[Array.getD,s4,s5]) Rm
    rw[r7]at k3 k4 k5
    rw[uI]at *
    exact⟨β',w5,k1,k2,λk hk=>(k3 k hk).elim .inr .inl,k4,k5⟩
   rintro e a5 w4 ⟨a4,rfl,h4⟩
   cases e with
   |normal=>
    obtain⟨t',Fl⟩:=h4
    obtain⟨β',w5,k1,k2,k3,k4,k5⟩:=fin _ none a4 w4 (KT (k+1) t') Fl
    exact⟨_,w5,k1,true,rfl,⟨_,β',t',.skip⟩,k2,k3,k4,k5.imp λ_ h=>⟨rfl,h⟩⟩
   |ret=>
    obtain⟨t',Fl⟩:=h4
    obtain⟨β',w5,k1,k2,k3,k4,k5⟩:=fin _ (some .ret) a4 w4 (OZ .ret t') Fl
    exact⟨_,w5,k1,false,rfl,⟨_,β',t',.ret⟩,k2,k3,k4,k5.imp λ_ h=>⟨rfl,h⟩⟩
   |exit id=>
    obtain⟨t',Fl⟩:=h4
    obtain⟨β',w5,k1,k2,k3,k4,k5⟩:=fin _ (some (.exit id)) a4 w4 (OZ (.exit id) t') Fl
    exact⟨_,w5,k1,false,rfl,⟨_,β',t',.exit id⟩,k2,k3,k4,k5.imp λ_ h=>⟨rfl,h⟩⟩
   |goto t=>exact h4.elim
   |panic ch=>exact h4.elim
   |outgrown=>exact h4.elim
  |exit id=>exact h2.elim
  |goto t=>exact h2.elim
  |ret=>exact h2.elim
  |panic ch=>exact h2.elim
  |outgrown=>exact h2.elim
 ·-- behind the iterator
  rintro e w3 ⟨v,s',rfl,hle,hnew,hno,S4⟩
  obtain⟨hb,ho⟩:=BR h1 hle hm0
  have hm:∀k,s'.B k->mine c k:=λk hk=>(hnew k hk).elim (hm0 k) λh=>.inl (Nat.le_trans h1.below.size h)
  have back:∀(V':List Vr) (r:Loop),sO c.N S V'=true->s'.B=iK (V'++[dH c.N l D r]) s'.β->aP c.M0 (Told a (V'++[dH c.N l D r]) G0 s'.β) w3->r.state≠.busy ->
    ∃w4,(Instr.endLoop l).run P w3=.ok r.pending w4/\Inv c (V'++[dH c.N l D { r with state:=.exhausted }]) [] G0 none_ a w4:=by
   intro V' r NC hB hT hr
   have hp:=gZ NC l D r
   have i3:aW c (V'++[dH c.N l D r]) [] G0 none_ s'.β a w3:=Told.inv hT hp.1 h0.size h0.defers (λk hk=>hm k (by rw[hB]; exact hk)) hb ho
   obtain⟨β4,i4⟩:=i3.record { r with state:=.exhausted } hp.1 NJ kQ hp.2
   rw[r7]at i4
   exact⟨_,run_endLoop (i3.Cl (n0:=V'.length) kQ).2.1 hr,β4,i4⟩
  rcases S4 with hJ|hX
  ·obtain⟨w4,k1,k2⟩:=back _ _ (KT n s'.t) hJ.out.1 (hJ.imp λ_ h=>h.2) (by rw[uI]; simp)
   refine⟨_,w4,k1,?_⟩
   rw[uI]
   exact⟨_,rfl,done _ _ _ _ _ k2⟩
  ·obtain⟨w4,k1,k2⟩:=back _ _ (OZ s'.cd s'.t) hX.out.1 (hX.imp λ_ h=>h.2) (by rw[uI]; simp)
   refine⟨_,w4,k1,?_⟩
   rw[uI]
   exact stop _ _ _ _ _ _ k2 n0
end
end Wx
