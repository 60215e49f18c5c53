import Derived.Test.YtfnmkhlleanppaaGreatDoorCWBSemMem
import Derived.Test.YtfnmkhlleanppaaGreatDoorProg
namespace Wx
open Go Go.RowKit
def mh {α:Type} (ks:List Nat) (l:List α):List α:=ks.filterMap λk=>l[k]?
def eW (x:Vr):Vr:=⟨x.slot,x.slot,none,none,x.kd,x.T,x.n,x.agg,cont (λ_=>true) x.c0 x.st,[]⟩
def uG (V:List Vr):List Vr:=(V.filter λx=>x.dead.isNone).map eW
def rJ (e:aI):aI:=⟨none,none,e.slot,e.p⟩
theorem lY {α:Type} {ks:List Nat} {l:List α} {x:α} (h:x∈mh ks l):x∈l:=by
 simp only[mh,List.mem_filterMap]at h
 obtain⟨k,_,hk⟩:=h
 exact List.mem_of_getElem? hk
def dB (p q:Pred):Pred:=λw v=>∃x y,v=.tuple #[x,y]/\p w x/\q w y
def oX (p q r:Pred):Pred:=λw v=>∃x y z,v=.tuple #[x,y,z]/\p w x/\q w y/\r w z
variable {p q:Pred}
theorem B1:∀w v,dB p q w v->∃vs u,v=.tuple vs/\vs[0]?=some u/\p w u:=λ_ _ ⟨_,_,e,h,_⟩=>⟨_,_,e,rfl,h⟩
theorem B2:∀w v,dB p q w v->∃vs u,v=.tuple vs/\vs[1]?=some u/\q w u:=λ_ _ ⟨_,_,e,_,h⟩=>⟨_,_,e,rfl,h⟩
variable {r:Pred}
theorem B3:∀w v,oX p q r w v->∃vs u,v=.tuple vs/\vs[0]?=some u/\p w u:=λ_ _ ⟨_,_,_,e,h,_,_⟩=>⟨_,_,e,rfl,h⟩
theorem B4:∀w v,oX p q r w v->∃vs u,v=.tuple vs/\vs[1]?=some u/\q w u:=λ_ _ ⟨_,_,_,e,_,h,_⟩=>⟨_,_,e,rfl,h⟩
theorem B5:∀w v,oX p q r w v->∃vs u,v=.tuple vs/\vs[2]?=some u/\r w u:=λ_ _ ⟨_,_,_,e,_,_,h⟩=>⟨_,_,e,rfl,h⟩
theorem nx (hp:cr p) (hq:cr q):cr (dB p q):=by
 rintro M w v hM ⟨x,y,e,h1,h2⟩ w' he
 exact⟨x,y,e,hp M w x hM h1 w' he,hq M w y hM h2 w' he⟩
section
variable {P:Program} {Q:Exit->Act->World->Prop} {c:bJ} {V:List Vr} {A:List Al} {G:List aI} {a:Act} {w:World}
theorem Inv.next {V':List Vr} {G':List aI} (kv kg:List Nat) (h:Inv c V A G (λ_=>true) a w) (hs:nD V=true) (hid:∀x y,x∈V->y∈V->x.id=y.id->x=y) (hV:mh kv (uG V)=V') (hG:mh kg ((G.filter λe=>e.till.isNone).map rJ)=G'):Inv c V' [] G' none_ a w:=by
 obtain⟨β,h⟩:=h
 have all:∀t,on (λ_=>true) t=true:=λt=>by cases t<;>rfl
 have eV:∀y,y∈V'->∃x,x∈V/\(live (λ_=>true) x=true/\x.dead.isNone=true)/\eW x=y:=λy hy=>by
  rw[<-hV]at hy
  obtain⟨x,hx,e⟩:=List.mem_map.1 (lY hy)
  rw[List.mem_filter]at hx
  refine⟨x,hx.1,⟨?_,hx.2⟩,e⟩
  unfold live
  rw[all]
  cases hd:x.dead with
  |none=>rfl
  |some j=>rw[hd]at hx; simp at hx
 let β':Nat->Nat->Prop:=λs k=>∃x,(V.find? λx=>x.dead.isNone&&x.slot==s)=some x/\β x.id k
 have hβ:∀x,x∈V->x.dead.isNone=true->∀k,β' x.slot k↔β x.id k:=by
  intro x hx hd k
  have hf:(V.find? λy=>y.dead.isNone&&y.slot==x.slot)=some x:=by
   cases hf:V.find? λy=>y.dead.isNone&&y.slot==x.slot with
   |none=>
    rw[List.find?_eq_none]at hf
    exact absurd (by simp[hd]) (hf x hx)
   |some y=>
    have h1:=List.mem_of_find?_eq_some hf
    have h2:=List.find?_some hf
    rw[nD,List.all_eq_true]at hs
    have h3:=hs x hx
    have hd':x.dead.isSome=false:=by cases Gn:x.dead with
     |none=>rfl
     |some j=>rw[Gn]at hd; cases hd
    rw[hd',Bool.false_or,beq_iff_eq]at h3
    rw[bK h3 h1 hx h2 (by simp[hd])]
  constructor
  ·rintro⟨y,hy,h⟩
   have hy:(V.find? λy=>y.dead.isNone&&y.slot==x.slot)=some y:=hy
   rw[hf]at hy
   injection hy with hy
   exact hy▸h
  ·exactλh=>⟨x,hf,h⟩
 have E7:∀x,x∈V->x.dead.isNone=true->β' x.slot=β x.id:=λx hx hd=>funext λk=>propext (hβ x hx hd k)
 have hown:∀k o,k<w.heap.size->own c V' none_ β' k o->own c V (λ_=>true) β k o:=by
  rintro k o _ (h1|⟨y,hy,_,h2,h3⟩)
  ·exact .inl h1
  ·obtain⟨x,hx,⟨hl,hd⟩,rfl⟩:=eV y hy
   exact .inr ⟨x,hx,hl,(hβ x hx hd k).1 h2,h3⟩
 refine⟨β',h.size,h.defers,h.below,h.old,?_,?_,(λp hp=>by cases hp),?_⟩
 ·intro y hy _
  obtain⟨x,hx,⟨hl,hd⟩,rfl⟩:=eV y hy
  have hv:=h.var x hx hl
  rcases gy x.kd with hk|⟨m,sz,hk⟩|hk
  ·obtain⟨g,h1,h2,h3⟩:=(bz hk).1 hv
   obtain⟨cs,h4,h5,h6,h7⟩:=h3.held
   exact(bz (x:=eW x) hk).2 ⟨g,λk=>(hβ x hx hd k).trans (h1 k),h2,h3.new,cs,h4,h5,h6,h7.sub hown⟩
  ·refine(bu (x:=eW x) hk).2 ?_
   show pM c a w (eW x) m sz (β' x.slot)
   rw[E7 x hx hd]
   exact(bu hk).1 hv
  ·obtain⟨h1,h2⟩:=(aQ hk).1 hv
   refine(aQ (x:=eW x) hk).2 ?_
   show lO _ c none_ a w (eW x) (β' x.slot)
   rw[E7 x hx hd]
   exact⟨h1,h2.sub λk o hk' h=>⟨hown k o hk' h.1,h.2⟩⟩
 ·intro y y' g hy hy' _ _ hne
  obtain⟨x,hx,⟨hl,hd⟩,rfl⟩:=eV y hy
  obtain⟨x',hx',⟨hl',hd'⟩,rfl⟩:=eV y' hy'
  intro e1 e2
  have e1:β' x.slot g:=e1
  have e2:β' x'.slot g:=e2
  rw[hβ x hx hd]at e1
  rw[hβ x' hx' hd']at e2
  refine h.apart x x' g hx hx' hl hl' (λe=>hne ?_) e1 e2
  show x.slot=x'.slot
  rw[hid x x' hx hx' e]
 ·intro e he _ _
  rw[<-hG]at he
  obtain⟨f,hf,rfl⟩:=List.mem_map.1 (lY he)
  rw[List.mem_filter]at hf
  exact(h.gK f hf.1 (all _) (by cases ht:f.till with|none=>rfl|some j=>rw[ht]at hf; simp at hf)).sub hown
def nQ (x:Vr):Vr:=⟨x.id,x.slot,none,none,x.kd,x.T,x.n,x.agg,x.c0,[]⟩
def kW (V:List Vr):List Vr:=(V.filter λx=>x.born.isNone).map nQ
def qF (A:List Al):List Al:=A.filter λp=>p.tag.isNone
def kU (G:List aI):List aI:=(G.filter λe=>e.tag.isNone).map λe=>⟨none,none,e.slot,e.p⟩
theorem lQ (p:Rel):∀st,cont none_ p st=p:=by
 intro st
 induction st with
 |nil=>rfl
 |cons q st ih=>exact ih
theorem Inv.enter {V1:List Vr} {A1:List Al} {G1:List aI} (h:Inv c V A G none_ a w) (hV:kW V1=V) (hA:qF A1=A) (hG:kU G1=G):Inv c V1 A1 G1 none_ a w:=by
 obtain⟨β,h⟩:=h
 have eV:∀x,x∈V1->live none_ x=true->nQ x∈V:=by
  intro x hx hl
  unfold live at hl
  rw[Bool.and_eq_true]at hl
  have hb:x.born=none:=by
   cases hb:x.born with
   |none=>rfl
   |some j=>rw[hb]at hl; cases hl.1
  rw[<-hV]
  exact List.mem_map.2 ⟨x,List.mem_filter.2 ⟨hx,by rw[hb]; rfl⟩,rfl⟩
 have eo:∀k o,own c V1 none_ β k o->own c V none_ β k o:=by
  rintro k o (h1|⟨x,hx,h1,h2⟩)
  ·exact .inl h1
  ·exact .inr ⟨_,eV x hx h1,rfl,h2⟩
 refine⟨β,h.size,h.defers,h.below,h.old,?_,?_,?_,?_⟩
 ·intro x hx hl
  have hv:=h.var _ (eV x hx hl) rfl
  rcases gy x.kd with hk|⟨m,sz,hk⟩|hk
  ·obtain⟨g,h1,h2,h3⟩:=(bz (x:=nQ x) hk).1 hv
   obtain⟨cs,h4,h5,h6,h7⟩:=h3.held
   refine(bz hk).2 ⟨g,h1,h2,h3.new,cs,h4,h5,h6,?_⟩
   rw[lQ]
   exact h7.sub λk o _ hk=>eo k o hk
  ·exact(bu hk).2 ((bu (x:=nQ x) hk).1 hv)
  ·obtain⟨h1,h2⟩:=(aQ (x:=nQ x) hk).1 hv
   refine(aQ hk).2 ⟨h1,?_⟩
   rw[lQ]
   exact h2.sub λk o _ h=>⟨eo k o h.1,h.2⟩
 ·intro x y g hx hy h1 h2 hne
  have:=h.apart _ _ g (eV x hx h1) (eV y hy h2) rfl rfl hne
  exact this
 ·intro p hp hl hcd
  have ht:p.tag=none:=by
   cases hb:p.tag with
   |none=>rfl
   |some j=>rw[hb]at hl; cases hl
  exact h.al p (by rw[<-hA]; exact List.mem_filter.2 ⟨hp,by rw[ht]; rfl⟩) (by rw[ht]; rfl) hcd
 ·intro e he hl _
  have ht:e.tag=none:=by
   cases hb:e.tag with
   |none=>rfl
   |some j=>rw[hb]at hl; cases hl
  have hm:(⟨none,none,e.slot,e.p⟩:aI)∈G:=by
   rw[<-hG]
   exact List.mem_map.2 ⟨e,List.mem_filter.2 ⟨he,by rw[ht]; rfl⟩,rfl⟩
  exact(h.gK _ hm rfl rfl).sub λk o _ hk=>eo k o hk
variable {p:Pred}
theorem Inv.get {s:Nat} (h:Inv c V A G none_ a w) (k:Nat) (hk:G[k]?=some ⟨none,none,s,p⟩):p w (sl a s):=by
 obtain⟨β,h⟩:=h
 exact(h.gK _ (List.mem_of_getElem? hk) rfl rfl).out
def iZ (M:Nat->Nat->Prop) (a:Act) (w:World):List aI->Prop
 |[]=>True
 |e::es=>(e.tag=none/\aK M (λw=>e.p w (sl a e.slot)) w)/\iZ M a w es
variable {M:Nat->Nat->Prop}
theorem iZ.get {a:Act} {w:World}:∀{G:List aI},iZ M a w G->∀e,e∈G->e.tag=none/\aK M (λw=>e.p w (sl a e.slot)) w:=by
 intro G
 induction G with
 |nil=>intro _ e he; cases he
 |cons f G ih=>
  intro h e he
  rcases List.mem_cons.1 he with rfl|he
  ·exact h.1
  ·exact ih h.2 e he
theorem lV {N:Nat} (hM:dm M w) (hN:a.tmps.size=N) (hd:a.defers=[]) (hG:iZ M a w G):Inv ⟨N,w,M,λ_=>False⟩ [] [] G none_ a w:=by
 have eo:∀L β k o,own ⟨N,w,M,λ_=>False⟩ [] L β k o->M k o:=by
  rintro L β k o (h|⟨x,hx,_⟩)
  ·exact h
  ·cases hx
 exact⟨λ_ _=>False,hN,hd,di.refl _ _,(λk o h=>⟨⟨(hM k o h).1,λh=>h⟩,(hM k o h).2⟩),(λx hx=>by cases hx),(λx y g hx=>by cases hx),(λp hp=>by cases hp),λe he _ _=>(hG.get e he).2.sub λk o _ h=>eo _ _ _ _ h⟩
inductive cu (P:Program) (V:List Vr) (G:List aI):ResultVar->Pred->Prop
 |tmp {s:Nat} {p:Pred} (k:Nat) (hk:G[k]?=some ⟨none,none,s,p⟩):cu P V G (.tmp s) p
 |cell {x:Vr} {p:Pred} {T s:Nat} (k:Nat) (hk:V[k]?=some x) (hb:live none_ x=true) (bT:x.kd=.ptr) (hs:x.slot=s) (ht:Ty P T x.agg x.n) (hc:cont none_ x.c0 x.st=pv p):cu P V G (.cell s T) p
 |imp {r:ResultVar} {p q:Pred} (h:cu P V G r p) (hq:∀w v,p w v->q w v):cu P V G r q
def jr (tmps:Array Value):ResultVar->Go.Sem Value
 |.tmp t=>pure (tmps.getD t undef)
 |.cell a t=>do loadVar t (<-asAddr (tmps.getD a undef))
theorem cu.run {r:ResultVar} (h:cu P V G r p) {β:Nat->Nat->Prop} (hI:aS c V A G none_ β a w):∃v,(jr a.tmps r).run P w=.ok v w/\aK (own c V none_ β) (λw=>p w v) w:=by
 induction h with
 |tmp k hk=>exact⟨_,rfl,hI.gK _ (List.mem_of_getElem? hk) rfl rfl⟩
 |@cell x p T s k hk hb bT hs ht hc=>
  obtain⟨g,hg,e,hv⟩:=(bz (by rw[bT]; rfl)).1 (hI.var _ (List.mem_of_getElem? hk) hb)
  obtain⟨cs,h1,h2,h3,h4⟩:=hv.held
  rw[hc]at h4
  refine⟨_,?_,h4⟩
  rw[hs,bT]at e
  have:=dh (P:=P) (w:=w) (b:=g) (off:=0) ht (cs:=cs) (λj v hj=>by simp only[World.cell?,h1]; simpa using hj) h2
  simp only[Instr.loadAt,Instr.sureAddr,Sem.run_bind,Sem.run_pure,Result.andThen_ok]at this
  have e':a.tmps.getD _ undef=_:=e
  simp only[jr]
  rw[e']
  simp only[Kd.addr,asAddr,Sem.run_bind,Sem.run_pure,Result.andThen_ok]
  exact this
 |imp _ hq ih=>
  obtain⟨v,h1,h2⟩:=ih
  exact⟨v,h1,h2.imp λw=>hq w v⟩
theorem cF (fn:Func) (tmps:Array Value):results fn tmps=(do let vs <-fn.results.mapM (jr tmps); pure (if h:vs.size=1 then vs[0]else .tuple vs)):=by
 unfold results
 congr 1
theorem gH {F:World->Prop} {β:Nat->Nat->Prop} (h:aK (own c V none_ β) F w):aK c.M0 F w:=h.sub λ_ _ _ h=>.inl h
variable {fn:Func}
theorem iA {R:Ending->World->Prop} {β:Nat->Nat->Prop} (hI:aS c V A G none_ β a w) {v:Value} (hr:(results fn a.tmps).run P w=.ok v w) (hR:R (.returned v) w):bodyPost P fn R .ret a w:=⟨hI.defers,v,hr,hR⟩
variable {p:Pred}
theorem cn {r:ResultVar} (hI:Inv c V A G none_ a w) (hr:fn.results=#[r]) (h:cu P V G r p) (hn:∀k,¬c.dx k:=by exactλ_ h=>h):bodyPost P fn (bX c.M0 p c.w0) .ret a w:=by
 obtain⟨β,hI⟩:=hI
 obtain⟨v,h1,h2⟩:=h.run hI
 refine iA hI (v:=v) ?_ ⟨v,rfl,gH h2,hI.below.below hn⟩
 rw[cF,hr]
 simp[h1]
variable {r1 r2:ResultVar} {q:Pred}
theorem ki (hI:Inv c V A G none_ a w) (hr:fn.results=#[r1,r2]) (h1:cu P V G r1 p) (h2:cu P V G r2 q) (hn:∀k,¬c.dx k:=by exactλ_ h=>h):bodyPost P fn (bX c.M0 (dB p q) c.w0) .ret a w:=by
 obtain⟨β,hI⟩:=hI
 obtain⟨v1,k1,b1⟩:=h1.run hI
 obtain⟨v2,k2,b2⟩:=h2.run hI
 refine iA hI (v:=.tuple #[v1,v2]) ?_ ⟨_,rfl,λw' he=>⟨v1,v2,rfl,gH b1 w' he,gH b2 w' he⟩,hI.below.below hn⟩
 rw[cF,hr]
 simp[k1,k2,Sem.run_bind]
theorem DS {r3:ResultVar} {r:Pred} (hI:Inv c V A G none_ a w) (hr:fn.results=#[r1,r2,r3]) (h1:cu P V G r1 p) (h2:cu P V G r2 q) (h3:cu P V G r3 r) (hn:∀k,¬c.dx k:=by exactλ_ h=>h):bodyPost P fn (bX c.M0 (oX p q r) c.w0) .ret a w:=by
 obtain⟨β,hI⟩:=hI
 obtain⟨v1,k1,b1⟩:=h1.run hI
 obtain⟨v2,k2,b2⟩:=h2.run hI
 obtain⟨v3,k3,b3⟩:=h3.run hI
 refine iA hI (v:=.tuple #[v1,v2,v3]) ?_ ⟨_,rfl,λw' he=>⟨v1,v2,v3,rfl,gH b1 w' he,gH b2 w' he,gH b3 w' he⟩,hI.below.below hn⟩
 rw[cF,hr]
 simp[k1,k2,k3,Sem.run_bind]
def eu (M:Nat->Nat->Prop) (w:World) (vs:List Value):List aI->Prop
 |[]=>True
 |e::es=>((e.tag=none/\∃v,vs[e.slot]?=some v/\aK M (λw=>e.p w v) w)/\eu M w vs es)
variable {M:Nat->Nat->Prop} {vs:List Value}
theorem eu.ok {w:World} {m:Nat}:∀{G:List aI},eu M w vs G->iZ M { tmps:=vs.toArray++Array.replicate m undef,defers:=[] } w G:=by
 intro G
 induction G with
 |nil=>intro _; trivial
 |cons e G ih=>
  rintro⟨⟨h1,v,h2,h3⟩,h4⟩
  refine⟨⟨h1,?_⟩,ih h4⟩
  have hlt:e.slot<vs.length:=by
   rcases Nat.lt_or_ge e.slot vs.length with h'|h'
   ·exact h'
   ·rw[List.getElem?_eq_none h']at h2; cases h2
  have e1:sl { tmps:=vs.toArray++Array.replicate m undef,defers:=[] } e.slot=v:=by
   simp only[sl,Array.getD_eq_getD_getElem?]
   rw[Array.getElem?_append_left (by simpa using hlt)]
   simp[h2]
  rw[e1]
  exact h3
theorem nX {f:FuncId} {C:Code} {N:Nat} (hf:P.funcs[f]?=some fn) (hb:fn.body=some C) (hN:fn.ntmps=N) (hlen:decide (vs.length<=N)=true) (hM:dm M w) (hG:eu M w vs G)
  (h:∀a,Inv ⟨N,w,M,λ_=>False⟩ [] [] G none_ a w->C.wp P (bodyPost P fn (bX M p w)) a w):Calls P f vs.toArray w (bX M p w):=
 calls_of_wp hf hb (h _ (lV hM (by have:=of_decide_eq_true hlen; simp[hN]; omega) rfl hG.ok))
variable {K:Act->World->Prop}
theorem af (h:K a w):Exit.then K Q .normal a w:=h
theorem aB (h:Q .ret a w):Exit.then K Q .ret a w:=h
variable {n:Nat}
theorem aM (h:Q (.exit n) a w):Exit.then K Q (.exit n) a w:=h
theorem bG (h:Q .normal a w):Exit.inBlock n Q .normal a w:=h
theorem bp (h:Q .ret a w):Exit.inBlock n Q .ret a w:=h
theorem bF (h:Q .normal a w):Exit.inBlock n Q (.exit n) a w:=by simp only[Exit.inBlock,if_true]; exact h
end
end Wx

namespace Wx
open Go Go.RowKit Go.Proofs
def b64:Nat:=18446744073709551616
end Wx

namespace Wx
open Go Go.RowKit Go.Proofs
end Wx
