import Derived.Test.YtfnmkhlleanppaaGreatDoorCWCSemMem
import Derived.Test.YtfnmkhlleanppaaGreatDoorProg
namespace Wx
open Go Go.RowKit
def oD {α:Type} (ks:List Nat) (l:List α):List α:=ks.filterMap λk=>l[k]?
def gb (x:Vr):Vr:=⟨x.slot,x.slot,none,none,x.kd,x.T,x.n,x.agg,cont (λ_=>true) x.c0 x.st,[]⟩
def yu (V:List Vr):List Vr:=(V.filter λx=>x.dead.isNone).map gb
def uU (e:aN):aN:=⟨none,none,e.slot,e.p⟩
theorem oy {α:Type} {ks:List Nat} {l:List α} {x:α} (h:x∈oD ks l):x∈l:=by
 simp only[oD,List.mem_filterMap]at h
 obtain⟨k,_,hk⟩:=h
 exact List.mem_of_getElem? hk
def dF (p q:Pred):Pred:=λw v=>∃x y,v=.tuple #[x,y]/\p w x/\q w y
def kj (p q r:Pred):Pred:=λw v=>∃x y z,v=.tuple #[x,y,z]/\p w x/\q w y/\r w z
variable {p q:Pred}
theorem Gw:∀w v,dF p q w v->∃vs u,v=.tuple vs/\vs[0]?=some u/\p w u:=λ_ _ ⟨_,_,e,h,_⟩=>⟨_,_,e,rfl,h⟩
theorem Gx:∀w v,dF p q w v->∃vs u,v=.tuple vs/\vs[1]?=some u/\q w u:=λ_ _ ⟨_,_,e,_,h⟩=>⟨_,_,e,rfl,h⟩
variable {r:Pred}
theorem Gy:∀w v,kj p q r w v->∃vs u,v=.tuple vs/\vs[0]?=some u/\p w u:=λ_ _ ⟨_,_,_,e,h,_,_⟩=>⟨_,_,e,rfl,h⟩
theorem GA:∀w v,kj p q r w v->∃vs u,v=.tuple vs/\vs[1]?=some u/\q w u:=λ_ _ ⟨_,_,_,e,_,h,_⟩=>⟨_,_,e,rfl,h⟩
theorem GB:∀w v,kj p q r w v->∃vs u,v=.tuple vs/\vs[2]?=some u/\r w u:=λ_ _ ⟨_,_,_,e,_,_,h⟩=>⟨_,_,e,rfl,h⟩
theorem dZ (hp:aO p) (hq:aO q):aO (dF p q):=by
 rintro M w v hM ⟨x,y,e,h1,h2⟩ w' he
 exact⟨x,y,e,hp M w x hM h1 w' he,hq M w y hM h2 w' he⟩
section
variable {P:Program} {Q:Exit->Act->World->Prop} {c:bQ} {V:List Vr} {A:List Al} {G:List aN} {a:Act} {w:World}
theorem Inv.next {V':List Vr} {G':List aN} (kv kg:List Nat) (h:Inv c V A G (λ_=>true) a w) (hs:qu V=true) (hid:∀x y,x∈V->y∈V->x.id=y.id->x=y) (hV:oD kv (yu V)=V') (hG:oD kg ((G.filter λe=>e.till.isNone).map uU)=G'):Inv c V' [] G' none_ a w:=by
 obtain⟨β,h⟩:=h
 have all:∀t,on (λ_=>true) t=true:=λt=>by cases t<;>rfl
 have eV:∀y,y∈V'->∃x,x∈V/\(live (λ_=>true) x=true/\x.dead.isNone=true)/\gb x=y:=λy hy=>by
  rw[<-hV]at hy
  obtain⟨x,hx,e⟩:=List.mem_map.1 (oy hy)
  rw[List.mem_filter]at hx
  refine⟨x,hx.1,⟨?_,hx.2⟩,e⟩
  unfold live
  rw[all]
  cases hd:x.dead with
  |none=>rfl
  |some j=>rw[hd]at hx; simp at hx
 let β':Nat->Nat->Prop:=λs k=>∃x,(V.find? λx=>x.dead.isNone&&x.slot==s)=some x/\β x.id k
 have hβ:∀x,x∈V->x.dead.isNone=true->∀k,β' x.slot k↔β x.id k:=by
  intro x hx hd k
  have hf:(V.find? λy=>y.dead.isNone&&y.slot==x.slot)=some x:=by
   cases hf:V.find? λy=>y.dead.isNone&&y.slot==x.slot with
   |none=>
    rw[List.find?_eq_none]at hf
    exact absurd (by simp[hd]) (hf x hx)
   |some y=>
    have h1:=List.mem_of_find?_eq_some hf
    have h2:=List.find?_some hf
    rw[qu,List.all_eq_true]at hs
    have h3:=hs x hx
    have hd':x.dead.isSome=false:=by cases MQ:x.dead with
     |none=>rfl
     |some j=>rw[MQ]at hd; cases hd
    rw[hd',Bool.false_or,beq_iff_eq]at h3
    rw[ck h3 h1 hx h2 (by simp[hd])]
  constructor
  ·rintro⟨y,hy,h⟩
   have hy:(V.find? λy=>y.dead.isNone&&y.slot==x.slot)=some y:=hy
   rw[hf]at hy
   injection hy with hy
   exact hy▸h
  ·exactλh=>⟨x,hf,h⟩
 have Lm:∀x,x∈V->x.dead.isNone=true->β' x.slot=β x.id:=λx hx hd=>funext λk=>propext (hβ x hx hd k)
 have hown:∀k o,k<w.heap.size->own c V' none_ β' k o->own c V (λ_=>true) β k o:=by
  rintro k o _ (h1|⟨y,hy,_,h2,h3⟩)
  ·exact .inl h1
  ·obtain⟨x,hx,⟨hl,hd⟩,rfl⟩:=eV y hy
   exact .inr ⟨x,hx,hl,(hβ x hx hd k).1 h2,h3⟩
 refine⟨β',h.size,h.defers,h.below,h.old,?_,?_,(λp hp=>by cases hp),?_⟩
 ·intro y hy _
  obtain⟨x,hx,⟨hl,hd⟩,rfl⟩:=eV y hy
  have hv:=h.var x hx hl
  rcases fL x.kd with hk|⟨m,sz,hk⟩|hk
  ·obtain⟨g,h1,h2,h3⟩:=(aY hk).1 hv
   obtain⟨cs,h4,h5,h6,h7⟩:=h3.held
   exact(aY (x:=gb x) hk).2 ⟨g,λk=>(hβ x hx hd k).trans (h1 k),h2,h3.new,cs,h4,h5,h6,h7.sub hown⟩
  ·refine(bw (x:=gb x) hk).2 ?_
   show sO c a w (gb x) m sz (β' x.slot)
   rw[Lm x hx hd]
   exact(bw hk).1 hv
  ·obtain⟨h1,h2⟩:=(aB hk).1 hv
   refine(aB (x:=gb x) hk).2 ?_
   show oc _ c none_ a w (gb x) (β' x.slot)
   rw[Lm x hx hd]
   exact⟨h1,h2.sub λk o hk' h=>⟨hown k o hk' h.1,h.2⟩⟩
 ·intro y y' g hy hy' _ _ hne
  obtain⟨x,hx,⟨hl,hd⟩,rfl⟩:=eV y hy
  obtain⟨x',hx',⟨hl',hd'⟩,rfl⟩:=eV y' hy'
  intro e1 e2
  have e1:β' x.slot g:=e1
  have e2:β' x'.slot g:=e2
  rw[hβ x hx hd]at e1
  rw[hβ x' hx' hd']at e2
  refine h.apart x x' g hx hx' hl hl' (λe=>hne ?_) e1 e2
  show x.slot=x'.slot
  rw[hid x x' hx hx' e]
 ·intro e he _ _
  rw[<-hG]at he
  obtain⟨f,hf,rfl⟩:=List.mem_map.1 (oy he)
  rw[List.mem_filter]at hf
  exact(h.ew f hf.1 (all _) (by cases ht:f.till with|none=>rfl|some j=>rw[ht]at hf; simp at hf)).sub hown
def qJ (x:Vr):Vr:=⟨x.id,x.slot,none,none,x.kd,x.T,x.n,x.agg,x.c0,[]⟩
def nw (V:List Vr):List Vr:=(V.filter λx=>x.born.isNone).map qJ
def tX (A:List Al):List Al:=A.filter λp=>p.tag.isNone
def nu (G:List aN):List aN:=(G.filter λe=>e.tag.isNone).map λe=>⟨none,none,e.slot,e.p⟩
theorem od (p:Rel):∀st,cont none_ p st=p:=by
 intro st
 induction st with
 |nil=>rfl
 |cons q st ih=>exact ih
theorem Inv.enter {V1:List Vr} {A1:List Al} {G1:List aN} (h:Inv c V A G none_ a w) (hV:nw V1=V) (hA:tX A1=A) (hG:nu G1=G):Inv c V1 A1 G1 none_ a w:=by
 obtain⟨β,h⟩:=h
 have eV:∀x,x∈V1->live none_ x=true->qJ x∈V:=by
  intro x hx hl
  unfold live at hl
  rw[Bool.and_eq_true]at hl
  have hb:x.born=none:=by
   cases hb:x.born with
   |none=>rfl
   |some j=>rw[hb]at hl; cases hl.1
  rw[<-hV]
  exact List.mem_map.2 ⟨x,List.mem_filter.2 ⟨hx,by rw[hb]; rfl⟩,rfl⟩
 have eo:∀k o,own c V1 none_ β k o->own c V none_ β k o:=by
  rintro k o (h1|⟨x,hx,h1,h2⟩)
  ·exact .inl h1
  ·exact .inr ⟨_,eV x hx h1,rfl,h2⟩
 refine⟨β,h.size,h.defers,h.below,h.old,?_,?_,?_,?_⟩
 ·intro x hx hl
  have hv:=h.var _ (eV x hx hl) rfl
  rcases fL x.kd with hk|⟨m,sz,hk⟩|hk
  ·obtain⟨g,h1,h2,h3⟩:=(aY (x:=qJ x) hk).1 hv
   obtain⟨cs,h4,h5,h6,h7⟩:=h3.held
   refine(aY hk).2 ⟨g,h1,h2,h3.new,cs,h4,h5,h6,?_⟩
   rw[od]
   exact h7.sub λk o _ hk=>eo k o hk
  ·exact(bw hk).2 ((bw (x:=qJ x) hk).1 hv)
  ·obtain⟨h1,h2⟩:=(aB (x:=qJ x) hk).1 hv
   refine(aB hk).2 ⟨h1,?_⟩
   rw[od]
   exact h2.sub λk o _ h=>⟨eo k o h.1,h.2⟩
 ·intro x y g hx hy h1 h2 hne
  have:=h.apart _ _ g (eV x hx h1) (eV y hy h2) rfl rfl hne
  exact this
 ·intro p hp hl hcd
  have ht:p.tag=none:=by
   cases hb:p.tag with
   |none=>rfl
   |some j=>rw[hb]at hl; cases hl
  exact h.al p (by rw[<-hA]; exact List.mem_filter.2 ⟨hp,by rw[ht]; rfl⟩) (by rw[ht]; rfl) hcd
 ·intro e he hl _
  have ht:e.tag=none:=by
   cases hb:e.tag with
   |none=>rfl
   |some j=>rw[hb]at hl; cases hl
  have hm:(⟨none,none,e.slot,e.p⟩:aN)∈G:=by
   rw[<-hG]
   exact List.mem_map.2 ⟨e,List.mem_filter.2 ⟨he,by rw[ht]; rfl⟩,rfl⟩
  exact(h.ew _ hm rfl rfl).sub λk o _ hk=>eo k o hk
variable {p:Pred}
theorem Inv.get {s:Nat} (h:Inv c V A G none_ a w) (k:Nat) (hk:G[k]?=some ⟨none,none,s,p⟩):p w (sl a s):=by
 obtain⟨β,h⟩:=h
 exact(h.ew _ (List.mem_of_getElem? hk) rfl rfl).out
def kH (M:Nat->Nat->Prop) (a:Act) (w:World):List aN->Prop
 |[]=>True
 |e::es=>(e.tag=none/\aJ M (λw=>e.p w (sl a e.slot)) w)/\kH M a w es
variable {M:Nat->Nat->Prop}
theorem kH.get {a:Act} {w:World}:∀{G:List aN},kH M a w G->∀e,e∈G->e.tag=none/\aJ M (λw=>e.p w (sl a e.slot)) w:=by
 intro G
 induction G with
 |nil=>intro _ e he; cases he
 |cons f G ih=>
  intro h e he
  rcases List.mem_cons.1 he with rfl|he
  ·exact h.1
  ·exact ih h.2 e he
theorem iS {N:Nat} (hM:cS M w) (hN:a.tmps.size=N) (hd:a.defers=[]) (hG:kH M a w G):Inv ⟨N,w,M,λ_=>False⟩ [] [] G none_ a w:=by
 have eo:∀L β k o,own ⟨N,w,M,λ_=>False⟩ [] L β k o->M k o:=by
  rintro L β k o (h|⟨x,hx,_⟩)
  ·exact h
  ·cases hx
 exact⟨λ_ _=>False,hN,hd,bX.refl _ _,(λk o h=>⟨⟨(hM k o h).1,λh=>h⟩,(hM k o h).2⟩),(λx hx=>by cases hx),(λx y g hx=>by cases hx),(λp hp=>by cases hp),λe he _ _=>(hG.get e he).2.sub λk o _ h=>eo _ _ _ _ h⟩
inductive cw (P:Program) (V:List Vr) (G:List aN):ResultVar->Pred->Prop
 |tmp {s:Nat} {p:Pred} (k:Nat) (hk:G[k]?=some ⟨none,none,s,p⟩):cw P V G (.tmp s) p
 |cell {x:Vr} {p:Pred} {T s:Nat} (k:Nat) (hk:V[k]?=some x) (hb:live none_ x=true) (bR:x.kd=.ptr) (hs:x.slot=s) (ht:Ty P T x.agg x.n) (hc:cont none_ x.c0 x.st=pv p):cw P V G (.cell s T) p
 |imp {r:ResultVar} {p q:Pred} (h:cw P V G r p) (hq:∀w v,p w v->q w v):cw P V G r q
def jq (tmps:Array Value):ResultVar->Go.Sem Value
 |.tmp t=>pure (tmps.getD t undef)
 |.cell a t=>do loadVar t (<-asAddr (tmps.getD a undef))
theorem cw.run {r:ResultVar} (h:cw P V G r p) {β:Nat->Nat->Prop} (hI:aQ c V A G none_ β a w):∃v,(jq a.tmps r).run P w=.ok v w/\aJ (own c V none_ β) (λw=>p w v) w:=by
 induction h with
 |tmp k hk=>exact⟨_,rfl,hI.ew _ (List.mem_of_getElem? hk) rfl rfl⟩
 |@cell x p T s k hk hb bR hs ht hc=>
  obtain⟨g,hg,e,hv⟩:=(aY (by rw[bR]; rfl)).1 (hI.var _ (List.mem_of_getElem? hk) hb)
  obtain⟨cs,h1,h2,h3,h4⟩:=hv.held
  rw[hc]at h4
  refine⟨_,?_,h4⟩
  rw[hs,bR]at e
  have:=cT (P:=P) (w:=w) (b:=g) (off:=0) ht (cs:=cs) (λj v hj=>by simp only[World.cell?,h1]; simpa using hj) h2
  simp only[Instr.loadAt,Instr.sureAddr,Sem.run_bind,Sem.run_pure,Result.andThen_ok]at this
  have e':a.tmps.getD _ undef=_:=e
  simp only[jq]
  rw[e']
  simp only[Kd.addr,asAddr,Sem.run_bind,Sem.run_pure,Result.andThen_ok]
  exact this
 |imp _ hq ih=>
  obtain⟨v,h1,h2⟩:=ih
  exact⟨v,h1,h2.imp λw=>hq w v⟩
theorem cu (fn:Func) (tmps:Array Value):results fn tmps=(do let vs <-fn.results.mapM (jq tmps); pure (if h:vs.size=1 then vs[0]else .tuple vs)):=by
 unfold results
 congr 1
theorem gQ {F:World->Prop} {β:Nat->Nat->Prop} (h:aJ (own c V none_ β) F w):aJ c.M0 F w:=h.sub λ_ _ _ h=>.inl h
variable {fn:Func}
theorem fU {R:Ending->World->Prop} {β:Nat->Nat->Prop} (hI:aQ c V A G none_ β a w) {v:Value} (hr:(results fn a.tmps).run P w=.ok v w) (hR:R (.returned v) w):bodyPost P fn R .ret a w:=⟨hI.defers,v,hr,hR⟩
variable {p:Pred}
theorem bW {r:ResultVar} (hI:Inv c V A G none_ a w) (hr:fn.results=#[r]) (h:cw P V G r p) (hn:∀k,¬c.dc k:=by exactλ_ h=>h):bodyPost P fn (cI c.M0 p c.w0) .ret a w:=by
 obtain⟨β,hI⟩:=hI
 obtain⟨v,h1,h2⟩:=h.run hI
 refine fU hI (v:=v) ?_ ⟨v,rfl,gQ h2,hI.below.below hn⟩
 rw[cu,hr]
 simp[h1]
variable {r1 r2:ResultVar} {q:Pred}
theorem fe (hI:Inv c V A G none_ a w) (hr:fn.results=#[r1,r2]) (h1:cw P V G r1 p) (h2:cw P V G r2 q) (hn:∀k,¬c.dc k:=by exactλ_ h=>h):bodyPost P fn (cI c.M0 (dF p q) c.w0) .ret a w:=by
 obtain⟨β,hI⟩:=hI
 obtain⟨v1,k1,b1⟩:=h1.run hI
 obtain⟨v2,k2,b2⟩:=h2.run hI
 refine fU hI (v:=.tuple #[v1,v2]) ?_ ⟨_,rfl,λw' he=>⟨v1,v2,rfl,gQ b1 w' he,gQ b2 w' he⟩,hI.below.below hn⟩
 rw[cu,hr]
 simp[k1,k2,Sem.run_bind]
theorem DZ {r3:ResultVar} {r:Pred} (hI:Inv c V A G none_ a w) (hr:fn.results=#[r1,r2,r3]) (h1:cw P V G r1 p) (h2:cw P V G r2 q) (h3:cw P V G r3 r) (hn:∀k,¬c.dc k:=by exactλ_ h=>h):bodyPost P fn (cI c.M0 (kj p q r) c.w0) .ret a w:=by
 obtain⟨β,hI⟩:=hI
 obtain⟨v1,k1,b1⟩:=h1.run hI
 obtain⟨v2,k2,b2⟩:=h2.run hI
 obtain⟨v3,k3,b3⟩:=h3.run hI
 refine fU hI (v:=.tuple #[v1,v2,v3]) ?_ ⟨_,rfl,λw' he=>⟨v1,v2,v3,rfl,gQ b1 w' he,gQ b2 w' he,gQ b3 w' he⟩,hI.below.below hn⟩
 rw[cu,hr]
 simp[k1,k2,k3,Sem.run_bind]
def eR (M:Nat->Nat->Prop) (w:World) (vs:List Value):List aN->Prop
 |[]=>True
 |e::es=>((e.tag=none/\∃v,vs[e.slot]?=some v/\aJ M (λw=>e.p w v) w)/\eR M w vs es)
variable {M:Nat->Nat->Prop} {vs:List Value}
theorem eR.ok {w:World} {m:Nat}:∀{G:List aN},eR M w vs G->kH M { tmps:=vs.toArray++Array.replicate m undef,defers:=[] } w G:=by
 intro G
 induction G with
 |nil=>intro _; trivial
 |cons e G ih=>
  rintro⟨⟨h1,v,h2,h3⟩,h4⟩
  refine⟨⟨h1,?_⟩,ih h4⟩
  have hlt:e.slot<vs.length:=by
   rcases Nat.lt_or_ge e.slot vs.length with h'|h'
   ·exact h'
   ·rw[List.getElem?_eq_none h']at h2; cases h2
  have e1:sl { tmps:=vs.toArray++Array.replicate m undef,defers:=[] } e.slot=v:=by
   simp only[sl,Array.getD_eq_getD_getElem?]
   rw[Array.getElem?_append_left (by simpa using hlt)]
   simp[h2]
  rw[e1]
  exact h3
theorem qO {f:FuncId} {C:Code} {N:Nat} (hf:P.funcs[f]?=some fn) (hb:fn.body=some C) (hN:fn.ntmps=N) (hlen:decide (vs.length<=N)=true) (hM:cS M w) (hG:eR M w vs G)
  (h:∀a,Inv ⟨N,w,M,λ_=>False⟩ [] [] G none_ a w->C.wp P (bodyPost P fn (cI M p w)) a w):Calls P f vs.toArray w (cI M p w):=
 calls_of_wp hf hb (h _ (iS hM (by have:=of_decide_eq_true hlen; simp[hN]; omega) rfl hG.ok))
variable {K:Act->World->Prop}
theorem ae (h:K a w):Exit.then K Q .normal a w:=h
theorem aj (h:Q .ret a w):Exit.then K Q .ret a w:=h
variable {n:Nat}
theorem aC (h:Q (.exit n) a w):Exit.then K Q (.exit n) a w:=h
theorem bk (h:Q .normal a w):Exit.inBlock n Q .normal a w:=h
theorem aS (h:Q .ret a w):Exit.inBlock n Q .ret a w:=h
theorem bf (h:Q .normal a w):Exit.inBlock n Q (.exit n) a w:=by simp only[Exit.inBlock,if_true]; exact h
end
end Wx

namespace Wx
open Go Go.RowKit Go.Proofs
def b64:Nat:=18446744073709551616
end Wx

namespace Wx
open Go Go.RowKit Go.Proofs
end Wx
