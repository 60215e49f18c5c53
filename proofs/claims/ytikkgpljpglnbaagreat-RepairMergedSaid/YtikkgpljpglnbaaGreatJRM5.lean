import Derived.Test.YtikkgpljpglnbaaGreatCRMSemMem
import Derived.Test.YtikkgpljpglnbaaGreatProg
namespace Wx
open Go Go.RowKit
def iU {α:Type} (ks:List Nat) (l:List α):List α:=ks.filterMap λk=>l[k]?
def iV (x:Vr):Vr:=⟨x.slot,x.slot,none,none,x.kd,x.T,x.n,x.agg,cont (λ_=>true) x.c0 x.st,[]⟩
def sO (V:List Vr):List Vr:=(V.filter λx=>x.dead.isNone).map iV
def mo (e:aV):aV:=⟨none,none,e.slot,e.p⟩
theorem vf {α:Type} {ks:List Nat} {l:List α} {x:α} (h:x∈iU ks l):x∈l:=by
 simp only[iU,List.mem_filterMap]at h
 obtain⟨k,_,hk⟩:=h
 exact List.mem_of_getElem? hk
def fJ (p q:Pred):Pred:=λw v=>∃x y,v=.tuple #[x,y]/\p w x/\q w y
def zl (p q r:Pred):Pred:=λw v=>∃x y z,v=.tuple #[x,y,z]/\p w x/\q w y/\r w z
variable {p q:Pred}
theorem Ov:∀w v,fJ p q w v->∃vs u,v=.tuple vs/\vs[0]?=some u/\p w u:=λ_ _ ⟨_,_,e,h,_⟩=>⟨_,_,e,rfl,h⟩
theorem Ow:∀w v,fJ p q w v->∃vs u,v=.tuple vs/\vs[1]?=some u/\q w u:=λ_ _ ⟨_,_,e,_,h⟩=>⟨_,_,e,rfl,h⟩
variable {r:Pred}
theorem Ox:∀w v,zl p q r w v->∃vs u,v=.tuple vs/\vs[0]?=some u/\p w u:=λ_ _ ⟨_,_,_,e,h,_,_⟩=>⟨_,_,e,rfl,h⟩
theorem Oy:∀w v,zl p q r w v->∃vs u,v=.tuple vs/\vs[1]?=some u/\q w u:=λ_ _ ⟨_,_,_,e,_,h,_⟩=>⟨_,_,e,rfl,h⟩
theorem Oz:∀w v,zl p q r w v->∃vs u,v=.tuple vs/\vs[2]?=some u/\r w u:=λ_ _ ⟨_,_,_,e,_,_,h⟩=>⟨_,_,e,rfl,h⟩
theorem gV (hp:aA p) (hq:aA q):aA (fJ p q):=by
 rintro M w v hM ⟨x,y,e,h1,h2⟩ w' he
 exact⟨x,y,e,hp M w x hM h1 w' he,hq M w y hM h2 w' he⟩
section
variable {P:Program} {Q:Exit->Act->World->Prop} {c:cM} {V:List Vr} {A:List Al} {G:List aV} {a:Act} {w:World}
theorem Inv.next {V':List Vr} {G':List aV} (kv kg:List Nat) (h:Inv c V A G (λ_=>true) a w) (hs:xe V=true) (hid:∀x y,x∈V->y∈V->x.id=y.id->x=y) (hV:iU kv (sO V)=V') (hG:iU kg ((G.filter λe=>e.till.isNone).map mo)=G'):Inv c V' [] G' none_ a w:=by
 obtain⟨β,h⟩:=h
 have all:∀t,on (λ_=>true) t=true:=λt=>by cases t<;>rfl
 have eV:∀y,y∈V'->∃x,x∈V/\(live (λ_=>true) x=true/\x.dead.isNone=true)/\iV x=y:=λy hy=>by
  rw[<-hV]at hy
  obtain⟨x,hx,e⟩:=List.mem_map.1 (vf hy)
  rw[List.mem_filter]at hx
  refine⟨x,hx.1,⟨?_,hx.2⟩,e⟩
  unfold live
  rw[all]
  cases hd:x.dead with
  |none=>rfl
  |some j=>rw[hd]at hx; simp at hx
 let β':Nat->Nat->Prop:=λs k=>∃x,(V.find? λx=>x.dead.isNone&&x.slot==s)=some x/\β x.id k
 have hβ:∀x,x∈V->x.dead.isNone=true->∀k,β' x.slot k↔β x.id k:=by
  intro x hx hd k
  have hf:(V.find? λy=>y.dead.isNone&&y.slot==x.slot)=some x:=by
   cases hf:V.find? λy=>y.dead.isNone&&y.slot==x.slot with
   |none=>
    rw[List.find?_eq_none]at hf
    exact absurd (by simp[hd]) (hf x hx)
   |some y=>
    have h1:=List.mem_of_find?_eq_some hf
    have h2:=List.find?_some hf
    rw[xe,List.all_eq_true]at hs
    have h3:=hs x hx
    have hd':x.dead.isSome=false:=by cases WT:x.dead with
     |none=>rfl
     |some j=>rw[WT]at hd; cases hd
    rw[hd',Bool.false_or,beq_iff_eq]at h3
    rw[cw h3 h1 hx h2 (by simp[hd])]
  constructor
  ·rintro⟨y,hy,h⟩
   have hy:(V.find? λy=>y.dead.isNone&&y.slot==x.slot)=some y:=hy
   rw[hf]at hy
   injection hy with hy
   exact hy▸h
  ·exactλh=>⟨x,hf,h⟩
 have UH:∀x,x∈V->x.dead.isNone=true->β' x.slot=β x.id:=λx hx hd=>funext λk=>propext (hβ x hx hd k)
 have hown:∀k o,k<w.heap.size->own c V' none_ β' k o->own c V (λ_=>true) β k o:=by
  rintro k o _ (h1|⟨y,hy,_,h2,h3⟩)
  ·exact .inl h1
  ·obtain⟨x,hx,⟨hl,hd⟩,rfl⟩:=eV y hy
   exact .inr ⟨x,hx,hl,(hβ x hx hd k).1 h2,h3⟩
 refine⟨β',h.size,h.defers,h.below,h.old,?_,?_,(λp hp=>by cases hp),?_⟩
 ·intro y hy _
  obtain⟨x,hx,⟨hl,hd⟩,rfl⟩:=eV y hy
  have hv:=h.var x hx hl
  rcases iz x.kd with hk|⟨m,sz,hk⟩|hk
  ·obtain⟨g,h1,h2,h3⟩:=(bB hk).1 hv
   obtain⟨cs,h4,h5,h6,h7⟩:=h3.held
   exact(bB (x:=iV x) hk).2 ⟨g,λk=>(hβ x hx hd k).trans (h1 k),h2,h3.new,cs,h4,h5,h6,h7.sub hown⟩
  ·refine(bt (x:=iV x) hk).2 ?_
   show zZ c a w (iV x) m sz (β' x.slot)
   rw[UH x hx hd]
   exact(bt hk).1 hv
  ·obtain⟨h1,h2⟩:=(aK hk).1 hv
   refine(aK (x:=iV x) hk).2 ?_
   show xz _ c none_ a w (iV x) (β' x.slot)
   rw[UH x hx hd]
   exact⟨h1,h2.sub λk o hk' h=>⟨hown k o hk' h.1,h.2⟩⟩
 ·intro y y' g hy hy' _ _ hne
  obtain⟨x,hx,⟨hl,hd⟩,rfl⟩:=eV y hy
  obtain⟨x',hx',⟨hl',hd'⟩,rfl⟩:=eV y' hy'
  intro e1 e2
  have e1:β' x.slot g:=e1
  have e2:β' x'.slot g:=e2
  rw[hβ x hx hd]at e1
  rw[hβ x' hx' hd']at e2
  refine h.apart x x' g hx hx' hl hl' (λe=>hne ?_) e1 e2
  show x.slot=x'.slot
  rw[hid x x' hx hx' e]
 ·intro e he _ _
  rw[<-hG]at he
  obtain⟨f,hf,rfl⟩:=List.mem_map.1 (vf he)
  rw[List.mem_filter]at hf
  exact(h.gY f hf.1 (all _) (by cases ht:f.till with|none=>rfl|some j=>rw[ht]at hf; simp at hf)).sub hown
def xJ (x:Vr):Vr:=⟨x.id,x.slot,none,none,x.kd,x.T,x.n,x.agg,x.c0,[]⟩
def kq (V:List Vr):List Vr:=(V.filter λx=>x.born.isNone).map xJ
def nB (A:List Al):List Al:=A.filter λp=>p.tag.isNone
def ko (G:List aV):List aV:=(G.filter λe=>e.tag.isNone).map λe=>⟨none,none,e.slot,e.p⟩
theorem uL (p:Rel):∀st,cont none_ p st=p:=by
 intro st
 induction st with
 |nil=>rfl
 |cons q st ih=>exact ih
variable {V1:List Vr} {A1:List Al} {G1:List aV}
theorem Inv.enter (h:Inv c V A G none_ a w) (hV:kq V1=V) (hA:nB A1=A) (hG:ko G1=G):Inv c V1 A1 G1 none_ a w:=by
 obtain⟨β,h⟩:=h
 have eV:∀x,x∈V1->live none_ x=true->xJ x∈V:=by
  intro x hx hl
  unfold live at hl
  rw[Bool.and_eq_true]at hl
  have hb:x.born=none:=by
   cases hb:x.born with
   |none=>rfl
   |some j=>rw[hb]at hl; cases hl.1
  rw[<-hV]
  exact List.mem_map.2 ⟨x,List.mem_filter.2 ⟨hx,by rw[hb]; rfl⟩,rfl⟩
 have eo:∀k o,own c V1 none_ β k o->own c V none_ β k o:=by
  rintro k o (h1|⟨x,hx,h1,h2⟩)
  ·exact .inl h1
  ·exact .inr ⟨_,eV x hx h1,rfl,h2⟩
 refine⟨β,h.size,h.defers,h.below,h.old,?_,?_,?_,?_⟩
 ·intro x hx hl
  have hv:=h.var _ (eV x hx hl) rfl
  rcases iz x.kd with hk|⟨m,sz,hk⟩|hk
  ·obtain⟨g,h1,h2,h3⟩:=(bB (x:=xJ x) hk).1 hv
   obtain⟨cs,h4,h5,h6,h7⟩:=h3.held
   refine(bB hk).2 ⟨g,h1,h2,h3.new,cs,h4,h5,h6,?_⟩
   rw[uL]
   exact h7.sub λk o _ hk=>eo k o hk
  ·exact(bt hk).2 ((bt (x:=xJ x) hk).1 hv)
  ·obtain⟨h1,h2⟩:=(aK (x:=xJ x) hk).1 hv
   refine(aK hk).2 ⟨h1,?_⟩
   rw[uL]
   exact h2.sub λk o _ h=>⟨eo k o h.1,h.2⟩
 ·intro x y g hx hy h1 h2 hne
  have:=h.apart _ _ g (eV x hx h1) (eV y hy h2) rfl rfl hne
  exact this
 ·intro p hp hl hcd
  have ht:p.tag=none:=by
   cases hb:p.tag with
   |none=>rfl
   |some j=>rw[hb]at hl; cases hl
  exact h.al p (by rw[<-hA]; exact List.mem_filter.2 ⟨hp,by rw[ht]; rfl⟩) (by rw[ht]; rfl) hcd
 ·intro e he hl _
  have ht:e.tag=none:=by
   cases hb:e.tag with
   |none=>rfl
   |some j=>rw[hb]at hl; cases hl
  have hm:(⟨none,none,e.slot,e.p⟩:aV)∈G:=by
   rw[<-hG]
   exact List.mem_map.2 ⟨e,List.mem_filter.2 ⟨he,by rw[ht]; rfl⟩,rfl⟩
  exact(h.gY _ hm rfl rfl).sub λk o _ hk=>eo k o hk
variable {id:Nat} {l:List Oper} {V2:List Vr} {G2:List aV}
theorem Eg (h:Inv c V A G none_ a w) (hV:kq V1=V) (hA:nB A1=A) (hG:ko G1=G)
  (ms:List Nat) (hm:P.follows .mixedOrders=true) (hok:gX l.toArray=true) (yC:ve l=ms) (hwf:tU c.N l V1 A1 G1=true) (hs:qH P l.toArray ms c V1 A1 G1 0 l)
  (kv kg:List Nat) (hV2:iU kv (sO V1)=V2) (Fx:iU kg ((G1.filter λe=>e.till.isNone).map mo)=G2)
  (hk:∀a w,Inv c V2 [] G2 none_ a w->Q .normal a w):(Code.region id l.toArray true).wp P Q a w:=
 wU ms hm hok yC hwf (h.enter hV hA hG) hs λa w hI=>hk a w (hI.next kv kg (qh hwf) (xk hwf) hV2 Fx)
theorem GV (h:Inv c V A G none_ a w) (hV:kq V1=V) (hA:nB A1=A) (hG:ko G1=G)
  (ms:List Nat) (yC:aU l.length=ms) (hwf:tU c.N l V1 A1 G1=true) (hs:qH P l.toArray ms c V1 A1 G1 0 l)
  (kv kg:List Nat) (hV2:iU kv (sO V1)=V2) (Fx:iU kg ((G1.filter λe=>e.till.isNone).map mo)=G2)
  (hk:∀a w,Inv c V2 [] G2 none_ a w->Q .normal a w):(Code.region id l.toArray false).wp P Q a w:=
 zB hwf (h.enter hV hA hG) (by rw[yC]; exact hs) λa w hI=>hk a w (hI.next kv kg (qh hwf) (xk hwf) hV2 Fx)
variable {s:Nat} {p:Pred}
theorem Inv.get (h:Inv c V A G none_ a w) (k:Nat) (hk:G[k]?=some ⟨none,none,s,p⟩):p w (sl a s):=by
 obtain⟨β,h⟩:=h
 exact(h.gY _ (List.mem_of_getElem? hk) rfl rfl).out
def rK (M:Nat->Nat->Prop) (a:Act) (w:World):List aV->Prop
 |[]=>True
 |e::es=>(e.tag=none/\aM M (λw=>e.p w (sl a e.slot)) w)/\rK M a w es
variable {M:Nat->Nat->Prop}
theorem rK.get {a:Act} {w:World}:∀{G:List aV},rK M a w G->∀e,e∈G->e.tag=none/\aM M (λw=>e.p w (sl a e.slot)) w:=by
 intro G
 induction G with
 |nil=>intro _ e he; cases he
 |cons f G ih=>
  intro h e he
  rcases List.mem_cons.1 he with rfl|he
  ·exact h.1
  ·exact ih h.2 e he
theorem pT {N:Nat} (hM:cR M w) (hN:a.tmps.size=N) (hd:a.defers=[]) (hG:rK M a w G):Inv ⟨N,w,M,λ_=>False⟩ [] [] G none_ a w:=by
 have eo:∀L β k o,own ⟨N,w,M,λ_=>False⟩ [] L β k o->M k o:=by
  rintro L β k o (h|⟨x,hx,_⟩)
  ·exact h
  ·cases hx
 exact⟨λ_ _=>False,hN,hd,cz.refl _ _,(λk o h=>⟨⟨(hM k o h).1,λh=>h⟩,(hM k o h).2⟩),(λx hx=>by cases hx),(λx y g hx=>by cases hx),(λp hp=>by cases hp),λe he _ _=>(hG.get e he).2.sub λk o _ h=>eo _ _ _ _ h⟩
theorem Ca {b:Bool} {x y:Code} (hI:Inv c V A G none_ a w) (k:Nat) (hk:G[k]?=some ⟨none,none,s,pB b⟩) (ht:b=true->x.wp P Q a w) (hf:b=false->y.wp P Q a w):(Code.cond (.tmp s) x y).wp P Q a w:=
 wp_cond_split (show sl a s=.bool b from hI.get k hk) ht hf
inductive cZ (P:Program) (V:List Vr) (G:List aV):ResultVar->Pred->Prop
 |tmp {s:Nat} {p:Pred} (k:Nat) (hk:G[k]?=some ⟨none,none,s,p⟩):cZ P V G (.tmp s) p
 |cell {x:Vr} {p:Pred} {T s:Nat} (k:Nat) (hk:V[k]?=some x) (hb:live none_ x=true) (bS:x.kd=.ptr) (hs:x.slot=s) (ht:Ty P T x.agg x.n) (hc:cont none_ x.c0 x.st=pv p):cZ P V G (.cell s T) p
 |imp {r:ResultVar} {p q:Pred} (h:cZ P V G r p) (hq:∀w v,p w v->q w v):cZ P V G r q
def nw (tmps:Array Value):ResultVar->Go.Sem Value
 |.tmp t=>pure (tmps.getD t undef)
 |.cell a t=>do loadVar t (<-asAddr (tmps.getD a undef))
theorem cZ.run {r:ResultVar} (h:cZ P V G r p) {β:Nat->Nat->Prop} (hI:aT c V A G none_ β a w):∃v,(nw a.tmps r).run P w=.ok v w/\aM (own c V none_ β) (λw=>p w v) w:=by
 induction h with
 |tmp k hk=>exact⟨_,rfl,hI.gY _ (List.mem_of_getElem? hk) rfl rfl⟩
 |@cell x p T s k hk hb bS hs ht hc=>
  obtain⟨g,hg,e,hv⟩:=(bB (by rw[bS]; rfl)).1 (hI.var _ (List.mem_of_getElem? hk) hb)
  obtain⟨cs,h1,h2,h3,h4⟩:=hv.held
  rw[hc]at h4
  refine⟨_,?_,h4⟩
  rw[hs,bS]at e
  have:=eO (P:=P) (w:=w) (b:=g) (off:=0) ht (cs:=cs) (λj v hj=>by simp only[World.cell?,h1]; simpa using hj) h2
  simp only[Instr.loadAt,Instr.sureAddr,Sem.run_bind,Sem.run_pure,Result.andThen_ok]at this
  have e':a.tmps.getD _ undef=_:=e
  simp only[nw]
  rw[e']
  simp only[Kd.addr,asAddr,Sem.run_bind,Sem.run_pure,Result.andThen_ok]
  exact this
 |imp _ hq ih=>
  obtain⟨v,h1,h2⟩:=ih
  exact⟨v,h1,h2.imp λw=>hq w v⟩
theorem dm (fn:Func) (tmps:Array Value):results fn tmps=(do let vs <-fn.results.mapM (nw tmps); pure (if h:vs.size=1 then vs[0]else .tuple vs)):=by
 unfold results
 congr 1
theorem iM {F:World->Prop} {β:Nat->Nat->Prop} (h:aM (own c V none_ β) F w):aM c.M0 F w:=h.sub λ_ _ _ h=>.inl h
variable {fn:Func}
theorem iN {R:Ending->World->Prop} {β:Nat->Nat->Prop} (hI:aT c V A G none_ β a w) {v:Value} (hr:(results fn a.tmps).run P w=.ok v w) (hR:R (.returned v) w):bodyPost P fn R .ret a w:=⟨hI.defers,v,hr,hR⟩
variable {p:Pred}
theorem dB {r:ResultVar} (hI:Inv c V A G none_ a w) (hr:fn.results=#[r]) (h:cZ P V G r p) (hn:∀k,¬c.gw k:=by exactλ_ h=>h):bodyPost P fn (bD c.M0 p c.w0) .ret a w:=by
 obtain⟨β,hI⟩:=hI
 obtain⟨v,h1,h2⟩:=h.run hI
 refine iN hI (v:=v) ?_ ⟨v,rfl,iM h2,hI.below.below hn⟩
 rw[dm,hr]
 simp[h1]
variable {r1 r2:ResultVar} {q:Pred}
theorem kT (hI:Inv c V A G none_ a w) (hr:fn.results=#[r1,r2]) (h1:cZ P V G r1 p) (h2:cZ P V G r2 q) (hn:∀k,¬c.gw k:=by exactλ_ h=>h):bodyPost P fn (bD c.M0 (fJ p q) c.w0) .ret a w:=by
 obtain⟨β,hI⟩:=hI
 obtain⟨v1,k1,b1⟩:=h1.run hI
 obtain⟨v2,k2,b2⟩:=h2.run hI
 refine iN hI (v:=.tuple #[v1,v2]) ?_ ⟨_,rfl,λw' he=>⟨v1,v2,rfl,iM b1 w' he,iM b2 w' he⟩,hI.below.below hn⟩
 rw[dm,hr]
 simp[k1,k2,Sem.run_bind]
theorem Rt {r3:ResultVar} {r:Pred} (hI:Inv c V A G none_ a w) (hr:fn.results=#[r1,r2,r3]) (h1:cZ P V G r1 p) (h2:cZ P V G r2 q) (h3:cZ P V G r3 r) (hn:∀k,¬c.gw k:=by exactλ_ h=>h):bodyPost P fn (bD c.M0 (zl p q r) c.w0) .ret a w:=by
 obtain⟨β,hI⟩:=hI
 obtain⟨v1,k1,b1⟩:=h1.run hI
 obtain⟨v2,k2,b2⟩:=h2.run hI
 obtain⟨v3,k3,b3⟩:=h3.run hI
 refine iN hI (v:=.tuple #[v1,v2,v3]) ?_ ⟨_,rfl,λw' he=>⟨v1,v2,v3,rfl,iM b1 w' he,iM b2 w' he,iM b3 w' he⟩,hI.below.below hn⟩
 rw[dm,hr]
 simp[k1,k2,k3,Sem.run_bind]
variable {M:Nat->Nat->Prop}
theorem bD.ret {w:World} {e:Ending} {w':World} (h:bD M p w e w'):jb p w e w':=by
 obtain⟨v,e,h1,h2⟩:=h
 exact⟨v,e,h1.out,h2⟩
theorem sV (w:World):cR (λ_ _=>False) w:=λ_ _ h=>h.elim
def dH (M:Nat->Nat->Prop) (w:World) (vs:List Value):List aV->Prop
 |[]=>True
 |e::es=>((e.tag=none/\∃v,vs[e.slot]?=some v/\aM M (λw=>e.p w v) w)/\dH M w vs es)
variable {vs:List Value}
theorem dH.ok {w:World} {m:Nat}:∀{G:List aV},dH M w vs G->rK M { tmps:=vs.toArray++Array.replicate m undef,defers:=[] } w G:=by
 intro G
 induction G with
 |nil=>intro _; trivial
 |cons e G ih=>
  rintro⟨⟨h1,v,h2,h3⟩,h4⟩
  refine⟨⟨h1,?_⟩,ih h4⟩
  have hlt:e.slot<vs.length:=by
   rcases Nat.lt_or_ge e.slot vs.length with h'|h'
   ·exact h'
   ·rw[List.getElem?_eq_none h']at h2; cases h2
  have e1:sl { tmps:=vs.toArray++Array.replicate m undef,defers:=[] } e.slot=v:=by
   simp only[sl,Array.getD_eq_getD_getElem?]
   rw[Array.getElem?_append_left (by simpa using hlt)]
   simp[h2]
  rw[e1]
  exact h3
theorem ql {f:FuncId} {C:Code} {N:Nat} (hf:P.funcs[f]?=some fn) (hb:fn.body=some C) (hN:fn.ntmps=N) (hlen:decide (vs.length<=N)=true) (hM:cR M w) (hG:dH M w vs G)
  (h:∀a,Inv ⟨N,w,M,λ_=>False⟩ [] [] G none_ a w->C.wp P (bodyPost P fn (bD M p w)) a w):Calls P f vs.toArray w (bD M p w):=
 calls_of_wp hf hb (h _ (pT hM (by have:=of_decide_eq_true hlen; simp[hN]; omega) rfl hG.ok))
variable {id:Nat} {l:List Oper} {V1 V2:List Vr} {A1:List Al} {G1 G2:List aV} {y:Code}
theorem ju (h:Inv c V A G none_ a w) (hV:kq V1=V) (hA:nB A1=A) (hG:ko G1=G)
  (ms:List Nat) (hm:P.follows .mixedOrders=true) (hok:gX l.toArray=true) (yC:ve l=ms) (hwf:tU c.N l V1 A1 G1=true) (hs:qH P l.toArray ms c V1 A1 G1 0 l)
  (kv kg:List Nat) (hV2:iU kv (sO V1)=V2) (Fx:iU kg ((G1.filter λe=>e.till.isNone).map mo)=G2)
  (hk:∀a w,Inv c V2 [] G2 none_ a w->y.wp P Q a w):(Code.seq (Code.region id l.toArray true) y).wp P Q a w:=
 wp_seq (Eg h hV hA hG ms hm hok yC hwf hs kv kg hV2 Fx hk)
theorem oO (h:Inv c V A G none_ a w) (hV:kq V1=V) (hA:nB A1=A) (hG:ko G1=G)
  (ms:List Nat) (yC:aU l.length=ms) (hwf:tU c.N l V1 A1 G1=true) (hs:qH P l.toArray ms c V1 A1 G1 0 l)
  (kv kg:List Nat) (hV2:iU kv (sO V1)=V2) (Fx:iU kg ((G1.filter λe=>e.till.isNone).map mo)=G2)
  (hk:∀a w,Inv c V2 [] G2 none_ a w->y.wp P Q a w):(Code.seq (Code.region id l.toArray false) y).wp P Q a w:=
 wp_seq (GV h hV hA hG ms yC hwf hs kv kg hV2 Fx hk)
variable {K:Act->World->Prop}
theorem ah (h:K a w):Exit.then K Q .normal a w:=h
theorem aG (h:Q .ret a w):Exit.then K Q .ret a w:=h
variable {n:Nat}
theorem aH (h:Q (.exit n) a w):Exit.then K Q (.exit n) a w:=h
theorem aQ (h:Q .normal a w):Exit.inBlock n Q .normal a w:=h
theorem aO (h:Q .ret a w):Exit.inBlock n Q .ret a w:=h
theorem aY (h:Q .normal a w):Exit.inBlock n Q (.exit n) a w:=by simp only[Exit.inBlock,if_true]; exact h
end
end Wx

namespace Wx
open Go Go.RowKit Go.Proofs
def H8 (w:World) (A:Option Addr) (c:Nat) (l:List Nat) (e:Ending) (w':World):Prop:=
 ∃n,n<=l.length/\e=.returned (.slice A n c)/\w=w'/\qV (l.take n)/\(∀b,val b (l.take n)=val b l)
variable {l:List Nat} {n:Nat}
theorem El (hn:n<l.length) (h0:l.getD n 0=0) (b:Nat):val b (l.take n)=val b (l.take (n+1)):=by
 rw[jj b l n hn]
 rw[List.getD_eq_getElem?_getD,List.getElem?_eq_getElem hn]at h0
 simp at h0
 simp[h0]
theorem Ni (hn:n<l.length) (h0:l.getD n 0≠0):qV (l.take (n+1)):=by
 unfold qV
 rw[List.take_succ_eq_append_getElem hn]
 rw[List.getD_eq_getElem?_getD,List.getElem?_eq_getElem hn]at h0
 simp at h0
 rw[List.getLast?_concat]; simpa using h0
theorem Cc (w:World) (A:Option Addr) (c:Nat) (l:List Nat) (h:Rd w .u64 A c l):
  Calls Tryz.prog 75 #[.slice A l.length c] w (H8 w A c l):=by
 obtain⟨hl,hm,hcell⟩:=h
 unfold maxLen at hm
 go_enter Tryz.func75,Tryz.ntmps75
 go_wp2
 go_loop [0] (λv=>∃n:Nat,n<=l.length/\v=.slice A n c/\(∀b,val b (l.take n)=val b l)) (λv=>Qe v)
 case atStart=>exact⟨l.length,Nat.le_refl _,rfl,λb=>by rw[List.take_length]⟩
 case round=>
  obtain⟨n,hn,rfl,hv⟩:=hrel
  have HV:=Lib.hid hv
  clear hv
  rcases Nat.eq_zero_or_pos n with rfl|hpos
  ·go_wp2
   go_ret
   exact⟨0,hn,rfl,rfl,qV.nil,HV.out⟩
  ·obtain⟨b,o,rfl,hc⟩:=hcell (by rintro rfl; simp at hn; omega)
   have xq:=hc (n-1) (by omega)
   clear hc hcell
   obtain⟨x,hx⟩:∃x,x=l.getD (n-1) 0:=⟨_,rfl⟩
   rw[<-hx]at xq
   have HX:=Lib.hid hx
   clear hx
   rcases Nat.eq_zero_or_pos x with rfl|h0
   ·go_wp2
    go_round
    case rel=>exact⟨n-1,by omega,rfl,λb=>by rw[El (by omega) HX.out.symm,show n-1+1=n by omega,HV.out]⟩
    case measure=>simp[Qe]; omega
   ·go_wp2
    go_ret
    exact⟨n,hn,rfl,rfl,by have:=Ni (l:=l) (n:=n-1) (by omega) (by have:=HX.out; omega); rwa [show n-1+1=n by omega]at this,HV.out⟩
def b64:Nat:=18446744073709551616
theorem iL:b64=2^64:=by unfold b64; decide
theorem ak:2<=b64:=by unfold b64; omega
theorem ot {k:Nat} (h:Bd k n):(af b64 n).length<=k/64+1:=by rw[iL]; exact h.af (by omega)
theorem jf:(Tryz.prog.info? 86).map (λi=>(i.zero,i.size,decide (i.bytes<=8)))=some (some (.int .u64 0),1,true):=by kernel_rfl
theorem gP (w:World) (A:Option Addr) (c:Nat) (l:List Nat) (n:Nat) (h:Rd w .u64 A c l) (hw:Wf b64 l) (L:Nat) (hL:l.length=L) (hn:val b64 l=n):
  Calls Tryz.prog 75 #[.slice A L c] w (Ii .u64 b64 w n):=by
 subst hL
 refine(Cc w A c l h).mono λe w' ⟨k,hk,he,hw',ht,hv⟩=>⟨hw',_,he,?_⟩
 rw[<-hn,<-hv b64]
 exact cI.of ak (h.take k) (by rw[List.length_take]; omega) (hw.take k) ht
end Wx

namespace Wx
open Go Go.RowKit Go.Proofs
theorem lQ (w:World) (n:Nat) (hn:n<b64):Calls Tryz.prog 58 #[.int .u64 (n:Int)] w (jc .u64 b64 w n):=by
 go_enter Tryz.func58,Tryz.ntmps58
 go_wp2_with fail
 have hR:Row (w.alloc (.cells #[.int .u64 (n:Int)] 86)) .u64 86 w.heap.size [n]:=Row.new w .u64 86 [n]
 refine(gP _ _ _ [n] n (hR.iE (Nat.le_refl _) (by simp[maxLen])) (Wf.cons hn (Wf.nil _)) _ rfl (by simp[val])).mono ?_
 rintro e w' ⟨rfl,v,rfl,hv⟩
 go_wp2
 go_ret
 exact⟨v,rfl,hv,(Below.refl _ _).alloc (Nat.le_refl _) _⟩
theorem uX (w:World) (v:Value) (n:Nat) (h:cI .u64 b64 w v n):Calls Tryz.prog 72 #[v] w λe w'=>e=.returned (.bool (decide (n=1)))/\w=w':=by
 obtain⟨A,c,rfl,ha⟩:=h
 have hla:=ha.len
 by_cases h1:(af b64 n).length=1
 ·obtain⟨b,o,x,rfl,hc,HX⟩:=ha.get (i:=0) (by omega)
  have hn:af b64 n=[x]:=by
   have hx:=HX.out
   match hd:af b64 n,h1,hx with
   |[y],_,hx=>simp at hx; rw[hx]
  have Sw:n=x:=by have:=bM ak n; rw[hn]at this; simpa [val] using this.symm
  rw[h1]
  rw[Nat.add_zero]at hc
  subst Sw
  have HN:=Lib.hid hn
  clear hn h1 HX ha hla
  go_enter Tryz.func72,Tryz.ntmps72
  by_cases Dy:n=1
  ·subst Dy
   go_wp2
   go_ret
   exact⟨rfl,rfl⟩
  ·have hb:(((n:Nat):Int)==1)=false:=by simp; omega
   have hd:decide (n=1)=false:=by simp[Dy]
   rw[hd]
   go_wp2
   go_ret
   exact⟨rfl,rfl⟩
 ·have hd:decide (n=1)=false:=by
   simp
   rintro rfl
   exact h1 (by rw[sk ak (by omega) (by unfold b64; omega)]; rfl)
  rw[hd]
  generalize (af b64 n).length=L at *
  have hb:((L:Int)==1)=false:=by simp; omega
  go_enter Tryz.func72,Tryz.ntmps72
  go_wp2
  go_ret
  exact⟨rfl,rfl⟩
def cD (m n:Nat):Int:=if m<n then -1 else if n<m then 1 else 0
set_option maxHeartbeats 400000 in
theorem LJ (w:World) (v1 v2:Value) (m n:Nat) (h1:cI .u64 b64 w v1 m) (h2:cI .u64 b64 w v2 n):
  Calls Tryz.prog 55 #[v1,v2] w (BX w (.int .i64 (cD m n))):=by
 obtain⟨A,c,rfl,ha⟩:=h1
 obtain⟨B,d,rfl,hb⟩:=h2
 have hla:=ha.len
 have hlb:=hb.len
 by_cases hlt:(af b64 m).length<(af b64 n).length
 ·have hmn:=dW ak hlt
  have e:cD m n = -1:=by unfold cD; rw[if_pos hmn]
  rw[e]
  go_enter Tryz.func55,Tryz.ntmps55
  go_wp2
  all_goals (go_ret; exact⟨rfl,0,rfl⟩)
 ·by_cases hgt:(af b64 n).length<(af b64 m).length
  ·have hmn:=dW ak hgt
   have e:cD m n=1:=by unfold cD; rw[if_neg (by omega),if_pos hmn]
   rw[e]
   go_enter Tryz.func55,Tryz.ntmps55
   go_wp2
   all_goals (go_ret; exact⟨rfl,0,rfl⟩)
  ·have Ss:(af b64 m).length=(af b64 n).length:=by omega
   have wa:=cS ak m
   have wb:=cS ak n
   have va:=bM ak m
   have vb:=bM ak n
   generalize af b64 m=a at *
   generalize af b64 n=b at *
   rw[<-Ss]at hlb ⊢
   have HL:=Lib.hid Ss
   have VA:=Lib.hid va
   have VB:=Lib.hid vb
   clear Ss va vb hlt hgt hlb
   go_enter Tryz.func55,Tryz.ntmps55
   go_wp2
   go_loopw [5] (λs5 wr=>∃i:Nat,i<=a.length/\s5=.int .i64 ((i:Int)-1)/\a.drop i=b.drop i/\∃q,wr=w.drewN q)
    (λs5 _=>(RowKit.intOf s5+1).toNat)
   case atStart=>exact⟨a.length,Nat.le_refl _,rfl,by rw[List.drop_of_length_le (Nat.le_refl _),List.drop_of_length_le (by have:=HL.out; omega)],0,rfl⟩
   case round=>
    obtain⟨i,hi,rfl,hd,q,rfl⟩:=hrel
    have HD:=Lib.hid hd
    clear hd
    rcases Nat.eq_zero_or_pos i with rfl|hpos
    ·rw[show(((0:Nat):Int)-1) = -1 by omega]
     have:a=b:=by simpa using HD.out
     have e:m=n:=by rw[<-VA.out,<-VB.out,this]
     have e0:cD m n=0:=by unfold cD; rw[if_neg (by omega),if_neg (by omega)]
     have E0:=Lib.hid e0
     clear e e0 this
     go_wp2
     go_ret
     exact⟨mh E0.out.symm,_,rfl⟩
    ·obtain⟨j,rfl⟩:∃j,i=j+1:=⟨i-1,by omega⟩
     obtain⟨b1,o1,x,rfl,Hx,HX⟩:=ha.get (i:=j) (by omega)
     obtain⟨b2,o2,y,rfl,Qx,HY⟩:=hb.get (i:=j) (by have:=HL.out; omega)
     rw[show(((j+1:Nat):Int)-1)=(j:Int) by omega]
     have Wn:(0:Int)<=(j:Int):=by omega
     have gg:(j:Int)<(a.length:Int):=by omega
     rcases Nat.lt_trichotomy x y with hxy|hxy|hxy
     ·have SX:(x:Int)<(y:Int):=by omega
      have hmn:m<n:=by
       rw[<-VA.out,<-VB.out]
       exact tT wa HX.out HY.out HD.out hxy
      have E0:Hid (cD m n = -1):=by show cD m n = -1; unfold cD; rw[if_pos hmn]
      clear hmn
      go_wp2
      go_quiet (fail)
      go_wp2
      go_ret
      exact⟨mh E0.out.symm,_,World.drewN_drewN _ _ _⟩
     ·subst hxy
      go_wp2
      go_quiet (fail)
      go_wp2
      go_quiet (fail)
      go_wp2
      go_roundw
      case rel=>exact⟨j,by omega,by go_num,Fh HX.out HY.out HD.out,_,rfl⟩
      case measure=>simp[RowKit.intOf]
     ·have SX:(y:Int)<(x:Int):=by omega
      have hmn:n<m:=by
       rw[<-VA.out,<-VB.out]
       exact tT wb HY.out HX.out HD.out.symm hxy
      have E0:Hid (cD m n=1):=by show cD m n=1; unfold cD; rw[if_neg (by omega),if_pos hmn]
      clear hmn
      go_wp2
      go_quiet (fail)
      go_wp2
      go_quiet (fail)
      go_wp2
      go_ret
      exact⟨mh E0.out.symm,_,(World.drewN_drewN _ _ _).trans (World.drewN_drewN _ _ _)⟩
theorem lU (w:World) (v1 v2:Value) (m n:Nat) (h1:cI .u64 b64 w v1 m) (h2:cI .u64 b64 w v2 n):
  Calls Tryz.prog 55 #[v1,v2] w (eZ w (.int .i64 (cD m n))):=(LJ w v1 v2 m n h1 h2).mono λ_ _ h=>h.is
end Wx
