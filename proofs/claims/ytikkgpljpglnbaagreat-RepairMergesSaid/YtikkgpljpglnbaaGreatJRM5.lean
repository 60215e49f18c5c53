import Derived.Test.YtikkgpljpglnbaaGreatCRMSemMem
import Derived.Test.YtikkgpljpglnbaaGreatProg
namespace Wx
open Go Go.RowKit
def gL {α:Type} (ks:List Nat) (l:List α):List α:=ks.filterMap λk=>l[k]?
def gM (x:Vr):Vr:=⟨x.slot,x.slot,none,none,x.kd,x.T,x.n,x.agg,cont (λ_=>true) x.c0 x.st,[]⟩
def qR (V:List Vr):List Vr:=(V.filter λx=>x.dead.isNone).map gM
def kI (e:aQ):aQ:=⟨none,none,e.slot,e.p⟩
theorem tj {α:Type} {ks:List Nat} {l:List α} {x:α} (h:x∈gL ks l):x∈l:=by
 simp only[gL,List.mem_filterMap]at h
 obtain⟨k,_,hk⟩:=h
 exact List.mem_of_getElem? hk
def fl (p q:Pred):Pred:=λw v=>∃x y,v=.tuple #[x,y]/\p w x/\q w y
def wQ (p q r:Pred):Pred:=λw v=>∃x y z,v=.tuple #[x,y,z]/\p w x/\q w y/\r w z
variable {p q:Pred}
theorem Lu:∀w v,fl p q w v->∃vs u,v=.tuple vs/\vs[0]?=some u/\p w u:=λ_ _ ⟨_,_,e,h,_⟩=>⟨_,_,e,rfl,h⟩
theorem Lv:∀w v,fl p q w v->∃vs u,v=.tuple vs/\vs[1]?=some u/\q w u:=λ_ _ ⟨_,_,e,_,h⟩=>⟨_,_,e,rfl,h⟩
variable {r:Pred}
theorem Lx:∀w v,wQ p q r w v->∃vs u,v=.tuple vs/\vs[0]?=some u/\p w u:=λ_ _ ⟨_,_,_,e,h,_,_⟩=>⟨_,_,e,rfl,h⟩
theorem Ly:∀w v,wQ p q r w v->∃vs u,v=.tuple vs/\vs[1]?=some u/\q w u:=λ_ _ ⟨_,_,_,e,_,h,_⟩=>⟨_,_,e,rfl,h⟩
theorem Lz:∀w v,wQ p q r w v->∃vs u,v=.tuple vs/\vs[2]?=some u/\r w u:=λ_ _ ⟨_,_,_,e,_,_,h⟩=>⟨_,_,e,rfl,h⟩
theorem fN (hp:av p) (hq:av q):av (fl p q):=by
 rintro M w v hM ⟨x,y,e,h1,h2⟩ w' he
 exact⟨x,y,e,hp M w x hM h1 w' he,hq M w y hM h2 w' he⟩
section
variable {P:Program} {Q:Exit->Act->World->Prop} {c:cF} {V:List Vr} {A:List Al} {G:List aQ} {a:Act} {w:World}
theorem Inv.next {V':List Vr} {G':List aQ} (kv kg:List Nat) (h:Inv c V A G (λ_=>true) a w) (hs:uJ V=true) (hid:∀x y,x∈V->y∈V->x.id=y.id->x=y) (hV:gL kv (qR V)=V') (hG:gL kg ((G.filter λe=>e.till.isNone).map kI)=G'):Inv c V' [] G' none_ a w:=by
 obtain⟨β,h⟩:=h
 have all:∀t,on (λ_=>true) t=true:=λt=>by cases t<;>rfl
 have eV:∀y,y∈V'->∃x,x∈V/\(live (λ_=>true) x=true/\x.dead.isNone=true)/\gM x=y:=λy hy=>by
  rw[<-hV]at hy
  obtain⟨x,hx,e⟩:=List.mem_map.1 (tj hy)
  rw[List.mem_filter]at hx
  refine⟨x,hx.1,⟨?_,hx.2⟩,e⟩
  unfold live
  rw[all]
  cases hd:x.dead with
  |none=>rfl
  |some j=>rw[hd]at hx; simp at hx
 let β':Nat->Nat->Prop:=λs k=>∃x,(V.find? λx=>x.dead.isNone&&x.slot==s)=some x/\β x.id k
 have hβ:∀x,x∈V->x.dead.isNone=true->∀k,β' x.slot k↔β x.id k:=by
  intro x hx hd k
  have hf:(V.find? λy=>y.dead.isNone&&y.slot==x.slot)=some x:=by
   cases hf:V.find? λy=>y.dead.isNone&&y.slot==x.slot with
   |none=>
    rw[List.find?_eq_none]at hf
    exact absurd (by simp[hd]) (hf x hx)
   |some y=>
    have h1:=List.mem_of_find?_eq_some hf
    have h2:=List.find?_some hf
    rw[uJ,List.all_eq_true]at hs
    have h3:=hs x hx
    have hd':x.dead.isSome=false:=by cases TD:x.dead with
     |none=>rfl
     |some j=>rw[TD]at hd; cases hd
    rw[hd',Bool.false_or,beq_iff_eq]at h3
    rw[bY h3 h1 hx h2 (by simp[hd])]
  constructor
  ·rintro⟨y,hy,h⟩
   have hy:(V.find? λy=>y.dead.isNone&&y.slot==x.slot)=some y:=hy
   rw[hf]at hy
   injection hy with hy
   exact hy▸h
  ·exactλh=>⟨x,hf,h⟩
 have RL:∀x,x∈V->x.dead.isNone=true->β' x.slot=β x.id:=λx hx hd=>funext λk=>propext (hβ x hx hd k)
 have hown:∀k o,k<w.heap.size->own c V' none_ β' k o->own c V (λ_=>true) β k o:=by
  rintro k o _ (h1|⟨y,hy,_,h2,h3⟩)
  ·exact .inl h1
  ·obtain⟨x,hx,⟨hl,hd⟩,rfl⟩:=eV y hy
   exact .inr ⟨x,hx,hl,(hβ x hx hd k).1 h2,h3⟩
 refine⟨β',h.size,h.defers,h.below,h.old,?_,?_,(λp hp=>by cases hp),?_⟩
 ·intro y hy _
  obtain⟨x,hx,⟨hl,hd⟩,rfl⟩:=eV y hy
  have hv:=h.var x hx hl
  rcases gj x.kd with hk|⟨m,sz,hk⟩|hk
  ·obtain⟨g,h1,h2,h3⟩:=(bj hk).1 hv
   obtain⟨cs,h4,h5,h6,h7⟩:=h3.held
   exact(bj (x:=gM x) hk).2 ⟨g,λk=>(hβ x hx hd k).trans (h1 k),h2,h3.new,cs,h4,h5,h6,h7.sub hown⟩
  ·refine(bh (x:=gM x) hk).2 ?_
   show xJ c a w (gM x) m sz (β' x.slot)
   rw[RL x hx hd]
   exact(bh hk).1 hv
  ·obtain⟨h1,h2⟩:=(aG hk).1 hv
   refine(aG (x:=gM x) hk).2 ?_
   show uU _ c none_ a w (gM x) (β' x.slot)
   rw[RL x hx hd]
   exact⟨h1,h2.sub λk o hk' h=>⟨hown k o hk' h.1,h.2⟩⟩
 ·intro y y' g hy hy' _ _ hne
  obtain⟨x,hx,⟨hl,hd⟩,rfl⟩:=eV y hy
  obtain⟨x',hx',⟨hl',hd'⟩,rfl⟩:=eV y' hy'
  intro e1 e2
  have e1:β' x.slot g:=e1
  have e2:β' x'.slot g:=e2
  rw[hβ x hx hd]at e1
  rw[hβ x' hx' hd']at e2
  refine h.apart x x' g hx hx' hl hl' (λe=>hne ?_) e1 e2
  show x.slot=x'.slot
  rw[hid x x' hx hx' e]
 ·intro e he _ _
  rw[<-hG]at he
  obtain⟨f,hf,rfl⟩:=List.mem_map.1 (tj he)
  rw[List.mem_filter]at hf
  exact(h.gD f hf.1 (all _) (by cases ht:f.till with|none=>rfl|some j=>rw[ht]at hf; simp at hf)).sub hown
def ve (x:Vr):Vr:=⟨x.id,x.slot,none,none,x.kd,x.T,x.n,x.agg,x.c0,[]⟩
def jl (V:List Vr):List Vr:=(V.filter λx=>x.born.isNone).map ve
def lM (A:List Al):List Al:=A.filter λp=>p.tag.isNone
def jk (G:List aQ):List aQ:=(G.filter λe=>e.tag.isNone).map λe=>⟨none,none,e.slot,e.p⟩
theorem sR (p:Rel):∀st,cont none_ p st=p:=by
 intro st
 induction st with
 |nil=>rfl
 |cons q st ih=>exact ih
variable {V1:List Vr} {A1:List Al} {G1:List aQ}
theorem Inv.enter (h:Inv c V A G none_ a w) (hV:jl V1=V) (hA:lM A1=A) (hG:jk G1=G):Inv c V1 A1 G1 none_ a w:=by
 obtain⟨β,h⟩:=h
 have eV:∀x,x∈V1->live none_ x=true->ve x∈V:=by
  intro x hx hl
  unfold live at hl
  rw[Bool.and_eq_true]at hl
  have hb:x.born=none:=by
   cases hb:x.born with
   |none=>rfl
   |some j=>rw[hb]at hl; cases hl.1
  rw[<-hV]
  exact List.mem_map.2 ⟨x,List.mem_filter.2 ⟨hx,by rw[hb]; rfl⟩,rfl⟩
 have eo:∀k o,own c V1 none_ β k o->own c V none_ β k o:=by
  rintro k o (h1|⟨x,hx,h1,h2⟩)
  ·exact .inl h1
  ·exact .inr ⟨_,eV x hx h1,rfl,h2⟩
 refine⟨β,h.size,h.defers,h.below,h.old,?_,?_,?_,?_⟩
 ·intro x hx hl
  have hv:=h.var _ (eV x hx hl) rfl
  rcases gj x.kd with hk|⟨m,sz,hk⟩|hk
  ·obtain⟨g,h1,h2,h3⟩:=(bj (x:=ve x) hk).1 hv
   obtain⟨cs,h4,h5,h6,h7⟩:=h3.held
   refine(bj hk).2 ⟨g,h1,h2,h3.new,cs,h4,h5,h6,?_⟩
   rw[sR]
   exact h7.sub λk o _ hk=>eo k o hk
  ·exact(bh hk).2 ((bh (x:=ve x) hk).1 hv)
  ·obtain⟨h1,h2⟩:=(aG (x:=ve x) hk).1 hv
   refine(aG hk).2 ⟨h1,?_⟩
   rw[sR]
   exact h2.sub λk o _ h=>⟨eo k o h.1,h.2⟩
 ·intro x y g hx hy h1 h2 hne
  have:=h.apart _ _ g (eV x hx h1) (eV y hy h2) rfl rfl hne
  exact this
 ·intro p hp hl hcd
  have ht:p.tag=none:=by
   cases hb:p.tag with
   |none=>rfl
   |some j=>rw[hb]at hl; cases hl
  exact h.al p (by rw[<-hA]; exact List.mem_filter.2 ⟨hp,by rw[ht]; rfl⟩) (by rw[ht]; rfl) hcd
 ·intro e he hl _
  have ht:e.tag=none:=by
   cases hb:e.tag with
   |none=>rfl
   |some j=>rw[hb]at hl; cases hl
  have hm:(⟨none,none,e.slot,e.p⟩:aQ)∈G:=by
   rw[<-hG]
   exact List.mem_map.2 ⟨e,List.mem_filter.2 ⟨he,by rw[ht]; rfl⟩,rfl⟩
  exact(h.gD _ hm rfl rfl).sub λk o _ hk=>eo k o hk
variable {id:Nat} {l:List Oper} {V2:List Vr} {G2:List aQ}
theorem B8 (h:Inv c V A G none_ a w) (hV:jl V1=V) (hA:lM A1=A) (hG:jk G1=G)
  (ms:List Nat) (hm:P.follows .mixedOrders=true) (hok:fQ l.toArray=true) (vZ:th l=ms) (hwf:pM c.N l V1 A1 G1=true) (hs:oC P l.toArray ms c V1 A1 G1 0 l)
  (kv kg:List Nat) (hV2:gL kv (qR V1)=V2) (Bq:gL kg ((G1.filter λe=>e.till.isNone).map kI)=G2)
  (hk:∀a w,Inv c V2 [] G2 none_ a w->Q .normal a w):(Code.region id l.toArray true).wp P Q a w:=
 uB ms hm hok vZ hwf (h.enter hV hA hG) hs λa w hI=>hk a w (hI.next kv kg (nR hwf) (uL hwf) hV2 Bq)
theorem El (h:Inv c V A G none_ a w) (hV:jl V1=V) (hA:lM A1=A) (hG:jk G1=G)
  (ms:List Nat) (vZ:aN l.length=ms) (hwf:pM c.N l V1 A1 G1=true) (hs:oC P l.toArray ms c V1 A1 G1 0 l)
  (kv kg:List Nat) (hV2:gL kv (qR V1)=V2) (Bq:gL kg ((G1.filter λe=>e.till.isNone).map kI)=G2)
  (hk:∀a w,Inv c V2 [] G2 none_ a w->Q .normal a w):(Code.region id l.toArray false).wp P Q a w:=
 xb hwf (h.enter hV hA hG) (by rw[vZ]; exact hs) λa w hI=>hk a w (hI.next kv kg (nR hwf) (uL hwf) hV2 Bq)
variable {s:Nat} {p:Pred}
theorem Inv.get (h:Inv c V A G none_ a w) (k:Nat) (hk:G[k]?=some ⟨none,none,s,p⟩):p w (sl a s):=by
 obtain⟨β,h⟩:=h
 exact(h.gD _ (List.mem_of_getElem? hk) rfl rfl).out
def pT (M:Nat->Nat->Prop) (a:Act) (w:World):List aQ->Prop
 |[]=>True
 |e::es=>(e.tag=none/\aL M (λw=>e.p w (sl a e.slot)) w)/\pT M a w es
variable {M:Nat->Nat->Prop}
theorem pT.get {a:Act} {w:World}:∀{G:List aQ},pT M a w G->∀e,e∈G->e.tag=none/\aL M (λw=>e.p w (sl a e.slot)) w:=by
 intro G
 induction G with
 |nil=>intro _ e he; cases he
 |cons f G ih=>
  intro h e he
  rcases List.mem_cons.1 he with rfl|he
  ·exact h.1
  ·exact ih h.2 e he
theorem nE {N:Nat} (hM:cQ M w) (hN:a.tmps.size=N) (hd:a.defers=[]) (hG:pT M a w G):Inv ⟨N,w,M,λ_=>False⟩ [] [] G none_ a w:=by
 have eo:∀L β k o,own ⟨N,w,M,λ_=>False⟩ [] L β k o->M k o:=by
  rintro L β k o (h|⟨x,hx,_⟩)
  ·exact h
  ·cases hx
 exact⟨λ_ _=>False,hN,hd,cA.refl _ _,(λk o h=>⟨⟨(hM k o h).1,λh=>h⟩,(hM k o h).2⟩),(λx hx=>by cases hx),(λx y g hx=>by cases hx),(λp hp=>by cases hp),λe he _ _=>(hG.get e he).2.sub λk o _ h=>eo _ _ _ _ h⟩
theorem zM {b:Bool} {x y:Code} (hI:Inv c V A G none_ a w) (k:Nat) (hk:G[k]?=some ⟨none,none,s,pB b⟩) (ht:b=true->x.wp P Q a w) (hf:b=false->y.wp P Q a w):(Code.cond (.tmp s) x y).wp P Q a w:=
 wp_cond_split (show sl a s=.bool b from hI.get k hk) ht hf
inductive cN (P:Program) (V:List Vr) (G:List aQ):ResultVar->Pred->Prop
 |tmp {s:Nat} {p:Pred} (k:Nat) (hk:G[k]?=some ⟨none,none,s,p⟩):cN P V G (.tmp s) p
 |cell {x:Vr} {p:Pred} {T s:Nat} (k:Nat) (hk:V[k]?=some x) (hb:live none_ x=true) (bD:x.kd=.ptr) (hs:x.slot=s) (ht:Ty P T x.agg x.n) (hc:cont none_ x.c0 x.st=pv p):cN P V G (.cell s T) p
 |imp {r:ResultVar} {p q:Pred} (h:cN P V G r p) (hq:∀w v,p w v->q w v):cN P V G r q
def lJ (tmps:Array Value):ResultVar->Go.Sem Value
 |.tmp t=>pure (tmps.getD t undef)
 |.cell a t=>do loadVar t (<-asAddr (tmps.getD a undef))
theorem cN.run {r:ResultVar} (h:cN P V G r p) {β:Nat->Nat->Prop} (hI:aT c V A G none_ β a w):∃v,(lJ a.tmps r).run P w=.ok v w/\aL (own c V none_ β) (λw=>p w v) w:=by
 induction h with
 |tmp k hk=>exact⟨_,rfl,hI.gD _ (List.mem_of_getElem? hk) rfl rfl⟩
 |@cell x p T s k hk hb bD hs ht hc=>
  obtain⟨g,hg,e,hv⟩:=(bj (by rw[bD]; rfl)).1 (hI.var _ (List.mem_of_getElem? hk) hb)
  obtain⟨cs,h1,h2,h3,h4⟩:=hv.held
  rw[hc]at h4
  refine⟨_,?_,h4⟩
  rw[hs,bD]at e
  have:=dU (P:=P) (w:=w) (b:=g) (off:=0) ht (cs:=cs) (λj v hj=>by simp only[World.cell?,h1]; simpa using hj) h2
  simp only[Instr.loadAt,Instr.sureAddr,Sem.run_bind,Sem.run_pure,Result.andThen_ok]at this
  have e':a.tmps.getD _ undef=_:=e
  simp only[lJ]
  rw[e']
  simp only[Kd.addr,asAddr,Sem.run_bind,Sem.run_pure,Result.andThen_ok]
  exact this
 |imp _ hq ih=>
  obtain⟨v,h1,h2⟩:=ih
  exact⟨v,h1,h2.imp λw=>hq w v⟩
theorem cR (fn:Func) (tmps:Array Value):results fn tmps=(do let vs <-fn.results.mapM (lJ tmps); pure (if h:vs.size=1 then vs[0]else .tuple vs)):=by
 unfold results
 congr 1
theorem gF {F:World->Prop} {β:Nat->Nat->Prop} (h:aL (own c V none_ β) F w):aL c.M0 F w:=h.sub λ_ _ _ h=>.inl h
variable {fn:Func}
theorem gG {R:Ending->World->Prop} {β:Nat->Nat->Prop} (hI:aT c V A G none_ β a w) {v:Value} (hr:(results fn a.tmps).run P w=.ok v w) (hR:R (.returned v) w):bodyPost P fn R .ret a w:=⟨hI.defers,v,hr,hR⟩
variable {p:Pred}
theorem cT {r:ResultVar} (hI:Inv c V A G none_ a w) (hr:fn.results=#[r]) (h:cN P V G r p) (hn:∀k,¬c.fH k:=by exactλ_ h=>h):bodyPost P fn (bV c.M0 p c.w0) .ret a w:=by
 obtain⟨β,hI⟩:=hI
 obtain⟨v,h1,h2⟩:=h.run hI
 refine gG hI (v:=v) ?_ ⟨v,rfl,gF h2,hI.below.below hn⟩
 rw[cR,hr]
 simp[h1]
variable {r1 r2:ResultVar} {q:Pred}
theorem lY (hI:Inv c V A G none_ a w) (hr:fn.results=#[r1,r2]) (h1:cN P V G r1 p) (h2:cN P V G r2 q) (hn:∀k,¬c.fH k:=by exactλ_ h=>h):bodyPost P fn (bV c.M0 (fl p q) c.w0) .ret a w:=by
 obtain⟨β,hI⟩:=hI
 obtain⟨v1,k1,b1⟩:=h1.run hI
 obtain⟨v2,k2,b2⟩:=h2.run hI
 refine gG hI (v:=.tuple #[v1,v2]) ?_ ⟨_,rfl,λw' he=>⟨v1,v2,rfl,gF b1 w' he,gF b2 w' he⟩,hI.below.below hn⟩
 rw[cR,hr]
 simp[k1,k2,Sem.run_bind]
theorem Oy {r3:ResultVar} {r:Pred} (hI:Inv c V A G none_ a w) (hr:fn.results=#[r1,r2,r3]) (h1:cN P V G r1 p) (h2:cN P V G r2 q) (h3:cN P V G r3 r) (hn:∀k,¬c.fH k:=by exactλ_ h=>h):bodyPost P fn (bV c.M0 (wQ p q r) c.w0) .ret a w:=by
 obtain⟨β,hI⟩:=hI
 obtain⟨v1,k1,b1⟩:=h1.run hI
 obtain⟨v2,k2,b2⟩:=h2.run hI
 obtain⟨v3,k3,b3⟩:=h3.run hI
 refine gG hI (v:=.tuple #[v1,v2,v3]) ?_ ⟨_,rfl,λw' he=>⟨v1,v2,v3,rfl,gF b1 w' he,gF b2 w' he,gF b3 w' he⟩,hI.below.below hn⟩
 rw[cR,hr]
 simp[k1,k2,k3,Sem.run_bind]
variable {M:Nat->Nat->Prop}
theorem bV.ret {w:World} {e:Ending} {w':World} (h:bV M p w e w'):iw p w e w':=by
 obtain⟨v,e,h1,h2⟩:=h
 exact⟨v,e,h1.out,h2⟩
theorem qV (w:World):cQ (λ_ _=>False) w:=λ_ _ h=>h.elim
def dO (M:Nat->Nat->Prop) (w:World) (vs:List Value):List aQ->Prop
 |[]=>True
 |e::es=>((e.tag=none/\∃v,vs[e.slot]?=some v/\aL M (λw=>e.p w v) w)/\dO M w vs es)
variable {vs:List Value}
theorem dO.ok {w:World} {m:Nat}:∀{G:List aQ},dO M w vs G->pT M { tmps:=vs.toArray++Array.replicate m undef,defers:=[] } w G:=by
 intro G
 induction G with
 |nil=>intro _; trivial
 |cons e G ih=>
  rintro⟨⟨h1,v,h2,h3⟩,h4⟩
  refine⟨⟨h1,?_⟩,ih h4⟩
  have hlt:e.slot<vs.length:=by
   rcases Nat.lt_or_ge e.slot vs.length with h'|h'
   ·exact h'
   ·rw[List.getElem?_eq_none h']at h2; cases h2
  have e1:sl { tmps:=vs.toArray++Array.replicate m undef,defers:=[] } e.slot=v:=by
   simp only[sl,Array.getD_eq_getD_getElem?]
   rw[Array.getElem?_append_left (by simpa using hlt)]
   simp[h2]
  rw[e1]
  exact h3
theorem nX {f:FuncId} {C:Code} {N:Nat} (hf:P.funcs[f]?=some fn) (hb:fn.body=some C) (hN:fn.ntmps=N) (hlen:decide (vs.length<=N)=true) (hM:cQ M w) (hG:dO M w vs G)
  (h:∀a,Inv ⟨N,w,M,λ_=>False⟩ [] [] G none_ a w->C.wp P (bodyPost P fn (bV M p w)) a w):Calls P f vs.toArray w (bV M p w):=
 calls_of_wp hf hb (h _ (nE hM (by have:=of_decide_eq_true hlen; simp[hN]; omega) rfl hG.ok))
variable {id:Nat} {l:List Oper} {V1 V2:List Vr} {A1:List Al} {G1 G2:List aQ} {y:Code}
theorem iF (h:Inv c V A G none_ a w) (hV:jl V1=V) (hA:lM A1=A) (hG:jk G1=G)
  (ms:List Nat) (hm:P.follows .mixedOrders=true) (hok:fQ l.toArray=true) (vZ:th l=ms) (hwf:pM c.N l V1 A1 G1=true) (hs:oC P l.toArray ms c V1 A1 G1 0 l)
  (kv kg:List Nat) (hV2:gL kv (qR V1)=V2) (Bq:gL kg ((G1.filter λe=>e.till.isNone).map kI)=G2)
  (hk:∀a w,Inv c V2 [] G2 none_ a w->y.wp P Q a w):(Code.seq (Code.region id l.toArray true) y).wp P Q a w:=
 wp_seq (B8 h hV hA hG ms hm hok vZ hwf hs kv kg hV2 Bq hk)
theorem mR (h:Inv c V A G none_ a w) (hV:jl V1=V) (hA:lM A1=A) (hG:jk G1=G)
  (ms:List Nat) (vZ:aN l.length=ms) (hwf:pM c.N l V1 A1 G1=true) (hs:oC P l.toArray ms c V1 A1 G1 0 l)
  (kv kg:List Nat) (hV2:gL kv (qR V1)=V2) (Bq:gL kg ((G1.filter λe=>e.till.isNone).map kI)=G2)
  (hk:∀a w,Inv c V2 [] G2 none_ a w->y.wp P Q a w):(Code.seq (Code.region id l.toArray false) y).wp P Q a w:=
 wp_seq (El h hV hA hG ms vZ hwf hs kv kg hV2 Bq hk)
variable {K:Act->World->Prop}
theorem af (h:K a w):Exit.then K Q .normal a w:=h
theorem aC (h:Q .ret a w):Exit.then K Q .ret a w:=h
variable {n:Nat}
theorem aB (h:Q (.exit n) a w):Exit.then K Q (.exit n) a w:=h
theorem aO (h:Q .normal a w):Exit.inBlock n Q .normal a w:=h
theorem aP (h:Q .ret a w):Exit.inBlock n Q .ret a w:=h
theorem aR (h:Q .normal a w):Exit.inBlock n Q (.exit n) a w:=by simp only[Exit.inBlock,if_true]; exact h
end
end Wx

namespace Wx
open Go Go.RowKit Go.Proofs
def E8 (w:World) (A:Option Addr) (c:Nat) (l:List Nat) (e:Ending) (w':World):Prop:=
 ∃n,n<=l.length/\e=.returned (.slice A n c)/\w=w'/\oU (l.take n)/\(∀b,val b (l.take n)=val b l)
variable {l:List Nat} {n:Nat}
theorem Cf (hn:n<l.length) (h0:l.getD n 0=0) (b:Nat):val b (l.take n)=val b (l.take (n+1)):=by
 rw[ic b l n hn]
 rw[List.getD_eq_getElem?_getD,List.getElem?_eq_getElem hn]at h0
 simp at h0
 simp[h0]
theorem Ky (hn:n<l.length) (h0:l.getD n 0≠0):oU (l.take (n+1)):=by
 unfold oU
 rw[List.take_succ_eq_append_getElem hn]
 rw[List.getD_eq_getElem?_getD,List.getElem?_eq_getElem hn]at h0
 simp at h0
 rw[List.getLast?_concat]; simpa using h0
theorem zO (w:World) (A:Option Addr) (c:Nat) (l:List Nat) (h:Rd w .u64 A c l):
  Calls Tryz.prog 75 #[.slice A l.length c] w (E8 w A c l):=by
 obtain⟨hl,hm,hcell⟩:=h
 unfold maxLen at hm
 go_enter Tryz.func75,Tryz.ntmps75
 go_wp2
 go_loop [0] (λv=>∃n:Nat,n<=l.length/\v=.slice A n c/\(∀b,val b (l.take n)=val b l)) (λv=>Nd v)
 case atStart=>exact⟨l.length,Nat.le_refl _,rfl,λb=>by rw[List.take_length]⟩
 case round=>
  obtain⟨n,hn,rfl,hv⟩:=hrel
  have HV:=Lib.hid hv
  clear hv
  rcases Nat.eq_zero_or_pos n with rfl|hpos
  ·go_wp2
   go_ret
   exact⟨0,hn,rfl,rfl,oU.nil,HV.out⟩
  ·obtain⟨b,o,rfl,hc⟩:=hcell (by rintro rfl; simp at hn; omega)
   have xE:=hc (n-1) (by omega)
   clear hc hcell
   obtain⟨x,hx⟩:∃x,x=l.getD (n-1) 0:=⟨_,rfl⟩
   rw[<-hx]at xE
   have HX:=Lib.hid hx
   clear hx
   rcases Nat.eq_zero_or_pos x with rfl|h0
   ·go_wp2
    go_round
    case rel=>exact⟨n-1,by omega,rfl,λb=>by rw[Cf (by omega) HX.out.symm,show n-1+1=n by omega,HV.out]⟩
    case measure=>simp[Nd]; omega
   ·go_wp2
    go_ret
    exact⟨n,hn,rfl,rfl,by have:=Ky (l:=l) (n:=n-1) (by omega) (by have:=HX.out; omega); rwa [show n-1+1=n by omega]at this,HV.out⟩
def b64:Nat:=18446744073709551616
theorem gE:b64=2^64:=by unfold b64; decide
theorem ai:2<=b64:=by unfold b64; omega
theorem mz {k:Nat} (h:Bd k n):(ak b64 n).length<=k/64+1:=by rw[gE]; exact h.ak (by omega)
theorem gV:(Tryz.prog.info? 86).map (λi=>(i.zero,i.size,decide (i.bytes<=8)))=some (some (.int .u64 0),1,true):=by kernel_rfl
theorem fL (w:World) (A:Option Addr) (c:Nat) (l:List Nat) (n:Nat) (h:Rd w .u64 A c l) (hw:Wf b64 l) (L:Nat) (hL:l.length=L) (hn:val b64 l=n):
  Calls Tryz.prog 75 #[.slice A L c] w (Fi .u64 b64 w n):=by
 subst hL
 refine(zO w A c l h).mono λe w' ⟨k,hk,he,hw',ht,hv⟩=>⟨hw',_,he,?_⟩
 rw[<-hn,<-hv b64]
 exact cz.of ai (h.take k) (by rw[List.length_take]; omega) (hw.take k) ht
end Wx

namespace Wx
open Go Go.RowKit Go.Proofs
theorem kr (w:World) (n:Nat) (hn:n<b64):Calls Tryz.prog 58 #[.int .u64 (n:Int)] w (gQ .u64 b64 w n):=by
 go_enter Tryz.func58,Tryz.ntmps58
 go_wp2_with fail
 have hR:Row (w.alloc (.cells #[.int .u64 (n:Int)] 86)) .u64 86 w.heap.size [n]:=Row.new w .u64 86 [n]
 refine(fL _ _ _ [n] n (hR.gw (Nat.le_refl _) (by simp[maxLen])) (Wf.cons hn (Wf.nil _)) _ rfl (by simp[val])).mono ?_
 rintro e w' ⟨rfl,v,rfl,hv⟩
 go_wp2
 go_ret
 exact⟨v,rfl,hv,(Below.refl _ _).alloc (Nat.le_refl _) _⟩
theorem td (w:World) (v:Value) (n:Nat) (h:cz .u64 b64 w v n):Calls Tryz.prog 72 #[v] w λe w'=>e=.returned (.bool (decide (n=1)))/\w=w':=by
 obtain⟨A,c,rfl,ha⟩:=h
 have hla:=ha.len
 by_cases h1:(ak b64 n).length=1
 ·obtain⟨b,o,x,rfl,hc,HX⟩:=ha.get (i:=0) (by omega)
  have hn:ak b64 n=[x]:=by
   have hx:=HX.out
   match hd:ak b64 n,h1,hx with
   |[y],_,hx=>simp at hx; rw[hx]
  have PE:n=x:=by have:=bI ai n; rw[hn]at this; simpa [val] using this.symm
  rw[h1]
  rw[Nat.add_zero]at hc
  subst PE
  have HN:=Lib.hid hn
  clear hn h1 HX ha hla
  go_enter Tryz.func72,Tryz.ntmps72
  by_cases Bu:n=1
  ·subst Bu
   go_wp2
   go_ret
   exact⟨rfl,rfl⟩
  ·have hb:(((n:Nat):Int)==1)=false:=by simp; omega
   have hd:decide (n=1)=false:=by simp[Bu]
   rw[hd]
   go_wp2
   go_ret
   exact⟨rfl,rfl⟩
 ·have hd:decide (n=1)=false:=by
   simp
   rintro rfl
   exact h1 (by rw[qo ai (by omega) (by unfold b64; omega)]; rfl)
  rw[hd]
  generalize (ak b64 n).length=L at *
  have hb:((L:Int)==1)=false:=by simp; omega
  go_enter Tryz.func72,Tryz.ntmps72
  go_wp2
  go_ret
  exact⟨rfl,rfl⟩
def cW (m n:Nat):Int:=if m<n then -1 else if n<m then 1 else 0
set_option maxHeartbeats 400000 in
theorem Jj (w:World) (v1 v2:Value) (m n:Nat) (h1:cz .u64 b64 w v1 m) (h2:cz .u64 b64 w v2 n):
  Calls Tryz.prog 55 #[v1,v2] w (zB w (.int .i64 (cW m n))):=by
 obtain⟨A,c,rfl,ha⟩:=h1
 obtain⟨B,d,rfl,hb⟩:=h2
 have hla:=ha.len
 have hlb:=hb.len
 by_cases hlt:(ak b64 m).length<(ak b64 n).length
 ·have hmn:=dA ai hlt
  have e:cW m n = -1:=by unfold cW; rw[if_pos hmn]
  rw[e]
  go_enter Tryz.func55,Tryz.ntmps55
  go_wp2
  all_goals (go_ret; exact⟨rfl,0,rfl⟩)
 ·by_cases hgt:(ak b64 n).length<(ak b64 m).length
  ·have hmn:=dA ai hgt
   have e:cW m n=1:=by unfold cW; rw[if_neg (by omega),if_pos hmn]
   rw[e]
   go_enter Tryz.func55,Tryz.ntmps55
   go_wp2
   all_goals (go_ret; exact⟨rfl,0,rfl⟩)
  ·have PB:(ak b64 m).length=(ak b64 n).length:=by omega
   have wa:=cI ai m
   have wb:=cI ai n
   have va:=bI ai m
   have vb:=bI ai n
   generalize ak b64 m=a at *
   generalize ak b64 n=b at *
   rw[<-PB]at hlb ⊢
   have HL:=Lib.hid PB
   have VA:=Lib.hid va
   have VB:=Lib.hid vb
   clear PB va vb hlt hgt hlb
   go_enter Tryz.func55,Tryz.ntmps55
   go_wp2
   go_loopw [5] (λs5 wr=>∃i:Nat,i<=a.length/\s5=.int .i64 ((i:Int)-1)/\a.drop i=b.drop i/\∃q,wr=w.drewN q)
    (λs5 _=>(RowKit.intOf s5+1).toNat)
   case atStart=>exact⟨a.length,Nat.le_refl _,rfl,by rw[List.drop_of_length_le (Nat.le_refl _),List.drop_of_length_le (by have:=HL.out; omega)],0,rfl⟩
   case round=>
    obtain⟨i,hi,rfl,hd,q,rfl⟩:=hrel
    have HD:=Lib.hid hd
    clear hd
    rcases Nat.eq_zero_or_pos i with rfl|hpos
    ·rw[show(((0:Nat):Int)-1) = -1 by omega]
     have:a=b:=by simpa using HD.out
     have e:m=n:=by rw[<-VA.out,<-VB.out,this]
     have e0:cW m n=0:=by unfold cW; rw[if_neg (by omega),if_neg (by omega)]
     have E0:=Lib.hid e0
     clear e e0 this
     go_wp2
     go_ret
     exact⟨kH E0.out.symm,_,rfl⟩
    ·obtain⟨j,rfl⟩:∃j,i=j+1:=⟨i-1,by omega⟩
     obtain⟨b1,o1,x,rfl,Cq,HX⟩:=ha.get (i:=j) (by omega)
     obtain⟨b2,o2,y,rfl,NC,HY⟩:=hb.get (i:=j) (by have:=HL.out; omega)
     rw[show(((j+1:Nat):Int)-1)=(j:Int) by omega]
     have Te:(0:Int)<=(j:Int):=by omega
     have fD:(j:Int)<(a.length:Int):=by omega
     rcases Nat.lt_trichotomy x y with hxy|hxy|hxy
     ·have P6:(x:Int)<(y:Int):=by omega
      have hmn:m<n:=by
       rw[<-VA.out,<-VB.out]
       exact rW wa HX.out HY.out HD.out hxy
      have E0:Hid (cW m n = -1):=by show cW m n = -1; unfold cW; rw[if_pos hmn]
      clear hmn
      go_wp2
      go_quiet (fail)
      go_wp2
      go_ret
      exact⟨kH E0.out.symm,_,World.drewN_drewN _ _ _⟩
     ·subst hxy
      go_wp2
      go_quiet (fail)
      go_wp2
      go_quiet (fail)
      go_wp2
      go_roundw
      case rel=>exact⟨j,by omega,by go_num,CX HX.out HY.out HD.out,_,rfl⟩
      case measure=>simp[RowKit.intOf]
     ·have P6:(y:Int)<(x:Int):=by omega
      have hmn:n<m:=by
       rw[<-VA.out,<-VB.out]
       exact rW wb HY.out HX.out HD.out.symm hxy
      have E0:Hid (cW m n=1):=by show cW m n=1; unfold cW; rw[if_neg (by omega),if_pos hmn]
      clear hmn
      go_wp2
      go_quiet (fail)
      go_wp2
      go_quiet (fail)
      go_wp2
      go_ret
      exact⟨kH E0.out.symm,_,(World.drewN_drewN _ _ _).trans (World.drewN_drewN _ _ _)⟩
theorem lS (w:World) (v1 v2:Value) (m n:Nat) (h1:cz .u64 b64 w v1 m) (h2:cz .u64 b64 w v2 n):
  Calls Tryz.prog 55 #[v1,v2] w (fW w (.int .i64 (cW m n))):=(Jj w v1 v2 m n h1 h2).mono λ_ _ h=>h.is
end Wx
