import Derived.Test.YtpiniclogfefjaaCSylvesterSemMem
import Derived.Test.YtpiniclogfefjaaProg
namespace Wx
open Go Go.RowKit

def Kz {α:Type} (ks:List Nat) (l:List α):List α:=ks.filterMap fun k=>l[k]?
def Ui (x:Vr):Vr:=⟨x.slot,x.slot,none,none,x.kd,x.T,x.n,x.agg,cont (fun _=>true) x.c0 x.st,[]⟩
def keptV (V:List Vr):List Vr:=(V.filter fun x=>x.dead.isNone).map Ui
def Qag (e:Ent):Ent:=⟨none,none,e.slot,e.p⟩
theorem mem_pickL {α:Type} {ks:List Nat} {l:List α} {x:α} (h:x∈Kz ks l):x∈l:=by
 simp only[Kz,List.mem_filterMap]at h
 obtain⟨k,_,hk⟩:=h
 exact List.mem_of_getElem? hk
def Zd (p q:Qj):Qj:=fun w v=>∃x y,v=.tuple #[x,y]∧p w x∧q w y
def Wi (p q r s:Qj):Qj:=fun w v=>∃x y z u,v=.tuple #[x,y,z,u]∧p w x∧q w y∧r w z∧s w u
theorem ex2_0 {p q:Qj}:∀w v,Zd p q w v→∃vs u,v=.tuple vs∧vs[0]?=some u∧p w u:=fun _ _ ⟨_,_,e,h,_⟩=>⟨_,_,e,rfl,h⟩
theorem ex2_1 {p q:Qj}:∀w v,Zd p q w v→∃vs u,v=.tuple vs∧vs[1]?=some u∧q w u:=fun _ _ ⟨_,_,e,_,h⟩=>⟨_,_,e,rfl,h⟩
theorem numlike_tup2 {p q:Qj} (hp:Zs p) (hq:Zs q):Zs (Zd p q):=by
 rintro M w v hM ⟨x,y,e,h1,h2⟩ w' he
 exact⟨x,y,e,hp M w x hM h1 w' he,hq M w y hM h2 w' he⟩
section
variable {P:Program} {Q:Exit→Act→World→Prop} {c:Cfg} {V:List Vr} {A:List Al} {G:List Ent} {a:Act} {w:World}
theorem Inv.next {V':List Vr} {G':List Ent} (kv kg:List Nat) (h:Inv c V A G (fun _=>true) a w) (hs:slotsB V=true) (hid:∀x y,x∈V→y∈V→x.id=y.id→x=y) (hV:Kz kv (keptV V)=V') (hG:Kz kg ((G.filter fun e=>e.till.isNone).map Qag)=G'):Inv c V' [] G' Qf a w:=by
 obtain⟨β,h⟩:=h
 have all:∀t,on (fun _=>true) t=true:=fun t=>by cases t<;>rfl
 have eV:∀y,y∈V'→∃x,x∈V∧(live (fun _=>true) x=true∧x.dead.isNone=true)∧Ui x=y:=fun y hy=>by
  rw[← hV]at hy
  obtain⟨x,hx,e⟩:=List.mem_map.1 (mem_pickL hy)
  rw[List.mem_filter]at hx
  refine⟨x,hx.1,⟨?_,hx.2⟩,e⟩
  unfold live
  rw[all]
  cases hd:x.dead with
  |none=>rfl
  |some j=>rw[hd]at hx; simp at hx
 let β':Nat→Nat→Prop:=fun s k=>∃x,(V.find? fun x=>x.dead.isNone&&x.slot==s)=some x∧β x.id k
 have hβ:∀x,x∈V→x.dead.isNone=true→∀k,β' x.slot k↔β x.id k:=by
  intro x hx hd k
  have hf:(V.find? fun y=>y.dead.isNone&&y.slot==x.slot)=some x:=by
   cases hf:V.find? fun y=>y.dead.isNone&&y.slot==x.slot with
   |none=>
    rw[List.find?_eq_none]at hf
    exact absurd (by simp[hd]) (hf x hx)
   |some y=>
    have h1:=List.mem_of_find?_eq_some hf
    have h2:=List.find?_some hf
    rw[slotsB,List.all_eq_true]at hs
    have h3:=hs x hx
    have hd':x.dead.isSome=false:=by cases hxd:x.dead with
     |none=>rfl
     |some j=>rw[hxd]at hd; cases hd
    rw[hd',Bool.false_or,beq_iff_eq]at h3
    rw[Zr h3 h1 hx h2 (by simp[hd])]
  constructor
  ·rintro⟨y,hy,h⟩
   have hy:(V.find? fun y=>y.dead.isNone&&y.slot==x.slot)=some y:=hy
   rw[hf]at hy
   injection hy with hy
   exact hy▸h
  ·exact fun h=>⟨x,hf,h⟩
 have hβe:∀x,x∈V→x.dead.isNone=true→β' x.slot=β x.id:=fun x hx hd=>funext fun k=>propext (hβ x hx hd k)
 have hown:∀k o,k<w.heap.size→own c V' Qf β' k o→own c V (fun _=>true) β k o:=by
  rintro k o _ (h1|⟨y,hy,_,h2,h3⟩)
  ·exact .inl h1
  ·obtain⟨x,hx,⟨hl,hd⟩,rfl⟩:=eV y hy
   exact .inr ⟨x,hx,hl,(hβ x hx hd k).1 h2,h3⟩
 refine⟨β',h.size,h.defers,h.below,h.old,?_,?_,(fun p hp=>by cases hp),?_⟩
 ·intro y hy _
  obtain⟨x,hx,⟨hl,hd⟩,rfl⟩:=eV y hy
  have hv:=h.var x hx hl
  rcases Qbq x.kd with hk|⟨m,sz,hk⟩|hk
  ·obtain⟨g,h1,h2,h3⟩:=(Y8 hk).1 hv
   obtain⟨cs,h4,h5,h6,h7⟩:=h3.held
   exact(Y8 (x:=Ui x) hk).2 ⟨g,fun k=>(hβ x hx hd k).trans (h1 k),h2,h3.new,cs,h4,h5,h6,h7.sub hown⟩
  ·refine(Yu (x:=Ui x) hk).2 ?_
   show GrowOk c a w (Ui x) m sz (β' x.slot)
   rw[hβe x hx hd]
   exact(Yu hk).1 hv
  ·obtain⟨h1,h2⟩:=(Yk hk).1 hv
   refine(Yk (x:=Ui x) hk).2 ?_
   show ObjOk _ c Qf a w (Ui x) (β' x.slot)
   rw[hβe x hx hd]
   exact⟨h1,h2.sub fun k o hk' h=>⟨hown k o hk' h.1,h.2⟩⟩
 ·intro y y' g hy hy' _ _ hne
  obtain⟨x,hx,⟨hl,hd⟩,rfl⟩:=eV y hy
  obtain⟨x',hx',⟨hl',hd'⟩,rfl⟩:=eV y' hy'
  intro e1 e2
  have e1:β' x.slot g:=e1
  have e2:β' x'.slot g:=e2
  rw[hβ x hx hd]at e1
  rw[hβ x' hx' hd']at e2
  refine h.apart x x' g hx hx' hl hl' (fun e=>hne ?_) e1 e2
  show x.slot=x'.slot
  rw[hid x x' hx hx' e]
 ·intro e he _ _
  rw[← hG]at he
  obtain⟨f,hf,rfl⟩:=List.mem_map.1 (mem_pickL he)
  rw[List.mem_filter]at hf
  exact(h.ent f hf.1 (all _) (by cases ht:f.till with|none=>rfl|some j=>rw[ht]at hf; simp at hf)).sub hown
def bareV (x:Vr):Vr:=⟨x.id,x.slot,none,none,x.kd,x.T,x.n,x.agg,x.c0,[]⟩
def V0 (V:List Vr):List Vr:=(V.filter fun x=>x.born.isNone).map bareV
def Qax (A:List Al):List Al:=A.filter fun p=>p.tag.isNone
def Vz (G:List Ent):List Ent:=(G.filter fun e=>e.tag.isNone).map fun e=>⟨none,none,e.slot,e.p⟩
theorem cont_none (p:Y9):∀st,cont Qf p st=p:=by
 intro st
 induction st with
 |nil=>rfl
 |cons q st ih=>exact ih
theorem Inv.enter {V1:List Vr} {A1:List Al} {G1:List Ent} (h:Inv c V A G Qf a w) (hV:V0 V1=V) (hA:Qax A1=A) (hG:Vz G1=G):Inv c V1 A1 G1 Qf a w:=by
 obtain⟨β,h⟩:=h
 have eV:∀x,x∈V1→live Qf x=true→bareV x∈V:=by
  intro x hx hl
  unfold live at hl
  rw[Bool.and_eq_true]at hl
  have hb:x.born=none:=by
   cases hb:x.born with
   |none=>rfl
   |some j=>rw[hb]at hl; cases hl.1
  rw[← hV]
  exact List.mem_map.2 ⟨x,List.mem_filter.2 ⟨hx,by rw[hb]; rfl⟩,rfl⟩
 have eo:∀k o,own c V1 Qf β k o→own c V Qf β k o:=by
  rintro k o (h1|⟨x,hx,h1,h2⟩)
  ·exact .inl h1
  ·exact .inr ⟨_,eV x hx h1,rfl,h2⟩
 refine⟨β,h.size,h.defers,h.below,h.old,?_,?_,?_,?_⟩
 ·intro x hx hl
  have hv:=h.var _ (eV x hx hl) rfl
  rcases Qbq x.kd with hk|⟨m,sz,hk⟩|hk
  ·obtain⟨g,h1,h2,h3⟩:=(Y8 (x:=bareV x) hk).1 hv
   obtain⟨cs,h4,h5,h6,h7⟩:=h3.held
   refine(Y8 hk).2 ⟨g,h1,h2,h3.new,cs,h4,h5,h6,?_⟩
   rw[cont_none]
   exact h7.sub fun k o _ hk=>eo k o hk
  ·exact(Yu hk).2 ((Yu (x:=bareV x) hk).1 hv)
  ·obtain⟨h1,h2⟩:=(Yk (x:=bareV x) hk).1 hv
   refine(Yk hk).2 ⟨h1,?_⟩
   rw[cont_none]
   exact h2.sub fun k o _ h=>⟨eo k o h.1,h.2⟩
 ·intro x y g hx hy h1 h2 hne
  have:=h.apart _ _ g (eV x hx h1) (eV y hy h2) rfl rfl hne
  exact this
 ·intro p hp hl hcd
  have ht:p.tag=none:=by
   cases hb:p.tag with
   |none=>rfl
   |some j=>rw[hb]at hl; cases hl
  exact h.al p (by rw[← hA]; exact List.mem_filter.2 ⟨hp,by rw[ht]; rfl⟩) (by rw[ht]; rfl) hcd
 ·intro e he hl _
  have ht:e.tag=none:=by
   cases hb:e.tag with
   |none=>rfl
   |some j=>rw[hb]at hl; cases hl
  have hm:(⟨none,none,e.slot,e.p⟩:Ent)∈G:=by
   rw[← hG]
   exact List.mem_map.2 ⟨e,List.mem_filter.2 ⟨he,by rw[ht]; rfl⟩,rfl⟩
  exact(h.ent _ hm rfl rfl).sub fun k o _ hk=>eo k o hk
theorem sem_drawn {id:Nat} {l:List Oper} {V1 V2:List Vr} {A1:List Al} {G1 G2:List Ent} (h:Inv c V A G Qf a w) (hV:V0 V1=V) (hA:Qax A1=A) (hG:Vz G1=G)
  (ms:List Nat) (hm:P.follows .mixedOrders=true) (hok:Uf l.toArray=true) (hms:masks l=ms) (hwf:Wy c.N l V1 A1 G1=true) (hs:Oks P l.toArray ms c V1 A1 G1 0 l)
  (kv kg:List Nat) (hV2:Kz kv (keptV V1)=V2) (hG2:Kz kg ((G1.filter fun e=>e.till.isNone).map Qag)=G2)
  (hk:∀a w,Inv c V2 [] G2 Qf a w→Q .normal a w):(Code.region id l.toArray true).wp P Q a w:=
 Qec ms hm hok hms hwf (h.enter hV hA hG) hs fun a w hI=>hk a w (hI.next kv kg (Qce hwf) (wfB_ids hwf) hV2 hG2)
theorem sem_text {id:Nat} {l:List Oper} {V1 V2:List Vr} {A1:List Al} {G1 G2:List Ent} (h:Inv c V A G Qf a w) (hV:V0 V1=V) (hA:Qax A1=A) (hG:Vz G1=G)
  (ms:List Nat) (hms:Ym l.length=ms) (hwf:Wy c.N l V1 A1 G1=true) (hs:Oks P l.toArray ms c V1 A1 G1 0 l)
  (kv kg:List Nat) (hV2:Kz kv (keptV V1)=V2) (hG2:Kz kg ((G1.filter fun e=>e.till.isNone).map Qag)=G2)
  (hk:∀a w,Inv c V2 [] G2 Qf a w→Q .normal a w):(Code.region id l.toArray false).wp P Q a w:=
 Qez hwf (h.enter hV hA hG) (by rw[hms]; exact hs) fun a w hI=>hk a w (hI.next kv kg (Qce hwf) (wfB_ids hwf) hV2 hG2)
theorem Inv.get {s:Nat} {p:Qj} (h:Inv c V A G Qf a w) (k:Nat) (hk:G[k]?=some ⟨none,none,s,p⟩):p w (sl a s):=by
 obtain⟨β,h⟩:=h
 exact(h.ent _ (List.mem_of_getElem? hk) rfl rfl).out
def EntsOk (M:Nat→Nat→Prop) (a:Act) (w:World):List Ent→Prop
 |[]=>True
 |e::es=>(e.tag=none∧Box M (fun w=>e.p w (sl a e.slot)) w)∧EntsOk M a w es
theorem EntsOk.get {M:Nat→Nat→Prop} {a:Act} {w:World}:∀{G:List Ent},EntsOk M a w G→∀e,e∈G→e.tag=none∧Box M (fun w=>e.p w (sl a e.slot)) w:=by
 intro G
 induction G with
 |nil=>intro _ e he; cases he
 |cons f G ih=>
  intro h e he
  rcases List.mem_cons.1 he with rfl|he
  ·exact h.1
  ·exact ih h.2 e he
theorem inv_start {N:Nat} {M:Nat→Nat→Prop} (hM:Mid M w) (hN:a.tmps.size=N) (hd:a.defers=[]) (hG:EntsOk M a w G):Inv ⟨N,w,M,fun _=>False⟩ [] [] G Qf a w:=by
 have eo:∀L β k o,own ⟨N,w,M,fun _=>False⟩ [] L β k o→M k o:=by
  rintro L β k o (h|⟨x,hx,_⟩)
  ·exact h
  ·cases hx
 exact⟨fun _ _=>False,hN,hd,Lent.refl _ _,(fun k o h=>⟨⟨(hM k o h).1,fun h=>h⟩,(hM k o h).2⟩),(fun x hx=>by cases hx),(fun x y g hx=>by cases hx),(fun p hp=>by cases hp),fun e he _ _=>(hG.get e he).2.sub fun k o _ h=>eo _ _ _ _ h⟩

theorem Zt {s:Nat} {x y:Code} (hI:Inv c V A G Qf a w) (k:Nat) (hk:G[k]?=some ⟨none,none,s,pB false⟩) (h:y.wp P Q a w):(Code.cond (.tmp s) x y).wp P Q a w:=
 wp_cond_false (show sl a s=.bool false from hI.get k hk) h
theorem Xd {s:Nat} {b:Bool} {x y:Code} (hI:Inv c V A G Qf a w) (k:Nat) (hk:G[k]?=some ⟨none,none,s,pB b⟩) (ht:b=true→x.wp P Q a w) (hf:b=false→y.wp P Q a w):(Code.cond (.tmp s) x y).wp P Q a w:=
 wp_cond_split (show sl a s=.bool b from hI.get k hk) ht hf

inductive ResOk (P:Program) (V:List Vr) (G:List Ent):ResultVar→Qj→Prop
 |tmp {s:Nat} {p:Qj} (k:Nat) (hk:G[k]?=some ⟨none,none,s,p⟩):ResOk P V G (.tmp s) p
 |cell {x:Vr} {p:Qj} {T s:Nat} (k:Nat) (hk:V[k]?=some x) (hb:live Qf x=true) (hkd:x.kd=.ptr) (hs:x.slot=s) (ht:Ty P T x.agg x.n) (hc:cont Qf x.c0 x.st=pv p):ResOk P V G (.cell s T) p
 |imp {r:ResultVar} {p q:Qj} (h:ResOk P V G r p) (hq:∀w v,p w v→q w v):ResOk P V G r q
def resRun (tmps:Array Value):ResultVar→Go.Sem Value
 |.tmp t=>pure (tmps.getD t undef)
 |.cell a t=>do loadVar t (← asAddr (tmps.getD a undef))
theorem ResOk.run {r:ResultVar} {p:Qj} (h:ResOk P V G r p) {β:Nat→Nat→Prop} (hI:InvB c V A G Qf β a w):∃v,(resRun a.tmps r).run P w=.ok v w∧Box (own c V Qf β) (fun w=>p w v) w:=by
 induction h with
 |tmp k hk=>exact⟨_,rfl,hI.ent _ (List.mem_of_getElem? hk) rfl rfl⟩
 |@cell x p T s k hk hb hkd hs ht hc=>
  obtain⟨g,hg,e,hv⟩:=(Y8 (by rw[hkd]; rfl)).1 (hI.var _ (List.mem_of_getElem? hk) hb)
  obtain⟨cs,h1,h2,h3,h4⟩:=hv.held
  rw[hc]at h4
  refine⟨_,?_,h4⟩
  rw[hs,hkd]at e
  have:=Ws (P:=P) (w:=w) (b:=g) (off:=0) ht (cs:=cs) (fun j v hj=>by simp only[World.cell?,h1]; simpa using hj) h2
  simp only[Instr.loadAt,Instr.sureAddr,Sem.run_bind,Sem.run_pure,Result.andThen_ok]at this
  have e':a.tmps.getD _ undef=_:=e
  simp only[resRun]
  rw[e']
  simp only[Kd.addr,asAddr,Sem.run_bind,Sem.run_pure,Result.andThen_ok]
  exact this
 |imp _ hq ih=>
  obtain⟨v,h1,h2⟩:=ih
  exact⟨v,h1,h2.imp fun w=>hq w v⟩
theorem Jy (fn:Func) (tmps:Array Value):results fn tmps=(do let vs ← fn.results.mapM (resRun tmps); pure (if h:vs.size=1 then vs[0]else .tuple vs)):=by
 unfold results
 congr 1
theorem Vj {F:World→Prop} {β:Nat→Nat→Prop} (h:Box (own c V Qf β) F w):Box c.M0 F w:=h.sub fun _ _ _ h=>.inl h
variable {fn:Func}
theorem Ke {R:Ending→World→Prop} {β:Nat→Nat→Prop} (hI:InvB c V A G Qf β a w) {v:Value} (hr:(results fn a.tmps).run P w=.ok v w) (hR:R (.returned v) w):bodyPost P fn R .ret a w:=⟨hI.defers,v,hr,hR⟩
theorem W5 {r:ResultVar} {p:Qj} (hI:Inv c V A G Qf a w) (hr:fn.results=#[r]) (h:ResOk P V G r p) (hn:∀k,¬c.lent k:=by exact fun _ h=>h):bodyPost P fn (RetB c.M0 p c.w0) .ret a w:=by
 obtain⟨β,hI⟩:=hI
 obtain⟨v,h1,h2⟩:=h.run hI
 refine Ke hI (v:=v) ?_ ⟨v,rfl,Vj h2,hI.below.below hn⟩
 rw[Jy,hr]
 simp[h1]
theorem fin2 {r1 r2:ResultVar} {p q:Qj} (hI:Inv c V A G Qf a w) (hr:fn.results=#[r1,r2]) (h1:ResOk P V G r1 p) (h2:ResOk P V G r2 q) (hn:∀k,¬c.lent k:=by exact fun _ h=>h):bodyPost P fn (RetB c.M0 (Zd p q) c.w0) .ret a w:=by
 obtain⟨β,hI⟩:=hI
 obtain⟨v1,k1,b1⟩:=h1.run hI
 obtain⟨v2,k2,b2⟩:=h2.run hI
 refine Ke hI (v:=.tuple #[v1,v2]) ?_ ⟨_,rfl,fun w' he=>⟨v1,v2,rfl,Vj b1 w' he,Vj b2 w' he⟩,hI.below.below hn⟩
 rw[Jy,hr]
 simp[k1,k2,Sem.run_bind]
theorem fin4 {r1 r2 r3 r4:ResultVar} {p q r s:Qj} (hI:Inv c V A G Qf a w) (hr:fn.results=#[r1,r2,r3,r4]) (h1:ResOk P V G r1 p) (h2:ResOk P V G r2 q) (h3:ResOk P V G r3 r) (h4:ResOk P V G r4 s) (hn:∀k,¬c.lent k:=by exact fun _ h=>h):bodyPost P fn (RetB c.M0 (Wi p q r s) c.w0) .ret a w:=by
 obtain⟨β,hI⟩:=hI
 obtain⟨v1,k1,b1⟩:=h1.run hI
 obtain⟨v2,k2,b2⟩:=h2.run hI
 obtain⟨v3,k3,b3⟩:=h3.run hI
 obtain⟨v4,k4,b4⟩:=h4.run hI
 refine Ke hI (v:=.tuple #[v1,v2,v3,v4]) ?_ ⟨_,rfl,fun w' he=>⟨v1,v2,v3,v4,rfl,Vj b1 w' he,Vj b2 w' he,Vj b3 w' he,Vj b4 w' he⟩,hI.below.below hn⟩
 rw[Jy,hr]
 simp[k1,k2,k3,k4,Sem.run_bind]
theorem RetB.ret {M:Nat→Nat→Prop} {p:Qj} {w:World} {e:Ending} {w':World} (h:RetB M p w e w'):Kx p w e w':=by
 obtain⟨v,e,h1,h2⟩:=h
 exact⟨v,e,h1.out,h2⟩
theorem Qc9 (w:World):Mid (fun _ _=>False) w:=fun _ _ h=>h.elim
def EntsA (M:Nat→Nat→Prop) (w:World) (vs:List Value):List Ent→Prop
 |[]=>True
 |e::es=>((e.tag=none∧∃v,vs[e.slot]?=some v∧Box M (fun w=>e.p w v) w)∧EntsA M w vs es)
theorem EntsA.ok {M:Nat→Nat→Prop} {w:World} {vs:List Value} {m:Nat}:∀{G:List Ent},EntsA M w vs G→EntsOk M { tmps:=vs.toArray++Array.replicate m undef,defers:=[] } w G:=by
 intro G
 induction G with
 |nil=>intro _; trivial
 |cons e G ih=>
  rintro⟨⟨h1,v,h2,h3⟩,h4⟩
  refine⟨⟨h1,?_⟩,ih h4⟩
  have hlt:e.slot<vs.length:=by
   rcases Nat.lt_or_ge e.slot vs.length with h'|h'
   ·exact h'
   ·rw[List.getElem?_eq_none h']at h2; cases h2
  have e1:sl { tmps:=vs.toArray++Array.replicate m undef,defers:=[] } e.slot=v:=by
   simp only[sl,Array.getD_eq_getD_getElem?]
   rw[Array.getElem?_append_left (by simpa using hlt)]
   simp[h2]
  rw[e1]
  exact h3
theorem Zq {f:FuncId} {C:Code} {vs:List Value} {M:Nat→Nat→Prop} {p:Qj} {N:Nat} (hf:P.funcs[f]?=some fn) (hb:fn.body=some C) (hN:fn.ntmps=N) (hlen:decide (vs.length≤N)=true) (hM:Mid M w) (hG:EntsA M w vs G)
  (h:∀a,Inv ⟨N,w,M,fun _=>False⟩ [] [] G Qf a w→C.wp P (bodyPost P fn (RetB M p w)) a w):Calls P f vs.toArray w (RetB M p w):=
 calls_of_wp hf hb (h _ (inv_start hM (by have:=of_decide_eq_true hlen; simp[hN]; omega) rfl hG.ok))
theorem Qaw {id:Nat} {l:List Oper} {V1 V2:List Vr} {A1:List Al} {G1 G2:List Ent} {y:Code} (h:Inv c V A G Qf a w) (hV:V0 V1=V) (hA:Qax A1=A) (hG:Vz G1=G)
  (ms:List Nat) (hm:P.follows .mixedOrders=true) (hok:Uf l.toArray=true) (hms:masks l=ms) (hwf:Wy c.N l V1 A1 G1=true) (hs:Oks P l.toArray ms c V1 A1 G1 0 l)
  (kv kg:List Nat) (hV2:Kz kv (keptV V1)=V2) (hG2:Kz kg ((G1.filter fun e=>e.till.isNone).map Qag)=G2)
  (hk:∀a w,Inv c V2 [] G2 Qf a w→y.wp P Q a w):(Code.seq (Code.region id l.toArray true) y).wp P Q a w:=
 wp_seq (sem_drawn h hV hA hG ms hm hok hms hwf hs kv kg hV2 hG2 hk)
theorem Qdm {id:Nat} {l:List Oper} {V1 V2:List Vr} {A1:List Al} {G1 G2:List Ent} {y:Code} (h:Inv c V A G Qf a w) (hV:V0 V1=V) (hA:Qax A1=A) (hG:Vz G1=G)
  (ms:List Nat) (hms:Ym l.length=ms) (hwf:Wy c.N l V1 A1 G1=true) (hs:Oks P l.toArray ms c V1 A1 G1 0 l)
  (kv kg:List Nat) (hV2:Kz kv (keptV V1)=V2) (hG2:Kz kg ((G1.filter fun e=>e.till.isNone).map Qag)=G2)
  (hk:∀a w,Inv c V2 [] G2 Qf a w→y.wp P Q a w):(Code.seq (Code.region id l.toArray false) y).wp P Q a w:=
 wp_seq (sem_text h hV hA hG ms hms hwf hs kv kg hV2 hG2 hk)
theorem Qi {K:Act→World→Prop} (h:K a w):Exit.then K Q .normal a w:=h
theorem X7 {K:Act→World→Prop} (h:Q .ret a w):Exit.then K Q .ret a w:=h
theorem Qz {K:Act→World→Prop} {n:Nat} (h:Q (.exit n) a w):Exit.then K Q (.exit n) a w:=h
theorem Xw {n:Nat} (h:Q .normal a w):Exit.inBlock n Q .normal a w:=h
theorem Ze {n:Nat} (h:Q .ret a w):Exit.inBlock n Q .ret a w:=h
theorem Xl {n:Nat} (h:Q .normal a w):Exit.inBlock n Q (.exit n) a w:=by simp only[Exit.inBlock,if_true]; exact h
theorem Xn {ι:Type} {C:Code} (I:ι→Act→World→Prop) (μ:ι→Nat) (k0:ι) (h0:I k0 a w)
  (round:∀k a w,I k a w→C.wp P (Exit.then (fun a' w'=>∃k',I k' a' w'∧μ k'<μ k) Q) a w):(Code.loop C).wp P Q a w:=by
 intro b k cs
 have key:∀n kx a w,μ kx=n→I kx a w →
   ∃e a' w',Q e a' w'∧Arrives P (lone (b.at a (.code C::.inLoop C::k)) cs w) b k cs e a' w':=by
  intro n
  induction n using Nat.strongRecOn with
  |_ n ih=>
   intro kx a w hn hI
   obtain⟨e,a₁,w₁,hq,harr⟩:=round kx a w hI b (.inLoop C::k) cs
   cases e with
   |normal=>
    obtain⟨k',hI₁,hlt⟩:=hq
    obtain⟨e₂,a₂,w₂,hq₂,harr₂⟩:=ih (μ k') (hn▸hlt) k' a₁ w₁ rfl hI₁
    exact⟨e₂,a₂,w₂,hq₂,.of_steps (Steps.trans harr (.one step_inLoop)) harr₂⟩
   |exit id=>exact⟨_,a₁,w₁,hq,.pass (x:=.inLoop C) rfl (fun _ _=>.inl (by simp)) harr⟩
   |goto l=>exact⟨_,a₁,w₁,hq,.pass (x:=.inLoop C) rfl (fun _ _=>.inl (by simp)) harr⟩
   |ret=>exact⟨_,a₁,w₁,hq,.pass (x:=.inLoop C) rfl (fun _ _=>.inl (by simp)) harr⟩
   |panic ch=>exact⟨_,a₁,w₁,hq,.pass (x:=.inLoop C) rfl (fun _ _=>.inl (by simp)) harr⟩
   |outgrown=>exact⟨_,a₁,w₁,hq,.pass (x:=.inLoop C) rfl (fun _ _=>.inl (by simp)) harr⟩
 obtain⟨e,a',w',hq,harr⟩:=key _ k0 a w rfl h0
 exact⟨e,a',w',hq,.of_steps (.one step_loop) harr⟩
end
end Wx

namespace Wx
open Go Go.RowKit Go.Proofs

def CutPost (w:World) (A:Option Addr) (c:Nat) (l:List Nat) (e:Ending) (w':World):Prop:=
 ∃n,n≤l.length∧e=.returned (.slice A n c)∧w=w'∧Top (l.take n)∧(∀b,Ql b (l.take n)=Ql b l)

theorem step_zero {l:List Nat} {n:Nat} (hn:n<l.length) (h0:l.getD n 0=0) (b:Nat):Ql b (l.take n)=Ql b (l.take (n+1)):=by
 rw[Qa2 b l n hn]
 rw[List.getD_eq_getElem?_getD,List.getElem?_eq_getElem hn]at h0
 simp at h0
 simp[h0]
theorem top_of {l:List Nat} {n:Nat} (hn:n<l.length) (h0:l.getD n 0≠0):Top (l.take (n+1)):=by
 unfold Top
 rw[List.take_succ_eq_append_getElem hn]
 rw[List.getD_eq_getElem?_getD,List.getElem?_eq_getElem hn]at h0
 simp at h0
 rw[List.getLast?_concat]; simpa using h0

theorem cut_any (w:World) (A:Option Addr) (c:Nat) (l:List Nat) (h:Rd w .u64 A c l):
  Calls Try.prog 67 #[.slice A l.length c] w (CutPost w A c l):=by
 obtain⟨hl,hm,hcell⟩:=h
 unfold maxLen at hm
 go_enter Try.func67,Try.ntmps67
 go_wp2
 go_loop [0] (fun v=>∃n:Nat,n≤l.length∧v=.slice A n c∧(∀b,Ql b (l.take n)=Ql b l)) (fun v=>vlen v)
 case atStart=>exact⟨l.length,Nat.le_refl _,rfl,fun b=>by rw[List.take_length]⟩
 case round=>
  obtain⟨n,hn,rfl,hv⟩:=hrel
  have HV:=Lib.hid hv
  clear hv
  rcases Nat.eq_zero_or_pos n with rfl|hpos
  ·go_wp2
   go_ret
   exact⟨0,hn,rfl,rfl,Top.nil,HV.out⟩
  ·obtain⟨b,o,rfl,hc⟩:=hcell (by rintro rfl; simp at hn; omega)
   have hc1:=hc (n-1) (by omega)
   clear hc hcell
   obtain⟨x,hx⟩:∃x,x=l.getD (n-1) 0:=⟨_,rfl⟩
   rw[← hx]at hc1
   have HX:=Lib.hid hx
   clear hx
   rcases Nat.eq_zero_or_pos x with rfl|h0
   ·go_wp2
    go_round
    case rel=>exact⟨n-1,by omega,rfl,fun b=>by rw[step_zero (by omega) HX.out.symm,show n-1+1=n by omega,HV.out]⟩
    case measure=>simp[vlen]; omega
   ·go_wp2
    go_ret
    exact⟨n,hn,rfl,rfl,by have:=top_of (l:=l) (n:=n-1) (by omega) (by have:=HX.out; omega); rwa [show n-1+1=n by omega]at this,HV.out⟩

def Qb:Nat:=18446744073709551616
theorem Uc:Qb=2^64:=by unfold Qb; decide
theorem Qv:2≤Qb:=by unfold Qb; omega
theorem len64 {k n:Nat} (h:Bd k n):(digs Qb n).length≤k/64+1:=by rw[Uc]; exact h.digs (by omega)
theorem Vu:(Try.prog.info? 81).map (fun i=>(i.zero,i.size,decide (i.bytes≤8)))=some (some (.int .u64 0),1,true):=by kernel_rfl

theorem Vk (w:World) (A:Option Addr) (c:Nat) (l:List Nat) (n:Nat) (h:Rd w .u64 A c l) (hw:Wf Qb l) (L:Nat) (hL:l.length=L) (hn:Ql Qb l=n):
  Calls Try.prog 67 #[.slice A L c] w (SameNum .u64 Qb w n):=by
 subst hL
 refine(cut_any w A c l h).mono fun e w' ⟨k,hk,he,hw',ht,hv⟩=>⟨hw',_,he,?_⟩
 rw[← hn,← hv Qb]
 exact Num.of Qv (h.take k) (by rw[List.length_take]; omega) (hw.take k) ht
end Wx

namespace Wx
open Go Go.RowKit Go.Proofs

theorem Ki (w:World) (n:Nat) (hn:n<Qb):Calls Try.prog 59 #[.int .u64 (n:Int)] w (K4 .u64 Qb w n):=by
 go_enter Try.func59,Try.ntmps59
 go_wp2_with fail
 have hR:Row (w.alloc (.cells #[.int .u64 (n:Int)] 81)) .u64 81 w.heap.size [n]:=Row.new w .u64 81 [n]
 refine(Vk _ _ _ [n] n (hR.rd_all (Nat.le_refl _) (by simp[maxLen])) (Wf.cons hn (Wf.nil _)) _ rfl (by simp[Ql])).mono ?_
 rintro e w' ⟨rfl,v,rfl,hv⟩
 go_wp2
 go_ret
 exact⟨v,rfl,hv,(Below.refl _ _).alloc (Nat.le_refl _) _⟩

theorem isOne_num (w:World) (v:Value) (n:Nat) (h:Num .u64 Qb w v n):Calls Try.prog 63 #[v] w fun e w'=>e=.returned (.bool (decide (n=1)))∧w=w':=by
 obtain⟨A,c,rfl,ha⟩:=h
 have hla:=ha.len
 by_cases h1:(digs Qb n).length=1
 ·obtain⟨b,o,x,rfl,hc,HX⟩:=ha.get (i:=0) (by omega)
  have hn:digs Qb n=[x]:=by
   have hx:=HX.out
   match hd:digs Qb n,h1,hx with
   |[y],_,hx=>simp at hx; rw[hx]
  have hnx:n=x:=by have:=Zi Qv n; rw[hn]at this; simpa [Ql] using this.symm
  rw[h1]
  rw[Nat.add_zero]at hc
  subst hnx
  have HN:=Lib.hid hn
  clear hn h1 HX ha hla
  go_enter Try.func63,Try.ntmps63
  by_cases hn1:n=1
  ·subst hn1
   go_wp2
   go_ret
   exact⟨rfl,rfl⟩
  ·have hb:(((n:Nat):Int)==1)=false:=by simp; omega
   have hd:decide (n=1)=false:=by simp[hn1]
   rw[hd]
   go_wp2
   go_ret
   exact⟨rfl,rfl⟩
 ·have hd:decide (n=1)=false:=by
   simp
   rintro rfl
   exact h1 (by rw[digs_small Qv (by omega) (by unfold Qb; omega)]; rfl)
  rw[hd]
  generalize (digs Qb n).length=L at *
  have hb:((L:Int)==1)=false:=by simp; omega
  go_enter Try.func63,Try.ntmps63
  go_wp2
  go_ret
  exact⟨rfl,rfl⟩

def Yv (m n:Nat):Int:=if m<n then -1 else if n<m then 1 else 0

set_option maxHeartbeats 400000 in
theorem cmp_dr (w:World) (v1 v2:Value) (m n:Nat) (h1:Num .u64 Qb w v1 m) (h2:Num .u64 Qb w v2 n):
  Calls Try.prog 42 #[v1,v2] w (RetDr w (.int .i64 (Yv m n))):=by
 obtain⟨A,c,rfl,ha⟩:=h1
 obtain⟨B,d,rfl,hb⟩:=h2
 have hla:=ha.len
 have hlb:=hb.len
 by_cases hlt:(digs Qb m).length<(digs Qb n).length
 ·have hmn:=Wm Qv hlt
  have e:Yv m n = -1:=by unfold Yv; rw[if_pos hmn]
  rw[e]
  go_enter Try.func42,Try.ntmps42
  go_wp2
  all_goals (go_ret; exact⟨rfl,0,rfl⟩)
 ·by_cases hgt:(digs Qb n).length<(digs Qb m).length
  ·have hmn:=Wm Qv hgt
   have e:Yv m n=1:=by unfold Yv; rw[if_neg (by omega),if_pos hmn]
   rw[e]
   go_enter Try.func42,Try.ntmps42
   go_wp2
   all_goals (go_ret; exact⟨rfl,0,rfl⟩)
  ·have hll:(digs Qb m).length=(digs Qb n).length:=by omega
   have wa:=Jk Qv m
   have wb:=Jk Qv n
   have va:=Zi Qv m
   have vb:=Zi Qv n
   generalize digs Qb m=a at *
   generalize digs Qb n=b at *
   rw[← hll]at hlb ⊢
   have HL:=Lib.hid hll
   have VA:=Lib.hid va
   have VB:=Lib.hid vb
   clear hll va vb hlt hgt hlb
   go_enter Try.func42,Try.ntmps42
   go_wp2
   go_loopw [5] (fun s5 wr=>∃i:Nat,i≤a.length∧s5=.int .i64 ((i:Int)-1)∧a.drop i=b.drop i∧∃q,wr=w.drewN q)
    (fun s5 _=>(intOf s5+1).toNat)
   case atStart=>exact⟨a.length,Nat.le_refl _,rfl,by rw[List.drop_of_length_le (Nat.le_refl _),List.drop_of_length_le (by have:=HL.out; omega)],0,rfl⟩
   case round=>
    obtain⟨i,hi,rfl,hd,q,rfl⟩:=hrel
    have HD:=Lib.hid hd
    clear hd
    rcases Nat.eq_zero_or_pos i with rfl|hpos
    ·rw[show(((0:Nat):Int)-1) = -1 by omega]
     have:a=b:=by simpa using HD.out
     have e:m=n:=by rw[← VA.out,← VB.out,this]
     have e0:Yv m n=0:=by unfold Yv; rw[if_neg (by omega),if_neg (by omega)]
     have E0:=Lib.hid e0
     clear e e0 this
     go_wp2
     go_ret
     exact⟨Qae E0.out.symm,_,rfl⟩
    ·obtain⟨j,rfl⟩:∃j,i=j+1:=⟨i-1,by omega⟩
     obtain⟨b1,o1,x,rfl,hcx,HX⟩:=ha.get (i:=j) (by omega)
     obtain⟨b2,o2,y,rfl,hcy,HY⟩:=hb.get (i:=j) (by have:=HL.out; omega)
     rw[show(((j+1:Nat):Int)-1)=(j:Int) by omega]
     have hj0:(0:Int)≤(j:Int):=by omega
     have hj1:(j:Int)<(a.length:Int):=by omega
     rcases Nat.lt_trichotomy x y with hxy|hxy|hxy
     ·have hxy':(x:Int)<(y:Int):=by omega
      have hmn:m<n:=by
       rw[← VA.out,← VB.out]
       exact val_lt_get wa HX.out HY.out HD.out hxy
      have E0:Hid (Yv m n = -1):=by show Yv m n = -1; unfold Yv; rw[if_pos hmn]
      clear hmn
      go_wp2
      go_quiet (fail)
      go_wp2
      go_ret
      exact⟨Qae E0.out.symm,_,World.drewN_drewN _ _ _⟩
     ·subst hxy
      go_wp2
      go_quiet (fail)
      go_wp2
      go_quiet (fail)
      go_wp2
      go_roundw
      case rel=>exact⟨j,by omega,by go_num,drop_get HX.out HY.out HD.out,_,rfl⟩
      case measure=>simp[intOf]
     ·have hxy':(y:Int)<(x:Int):=by omega
      have hmn:n<m:=by
       rw[← VA.out,← VB.out]
       exact val_lt_get wb HY.out HX.out HD.out.symm hxy
      have E0:Hid (Yv m n=1):=by show Yv m n=1; unfold Yv; rw[if_neg (by omega),if_pos hmn]
      clear hmn
      go_wp2
      go_quiet (fail)
      go_wp2
      go_quiet (fail)
      go_wp2
      go_ret
      exact⟨Qae E0.out.symm,_,(World.drewN_drewN _ _ _).trans (World.drewN_drewN _ _ _)⟩
theorem Wp (w:World) (v1 v2:Value) (m n:Nat) (h1:Num .u64 Qb w v1 m) (h2:Num .u64 Qb w v2 n):
  Calls Try.prog 42 #[v1,v2] w (Zv w (.int .i64 (Yv m n))):=(cmp_dr w v1 v2 m n h1 h2).mono fun _ _ h=>h.is
end Wx
