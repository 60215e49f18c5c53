import Derived.Laws.Slices
import Derived.Test.YtkcceahelokheaaGreatJLT17
namespace Wx
open Go Go.RowKit
def tE (f:FuncId) (sz:Nat) (agg:Bool) (q:Pred):Pred:=λw v=>∃u,v=.func (.func f) #[] #[u]/\cZ sz agg q w u
section
variable {P:Program} {ops:Array Oper} {ms:List Nat} {c:fT} {V:List Vr} {A:List Al} {G:List bz} {i:Nat} {L:Nat->Bool} {β:Nat->Nat->Prop} {a:Act} {w:World} {o:Oper}{d:Nat} {x y z:Operand} {ty:TypeId} {pos:String} {aft:Array Edge}{sz:Nat}
theorem zR {T E:TypeId} {b o' n cap:Nat} {m:Int} (h:Has ms G i x (bg (.slice (some ⟨b,o',none⟩) n cap))) (hy:Has ms G i y (pI m)) (ht:mV P T E sz) (h0:0<=m) (h1:m<=n) (h2:m<cap)
  (hp:Post G i (bg (.slice (some ⟨b,o'+m.toNat*sz,none⟩) (n-m.toNat) (cap-m.toNat)))):OpOk P ops ms c V A G i ⟨some d,.slice T x (some y) none none,ty,pos,aft,none⟩:=
 cC rfl rfl rfl (.inl rfl) hp λL β a w hI hd=>by
  have hx:a.eval x=.slice (some ⟨b,o',none⟩) n cap:=(h.spec hI hd).out
  have hi:a.eval y=.int .i64 m:=(hy.spec hI hd).out
  refine⟨_,w,?_,Below.refl _ _,λ_ _=>rfl⟩
  show(do pure (Next.value (<-Instr.sliceAt T (a.eval x) (some (a.eval y)) none none))).run P w=_
  rw[hx,hi]
  have hr:(Instr.sliceAt T (.slice (some ⟨b,o',none⟩) n cap) (some (.int .i64 m)) none none).run P w=.ok (.slice (some ⟨b,o'+m.toNat*sz,none⟩) (n-m.toNat) (cap-m.toNat)) w:=by
   have e1:(Instr.sliceBound (.int .i64 m) n .sliceB).run P w=.ok m.toNat w:=run_sliceBound w .i64 m n .sliceB h0 h1
   have hne:¬cap=m.toNat:=by omega
   simp only[Instr.sliceAt,Sem.run_bind,run_underlying ht.under,Result.andThen_ok,Instr.slice,Instr.sliceBounds,Sem.run_pure]
   simp only[Option.isSome_none,Bool.false_eq_true,if_false,e1,Result.andThen_ok,ht.size w,hne,Option.map_some,Addr.add_mid]
  rw[Sem.run_bind,hr]
  rfl
variable {f:FuncId}
theorem uR {v:Value} (h:Has ms G i x (bg v)) (hp:Post G i (bg (.func (.func f) #[] #[v]))):OpOk P ops ms c V A G i ⟨some d,.makeFunc (.func f) #[] #[x],ty,pos,aft,none⟩:=
 iO rfl rfl rfl rfl h hp λρ w h=>⟨.func (.func f) #[] #[v],by
  have h:ρ x=v:=h
  show(do pure (Next.value (<-Instr.makeFunc (.func f) ((#[]:Array Operand).map ρ) ((#[x]:Array Operand).map ρ)))).run P w=_
  rw[show(#[x]:Array Operand).map ρ=#[ρ x] by simp,show(#[]:Array Operand).map ρ=#[] by simp,h]
  rfl,λ_ _=>rfl⟩
variable {ts:Array TypeId} {p q p1:Pred}
theorem wG {fx:Operand} {agg:Bool} (hf:aR P f) (hx:Has ms G i fx (tE f sz agg q)) (h1:Has ms G i x p1) (hp:Post G i p)
  (hc:∀(M:Nat->Nat->Prop) (w:World) (v1 v2:Value),cL M w->aO M (λw=>p1 w v1) w->aO M (λw=>cZ sz agg q w v2) w->Calls P f #[v1,v2] w (bH M p w)):OpOk P ops ms c V A G i ⟨some d,.call ⟨.value fx,#[x],ts⟩,ty,pos,aft,none⟩:=by
 refine gI (λL β a w hI hd hwf=>?_) rfl
 have hb:=hx.spec hI hd
 obtain⟨u,W9,_⟩:=hb.out
 have hu:aO (own c V L β) (λw=>cZ sz agg q w u) w:=λw' he=>by
  obtain⟨u',e,h⟩:=hb w' he
  rw[W9]at e
  injection e with _ _ e
  have:u=u':=by simpa using e
  rw[this]
  exact h
 have hr:(execOp a.eval ⟨some d,.call ⟨.value fx,#[x],ts⟩,ty,pos,aft,none⟩).run P w=.ok (.enter f #[a.eval x,u]) w:=by
  have:=hf #[a.eval x,u] w
  simp only[execOp,resolve,W9,Deferred.ofValue,pure_bind,invoke]
  rw[show(#[x]:Array Operand).map a.eval=#[a.eval x] by simp]
  first|exact this|simpa using this
 unfold Does
 rw[hr]
 refine(hc _ w _ _ (aS hI) (h1.spec hI hd) hu).mono ?_
 rintro e w' ⟨v,rfl,hv,hb⟩
 exact⟨v,rfl,β,hI.value hwf (xp hwf rfl) rfl hb (λd q _ hq NC _=>by have:=hwf.aa q hq NC; cases this) λe he ht=>hv.imp λw=>hp.spec hwf he ht w v⟩
theorem Inv.KE (h:Inv c V A G none_ a w) (k:Nat) {x:Vr} (hk:V[k]?=some x) (hb:live none_ x=true) (bR:x.kd=.ptr):∃g,Inv c V A (⟨none,none,x.slot,bg (.pointer (some ⟨g,0,none⟩))⟩::G) none_ a w:=by
 obtain⟨β,h⟩:=h
 obtain⟨g,_,h2,_⟩:=(bJ (by rw[bR]; rfl)).1 (h.var x (List.mem_of_getElem? hk) hb)
 refine⟨g,β,h.size,h.defers,h.below,h.old,h.var,h.apart,h.al,λe he ho hf=>?_⟩
 rcases List.mem_cons.1 he with rfl|he
 ·refineλw' _=>?_
  show sl a x.slot=_
  rw[h2,bR]
  rfl
 ·exact h.jM e he ho hf
theorem My {v1 v2:Vr} {H:List Bk} {g:Nat} {cf:FuncId} {p0:Pred} (hf:aR P f) (k1:Nat) (ot:V[k1]?=some v1) (O2:bE ms i v1=true) (acC:v1.kd=.obj) (ac1:(v1.st.all λq=>(q.1==i||(ms.getD i 0).testBit q.1)||(ms.getD q.1 0).testBit i)=true)
  (uw:cont (λj=>(ms.getD i 0).testBit j) v1.c0 v1.st=wJ H) (k2:Nat) (hk2:V[k2]?=some v2) (RP:bE ms i v2=true) (cW:v2.kd=.ptr) (VE:(v2.st.all λq=>(ms.getD i 0).testBit q.1||(ms.getD q.1 0).testBit i)=true) (hc2:cont (λj=>(ms.getD i 0).testBit j) v2.c0 v2.st=pv q)
  (hg:Has ms G i (.tmp v2.slot) (bg (.pointer (some ⟨g,0,none⟩)))) (h1:Has ms G i x p0) (h2:Has ms G i y (bg (.func (.func cf) #[] #[.pointer (some ⟨g,0,none⟩)]))) (hn:aK p) (hp:Post G i p) (hr:∀B w v,dn B w H->p0 w v->p1 w v)
  (hc:∀(M:Nat->Nat->Prop) (w:World) (u1 u2:Value),cL M w->aO M (λw=>p1 w u1) w->aO M (λw=>tE cf v2.n v2.agg q w u2) w->Calls P f #[u1,u2] w (bH M p w)):
  OpOk P ops ms c V A G i ⟨some d,.call ⟨.value (.func f),#[x,y],ts⟩,ty,pos,aft,none⟩:=
 jG hf hp λL β a w hI hd=>(by
  rw[show(#[x,y]:Array Operand).map a.eval=#[a.eval x,a.eval y] by simp]
  have hO:=wD hI hd (List.mem_of_getElem? ot) O2 acC
  have hH:dn (β v1.id) w H:=by
   have:=hO.2.out
   rw[oA hd ac1,uw]at this
   exact this
  obtain⟨g',zw,hs',hv⟩:=nK hI hd (List.mem_of_getElem? hk2) RP cW
  have e1:sl a v2.slot=.pointer (some ⟨g,0,none⟩):=(hg.spec hI hd).out
  rw[hs']at e1
  injection e1 with e1
  injection e1 with e1
  injection e1 with e1
  subst e1
  obtain⟨cs,j1,j2,j3,j4⟩:=hv.held
  rw[uj hd VE,hc2]at j4
  have j4:aO (own c V L β) (λw=>q w (aj v2.agg cs)) w:=j4
  have hy:a.eval y=.func (.func cf) #[] #[.pointer (some ⟨g',0,none⟩)]:=(h2.spec hI hd).out
  let M:=minus (own c V L β) λk=>β v1.id k\/k=g'
  have hM:cL M w:=λk o hk=>aS hI k o hk.1
  have hsub:∀{w'},Ext M w w'->Ext (own c V L β) w w':=λhe=>he.mono' λk o hk=>hk.1
  refine(hc M w _ _ hM (λw' he=>?_) (λw' he=>?_)).mono λe w' VC=>?_
  ·refine hr (β v1.id) w' _ (hH.keep (aS hI) (hsub he) λe hm=>he.block e.b (Bk.uQ (hH.2.2 e hm)) λo ho=>ho.2 (.inl ((hH.1 _).2 ⟨e,hm,rfl⟩))) (h1.spec hI hd w' (hsub he))
  ·refine⟨.pointer (some ⟨g',0,none⟩),hy,g',0,cs,rfl,j2,λj u hj=>?_,j4 w' (hsub he)⟩
   rw[Nat.zero_add]
   refine he.cell g' j u (λho=>ho.2 (.inr rfl)) ?_
   simp only[World.cell?,j1]
   simpa using hj
  ·obtain⟨v,rfl,eI,hv2⟩:=VC
   exact⟨v,rfl,hn _ w' v ((aS hI).below hv2) eI.out,hv2⟩)
end
def iT (p:Nat->Bool) (n:Nat):Int:=match (List.range n).find? p with
 |some i=>(i:Int)
 |none => -1
variable {p:Nat->Bool} {n:Nat}
theorem ze {k:Nat} (hk:k<n) (h:p k=true) (hn:∀j,j<k->p j=false):iT p n=(k:Int):=by
 unfold iT
 have:(List.range n).find? p=some k:=by
  rw[List.find?_range_eq_some]
  exact⟨h,by simpa using hk,λj hj=>by simp[hn j hj]⟩
 rw[this]
theorem vW (hn:∀j,j<n->p j=false):iT p n = -1:=by
 unfold iT
 have:(List.range n).find? p=none:=by
  rw[List.find?_eq_none]
  intro j hj
  rw[hn j (by simpa using hj)]
  exact Bool.false_ne_true
 rw[this]
end Wx

namespace Wx
open Go Go.RowKit
structure ct where
 b:Nat
 n:Nat
 cap:Nat
def ct.hdr (r:ct):Value:=.slice (some ⟨r.b,0,none⟩) r.n r.cap
def gv (R:List ct):List It:=R.map λr=>uD r.hdr
structure fe (g cap:Nat) (R:List ct) (M:List (List Rat)) (H:List Bk):Prop where
 top:(⟨g,1,false,gv R⟩:Bk)∈H
 rows:∀(i:Nat) (r:ct),R[i]?=some r->(⟨r.b,3,true,bq (M.getD i []) r.cap⟩:Bk)∈H
 len:R.length=M.length
 fit:∀(i:Nat) (r:ct),R[i]?=some r->r.n=(M.getD i []).length/\r.n<=r.cap/\r.cap<=maxLen
 apart:∀(i j:Nat) (r q:ct),R[i]?=some r->R[j]?=some q->i≠j->r.b≠q.b
 off:∀r:ct,r∈R->r.b≠g
 size:R.length<=cap/\cap<=maxLen
variable {R:List ct}
theorem gO {i:Nat} {r:ct} (h:R[i]?=some r):(gv R)[i]?=some (uD r.hdr):=by
 unfold gv
 rw[List.getElem?_map,h]
 rfl
theorem rB (R:List ct):(gv R).length=R.length:=List.length_map ..
theorem Gr (R:List ct) (i:Nat) (r:ct):(gv R).set i (uD r.hdr)=gv (R.set i r):=by
 unfold gv
 rw[List.map_set]
variable {B:Nat->Prop} {w:World} {H:List Bk} {b cap:Nat}
theorem BP {n p:Nat} {l:List Rat} (h:dn B w H) (he:(⟨b,3,true,bq l p⟩:Bk)∈H) (hn:n=l.length) (hc:n<=cap) (hm:cap<=maxLen):aD l w (.slice (some ⟨b,0,none⟩) n cap):=by
 subst hn
 obtain⟨cs,T,h1,h2,_,h4⟩:=h.2.2 _ he
 have h1:w.heap[b]?=some (.cells cs.toArray T (0,0)):=h1
 have h2:(bq l p).length*3<=cs.length:=h2
 rw[kD]at h2
 refine⟨_,_,rfl,hc,hm,λ_=>⟨b,0,rfl,λi hi=>⟨(cs.drop (i*3)).take 3,?_,λj v hj=>?_,?_⟩⟩⟩
 ·rw[List.length_take,List.length_drop]
  omega
 ·rw[Nat.zero_add]
  exact fY h1 _ _ j v hj
 ·exact h4 i _ (fq hi)
variable {g:Nat} {M:List (List Rat)}
theorem fe.get (h:fe g cap R M H) {i:Nat} (hi:i<M.length):∃r,R[i]?=some r:=⟨R[i]'(by rw[h.len]; exact hi),List.getElem?_eq_getElem _⟩
variable {c:Nat}
theorem LQ (h:dn B w H) (hM:fe g cap R M H) (hc:c<=M.length):aA 1 false (M.length-c) (λi=>aD (M.getD (c+i) [])) w (.slice (some ⟨g,c,none⟩) (M.length-c) (cap-c)):=by
 obtain⟨cs,T,h1,h2,_,h4⟩:=h.2.2 _ hM.top
 have h1:w.heap[g]?=some (.cells cs.toArray T (0,0)):=h1
 have h2:(gv R).length*1<=cs.length:=h2
 rw[rB,hM.len]at h2
 have hs:=hM.size
 rw[hM.len]at hs
 refine⟨_,_,rfl,by omega,by omega,λ_=>⟨g,c,rfl,λi hi=>⟨(cs.drop (c+i)).take 1,?_,λj v hj=>?_,?_⟩⟩⟩
 ·rw[List.length_take,List.length_drop]
  omega
 ·rw[Nat.mul_one]
  exact fY h1 _ _ j v hj
 ·obtain⟨r,hr⟩:=hM.get (i:=c+i) (by omega)
  have h5:=h4 (c+i) _ (gO hr)
  have h5:aj false ((cs.drop ((c+i)*1)).take 1)=r.hdr:=h5
  rw[Nat.mul_one]at h5
  obtain⟨f1,f2,f3⟩:=hM.fit _ _ hr
  show aD (M.getD (c+i) []) w (aj false ((cs.drop (c+i)).take 1))
  rw[h5]
  exact BP h (hM.rows _ _ hr) f1 f2 f3
def mQ {α:Type} (l:List α) (a b:Nat):List α:=match l[a]?,l[b]? with
 |some x,some y=>(l.set a y).set b x
 |_,_=>l
variable {α:Type} {a:Nat} {x y:α} {l:List α}
theorem Gl (hx:l[a]?=some x) (hy:l[b]?=some y):mQ l a b=(l.set a y).set b x:=by unfold mQ; rw[hx,hy]
theorem rW (hx:l[a]?=some x) (hy:l[b]?=some y) (i:Nat):(mQ l a b)[i]?=if i=b then some x else if i=a then some y else l[i]?:=by
 have ha:a<l.length:=by
  rcases Nat.lt_or_ge a l.length with h|h
  ·exact h
  ·rw[List.getElem?_eq_none h]at hx; cases hx
 have hb:b<l.length:=by
  rcases Nat.lt_or_ge b l.length with h|h
  ·exact h
  ·rw[List.getElem?_eq_none h]at hy; cases hy
 rw[Gl hx hy]
 by_cases h1:i=b
 ·subst h1
  rw[if_pos rfl,List.getElem?_set_self (by rw[List.length_set]; exact hb)]
 ·rw[if_neg h1,List.getElem?_set_ne (Ne.symm h1)]
  by_cases h2:i=a
  ·subst h2
   rw[if_pos rfl,List.getElem?_set_self ha]
  ·rw[if_neg h2,List.getElem?_set_ne (Ne.symm h2)]
theorem rX (l:List α) (a b:Nat):(mQ l a b).length=l.length:=by
 unfold mQ
 split<;>simp
theorem fe.swap (h:fe g cap R M H) {a b:Nat} (ha:a<M.length) (hb:b<M.length):fe g cap (mQ R a b) (mQ M a b) (uC H g (gv (mQ R a b))):=by
 obtain⟨x,hx⟩:=h.get ha
 obtain⟨y,hy⟩:=h.get hb
 have mx:M[a]?=some (M.getD a []):=by rw[List.getD_eq_getElem?_getD,List.getElem?_eq_getElem ha]; rfl
 have my:M[b]?=some (M.getD b []):=by rw[List.getD_eq_getElem?_getD,List.getElem?_eq_getElem hb]; rfl
 have gR:=rW hx hy
 have gM:=rW mx my
 -- row i of the WW one is row s i
 have key:∀i r,(mQ R a b)[i]?=some r->∃j,R[j]?=some r/\(mQ M a b).getD i []=M.getD j []/\((i=b/\j=a)\/(i≠b/\i=a/\j=b)\/(i≠b/\i≠a/\j=i)):=by
  intro i r hr
  rw[gR i]at hr
  have hg:(mQ M a b).getD i []=(if i=b then some (M.getD a [])else if i=a then some (M.getD b [])else M[i]?).getD []:=by rw[List.getD_eq_getElem?_getD,gM i]
  rw[hg]
  by_cases h1:i=b
  ·rw[if_pos h1]at hr ⊢
   exact⟨a,hx.trans hr,rfl,.inl ⟨h1,rfl⟩⟩
  ·rw[if_neg h1]at hr ⊢
   by_cases h2:i=a
   ·rw[if_pos h2]at hr ⊢
    exact⟨b,hy.trans hr,rfl,.inr (.inl ⟨h1,h2,rfl⟩)⟩
   ·rw[if_neg h2]at hr ⊢
    exact⟨i,hr,by rw[List.getD_eq_getElem?_getD],.inr (.inr ⟨h1,h2,rfl⟩)⟩
 have off':∀r,r∈mQ R a b->r.b≠g:=λr hr=>by
  obtain⟨i,hi⟩:=List.mem_iff_getElem?.1 hr
  obtain⟨j,hj,_⟩:=key i r hi
  exact h.off r (List.mem_of_getElem? hj)
 refine⟨rO h.top rfl,λi r hr=>?_,by rw[rX,rX]; exact h.len,λi r hr=>?_,λi j r q hr hq hne=>?_,off',by rw[rX]; exact h.size⟩
 ·obtain⟨j,hj,e,_⟩:=key i r hr
  rw[e]
  exact l9 (h.rows j r hj) (h.off r (List.mem_of_getElem? hj))
 ·obtain⟨j,hj,e,_⟩:=key i r hr
  rw[e]
  exact h.fit j r hj
 ·obtain⟨i',hi',_,e1⟩:=key i r hr
  obtain⟨j',hj',_,e2⟩:=key j q hq
  exact h.apart i' j' r q hi' hj' (by omega)
theorem Fj {idx:Nat} {it:It} {e:Bk} (he:e∈H) (hb:e.b=b):({ e with items:=e.items.set idx it }:Bk)∈gH H b idx it:=List.mem_map.2 ⟨e,he,if_pos hb⟩
theorem LR {x y:ct} (hu:∀e,e∈H->e.b=g->e.items=gv R) (hx:R[a]?=some x) (hy:R[b]?=some y):gH (gH H g a (uD y.hdr)) g b (uD x.hdr)=uC H g (gv (mQ R a b)):=by
 have e:uC H g (gv R)=H:=oL hu
 rw[Gl hx hy,<-Gr,<-Gr,<-uB,<-uB,e]
theorem Db (p:Nat->Bool) (n:Nat):-1<=iT p n/\iT p n<n:=by
 unfold iT
 split
 ·rename_i i h
  have:=List.mem_of_find?_eq_some h
  have:i<n:=by simpa using this
  omega
 ·omega
def gW (X:List (List Rat)) (c:Nat):Int:=iT (λi=>!(decide ((X.getD (c+i) []).getD c 0=0))) (X.length-c)
variable {X:List (List Rat)}
theorem pP (hc:c<X.length):-1<=gW X c/\(c:Int)+gW X c<X.length:=by
 have:=Db (λi=>!(decide ((X.getD (c+i) []).getD c 0=0))) (X.length-c)
 unfold gW
 omega
def lY {α:Type} (X:List (List Rat)) (l:List α) (c:Nat):List α:=if gW X c<0 then l else mQ l c (c+(gW X c).toNat)
theorem fe.pivot (h:fe g cap R X H) {c:Nat} (hc:c<X.length) (hu:∀e,e∈H->e.b=g->e.items=gv R):fe g cap (lY X R c) (lY X X c) (uC H g (gv (lY X R c))):=by
 unfold lY
 split
 ·rw[oL hu]
  exact h
 ·have:=pP hc
  exact h.swap hc (by omega)
theorem fe.setRow (h:fe g cap R M H) {a:Nat} {x:ct} (hx:R[a]?=some x) {l:List Rat} (hl:l.length=(M.getD a []).length):fe g cap R (M.set a l) (uC H x.b (bq l x.cap)):=by
 have ha:a<M.length:=by
  rw[<-h.len]
  rcases Nat.lt_or_ge a R.length with h'|h'
  ·exact h'
  ·rw[List.getElem?_eq_none h']at hx; cases hx
 have eq:∀i,(M.set a l).getD i []=if i=a then l else M.getD i []:=λi=>by
  rw[List.getD_eq_getElem?_getD]
  by_cases hi:i=a
  ·subst hi
   rw[if_pos rfl,List.getElem?_set_self ha]
   rfl
  ·rw[if_neg hi,List.getElem?_set_ne (Ne.symm hi),List.getD_eq_getElem?_getD]
 refine⟨l9 h.top (Ne.symm (h.off x (List.mem_of_getElem? hx))),λi r hr=>?_,by rw[List.length_set]; exact h.len,λi r hr=>?_,h.apart,h.off,h.size⟩
 ·rw[eq]
  by_cases hi:i=a
  ·subst hi
   rw[hx]at hr
   injection hr with hr
   subst hr
   rw[if_pos rfl]
   exact rO (h.rows i x hx) rfl
  ·rw[if_neg hi]
   exact l9 (h.rows i r hr) (h.apart i a r x hr hx hi)
 ·rw[eq]
  obtain⟨f1,f2,f3⟩:=h.fit i r hr
  by_cases hi:i=a
  ·subst hi
   rw[if_pos rfl,hl]
   exact⟨f1,f2,f3⟩
  ·rw[if_neg hi]
   exact⟨f1,f2,f3⟩
end Wx

namespace Wx
open Go Go.RowKit
structure NM where
 g:Nat
 cap:Nat
 R:List ct
 H:List Bk
def NM.hd (n:Nat) (l:NM):Value:=.slice (some ⟨l.g,0,none⟩) n l.cap
section
variable {P:Program} {Q:Exit->Act->World->Prop} {c:fT} {V:List Vr} {A:List Al} {G:List bz} {a:Act} {w:World} {o:Oper}{d:Nat} {x y z u:Operand} {ty:TypeId} {pos:String} {aft:Array Edge}
theorem bV.mono {ops:Array Oper} {K K':Act->World->Prop} (h:bV P ops o a w K) (hK:∀a w,K a w->K' a w):bV P ops o a w K':=by
 unfold bV at *
 split at h
 ·rename_i hw
  rw[if_pos hw]
  exact h.mono hK
 ·rename_i hw
  rw[if_neg hw]
  exact hK _ _ h
theorem Gh {Λ:Type} {C:Λ->Prop} {hd:Λ->Value} {H:Λ->List Bk} {p1:Pred} (id:Nat) {f:FuncId} {ts:Array TypeId} {ops:Array Oper} (hf:aR P f) (h:Inv c V [] G none_ a w) (h1:Has [0] G 0 x p1)
  (hc:∀(M:Nat->Nat->Prop) w v1,cL M w->aO M (λw=>p1 w v1) w->Calls P f #[v1] w (Re C hd H w)) (hd':decide (d<c.N)=true) (hV:(V.all λy=>(y.slot != d&&y.id != id)&&(y.born.isNone&&y.dead.isNone))=true) (hG:(G.all λe=>e.slot != d)=true):
  bV P ops ⟨some d,.call ⟨.value (.func f),#[x],ts⟩,ty,pos,aft,none⟩ a w (λa w=>∃l,C l/\Inv c (cX id d (H l)::V) [] (⟨none,none,d,bg (hd l)⟩::G) none_ a w):=
 Jn hf h (λβ hI=>by
  rw[show(#[x]:Array Operand).map a.eval=#[a.eval x] by simp]
  exact hc _ w _ (aS hI) (h1.spec hI oG)) hd' hV hG
end
end Wx
