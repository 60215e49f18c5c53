import Derived.Test.YtikkgpljpglnbaaGreatJRM26
namespace Wx
open Go Go.RowKit
variable {V:List Vr} {N:Nat} {B:Nat->Prop} {J:World->Prop}
theorem vJ (h:lO N V=some (jV N B J):=by exact rfl):∃r:Rel,lO (jV N B J).id V=some ⟨(jV N B J).id,(jV N B J).slot,none,none,(jV N B J).kd,(jV N B J).T,(jV N B J).n,(jV N B J).agg,r,[]⟩/\((jV N B J).born=none/\(jV N B J).dead=none/\(jV N B J).st=[])/\∀F w v,r F w v->(jV N B J).c0 F w v:=⟨_,h,⟨rfl,rfl,rfl⟩,λ_ _ _ h=>h⟩
variable {P:Program} {fn:Func} {f:FuncId} {sz:Nat} {ag:Bool} {q:Pred} {u:Value} {M:Nat->Nat->Prop} {R:Ending->World->Prop} {w:World}
theorem Xb {C:Code} {l:Nat} (hf:P.funcs[f]?=some fn) (hb:fn.body=some C) (hN:fn.ntmps=N)
  (hM:cR M w) (RH:∀k,B k->∀o,¬M k o) (hno:ij B w) (hJ:aM M J w) (hc:aM (λk o=>M k o\/B k) (λw=>dD sz ag q w u) w)
  (h:∀a,Inv ⟨N,w,M,B⟩ [jV N B J] [] [Uz 0 (bp (.func (.yield l) #[] #[])),Uz 1 (dD sz ag q)] none_ a w->C.ww none [] P (bodyPost P fn R) a w) (hlen:decide (2<=N)=true:=by kernel_rfl):Calls P f (#[.func (.yield l) #[] #[]]++#[u]) w R:=
 vZ (vs:=[.func (.yield l) #[] #[],u]) hf hb hN hlen hM RH hno hJ (show dH (λk o=>M k o\/B k) w [.func (.yield l) #[] #[],u] [Uz 0 (bp (.func (.yield l) #[] #[])),Uz 1 (dD sz ag q)]from⟨⟨rfl,_,rfl,λ_ _=>rfl⟩,⟨rfl,_,rfl,hc⟩,trivial⟩) h
theorem OC {G:List aV} {a:Act} {n0:Nat} {w0:World} {B0:Nat->Prop} (hI:Inv ⟨N,w0,M,B0⟩ V [] G none_ a w) (hr:fn.results=#[]) (hJ:V[n0]?=some (jV N B J))
  (hR:cz B0 w0 w->(∀k,B k->B0 k\/w0.heap.size<=k)->ij B w->aM M J w->R (.returned (.tuple #[])) w):bodyPost P fn R .normal a w:=OB hI hr hJ hR
def EW (sz:Nat) (ag:Bool) (q:Pred) (lb:Array Value) (w:World):Prop:=∃u,lb=#[u]/\dD sz ag q w u
theorem EX (h:aM M (EW sz ag q #[u]) w):aM M (λw=>dD sz ag q w u) w:=h.imp λ_ ⟨u',e,h⟩=>by
 have e:u=u':=by simpa using e
 rw[e]; exact h
theorem Ip {n:Nat} {p r:Nat->Pred} (hf:aN P f) (hs:∀u,EJ P f #[u] n p r (EW sz ag q #[u])):∀w v,D8 f sz ag q w v->zk P n p r (EW sz ag q) w v:=λ_ _ ⟨u,e,h⟩=>⟨f,#[u],e,hf,hs u,u,rfl,h⟩
end Wx

namespace Wx
open Go Go.RowKit
section
variable {ro:Option Nat} {ds:List Deferred} {P:Program} {Q:Exit->Act->World->Prop} {c:cM} {V:List Vr} {A:List Al} {G:List aV} {a:Act} {w:World}
theorem C3 {l:List Oper} {n:Nat}:∀(os:List Oper) (k m:Nat) (K:Nat->Act->World->Prop),rO P l.toArray K m os->(∀j o,os[j]?=some o->l[k+j]?=some o)->os.all gz=true->(∀a w,K (m+os.length) a w->Q .normal a w)->∀a w,K m a w ->
  wpOpsIn (zU ro) n P l.toArray (λe a' w'=>∃a0,a'=kH ds a0/\Q e a0 w') (List.range' k os.length) (kH ds a) w
 |[],k,m,K,_,_,_,hq,a,w,h=>⟨a,rfl,hq a w h⟩
 |o::os,k,m,K,hs,hl,hd,hq,a,w,h=>by
  rw[List.length_cons,List.range'_succ,wpOpsIn_cons]
  rw[List.all_cons,Bool.and_eq_true]at hd
  refine(hs.1 a w h).Gn (by have:=hl 0 o rfl; simpa using this) hd.1 λa' w' h'=>C3 os (k+1) (m+1) K hs.2 (λj o ho=>by rw[show k+1+j=k+(j+1) by omega]; exact hl (j+1) o ho) hd.2 (λa w hk=>hq a w ?_) a' w' h'
  rw[List.length_cons,show m+(os.length+1)=m+1+os.length by omega]
  exact hk
variable {id:Nat} {l:List Oper} {V1 V2:List Vr} {G1 G2:List aV} {K':Act->World->Prop}
theorem QL (h:Inv c V [] G none_ a w) (n k:Nat) (nv:List Vr) (A1:List Al) (ne:List aV) (hV:Aa nv V V1) (hG:mL ne G G1) (hs:qH P l.toArray (tm n 0) c V1 A1 G1 0 (l.take k)) (kV:gp V1 V2) (kG:aF G1 G2) (hst:fL P l.toArray (Inv c V2 [] G2 none_) (l.drop k) K') (hq:∀a w,K' a w->Q .normal a w)
  (hn:ni nv A1 ne=true:=by kernel_rfl) (hb:Bw c.N l (tm n 0) k V1 A1 G1=true:=by kernel_rfl) (hd:l.all gz=true:=by kernel_rfl):(Code.region id l.toArray false).ww ro ds P Q a w:=by
 unfold Bw at hb
 simp only[Bool.and_eq_true,beq_iff_eq]at hb
 obtain⟨yC,hkn,hwf⟩:=hb
 obtain⟨F,e0,e1,hF⟩:=hst.steps
 have hkn:=of_decide_eq_true hkn
 refine vN k hkn hwf (List.all_eq_true.2 λo ho=>List.all_eq_true.1 hd o (List.mem_of_mem_take ho)) (lY h hV hG hn) (by rw[yC]; exact hs) λa w hI n=>?_
 have:=C3 (ro:=ro) (ds:=ds) (Q:=Q) (n:=n) (l:=l) (l.drop k) k 0 F hF (λj o ho=>by rw[List.getElem?_drop]at ho; exact ho) (List.all_eq_true.2 λo ho=>List.all_eq_true.1 hd o (List.mem_of_mem_drop ho)) (λa w hI=>hq a w (by rw[Nat.zero_add,e1]at hI; exact hI)) a w (by rw[e0]; exact ow hwf kV kG hI)
 rw[List.length_drop]at this
 exact this
theorem nC {y:Code} (h:Inv c V [] G none_ a w) (n k:Nat) (nv:List Vr) (A1:List Al) (ne:List aV) (hV:Aa nv V V1) (hG:mL ne G G1) (hs:qH P l.toArray (tm n 0) c V1 A1 G1 0 (l.take k)) (kV:gp V1 V2) (kG:aF G1 G2) (hst:fL P l.toArray (Inv c V2 [] G2 none_) (l.drop k) K') (hq:∀a w,K' a w->y.ww ro ds P Q a w)
  (hn:ni nv A1 ne=true:=by kernel_rfl) (hb:Bw c.N l (tm n 0) k V1 A1 G1=true:=by kernel_rfl) (hd:l.all gz=true:=by kernel_rfl):(Code.seq (Code.region id l.toArray false) y).ww ro ds P Q a w:=av (QL h n k nv A1 ne hV hG hs kV kG hst hq hn hb hd)
end
end Wx

namespace Wx
open Go Go.RowKit
def One (b n:Nat) (q:Pred) (w:World):Prop:=∃(cs:List Value) (T:TypeId),w.heap[b]?=some (.cells cs.toArray T (0,0))/\cs.length=n/\(∀v∈cs,gv v)/\q w (au true cs)
def tr (b n:Nat) (q:Pred):Rel:=λB w _=>(∀k,B k↔k=b)/\One b n q w
abbrev dy (id b n:Nat) (q:Pred):Vr:=cN id id (tr b n q)
variable {b n:Nat} {q:Pred} {w:World}
theorem One.lt (h:One b n q w):b<w.heap.size:=by
 obtain⟨cs,T,h1,_⟩:=h
 exact(Array.getElem?_eq_some_iff.1 h1).1
theorem One.KU (h:One b n q w):∀o v,w.cell? ⟨b,o,none⟩=some v->gv v:=by
 obtain⟨cs,T,h1,_,h3,_⟩:=h
 intro o v hv
 simp only[World.cell?,h1]at hv
 have:cs[o]?=some v:=by simpa using hv
 exact h3 v (List.mem_of_getElem? this)
theorem One.imp {q':Pred} (h:One b n q w) (hq:∀w v,q w v->q' w v):One b n q' w:=by
 obtain⟨cs,T,h1,h2,h3,h4⟩:=h
 exact⟨cs,T,h1,h2,h3,hq _ _ h4⟩
theorem One.box {M:Nat->Nat->Prop} {B:Nat->Prop} (h:One b n q w) (hB:B b) (hn:aA q) (hM:cR M w):aM (minus M B) (One b n q) w:=by
 obtain⟨cs,T,h1,h2,h3,h4⟩:=h
 intro w' he
 exact⟨cs,T,(he.block b ((Array.getElem?_eq_some_iff.1 h1).1) λo ho=>ho.2 hB).trans h1,h2,h3,hn _ w _ (λk o hk=>hM k o hk.1) h4 w' he⟩
section
variable {P:Program} {ops:Array Oper} {ms:List Nat} {c:cM} {V:List Vr} {A:List Al} {G:List aV} {i:Nat}{d:Nat} {x y z:Operand} {ty:TypeId} {pos:String} {aL:Array Edge}{b n:Nat} {q:Pred} {v:Vr}
theorem Gm {L:Nat->Bool} {β:Nat->Nat->Prop} {a:Act} {w:World} (hI:aT c V A G L β a w) (hd:mB ms i L) (hv:v∈V) (ho:bA ms i v=true) (bS:v.kd=.obj) (hst:(v.st.all λq=>(q.1==i||(ms.getD i 0).testBit q.1)||(ms.getD q.1 0).testBit i)=true)
  (hc:cont (λj=>(ms.getD i 0).testBit j) v.c0 v.st=tr b n q):(∀k,β v.id k↔k=b)/\One b n q w:=by
 have hH:=(Be hI hd hv ho bS).2.out
 rw[rW hd hst,hc]at hH
 exact hH
variable {T:TypeId} {off m:Nat} {ag:Bool} {p:Pred}
theorem Gq (k:Nat) (hk:V[k]?=some v) (ho:bA ms i v=true) (bS:v.kd=.obj) (hst:(v.st.all λq=>(q.1==i||(ms.getD i 0).testBit q.1)||(ms.getD q.1 0).testBit i)=true)
  (hc:cont (λj=>(ms.getD i 0).testBit j) v.c0 v.st=tr b n q) (h:Has ms G i y (bp (.pointer (some ⟨b,off,none⟩)))) (hlen:off+m<=n) (ht:Ty P T ag m) (hq:∀w cs,cs.length=n->q w (au true cs)->p w (au ag ((cs.drop off).take m))) (hn:aA p) (hp:Post G i p):
  OpOk P ops ms c V A G i ⟨some d,.load T y,ty,pos,aL,none⟩:=
 cq rfl rfl rfl (.inl rfl) hp λL β a w hI hd=>by
  obtain⟨_,cs,t,h1,h2,h3,h4⟩:=Gm hI hd (List.mem_of_getElem? hk) ho bS hst hc
  have hy:a.eval y=.pointer (some ⟨b,off,none⟩):=(h.spec hI hd).out
  refine⟨au ag ((cs.drop off).take m),w,?_,Below.refl _ _,hn _ w _ (aZ hI) (hq w cs h2 h4)⟩
  show(do pure (Next.value (<-Instr.loadAt T (a.eval y)))).run P w=_
  rw[hy,Sem.run_bind,eO (cs:=(cs.drop off).take m) ht (iq h1 off m) (by rw[List.length_take,List.length_drop]; omega)]
  rfl
theorem D4 {q':Pred} (k:Nat) (hk:V[k]?=some v) (ho:bA ms i v=true) (bS:v.kd=.obj) (hst:(v.st.all λq=>(q.1==i||(ms.getD i 0).testBit q.1)||(ms.getD q.1 0).testBit i)=true)
  (mk:Nat) (hm:v.st[mk]?=some (i,tr b n q')) (hr:((v.st.drop (mk+1)).all λr=>(ms.getD r.1 0).testBit i)=true) (nU:(V.all λy=>y.id==v.id||y.st.all λq=>q.1 != i)=true)
  (hc:cont (λj=>(ms.getD i 0).testBit j) v.c0 v.st=tr b n q) (h:Has ms G i y (bp (.pointer (some ⟨b,off,none⟩)))) (hlen:off+m<=n) (ht:Ty P T ag m) (hz:Has ms G i z p) (hf:Fits m ag p)
  (hq:∀w cs ds,cs.length=n->ds.length=m->q w (au true cs)->p w (au ag ds)->q' w (au true (cs.take off++ds++cs.drop (off+m)))) (hn:aA q'):
  OpOk P ops ms c V A G i ⟨none,.store T y z,ty,pos,aL,none⟩:=by
 refine iR (λL β a w hI hd hwf=>?_) rfl
 have hv:=List.mem_of_getElem? hk
 obtain⟨hβ,cs,t,h1,h2,h3,h4⟩:=Gm hI hd hv ho bS hst hc
 have hy:a.eval y=.pointer (some ⟨b,off,none⟩):=(h.spec hI hd).out
 have hval:=hz.spec hI hd
 obtain⟨ds,e1,hl,hcells,hu⟩:=hf w _ hval.out
 have hr':(execOp a.eval ⟨none,.store T y z,ty,pos,aL,none⟩).run P w=.ok .skip (w.setRow b (cs.take off++ds++cs.drop (off+m)).toArray):=by
  show(do Instr.storeAt T (a.eval y) (a.eval z); pure Next.skip).run P w=_
  rw[hy]
  have:=ki (P:=P) (off:=off) ht h1 hcells hl (by omega) (λu gh=>(hu u gh).2)
  simp only[Sem.run_bind,this,Result.andThen_ok,Sem.run_pure]
 have hgx:β v.id b:=(hβ b).2 rfl
 have hlo:v.lo=0:=by unfold Vr.lo; rw[bS]
 have og:∀o,own c V L β b o:=λo=>.inr ⟨v,hv,hd.live ho,hgx,by rw[hlo]; exact Nat.zero_le _⟩
 have AI:Ext (own c V L β) w (w.setRow b (cs.take off++ds++cs.drop (off+m)).toArray):=⟨Nat.le_of_eq size_setRow.symm,λk hk hno=>aC λe'=>hno 0 (by rw[e']; exact og 0),λk o u hno gh=>by
  have xu:k≠b:=λe'=>hno (by rw[e']; exact og o)
  rw[World.cell?_of_block (w:=w) (a:=⟨k,o,none⟩) (aC xu)]; exact gh⟩
 have hnew:q' w (au true (cs.take off++ds++cs.drop (off+m))):=hq w cs ds h2 hl h4 (by rw[<-e1]; exact hval.out)
 have I0:∀u∈cs.take off++ds++cs.drop (off+m),gv u:=λu gh=>by
  rcases List.mem_append.1 gh with gh|gh
  ·rcases List.mem_append.1 gh with gh|gh
   ·exact h3 u (List.mem_of_mem_take gh)
   ·exact(hu u gh).1
  ·exact h3 u (List.mem_of_mem_drop gh)
 have hlt:b<w.heap.size:=(Array.getElem?_eq_some_iff.1 h1).1
 have hone:One b n q' (w.setRow b (cs.take off++ds++cs.drop (off+m)).toArray):=⟨_,t,setRow_heap w _ _ _ _ _ h1,by rw[List.length_append,List.length_append,List.length_take,List.length_drop]; omega,I0,hn _ w _ (aZ hI) hnew _ AI⟩
 unfold Does
 rw[hr']
 refine hI.JS hwf rfl hv (hd.live ho) bS rfl hgx h1 I0 ?_ nU _
 rw[pJ mk hm hd hr]
 have kE:cR (own c V L β) (w.setRow b (cs.take off++ds++cs.drop (off+m)).toArray):=λk o hk=>by
  obtain⟨k1,k2⟩:=aZ hI k o hk
  refine⟨by rw[size_setRow]; exact k1,λu gh=>?_⟩
  by_cases xu:k=b
  ·rw[xu]at gh; exact hone.KU o u gh
  ·rw[World.cell?_of_block (w:=w) (a:=⟨k,o,none⟩) (aC xu)]at gh
   exact k2 u gh
 exact(hone.box hgx hn kE).imp λw h=>⟨hβ,h⟩
end
variable {V:List Vr} {N:Nat}
theorem vO {b n:Nat} {q q':Pred} (hq:∀w v,q w v->q' w v:=by exactλ_ _ h=>h) (h:lO N V=some (dy N b n q):=by exact rfl):∃r:Rel,lO (dy N b n q').id V=some ⟨(dy N b n q').id,(dy N b n q').slot,none,none,(dy N b n q').kd,(dy N b n q').T,(dy N b n q').n,(dy N b n q').agg,r,[]⟩/\((dy N b n q').born=none/\(dy N b n q').dead=none/\(dy N b n q').st=[])/\∀F w v,r F w v->(dy N b n q').c0 F w v:=
 ⟨_,h,⟨rfl,rfl,rfl⟩,λ_ _ _ h=>⟨h.1,h.2.imp hq⟩⟩
theorem vA {s:Nat} {R:Rel} (h:lO N V=some (cN N s R):=by exact rfl):∃r:Rel,lO (cN N s R).id V=some ⟨(cN N s R).id,(cN N s R).slot,none,none,(cN N s R).kd,(cN N s R).T,(cN N s R).n,(cN N s R).agg,r,[]⟩/\((cN N s R).born=none/\(cN N s R).dead=none/\(cN N s R).st=[])/\∀F w v,r F w v->(cN N s R).c0 F w v:=⟨_,h,⟨rfl,rfl,rfl⟩,λ_ _ _ h=>h⟩
def rM (M:Nat->Nat->Prop) (b n:Nat) (p q:Pred) (w:World) (e:Ending) (w':World):Prop:=∃v,e=.returned v/\aM M (λw=>p w v) w'/\cz (·=b) w w'/\One b n q w'
abbrev jA (M:Nat->Nat->Prop) (b:Nat) (k o:Nat):Prop:=M k o\/k=b
section
variable {P:Program} {c:cM} {V:List Vr} {G:List aV} {a:Act} {w:World} {x y z:Operand} {d:Nat} {ty:TypeId} {pos:String} {aL:Array Edge}{id b n n0:Nat} {q:Pred}
theorem tM {q' p:Pred} {f:FuncId} {args:Array Operand} {ts:Array TypeId} {ops:Array Oper} (hf:aN P f) (h:Inv c V [] G none_ a w) (hk:V[n0]?=some (dy id b n q)) (hp:aA p) (hq:aA q')
  (hc:∀β,aT c V [] G none_ β a w->Calls P f (args.map a.eval) w (rM (minus (own c V none_ β) (β id)) b n p q' w))
  (hV:bj V=true) (hG:bV G=true) (hu:dO V id n0=true) (hd':decide (d<c.N)=true) (IM:(V.all λx=>x.slot != d)=true) (Kr:(G.all λx=>x.slot != d)=true):
  cO P ops ⟨some d,.call ⟨.value (.func f),args,ts⟩,ty,pos,aL,none⟩ a w (Inv c (V.set n0 (dy id b n q')) [] (⟨none,none,d,p⟩::G) none_):=by
 obtain⟨β,hI⟩:=h
 have hx0:=List.mem_of_getElem? hk
 obtain⟨hβ,hone⟩:(∀k,β id k↔k=b)/\One b n q w:=((aK rfl).1 (hI.var _ hx0 rfl)).2.out
 refine .of rfl (lX hf ((hc β hI).mono ?_))
 rintro e w' ⟨v,rfl,h1,h2,h3⟩
 refine⟨v,rfl,jh β id (β id),?_⟩
 have hle:cz (β id) w w':=⟨h2.os,h2.tape,h2.output,h2.size,λk hk hn=>h2.block k hk λe=>hn ((hβ k).2 e)⟩
 have kE:cR (own c V none_ β) w':=λk o hk=>by
  obtain⟨k1,k2⟩:=aZ hI k o hk
  refine⟨Nat.lt_of_lt_of_le k1 h2.size,λu gh=>?_⟩
  by_cases hkb:k=b
  ·exact h3.KU o u (by rw[<-hkb]; exact gh)
  ·rw[World.cell?_of_block (w:=w) (a:=⟨k,o,none⟩) (h2.block k k1 hkb)]at gh
   exact k2 u gh
 have hm:=hI.move (B':=β id) (R':=tr b n q') hV hG hk (eC hu) hle (λk hk=>.inl hk) (λk hk=>by rw[(hβ k).1 hk]; exact⟨h3.lt,h3.KU⟩) ((h3.box ((hβ b).2 rfl) hq kE).imp λw h=>⟨hβ,h⟩)
 rw[List.all_eq_true]at IM Kr
 refine hm.nu (of_decide_eq_true hd') (λx hx=>?_) (λe he=>by simpa using Kr e he) ?_
 ·rcases List.mem_or_eq_of_mem_set hx with hx|rfl
  ·simpa using IM x hx
  ·simpa using IM _ hx0
 ·exact hp _ w' v (aZ hm) h1.out
theorem tj {β:Nat->Nat->Prop} (h:aT c V [] G none_ β a w) (hk:V[n0]?=some (dy id b n q)) {F:World->Prop} (hF:aM (own c V none_ β) F w):aM (jA (minus (own c V none_ β) (β id)) b) F w:=by
 have hx0:=List.mem_of_getElem? hk
 obtain⟨hβ,hone⟩:(∀k,β id k↔k=b)/\One b n q w:=((aK rfl).1 (h.var _ hx0 rfl)).2.out
 exact hF.sub λk o _ hk'=>hk'.elim (λh=>h.1) λe=>.inr ⟨_,hx0,rfl,(hβ k).2 e,Nat.zero_le _⟩
end
end Wx
