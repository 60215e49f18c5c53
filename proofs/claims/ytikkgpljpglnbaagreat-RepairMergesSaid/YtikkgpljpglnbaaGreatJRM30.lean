import Derived.Test.YtikkgpljpglnbaaGreatJRM26
import Derived.Test.YtikkgpljpglnbaaGreatJRM29
namespace Wx
open Go Go.RowKit
variable {V:List Vr} {N:Nat} {B:Nat->Prop} {J:World->Prop}
theorem vJ (h:jv N V=some (jV N B J):=by exact rfl):∃r:Rel,jv (jV N B J).id V=some ⟨(jV N B J).id,(jV N B J).slot,none,none,(jV N B J).kd,(jV N B J).T,(jV N B J).n,(jV N B J).agg,r,[]⟩/\((jV N B J).born=none/\(jV N B J).dead=none/\(jV N B J).st=[])/\∀F w v,r F w v->(jV N B J).c0 F w v:=⟨_,h,⟨rfl,rfl,rfl⟩,λ_ _ _ h=>h⟩
variable {P:Program} {fn:Func} {f:FuncId} {sz:Nat} {ag:Bool} {q:Pred} {u:Value} {M:Nat->Nat->Prop} {R:Ending->World->Prop} {w:World}
theorem TU {C:Code} {l:Nat} (hf:P.funcs[f]?=some fn) (hb:fn.body=some C) (hN:fn.ntmps=N)
  (hM:cQ M w) (OO:∀k,B k->∀o,¬M k o) (hno:iv B w) (hJ:aL M J w) (hc:aL (λk o=>M k o\/B k) (λw=>cZ sz ag q w u) w)
  (h:∀a,Inv ⟨N,w,M,B⟩ [jV N B J] [] [Uz 0 (bg (.func (.yield l) #[] #[])),Uz 1 (cZ sz ag q)] none_ a w->C.ww none [] P (bodyPost P fn R) a w) (hlen:decide (2<=N)=true:=by kernel_rfl):Calls P f (#[.func (.yield l) #[] #[]]++#[u]) w R:=
 tU (vs:=[.func (.yield l) #[] #[],u]) hf hb hN hlen hM OO hno hJ (show dO (λk o=>M k o\/B k) w [.func (.yield l) #[] #[],u] [Uz 0 (bg (.func (.yield l) #[] #[])),Uz 1 (cZ sz ag q)]from⟨⟨rfl,_,rfl,λ_ _=>rfl⟩,⟨rfl,_,rfl,hc⟩,trivial⟩) h
theorem LD {G:List aQ} {a:Act} {n0:Nat} {w0:World} {B0:Nat->Prop} (hI:Inv ⟨N,w0,M,B0⟩ V [] G none_ a w) (hr:fn.results=#[]) (hJ:V[n0]?=some (jV N B J))
  (hR:cA B0 w0 w->(∀k,B k->B0 k\/w0.heap.size<=k)->iv B w->aL M J w->R (.returned (.tuple #[])) w):bodyPost P fn R .normal a w:=LC hI hr hJ hR
def CI (sz:Nat) (ag:Bool) (q:Pred) (lb:Array Value) (w:World):Prop:=∃u,lb=#[u]/\cZ sz ag q w u
theorem CJ (h:aL M (CI sz ag q #[u]) w):aL M (λw=>cZ sz ag q w u) w:=h.imp λ_ ⟨u',e,h⟩=>by
 have e:u=u':=by simpa using e
 rw[e]; exact h
theorem Fu {n:Nat} {p r:Nat->Pred} (hf:aJ P f) (hs:∀u,CA P f #[u] n p r (CI sz ag q #[u])):∀w v,BW f sz ag q w v->D3 P n p r (CI sz ag q) w v:=λ_ _ ⟨u,e,h⟩=>⟨f,#[u],e,hf,hs u,u,rfl,h⟩
end Wx

namespace Wx
open Go Go.RowKit
section
variable {ro:Option Nat} {ds:List Deferred} {P:Program} {Q:Exit->Act->World->Prop} {c:cF} {V:List Vr} {A:List Al} {G:List aQ} {a:Act} {w:World}
theorem AR {l:List Oper} {n:Nat}:∀(os:List Oper) (k m:Nat) (K:Nat->Act->World->Prop),pX P l.toArray K m os->(∀j o,os[j]?=some o->l[k+j]?=some o)->os.all fg=true->(∀a w,K (m+os.length) a w->Q .normal a w)->∀a w,K m a w ->
  wpOpsIn (yc ro) n P l.toArray (λe a' w'=>∃a0,a'=kK ds a0/\Q e a0 w') (List.range' k os.length) (kK ds a) w
 |[],k,m,K,_,_,_,hq,a,w,h=>⟨a,rfl,hq a w h⟩
 |o::os,k,m,K,hs,hl,hd,hq,a,w,h=>by
  rw[List.length_cons,List.range'_succ,wpOpsIn_cons]
  rw[List.all_cons,Bool.and_eq_true]at hd
  refine(hs.1 a w h).DS (by have:=hl 0 o rfl; simpa using this) hd.1 λa' w' h'=>AR os (k+1) (m+1) K hs.2 (λj o ho=>by rw[show k+1+j=k+(j+1) by omega]; exact hl (j+1) o ho) hd.2 (λa w hk=>hq a w ?_) a' w' h'
  rw[List.length_cons,show m+(os.length+1)=m+1+os.length by omega]
  exact hk
variable {id:Nat} {l:List Oper} {V1 V2:List Vr} {G1 G2:List aQ} {K':Act->World->Prop}
theorem NR (h:Inv c V [] G none_ a w) (n k:Nat) (nv:List Vr) (A1:List Al) (ne:List aQ) (hV:xD nv V V1) (hG:kP ne G G1) (hs:oC P l.toArray (tm n 0) c V1 A1 G1 0 (l.take k)) (kV:eE V1 V2) (kG:aA G1 G2) (hst:eI P l.toArray (Inv c V2 [] G2 none_) (l.drop k) K') (hq:∀a w,K' a w->Q .normal a w)
  (hn:kM nv A1 ne=true:=by kernel_rfl) (hb:yX c.N l (tm n 0) k V1 A1 G1=true:=by kernel_rfl) (hd:l.all fg=true:=by kernel_rfl):(Code.region id l.toArray false).ww ro ds P Q a w:=by
 unfold yX at hb
 simp only[Bool.and_eq_true,beq_iff_eq]at hb
 obtain⟨vZ,hkn,hwf⟩:=hb
 obtain⟨F,e0,e1,hF⟩:=hst.steps
 have hkn:=of_decide_eq_true hkn
 refine tJ k hkn hwf (List.all_eq_true.2 λo ho=>List.all_eq_true.1 hd o (List.mem_of_mem_take ho)) (iB h hV hG hn) (by rw[vZ]; exact hs) λa w hI n=>?_
 have:=AR (ro:=ro) (ds:=ds) (Q:=Q) (n:=n) (l:=l) (l.drop k) k 0 F hF (λj o ho=>by rw[List.getElem?_drop]at ho; exact ho) (List.all_eq_true.2 λo ho=>List.all_eq_true.1 hd o (List.mem_of_mem_drop ho)) (λa w hI=>hq a w (by rw[Nat.zero_add,e1]at hI; exact hI)) a w (by rw[e0]; exact jR hwf kV kG hI)
 rw[List.length_drop]at this
 exact this
theorem ko {y:Code} (h:Inv c V [] G none_ a w) (n k:Nat) (nv:List Vr) (A1:List Al) (ne:List aQ) (hV:xD nv V V1) (hG:kP ne G G1) (hs:oC P l.toArray (tm n 0) c V1 A1 G1 0 (l.take k)) (kV:eE V1 V2) (kG:aA G1 G2) (hst:eI P l.toArray (Inv c V2 [] G2 none_) (l.drop k) K') (hq:∀a w,K' a w->y.ww ro ds P Q a w)
  (hn:kM nv A1 ne=true:=by kernel_rfl) (hb:yX c.N l (tm n 0) k V1 A1 G1=true:=by kernel_rfl) (hd:l.all fg=true:=by kernel_rfl):(Code.seq (Code.region id l.toArray false) y).ww ro ds P Q a w:=au (NR h n k nv A1 ne hV hG hs kV kG hst hq hn hb hd)
end
end Wx

namespace Wx
open Go Go.RowKit
def One (b n:Nat) (q:Pred) (w:World):Prop:=∃(cs:List Value) (T:TypeId),w.heap[b]?=some (.cells cs.toArray T (0,0))/\cs.length=n/\(∀v∈cs,fq v)/\q w (aq true cs)
def kN (b n:Nat) (q:Pred):Rel:=λB w _=>(∀k,B k↔k=b)/\One b n q w
abbrev cg (id b n:Nat) (q:Pred):Vr:=dc id id (kN b n q)
variable {b n:Nat} {q:Pred} {w:World}
theorem One.lt (h:One b n q w):b<w.heap.size:=by
 obtain⟨cs,T,h1,_⟩:=h
 exact(Array.getElem?_eq_some_iff.1 h1).1
theorem One.Iv (h:One b n q w):∀o v,w.cell? ⟨b,o,none⟩=some v->fq v:=by
 obtain⟨cs,T,h1,_,h3,_⟩:=h
 intro o v hv
 simp only[World.cell?,h1]at hv
 have:cs[o]?=some v:=by simpa using hv
 exact h3 v (List.mem_of_getElem? this)
theorem One.imp {q':Pred} (h:One b n q w) (hq:∀w v,q w v->q' w v):One b n q' w:=by
 obtain⟨cs,T,h1,h2,h3,h4⟩:=h
 exact⟨cs,T,h1,h2,h3,hq _ _ h4⟩
theorem One.box {M:Nat->Nat->Prop} {B:Nat->Prop} (h:One b n q w) (hB:B b) (hn:av q) (hM:cQ M w):aL (minus M B) (One b n q) w:=by
 obtain⟨cs,T,h1,h2,h3,h4⟩:=h
 intro w' he
 exact⟨cs,T,(he.block b ((Array.getElem?_eq_some_iff.1 h1).1) λo ho=>ho.2 hB).trans h1,h2,h3,hn _ w _ (λk o hk=>hM k o hk.1) h4 w' he⟩
theorem IU {c:cF} {V:List Vr} {G:List aQ} {a:Act} {i T:Nat} (hI:Inv c V [] G none_ a w) (k:Nat) (hk:V[k]?=some (Vz i i T n true q)):∃b,Inv c (V.set k (cg i b n q)) [] (⟨none,none,i,bg (.pointer (some ⟨b,0,none⟩))⟩::G) none_ a w:=by
 obtain⟨β,h⟩:=hI
 have hx:=List.mem_of_getElem? hk
 have hkn:=(List.getElem?_eq_some_iff.1 hk).1
 obtain⟨g,e,h1,hb⟩:=(bj rfl).1 (h.var _ hx rfl)
 obtain⟨cs,k1,k2,k3,k4⟩:=hb.held
 have e:∀k,β i k↔k=g:=e
 have hmem:∀y,y∈V.set k (cg i g n q)->y=cg i g n q\/y∈V:=λy hy=>(List.mem_or_eq_of_mem_set hy).symm
 have Mt:∀y,y∈V->y=Vz i i T n true q\/y∈V.set k (cg i g n q):=by
  intro y hy
  obtain⟨m,hm⟩:=List.mem_iff_getElem?.1 hy
  by_cases hmk:m=k
  ·subst hmk
   rw[hk]at hm
   exact .inl (Option.some.inj hm).symm
  ·exact .inr (List.mem_iff_getElem?.2 ⟨m,by rw[List.getElem?_set_ne (Ne.symm hmk)]; exact hm⟩)
 have hnew:cg i g n q∈V.set k (cg i g n q):=List.mem_iff_getElem?.2 ⟨k,by rw[List.getElem?_set_self hkn]⟩
 have eo:own c (V.set k (cg i g n q)) none_ β=own c V none_ β:=by
  funext k' o
  apply propext
  constructor
  ·rintro(h'|⟨y,hy,h1,h2,h3⟩)
   ·exact .inl h'
   ·rcases hmem y hy with rfl|hy
    ·exact .inr ⟨_,hx,rfl,h2,Nat.zero_le _⟩
    ·exact .inr ⟨y,hy,h1,h2,h3⟩
  ·rintro(h'|⟨y,hy,h1,h2,h3⟩)
   ·exact .inl h'
   ·rcases Mt y hy with rfl|hy
    ·exact .inr ⟨_,hnew,rfl,h2,Nat.zero_le _⟩
    ·exact .inr ⟨y,hy,h1,h2,h3⟩
 have h4:aL (own c V none_ β) (λw=>q w (aq true cs)) w:=k4
 refine⟨g,β,h.size,h.defers,h.below,h.old,λy hy hl=>?_,λy y' g' hy hy' hl hl' hne=>?_,(λp hp=>by cases hp),λe' he ho hf=>?_⟩
 ·rw[eo]
  rcases hmem y hy with rfl|hy
  ·refine(aG rfl).2 ⟨λk' hk'=>?_,λw' he=>⟨e,cs,T,?_,k2,k3,h4 w' (he.mono λk o _ hk=>hk.1)⟩⟩
   ·have:=(e k').1 hk'
    subst this
    exact(h.var _ hx rfl).blk hk'
   ·exact(he.block g ((Array.getElem?_eq_some_iff.1 k1).1) λo ho=>ho.2 ((e g).2 rfl)).trans k1
  ·exact h.var y hy hl
 ·have hy0:∃z,z∈V/\z.id=y.id/\live none_ z=true:=(hmem y hy).elim (λe=>⟨_,hx,by rw[e],rfl⟩) λh=>⟨y,h,rfl,hl⟩
  have uP:∃z,z∈V/\z.id=y'.id/\live none_ z=true:=(hmem y' hy').elim (λe=>⟨_,hx,by rw[e],rfl⟩) λh=>⟨y',h,rfl,hl'⟩
  obtain⟨z,hz,ez,lz⟩:=hy0
  obtain⟨z',Dn,Q7,TN⟩:=uP
  rw[<-ez,<-Q7]
  exact h.apart z z' g' hz Dn lz TN (by rw[ez,Q7]; exact hne)
 ·rw[eo]
  rcases List.mem_cons.1 he with rfl|he
  ·exactλw' _=>h1
  ·exact h.gD e' he ho hf
section
variable {P:Program} {ops:Array Oper} {ms:List Nat} {c:cF} {V:List Vr} {A:List Al} {G:List aQ} {i:Nat}{d:Nat} {x y z:Operand} {ty:TypeId} {pos:String} {aI:Array Edge}{b n:Nat} {q:Pred} {v:Vr}
theorem DR {L:Nat->Bool} {β:Nat->Nat->Prop} {a:Act} {w:World} (hI:aT c V A G L β a w) (hd:kO ms i L) (hv:v∈V) (ho:aX ms i v=true) (bD:v.kd=.obj) (hst:(v.st.all λq=>(q.1==i||(ms.getD i 0).testBit q.1)||(ms.getD q.1 0).testBit i)=true)
  (hc:cont (λj=>(ms.getD i 0).testBit j) v.c0 v.st=kN b n q):(∀k,β v.id k↔k=b)/\One b n q w:=by
 have hH:=(yK hI hd hv ho bD).2.out
 rw[qg hd hst,hc]at hH
 exact hH
variable {T:TypeId} {off m:Nat} {ag:Bool} {p:Pred}
theorem mE (k:Nat) (hk:V[k]?=some v) (ho:aX ms i v=true) (bD:v.kd=.obj) (hst:(v.st.all λq=>(q.1==i||(ms.getD i 0).testBit q.1)||(ms.getD q.1 0).testBit i)=true)
  (hc:cont (λj=>(ms.getD i 0).testBit j) v.c0 v.st=kN b n q) (h:Has ms G i y (bg (.pointer (some ⟨b,off,none⟩)))) (hlen:off+m<=n) (ht:Ty P T ag m) (hq:∀w cs,cs.length=n->q w (aq true cs)->p w (aq ag ((cs.drop off).take m))) (hn:av p) (hp:Post G i p):
  OpOk P ops ms c V A G i ⟨some d,.load T y,ty,pos,aI,none⟩:=
 bX rfl rfl rfl (.inl rfl) hp λL β a w hI hd=>by
  obtain⟨_,cs,t,h1,h2,h3,h4⟩:=DR hI hd (List.mem_of_getElem? hk) ho bD hst hc
  have hy:a.eval y=.pointer (some ⟨b,off,none⟩):=(h.spec hI hd).out
  refine⟨aq ag ((cs.drop off).take m),w,?_,Below.refl _ _,hn _ w _ (aS hI) (hq w cs h2 h4)⟩
  show(do pure (Next.value (<-Instr.loadAt T (a.eval y)))).run P w=_
  rw[hy,Sem.run_bind,dU (cs:=(cs.drop off).take m) ht (fZ h1 off m) (by rw[List.length_take,List.length_drop]; omega)]
  rfl
theorem tA {q':Pred} (k:Nat) (hk:V[k]?=some v) (ho:aX ms i v=true) (bD:v.kd=.obj) (hst:(v.st.all λq=>(q.1==i||(ms.getD i 0).testBit q.1)||(ms.getD q.1 0).testBit i)=true)
  (mk:Nat) (hm:v.st[mk]?=some (i,kN b n q')) (hr:((v.st.drop (mk+1)).all λr=>(ms.getD r.1 0).testBit i)=true) (kL:(V.all λy=>y.id==v.id||y.st.all λq=>q.1 != i)=true)
  (hc:cont (λj=>(ms.getD i 0).testBit j) v.c0 v.st=kN b n q) (h:Has ms G i y (bg (.pointer (some ⟨b,off,none⟩)))) (hlen:off+m<=n) (ht:Ty P T ag m) (hz:Has ms G i z p) (hf:Fits m ag p)
  (hq:∀w cs ds,cs.length=n->ds.length=m->q w (aq true cs)->p w (aq ag ds)->q' w (aq true (cs.take off++ds++cs.drop (off+m)))) (hn:av q'):
  OpOk P ops ms c V A G i ⟨none,.store T y z,ty,pos,aI,none⟩:=by
 refine gK (λL β a w hI hd hwf=>?_) rfl
 have hv:=List.mem_of_getElem? hk
 obtain⟨hβ,cs,t,h1,h2,h3,h4⟩:=DR hI hd hv ho bD hst hc
 have hy:a.eval y=.pointer (some ⟨b,off,none⟩):=(h.spec hI hd).out
 have hval:=hz.spec hI hd
 obtain⟨ds,e1,hl,hcells,hu⟩:=hf w _ hval.out
 have hr':(execOp a.eval ⟨none,.store T y z,ty,pos,aI,none⟩).run P w=.ok .skip (w.setRow b (cs.take off++ds++cs.drop (off+m)).toArray):=by
  show(do Instr.storeAt T (a.eval y) (a.eval z); pure Next.skip).run P w=_
  rw[hy]
  have:=ji (P:=P) (off:=off) ht h1 hcells hl (by omega) (λu eF=>(hu u eF).2)
  simp only[Sem.run_bind,this,Result.andThen_ok,Sem.run_pure]
 have hgx:β v.id b:=(hβ b).2 rfl
 have hlo:v.lo=0:=by unfold Vr.lo; rw[bD]
 have og:∀o,own c V L β b o:=λo=>.inr ⟨v,hv,hd.live ho,hgx,by rw[hlo]; exact Nat.zero_le _⟩
 have yl:Ext (own c V L β) w (w.setRow b (cs.take off++ds++cs.drop (off+m)).toArray):=⟨Nat.le_of_eq size_setRow.symm,λk hk hno=>ay λe'=>hno 0 (by rw[e']; exact og 0),λk o u hno eF=>by
  have uO:k≠b:=λe'=>hno (by rw[e']; exact og o)
  rw[World.cell?_of_block (w:=w) (a:=⟨k,o,none⟩) (ay uO)]; exact eF⟩
 have hnew:q' w (aq true (cs.take off++ds++cs.drop (off+m))):=hq w cs ds h2 hl h4 (by rw[<-e1]; exact hval.out)
 have FP:∀u∈cs.take off++ds++cs.drop (off+m),fq u:=λu eF=>by
  rcases List.mem_append.1 eF with eF|eF
  ·rcases List.mem_append.1 eF with eF|eF
   ·exact h3 u (List.mem_of_mem_take eF)
   ·exact(hu u eF).1
  ·exact h3 u (List.mem_of_mem_drop eF)
 have hlt:b<w.heap.size:=(Array.getElem?_eq_some_iff.1 h1).1
 have hone:One b n q' (w.setRow b (cs.take off++ds++cs.drop (off+m)).toArray):=⟨_,t,setRow_heap w _ _ _ _ _ h1,by rw[List.length_append,List.length_append,List.length_take,List.length_drop]; omega,FP,hn _ w _ (aS hI) hnew _ yl⟩
 unfold Does
 rw[hr']
 refine hI.GL hwf rfl hv (hd.live ho) bD rfl hgx h1 FP ?_ kL _
 rw[ny mk hm hd hr]
 have jL:cQ (own c V L β) (w.setRow b (cs.take off++ds++cs.drop (off+m)).toArray):=λk o hk=>by
  obtain⟨k1,k2⟩:=aS hI k o hk
  refine⟨by rw[size_setRow]; exact k1,λu eF=>?_⟩
  by_cases uO:k=b
  ·rw[uO]at eF; exact hone.Iv o u eF
  ·rw[World.cell?_of_block (w:=w) (a:=⟨k,o,none⟩) (ay uO)]at eF
   exact k2 u eF
 exact(hone.box hgx hn jL).imp λw h=>⟨hβ,h⟩
theorem fE {S f:Nat} (o:Nat) (h:Has ms G i x (bg (.pointer (some ⟨b,off,none⟩))):=by exact hs) (hp:Post G i (bg (.pointer (some ⟨b,off+o,none⟩))):=by exact pt rfl) (hf:∀b off w,(Instr.fieldAt S (.pointer (some ⟨b,off,none⟩)) f).run P w=.ok (.pointer (some ⟨b,off+o,none⟩)) w:=by exactλ_ _ _=>by kernel_rfl) (hA:(A.all λq=>q.tag != some i)=true:=by kernel_rfl):
  OpOk P ops ms c V A G i ⟨some d,.fieldAddr S x f,ty,pos,aI,none⟩:=
 bX rfl rfl rfl (.inr hA) hp λL β a w hI hd=>by
  have hx:a.eval x=.pointer (some ⟨b,off,none⟩):=(h.spec hI hd).out
  refine⟨_,w,?_,Below.refl _ _,λ_ _=>rfl⟩
  show(do pure (Next.value (<-Instr.fieldAt S (a.eval x) f))).run P w=_
  rw[hx,Sem.run_bind,hf]
  rfl
end
variable {V:List Vr} {N:Nat}
theorem vO {b n:Nat} {q q':Pred} (hq:∀w v,q w v->q' w v:=by exactλ_ _ h=>h) (h:jv N V=some (cg N b n q):=by exact rfl):∃r:Rel,jv (cg N b n q').id V=some ⟨(cg N b n q').id,(cg N b n q').slot,none,none,(cg N b n q').kd,(cg N b n q').T,(cg N b n q').n,(cg N b n q').agg,r,[]⟩/\((cg N b n q').born=none/\(cg N b n q').dead=none/\(cg N b n q').st=[])/\∀F w v,r F w v->(cg N b n q').c0 F w v:=
 ⟨_,h,⟨rfl,rfl,rfl⟩,λ_ _ _ h=>⟨h.1,h.2.imp hq⟩⟩
theorem vA {s:Nat} {R:Rel} (h:jv N V=some (dc N s R):=by exact rfl):∃r:Rel,jv (dc N s R).id V=some ⟨(dc N s R).id,(dc N s R).slot,none,none,(dc N s R).kd,(dc N s R).T,(dc N s R).n,(dc N s R).agg,r,[]⟩/\((dc N s R).born=none/\(dc N s R).dead=none/\(dc N s R).st=[])/\∀F w v,r F w v->(dc N s R).c0 F w v:=⟨_,h,⟨rfl,rfl,rfl⟩,λ_ _ _ h=>h⟩
def pU (M:Nat->Nat->Prop) (b n:Nat) (p q:Pred) (w:World) (e:Ending) (w':World):Prop:=∃v,e=.returned v/\aL M (λw=>p w v) w'/\cA (·=b) w w'/\One b n q w'
abbrev iK (M:Nat->Nat->Prop) (b:Nat) (k o:Nat):Prop:=M k o\/k=b
section
variable {P:Program} {c:cF} {V:List Vr} {G:List aQ} {a:Act} {w:World} {x y z:Operand} {d:Nat} {ty:TypeId} {pos:String} {aI:Array Edge}{id b n n0:Nat} {q:Pred}
theorem rQ {q' p:Pred} {f:FuncId} {args:Array Operand} {ts:Array TypeId} {ops:Array Oper} (hf:aJ P f) (h:Inv c V [] G none_ a w) (hk:V[n0]?=some (cg id b n q)) (hp:av p) (hq:av q')
  (hc:∀β,aT c V [] G none_ β a w->Calls P f (args.map a.eval) w (pU (minus (own c V none_ β) (β id)) b n p q' w))
  (hV:bE V=true) (hG:cw G=true) (hu:eu V id n0=true) (hd':decide (d<c.N)=true) (C9:(V.all λx=>x.slot != d)=true) (EU:(G.all λx=>x.slot != d)=true):
  bR P ops ⟨some d,.call ⟨.value (.func f),args,ts⟩,ty,pos,aI,none⟩ a w (Inv c (V.set n0 (cg id b n q')) [] (⟨none,none,d,p⟩::G) none_):=by
 obtain⟨β,hI⟩:=h
 have hx0:=List.mem_of_getElem? hk
 obtain⟨hβ,hone⟩:(∀k,β id k↔k=b)/\One b n q w:=((aG rfl).1 (hI.var _ hx0 rfl)).2.out
 refine .of rfl (kB hf ((hc β hI).mono ?_))
 rintro e w' ⟨v,rfl,h1,h2,h3⟩
 refine⟨v,rfl,gZ β id (β id),?_⟩
 have hle:cA (β id) w w':=⟨h2.os,h2.tape,h2.output,h2.size,λk hk hn=>h2.block k hk λe=>hn ((hβ k).2 e)⟩
 have jL:cQ (own c V none_ β) w':=λk o hk=>by
  obtain⟨k1,k2⟩:=aS hI k o hk
  refine⟨Nat.lt_of_lt_of_le k1 h2.size,λu eF=>?_⟩
  by_cases hkb:k=b
  ·exact h3.Iv o u (by rw[<-hkb]; exact eF)
  ·rw[World.cell?_of_block (w:=w) (a:=⟨k,o,none⟩) (h2.block k k1 hkb)]at eF
   exact k2 u eF
 have hm:=hI.move (B':=β id) (R':=kN b n q') hV hG hk (ew hu) hle (λk hk=>.inl hk) (λk hk=>by rw[(hβ k).1 hk]; exact⟨h3.lt,h3.Iv⟩) ((h3.box ((hβ b).2 rfl) hq jL).imp λw h=>⟨hβ,h⟩)
 rw[List.all_eq_true]at C9 EU
 refine hm.mK (of_decide_eq_true hd') (λx hx=>?_) (λe he=>by simpa using EU e he) ?_
 ·rcases List.mem_or_eq_of_mem_set hx with hx|rfl
  ·simpa using C9 x hx
  ·simpa using C9 _ hx0
 ·exact hp _ w' v (aS hm) h1.out
theorem rz {β:Nat->Nat->Prop} (h:aT c V [] G none_ β a w) (hk:V[n0]?=some (cg id b n q)) {F:World->Prop} (hF:aL (own c V none_ β) F w):aL (iK (minus (own c V none_ β) (β id)) b) F w:=by
 have hx0:=List.mem_of_getElem? hk
 obtain⟨hβ,hone⟩:(∀k,β id k↔k=b)/\One b n q w:=((aG rfl).1 (h.var _ hx0 rfl)).2.out
 exact hF.sub λk o _ hk'=>hk'.elim (λh=>h.1) λe=>.inr ⟨_,hx0,rfl,(hβ k).2 e,Nat.zero_le _⟩
end
end Wx
