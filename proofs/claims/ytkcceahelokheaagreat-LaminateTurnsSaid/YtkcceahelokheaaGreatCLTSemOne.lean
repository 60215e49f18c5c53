import Derived.Test.YtkcceahelokheaaGreatJLT27
namespace Wx
open Go Go.RowKit
def One (b n:Nat) (q:Pred) (w:World):Prop:=∃(cs:List Value) (T:TypeId),w.heap[b]?=some (.cells cs.toArray T (0,0))/\cs.length=n/\(∀v∈cs,iw v)/\q w (aj true cs)
def xP (b n:Nat) (q:Pred):Rel:=λB w _=>(∀k,B k↔k=b)/\One b n q w
abbrev fC (id b n:Nat) (q:Pred):Vr:=eH id id (xP b n q)
variable {b n:Nat} {q:Pred} {w:World}
theorem One.lt (h:One b n q w):b<w.heap.size:=by
 obtain⟨cs,T,h1,_⟩:=h
 exact(Array.getElem?_eq_some_iff.1 h1).1
theorem One.tS (h:One b n q w):∀o v,w.cell? ⟨b,o,none⟩=some v->iw v:=by
 obtain⟨cs,T,h1,_,h3,_⟩:=h
 intro o v hv
 simp only[World.cell?,h1]at hv
 have:cs[o]?=some v:=by simpa using hv
 exact h3 v (List.mem_of_getElem? this)
theorem One.imp {q':Pred} (h:One b n q w) (hq:∀w v,q w v->q' w v):One b n q' w:=by
 obtain⟨cs,T,h1,h2,h3,h4⟩:=h
 exact⟨cs,T,h1,h2,h3,hq _ _ h4⟩
theorem One.box {M:Nat->Nat->Prop} {B:Nat->Prop} (h:One b n q w) (hB:B b) (hn:aK q) (hM:cL M w):aO (minus M B) (One b n q) w:=by
 obtain⟨cs,T,h1,h2,h3,h4⟩:=h
 intro w' he
 exact⟨cs,T,(he.block b ((Array.getElem?_eq_some_iff.1 h1).1) λo ho=>ho.2 hB).trans h1,h2,h3,hn _ w _ (λk o hk=>hM k o hk.1) h4 w' he⟩
theorem ZW {c:fT} {V:List Vr} {G:List bz} {a:Act} {i T:Nat} (hI:Inv c V [] G none_ a w) (k:Nat) (hk:V[k]?=some (Vz i i T n true q)):∃b,Inv c (V.set k (fC i b n q)) [] (⟨none,none,i,bg (.pointer (some ⟨b,0,none⟩))⟩::G) none_ a w:=by
 obtain⟨β,h⟩:=hI
 have hx:=List.mem_of_getElem? hk
 have hkn:=(List.getElem?_eq_some_iff.1 hk).1
 obtain⟨g,e,h1,hb⟩:=(bJ rfl).1 (h.var _ hx rfl)
 obtain⟨cs,k1,k2,k3,k4⟩:=hb.held
 have e:∀k,β i k↔k=g:=e
 have hmem:∀y,y∈V.set k (fC i g n q)->y=fC i g n q\/y∈V:=λy hy=>(List.mem_or_eq_of_mem_set hy).symm
 have OY:∀y,y∈V->y=Vz i i T n true q\/y∈V.set k (fC i g n q):=by
  intro y hy
  obtain⟨m,hm⟩:=List.mem_iff_getElem?.1 hy
  by_cases hmk:m=k
  ·subst hmk
   rw[hk]at hm
   exact .inl (Option.some.inj hm).symm
  ·exact .inr (List.mem_iff_getElem?.2 ⟨m,by rw[List.getElem?_set_ne (Ne.symm hmk)]; exact hm⟩)
 have hnew:fC i g n q∈V.set k (fC i g n q):=List.mem_iff_getElem?.2 ⟨k,by rw[List.getElem?_set_self hkn]⟩
 have eo:own c (V.set k (fC i g n q)) none_ β=own c V none_ β:=by
  funext k' o
  apply propext
  constructor
  ·rintro(h'|⟨y,hy,h1,h2,h3⟩)
   ·exact .inl h'
   ·rcases hmem y hy with rfl|hy
    ·exact .inr ⟨_,hx,rfl,h2,Nat.zero_le _⟩
    ·exact .inr ⟨y,hy,h1,h2,h3⟩
  ·rintro(h'|⟨y,hy,h1,h2,h3⟩)
   ·exact .inl h'
   ·rcases OY y hy with rfl|hy
    ·exact .inr ⟨_,hnew,rfl,h2,Nat.zero_le _⟩
    ·exact .inr ⟨y,hy,h1,h2,h3⟩
 have h4:aO (own c V none_ β) (λw=>q w (aj true cs)) w:=k4
 refine⟨g,β,h.size,h.defers,h.below,h.old,λy hy hl=>?_,λy y' g' hy hy' hl hl' hne=>?_,(λp hp=>by cases hp),λe' he ho hf=>?_⟩
 ·rw[eo]
  rcases hmem y hy with rfl|hy
  ·refine(aN rfl).2 ⟨λk' hk'=>?_,λw' he=>⟨e,cs,T,?_,k2,k3,h4 w' (he.mono λk o _ hk=>hk.1)⟩⟩
   ·have:=(e k').1 hk'
    subst this
    exact(h.var _ hx rfl).blk hk'
   ·exact(he.block g ((Array.getElem?_eq_some_iff.1 k1).1) λo ho=>ho.2 ((e g).2 rfl)).trans k1
  ·exact h.var y hy hl
 ·have hy0:∃z,z∈V/\z.id=y.id/\live none_ z=true:=(hmem y hy).elim (λe=>⟨_,hx,by rw[e],rfl⟩) λh=>⟨y,h,rfl,hl⟩
  have AE:∃z,z∈V/\z.id=y'.id/\live none_ z=true:=(hmem y' hy').elim (λe=>⟨_,hx,by rw[e],rfl⟩) λh=>⟨y',h,rfl,hl'⟩
  obtain⟨z,hz,ez,lz⟩:=hy0
  obtain⟨z',L3,Yd,lz'⟩:=AE
  rw[<-ez,<-Yd]
  exact h.apart z z' g' hz L3 lz lz' (by rw[ez,Yd]; exact hne)
 ·rw[eo]
  rcases List.mem_cons.1 he with rfl|he
  ·exactλw' _=>h1
  ·exact h.jM e' he ho hf
section
variable {P:Program} {ops:Array Oper} {ms:List Nat} {c:fT} {V:List Vr} {A:List Al} {G:List bz} {i:Nat}{d:Nat} {x y z:Operand} {ty:TypeId} {pos:String} {aft:Array Edge}{b n:Nat} {q:Pred} {v:Vr}
theorem PO {L:Nat->Bool} {β:Nat->Nat->Prop} {a:Act} {w:World} (hI:bu c V A G L β a w) (hd:qc ms i L) (hv:v∈V) (ho:bE ms i v=true) (bR:v.kd=.obj) (hst:(v.st.all λq=>(q.1==i||(ms.getD i 0).testBit q.1)||(ms.getD q.1 0).testBit i)=true)
  (hc:cont (λj=>(ms.getD i 0).testBit j) v.c0 v.st=xP b n q):(∀k,β v.id k↔k=b)/\One b n q w:=by
 have hH:=(wD hI hd hv ho bR).2.out
 rw[oA hd hst,hc]at hH
 exact hH
variable {T:TypeId} {off m:Nat} {ag:Bool} {p:Pred}
theorem FN (k:Nat) (hk:V[k]?=some v) (ho:bE ms i v=true) (bR:v.kd=.obj) (hst:(v.st.all λq=>(q.1==i||(ms.getD i 0).testBit q.1)||(ms.getD q.1 0).testBit i)=true)
  (hc:cont (λj=>(ms.getD i 0).testBit j) v.c0 v.st=xP b n q) (h:Has ms G i y (bg (.pointer (some ⟨b,off,none⟩)))) (hlen:off+m<=n) (ht:Ty P T ag m) (hq:∀w cs,cs.length=n->q w (aj true cs)->p w (aj ag ((cs.drop off).take m))) (hn:aK p) (hp:Post G i p):
  OpOk P ops ms c V A G i ⟨some d,.load T y,ty,pos,aft,none⟩:=
 cC rfl rfl rfl (.inl rfl) hp λL β a w hI hd=>by
  obtain⟨_,cs,t,h1,h2,h3,h4⟩:=PO hI hd (List.mem_of_getElem? hk) ho bR hst hc
  have hy:a.eval y=.pointer (some ⟨b,off,none⟩):=(h.spec hI hd).out
  refine⟨aj ag ((cs.drop off).take m),w,?_,Below.refl _ _,hn _ w _ (aS hI) (hq w cs h2 h4)⟩
  show(do pure (Next.value (<-Instr.loadAt T (a.eval y)))).run P w=_
  rw[hy,Sem.run_bind,fJ (cs:=(cs.drop off).take m) ht (fY h1 off m) (by rw[List.length_take,List.length_drop]; omega)]
  rfl
theorem Ce {q':Pred} (k:Nat) (hk:V[k]?=some v) (ho:bE ms i v=true) (bR:v.kd=.obj) (hst:(v.st.all λq=>(q.1==i||(ms.getD i 0).testBit q.1)||(ms.getD q.1 0).testBit i)=true)
  (mk:Nat) (hm:v.st[mk]?=some (i,xP b n q')) (hr:((v.st.drop (mk+1)).all λr=>(ms.getD r.1 0).testBit i)=true) (gg:(V.all λy=>y.id==v.id||y.st.all λq=>q.1 != i)=true)
  (hc:cont (λj=>(ms.getD i 0).testBit j) v.c0 v.st=xP b n q) (h:Has ms G i y (bg (.pointer (some ⟨b,off,none⟩)))) (hlen:off+m<=n) (ht:Ty P T ag m) (hz:Has ms G i z p) (hf:Fits m ag p)
  (hq:∀w cs ds,cs.length=n->ds.length=m->q w (aj true cs)->p w (aj ag ds)->q' w (aj true (cs.take off++ds++cs.drop (off+m)))) (hn:aK q'):
  OpOk P ops ms c V A G i ⟨none,.store T y z,ty,pos,aft,none⟩:=by
 refine gI (λL β a w hI hd hwf=>?_) rfl
 have hv:=List.mem_of_getElem? hk
 obtain⟨hβ,cs,t,h1,h2,h3,h4⟩:=PO hI hd hv ho bR hst hc
 have hy:a.eval y=.pointer (some ⟨b,off,none⟩):=(h.spec hI hd).out
 have hval:=hz.spec hI hd
 obtain⟨ds,e1,hl,hcells,hu⟩:=hf w _ hval.out
 have hr':(execOp a.eval ⟨none,.store T y z,ty,pos,aft,none⟩).run P w=.ok .skip (w.setRow b (cs.take off++ds++cs.drop (off+m)).toArray):=by
  show(do Instr.storeAt T (a.eval y) (a.eval z); pure Next.skip).run P w=_
  rw[hy]
  have:=gZ (P:=P) (off:=off) ht h1 hcells hl (by omega) (λu gB=>(hu u gB).2)
  simp only[Sem.run_bind,this,Result.andThen_ok,Sem.run_pure]
 have hgx:β v.id b:=(hβ b).2 rfl
 have hlo:v.lo=0:=by unfold Vr.lo; rw[bR]
 have og:∀o,own c V L β b o:=λo=>.inr ⟨v,hv,hd.live ho,hgx,by rw[hlo]; exact Nat.zero_le _⟩
 have sn:Ext (own c V L β) w (w.setRow b (cs.take off++ds++cs.drop (off+m)).toArray):=⟨Nat.le_of_eq size_setRow.symm,λk hk hno=>aE λe'=>hno 0 (by rw[e']; exact og 0),λk o u hno gB=>by
  have BR:k≠b:=λe'=>hno (by rw[e']; exact og o)
  rw[World.cell?_of_block (w:=w) (a:=⟨k,o,none⟩) (aE BR)]; exact gB⟩
 have hnew:q' w (aj true (cs.take off++ds++cs.drop (off+m))):=hq w cs ds h2 hl h4 (by rw[<-e1]; exact hval.out)
 have Y4:∀u∈cs.take off++ds++cs.drop (off+m),iw u:=λu gB=>by
  rcases List.mem_append.1 gB with gB|gB
  ·rcases List.mem_append.1 gB with gB|gB
   ·exact h3 u (List.mem_of_mem_take gB)
   ·exact(hu u gB).1
  ·exact h3 u (List.mem_of_mem_drop gB)
 have hlt:b<w.heap.size:=(Array.getElem?_eq_some_iff.1 h1).1
 have hone:One b n q' (w.setRow b (cs.take off++ds++cs.drop (off+m)).toArray):=⟨_,t,setRow_heap w _ _ _ _ _ h1,by rw[List.length_append,List.length_append,List.length_take,List.length_drop]; omega,Y4,hn _ w _ (aS hI) hnew _ sn⟩
 unfold Does
 rw[hr']
 refine hI.K7 hwf rfl hv (hd.live ho) bR rfl hgx h1 Y4 ?_ gg _
 rw[oB mk hm hd hr]
 have ki:cL (own c V L β) (w.setRow b (cs.take off++ds++cs.drop (off+m)).toArray):=λk o hk=>by
  obtain⟨k1,k2⟩:=aS hI k o hk
  refine⟨by rw[size_setRow]; exact k1,λu gB=>?_⟩
  by_cases BR:k=b
  ·rw[BR]at gB; exact hone.tS o u gB
  ·rw[World.cell?_of_block (w:=w) (a:=⟨k,o,none⟩) (aE BR)]at gB
   exact k2 u gB
 exact(hone.box hgx hn ki).imp λw h=>⟨hβ,h⟩
theorem iE (len sz q:Nat) (h:Has ms G i x (bg (.pointer (some ⟨b,off,none⟩))):=by exact hs) (hy:Has ms G i y (pI (q:Int)):=by exact(Wx.hs).imp (bk (by omega))) (hq:q<len:=by omega) (hp:Post G i (bg (.pointer (some ⟨b,off+q*sz,none⟩))):=by exact pt rfl) (ht:GN P T len sz=true:=by kernel_rfl) (hA:(A.all λq=>q.tag != some i)=true:=by kernel_rfl):
  OpOk P ops ms c V A G i ⟨some d,.indexAddr T x y,ty,pos,aft,none⟩:=
 cC rfl rfl rfl (.inr hA) hp λL β a w hI hd=>by
  have hx:a.eval x=.pointer (some ⟨b,off,none⟩):=(h.spec hI hd).out
  have hi:a.eval y=.int .i64 (q:Int):=(hy.spec hI hd).out
  refine⟨_,w,?_,Below.refl _ _,λ_ _=>rfl⟩
  show(do pure (Next.value (<-Instr.indexAt T (a.eval x) (a.eval y)))).run P w=_
  rw[hx,hi,Sem.run_bind,gY ht (by omega) (by omega) w]
  rfl
theorem fE {S f:Nat} (o:Nat) (h:Has ms G i x (bg (.pointer (some ⟨b,off,none⟩))):=by exact hs) (hp:Post G i (bg (.pointer (some ⟨b,off+o,none⟩))):=by exact pt rfl) (hf:∀b off w,(Instr.fieldAt S (.pointer (some ⟨b,off,none⟩)) f).run P w=.ok (.pointer (some ⟨b,off+o,none⟩)) w:=by exactλ_ _ _=>by kernel_rfl) (hA:(A.all λq=>q.tag != some i)=true:=by kernel_rfl):
  OpOk P ops ms c V A G i ⟨some d,.fieldAddr S x f,ty,pos,aft,none⟩:=
 cC rfl rfl rfl (.inr hA) hp λL β a w hI hd=>by
  have hx:a.eval x=.pointer (some ⟨b,off,none⟩):=(h.spec hI hd).out
  refine⟨_,w,?_,Below.refl _ _,λ_ _=>rfl⟩
  show(do pure (Next.value (<-Instr.fieldAt S (a.eval x) f))).run P w=_
  rw[hx,Sem.run_bind,hf]
  rfl
theorem nc (h:Has ms G i x (bg (.pointer (some ⟨b,off,none⟩))):=by exact hs) (hp:Post G i (bg (.pointer (some ⟨b,off,none⟩))):=by exact pt rfl):OpOk P ops ms c V A G i ⟨some d,.nilCheck x,ty,pos,aft,none⟩:=
 iO rfl rfl rfl rfl h hp λρ w h=>⟨.pointer (some ⟨b,off,none⟩),by
  have h:ρ x=.pointer (some ⟨b,off,none⟩):=h
  simp only[execOp,h]
  rfl,λ_ _=>rfl⟩
variable {j:Nat} {l:List Rat}
theorem lO (N q:Nat) (hv:mU N V=some v:=by exact rfl) (ho:bE ms i v=true:=by exact rfl) (bR:v.kd=.obj:=by exact rfl) (hst:(v.st.all λq=>(q.1==i||(ms.getD i 0).testBit q.1)||(ms.getD q.1 0).testBit i)=true:=by kernel_rfl)
  (hc:cont (λj=>(ms.getD i 0).testBit j) v.c0 v.st=xP b n (pV au j l):=by exact rfl) (h:Has ms G i y (bg (.pointer (some ⟨b,off,none⟩))):=by exact hs) (hp:Post G i (pR j (l.getD q 0)):=by exact pt rfl) (hq:q<l.length:=by omega) (hoff:off=q*3:=by omega) (hlen:off+3<=n:=by omega) (ht:Gu P T true 3=true:=by kernel_rfl):OpOk P ops ms c V A G i ⟨some d,.load T y,ty,pos,aft,none⟩:=by
 obtain⟨⟨k,hk⟩,_⟩:=fS hv
 exact FN k hk ho bR hst hc h hlen (aY ht) (wL q hoff hq) iZ hp
theorem lOA (N:Nat) (hv:mU N V=some v:=by exact rfl) (ho:bE ms i v=true:=by exact rfl) (bR:v.kd=.obj:=by exact rfl) (hst:(v.st.all λq=>(q.1==i||(ms.getD i 0).testBit q.1)||(ms.getD q.1 0).testBit i)=true:=by kernel_rfl)
  (hc:cont (λj=>(ms.getD i 0).testBit j) v.c0 v.st=xP b n (pV au j l):=by exact rfl) (h:Has ms G i y (bg (.pointer (some ⟨b,0,none⟩))):=by exact hs) (hp:Post G i (pV au j l):=by exact pt rfl) (ht:Gu P T true n=true:=by kernel_rfl):OpOk P ops ms c V A G i ⟨some d,.load T y,ty,pos,aft,none⟩:=by
 obtain⟨⟨k,hk⟩,_⟩:=fS hv
 exact FN k hk ho bR hst hc h (by omega) (aY ht) (λw cs hl h=>by rw[List.drop_zero,List.take_of_length_le (by omega)]; exact h) (mH λ_=>iZ) hp
theorem sO {k:Nat} {e:Rat} {r:List (Nat×Rel)} (N q:Nat) (hv:mU N V=some v:=by exact rfl) (ho:bE ms i v=true:=by exact rfl) (bR:v.kd=.obj:=by exact rfl) (hst:(v.st.all λq=>(q.1==i||(ms.getD i 0).testBit q.1)||(ms.getD q.1 0).testBit i)=true:=by kernel_rfl)
  (hc:cont (λj=>(ms.getD i 0).testBit j) v.c0 v.st=xP b n (pV au j l):=by exact rfl) (h:Has ms G i y (bg (.pointer (some ⟨b,off,none⟩))):=by exact hs) (hz:Has ms G i z (pR k e):=by exact hs) (hm:NF i v.st=some (xP b n (pV au j (l.set q e)),r):=by exact rfl) (hj:k<=j:=by omega) (hq:q<l.length:=by omega) (hoff:off=q*3:=by omega) (hlen:off+3<=n:=by omega) (ht:Gu P T true 3=true:=by kernel_rfl)
  (hr:(r.all λr=>(ms.getD r.1 0).testBit i)=true:=by kernel_rfl) (gg:(V.all λy=>y.id==v.id||y.st.all λq=>q.1 != i)=true:=by kernel_rfl):OpOk P ops ms c V A G i ⟨none,.store T y z,ty,pos,aft,none⟩:=by
 obtain⟨⟨k',hk⟩,_⟩:=fS hv
 obtain⟨m,h5,h6⟩:=ve hm
 exact Ce k' hk ho bR hst m h5 (by rw[h6]; exact hr) gg hc h hlen (aY ht) hz cE (KI q hoff hq (Nat.le_refl j) hj) (mH λ_=>iZ)
end
variable {V:List Vr} {N:Nat}
theorem vO {b n:Nat} {q q':Pred} (hq:∀w v,q w v->q' w v:=by exactλ_ _ h=>h) (h:mU N V=some (fC N b n q):=by exact rfl):∃r:Rel,mU (fC N b n q').id V=some ⟨(fC N b n q').id,(fC N b n q').slot,none,none,(fC N b n q').kd,(fC N b n q').T,(fC N b n q').n,(fC N b n q').agg,r,[]⟩/\((fC N b n q').born=none/\(fC N b n q').dead=none/\(fC N b n q').st=[])/\∀F w v,r F w v->(fC N b n q').c0 F w v:=
 ⟨_,h,⟨rfl,rfl,rfl⟩,λ_ _ _ h=>⟨h.1,h.2.imp hq⟩⟩
theorem vA {s:Nat} {R:Rel} (h:mU N V=some (eH N s R):=by exact rfl):∃r:Rel,mU (eH N s R).id V=some ⟨(eH N s R).id,(eH N s R).slot,none,none,(eH N s R).kd,(eH N s R).T,(eH N s R).n,(eH N s R).agg,r,[]⟩/\((eH N s R).born=none/\(eH N s R).dead=none/\(eH N s R).st=[])/\∀F w v,r F w v->(eH N s R).c0 F w v:=⟨_,h,⟨rfl,rfl,rfl⟩,λ_ _ _ h=>h⟩
def NP (M:Nat->Nat->Prop) (b n:Nat) (p q:Pred) (w:World) (e:Ending) (w':World):Prop:=∃v,e=.returned v/\aO M (λw=>p w v) w'/\dN (·=b) w w'/\One b n q w'
abbrev qh (M:Nat->Nat->Prop) (b:Nat) (k o:Nat):Prop:=M k o\/k=b
section
variable {P:Program} {c:fT} {V:List Vr} {G:List bz} {a:Act} {w:World} {x y z:Operand} {d:Nat} {ty:TypeId} {pos:String} {aft:Array Edge}{id b n n0:Nat} {q q' p:Pred} {f:FuncId} {ts:Array TypeId} {ops:Array Oper}
theorem Jo {args:Array Operand} (hf:aR P f) (h:Inv c V [] G none_ a w) (hk:V[n0]?=some (fC id b n q)) (hp:aK p) (hq:aK q')
  (hc:∀β,bu c V [] G none_ β a w->Calls P f (args.map a.eval) w (NP (minus (own c V none_ β) (β id)) b n p q' w))
  (hV:cQ V=true) (hG:eC G=true) (hu:jo V id n0=true) (hd':decide (d<c.N)=true) (OP:(V.all λx=>x.slot != d)=true) (RG:(G.all λx=>x.slot != d)=true):
  bV P ops ⟨some d,.call ⟨.value (.func f),args,ts⟩,ty,pos,aft,none⟩ a w (Inv c (V.set n0 (fC id b n q')) [] (⟨none,none,d,p⟩::G) none_):=by
 obtain⟨β,hI⟩:=h
 have hx0:=List.mem_of_getElem? hk
 obtain⟨hβ,hone⟩:(∀k,β id k↔k=b)/\One b n q w:=((aN rfl).1 (hI.var _ hx0 rfl)).2.out
 refine .of rfl (jX hf ((hc β hI).mono ?_))
 rintro e w' ⟨v,rfl,h1,h2,h3⟩
 refine⟨v,rfl,pW β id (β id),?_⟩
 have hle:dN (β id) w w':=⟨h2.os,h2.tape,h2.output,h2.size,λk hk hn=>h2.block k hk λe=>hn ((hβ k).2 e)⟩
 have ki:cL (own c V none_ β) w':=λk o hk=>by
  obtain⟨k1,k2⟩:=aS hI k o hk
  refine⟨Nat.lt_of_lt_of_le k1 h2.size,λu gB=>?_⟩
  by_cases hkb:k=b
  ·exact h3.tS o u (by rw[<-hkb]; exact gB)
  ·rw[World.cell?_of_block (w:=w) (a:=⟨k,o,none⟩) (h2.block k k1 hkb)]at gB
   exact k2 u gB
 have hm:=hI.move (B':=β id) (R':=xP b n q') hV hG hk (iJ hu) hle (λk hk=>.inl hk) (λk hk=>by rw[(hβ k).1 hk]; exact⟨h3.lt,h3.tS⟩) ((h3.box ((hβ b).2 rfl) hq ki).imp λw h=>⟨hβ,h⟩)
 rw[List.all_eq_true]at OP RG
 refine hm.DR (of_decide_eq_true hd') (λx hx=>?_) (λe he=>by simpa using RG e he) ?_
 ·rcases List.mem_or_eq_of_mem_set hx with hx|rfl
  ·simpa using OP x hx
  ·simpa using OP _ hx0
 ·exact hp _ w' v (aS hm) h1.out
theorem zS {β:Nat->Nat->Prop} (h:bu c V [] G none_ β a w) (hk:V[n0]?=some (fC id b n q)) {F:World->Prop} (hF:aO (own c V none_ β) F w):aO (qh (minus (own c V none_ β) (β id)) b) F w:=by
 have hx0:=List.mem_of_getElem? hk
 obtain⟨hβ,hone⟩:(∀k,β id k↔k=b)/\One b n q w:=((aN rfl).1 (h.var _ hx0 rfl)).2.out
 exact hF.sub λk o _ hk'=>hk'.elim (λh=>h.1) λe=>.inr ⟨_,hx0,rfl,(hβ k).2 e,Nat.zero_le _⟩
variable {p1 p2 p3:Pred}
theorem cP3 {q1 q2 q3:Pred} {φ:Prop} (sk:φ->∀(M:Nat->Nat->Prop) (w:World) (v1 v2 v3:Value),cL M w->(∀o,¬M b o)->One b n q w->aO (qh M b) (λw=>p1 w v1) w->aO (qh M b) (λw=>p2 w v2) w->aO (qh M b) (λw=>p3 w v3) w->Calls P f #[v1,v2,v3] w (NP M b n p q' w))
  (hk:V[n0]?=some (fC id b n q):=by exact rfl) (h1:Has [0] G 0 x q1:=by exact hs) (c1:∀w v,q1 w v->p1 w v:=by exact uk) (h2:Has [0] G 0 y q2:=by exact hs) (c2:∀w v,q2 w v->p2 w v:=by exact uk) (h3:Has [0] G 0 z q3:=by exact hs) (c3:∀w v,q3 w v->p3 w v:=by exact uk) (hφ:φ:=by first|omega|trivial) (hp:aK p:=by exact Q8) (hq:aK q':=by exact Q8) (hf:aR P f:=by exactλ_ _=>by kernel_rfl)
  (hV:cQ V=true:=by kernel_rfl) (hG:eC G=true:=by kernel_rfl) (hu:jo V id n0=true:=by kernel_rfl) (hd':decide (d<c.N)=true:=by kernel_rfl) (OP:(V.all λx=>x.slot != d)=true:=by kernel_rfl) (RG:(G.all λx=>x.slot != d)=true:=by kernel_rfl):
  ∀a w,Inv c V [] G none_ a w->bV P ops ⟨some d,.call ⟨.value (.func f),#[x,y,z],ts⟩,ty,pos,aft,none⟩ a w (Inv c (V.set n0 (fC id b n q')) [] (⟨none,none,d,p⟩::G) none_):=λa w hI=>
 Jo hf hI hk hp hq (λβ h=>by
  have hx0:=List.mem_of_getElem? hk
  obtain⟨hβ,hone⟩:(∀k,β id k↔k=b)/\One b n q w:=((aN rfl).1 (h.var _ hx0 rfl)).2.out
  rw[show(#[x,y,z]:Array Operand).map a.eval=#[a.eval x,a.eval y,a.eval z] by simp]
  exact sk hφ _ w _ _ _ (rP (aS h)) (λo ho=>ho.2 ((hβ b).2 rfl)) hone ((zS h hk (h1.spec h oG)).imp λw=>c1 w _) ((zS h hk (h2.spec h oG)).imp λw=>c2 w _) ((zS h hk (h3.spec h oG)).imp λw=>c3 w _)) hV hG hu hd' OP RG
variable {fn:Func} {N:Nat} {M:Nat->Nat->Prop}
theorem adG {C:Code} {v1 v2 v3:Value} {R:Ending->World->Prop} (hf:P.funcs[f]?=some fn) (hb:fn.body=some C) (hN:fn.ntmps=N) (hM:cL M w) (hbM:∀o,¬M b o) (hq:aK q) (h0:One b n q w)
  (h1:aO (qh M b) (λw=>p1 w v1) w) (h2:aO (qh M b) (λw=>p2 w v2) w) (h3:aO (qh M b) (λw=>p3 w v3) w)
  (h:∀a,Inv ⟨N,w,M,(·=b)⟩ [fC N b n q] [] [Uz 0 p1,Uz 1 p2,Uz 2 p3] none_ a w->C.ww none [] P (bodyPost P fn R) a w) (hlen:decide (3<=N)=true:=by kernel_rfl):Calls P f #[v1,v2,v3] w R:=by
 have hH:∀k:Nat,k=b↔k=b:=λ_=>Iff.rfl
 have eo:∀k o,own ⟨N,w,M,(·=b)⟩ [fC N b n q] none_ (λ_ k=>k=b) k o->qh M b k o:=by
  rintro k o (h|⟨x,hx,_,h,_⟩)
  ·exact .inl h
  ·exact .inr h
 have ki:cL (own ⟨N,w,M,(·=b)⟩ [fC N b n q] none_ (λ_ k=>k=b)) w:=λk o hk=>(eo k o hk).elim (λh=>hM k o h) λh=>by subst h; exact⟨h0.lt,λv hv=>h0.tS o v hv⟩
 have hG:cF (qh M b) w [v1,v2,v3] [Uz 0 p1,Uz 1 p2,Uz 2 p3]:=⟨⟨rfl,_,rfl,h1⟩,⟨rfl,_,rfl,h2⟩,⟨rfl,_,rfl,h3⟩,trivial⟩
 have hGo:=cF.ok (m:=fn.ntmps-#[v1,v2,v3].size) hG
 refine calls_of_wp hf hb ((wpIn_wide (n:=0)).1 (wpIn_mono (h { tmps:=#[v1,v2,v3]++Array.replicate (fn.ntmps-#[v1,v2,v3].size) undef,defers:=[] } ?_ 0) λe a' w' ⟨a0,e0,h0⟩=>by subst e0; exact h0))
 refine⟨λ_ k=>k=b,by have:=of_decide_eq_true hlen; simp[hN]; omega,rfl,dN.refl _ _,(λk o h=>⟨⟨(hM k o h).1,λ(hb:k=b)=>hbM o (hb▸h)⟩,(hM k o h).2⟩),(λx hx _=>?_),(λx y g hx hy _ _ hne=>?_),(λp hp=>by cases hp),λe he _ _=>(hGo.get e he).2.sub λk o _ h=>eo k o h⟩
 ·rcases List.mem_singleton.1 hx with rfl
  exact(aN rfl).2 ⟨λk (hk:k=b)=>by subst hk; exact⟨.inr rfl,h0.lt,λo v hv=>h0.tS o v hv⟩,(h0.box (B:=(·=b)) rfl hq ki).imp λw h=>⟨λ_=>Iff.rfl,h⟩⟩
 ·rcases List.mem_singleton.1 hx with rfl
  rcases List.mem_singleton.1 hy with rfl
  exact absurd rfl hne
variable {w0:World}
theorem Yj (hI:Inv ⟨N,w0,M,(·=b)⟩ V [] G none_ a w) (hr:fn.results=#[]) (hk:V[n0]?=some (fC N b n q)):bodyPost P fn (NP M b n (bg (.tuple #[])) q w0) .ret a w:=by
 obtain⟨β,hI⟩:=hI
 have hx0:=List.mem_of_getElem? hk
 obtain⟨hβ,hone⟩:(∀k,β N k↔k=b)/\One b n q w:=((aN rfl).1 (hI.var _ hx0 rfl)).2.out
 exact iM hI (results_none hr _ _ _) ⟨_,rfl,λ_ _=>rfl,hI.below,hone⟩
theorem U3 (hI:Inv ⟨N,w0,M,(·=b)⟩ V [] G none_ a w) (hr:fn.results=#[]) (hk:V[n0]?=some (fC N b n q)):bodyPost P fn (NP M b n (bg (.tuple #[])) q w0) .normal a w:=Yj hI hr hk
end
end Wx
