import Derived.Test.YtikkgpljpglnbaaGreatJRM30
import Derived.Test.YtikkgpljpglnbaaGreatJRM31
namespace Wx
open Go Go.RowKit
set_option linter.unusedVariables false
def QI (X:Option Addr) (q sz:Nat):Pred:=λ_ v=>∃b o:Nat,X=some ⟨b,o,none⟩/\v=.pointer (some ⟨b,o+q*sz,none⟩)
section
variable {P:Program} {ops:Array Oper} {ms:List Nat} {c:cM} {V:List Vr} {A:List Al} {G:List aV} {i d:Nat} {x y:Operand} {ty:TypeId} {pos:String} {aL:Array Edge}{sz m:Nat} {ag:Bool} {E:TypeId} {f:Nat->Pred} {v:Vr}
theorem Fv {L:Nat->Bool} {β:Nat->Nat->Prop} {a:Act} {w:World} {s:Value} (hI:aT c V A G L β a w) (hd:mB ms i L) (hv:v∈V) (ho:bA ms i v=true) (bS:v.kd=.obj) (hst:(v.st.all λq=>(q.1==i||(ms.getD i 0).testBit q.1)||(ms.getD q.1 0).testBit i)=true)
  (hc:cont (λj=>(ms.getD i 0).testBit j) v.c0 v.st=JC sz m ag E f s):pC sz m ag E f s (β v.id) w:=by
 have hH:=(Be hI hd hv ho bS).2.out
 rw[rW hd hst,hc]at hH
 exact hH
variable {T:TypeId} {X:Option Addr} {cap:Nat}
theorem S1 {k:Int} (N q:Nat) (hv:lO N V=some v:=by exact rfl) (ho:bA ms i v=true:=by exact rfl) (bS:v.kd=.obj:=by exact rfl) (hst:(v.st.all λq=>(q.1==i||(ms.getD i 0).testBit q.1)||(ms.getD q.1 0).testBit i)=true:=by kernel_rfl)
  (hc:cont (λj=>(ms.getD i 0).testBit j) v.c0 v.st=JC sz m ag E f (.slice X m cap):=by exact rfl) (h:Has ms G i x (bp (.slice X m cap)):=by exact hs) (hy:Has ms G i y (pI k):=by exact hs) (hk:k=(q:Int):=by omega) (hq:q<m:=by omega) (hp:Post G i (QI X q sz):=by exact pt rfl) (ht:JP P T sz=true:=by kernel_rfl) (hA:(A.all λq=>q.tag != some i)=true:=by kernel_rfl):OpOk P ops ms c V A G i ⟨some d,.indexAddr T x y,ty,pos,aL,none⟩:=by
 obtain⟨E',hE⟩:=qf ht
 obtain⟨⟨j,hj⟩,_⟩:=dX hv
 exact cq rfl rfl rfl (.inr hA) hp λL β a w hI hd=>by
  have hx:a.eval x=.slice X m cap:=(h.spec hI hd).out
  have hi:a.eval y=.int .i64 k:=(hy.spec hI hd).out
  rcases Fv hI hd (List.mem_of_getElem? hj) ho bS hst hc with⟨_,e,_⟩|⟨bb,cap',cur,e,_⟩
  ·omega
  ·injection e with e1 e2 e3
   refine⟨_,w,?_,Below.refl _ _,λ_ _=>⟨bb,0,e1,rfl⟩⟩
   show(do pure (Next.value (<-Instr.indexAt T (a.eval x) (a.eval y)))).run P w=_
   rw[hx,hi,e1,hk,Sem.run_bind,lG hE (by omega) (by omega)]
   rw[Int.toNat_natCast]
   rfl
variable {φ:Prop}
theorem Ko (hφ:φ) {T E:TypeId} {X:Option Addr} {sz m cap:Nat} {ag:Bool} {f:Nat->Pred} {v:Vr} {k:Int} (N q:Nat) (hv:lO N V=some v:=by exact rfl) (ho:bA ms i v=true:=by exact rfl) (bS:v.kd=.obj:=by exact rfl) (hst:(v.st.all λq=>(q.1==i||(ms.getD i 0).testBit q.1)||(ms.getD q.1 0).testBit i)=true:=by kernel_rfl)
  (hc:cont (λj=>(ms.getD i 0).testBit j) v.c0 v.st=JC sz m ag E f (.slice X m cap):=by exact rfl) (h:Has ms G i x (bp (.slice X m cap)):=by exact hg) (hy:Has ms G i y (pI k):=by exact hg) (hk:k=(q:Int):=by omega) (hq:q<m:=by omega) (hp:Post G i (QI X q sz):=by exact pg (by assumption) rfl) (ht:JP P T sz=true:=by kernel_rfl) (hA:(A.all λq=>q.tag != some i)=true:=by kernel_rfl):OpOk P ops ms c V A G i ⟨some d,.indexAddr T x y,ty,pos,aL,none⟩:=
 (λ_:φ=>S1 N q hv ho bS hst hc h hy hk hq hp ht hA) hφ
theorem S5 {q:Nat} (N:Nat) (hv:lO N V=some v:=by exact rfl) (ho:bA ms i v=true:=by exact rfl) (bS:v.kd=.obj:=by exact rfl) (hst:(v.st.all λq=>(q.1==i||(ms.getD i 0).testBit q.1)||(ms.getD q.1 0).testBit i)=true:=by kernel_rfl)
  (hc:cont (λj=>(ms.getD i 0).testBit j) v.c0 v.st=JC sz m ag E f (.slice X m cap):=by exact rfl) (h:Has ms G i y (QI X q sz):=by exact hs) (hq:q<m:=by omega) (hp:Post G i (f q):=by exact pt rfl) (hn:aA (f q):=by exact CI) (ht:He P T ag sz=true:=by kernel_rfl):OpOk P ops ms c V A G i ⟨some d,.load T y,ty,pos,aL,none⟩:=by
 obtain⟨⟨j,hj⟩,_⟩:=dX hv
 exact cq rfl rfl rfl (.inl rfl) hp λL β a w hI hd=>by
  obtain⟨b,o,e0,hy⟩:=(h.spec hI hd).out
  have hy:a.eval y=.pointer (some ⟨b,o+q*sz,none⟩):=hy
  rcases Fv hI hd (List.mem_of_getElem? hj) ho bS hst hc with⟨_,e,_⟩|⟨bb,cap',cur,e,_,k3,k4,k5,k6,k7,k8⟩
  ·omega
  ·injection e with e1 e2 e3
   rw[e0]at e1
   injection e1 with e1
   injection e1 with eb eo _
   subst eb eo
   have hle:=Nat.mul_le_mul_right sz (Nat.lt_of_lt_of_le hq k5)
   rw[Nat.succ_mul]at hle
   refine⟨au ag ((cur.drop (q*sz)).take sz),w,?_,Below.refl _ _,hn _ w _ (aZ hI) (k8 q hq)⟩
   show(do pure (Next.value (<-Instr.loadAt T (a.eval y)))).run P w=_
   rw[hy,Nat.zero_add,Sem.run_bind,eO (cs:=(cur.drop (q*sz)).take sz) (bE ht) (iq k3 (q*sz) sz) (by rw[List.length_take,List.length_drop]; omega)]
   rfl
theorem Kq (hφ:φ) {T E:TypeId} {X:Option Addr} {sz m q cap:Nat} {ag:Bool} {f:Nat->Pred} {v:Vr} (N:Nat) (hv:lO N V=some v:=by exact rfl) (ho:bA ms i v=true:=by exact rfl) (bS:v.kd=.obj:=by exact rfl) (hst:(v.st.all λq=>(q.1==i||(ms.getD i 0).testBit q.1)||(ms.getD q.1 0).testBit i)=true:=by kernel_rfl)
  (hc:cont (λj=>(ms.getD i 0).testBit j) v.c0 v.st=JC sz m ag E f (.slice X m cap):=by exact rfl) (h:Has ms G i y (QI X q sz):=by exact hg) (hq:q<m:=by omega) (hp:Post G i (f q):=by exact pg (by assumption) rfl) (hn:aA (f q):=by exact CI) (ht:He P T ag sz=true:=by kernel_rfl):OpOk P ops ms c V A G i ⟨some d,.load T y,ty,pos,aL,none⟩:=
 (λ_:φ=>S5 N hv ho bS hst hc h hq hp hn ht) hφ
end
section
variable {P:Program} {c:cM} {V:List Vr} {G:List aV} {a:Act} {w:World} {β:Nat->Nat->Prop} {x y z:Operand} {d:Nat} {ty:TypeId} {pos:String} {aL:Array Edge}{sz m cap:Nat} {ag:Bool} {E:TypeId} {f:Nat->Pred} {X:Option Addr} {B:Nat->Prop}
theorem pC.cut {m':Nat} (h:pC sz m ag E f (.slice X m cap) B w) (hm:m'<=m):pC sz m' ag E f (.slice X m' cap) B w:=by
 rcases h with⟨e,e2,hX⟩|⟨bb,cap',cur,e,k2,k3,k4,k5,k6,k7,k8⟩
 ·injection e with e1 _ e3
  obtain rfl:m'=0:=by omega
  rw[e1,e3]
  exact .inl ⟨rfl,rfl,hX⟩
 ·injection e with e1 _ e3
  rw[e1,e3]
  exact .inr ⟨bb,cap',cur,rfl,k2,k3,k4,Nat.le_trans hm k5,k6,k7,λi hi=>k8 i (Nat.lt_of_lt_of_le hi hm)⟩
theorem pC.bound (h:pC sz m ag E f (.slice X m cap) B w):m<=cap/\cap<=maxLen:=by
 rcases h with⟨e,e2,hX⟩|⟨bb,cap',cur,e,k2,k3,k4,k5,k6,k7,k8⟩
 ·injection e with _ _ e3
  rw[e2,e3]
  exact⟨Nat.le_refl _,Nat.zero_le _⟩
 ·injection e with _ _ e3
  rw[e3]
  exact⟨k5,k6⟩
variable {ops:Array Oper} {id n0 e:Nat} {T ty2:TypeId} {pos2:String} {aft2:Array Edge}
theorem Kg {d:Nat} {k:Int} {x y:Operand} {ty:TypeId} {pos:String} {aL:Array Edge} (m':Nat) (hk:V[n0]?=some (kX id sz m ag E f (.slice X m cap)):=by exact rfl) (h1:Has [0] G 0 x (bp (.slice X m cap)):=by exact hs) (h2:Has [0] G 0 y (pI k):=by exact hs) (hkm:k=(m':Int):=by omega) (hm:m'<=m:=by omega)
  (hnf:∀i,aA (f i):=by intro i; exact CI) (ht:JP P T sz=true:=by kernel_rfl) (hV:bj V=true:=by kernel_rfl) (hG:bV G=true:=by kernel_rfl) (hu:dO V id n0=true:=by kernel_rfl) (hfr:qp V G d e c.N=true:=by kernel_rfl):
  fL P ops (Inv c V [] G none_) [⟨some d,.slice T x none (some y) none,ty,pos,aL,none⟩,⟨some e,.assign (.tmp d),ty2,pos2,aft2,none⟩] (Inv c (V.set n0 (kX id sz m' ag E f (.slice X m' cap))) [] (⟨none,none,e,bp (.slice X m' cap)⟩::G) none_):=by
 unfold qp at hfr
 simp only[Bool.and_eq_true,List.all_eq_true,decide_eq_true_eq,bne_iff_ne]at hfr
 obtain⟨fV,fG,Kv,IQ,Qy⟩:=hfr
 obtain⟨E',hE⟩:=qf ht
 refine⟨Inv c (V.set n0 (kX id sz m' ag E f (.slice X m' cap))) [] (⟨none,none,d,bp (.slice X m' cap)⟩::G) none_,?_,_,?_,rfl⟩
 ·rintro a w ⟨β,hI⟩
  have hx0:=List.mem_of_getElem? hk
  have hO:=(aK rfl).1 (hI.var _ hx0 rfl)
  have hB:aM (minus (own c V none_ β) (β id)) (λw=>pC sz m ag E f (.slice X m cap) (β id) w) w:=hO.2
  have ex:a.eval x=.slice X m cap:=(h1.spec hI mS).out
  have ey:a.eval y=.int .i64 m':=by
   have e:=(h2.spec hI mS).out
   rw[hkm]at e
   exact e
  have hbd:=hB.out.bound
  refine .of rfl ?_
  unfold Does
  have hr:(execOp a.eval ⟨some d,.slice T x none (some y) none,ty,pos,aL,none⟩).run P w=.ok (.value (.slice X m' cap)) w:=by
   show(do pure (Next.value (<-Instr.sliceAt T (a.eval x) none (some (a.eval y)) none))).run P w=_
   rw[ex,ey]
   have hr:(Instr.sliceAt T (.slice X m cap) none (some (.int .i64 m')) none).run P w=.ok (.slice X m' cap) w:=by
    have e1:(Instr.sliceBound (.int .i64 m') cap .sliceAcap).run P w=.ok m' w:=by
     have:=run_sliceBound (P:=P) w .i64 (m':Int) cap .sliceAcap (by omega) (by omega)
     simpa using this
    have e3:X.map (λq=>q.add 0)=X:=by
     cases X with
     |none=>rfl
     |some q=>rfl
    simp only[Instr.sliceAt,Sem.run_bind,run_underlying hE.under,Result.andThen_ok,Instr.slice,Instr.sliceBounds,Sem.run_pure]
    simp only[e1,Result.andThen_ok,hE.size w,Nat.zero_mul,Nat.sub_zero,e3,ite_self,if_true]
   rw[Sem.run_bind,hr]
   rfl
  rw[hr]
  have hg:=hB.out.cut hm
  refine⟨jh β id (β id),?_⟩
  have WA:=hI.move (B':=β id) (R':=JC sz m' ag E f (.slice X m' cap)) (w':=w) hV hG hk (eC hu) (cz.refl _ _) (λk hk=>.inl hk) (je hg) (hB.imp λw h=>h.cut hm)
  refine WA.nu Kv (λx hx=>?_) (λe he=>(fG e he).1) λ_ _=>rfl
  rcases List.mem_or_eq_of_mem_set hx with hx|rfl
  ·exact(fV x hx).1
  ·exact(fV _ hx0).1
 ·rintro a w ⟨β,hI⟩
  have hv:a.eval (.tmp d)=.slice X m' cap:=(hI.gY ⟨none,none,d,bp _⟩ (List.mem_cons_self ..) rfl rfl).out
  have yz:=hI.sR (G':=G) λe he=>List.mem_cons_of_mem _ he
  have hx0:=List.mem_of_getElem? hk
  refine .of rfl ?_
  unfold Does
  have hr:(execOp a.eval ⟨some e,.assign (.tmp d),ty2,pos2,aft2,none⟩).run P w=.ok (.value (.slice X m' cap)) w:=by rw[<-hv]; rfl
  rw[hr]
  refine⟨β,yz.nu IQ (λx hx=>?_) (λe he=>(fG e he).2) λ_ _=>rfl⟩
  rcases List.mem_or_eq_of_mem_set hx with hx|rfl
  ·exact(fV x hx).2
  ·exact(fV _ hx0).2
def vS (sz n:Nat) (ag:Bool) (E:TypeId) (f:Nat->Pred) (w:World) (e:Ending) (w':World):Prop:=∃b cap,e=.returned (.slice (some ⟨b,0,none⟩) n cap)/\Below w.heap.size w w'/\w.heap.size<=b/\pC sz n ag E f (.slice (some ⟨b,0,none⟩) n cap) (·=b) w'
variable {n:Nat} {M:Nat->Nat->Prop} {v:Value}
theorem Rv {fn:Func} {s:Nat} {w0:World} {N:Nat} (hI:Inv ⟨N,w0,M,λ_=>False⟩ V [] G none_ a w) (hr:fn.results=#[.tmp s]) (hk:V[n0]?=some (kX id sz n ag E f v)) (hn:0<n) (h1:fD s G=some (bp v):=by exact rfl):bodyPost P fn (vS sz n ag E f w0) .ret a w:=by
 obtain⟨β,hI⟩:=hI
 have hx:=List.mem_of_getElem? hk
 have hO:=(aK rfl).1 (hI.var _ hx rfl)
 have hB:pC sz n ag E f v (β id) w:=hO.2.out
 obtain⟨k1,nD⟩:=dn h1
 have es:sl a s=v:=(hI.gY _ (List.mem_of_getElem? nD) rfl rfl).out
 rcases hB with⟨_,e,_⟩|⟨bb,cap,cur,e,k2,k3,k4,k5,k6,k7,k8⟩
 ·omega
 ·have hb:=(hO.1 bb ((k2 bb).2 rfl)).1
  have hb2:w0.heap.size<=bb:=hb.elim (λh=>h) λh=>h.elim
  refine iN hI (v:=sl a s) ?_ ⟨bb,cap,by rw[es,e],hI.below.below (λ_ h=>h),hb2,.inr ⟨bb,cap,cur,rfl,λ_=>Iff.rfl,k3,k4,k5,k6,k7,k8⟩⟩
  rw[dm,hr]
  simp[nw,sl]
variable {b:Nat}
theorem CN {w:World} (h:One b (cap*sz) (H6 sz n ag f) w) (hn:n<=cap/\cap<=maxLen):bK sz ag n f w (.slice (some ⟨b,0,none⟩) n cap):=by
 obtain⟨cs,T,h1,h2,h3,ds,e,h4⟩:=h
 have e':cs=ds:=by
  have h:(Value.agg cs.toArray)=.agg ds.toArray:=e
  injection h with h
  exact congrArg Array.toList h
 subst e'
 refine⟨_,cap,rfl,hn.1,hn.2,λ_=>⟨b,0,rfl,λq hq=>⟨(cs.drop (q*sz)).take sz,?_,λj v hj=>?_,h4 q hq⟩⟩⟩
 ·have:=Nat.mul_le_mul_right sz (Nat.lt_of_lt_of_le hq hn.1)
  rw[Nat.succ_mul]at this
  rw[List.length_take,List.length_drop]
  omega
 ·rw[Nat.zero_add]
  exact iq h1 _ _ j v hj
theorem BA (h:aT c V [] G none_ β a w) (hk:V[n0]?=some (dy id b (cap*sz) (H6 sz n ag f))) (hn:n<=cap/\cap<=maxLen):aM (minus (own c V none_ β) (β id)) (λw=>bK sz ag n f w (.slice (some ⟨b,0,none⟩) n cap)) w:=by
 have hO:=((aK rfl).1 (h.var _ (List.mem_of_getElem? hk) rfl)).2
 exact hO.imp λw' h=>CN h.2 hn
variable {fx:Operand} {ts:Array TypeId}
theorem Az {f:FuncId} {args:Array Operand} {K:Act->World->Prop} (hf:aN P f) (Ky:a.eval fx=.func (.func f) #[] #[]) (h:Calls P f (args.map a.eval) w λe w'=>∃v,e=.returned v/\K (a.put (some d) v) w'):
  Does P ⟨some d,.call ⟨.value fx,args,ts⟩,ty,pos,aL,none⟩ a w K:=by
 have hr:(execOp a.eval ⟨some d,.call ⟨.value fx,args,ts⟩,ty,pos,aL,none⟩).run P w=.ok (.enter f (args.map a.eval)) w:=by
  have:=hf (args.map a.eval++#[]) w
  simp only[execOp,resolve,Ky,Deferred.ofValue,pure_bind,invoke]
  rw[Array.append_empty]at this
  first|exact this|simpa using this
 unfold Does
 rw[hr]
 exact h
variable {EC:Nat} {Ew:Bool} {g f2:Nat->Pred} {φ:Prop}
theorem BF {f:FuncId} (gO:φ->∀(M:Nat->Nat->Prop) w v1,cR M w->aM M (λw=>bK sz ag n g w v1) w->Calls P f #[v1] w (vS EC m Ew E f2 w)) (hφ:φ) (zV:∀i,aA (f2 i)) (hk:V[n0]?=some (dy id b (cap*sz) (H6 sz n ag g)):=by exact rfl) (hc:n<=cap/\cap<=maxLen:=by assumption) (hx:Has [0] G 0 fx (bp (.func (.func f) #[] #[])):=by exact hs) (h1:Has [0] G 0 x (bp (.slice (some ⟨b,0,none⟩) n cap)):=by exact hs)
  (hf:aN P f:=by exactλ_ _=>by kernel_rfl) (hd:decide (d<c.N)=true:=by kernel_rfl) (hV:(V.all λy=>(y.slot != d&&y.id != d)&&(y.born.isNone&&y.dead.isNone))=true:=by kernel_rfl) (hG:(G.all λe=>e.slot != d)=true:=by kernel_rfl):∀a w,Inv c V [] G none_ a w ->
  cO P ops ⟨some d,.call ⟨.value fx,#[x],ts⟩,ty,pos,aL,none⟩ a w (λa w=>∃b2 dY,Inv c (kX d EC m Ew E f2 (.slice (some ⟨b2,0,none⟩) m dY)::V) [] (⟨none,none,d,bp (.slice (some ⟨b2,0,none⟩) m dY)⟩::G) none_ a w):=by
 rintro a w ⟨β,hI⟩
 have ex:a.eval x=.slice (some ⟨b,0,none⟩) n cap:=(h1.spec hI mS).out
 have hrow:=BA hI hk hc
 rw[<-ex]at hrow
 refine .of rfl (Az hf (hx.spec hI mS).out (Calls.mono (by
  rw[show(#[x]:Array Operand).map a.eval=#[a.eval x] by simp]
  exact gO hφ _ w _ (mc (aZ hI)) hrow) ?_))
 rintro e w' ⟨b2,dY,rfl,hb,hrb,ho⟩
 have hblk:=je ho b2 rfl
 exact⟨_,rfl,b2,dY,hI.Ac (R:=λB w=>pC EC m Ew E f2 (.slice (some ⟨b2,0,none⟩) m dY) B w) hb hrb hblk.1 hblk.2 (λM hM w'' he=>ho.keep zV (λk o hk=>hM k o hk.1) he λk hk=>he.block k (je ho k hk).1 λo hh=>hh.2 hk) (of_decide_eq_true hd) hV hG⟩
variable {q q' p p1 q1:Pred}
theorem Ri {f:FuncId} (gO:φ->∀(M:Nat->Nat->Prop) (w:World) (v1:Value),cR M w->(∀o,¬M b o)->One b n q w->aM (jA M b) (λw=>p1 w v1) w->Calls P f #[v1] w (rM M b n p q' w))
  (hk:V[n0]?=some (dy id b n q):=by exact rfl) (h1:Has [0] G 0 x q1:=by exact hs) (c1:∀w v,q1 w v->p1 w v:=by exact mQ) (hφ:φ:=by first|omega|trivial) (hp:aA p:=by exact CI) (hq:aA q':=by exact CI) (hf:aN P f:=by exactλ_ _=>by kernel_rfl)
  (hV:bj V=true:=by kernel_rfl) (hG:bV G=true:=by kernel_rfl) (hu:dO V id n0=true:=by kernel_rfl) (hd':decide (d<c.N)=true:=by kernel_rfl) (IM:(V.all λx=>x.slot != d)=true:=by kernel_rfl) (Kr:(G.all λx=>x.slot != d)=true:=by kernel_rfl):
  ∀a w,Inv c V [] G none_ a w->cO P ops ⟨some d,.call ⟨.value (.func f),#[x],ts⟩,ty,pos,aL,none⟩ a w (Inv c (V.set n0 (dy id b n q')) [] (⟨none,none,d,p⟩::G) none_):=λa w hI=>
 tM hf hI hk hp hq (λβ h=>by
  have hx0:=List.mem_of_getElem? hk
  obtain⟨hβ,hone⟩:(∀k,β id k↔k=b)/\One b n q w:=((aK rfl).1 (h.var _ hx0 rfl)).2.out
  rw[show(#[x]:Array Operand).map a.eval=#[a.eval x] by simp]
  exact gO hφ _ w _ (mc (aZ h)) (λo ho=>ho.2 ((hβ b).2 rfl)) hone ((tj h hk (h1.spec h mS)).imp λw=>c1 w _)) hV hG hu hd' IM Kr
theorem TZ {p2 q2:Pred} {f:FuncId} (gO:φ->∀(M:Nat->Nat->Prop) (w:World) (v1 v2:Value),cR M w->(∀o,¬M b o)->One b n q w->aM (jA M b) (λw=>p1 w v1) w->aM (jA M b) (λw=>p2 w v2) w->Calls P f #[v1,v2] w (rM M b n p q' w))
  (hk:V[n0]?=some (dy id b n q):=by exact rfl) (h1:Has [0] G 0 x q1:=by exact hs) (c1:∀w v,q1 w v->p1 w v:=by exact mQ) (h2:Has [0] G 0 y q2:=by exact hs) (c2:∀w v,q2 w v->p2 w v:=by exact mQ) (hφ:φ:=by first|omega|trivial) (hp:aA p:=by exact CI) (hq:aA q':=by exact CI) (hf:aN P f:=by exactλ_ _=>by kernel_rfl)
  (hV:bj V=true:=by kernel_rfl) (hG:bV G=true:=by kernel_rfl) (hu:dO V id n0=true:=by kernel_rfl) (hd':decide (d<c.N)=true:=by kernel_rfl) (IM:(V.all λx=>x.slot != d)=true:=by kernel_rfl) (Kr:(G.all λx=>x.slot != d)=true:=by kernel_rfl):
  ∀a w,Inv c V [] G none_ a w->cO P ops ⟨some d,.call ⟨.value (.func f),#[x,y],ts⟩,ty,pos,aL,none⟩ a w (Inv c (V.set n0 (dy id b n q')) [] (⟨none,none,d,p⟩::G) none_):=λa w hI=>
 tM hf hI hk hp hq (λβ h=>by
  have hx0:=List.mem_of_getElem? hk
  obtain⟨hβ,hone⟩:(∀k,β id k↔k=b)/\One b n q w:=((aK rfl).1 (h.var _ hx0 rfl)).2.out
  rw[show(#[x,y]:Array Operand).map a.eval=#[a.eval x,a.eval y] by simp]
  exact gO hφ _ w _ _ (mc (aZ h)) (λo ho=>ho.2 ((hβ b).2 rfl)) hone ((tj h hk (h1.spec h mS)).imp λw=>c1 w _) ((tj h hk (h2.spec h mS)).imp λw=>c2 w _)) hV hG hu hd' IM Kr
theorem M7 {e:Ending} {w':World} (hM:cR M w) (hn:∀i,aA (f i)) (h:vS sz n ag E f w e w'):bD M (bK sz ag n f) w e w':=by
 obtain⟨b,cap,rfl,h1,h2,h3⟩:=h
 refine⟨_,rfl,λw'' he=>?_,h1⟩
 have hb:∀k,k=b->w''.heap[k]?=w'.heap[k]?:=λk hk=>by
  subst hk
  exact he.block k (je h3 k rfl).1 λo ho=>absurd (hM k o ho).1 (by omega)
 rcases h3.keep hn (hM.below h1) he hb with⟨e,_⟩|⟨bb,cap',cur,e,_,d3,d4,d5,d6,_,d8⟩
 ·injection e with e; cases e
 ·rw[e]
  refine⟨_,cap',rfl,d5,d6,λ_=>⟨bb,0,rfl,λq hq=>⟨(cur.drop (q*sz)).take sz,?_,λj v hj=>?_,d8 q hq⟩⟩⟩
  ·have:=Nat.mul_le_mul_right sz (Nat.lt_of_lt_of_le hq d5)
   rw[Nat.succ_mul]at this
   rw[List.length_take,List.length_drop]
   omega
  ·rw[Nat.zero_add]
   exact iq d3 _ _ j v hj
theorem T2 {ms:List Nat} {A:List Al} {i:Nat} {f:FuncId} {v:Vr} (gO:φ->∀(M:Nat->Nat->Prop) (w:World) (v1:Value),cR M w->aM M (λw=>bK sz ag n g w v1) w->Calls P f #[v1] w (vS EC m Ew E f2 w)) (N:Nat) (hφ:φ) (zV:∀i,aA (f2 i)) (hv:lO N V=some v:=by exact rfl) (ho:bA ms i v=true:=by exact rfl) (bS:v.kd=.obj:=by exact rfl) (hst:(v.st.all λq=>(q.1==i||(ms.getD i 0).testBit q.1)||(ms.getD q.1 0).testBit i)=true:=by kernel_rfl)
  (hc:cont (λj=>(ms.getD i 0).testBit j) v.c0 v.st=tr b (cap*sz) (H6 sz n ag g):=by exact rfl) (hcap:n<=cap/\cap<=maxLen:=by assumption) (hx:Has ms G i fx (bp (.func (.func f) #[] #[])):=by exact hs) (h1:Has ms G i x (bp (.slice (some ⟨b,0,none⟩) n cap)):=by exact hs) (hp:Post G i (bK EC Ew m f2):=by exact pt rfl) (hf:aN P f:=by exactλ_ _=>by kernel_rfl):OpOk P ops ms c V A G i ⟨some d,.call ⟨.value fx,#[x],ts⟩,ty,pos,aL,none⟩:=by
 obtain⟨⟨j,hj⟩,_⟩:=dX hv
 refine ze hf hx hp λL β a w hI hd=>?_
 have hH:=(Be hI hd (List.mem_of_getElem? hj) ho bS).2
 rw[rW hd hst,hc]at hH
 have ex:a.eval x=.slice (some ⟨b,0,none⟩) n cap:=(h1.spec hI hd).out
 rw[show(#[x]:Array Operand).map a.eval=#[a.eval x] by simp,ex]
 exact(gO hφ _ w _ (mc (aZ hI)) (hH.imp λw' h=>CN h.2 hcap)).mono λ_ _ r=>M7 (aZ hI) zV r
theorem lJ {d:Nat} (IQ:e<c.N) (fV:∀x,x∈V->x.slot≠e) (fG:∀x,x∈G->x.slot≠e) {a:Act} {w:World} (h:Inv c V [] (⟨none,none,d,bp v⟩::G) none_ a w):cO P ops ⟨some e,.assign (.tmp d),ty2,pos2,aft2,none⟩ a w (Inv c V [] (⟨none,none,e,bp v⟩::G) none_):=by
 obtain⟨β,hI⟩:=h
 have hv:a.eval (.tmp d)=v:=(hI.gY ⟨none,none,d,bp v⟩ (List.mem_cons_self ..) rfl rfl).out
 have yz:=hI.sR (G':=G) λe he=>List.mem_cons_of_mem _ he
 refine .of rfl ?_
 unfold Does
 have hr:(execOp a.eval ⟨some e,.assign (.tmp d),ty2,pos2,aft2,none⟩).run P w=.ok (.value v) w:=by rw[<-hv]; rfl
 rw[hr]
 exact⟨β,yz.nu IQ fV fG λ_ _=>rfl⟩
theorem Oh {f:FuncId} (gO:φ->∀(M:Nat->Nat->Prop) (w:World) (v1:Value),cR M w->(∀o,¬M b o)->One b n q w->aM (jA M b) (λw=>p1 w v1) w->Calls P f #[v1] w (rM M b n (bp v) q' w)) (hφ:φ) (hq:aA q')
  (hk:V[n0]?=some (dy id b n q):=by exact rfl) (h1:Has [0] G 0 x q1:=by exact hs) (c1:∀w v,q1 w v->p1 w v:=by exact mQ) (hf:aN P f:=by exactλ_ _=>by kernel_rfl)
  (hV:bj V=true:=by kernel_rfl) (hG:bV G=true:=by kernel_rfl) (hu:dO V id n0=true:=by kernel_rfl) (hd':decide (d<c.N)=true:=by kernel_rfl) (IM:(V.all λx=>x.slot != d)=true:=by kernel_rfl) (Kr:(G.all λx=>x.slot != d)=true:=by kernel_rfl) (he':decide (e<c.N)=true:=by kernel_rfl) (IP:(V.all λx=>x.slot != e)=true:=by kernel_rfl) (Ks:(G.all λx=>x.slot != e)=true:=by kernel_rfl):
  fL P ops (Inv c V [] G none_) [⟨some d,.call ⟨.value (.func f),#[x],ts⟩,ty,pos,aL,none⟩,⟨some e,.assign (.tmp d),ty2,pos2,aft2,none⟩] (Inv c (V.set n0 (dy id b n q')) [] (⟨none,none,e,bp v⟩::G) none_):=by
 refine⟨_,Ri gO hk h1 c1 hφ (bO v) hq hf hV hG hu hd' IM Kr,_,λa w h=>lJ (of_decide_eq_true he') (λx hx=>?_) (λx hx=>?_) h,rfl⟩
 ·rw[List.all_eq_true]at IP
  rcases List.mem_or_eq_of_mem_set hx with hx|rfl
  ·simpa using IP x hx
  ·simpa using IP _ (List.mem_of_getElem? hk)
 ·rw[List.all_eq_true]at Ks
  simpa using Ks x hx
theorem T3 {f:FuncId} (gO:φ->∀(M:Nat->Nat->Prop) w v1,cR M w->aM M (λw=>bK sz ag n g w v1) w->Calls P f #[v1] w (vS EC m Ew E f2 w)) (hφ:φ) (zV:∀i,aA (f2 i)) (hk:V[n0]?=some (dy id b (cap*sz) (H6 sz n ag g)):=by exact rfl) (hc:n<=cap/\cap<=maxLen:=by assumption) (hx:Has [0] G 0 fx (bp (.func (.func f) #[] #[])):=by exact hs) (h1:Has [0] G 0 x (bp (.slice (some ⟨b,0,none⟩) n cap)):=by exact hs)
  (hf:aN P f:=by exactλ_ _=>by kernel_rfl) (hd:decide (d<c.N)=true:=by kernel_rfl) (hV:(V.all λy=>(y.slot != d&&y.id != d)&&(y.born.isNone&&y.dead.isNone))=true:=by kernel_rfl) (hG:(G.all λe=>e.slot != d)=true:=by kernel_rfl) (he':decide (e<c.N/\d≠e)=true:=by kernel_rfl) (IP:(V.all λx=>x.slot != e)=true:=by kernel_rfl) (Ks:(G.all λx=>x.slot != e)=true:=by kernel_rfl):
  fL P ops (Inv c V [] G none_) [⟨some d,.call ⟨.value fx,#[x],ts⟩,ty,pos,aL,none⟩,⟨some e,.assign (.tmp d),ty2,pos2,aft2,none⟩] (λa w=>∃b2 dY,(m<=dY/\dY<=maxLen)/\Inv c (kX d EC m Ew E f2 (.slice (some ⟨b2,0,none⟩) m dY)::V) [] (⟨none,none,e,bp (.slice (some ⟨b2,0,none⟩) m dY)⟩::G) none_ a w):=by
 have he:=of_decide_eq_true he'
 rw[List.all_eq_true]at IP Ks
 refine⟨_,BF gO hφ zV hk hc hx h1 hf hd hV hG,_,?_,rfl⟩
 rintro a w ⟨b2,dY,hI⟩
 have hbd:m<=dY/\dY<=maxLen:=by
  obtain⟨β,h⟩:=hI
  exact pC.bound (((aK rfl).1 (h.var _ (List.mem_cons_self ..) rfl)).2.out)
 have h:=lJ (P:=P) (ops:=ops) (ty2:=ty2) (pos2:=pos2) (aft2:=aft2) he.1 (λx hx=>by
  rcases List.mem_cons.1 hx with rfl|hx
  ·exact he.2
  ·simpa using IP x hx) (λx hx=>by simpa using Ks x hx) hI
 exact h.mono λ_ _ h=>⟨b2,dY,hbd,h⟩
theorem E5 {d:Nat} {tx:TypeId} {s:Value} {x y:Operand} {ty:TypeId} {pos:String} {aL:Array Edge} (f':Nat->Pred) (hf':∀i w v,(if i<m then f i else g (i-m)) w v->i<m+n->f' i w v) (AJ:0<n) (hk:V[n0]?=some (kX id sz m ag E f s):=by exact rfl) (h1:Has [0] G 0 x (bp s):=by exact hs) (h2:Has [0] G 0 y (bK sz ag n g):=by exact hs) (hmax:m+n<=1073741824:=by omega)
  (hnf:∀i,aA (f i):=by intro i; exact CI) (hng:∀i,aA (g i):=by intro i; exact CI) (hfit:∀i,Fits sz ag (g i):=by intro i; exact uk) (hagg:ag=false->sz=1:=by intro h; first|cases h|rfl) (ht:De P T tx E sz=true:=by kernel_rfl) (hV:bj V=true:=by kernel_rfl) (hG:bV G=true:=by kernel_rfl) (hu:dO V id n0=true:=by kernel_rfl) (hfr:qp V G d e c.N=true:=by kernel_rfl):
  fL P ops (Inv c V [] G none_) [⟨some d,.call ⟨.builtin .append,#[x,y],#[T,tx]⟩,ty,pos,aL,none⟩,⟨some e,.assign (.tmp d),ty2,pos2,aft2,none⟩] (λa w=>∃s',Inv c (V.set n0 (kX id sz (m+n) ag E f' s')) [] (⟨none,none,e,bp s'⟩::G) none_ a w):=by
 unfold qp at hfr
 simp only[Bool.and_eq_true,List.all_eq_true,decide_eq_true_eq,bne_iff_ne]at hfr
 obtain⟨fV,fG,Kv,IQ,Qy⟩:=hfr
 refine⟨λa w=>∃s',Inv c (V.set n0 (kX id sz (m+n) ag E f' s')) [] (⟨none,none,d,bp s'⟩::G) none_ a w,?_,_,?_,rfl⟩
 ·rintro a w ⟨β,hI⟩
  have hx0:=List.mem_of_getElem? hk
  have hO:=(aK rfl).1 (hI.var _ hx0 rfl)
  have hB:aM (minus (own c V none_ β) (β id)) (λw=>pC sz m ag E f s (β id) w) w:=hO.2
  have L8:∀k,β id k->∀o,own c V none_ β k o:=λk hk o=>.inr ⟨_,hx0,rfl,hk,Nat.zero_le _⟩
  obtain⟨w',X',s',hr,hle,OX,hgr⟩:=sE (ty:=ty) (yv:=a.eval y) (aZ hI) L8 hB.out (h2.spec hI mS) (nI ht) hagg hfit hnf hng AJ hmax
  have ex:a.eval x=s:=(h1.spec hI mS).out
  rw[<-ex]at hr
  have hn':∀i,aA (if i<m then f i else g (i-m)):=λi=>by by_cases h:i<m<;>simp only[h,if_true,if_false]; exact hnf i; exact hng _
  refine .of rfl (eH hr ⟨s',jh β id X',?_⟩)
  have hm:=hI.move (B':=X') (R':=JC sz (m+n) ag E f' s') (w':=w') hV hG hk (eC hu) hle OX (je hgr) ?_
  ·refine hm.nu Kv (λx hx=>?_) (λe he=>(fG e he).1) λ_ _=>rfl
   rcases List.mem_or_eq_of_mem_set hx with hx|rfl
   ·exact(fV x hx).1
   ·exact(fV _ hx0).1
  ·intro w'' he
   have kE:cR (minus (own c V none_ β) (β id)) w':=λk o hk=>by
    obtain⟨k1,k2⟩:=aZ hI k o hk.1
    exact⟨Nat.lt_of_lt_of_le k1 hle.size,λu gh=>k2 u (by rw[<-World.cell?_of_block (w:=w) (w':=w') (a:=⟨k,o,none⟩) (hle.block k k1 hk.2)]; exact gh)⟩
   have hb:∀k,X' k->w''.heap[k]?=w'.heap[k]?:=λk hk=>he.block k (je hgr k hk).1 λo ho=>(OX k hk).elim ho.2 λh=>absurd (aZ hI k o ho.1).1 (Nat.not_lt.2 h)
   refine(hgr.keep hn' kE he hb).imp (λh=>h) ?_
   rintro⟨bb,cap,cur,j1,j2,j3,j4,j5,j6,j7,j8⟩
   exact⟨bb,cap,cur,j1,j2,j3,j4,j5,j6,j7,λi hi=>hf' i _ _ (j8 i hi) hi⟩
 ·rintro a w ⟨s',β,hI⟩
  have hv:a.eval (.tmp d)=s':=(hI.gY ⟨none,none,d,bp s'⟩ (List.mem_cons_self ..) rfl rfl).out
  have yz:=hI.sR (G':=G) λe he=>List.mem_cons_of_mem _ he
  have hx0:=List.mem_of_getElem? hk
  refine .of rfl ?_
  unfold Does
  have hr:(execOp a.eval ⟨some e,.assign (.tmp d),ty2,pos2,aft2,none⟩).run P w=.ok (.value s') w:=by rw[<-hv]; rfl
  rw[hr]
  refine⟨s',β,yz.nu IQ (λx hx=>?_) (λe he=>(fG e he).2) λ_ _=>rfl⟩
  rcases List.mem_or_eq_of_mem_set hx with hx|rfl
  ·exact(fV x hx).2
  ·exact(fV _ hx0).2
end
end Wx
