import Derived.Test.YtocboimkilkklaaGreatJRF32
import Derived.Shelf.GgSortFunc.InsertionK
namespace Wx
open Go Go.RowKit
set_option linter.unusedVariables false
def S9 (X:Option Addr) (q sz:Nat):Pred:=λ_ v=>∃b o:Nat,X=some ⟨b,o,none⟩/\v=.pointer (some ⟨b,o+q*sz,none⟩)
section
variable {P:Program} {ops:Array Oper} {ms:List Nat} {c:eL} {V:List Vr} {A:List Al} {G:List bI} {i d:Nat} {x y:Operand} {ty:TypeId} {pos:String} {aZ:Array Edge}{sz m:Nat} {ag:Bool} {E:TypeId} {f:Nat->Pred} {v:Vr}
theorem Iq {L:Nat->Bool} {β:Nat->Nat->Prop} {a:Act} {w:World} {s:Value} (hI:bO c V A G L β a w) (hd:oB ms i L) (hv:v∈V) (ho:cG ms i v=true) (dI:v.kd=.obj) (hst:(v.st.all λq=>(q.1==i||(ms.getD i 0).testBit q.1)||(ms.getD q.1 0).testBit i)=true)
  (hc:cont (λj=>(ms.getD i 0).testBit j) v.c0 v.st=L8 sz m ag E f s):qR sz m ag E f s (β v.id) w:=by
 have hH:=(CN hI hd hv ho dI).2.out
 rw[tN hd hst,hc]at hH
 exact hH
variable {T:TypeId} {X:Option Addr} {cap:Nat}
theorem VI {k:Int} (N q:Nat) (hv:om N V=some v:=by exact rfl) (ho:cG ms i v=true:=by exact rfl) (dI:v.kd=.obj:=by exact rfl) (hst:(v.st.all λq=>(q.1==i||(ms.getD i 0).testBit q.1)||(ms.getD q.1 0).testBit i)=true:=by kernel_rfl)
  (hc:cont (λj=>(ms.getD i 0).testBit j) v.c0 v.st=L8 sz m ag E f (.slice X m cap):=by exact rfl) (h:Has ms G i x (cI (.slice X m cap)):=by exact hs) (hy:Has ms G i y (pI k):=by exact hs) (hk:k=(q:Int):=by omega) (hq:q<m:=by omega) (hp:Post G i (S9 X q sz):=by exact pt rfl) (ht:PM P T sz=true:=by kernel_rfl) (hA:(A.all λq=>q.tag != some i)=true:=by kernel_rfl):OpOk P ops ms c V A G i ⟨some d,.indexAddr T x y,ty,pos,aZ,none⟩:=by
 obtain⟨E',hE⟩:=zn ht
 obtain⟨⟨j,hj⟩,_⟩:=gw hv
 exact dW rfl rfl rfl (.inr hA) hp λL β a w hI hd=>by
  have hx:a.eval x=.slice X m cap:=(h.spec hI hd).out
  have hi:a.eval y=.int .i64 k:=(hy.spec hI hd).out
  rcases Iq hI hd (List.mem_of_getElem? hj) ho dI hst hc with⟨_,e,_⟩|⟨bb,cap',cur,e,_⟩
  ·omega
  ·injection e with e1 e2 e3
   refine⟨_,w,?_,Below.refl _ _,λ_ _=>⟨bb,0,e1,rfl⟩⟩
   show(do pure (Next.value (<-Instr.indexAt T (a.eval x) (a.eval y)))).run P w=_
   rw[hx,hi,e1,hk,Sem.run_bind,nr hE (by omega) (by omega)]
   rw[Int.toNat_natCast]
   rfl
variable {φ:Prop}
theorem MU (hφ:φ) {T E:TypeId} {X:Option Addr} {sz m cap:Nat} {ag:Bool} {f:Nat->Pred} {v:Vr} {k:Int} (N q:Nat) (hv:om N V=some v:=by exact rfl) (ho:cG ms i v=true:=by exact rfl) (dI:v.kd=.obj:=by exact rfl) (hst:(v.st.all λq=>(q.1==i||(ms.getD i 0).testBit q.1)||(ms.getD q.1 0).testBit i)=true:=by kernel_rfl)
  (hc:cont (λj=>(ms.getD i 0).testBit j) v.c0 v.st=L8 sz m ag E f (.slice X m cap):=by exact rfl) (h:Has ms G i x (cI (.slice X m cap)):=by exact hg) (hy:Has ms G i y (pI k):=by exact hg) (hk:k=(q:Int):=by omega) (hq:q<m:=by omega) (hp:Post G i (S9 X q sz):=by exact pg (by assumption) rfl) (ht:PM P T sz=true:=by kernel_rfl) (hA:(A.all λq=>q.tag != some i)=true:=by kernel_rfl):OpOk P ops ms c V A G i ⟨some d,.indexAddr T x y,ty,pos,aZ,none⟩:=
 (λ_:φ=>VI N q hv ho dI hst hc h hy hk hq hp ht hA) hφ
theorem VL {q:Nat} (N:Nat) (hv:om N V=some v:=by exact rfl) (ho:cG ms i v=true:=by exact rfl) (dI:v.kd=.obj:=by exact rfl) (hst:(v.st.all λq=>(q.1==i||(ms.getD i 0).testBit q.1)||(ms.getD q.1 0).testBit i)=true:=by kernel_rfl)
  (hc:cont (λj=>(ms.getD i 0).testBit j) v.c0 v.st=L8 sz m ag E f (.slice X m cap):=by exact rfl) (h:Has ms G i y (S9 X q sz):=by exact hs) (hq:q<m:=by omega) (hp:Post G i (f q):=by exact pt rfl) (hn:aB (f q):=by exact Eb) (ht:KI P T ag sz=true:=by kernel_rfl):OpOk P ops ms c V A G i ⟨some d,.load T y,ty,pos,aZ,none⟩:=by
 obtain⟨⟨j,hj⟩,_⟩:=gw hv
 exact dW rfl rfl rfl (.inl rfl) hp λL β a w hI hd=>by
  obtain⟨b,o,e0,hy⟩:=(h.spec hI hd).out
  have hy:a.eval y=.pointer (some ⟨b,o+q*sz,none⟩):=hy
  rcases Iq hI hd (List.mem_of_getElem? hj) ho dI hst hc with⟨_,e,_⟩|⟨bb,cap',cur,e,_,k3,k4,k5,k6,k7,k8⟩
  ·omega
  ·injection e with e1 e2 e3
   rw[e0]at e1
   injection e1 with e1
   injection e1 with eb eo _
   subst eb eo
   have hle:=Nat.mul_le_mul_right sz (Nat.lt_of_lt_of_le hq k5)
   rw[Nat.succ_mul]at hle
   refine⟨aA ag ((cur.drop (q*sz)).take sz),w,?_,Below.refl _ _,hn _ w _ (bX hI) (k8 q hq)⟩
   show(do pure (Next.value (<-Instr.loadAt T (a.eval y)))).run P w=_
   rw[hy,Nat.zero_add,Sem.run_bind,gJ (cs:=(cur.drop (q*sz)).take sz) (dX ht) (jk k3 (q*sz) sz) (by rw[List.length_take,List.length_drop]; omega)]
   rfl
theorem MV (hφ:φ) {T E:TypeId} {X:Option Addr} {sz m q cap:Nat} {ag:Bool} {f:Nat->Pred} {v:Vr} (N:Nat) (hv:om N V=some v:=by exact rfl) (ho:cG ms i v=true:=by exact rfl) (dI:v.kd=.obj:=by exact rfl) (hst:(v.st.all λq=>(q.1==i||(ms.getD i 0).testBit q.1)||(ms.getD q.1 0).testBit i)=true:=by kernel_rfl)
  (hc:cont (λj=>(ms.getD i 0).testBit j) v.c0 v.st=L8 sz m ag E f (.slice X m cap):=by exact rfl) (h:Has ms G i y (S9 X q sz):=by exact hg) (hq:q<m:=by omega) (hp:Post G i (f q):=by exact pg (by assumption) rfl) (hn:aB (f q):=by exact Eb) (ht:KI P T ag sz=true:=by kernel_rfl):OpOk P ops ms c V A G i ⟨some d,.load T y,ty,pos,aZ,none⟩:=
 (λ_:φ=>VL N hv ho dI hst hc h hq hp hn ht) hφ
end
section
variable {P:Program} {c:eL} {V:List Vr} {G:List bI} {a:Act} {w:World} {β:Nat->Nat->Prop} {x y z:Operand} {d:Nat} {ty:TypeId} {pos:String} {aZ:Array Edge}{sz m cap:Nat} {ag:Bool} {E:TypeId} {f:Nat->Pred} {X:Option Addr} {B:Nat->Prop}
theorem qR.cut {m':Nat} (h:qR sz m ag E f (.slice X m cap) B w) (hm:m'<=m):qR sz m' ag E f (.slice X m' cap) B w:=by
 rcases h with⟨e,e2,hX⟩|⟨bb,cap',cur,e,k2,k3,k4,k5,k6,k7,k8⟩
 ·injection e with e1 _ e3
  obtain rfl:m'=0:=by omega
  rw[e1,e3]
  exact .inl ⟨rfl,rfl,hX⟩
 ·injection e with e1 _ e3
  rw[e1,e3]
  exact .inr ⟨bb,cap',cur,rfl,k2,k3,k4,Nat.le_trans hm k5,k6,k7,λi hi=>k8 i (Nat.lt_of_lt_of_le hi hm)⟩
theorem qR.bound (h:qR sz m ag E f (.slice X m cap) B w):m<=cap/\cap<=maxLen:=by
 rcases h with⟨e,e2,hX⟩|⟨bb,cap',cur,e,k2,k3,k4,k5,k6,k7,k8⟩
 ·injection e with _ _ e3
  rw[e2,e3]
  exact⟨Nat.le_refl _,Nat.zero_le _⟩
 ·injection e with _ _ e3
  rw[e3]
  exact⟨k5,k6⟩
variable {ops:Array Oper} {id n0 e:Nat} {T ty2:TypeId} {pos2:String} {aft2:Array Edge}
theorem MH {d:Nat} {k:Int} {x y:Operand} {ty:TypeId} {pos:String} {aZ:Array Edge} (m':Nat) (hk:V[n0]?=some (mQ id sz m ag E f (.slice X m cap)):=by exact rfl) (h1:Has [0] G 0 x (cI (.slice X m cap)):=by exact hs) (h2:Has [0] G 0 y (pI k):=by exact hs) (hkm:k=(m':Int):=by omega) (hm:m'<=m:=by omega)
  (hnf:∀i,aB (f i):=by intro i; exact Eb) (ht:PM P T sz=true:=by kernel_rfl) (hV:dw V=true:=by kernel_rfl) (hG:eI G=true:=by kernel_rfl) (hu:iG V id n0=true:=by kernel_rfl) (hfr:rQ V G d e c.N=true:=by kernel_rfl):
  gU P ops (Inv c V [] G none_) [⟨some d,.slice T x none (some y) none,ty,pos,aZ,none⟩,⟨some e,.assign (.tmp d),ty2,pos2,aft2,none⟩] (Inv c (V.set n0 (mQ id sz m' ag E f (.slice X m' cap))) [] (⟨none,none,e,cI (.slice X m' cap)⟩::G) none_):=by
 unfold rQ at hfr
 simp only[Bool.and_eq_true,List.all_eq_true,decide_eq_true_eq,bne_iff_ne]at hfr
 obtain⟨fV,fG,Iy,Lm,GM⟩:=hfr
 obtain⟨E',hE⟩:=zn ht
 refine⟨Inv c (V.set n0 (mQ id sz m' ag E f (.slice X m' cap))) [] (⟨none,none,d,cI (.slice X m' cap)⟩::G) none_,?_,_,?_,rfl⟩
 ·rintro a w ⟨β,hI⟩
  have hx0:=List.mem_of_getElem? hk
  have hO:=(bh rfl).1 (hI.var _ hx0 rfl)
  have hB:aL (minus (own c V none_ β) (β id)) (λw=>qR sz m ag E f (.slice X m cap) (β id) w) w:=hO.2
  have ex:a.eval x=.slice X m cap:=(h1.spec hI pP).out
  have ey:a.eval y=.int .i64 m':=by
   have e:=(h2.spec hI pP).out
   rw[hkm]at e
   exact e
  have hbd:=hB.out.bound
  refine .of rfl ?_
  unfold Does
  have hr:(execOp a.eval ⟨some d,.slice T x none (some y) none,ty,pos,aZ,none⟩).run P w=.ok (.value (.slice X m' cap)) w:=by
   show(do pure (Next.value (<-Instr.sliceAt T (a.eval x) none (some (a.eval y)) none))).run P w=_
   rw[ex,ey]
   have hr:(Instr.sliceAt T (.slice X m cap) none (some (.int .i64 m')) none).run P w=.ok (.slice X m' cap) w:=by
    have e1:(Instr.sliceBound (.int .i64 m') cap .sliceAcap).run P w=.ok m' w:=by
     have:=run_sliceBound (P:=P) w .i64 (m':Int) cap .sliceAcap (by omega) (by omega)
     simpa using this
    have e3:X.map (λq=>q.add 0)=X:=by
     cases X with
     |none=>rfl
     |some q=>rfl
    simp only[Instr.sliceAt,Sem.run_bind,run_underlying hE.under,Result.andThen_ok,Instr.slice,Instr.sliceBounds,Sem.run_pure]
    simp only[e1,Result.andThen_ok,hE.size w,Nat.zero_mul,Nat.sub_zero,e3,ite_self,if_true]
   rw[Sem.run_bind,hr]
   rfl
  rw[hr]
  have hg:=hB.out.cut hm
  refine⟨lu β id (β id),?_⟩
  have Y5:=hI.move (B':=β id) (R':=L8 sz m' ag E f (.slice X m' cap)) (w':=w) hV hG hk (jC hu) (er.refl _ _) (λk hk=>.inl hk) (kz hg) (hB.imp λw h=>h.cut hm)
  refine Y5.rD Iy (λx hx=>?_) (λe he=>(fG e he).1) λ_ _=>rfl
  rcases List.mem_or_eq_of_mem_set hx with hx|rfl
  ·exact(fV x hx).1
  ·exact(fV _ hx0).1
 ·rintro a w ⟨β,hI⟩
  have hv:a.eval (.tmp d)=.slice X m' cap:=(hI.kH ⟨none,none,d,cI _⟩ (List.mem_cons_self ..) rfl rfl).out
  have DX:=hI.xu (G':=G) λe he=>List.mem_cons_of_mem _ he
  have hx0:=List.mem_of_getElem? hk
  refine .of rfl ?_
  unfold Does
  have hr:(execOp a.eval ⟨some e,.assign (.tmp d),ty2,pos2,aft2,none⟩).run P w=.ok (.value (.slice X m' cap)) w:=by rw[<-hv]; rfl
  rw[hr]
  refine⟨β,DX.rD Lm (λx hx=>?_) (λe he=>(fG e he).2) λ_ _=>rfl⟩
  rcases List.mem_or_eq_of_mem_set hx with hx|rfl
  ·exact(fV x hx).2
  ·exact(fV _ hx0).2
def xZ (sz n:Nat) (ag:Bool) (E:TypeId) (f:Nat->Pred) (w:World) (e:Ending) (w':World):Prop:=∃b cap,e=.returned (.slice (some ⟨b,0,none⟩) n cap)/\Below w.heap.size w w'/\w.heap.size<=b/\qR sz n ag E f (.slice (some ⟨b,0,none⟩) n cap) (·=b) w'
variable {n:Nat} {M:Nat->Nat->Prop} {v:Value}
theorem TV {fn:Func} {s:Nat} {w0:World} {N:Nat} (hI:Inv ⟨N,w0,M,λ_=>False⟩ V [] G none_ a w) (hr:fn.results=#[.tmp s]) (hk:V[n0]?=some (mQ id sz n ag E f v)) (hn:0<n) (h1:iW s G=some (cI v):=by exact rfl):bodyPost P fn (xZ sz n ag E f w0) .ret a w:=by
 obtain⟨β,hI⟩:=hI
 have hx:=List.mem_of_getElem? hk
 have hO:=(bh rfl).1 (hI.var _ hx rfl)
 have hB:qR sz n ag E f v (β id) w:=hO.2.out
 obtain⟨k1,jE⟩:=gj h1
 have es:sl a s=v:=(hI.kH _ (List.mem_of_getElem? jE) rfl rfl).out
 rcases hB with⟨_,e,_⟩|⟨bb,cap,cur,e,k2,k3,k4,k5,k6,k7,k8⟩
 ·omega
 ·have hb:=(hO.1 bb ((k2 bb).2 rfl)).1
  have hb2:w0.heap.size<=bb:=hb.elim (λh=>h) λh=>h.elim
  refine lH hI (v:=sl a s) ?_ ⟨bb,cap,by rw[es,e],hI.below.below (λ_ h=>h),hb2,.inr ⟨bb,cap,cur,rfl,λ_=>Iff.rfl,k3,k4,k5,k6,k7,k8⟩⟩
  rw[fQ,hr]
  simp[rE,sl]
variable {b:Nat}
theorem Ep {w:World} (h:One b (cap*sz) (KH sz n ag f) w) (hn:n<=cap/\cap<=maxLen):dK sz ag n f w (.slice (some ⟨b,0,none⟩) n cap):=by
 obtain⟨cs,T,h1,h2,h3,ds,e,h4⟩:=h
 have e':cs=ds:=by
  have h:(Value.agg cs.toArray)=.agg ds.toArray:=e
  injection h with h
  exact congrArg Array.toList h
 subst e'
 refine⟨_,cap,rfl,hn.1,hn.2,λ_=>⟨b,0,rfl,λq hq=>⟨(cs.drop (q*sz)).take sz,?_,λj v hj=>?_,h4 q hq⟩⟩⟩
 ·have:=Nat.mul_le_mul_right sz (Nat.lt_of_lt_of_le hq hn.1)
  rw[Nat.succ_mul]at this
  rw[List.length_take,List.length_drop]
  omega
 ·rw[Nat.zero_add]
  exact jk h1 _ _ j v hj
theorem C5 (h:bO c V [] G none_ β a w) (hk:V[n0]?=some (gm id b (cap*sz) (KH sz n ag f))) (hn:n<=cap/\cap<=maxLen):aL (minus (own c V none_ β) (β id)) (λw=>dK sz ag n f w (.slice (some ⟨b,0,none⟩) n cap)) w:=by
 have hO:=((bh rfl).1 (h.var _ (List.mem_of_getElem? hk) rfl)).2
 exact hO.imp λw' h=>Ep h.2 hn
variable {fx:Operand} {ts:Array TypeId}
theorem Ck {f:FuncId} {args:Array Operand} {K:Act->World->Prop} (hf:aM P f) (M6:a.eval fx=.func (.func f) #[] #[]) (h:Calls P f (args.map a.eval) w λe w'=>∃v,e=.returned v/\K (a.put (some d) v) w'):
  Does P ⟨some d,.call ⟨.value fx,args,ts⟩,ty,pos,aZ,none⟩ a w K:=by
 have hr:(execOp a.eval ⟨some d,.call ⟨.value fx,args,ts⟩,ty,pos,aZ,none⟩).run P w=.ok (.enter f (args.map a.eval)) w:=by
  have:=hf (args.map a.eval++#[]) w
  simp only[execOp,resolve,M6,Deferred.ofValue,pure_bind,invoke]
  rw[Array.append_empty]at this
  first|exact this|simpa using this
 unfold Does
 rw[hr]
 exact h
variable {GU:Nat} {GJ:Bool} {g f2:Nat->Pred} {φ:Prop}
theorem Da {f:FuncId} (jl:φ->∀(M:Nat->Nat->Prop) w v1,dc M w->aL M (λw=>dK sz ag n g w v1) w->Calls P f #[v1] w (xZ GU m GJ E f2 w)) (hφ:φ) (IE:∀i,aB (f2 i)) (hk:V[n0]?=some (gm id b (cap*sz) (KH sz n ag g)):=by exact rfl) (hc:n<=cap/\cap<=maxLen:=by assumption) (hx:Has [0] G 0 fx (cI (.func (.func f) #[] #[])):=by exact hs) (h1:Has [0] G 0 x (cI (.slice (some ⟨b,0,none⟩) n cap)):=by exact hs)
  (hf:aM P f:=by exactλ_ _=>by kernel_rfl) (hd:decide (d<c.N)=true:=by kernel_rfl) (hV:(V.all λy=>(y.slot != d&&y.id != d)&&(y.born.isNone&&y.dead.isNone))=true:=by kernel_rfl) (hG:(G.all λe=>e.slot != d)=true:=by kernel_rfl):∀a w,Inv c V [] G none_ a w ->
  eC P ops ⟨some d,.call ⟨.value fx,#[x],ts⟩,ty,pos,aZ,none⟩ a w (λa w=>∃b2 gh,Inv c (mQ d GU m GJ E f2 (.slice (some ⟨b2,0,none⟩) m gh)::V) [] (⟨none,none,d,cI (.slice (some ⟨b2,0,none⟩) m gh)⟩::G) none_ a w):=by
 rintro a w ⟨β,hI⟩
 have ex:a.eval x=.slice (some ⟨b,0,none⟩) n cap:=(h1.spec hI pP).out
 have hrow:=C5 hI hk hc
 rw[<-ex]at hrow
 refine .of rfl (Ck hf (hx.spec hI pP).out (Calls.mono (by
  rw[show(#[x]:Array Operand).map a.eval=#[a.eval x] by simp]
  exact jl hφ _ w _ (nT (bX hI)) hrow) ?_))
 rintro e w' ⟨b2,gh,rfl,hb,hrb,ho⟩
 have hblk:=kz ho b2 rfl
 exact⟨_,rfl,b2,gh,hI.BZ (R:=λB w=>qR GU m GJ E f2 (.slice (some ⟨b2,0,none⟩) m gh) B w) hb hrb hblk.1 hblk.2 (λM hM w'' he=>ho.keep IE (λk o hk=>hM k o hk.1) he λk hk=>he.block k (kz ho k hk).1 λo hh=>hh.2 hk) (of_decide_eq_true hd) hV hG⟩
variable {q q' p p1 q1:Pred}
theorem Ww {f:FuncId} (jl:φ->∀(M:Nat->Nat->Prop) (w:World) (v1:Value),dc M w->(∀o,¬M b o)->One b n q w->aL (mm M b) (λw=>p1 w v1) w->Calls P f #[v1] w (ya M b n p q' w))
  (hk:V[n0]?=some (gm id b n q):=by exact rfl) (h1:Has [0] G 0 x q1:=by exact hs) (c1:∀w v,q1 w v->p1 w v:=by exact qW) (hφ:φ:=by first|omega|trivial) (hp:aB p:=by exact Eb) (hq:aB q':=by exact Eb) (hf:aM P f:=by exactλ_ _=>by kernel_rfl)
  (hV:dw V=true:=by kernel_rfl) (hG:eI G=true:=by kernel_rfl) (hu:iG V id n0=true:=by kernel_rfl) (hd':decide (d<c.N)=true:=by kernel_rfl) (Lk:(V.all λx=>x.slot != d)=true:=by kernel_rfl) (MX:(G.all λx=>x.slot != d)=true:=by kernel_rfl):
  ∀a w,Inv c V [] G none_ a w->eC P ops ⟨some d,.call ⟨.value (.func f),#[x],ts⟩,ty,pos,aZ,none⟩ a w (Inv c (V.set n0 (gm id b n q')) [] (⟨none,none,d,p⟩::G) none_):=λa w hI=>
 vH hf hI hk hp hq (λβ h=>by
  have hx0:=List.mem_of_getElem? hk
  obtain⟨hβ,hone⟩:(∀k,β id k↔k=b)/\One b n q w:=((bh rfl).1 (h.var _ hx0 rfl)).2.out
  rw[show(#[x]:Array Operand).map a.eval=#[a.eval x] by simp]
  exact jl hφ _ w _ (nT (bX h)) (λo ho=>ho.2 ((hβ b).2 rfl)) hone ((uO h hk (h1.spec h pP)).imp λw=>c1 w _)) hV hG hu hd' Lk MX
theorem Yc {p2 q2:Pred} {f:FuncId} (jl:φ->∀(M:Nat->Nat->Prop) (w:World) (v1 v2:Value),dc M w->(∀o,¬M b o)->One b n q w->aL (mm M b) (λw=>p1 w v1) w->aL (mm M b) (λw=>p2 w v2) w->Calls P f #[v1,v2] w (ya M b n p q' w))
  (hk:V[n0]?=some (gm id b n q):=by exact rfl) (h1:Has [0] G 0 x q1:=by exact hs) (c1:∀w v,q1 w v->p1 w v:=by exact qW) (h2:Has [0] G 0 y q2:=by exact hs) (c2:∀w v,q2 w v->p2 w v:=by exact qW) (hφ:φ:=by first|omega|trivial) (hp:aB p:=by exact Eb) (hq:aB q':=by exact Eb) (hf:aM P f:=by exactλ_ _=>by kernel_rfl)
  (hV:dw V=true:=by kernel_rfl) (hG:eI G=true:=by kernel_rfl) (hu:iG V id n0=true:=by kernel_rfl) (hd':decide (d<c.N)=true:=by kernel_rfl) (Lk:(V.all λx=>x.slot != d)=true:=by kernel_rfl) (MX:(G.all λx=>x.slot != d)=true:=by kernel_rfl):
  ∀a w,Inv c V [] G none_ a w->eC P ops ⟨some d,.call ⟨.value (.func f),#[x,y],ts⟩,ty,pos,aZ,none⟩ a w (Inv c (V.set n0 (gm id b n q')) [] (⟨none,none,d,p⟩::G) none_):=λa w hI=>
 vH hf hI hk hp hq (λβ h=>by
  have hx0:=List.mem_of_getElem? hk
  obtain⟨hβ,hone⟩:(∀k,β id k↔k=b)/\One b n q w:=((bh rfl).1 (h.var _ hx0 rfl)).2.out
  rw[show(#[x,y]:Array Operand).map a.eval=#[a.eval x,a.eval y] by simp]
  exact jl hφ _ w _ _ (nT (bX h)) (λo ho=>ho.2 ((hβ b).2 rfl)) hone ((uO h hk (h1.spec h pP)).imp λw=>c1 w _) ((uO h hk (h2.spec h pP)).imp λw=>c2 w _)) hV hG hu hd' Lk MX
theorem PE {e:Ending} {w':World} (hM:dc M w) (hn:∀i,aB (f i)) (h:xZ sz n ag E f w e w'):bu M (dK sz ag n f) w e w':=by
 obtain⟨b,cap,rfl,h1,h2,h3⟩:=h
 refine⟨_,rfl,λw'' he=>?_,h1⟩
 have hb:∀k,k=b->w''.heap[k]?=w'.heap[k]?:=λk hk=>by
  subst hk
  exact he.block k (kz h3 k rfl).1 λo ho=>absurd (hM k o ho).1 (by omega)
 rcases h3.keep hn (hM.below h1) he hb with⟨e,_⟩|⟨bb,cap',cur,e,_,d3,d4,d5,d6,_,d8⟩
 ·injection e with e; cases e
 ·rw[e]
  refine⟨_,cap',rfl,d5,d6,λ_=>⟨bb,0,rfl,λq hq=>⟨(cur.drop (q*sz)).take sz,?_,λj v hj=>?_,d8 q hq⟩⟩⟩
  ·have:=Nat.mul_le_mul_right sz (Nat.lt_of_lt_of_le hq d5)
   rw[Nat.succ_mul]at this
   rw[List.length_take,List.length_drop]
   omega
  ·rw[Nat.zero_add]
   exact jk d3 _ _ j v hj
theorem Yd {ms:List Nat} {A:List Al} {i:Nat} {f:FuncId} {v:Vr} (jl:φ->∀(M:Nat->Nat->Prop) (w:World) (v1:Value),dc M w->aL M (λw=>dK sz ag n g w v1) w->Calls P f #[v1] w (xZ GU m GJ E f2 w)) (N:Nat) (hφ:φ) (IE:∀i,aB (f2 i)) (hv:om N V=some v:=by exact rfl) (ho:cG ms i v=true:=by exact rfl) (dI:v.kd=.obj:=by exact rfl) (hst:(v.st.all λq=>(q.1==i||(ms.getD i 0).testBit q.1)||(ms.getD q.1 0).testBit i)=true:=by kernel_rfl)
  (hc:cont (λj=>(ms.getD i 0).testBit j) v.c0 v.st=Gj b (cap*sz) (KH sz n ag g):=by exact rfl) (hcap:n<=cap/\cap<=maxLen:=by assumption) (hx:Has ms G i fx (cI (.func (.func f) #[] #[])):=by exact hs) (h1:Has ms G i x (cI (.slice (some ⟨b,0,none⟩) n cap)):=by exact hs) (hp:Post G i (dK GU GJ m f2):=by exact pt rfl) (hf:aM P f:=by exactλ_ _=>by kernel_rfl):OpOk P ops ms c V A G i ⟨some d,.call ⟨.value fx,#[x],ts⟩,ty,pos,aZ,none⟩:=by
 obtain⟨⟨j,hj⟩,_⟩:=gw hv
 refine uM hf hx hp λL β a w hI hd=>?_
 have hH:=(CN hI hd (List.mem_of_getElem? hj) ho dI).2
 rw[tN hd hst,hc]at hH
 have ex:a.eval x=.slice (some ⟨b,0,none⟩) n cap:=(h1.spec hI hd).out
 rw[show(#[x]:Array Operand).map a.eval=#[a.eval x] by simp,ex]
 exact(jl hφ _ w _ (nT (bX hI)) (hH.imp λw' h=>Ep h.2 hcap)).mono λ_ _ r=>PE (bX hI) IE r
theorem nB {d:Nat} (Lm:e<c.N) (fV:∀x,x∈V->x.slot≠e) (fG:∀x,x∈G->x.slot≠e) {a:Act} {w:World} (h:Inv c V [] (⟨none,none,d,cI v⟩::G) none_ a w):eC P ops ⟨some e,.assign (.tmp d),ty2,pos2,aft2,none⟩ a w (Inv c V [] (⟨none,none,e,cI v⟩::G) none_):=by
 obtain⟨β,hI⟩:=h
 have hv:a.eval (.tmp d)=v:=(hI.kH ⟨none,none,d,cI v⟩ (List.mem_cons_self ..) rfl rfl).out
 have DX:=hI.xu (G':=G) λe he=>List.mem_cons_of_mem _ he
 refine .of rfl ?_
 unfold Does
 have hr:(execOp a.eval ⟨some e,.assign (.tmp d),ty2,pos2,aft2,none⟩).run P w=.ok (.value v) w:=by rw[<-hv]; rfl
 rw[hr]
 exact⟨β,DX.rD Lm fV fG λ_ _=>rfl⟩
theorem TQ {f:FuncId} (jl:φ->∀(M:Nat->Nat->Prop) (w:World) (v1:Value),dc M w->(∀o,¬M b o)->One b n q w->aL (mm M b) (λw=>p1 w v1) w->Calls P f #[v1] w (ya M b n (cI v) q' w)) (hφ:φ) (hq:aB q')
  (hk:V[n0]?=some (gm id b n q):=by exact rfl) (h1:Has [0] G 0 x q1:=by exact hs) (c1:∀w v,q1 w v->p1 w v:=by exact qW) (hf:aM P f:=by exactλ_ _=>by kernel_rfl)
  (hV:dw V=true:=by kernel_rfl) (hG:eI G=true:=by kernel_rfl) (hu:iG V id n0=true:=by kernel_rfl) (hd':decide (d<c.N)=true:=by kernel_rfl) (Lk:(V.all λx=>x.slot != d)=true:=by kernel_rfl) (MX:(G.all λx=>x.slot != d)=true:=by kernel_rfl) (he':decide (e<c.N)=true:=by kernel_rfl) (Ll:(V.all λx=>x.slot != e)=true:=by kernel_rfl) (MY:(G.all λx=>x.slot != e)=true:=by kernel_rfl):
  gU P ops (Inv c V [] G none_) [⟨some d,.call ⟨.value (.func f),#[x],ts⟩,ty,pos,aZ,none⟩,⟨some e,.assign (.tmp d),ty2,pos2,aft2,none⟩] (Inv c (V.set n0 (gm id b n q')) [] (⟨none,none,e,cI v⟩::G) none_):=by
 refine⟨_,Ww jl hk h1 c1 hφ (bz v) hq hf hV hG hu hd' Lk MX,_,λa w h=>nB (of_decide_eq_true he') (λx hx=>?_) (λx hx=>?_) h,rfl⟩
 ·rw[List.all_eq_true]at Ll
  rcases List.mem_or_eq_of_mem_set hx with hx|rfl
  ·simpa using Ll x hx
  ·simpa using Ll _ (List.mem_of_getElem? hk)
 ·rw[List.all_eq_true]at MY
  simpa using MY x hx
theorem Yf {f:FuncId} (jl:φ->∀(M:Nat->Nat->Prop) w v1,dc M w->aL M (λw=>dK sz ag n g w v1) w->Calls P f #[v1] w (xZ GU m GJ E f2 w)) (hφ:φ) (IE:∀i,aB (f2 i)) (hk:V[n0]?=some (gm id b (cap*sz) (KH sz n ag g)):=by exact rfl) (hc:n<=cap/\cap<=maxLen:=by assumption) (hx:Has [0] G 0 fx (cI (.func (.func f) #[] #[])):=by exact hs) (h1:Has [0] G 0 x (cI (.slice (some ⟨b,0,none⟩) n cap)):=by exact hs)
  (hf:aM P f:=by exactλ_ _=>by kernel_rfl) (hd:decide (d<c.N)=true:=by kernel_rfl) (hV:(V.all λy=>(y.slot != d&&y.id != d)&&(y.born.isNone&&y.dead.isNone))=true:=by kernel_rfl) (hG:(G.all λe=>e.slot != d)=true:=by kernel_rfl) (he':decide (e<c.N/\d≠e)=true:=by kernel_rfl) (Ll:(V.all λx=>x.slot != e)=true:=by kernel_rfl) (MY:(G.all λx=>x.slot != e)=true:=by kernel_rfl):
  gU P ops (Inv c V [] G none_) [⟨some d,.call ⟨.value fx,#[x],ts⟩,ty,pos,aZ,none⟩,⟨some e,.assign (.tmp d),ty2,pos2,aft2,none⟩] (λa w=>∃b2 gh,(m<=gh/\gh<=maxLen)/\Inv c (mQ d GU m GJ E f2 (.slice (some ⟨b2,0,none⟩) m gh)::V) [] (⟨none,none,e,cI (.slice (some ⟨b2,0,none⟩) m gh)⟩::G) none_ a w):=by
 have he:=of_decide_eq_true he'
 rw[List.all_eq_true]at Ll MY
 refine⟨_,Da jl hφ IE hk hc hx h1 hf hd hV hG,_,?_,rfl⟩
 rintro a w ⟨b2,gh,hI⟩
 have hbd:m<=gh/\gh<=maxLen:=by
  obtain⟨β,h⟩:=hI
  exact qR.bound (((bh rfl).1 (h.var _ (List.mem_cons_self ..) rfl)).2.out)
 have h:=nB (P:=P) (ops:=ops) (ty2:=ty2) (pos2:=pos2) (aft2:=aft2) he.1 (λx hx=>by
  rcases List.mem_cons.1 hx with rfl|hx
  ·exact he.2
  ·simpa using Ll x hx) (λx hx=>by simpa using MY x hx) hI
 exact h.mono λ_ _ h=>⟨b2,gh,hbd,h⟩
theorem MI {d:Nat} {tx:TypeId} {s:Value} {x y:Operand} {ty:TypeId} {pos:String} {aZ:Array Edge} (f':Nat->Pred) (hf':∀i w v,(if i<m then f i else g (i-m)) w v->i<m+n->f' i w v) (zy:0<n) (hk:V[n0]?=some (mQ id sz m ag E f s):=by exact rfl) (h1:Has [0] G 0 x (cI s):=by exact hs) (h2:Has [0] G 0 y (dK sz ag n g):=by exact hs) (hmax:m+n<=1073741824:=by omega)
  (hnf:∀i,aB (f i):=by intro i; exact Eb) (hng:∀i,aB (g i):=by intro i; exact Eb) (hfit:∀i,Fits sz ag (g i):=by intro i; exact wg) (hagg:ag=false->sz=1:=by intro h; first|cases h|rfl) (ht:Hf P T tx E sz=true:=by kernel_rfl) (hV:dw V=true:=by kernel_rfl) (hG:eI G=true:=by kernel_rfl) (hu:iG V id n0=true:=by kernel_rfl) (hfr:rQ V G d e c.N=true:=by kernel_rfl):
  gU P ops (Inv c V [] G none_) [⟨some d,.call ⟨.builtin .append,#[x,y],#[T,tx]⟩,ty,pos,aZ,none⟩,⟨some e,.assign (.tmp d),ty2,pos2,aft2,none⟩] (λa w=>∃s',Inv c (V.set n0 (mQ id sz (m+n) ag E f' s')) [] (⟨none,none,e,cI s'⟩::G) none_ a w):=by
 unfold rQ at hfr
 simp only[Bool.and_eq_true,List.all_eq_true,decide_eq_true_eq,bne_iff_ne]at hfr
 obtain⟨fV,fG,Iy,Lm,GM⟩:=hfr
 refine⟨λa w=>∃s',Inv c (V.set n0 (mQ id sz (m+n) ag E f' s')) [] (⟨none,none,d,cI s'⟩::G) none_ a w,?_,_,?_,rfl⟩
 ·rintro a w ⟨β,hI⟩
  have hx0:=List.mem_of_getElem? hk
  have hO:=(bh rfl).1 (hI.var _ hx0 rfl)
  have hB:aL (minus (own c V none_ β) (β id)) (λw=>qR sz m ag E f s (β id) w) w:=hO.2
  have OC:∀k,β id k->∀o,own c V none_ β k o:=λk hk o=>.inr ⟨_,hx0,rfl,hk,Nat.zero_le _⟩
  obtain⟨w',X',s',hr,hle,Rh,hgr⟩:=ud (ty:=ty) (yv:=a.eval y) (bX hI) OC hB.out (h2.spec hI pP) (tC ht) hagg hfit hnf hng zy hmax
  have ex:a.eval x=s:=(h1.spec hI pP).out
  rw[<-ex]at hr
  have hn':∀i,aB (if i<m then f i else g (i-m)):=λi=>by by_cases h:i<m<;>simp only[h,if_true,if_false]; exact hnf i; exact hng _
  refine .of rfl (mL hr ⟨s',lu β id X',?_⟩)
  have hm:=hI.move (B':=X') (R':=L8 sz (m+n) ag E f' s') (w':=w') hV hG hk (jC hu) hle Rh (kz hgr) ?_
  ·refine hm.rD Iy (λx hx=>?_) (λe he=>(fG e he).1) λ_ _=>rfl
   rcases List.mem_or_eq_of_mem_set hx with hx|rfl
   ·exact(fV x hx).1
   ·exact(fV _ hx0).1
  ·intro w'' he
   have yM:dc (minus (own c V none_ β) (β id)) w':=λk o hk=>by
    obtain⟨k1,k2⟩:=bX hI k o hk.1
    exact⟨Nat.lt_of_lt_of_le k1 hle.size,λu zz=>k2 u (by rw[<-World.cell?_of_block (w:=w) (w':=w') (a:=⟨k,o,none⟩) (hle.block k k1 hk.2)]; exact zz)⟩
   have hb:∀k,X' k->w''.heap[k]?=w'.heap[k]?:=λk hk=>he.block k (kz hgr k hk).1 λo ho=>(Rh k hk).elim ho.2 λh=>absurd (bX hI k o ho.1).1 (Nat.not_lt.2 h)
   refine(hgr.keep hn' yM he hb).imp (λh=>h) ?_
   rintro⟨bb,cap,cur,j1,j2,j3,j4,j5,j6,j7,j8⟩
   exact⟨bb,cap,cur,j1,j2,j3,j4,j5,j6,j7,λi hi=>hf' i _ _ (j8 i hi) hi⟩
 ·rintro a w ⟨s',β,hI⟩
  have hv:a.eval (.tmp d)=s':=(hI.kH ⟨none,none,d,cI s'⟩ (List.mem_cons_self ..) rfl rfl).out
  have DX:=hI.xu (G':=G) λe he=>List.mem_cons_of_mem _ he
  have hx0:=List.mem_of_getElem? hk
  refine .of rfl ?_
  unfold Does
  have hr:(execOp a.eval ⟨some e,.assign (.tmp d),ty2,pos2,aft2,none⟩).run P w=.ok (.value s') w:=by rw[<-hv]; rfl
  rw[hr]
  refine⟨s',β,DX.rD Lm (λx hx=>?_) (λe he=>(fG e he).2) λ_ _=>rfl⟩
  rcases List.mem_or_eq_of_mem_set hx with hx|rfl
  ·exact(fV x hx).2
  ·exact(fV _ hx0).2
end
end Wx

namespace Wx
open Go Go.RowKit
set_option linter.unusedVariables false
section
variable {P:Program} {ops:Array Oper} {ms:List Nat} {c:eL} {V:List Vr} {A:List Al} {G:List bI} {i:Nat}{d:Nat} {x y z:Operand} {ty:TypeId} {pos:String} {aZ:Array Edge}
theorem Le {f:FuncId} {ts:Array TypeId} {p p1 q1:Pred} {φ ψ:Prop} (hψ:ψ) (jl:φ->∀w v1,p1 w v1->Calls P f #[v1] w (fu p w)) (h1:Has ms G i x q1:=by exact hg) (c1:∀w v,q1 w v->p1 w v:=by exact qW) (hp:Post G i p:=by exact pg (by assumption) rfl) (hφ:φ:=by first|omega|trivial) (hn:aB p:=by exact Eb) (hf:aM P f:=by exactλ_ _=>by kernel_rfl):
  OpOk P ops ms c V A G i ⟨some d,.call ⟨.value (.func f),#[x],ts⟩,ty,pos,aZ,none⟩:=(λ_:ψ=>fN hf hn (h1.imp c1) hp (jl hφ)) hψ
end
end Wx

namespace Wx
set_option maxRecDepth 100000
set_option maxHeartbeats 1000000
open Go Go.RowKit Go.Proofs
set_option linter.unusedVariables false
attribute [local irreducible] OpOk
theorem Mc {n:Int} (h:-9223372036854775808<=n/\n<=9223372036854775807):K1 Tryz.prog 51 (pI n) (pR 64 (n:Rat)):=by
 intro M w0 v0 hM hv0
 refine Dj (N:=5) Tryz.func51 rfl rfl rfl hM hv0 λa hI=>?_
 refine dQ hI 1 [⟨2,2,some 0,none,.ptr,32,3,true,pv _,[]⟩] [] [] .z (.k .z) ⟨rA [.r],trivial⟩ (.k .z) (.k .z) λa w hI=>?_
 refine dQ hI 3 [] [] [Uc 0 3 _,Uc 1 4 _] (.u none [(2,pv _)] .z) (.k .z) ⟨mv,E6 zI,nw,trivial⟩ (.s .o .z) (.Ky .z) λa w hI=>?_
 refine bL ?_
 exact dx hI rfl BQ
theorem JT {x y:Rat} {j k:Nat} (h:j+k<=100000000):K2 Tryz.prog 35 (pR j x) (pR k y) (pR (j+k) (x/y)):=by
 intro M w0 v0 v1 hM hv0 gb
 refine Dk (N:=14) Tryz.func35 rfl rfl rfl hM hv0 gb λa hI=>?_
 refine dQ hI 3 [⟨2,2,some 0,none,.ptr,32,3,true,pv _,[]⟩,⟨3,3,some 1,none,.ptr,32,3,true,pv _,[]⟩,⟨4,4,some 2,none,.ptr,32,3,true,pv _,[]⟩] [] [] .z (.kk .z) ⟨bo,bo,rA [.r],trivial⟩ (.k (.k (.k .z))) (.dd .z) λa w hI=>?_
 refine dQ hI 9 [⟨5,5,some 6,none,.ptr,32,3,true,pv _,[(7,pv _)]⟩] [] [Uc 0 8 _,Uc 1 9 _,Uc 2 10 _,Uc 3 7 _,Uc 4 11 _,Uc 5 12 _,Uc 8 6 _] (.k (.k (.k .z))) .z ⟨ld,ld,P3 Qq,mv,ext,ext,rA [.r],nw,mv,trivial⟩ (.d (.d (.k (.s .o .z)))) (.ek (.Ky .z)) λa w hI=>?_
 refine dQ hI 2 [] [] [Uc 0 13 _] (.u none [(1,pv _)] (.k .z)) .z ⟨ld,nw,trivial⟩ (.s .o (.d .z)) (.d .z) λa w hI=>?_
 refine bL ?_
 exact dx hI rfl BQ
end Wx

namespace Wx
open Go Go.RowKit Go.Proofs
def tU (p:Pt):List Value:=[.int .i64 p.1,.int .i64 p.2]
variable {p:Pt} {w:World}
theorem Bn {ds:List Value}:gK p w (aA true ds)↔ds=tU p:=by
 constructor
 ·rintro⟨cs,e,h1,h2,h3,h4,h5⟩
  have e':ds=cs:=by
   have h:(Value.agg ds.toArray)=.agg cs.toArray:=e
   injection h with h
   exact congrArg Array.toList h
  subst e'
  match ds,h1,h2,h3,h4,h5 with
  |[a,b],_,h2,_,h4,_=>
   have h2:a=.int .i64 p.1:=h2
   have h4:b=.int .i64 p.2:=h4
   rw[h2,h4]
   rfl
  |[],h1,_,_,_,_=>exact absurd (show 1<=0 from h1) (by omega)
  |[_],_,_,h3,_,_=>exact absurd (show 1<=0 from h3) (by omega)
  |_::_::_::_,_,_,_,_,h5=>cases h5
 ·rintro rfl
  exact⟨_,rfl,Nat.le_add_left _ _,rfl,Nat.le_refl _,rfl,rfl⟩
abbrev JK (n:Nat) (L:List Pt):Pred:=KH 2 n true λi=>gK (aI L i)
theorem gO (p:Pt):aB (gK p):=Gb ⟨bz _,bz _,trivial⟩
theorem J9 {l:List Value} {k:Nat} {x y:Value}:(l.drop k).take 2=[x,y]↔l[k]?=some x/\l[k+1]?=some y:=by
 have h0:(l.drop k)[0]?=l[k]?:=by rw[List.getElem?_drop]; rfl
 have h1:(l.drop k)[1]?=l[k+1]?:=by rw[List.getElem?_drop]
 rw[<-h0,<-h1]
 match l.drop k with
 |[]=>simp
 |[a]=>simp
 |a::b::r=>simp
def Qo (n:Nat) (L:List Pt) (cs:List Value):Prop:=∀i,i<n->cs[i*2]?=some (.int .i64 (aI L i).1)/\cs[i*2+1]?=some (.int .i64 (aI L i).2)
theorem CX {n:Nat} {L:List Pt} {cs:List Value}:JK n L w (aA true cs)↔Qo n L cs:=by
 constructor
 ·rintro⟨ds,e,h⟩ i hi
  have e':cs=ds:=by
   have h:(Value.agg cs.toArray)=.agg ds.toArray:=e
   injection h with h
   exact congrArg Array.toList h
  subst e'
  exact J9.1 (Bn.1 (h i hi))
 ·intro h
  exact⟨cs,rfl,λi hi=>Bn.2 (J9.2 (h i hi))⟩
structure EW where
 p:Pt
 h:gL 16777216 p
instance:Inhabited EW:=⟨⟨(0,0),by unfold gL; decide⟩⟩
open Classical in
noncomputable def Tb (p:Pt):EW:=if h:gL 16777216 p then⟨p,h⟩else default
theorem EG (h:gL 16777216 p):(Tb p).p=p:=by unfold Tb; rw[dif_pos h]
abbrev su (x:EW):List Value:=tU x.p
section
variable {w:World} {b N n:Nat} {L:List Pt}{d:Array EW}
theorem Av {j:Nat} (h:j<d.size*2):(Go.Sort.flatK su 2 d)[j]! = if j%2=0 then .int .i64 (d[j/2]!).p.1 else .int .i64 (d[j/2]!).p.2:=by
 rw[Go.Sort.get_flatK su 2 d j h]
 have hj:j%2=0\/j%2=1:=by omega
 rcases hj with e|e
 ·rw[e,if_pos rfl]; rfl
 ·rw[e,if_neg (by decide)]; rfl
theorem holds_of_one (h:One b N (JK n L) w) (hs:d.size=n) (hd:∀i,i<n->(d[i]!).p=aI L i):Go.Sort.HoldsK su 2 w b 0 d:=by
 obtain⟨cs,T,h1,h2,h3,h4⟩:=h
 have h5:=CX.1 h4
 intro j hj
 rw[Go.Sort.size_flatK]at hj
 refine⟨?_,?_⟩
 ·show _=some (id _)
  rw[id,Av hj,Nat.zero_add]
  simp only[World.cell?,h1]
  have h6:=h5 (j/2) (by omega)
  rw[List.getElem?_toArray]
  by_cases e:j%2=0
  ·rw[if_pos e,hd _ (by omega),<-h6.1,show j/2*2=j by omega]; rfl
  ·rw[if_neg e,hd _ (by omega),<-h6.2,show j/2*2+1=j by omega]; rfl
 ·simp only[World.frozen?,h1]
  simp
theorem vh {M:Nat->Nat->Prop} {L':List Pt} {m:Nat} {os:Array Obj} (h:One b N (JK n L) w) (hs:d.size=n) (hn:n*2<=N) (hd:∀i,i<n->(d[i]!).p=aI L' i):
  ya M b N (cI (.tuple #[])) (JK n L') w (.returned (.tuple #[])) (Go.Sort.grow (Go.Sort.putRowK su 2 (Go.Sort.ahead w m) b 0 d) os):=by
 obtain⟨cs,T,h1,h2,h3,h4⟩:=h
 have hlt:b<w.heap.size:=(Array.getElem?_eq_some_iff.1 h1).1
 obtain⟨F,hF⟩:∃F,Go.Sort.flatK su 2 d=F:=⟨_,rfl⟩
 have Yp:F.size=n*2:=by rw[<-hF,Go.Sort.size_flatK,hs]
 have hFg:∀j,j<n*2->F[j]! = if j%2=0 then .int .i64 (d[j/2]!).p.1 else .int .i64 (d[j/2]!).p.2:=λj hj=>by rw[<-hF]; exact Av (by omega)
 obtain⟨C,hC⟩:∃C:List Value,(Go.Sort.putCells id 0 F cs.toArray).toList=C:=⟨_,rfl⟩
 have WJ:∀j,C[j]?=(cs[j]?).map λx=>if j<n*2 then F[j]! else x:=λj=>by
  rw[<-hC]
  unfold Go.Sort.putCells
  simp[Yp]
 have hh:(Go.Sort.grow (Go.Sort.putRowK su 2 (Go.Sort.ahead w m) b 0 d) os).heap=(w.heap.modify b (Go.Sort.onCells (Go.Sort.putCells id 0 F)))++os:=by
  rw[<-hF]; rfl
 have hb:(Go.Sort.grow (Go.Sort.putRowK su 2 (Go.Sort.ahead w m) b 0 d) os).heap[b]?=some (.cells C.toArray T (0,0)):=by
  rw[hh,Array.getElem?_append_left (by simpa using hlt),Array.getElem?_modify,if_pos rfl,h1]
  rw[<-hC]
  rfl
 refine⟨_,rfl,λ_ _=>rfl,⟨rfl,rfl,rfl,?_,?_⟩,C,T,hb,?_,?_,?_⟩
 ·rw[hh]; simp
 ·intro k hk hne
  have hne:k≠b:=hne
  rw[hh,Array.getElem?_append_left (by simpa using hk),Array.getElem?_modify,if_neg (Ne.symm hne)]
 ·rw[<-hC]
  unfold Go.Sort.putCells
  simp[h2]
 ·intro v hv
  obtain⟨j,hj⟩:=List.mem_iff_getElem?.1 hv
  rw[WJ]at hj
  cases UB:cs[j]? with
  |none=>rw[UB]at hj; cases hj
  |some x=>
   rw[UB]at hj
   injection hj with hj
   dsimp only at hj
   by_cases rj:j<n*2
   ·rw[if_pos rj,hFg j rj]at hj
    rw[<-hj]
    split
    ·exact qp _
    ·exact qp _
   ·rw[if_neg rj]at hj
    rw[<-hj]
    exact h3 x (List.mem_of_getElem? UB)
 ·refine CX.2 λi hi=>?_
  have hg:∀j,j<n*2->C[j]?=some F[j]!:=λj hj=>by
   rw[WJ,List.getElem?_eq_getElem (show j<cs.length by omega),Option.map_some,if_pos hj]
  rw[hg _ (by omega),hg _ (by omega),hFg _ (by omega),hFg _ (by omega),if_pos (by omega),if_neg (by omega)]
  rw[show i*2/2=i by omega,show(i*2+1)/2=i by omega,hd i hi]
  exact⟨rfl,rfl⟩
end
end Wx
