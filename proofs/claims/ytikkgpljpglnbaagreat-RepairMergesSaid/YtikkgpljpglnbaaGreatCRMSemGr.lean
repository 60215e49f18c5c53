import Derived.Test.YtikkgpljpglnbaaGreatJRM33
import Derived.Test.YtikkgpljpglnbaaGreatJRM34
namespace Wx
open Go Go.RowKit
set_option linter.unusedVariables false
def NN (X:Option Addr) (q sz:Nat):Pred:=λ_ v=>∃b o:Nat,X=some ⟨b,o,none⟩/\v=.pointer (some ⟨b,o+q*sz,none⟩)
section
variable {P:Program} {ops:Array Oper} {ms:List Nat} {c:cF} {V:List Vr} {A:List Al} {G:List aQ} {i d:Nat} {x y:Operand} {ty:TypeId} {pos:String} {aI:Array Edge}{sz m:Nat} {ag:Bool} {E:TypeId} {f:Nat->Pred} {v:Vr}
theorem C7 {L:Nat->Bool} {β:Nat->Nat->Prop} {a:Act} {w:World} {s:Value} (hI:aT c V A G L β a w) (hd:kO ms i L) (hv:v∈V) (ho:aX ms i v=true) (bD:v.kd=.obj) (hst:(v.st.all λq=>(q.1==i||(ms.getD i 0).testBit q.1)||(ms.getD q.1 0).testBit i)=true)
  (hc:cont (λj=>(ms.getD i 0).testBit j) v.c0 v.st=E7 sz m ag E f s):lN sz m ag E f s (β v.id) w:=by
 have hH:=(yK hI hd hv ho bD).2.out
 rw[qg hd hst,hc]at hH
 exact hH
variable {T:TypeId} {X:Option Addr} {cap:Nat}
theorem ML {k:Int} (N q:Nat) (hv:jv N V=some v:=by exact rfl) (ho:aX ms i v=true:=by exact rfl) (bD:v.kd=.obj:=by exact rfl) (hst:(v.st.all λq=>(q.1==i||(ms.getD i 0).testBit q.1)||(ms.getD q.1 0).testBit i)=true:=by kernel_rfl)
  (hc:cont (λj=>(ms.getD i 0).testBit j) v.c0 v.st=E7 sz m ag E f (.slice X m cap):=by exact rfl) (h:Has ms G i x (bg (.slice X m cap)):=by exact hs) (hy:Has ms G i y (pI k):=by exact hs) (hk:k=(q:Int):=by omega) (hq:q<m:=by omega) (hp:Post G i (NN X q sz):=by exact pt rfl) (ht:GH P T sz=true:=by kernel_rfl) (hA:(A.all λq=>q.tag != some i)=true:=by kernel_rfl):OpOk P ops ms c V A G i ⟨some d,.indexAddr T x y,ty,pos,aI,none⟩:=by
 obtain⟨E',hE⟩:=nO ht
 obtain⟨⟨j,hj⟩,_⟩:=cC hv
 exact bX rfl rfl rfl (.inr hA) hp λL β a w hI hd=>by
  have hx:a.eval x=.slice X m cap:=(h.spec hI hd).out
  have hi:a.eval y=.int .i64 k:=(hy.spec hI hd).out
  rcases C7 hI hd (List.mem_of_getElem? hj) ho bD hst hc with⟨_,e,_⟩|⟨bb,cap',cur,e,_⟩
  ·omega
  ·injection e with e1 e2 e3
   refine⟨_,w,?_,Below.refl _ _,λ_ _=>⟨bb,0,e1,rfl⟩⟩
   show(do pure (Next.value (<-Instr.indexAt T (a.eval x) (a.eval y)))).run P w=_
   rw[hx,hi,e1,hk,Sem.run_bind,jX hE (by omega) (by omega)]
   rw[Int.toNat_natCast]
   rfl
variable {φ:Prop}
theorem Hr (hφ:φ) {T E:TypeId} {X:Option Addr} {sz m cap:Nat} {ag:Bool} {f:Nat->Pred} {v:Vr} {k:Int} (N q:Nat) (hv:jv N V=some v:=by exact rfl) (ho:aX ms i v=true:=by exact rfl) (bD:v.kd=.obj:=by exact rfl) (hst:(v.st.all λq=>(q.1==i||(ms.getD i 0).testBit q.1)||(ms.getD q.1 0).testBit i)=true:=by kernel_rfl)
  (hc:cont (λj=>(ms.getD i 0).testBit j) v.c0 v.st=E7 sz m ag E f (.slice X m cap):=by exact rfl) (h:Has ms G i x (bg (.slice X m cap)):=by exact hg) (hy:Has ms G i y (pI k):=by exact hg) (hk:k=(q:Int):=by omega) (hq:q<m:=by omega) (hp:Post G i (NN X q sz):=by exact pg (by assumption) rfl) (ht:GH P T sz=true:=by kernel_rfl) (hA:(A.all λq=>q.tag != some i)=true:=by kernel_rfl):OpOk P ops ms c V A G i ⟨some d,.indexAddr T x y,ty,pos,aI,none⟩:=
 (λ_:φ=>ML N q hv ho bD hst hc h hy hk hq hp ht hA) hφ
theorem MN {q:Nat} (N:Nat) (hv:jv N V=some v:=by exact rfl) (ho:aX ms i v=true:=by exact rfl) (bD:v.kd=.obj:=by exact rfl) (hst:(v.st.all λq=>(q.1==i||(ms.getD i 0).testBit q.1)||(ms.getD q.1 0).testBit i)=true:=by kernel_rfl)
  (hc:cont (λj=>(ms.getD i 0).testBit j) v.c0 v.st=E7 sz m ag E f (.slice X m cap):=by exact rfl) (h:Has ms G i y (NN X q sz):=by exact hs) (hq:q<m:=by omega) (hp:Post G i (f q):=by exact pt rfl) (hn:av (f q):=by exact xH) (ht:zn P T ag sz=true:=by kernel_rfl):OpOk P ops ms c V A G i ⟨some d,.load T y,ty,pos,aI,none⟩:=by
 obtain⟨⟨j,hj⟩,_⟩:=cC hv
 exact bX rfl rfl rfl (.inl rfl) hp λL β a w hI hd=>by
  obtain⟨b,o,e0,hy⟩:=(h.spec hI hd).out
  have hy:a.eval y=.pointer (some ⟨b,o+q*sz,none⟩):=hy
  rcases C7 hI hd (List.mem_of_getElem? hj) ho bD hst hc with⟨_,e,_⟩|⟨bb,cap',cur,e,_,k3,k4,k5,k6,k7,k8⟩
  ·omega
  ·injection e with e1 e2 e3
   rw[e0]at e1
   injection e1 with e1
   injection e1 with eb eo _
   subst eb eo
   have hle:=Nat.mul_le_mul_right sz (Nat.lt_of_lt_of_le hq k5)
   rw[Nat.succ_mul]at hle
   refine⟨aq ag ((cur.drop (q*sz)).take sz),w,?_,Below.refl _ _,hn _ w _ (aS hI) (k8 q hq)⟩
   show(do pure (Next.value (<-Instr.loadAt T (a.eval y)))).run P w=_
   rw[hy,Nat.zero_add,Sem.run_bind,dU (cs:=(cur.drop (q*sz)).take sz) (bF ht) (fZ k3 (q*sz) sz) (by rw[List.length_take,List.length_drop]; omega)]
   rfl
theorem Hs (hφ:φ) {T E:TypeId} {X:Option Addr} {sz m q cap:Nat} {ag:Bool} {f:Nat->Pred} {v:Vr} (N:Nat) (hv:jv N V=some v:=by exact rfl) (ho:aX ms i v=true:=by exact rfl) (bD:v.kd=.obj:=by exact rfl) (hst:(v.st.all λq=>(q.1==i||(ms.getD i 0).testBit q.1)||(ms.getD q.1 0).testBit i)=true:=by kernel_rfl)
  (hc:cont (λj=>(ms.getD i 0).testBit j) v.c0 v.st=E7 sz m ag E f (.slice X m cap):=by exact rfl) (h:Has ms G i y (NN X q sz):=by exact hg) (hq:q<m:=by omega) (hp:Post G i (f q):=by exact pg (by assumption) rfl) (hn:av (f q):=by exact xH) (ht:zn P T ag sz=true:=by kernel_rfl):OpOk P ops ms c V A G i ⟨some d,.load T y,ty,pos,aI,none⟩:=
 (λ_:φ=>MN N hv ho bD hst hc h hq hp hn ht) hφ
end
section
variable {P:Program} {c:cF} {V:List Vr} {G:List aQ} {a:Act} {w:World} {β:Nat->Nat->Prop} {x y z:Operand} {d:Nat} {ty:TypeId} {pos:String} {aI:Array Edge}{sz m cap:Nat} {ag:Bool} {E:TypeId} {f:Nat->Pred} {X:Option Addr} {B:Nat->Prop}
theorem lN.cut {m':Nat} (h:lN sz m ag E f (.slice X m cap) B w) (hm:m'<=m):lN sz m' ag E f (.slice X m' cap) B w:=by
 rcases h with⟨e,e2,hX⟩|⟨bb,cap',cur,e,k2,k3,k4,k5,k6,k7,k8⟩
 ·injection e with e1 _ e3
  obtain rfl:m'=0:=by omega
  rw[e1,e3]
  exact .inl ⟨rfl,rfl,hX⟩
 ·injection e with e1 _ e3
  rw[e1,e3]
  exact .inr ⟨bb,cap',cur,rfl,k2,k3,k4,Nat.le_trans hm k5,k6,k7,λi hi=>k8 i (Nat.lt_of_lt_of_le hi hm)⟩
theorem lN.bound (h:lN sz m ag E f (.slice X m cap) B w):m<=cap/\cap<=maxLen:=by
 rcases h with⟨e,e2,hX⟩|⟨bb,cap',cur,e,k2,k3,k4,k5,k6,k7,k8⟩
 ·injection e with _ _ e3
  rw[e2,e3]
  exact⟨Nat.le_refl _,Nat.zero_le _⟩
 ·injection e with _ _ e3
  rw[e3]
  exact⟨k5,k6⟩
variable {ops:Array Oper} {id n0 e:Nat} {T ty2:TypeId} {pos2:String} {aft2:Array Edge}
theorem Hf {d:Nat} {k:Int} {x y:Operand} {ty:TypeId} {pos:String} {aI:Array Edge} (m':Nat) (hk:V[n0]?=some (iL id sz m ag E f (.slice X m cap)):=by exact rfl) (h1:Has [0] G 0 x (bg (.slice X m cap)):=by exact hs) (h2:Has [0] G 0 y (pI k):=by exact hs) (hkm:k=(m':Int):=by omega) (hm:m'<=m:=by omega)
  (hnf:∀i,av (f i):=by intro i; exact xH) (ht:GH P T sz=true:=by kernel_rfl) (hV:bE V=true:=by kernel_rfl) (hG:cw G=true:=by kernel_rfl) (hu:eu V id n0=true:=by kernel_rfl) (hfr:nZ V G d e c.N=true:=by kernel_rfl):
  eI P ops (Inv c V [] G none_) [⟨some d,.slice T x none (some y) none,ty,pos,aI,none⟩,⟨some e,.assign (.tmp d),ty2,pos2,aft2,none⟩] (Inv c (V.set n0 (iL id sz m' ag E f (.slice X m' cap))) [] (⟨none,none,e,bg (.slice X m' cap)⟩::G) none_):=by
 unfold nZ at hfr
 simp only[Bool.and_eq_true,List.all_eq_true,decide_eq_true_eq,bne_iff_ne]at hfr
 obtain⟨fV,fG,Hx,FI,ND⟩:=hfr
 obtain⟨E',hE⟩:=nO ht
 refine⟨Inv c (V.set n0 (iL id sz m' ag E f (.slice X m' cap))) [] (⟨none,none,d,bg (.slice X m' cap)⟩::G) none_,?_,_,?_,rfl⟩
 ·rintro a w ⟨β,hI⟩
  have hx0:=List.mem_of_getElem? hk
  have hO:=(aG rfl).1 (hI.var _ hx0 rfl)
  have hB:aL (minus (own c V none_ β) (β id)) (λw=>lN sz m ag E f (.slice X m cap) (β id) w) w:=hO.2
  have ex:a.eval x=.slice X m cap:=(h1.spec hI iS).out
  have ey:a.eval y=.int .i64 m':=by
   have e:=(h2.spec hI iS).out
   rw[hkm]at e
   exact e
  have hbd:=hB.out.bound
  refine .of rfl ?_
  unfold Does
  have hr:(execOp a.eval ⟨some d,.slice T x none (some y) none,ty,pos,aI,none⟩).run P w=.ok (.value (.slice X m' cap)) w:=by
   show(do pure (Next.value (<-Instr.sliceAt T (a.eval x) none (some (a.eval y)) none))).run P w=_
   rw[ex,ey]
   have hr:(Instr.sliceAt T (.slice X m cap) none (some (.int .i64 m')) none).run P w=.ok (.slice X m' cap) w:=by
    have e1:(Instr.sliceBound (.int .i64 m') cap .sliceAcap).run P w=.ok m' w:=by
     have:=run_sliceBound (P:=P) w .i64 (m':Int) cap .sliceAcap (by omega) (by omega)
     simpa using this
    have e3:X.map (λq=>q.add 0)=X:=by
     cases X with
     |none=>rfl
     |some q=>rfl
    simp only[Instr.sliceAt,Sem.run_bind,run_underlying hE.under,Result.andThen_ok,Instr.slice,Instr.sliceBounds,Sem.run_pure]
    simp only[e1,Result.andThen_ok,hE.size w,Nat.zero_mul,Nat.sub_zero,e3,ite_self,if_true]
   rw[Sem.run_bind,hr]
   rfl
  rw[hr]
  have hg:=hB.out.cut hm
  refine⟨gZ β id (β id),?_⟩
  have Tn:=hI.move (B':=β id) (R':=E7 sz m' ag E f (.slice X m' cap)) (w':=w) hV hG hk (ew hu) (cA.refl _ _) (λk hk=>.inl hk) (fB hg) (hB.imp λw h=>h.cut hm)
  refine Tn.mK Hx (λx hx=>?_) (λe he=>(fG e he).1) λ_ _=>rfl
  rcases List.mem_or_eq_of_mem_set hx with hx|rfl
  ·exact(fV x hx).1
  ·exact(fV _ hx0).1
 ·rintro a w ⟨β,hI⟩
  have hv:a.eval (.tmp d)=.slice X m' cap:=(hI.gD ⟨none,none,d,bg _⟩ (List.mem_cons_self ..) rfl rfl).out
  have zY:=hI.tg (G':=G) λe he=>List.mem_cons_of_mem _ he
  have hx0:=List.mem_of_getElem? hk
  refine .of rfl ?_
  unfold Does
  have hr:(execOp a.eval ⟨some e,.assign (.tmp d),ty2,pos2,aft2,none⟩).run P w=.ok (.value (.slice X m' cap)) w:=by rw[<-hv]; rfl
  rw[hr]
  refine⟨β,zY.mK FI (λx hx=>?_) (λe he=>(fG e he).2) λ_ _=>rfl⟩
  rcases List.mem_or_eq_of_mem_set hx with hx|rfl
  ·exact(fV x hx).2
  ·exact(fV _ hx0).2
def tN (sz n:Nat) (ag:Bool) (E:TypeId) (f:Nat->Pred) (w:World) (e:Ending) (w':World):Prop:=∃b cap,e=.returned (.slice (some ⟨b,0,none⟩) n cap)/\Below w.heap.size w w'/\w.heap.size<=b/\lN sz n ag E f (.slice (some ⟨b,0,none⟩) n cap) (·=b) w'
variable {n:Nat} {M:Nat->Nat->Prop} {v:Value}
theorem Oz {fn:Func} {s:Nat} {w0:World} {N:Nat} (hI:Inv ⟨N,w0,M,λ_=>False⟩ V [] G none_ a w) (hr:fn.results=#[.tmp s]) (hk:V[n0]?=some (iL id sz n ag E f v)) (hn:0<n) (h1:eK s G=some (bg v):=by exact rfl):bodyPost P fn (tN sz n ag E f w0) .ret a w:=by
 obtain⟨β,hI⟩:=hI
 have hx:=List.mem_of_getElem? hk
 have hO:=(aG rfl).1 (hI.var _ hx rfl)
 have hB:lN sz n ag E f v (β id) w:=hO.2.out
 obtain⟨k1,nk⟩:=dh h1
 have es:sl a s=v:=(hI.gD _ (List.mem_of_getElem? nk) rfl rfl).out
 rcases hB with⟨_,e,_⟩|⟨bb,cap,cur,e,k2,k3,k4,k5,k6,k7,k8⟩
 ·omega
 ·have hb:=(hO.1 bb ((k2 bb).2 rfl)).1
  have hb2:w0.heap.size<=bb:=hb.elim (λh=>h) λh=>h.elim
  refine gG hI (v:=sl a s) ?_ ⟨bb,cap,by rw[es,e],hI.below.below (λ_ h=>h),hb2,.inr ⟨bb,cap,cur,rfl,λ_=>Iff.rfl,k3,k4,k5,k6,k7,k8⟩⟩
  rw[cR,hr]
  simp[lJ,sl]
variable {b:Nat}
theorem AB {w:World} (h:One b (cap*sz) (E6 sz n ag f) w) (hn:n<=cap/\cap<=maxLen):bz sz ag n f w (.slice (some ⟨b,0,none⟩) n cap):=by
 obtain⟨cs,T,h1,h2,h3,ds,e,h4⟩:=h
 have e':cs=ds:=by
  have h:(Value.agg cs.toArray)=.agg ds.toArray:=e
  injection h with h
  exact congrArg Array.toList h
 subst e'
 refine⟨_,cap,rfl,hn.1,hn.2,λ_=>⟨b,0,rfl,λq hq=>⟨(cs.drop (q*sz)).take sz,?_,λj v hj=>?_,h4 q hq⟩⟩⟩
 ·have:=Nat.mul_le_mul_right sz (Nat.lt_of_lt_of_le hq hn.1)
  rw[Nat.succ_mul]at this
  rw[List.length_take,List.length_drop]
  omega
 ·rw[Nat.zero_add]
  exact fZ h1 _ _ j v hj
theorem za (h:aT c V [] G none_ β a w) (hk:V[n0]?=some (cg id b (cap*sz) (E6 sz n ag f))) (hn:n<=cap/\cap<=maxLen):aL (minus (own c V none_ β) (β id)) (λw=>bz sz ag n f w (.slice (some ⟨b,0,none⟩) n cap)) w:=by
 have hO:=((aG rfl).1 (h.var _ (List.mem_of_getElem? hk) rfl)).2
 exact hO.imp λw' h=>AB h.2 hn
variable {fx:Operand} {ts:Array TypeId}
theorem xZ {f:FuncId} {args:Array Operand} {K:Act->World->Prop} (hf:aJ P f) (Hy:a.eval fx=.func (.func f) #[] #[]) (h:Calls P f (args.map a.eval) w λe w'=>∃v,e=.returned v/\K (a.put (some d) v) w'):
  Does P ⟨some d,.call ⟨.value fx,args,ts⟩,ty,pos,aI,none⟩ a w K:=by
 have hr:(execOp a.eval ⟨some d,.call ⟨.value fx,args,ts⟩,ty,pos,aI,none⟩).run P w=.ok (.enter f (args.map a.eval)) w:=by
  have:=hf (args.map a.eval++#[]) w
  simp only[execOp,resolve,Hy,Deferred.ofValue,pure_bind,invoke]
  rw[Array.append_empty]at this
  first|exact this|simpa using this
 unfold Does
 rw[hr]
 exact h
variable {Cu:Nat} {Co:Bool} {g f2:Nat->Pred} {φ:Prop}
theorem zf {f:FuncId} (gB:φ->∀(M:Nat->Nat->Prop) w v1,cQ M w->aL M (λw=>bz sz ag n g w v1) w->Calls P f #[v1] w (tN Cu m Co E f2 w)) (hφ:φ) (Ab:∀i,av (f2 i)) (hk:V[n0]?=some (cg id b (cap*sz) (E6 sz n ag g)):=by exact rfl) (hc:n<=cap/\cap<=maxLen:=by assumption) (hx:Has [0] G 0 fx (bg (.func (.func f) #[] #[])):=by exact hs) (h1:Has [0] G 0 x (bg (.slice (some ⟨b,0,none⟩) n cap)):=by exact hs)
  (hf:aJ P f:=by exactλ_ _=>by kernel_rfl) (hd:decide (d<c.N)=true:=by kernel_rfl) (hV:(V.all λy=>(y.slot != d&&y.id != d)&&(y.born.isNone&&y.dead.isNone))=true:=by kernel_rfl) (hG:(G.all λe=>e.slot != d)=true:=by kernel_rfl):∀a w,Inv c V [] G none_ a w ->
  bR P ops ⟨some d,.call ⟨.value fx,#[x],ts⟩,ty,pos,aI,none⟩ a w (λa w=>∃b2 dB,Inv c (iL d Cu m Co E f2 (.slice (some ⟨b2,0,none⟩) m dB)::V) [] (⟨none,none,d,bg (.slice (some ⟨b2,0,none⟩) m dB)⟩::G) none_ a w):=by
 rintro a w ⟨β,hI⟩
 have ex:a.eval x=.slice (some ⟨b,0,none⟩) n cap:=(h1.spec hI iS).out
 have hrow:=za hI hk hc
 rw[<-ex]at hrow
 refine .of rfl (xZ hf (hx.spec hI iS).out (Calls.mono (by
  rw[show(#[x]:Array Operand).map a.eval=#[a.eval x] by simp]
  exact gB hφ _ w _ (kD (aS hI)) hrow) ?_))
 rintro e w' ⟨b2,dB,rfl,hb,hrb,ho⟩
 have hblk:=fB ho b2 rfl
 exact⟨_,rfl,b2,dB,hI.tR (R:=λB w=>lN Cu m Co E f2 (.slice (some ⟨b2,0,none⟩) m dB) B w) hb hrb hblk.1 hblk.2 (λM hM w'' he=>ho.keep Ab (λk o hk=>hM k o hk.1) he λk hk=>he.block k (fB ho k hk).1 λo hh=>hh.2 hk) (of_decide_eq_true hd) hV hG⟩
variable {q q' p p1 q1:Pred}
theorem Oo {f:FuncId} (gB:φ->∀(M:Nat->Nat->Prop) (w:World) (v1:Value),cQ M w->(∀o,¬M b o)->One b n q w->aL (iK M b) (λw=>p1 w v1) w->Calls P f #[v1] w (pU M b n p q' w))
  (hk:V[n0]?=some (cg id b n q):=by exact rfl) (h1:Has [0] G 0 x q1:=by exact hs) (c1:∀w v,q1 w v->p1 w v:=by exact qj) (hφ:φ:=by first|omega|trivial) (hp:av p:=by exact xH) (hq:av q':=by exact xH) (hf:aJ P f:=by exactλ_ _=>by kernel_rfl)
  (hV:bE V=true:=by kernel_rfl) (hG:cw G=true:=by kernel_rfl) (hu:eu V id n0=true:=by kernel_rfl) (hd':decide (d<c.N)=true:=by kernel_rfl) (C9:(V.all λx=>x.slot != d)=true:=by kernel_rfl) (EU:(G.all λx=>x.slot != d)=true:=by kernel_rfl):
  ∀a w,Inv c V [] G none_ a w->bR P ops ⟨some d,.call ⟨.value (.func f),#[x],ts⟩,ty,pos,aI,none⟩ a w (Inv c (V.set n0 (cg id b n q')) [] (⟨none,none,d,p⟩::G) none_):=λa w hI=>
 rQ hf hI hk hp hq (λβ h=>by
  have hx0:=List.mem_of_getElem? hk
  obtain⟨hβ,hone⟩:(∀k,β id k↔k=b)/\One b n q w:=((aG rfl).1 (h.var _ hx0 rfl)).2.out
  rw[show(#[x]:Array Operand).map a.eval=#[a.eval x] by simp]
  exact gB hφ _ w _ (kD (aS h)) (λo ho=>ho.2 ((hβ b).2 rfl)) hone ((rz h hk (h1.spec h iS)).imp λw=>c1 w _)) hV hG hu hd' C9 EU
theorem QX {p2 q2:Pred} {f:FuncId} (gB:φ->∀(M:Nat->Nat->Prop) (w:World) (v1 v2:Value),cQ M w->(∀o,¬M b o)->One b n q w->aL (iK M b) (λw=>p1 w v1) w->aL (iK M b) (λw=>p2 w v2) w->Calls P f #[v1,v2] w (pU M b n p q' w))
  (hk:V[n0]?=some (cg id b n q):=by exact rfl) (h1:Has [0] G 0 x q1:=by exact hs) (c1:∀w v,q1 w v->p1 w v:=by exact qj) (h2:Has [0] G 0 y q2:=by exact hs) (c2:∀w v,q2 w v->p2 w v:=by exact qj) (hφ:φ:=by first|omega|trivial) (hp:av p:=by exact xH) (hq:av q':=by exact xH) (hf:aJ P f:=by exactλ_ _=>by kernel_rfl)
  (hV:bE V=true:=by kernel_rfl) (hG:cw G=true:=by kernel_rfl) (hu:eu V id n0=true:=by kernel_rfl) (hd':decide (d<c.N)=true:=by kernel_rfl) (C9:(V.all λx=>x.slot != d)=true:=by kernel_rfl) (EU:(G.all λx=>x.slot != d)=true:=by kernel_rfl):
  ∀a w,Inv c V [] G none_ a w->bR P ops ⟨some d,.call ⟨.value (.func f),#[x,y],ts⟩,ty,pos,aI,none⟩ a w (Inv c (V.set n0 (cg id b n q')) [] (⟨none,none,d,p⟩::G) none_):=λa w hI=>
 rQ hf hI hk hp hq (λβ h=>by
  have hx0:=List.mem_of_getElem? hk
  obtain⟨hβ,hone⟩:(∀k,β id k↔k=b)/\One b n q w:=((aG rfl).1 (h.var _ hx0 rfl)).2.out
  rw[show(#[x,y]:Array Operand).map a.eval=#[a.eval x,a.eval y] by simp]
  exact gB hφ _ w _ _ (kD (aS h)) (λo ho=>ho.2 ((hβ b).2 rfl)) hone ((rz h hk (h1.spec h iS)).imp λw=>c1 w _) ((rz h hk (h2.spec h iS)).imp λw=>c2 w _)) hV hG hu hd' C9 EU
theorem Kj {e:Ending} {w':World} (hM:cQ M w) (hn:∀i,av (f i)) (h:tN sz n ag E f w e w'):bV M (bz sz ag n f) w e w':=by
 obtain⟨b,cap,rfl,h1,h2,h3⟩:=h
 refine⟨_,rfl,λw'' he=>?_,h1⟩
 have hb:∀k,k=b->w''.heap[k]?=w'.heap[k]?:=λk hk=>by
  subst hk
  exact he.block k (fB h3 k rfl).1 λo ho=>absurd (hM k o ho).1 (by omega)
 rcases h3.keep hn (hM.below h1) he hb with⟨e,_⟩|⟨bb,cap',cur,e,_,d3,d4,d5,d6,_,d8⟩
 ·injection e with e; cases e
 ·rw[e]
  refine⟨_,cap',rfl,d5,d6,λ_=>⟨bb,0,rfl,λq hq=>⟨(cur.drop (q*sz)).take sz,?_,λj v hj=>?_,d8 q hq⟩⟩⟩
  ·have:=Nat.mul_le_mul_right sz (Nat.lt_of_lt_of_le hq d5)
   rw[Nat.succ_mul]at this
   rw[List.length_take,List.length_drop]
   omega
  ·rw[Nat.zero_add]
   exact fZ d3 _ _ j v hj
theorem QZ {ms:List Nat} {A:List Al} {i:Nat} {f:FuncId} {v:Vr} (gB:φ->∀(M:Nat->Nat->Prop) (w:World) (v1:Value),cQ M w->aL M (λw=>bz sz ag n g w v1) w->Calls P f #[v1] w (tN Cu m Co E f2 w)) (N:Nat) (hφ:φ) (Ab:∀i,av (f2 i)) (hv:jv N V=some v:=by exact rfl) (ho:aX ms i v=true:=by exact rfl) (bD:v.kd=.obj:=by exact rfl) (hst:(v.st.all λq=>(q.1==i||(ms.getD i 0).testBit q.1)||(ms.getD q.1 0).testBit i)=true:=by kernel_rfl)
  (hc:cont (λj=>(ms.getD i 0).testBit j) v.c0 v.st=kN b (cap*sz) (E6 sz n ag g):=by exact rfl) (hcap:n<=cap/\cap<=maxLen:=by assumption) (hx:Has ms G i fx (bg (.func (.func f) #[] #[])):=by exact hs) (h1:Has ms G i x (bg (.slice (some ⟨b,0,none⟩) n cap)):=by exact hs) (hp:Post G i (bz Cu Co m f2):=by exact pt rfl) (hf:aJ P f:=by exactλ_ _=>by kernel_rfl):OpOk P ops ms c V A G i ⟨some d,.call ⟨.value fx,#[x],ts⟩,ty,pos,aI,none⟩:=by
 obtain⟨⟨j,hj⟩,_⟩:=cC hv
 refine wL hf hx hp λL β a w hI hd=>?_
 have hH:=(yK hI hd (List.mem_of_getElem? hj) ho bD).2
 rw[qg hd hst,hc]at hH
 have ex:a.eval x=.slice (some ⟨b,0,none⟩) n cap:=(h1.spec hI hd).out
 rw[show(#[x]:Array Operand).map a.eval=#[a.eval x] by simp,ex]
 exact(gB hφ _ w _ (kD (aS hI)) (hH.imp λw' h=>AB h.2 hcap)).mono λ_ _ r=>Kj (aS hI) Ab r
theorem jZ {d:Nat} (FI:e<c.N) (fV:∀x,x∈V->x.slot≠e) (fG:∀x,x∈G->x.slot≠e) {a:Act} {w:World} (h:Inv c V [] (⟨none,none,d,bg v⟩::G) none_ a w):bR P ops ⟨some e,.assign (.tmp d),ty2,pos2,aft2,none⟩ a w (Inv c V [] (⟨none,none,e,bg v⟩::G) none_):=by
 obtain⟨β,hI⟩:=h
 have hv:a.eval (.tmp d)=v:=(hI.gD ⟨none,none,d,bg v⟩ (List.mem_cons_self ..) rfl rfl).out
 have zY:=hI.tg (G':=G) λe he=>List.mem_cons_of_mem _ he
 refine .of rfl ?_
 unfold Does
 have hr:(execOp a.eval ⟨some e,.assign (.tmp d),ty2,pos2,aft2,none⟩).run P w=.ok (.value v) w:=by rw[<-hv]; rfl
 rw[hr]
 exact⟨β,zY.mK FI fV fG λ_ _=>rfl⟩
theorem Lo {f:FuncId} (gB:φ->∀(M:Nat->Nat->Prop) (w:World) (v1:Value),cQ M w->(∀o,¬M b o)->One b n q w->aL (iK M b) (λw=>p1 w v1) w->Calls P f #[v1] w (pU M b n (bg v) q' w)) (hφ:φ) (hq:av q')
  (hk:V[n0]?=some (cg id b n q):=by exact rfl) (h1:Has [0] G 0 x q1:=by exact hs) (c1:∀w v,q1 w v->p1 w v:=by exact qj) (hf:aJ P f:=by exactλ_ _=>by kernel_rfl)
  (hV:bE V=true:=by kernel_rfl) (hG:cw G=true:=by kernel_rfl) (hu:eu V id n0=true:=by kernel_rfl) (hd':decide (d<c.N)=true:=by kernel_rfl) (C9:(V.all λx=>x.slot != d)=true:=by kernel_rfl) (EU:(G.all λx=>x.slot != d)=true:=by kernel_rfl) (he':decide (e<c.N)=true:=by kernel_rfl) (FF:(V.all λx=>x.slot != e)=true:=by kernel_rfl) (Hu:(G.all λx=>x.slot != e)=true:=by kernel_rfl):
  eI P ops (Inv c V [] G none_) [⟨some d,.call ⟨.value (.func f),#[x],ts⟩,ty,pos,aI,none⟩,⟨some e,.assign (.tmp d),ty2,pos2,aft2,none⟩] (Inv c (V.set n0 (cg id b n q')) [] (⟨none,none,e,bg v⟩::G) none_):=by
 refine⟨_,Oo gB hk h1 c1 hφ (bu v) hq hf hV hG hu hd' C9 EU,_,λa w h=>jZ (of_decide_eq_true he') (λx hx=>?_) (λx hx=>?_) h,rfl⟩
 ·rw[List.all_eq_true]at FF
  rcases List.mem_or_eq_of_mem_set hx with hx|rfl
  ·simpa using FF x hx
  ·simpa using FF _ (List.mem_of_getElem? hk)
 ·rw[List.all_eq_true]at Hu
  simpa using Hu x hx
theorem Q0 {f:FuncId} (gB:φ->∀(M:Nat->Nat->Prop) w v1,cQ M w->aL M (λw=>bz sz ag n g w v1) w->Calls P f #[v1] w (tN Cu m Co E f2 w)) (hφ:φ) (Ab:∀i,av (f2 i)) (hk:V[n0]?=some (cg id b (cap*sz) (E6 sz n ag g)):=by exact rfl) (hc:n<=cap/\cap<=maxLen:=by assumption) (hx:Has [0] G 0 fx (bg (.func (.func f) #[] #[])):=by exact hs) (h1:Has [0] G 0 x (bg (.slice (some ⟨b,0,none⟩) n cap)):=by exact hs)
  (hf:aJ P f:=by exactλ_ _=>by kernel_rfl) (hd:decide (d<c.N)=true:=by kernel_rfl) (hV:(V.all λy=>(y.slot != d&&y.id != d)&&(y.born.isNone&&y.dead.isNone))=true:=by kernel_rfl) (hG:(G.all λe=>e.slot != d)=true:=by kernel_rfl) (he':decide (e<c.N/\d≠e)=true:=by kernel_rfl) (FF:(V.all λx=>x.slot != e)=true:=by kernel_rfl) (Hu:(G.all λx=>x.slot != e)=true:=by kernel_rfl):
  eI P ops (Inv c V [] G none_) [⟨some d,.call ⟨.value fx,#[x],ts⟩,ty,pos,aI,none⟩,⟨some e,.assign (.tmp d),ty2,pos2,aft2,none⟩] (λa w=>∃b2 dB,(m<=dB/\dB<=maxLen)/\Inv c (iL d Cu m Co E f2 (.slice (some ⟨b2,0,none⟩) m dB)::V) [] (⟨none,none,e,bg (.slice (some ⟨b2,0,none⟩) m dB)⟩::G) none_ a w):=by
 have he:=of_decide_eq_true he'
 rw[List.all_eq_true]at FF Hu
 refine⟨_,zf gB hφ Ab hk hc hx h1 hf hd hV hG,_,?_,rfl⟩
 rintro a w ⟨b2,dB,hI⟩
 have hbd:m<=dB/\dB<=maxLen:=by
  obtain⟨β,h⟩:=hI
  exact lN.bound (((aG rfl).1 (h.var _ (List.mem_cons_self ..) rfl)).2.out)
 have h:=jZ (P:=P) (ops:=ops) (ty2:=ty2) (pos2:=pos2) (aft2:=aft2) he.1 (λx hx=>by
  rcases List.mem_cons.1 hx with rfl|hx
  ·exact he.2
  ·simpa using FF x hx) (λx hx=>by simpa using Hu x hx) hI
 exact h.mono λ_ _ h=>⟨b2,dB,hbd,h⟩
theorem CN {d:Nat} {tx:TypeId} {s:Value} {x y:Operand} {ty:TypeId} {pos:String} {aI:Array Edge} (f':Nat->Pred) (hf':∀i w v,(if i<m then f i else g (i-m)) w v->i<m+n->f' i w v) (yn:0<n) (hk:V[n0]?=some (iL id sz m ag E f s):=by exact rfl) (h1:Has [0] G 0 x (bg s):=by exact hs) (h2:Has [0] G 0 y (bz sz ag n g):=by exact hs) (hmax:m+n<=1073741824:=by omega)
  (hnf:∀i,av (f i):=by intro i; exact xH) (hng:∀i,av (g i):=by intro i; exact xH) (hfit:∀i,Fits sz ag (g i):=by intro i; exact qx) (hagg:ag=false->sz=1:=by intro h; first|cases h|rfl) (ht:xN P T tx E sz=true:=by kernel_rfl) (hV:bE V=true:=by kernel_rfl) (hG:cw G=true:=by kernel_rfl) (hu:eu V id n0=true:=by kernel_rfl) (hfr:nZ V G d e c.N=true:=by kernel_rfl):
  eI P ops (Inv c V [] G none_) [⟨some d,.call ⟨.builtin .append,#[x,y],#[T,tx]⟩,ty,pos,aI,none⟩,⟨some e,.assign (.tmp d),ty2,pos2,aft2,none⟩] (λa w=>∃s',Inv c (V.set n0 (iL id sz (m+n) ag E f' s')) [] (⟨none,none,e,bg s'⟩::G) none_ a w):=by
 unfold nZ at hfr
 simp only[Bool.and_eq_true,List.all_eq_true,decide_eq_true_eq,bne_iff_ne]at hfr
 obtain⟨fV,fG,Hx,FI,ND⟩:=hfr
 refine⟨λa w=>∃s',Inv c (V.set n0 (iL id sz (m+n) ag E f' s')) [] (⟨none,none,d,bg s'⟩::G) none_ a w,?_,_,?_,rfl⟩
 ·rintro a w ⟨β,hI⟩
  have hx0:=List.mem_of_getElem? hk
  have hO:=(aG rfl).1 (hI.var _ hx0 rfl)
  have hB:aL (minus (own c V none_ β) (β id)) (λw=>lN sz m ag E f s (β id) w) w:=hO.2
  have FH:∀k,β id k->∀o,own c V none_ β k o:=λk hk o=>.inr ⟨_,hx0,rfl,hk,Nat.zero_le _⟩
  obtain⟨w',X',s',hr,hle,Hw,hgr⟩:=qD (ty:=ty) (yv:=a.eval y) (aS hI) FH hB.out (h2.spec hI iS) (jA ht) hagg hfit hnf hng yn hmax
  have ex:a.eval x=s:=(h1.spec hI iS).out
  rw[<-ex]at hr
  have hn':∀i,av (if i<m then f i else g (i-m)):=λi=>by by_cases h:i<m<;>simp only[h,if_true,if_false]; exact hnf i; exact hng _
  refine .of rfl (de hr ⟨s',gZ β id X',?_⟩)
  have hm:=hI.move (B':=X') (R':=E7 sz (m+n) ag E f' s') (w':=w') hV hG hk (ew hu) hle Hw (fB hgr) ?_
  ·refine hm.mK Hx (λx hx=>?_) (λe he=>(fG e he).1) λ_ _=>rfl
   rcases List.mem_or_eq_of_mem_set hx with hx|rfl
   ·exact(fV x hx).1
   ·exact(fV _ hx0).1
  ·intro w'' he
   have jL:cQ (minus (own c V none_ β) (β id)) w':=λk o hk=>by
    obtain⟨k1,k2⟩:=aS hI k o hk.1
    exact⟨Nat.lt_of_lt_of_le k1 hle.size,λu eF=>k2 u (by rw[<-World.cell?_of_block (w:=w) (w':=w') (a:=⟨k,o,none⟩) (hle.block k k1 hk.2)]; exact eF)⟩
   have hb:∀k,X' k->w''.heap[k]?=w'.heap[k]?:=λk hk=>he.block k (fB hgr k hk).1 λo ho=>(Hw k hk).elim ho.2 λh=>absurd (aS hI k o ho.1).1 (Nat.not_lt.2 h)
   refine(hgr.keep hn' jL he hb).imp (λh=>h) ?_
   rintro⟨bb,cap,cur,j1,j2,j3,j4,j5,j6,j7,j8⟩
   exact⟨bb,cap,cur,j1,j2,j3,j4,j5,j6,j7,λi hi=>hf' i _ _ (j8 i hi) hi⟩
 ·rintro a w ⟨s',β,hI⟩
  have hv:a.eval (.tmp d)=s':=(hI.gD ⟨none,none,d,bg s'⟩ (List.mem_cons_self ..) rfl rfl).out
  have zY:=hI.tg (G':=G) λe he=>List.mem_cons_of_mem _ he
  have hx0:=List.mem_of_getElem? hk
  refine .of rfl ?_
  unfold Does
  have hr:(execOp a.eval ⟨some e,.assign (.tmp d),ty2,pos2,aft2,none⟩).run P w=.ok (.value s') w:=by rw[<-hv]; rfl
  rw[hr]
  refine⟨s',β,zY.mK FI (λx hx=>?_) (λe he=>(fG e he).2) λ_ _=>rfl⟩
  rcases List.mem_or_eq_of_mem_set hx with hx|rfl
  ·exact(fV x hx).2
  ·exact(fV _ hx0).2
end
end Wx
