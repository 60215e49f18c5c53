import Derived.Test.YtadigiledciihaaGreatJRB32
namespace Wx
open Go Go.RowKit
def One (b n:Nat) (q:Pred) (w:World):Prop:=∃(cs:List Value) (T:TypeId),w.heap[b]?=some (.cells cs.toArray T (0,0))/\cs.length=n/\(∀v∈cs,gR v)/\q w (ak true cs)
def D6 (b n:Nat) (q:Pred):Rel:=λB w _=>(∀k,B k↔k=b)/\One b n q w
abbrev eL (id b n:Nat) (q:Pred):Vr:=dY id id (D6 b n q)
variable {b n:Nat} {q:Pred} {w:World}
theorem One.lt (h:One b n q w):b<w.heap.size:=by
 obtain⟨cs,T,h1,_⟩:=h
 exact(Array.getElem?_eq_some_iff.1 h1).1
theorem One.Po (h:One b n q w):∀o v,w.cell? ⟨b,o,none⟩=some v->gR v:=by
 obtain⟨cs,T,h1,_,h3,_⟩:=h
 intro o v hv
 simp only[World.cell?,h1]at hv
 have:cs[o]?=some v:=by simpa using hv
 exact h3 v (List.mem_of_getElem? this)
theorem One.imp {q':Pred} (h:One b n q w) (hq:∀w v,q w v->q' w v):One b n q' w:=by
 obtain⟨cs,T,h1,h2,h3,h4⟩:=h
 exact⟨cs,T,h1,h2,h3,hq _ _ h4⟩
theorem One.box {M:Nat->Nat->Prop} {B:Nat->Prop} (h:One b n q w) (hB:B b) (hn:au q) (hM:dR M w):aQ (minus M B) (One b n q) w:=by
 obtain⟨cs,T,h1,h2,h3,h4⟩:=h
 intro w' he
 exact⟨cs,T,(he.block b ((Array.getElem?_eq_some_iff.1 h1).1) λo ho=>ho.2 hB).trans h1,h2,h3,hn _ w _ (λk o hk=>hM k o hk.1) h4 w' he⟩
section
variable {P:Program} {ops:Array Oper} {ms:List Nat} {c:dg} {V:List Vr} {A:List Al} {G:List aX} {i:Nat}{d:Nat} {x y z:Operand} {ty:TypeId} {pos:String} {aI:Array Edge}{b n:Nat} {q:Pred} {v:Vr}
theorem MH {L:Nat->Bool} {β:Nat->Nat->Prop} {a:Act} {w:World} (hI:aY c V A G L β a w) (hd:lZ ms i L) (hv:v∈V) (ho:bE ms i v=true) (cg:v.kd=.obj) (hst:(v.st.all λq=>(q.1==i||(ms.getD i 0).testBit q.1)||(ms.getD q.1 0).testBit i)=true)
  (hc:cont (λj=>(ms.getD i 0).testBit j) v.c0 v.st=D6 b n q):(∀k,β v.id k↔k=b)/\One b n q w:=by
 have hH:=(AZ hI hd hv ho cg).2.out
 rw[rR hd hst,hc]at hH
 exact hH
theorem Gm {T:TypeId} {off m:Nat} {ag:Bool} {p:Pred} (k:Nat) (hk:V[k]?=some v) (ho:bE ms i v=true) (cg:v.kd=.obj) (hst:(v.st.all λq=>(q.1==i||(ms.getD i 0).testBit q.1)||(ms.getD q.1 0).testBit i)=true)
  (hc:cont (λj=>(ms.getD i 0).testBit j) v.c0 v.st=D6 b n q) (h:Has ms G i y (bR (.pointer (some ⟨b,off,none⟩)))) (hlen:off+m<=n) (ht:Ty P T ag m) (hq:∀w cs,cs.length=n->q w (ak true cs)->p w (ak ag ((cs.drop off).take m))) (hn:au p) (hp:Post G i p):
  OpOk P ops ms c V A G i ⟨some d,.load T y,ty,pos,aI,none⟩:=
 cm rfl rfl rfl (.inl rfl) hp λL β a w hI hd=>by
  obtain⟨_,cs,t,h1,h2,h3,h4⟩:=MH hI hd (List.mem_of_getElem? hk) ho cg hst hc
  have hy:a.eval y=.pointer (some ⟨b,off,none⟩):=(h.spec hI hd).out
  refine⟨ak ag ((cs.drop off).take m),w,?_,Below.refl _ _,hn _ w _ (bB hI) (hq w cs h2 h4)⟩
  show(do pure (Next.value (<-Instr.loadAt T (a.eval y)))).run P w=_
  rw[hy,Sem.run_bind,fk (cs:=(cs.drop off).take m) ht (ic h1 off m) (by rw[List.length_take,List.length_drop]; omega)]
  rfl
end
variable {V:List Vr} {N:Nat}
theorem vO {b n:Nat} {q q':Pred} (hq:∀w v,q w v->q' w v:=by exactλ_ _ h=>h) (h:lW N V=some (eL N b n q):=by exact rfl):∃r:Rel,lW (eL N b n q').id V=some ⟨(eL N b n q').id,(eL N b n q').slot,none,none,(eL N b n q').kd,(eL N b n q').T,(eL N b n q').n,(eL N b n q').agg,r,[]⟩/\((eL N b n q').born=none/\(eL N b n q').dead=none/\(eL N b n q').st=[])/\∀F w v,r F w v->(eL N b n q').c0 F w v:=
 ⟨_,h,⟨rfl,rfl,rfl⟩,λ_ _ _ h=>⟨h.1,h.2.imp hq⟩⟩
theorem vA {s:Nat} {R:Rel} (h:lW N V=some (dY N s R):=by exact rfl):∃r:Rel,lW (dY N s R).id V=some ⟨(dY N s R).id,(dY N s R).slot,none,none,(dY N s R).kd,(dY N s R).T,(dY N s R).n,(dY N s R).agg,r,[]⟩/\((dY N s R).born=none/\(dY N s R).dead=none/\(dY N s R).st=[])/\∀F w v,r F w v->(dY N s R).c0 F w v:=⟨_,h,⟨rfl,rfl,rfl⟩,λ_ _ _ h=>h⟩
def vV (M:Nat->Nat->Prop) (b n:Nat) (p q:Pred) (w:World) (e:Ending) (w':World):Prop:=∃v,e=.returned v/\aQ M (λw=>p w v) w'/\de (·=b) w w'/\One b n q w'
abbrev kK (M:Nat->Nat->Prop) (b:Nat) (k o:Nat):Prop:=M k o\/k=b
section
variable {P:Program} {c:dg} {V:List Vr} {G:List aX} {a:Act} {w:World} {x y z:Operand} {d:Nat} {ty:TypeId} {pos:String} {aI:Array Edge}{id b n n0:Nat} {q:Pred}
theorem tL {q' p:Pred} {f:FuncId} {args:Array Operand} {ts:Array TypeId} {ops:Array Oper} (hf:aL P f) (h:Inv c V [] G none_ a w) (hk:V[n0]?=some (eL id b n q)) (hp:au p) (hq:au q')
  (hc:∀β,aY c V [] G none_ β a w->Calls P f (args.map a.eval) w (vV (minus (own c V none_ β) (β id)) b n p q' w))
  (hV:cq V=true) (hG:dn G=true) (hu:gv V id n0=true) (hd':decide (d<c.N)=true) (IE:(V.all λx=>x.slot != d)=true) (Kf:(G.all λx=>x.slot != d)=true):
  cO P ops ⟨some d,.call ⟨.value (.func f),args,ts⟩,ty,pos,aI,none⟩ a w (Inv c (V.set n0 (eL id b n q')) [] (⟨none,none,d,p⟩::G) none_):=by
 obtain⟨β,hI⟩:=h
 have hx0:=List.mem_of_getElem? hk
 obtain⟨hβ,hone⟩:(∀k,β id k↔k=b)/\One b n q w:=((aJ rfl).1 (hI.var _ hx0 rfl)).2.out
 refine .of rfl (mm hf ((hc β hI).mono ?_))
 rintro e w' ⟨v,rfl,h1,h2,h3⟩
 refine⟨v,rfl,jE β id (β id),?_⟩
 have hle:de (β id) w w':=⟨h2.os,h2.tape,h2.output,h2.size,λk hk hn=>h2.block k hk λe=>hn ((hβ k).2 e)⟩
 have wK:dR (own c V none_ β) w':=λk o hk=>by
  obtain⟨k1,k2⟩:=bB hI k o hk
  refine⟨Nat.lt_of_lt_of_le k1 h2.size,λu xG=>?_⟩
  by_cases hkb:k=b
  ·exact h3.Po o u (by rw[<-hkb]; exact xG)
  ·rw[World.cell?_of_block (w:=w) (a:=⟨k,o,none⟩) (h2.block k k1 hkb)]at xG
   exact k2 u xG
 have hm:=hI.move (B':=β id) (R':=D6 b n q') hV hG hk (iG hu) hle (λk hk=>.inl hk) (λk hk=>by rw[(hβ k).1 hk]; exact⟨h3.lt,h3.Po⟩) ((h3.box ((hβ b).2 rfl) hq wK).imp λw h=>⟨hβ,h⟩)
 rw[List.all_eq_true]at IE Kf
 refine hm.pL (of_decide_eq_true hd') (λx hx=>?_) (λe he=>by simpa using Kf e he) ?_
 ·rcases List.mem_or_eq_of_mem_set hx with hx|rfl
  ·simpa using IE x hx
  ·simpa using IE _ hx0
 ·exact hp _ w' v (bB hm) h1.out
theorem tg {β:Nat->Nat->Prop} (h:aY c V [] G none_ β a w) (hk:V[n0]?=some (eL id b n q)) {F:World->Prop} (hF:aQ (own c V none_ β) F w):aQ (kK (minus (own c V none_ β) (β id)) b) F w:=by
 have hx0:=List.mem_of_getElem? hk
 obtain⟨hβ,hone⟩:(∀k,β id k↔k=b)/\One b n q w:=((aJ rfl).1 (h.var _ hx0 rfl)).2.out
 exact hF.sub λk o _ hk'=>hk'.elim (λh=>h.1) λe=>.inr ⟨_,hx0,rfl,(hβ k).2 e,Nat.zero_le _⟩
end
end Wx

namespace Wx
open Go Go.RowKit
section
variable {P:Program} {ops:Array Oper} {ms:List Nat} {c:dg} {V:List Vr} {A:List Al} {G:List aX} {i:Nat}{d:Nat} {x y z:Operand} {ty:TypeId} {pos:String} {aI:Array Edge}
theorem QO {T:TypeId} (J n:Nat) (hJ:1<=J:=by omega) (hp:Post G i (pV bg J (List.replicate n 0)):=by exact pt rfl) (hr:P.built T []=some ((List.replicate n Zl.r).flatMap Zl.cs).toArray:=by kernel_rfl):OpOk P ops ms c V A G i ⟨some d,.build T #[],ty,pos,aI,none⟩:=
 Jr rfl rfl rfl rfl hp λρ w=>⟨.agg ((List.replicate n Zl.r).flatMap Zl.cs).toArray,by
  show(do pure (Next.value (<-Instr.build T ((#[]:Array (Nat×Operand)).map λ(q:Nat×Operand)=>(q.1,ρ q.2))))).run P w=_
  rw[show(#[]:Array (Nat×Operand)).map (λ(q:Nat×Operand)=>(q.1,ρ q.2))=#[] by simp,Sem.run_bind,run_build w T _ _ hr]
  rfl,λw=>by
  have h:=xC (List.replicate n Zl.r) w
  rw[List.map_replicate]at h
  refine vz hJ _ _ ?_
  show pS ((List.replicate n (0:Rat)).map (uc bg 1)) w _
  rw[List.map_replicate]
  exact h⟩
end
section
variable {P:Program} {w:World} {fn:Func}{f:FuncId} {C:Code} {v0:Value} {M:Nat->Nat->Prop} {p p0:Pred} {N:Nat}
theorem Td (hf:P.funcs[f]?=some fn) (hb:fn.body=some C) (hN:fn.ntmps=N) (hM:dR M w) (h0:aQ M (λw=>p0 w v0) w) (h:∀a,Inv ⟨N,w,M,λ_=>False⟩ [] [] [Uz 0 p0] none_ a w->C.ww none [] P (vD P fn (cA M p w)) a w) (hlen:decide ([v0].length<=N)=true:=by kernel_rfl):Calls P f #[v0] w (cA M p w):=
 uD (vs:=[v0]) hf hb hN hlen hM (show eF M w [v0] [Uz 0 p0]from⟨⟨rfl,_,rfl,h0⟩,trivial⟩) h
theorem Te {v1:Value} {p1:Pred} (hf:P.funcs[f]?=some fn) (hb:fn.body=some C) (hN:fn.ntmps=N) (hM:dR M w) (h0:aQ M (λw=>p0 w v0) w) (h1:aQ M (λw=>p1 w v1) w) (h:∀a,Inv ⟨N,w,M,λ_=>False⟩ [] [] [Uz 0 p0,Uz 1 p1] none_ a w->C.ww none [] P (vD P fn (cA M p w)) a w) (hlen:decide ([v0,v1].length<=N)=true:=by kernel_rfl):Calls P f #[v0,v1] w (cA M p w):=
 uD (vs:=[v0,v1]) hf hb hN hlen hM (show eF M w [v0,v1] [Uz 0 p0,Uz 1 p1]from⟨⟨rfl,_,rfl,h0⟩,⟨rfl,_,rfl,h1⟩,trivial⟩) h
end
end Wx

namespace Wx
open Go Go.RowKit
section
variable {P:Program} {ops:Array Oper} {ms:List Nat} {c:dg} {V:List Vr} {A:List Al} {G:List aX} {i:Nat} {L:Nat->Bool} {β:Nat->Nat->Prop} {a:Act} {w:World} {o:Oper}{d:Nat} {x y z:Operand} {ty:TypeId} {pos:String} {aI:Array Edge}{fn:Func}
end
end Wx

namespace Wx
open Go Go.RowKit
section
variable {c:dg} {V:List Vr} {G:List aX} {a:Act} {w:World}
end
section
variable {P:Program} {ops:Array Oper} {ms:List Nat} {c:dg} {V:List Vr} {A:List Al} {G:List aX} {i:Nat} {d:Nat} {x y z u:Operand} {ty:TypeId} {pos:String} {aI:Array Edge}
theorem Gp {ts:Array TypeId} (h1:Has ms G i x (pI 0)) (h2:Has ms G i y (pI 0)) (h3:Has ms G i z (pI 0)) (h4:Has ms G i u (pI 0)) (hp:Post G i (pI 0)):OpOk P ops ms c V A G i ⟨some d,.call ⟨.builtin .max,#[x,y,z,u],ts⟩,ty,pos,aI,none⟩:=
 cm rfl rfl rfl (.inl rfl) hp λL β a w hI hd=>by
  have h1:a.eval x=.int .i64 0:=(h1.spec hI hd).out
  have h2:a.eval y=.int .i64 0:=(h2.spec hI hd).out
  have h3:a.eval z=.int .i64 0:=(h3.spec hI hd).out
  have h4:a.eval u=.int .i64 0:=(h4.spec hI hd).out
  refine⟨.int .i64 0,w,?_,Below.refl _ _,λ_ _=>rfl⟩
  show(do let d <-resolve a.eval ⟨.builtin .max,#[x,y,z,u],ts⟩ ty; invoke d.target d.args).run P w=_
  simp only[resolve,invoke,pure_bind,builtin]
  rw[show(#[x,y,z,u]:Array Operand).map a.eval=#[a.eval x,a.eval y,a.eval z,a.eval u] by simp,h1,h2,h3,h4]
  rfl
end
end Wx

namespace Wx
open Go Go.RowKit
section
variable {P:Program} {ops:Array Oper} {ms:List Nat} {c:dg} {V:List Vr} {A:List Al} {G:List aX} {i:Nat} {L:Nat->Bool} {β:Nat->Nat->Prop} {a:Act} {w:World} {o:Oper}{d:Nat} {x y z:Operand} {ty:TypeId} {pos:String} {aI:Array Edge}
theorem Bb {T E:TypeId} {sz n m:Nat} {ag:Bool} {f:Nat->Pred} (h:Has ms G i x (bk sz ag n f)) (hy:Has ms G i y (pI (m:Int))) (ht:mU P T E sz) (hm:m<=n) (hp:Post G i (bk sz ag m f)):OpOk P ops ms c V A G i ⟨some d,.slice T x none (some y) none,ty,pos,aI,none⟩:=
 cm rfl rfl rfl (.inl rfl) hp λL β a w hI hd=>by
  have k:=h.spec hI hd
  obtain⟨A',cap,ex,h1,h2,_⟩:=k.out
  have ex:a.eval x=.slice A' n cap:=ex
  have ey:a.eval y=.int .i64 m:=(hy.spec hI hd).out
  refine⟨.slice A' m cap,w,?_,Below.refl _ _,k.imp λw' ⟨A2,dU,e2,h3,h4,h5⟩=>?_⟩
  ·show(do pure (Next.value (<-Instr.sliceAt T (a.eval x) none (some (a.eval y)) none))).run P w=_
   rw[ex,ey]
   have hr:(Instr.sliceAt T (.slice A' n cap) none (some (.int .i64 m)) none).run P w=.ok (.slice A' m cap) w:=by
    have e1:(Instr.sliceBound (.int .i64 m) cap .sliceAcap).run P w=.ok m w:=by
     have:=run_sliceBound (P:=P) w .i64 (m:Int) cap .sliceAcap (by omega) (by omega)
     simpa using this
    have e3:A'.map (λq=>q.add 0)=A':=by
     cases A' with
     |none=>rfl
     |some q=>rfl
    simp only[Instr.sliceAt,Sem.run_bind,run_underlying ht.under,Result.andThen_ok,Instr.slice,Instr.sliceBounds,Sem.run_pure]
    simp only[e1,Result.andThen_ok,ht.size w,Nat.zero_mul,Nat.sub_zero,e3,ite_self,if_true]
   rw[Sem.run_bind,hr]
   rfl
  ·have e2:a.eval x=.slice A2 n dU:=e2
   rw[ex]at e2
   injection e2 with e2 _ e4
   subst e2 e4
   exact⟨A',cap,rfl,by omega,h4,λh0=>by
    obtain⟨b,o',hA,hf⟩:=h5 (by omega)
    exact⟨b,o',hA,λq hq=>hf q (by omega)⟩⟩
end
end Wx

namespace Wx
open Go Go.RowKit
section
variable {P:Program} {ops:Array Oper} {ms:List Nat} {c:dg} {V:List Vr} {A:List Al} {G:List aX} {i:Nat}{d:Nat} {x y z:Operand} {ty:TypeId} {pos:String} {aI:Array Edge}{T:TypeId} {n:Nat}
theorem iX {b o' cap:Nat} (sz q:Nat) (h:Has ms G i x (bR (.slice (some ⟨b,o',none⟩) n cap)):=by exact hs) (hy:Has ms G i y (pI (q:Int)):=by exact(Wx.hs).imp (dD (by omega))) (h1:q<n:=by omega) (hp:Post G i (bR (.pointer (some ⟨b,o'+q*sz,none⟩))):=by exact pt rfl) (ht:Ia P T sz=true:=by kernel_rfl) (hA:(A.all λq=>q.tag != some i)=true:=by kernel_rfl):OpOk P ops ms c V A G i ⟨some d,.indexAddr T x y,ty,pos,aI,none⟩:=by
 obtain⟨E,hE⟩:=nD ht
 exact Ba h hy hE (by omega) (by omega) hA (by rw[Int.toNat_natCast]; exact hp)
variable {sz:Nat}
theorem UZ (E:TypeId) (ht:mU P T E sz:=by exact⟨by kernel_rfl,λ_=>by kernel_rfl⟩) (hp:Post G i wY:=by exact pt rfl):OpOk P ops ms c V A G i ⟨some d,.buildSlice T 0 #[],ty,pos,aI,none⟩:=td ht hp
variable {ag:Bool} {f:Nat->Pred}
theorem WN (m:Nat) (h:Has ms G i x (bk sz ag n f):=by exact hs) (hy:Has ms G i y (pI (m:Int)):=by exact hs) (hm:m<=n:=by omega) (hp:Post G i (bk sz ag m f):=by exact pt rfl) (ht:Ia P T sz=true:=by kernel_rfl):OpOk P ops ms c V A G i ⟨some d,.slice T x none (some y) none,ty,pos,aI,none⟩:=by
 obtain⟨E,hE⟩:=nD ht
 exact Bb h hy hE hm hp
theorem WO (m:Nat) (h:Has ms G i x (bk sz ag n f):=by exact hs) (hy:Has ms G i y (pI (m:Int)):=by exact hs) (hm:m<n:=by omega) (hp:Post G i (bk sz ag (n-m) λk=>f (m+k)):=by exact pt rfl) (ht:Ia P T sz=true:=by kernel_rfl):OpOk P ops ms c V A G i ⟨some d,.slice T x (some y) none none,ty,pos,aI,none⟩:=by
 obtain⟨E,hE⟩:=nD ht
 exact cm rfl rfl rfl (.inl rfl) hp λL β a w hI hd=>by
  have k:=h.spec hI hd
  obtain⟨A',cap,ex,h1,h2,h3⟩:=k.out
  have ex:a.eval x=.slice A' n cap:=ex
  have ey:a.eval y=.int .i64 m:=(hy.spec hI hd).out
  obtain⟨b,o,rfl,_⟩:=h3 (by omega)
  refine⟨.slice (some ⟨b,o+m*sz,none⟩) (n-m) (cap-m),w,?_,Below.refl _ _,k.imp λw' ⟨A2,dU,e2,h3,h4,h5⟩=>?_⟩
  ·show(do pure (Next.value (<-Instr.sliceAt T (a.eval x) (some (a.eval y)) none none))).run P w=_
   rw[ex,ey]
   have hr:(Instr.sliceAt T (.slice (some ⟨b,o,none⟩) n cap) (some (.int .i64 m)) none none).run P w=.ok (.slice (some ⟨b,o+m*sz,none⟩) (n-m) (cap-m)) w:=by
    have e1:(Instr.sliceBound (.int .i64 m) n .sliceB).run P w=.ok m w:=by
     have:=run_sliceBound (P:=P) w .i64 (m:Int) n .sliceB (by omega) (by omega)
     simpa using this
    have hne:¬cap=m:=by omega
    simp only[Instr.sliceAt,Sem.run_bind,run_underlying hE.under,Result.andThen_ok,Instr.slice,Instr.sliceBounds,Sem.run_pure]
    simp only[Option.isSome_none,Bool.false_eq_true,if_false,e1,Result.andThen_ok,hE.size w,hne,Option.map_some,Addr.add_mid]
   rw[Sem.run_bind,hr]
   rfl
  ·have e2:a.eval x=.slice A2 n dU:=e2
   rw[ex]at e2
   injection e2 with e2 _ e4
   subst e2 e4
   obtain⟨b',o',hA,hf⟩:=h5 (by omega)
   injection hA with hA
   injection hA with hb ho
   subst hb ho
   refine⟨some ⟨b,o+m*sz,none⟩,cap-m,rfl,by omega,by omega,λ_=>⟨b,o+m*sz,rfl,λq hq=>?_⟩⟩
   obtain⟨cs,c1,c2,c3⟩:=hf (m+q) (by omega)
   refine⟨cs,c1,λj u hj=>?_,c3⟩
   have:=c2 j u hj
   rw[Nat.add_mul]at this
   rw[show o+m*sz+q*sz+j=o+(m*sz+q*sz)+j by omega]
   exact this
end
theorem Hg {c:dg} {V:List Vr} {G:List aX} {a:Act} {w:World} {i T n:Nat} {ag:Bool} {q:Pred} (hI:Inv c V [] G none_ a w) (k:Nat) (hk:V[k]?=some (Vz i i T n ag q)) (hu:((V.eraseIdx k).all λy=>y.id != i)=true):Inv c (V.eraseIdx k) [] (⟨none,none,i,dP n ag q⟩::G) none_ a w:=by
 obtain⟨β,h⟩:=hI
 have hx:=List.mem_of_getElem? hk
 have hsub:∀y,y∈V.eraseIdx k->y∈V/\y.id≠i:=λy hy=>⟨List.mem_of_mem_eraseIdx hy,by
  have:=List.all_eq_true.1 hu y hy
  simpa using this⟩
 obtain⟨g,h1,h2,h3⟩:=(bH (by rfl)).1 (h.var _ hx rfl)
 have h1:∀k,β i k↔k=g:=h1
 have h2:sl a i=.pointer (some ⟨g,0,none⟩):=h2
 obtain⟨cs,k1,k2,k3,k4⟩:=h3.held
 have k4:aQ (own c V none_ β) (λw=>q w (ak ag cs)) w:=k4
 have k2:cs.length=n:=k2
 have hnew:mine c g:=h3.new
 have OC:g<w.heap.size:=(Array.getElem?_eq_some_iff.1 k1).1
 have eo:∀k' o,own c (V.eraseIdx k) none_ β k' o->own c V none_ β k' o/\k'≠g:=by
  rintro k' o (hM|⟨y,hy,q1,q2,q3⟩)
  ·refine⟨.inl hM,λhb=>?_⟩
   have:=(h.old k' o hM).1
   rw[hb]at this
   exact hnew.elim (λh'=>absurd this.1 (Nat.not_lt.2 h')) (λh'=>this.2 h')
  ·obtain⟨hy,hid⟩:=hsub y hy
   exact⟨.inr ⟨y,hy,q1,q2,q3⟩,λhb=>h.apart y _ k' hy hx q1 rfl hid q2 ((h1 k').2 hb)⟩
 refine⟨β,h.size,h.defers,h.below,h.old,λy hy hl=>(h.var y (hsub y hy).1 hl).keep rfl rfl (λ_ _=>rfl) (Nat.le_refl _) (λF hF=>hF.sub λk o _ hh=>(eo k o hh).1) (λF hF=>hF.sub λk o _ hh=>⟨(eo k o hh.1).1,hh.2⟩) rfl,λy z g hy hz=>h.apart y z g (hsub y hy).1 (hsub z hz).1,(λp hp=>by cases hp),λe he ho hf'=>?_⟩
 rcases List.mem_cons.1 he with rfl|he
 ·intro w' hw'
  show dP n ag q w' (sl a i)
  rw[h2]
  have hb:w'.heap[g]?=some (.cells cs.toArray T (0,0)):=(hw'.block g OC λo hh=>(eo g o hh).2 rfl).trans k1
  refine⟨g,0,cs,rfl,k2,λj v hj=>?_,k4 w' (hw'.mono λk o _ hh=>(eo k o hh).1)⟩
  rw[Nat.zero_add]
  simp only[World.cell?,hb]
  simpa using hj
 ·exact(h.jl e he ho hf').sub λk o _ hh=>(eo k o hh).1
end Wx

namespace Wx
open Go Go.RowKit
section
variable {P:Program} {ops:Array Oper} {ms:List Nat} {c:dg} {V:List Vr} {A:List Al} {G:List aX} {i d:Nat} {x y z u:Operand} {ty:TypeId} {pos:String} {aI:Array Edge}
def F7 (m n:Int):Int:=if n<m then n else m
variable {t s:TypeId} {m n:Int}
theorem Ps (h1:Has ms G i x (pI m)) (h2:Has ms G i y (pI n)) (hp:Post G i (pI (m%n))) (hr:0<=m/\m<=9223372036854775807/\0<n/\n<=9223372036854775807:=by omega):OpOk P ops ms c V A G i ⟨some d,.binOp .rem t x y s,ty,pos,aI,none⟩:=
 gD h1 h2 (v:=.int .i64 (m%n)) (λw=>by
  show(if n=0 then _ else(pure (.int .i64 (m.tmod n)):Sem Value)).run P w=_
  rw[if_neg (by omega),Int.tmod_eq_emod_of_nonneg hr.1]
  rfl) hp
theorem rm (h1:Has ms G i x (pI m):=by exact hs) (h2:Has ms G i y (pI n):=by exact hs) (hp:Post G i (pI (m%n)):=by exact pt rfl) (hr:0<=m/\m<=9223372036854775807/\0<n/\n<=9223372036854775807:=by omega):OpOk P ops ms c V A G i ⟨some d,.binOp .rem t x y s,ty,pos,aI,none⟩:=Ps h1 h2 hp hr
variable {ts:Array TypeId}
theorem Jp (h1:Has ms G i x (pI m)) (h2:Has ms G i y (pI n)) (hp:Post G i (pI (F7 m n))):OpOk P ops ms c V A G i ⟨some d,.call ⟨.builtin .min,#[x,y],ts⟩,ty,pos,aI,none⟩:=
 ku rfl rfl rfl rfl h1 h2 hp λρ w h1 h2=>⟨.int .i64 (F7 m n),by
  have h1:ρ x=.int .i64 m:=h1
  have h2:ρ y=.int .i64 n:=h2
  show(do let d <-resolve ρ ⟨.builtin .min,#[x,y],ts⟩ ty; invoke d.target d.args).run P w=_
  simp only[resolve,invoke,pure_bind,builtin]
  rw[show(#[x,y]:Array Operand).map ρ=#[ρ x,ρ y] by simp,h1,h2]
  rfl,λ_ _ _=>rfl⟩
variable {k l:Int}
theorem Jo (h1:Has ms G i x (pI k)) (h2:Has ms G i y (pI l)) (h3:Has ms G i z (pI m)) (h4:Has ms G i u (pI n)) (hp:Post G i (pI (lH (lH (lH k l) m) n))):OpOk P ops ms c V A G i ⟨some d,.call ⟨.builtin .max,#[x,y,z,u],ts⟩,ty,pos,aI,none⟩:=
 cm rfl rfl rfl (.inl rfl) hp λL β a w hI hd=>by
  have h1:a.eval x=.int .i64 k:=(h1.spec hI hd).out
  have h2:a.eval y=.int .i64 l:=(h2.spec hI hd).out
  have h3:a.eval z=.int .i64 m:=(h3.spec hI hd).out
  have h4:a.eval u=.int .i64 n:=(h4.spec hI hd).out
  refine⟨.int .i64 (lH (lH (lH k l) m) n),w,?_,Below.refl _ _,λ_ _=>rfl⟩
  show(do let d <-resolve a.eval ⟨.builtin .max,#[x,y,z,u],ts⟩ ty; invoke d.target d.args).run P w=_
  simp only[resolve,invoke,pure_bind,builtin]
  rw[show(#[x,y,z,u]:Array Operand).map a.eval=#[a.eval x,a.eval y,a.eval z,a.eval u] by simp,h1,h2,h3,h4]
  rfl
theorem WD (h1:Has ms G i x (pI k):=by exact hs) (h2:Has ms G i y (pI l):=by exact hs) (h3:Has ms G i z (pI m):=by exact hs) (h4:Has ms G i u (pI n):=by exact hs) (hp:Post G i (pI (lH (lH (lH k l) m) n)):=by exact pt rfl):OpOk P ops ms c V A G i ⟨some d,.call ⟨.builtin .max,#[x,y,z,u],ts⟩,ty,pos,aI,none⟩:=Jo h1 h2 h3 h4 hp
theorem WE (h1:Has ms G i x (pI m):=by exact hs) (h2:Has ms G i y (pI n):=by exact hs) (hp:Post G i (pI (lH m n)):=by exact pt rfl):OpOk P ops ms c V A G i ⟨some d,.call ⟨.builtin .max,#[x,y],ts⟩,ty,pos,aI,none⟩:=Jn h1 h2 hp
variable {φ:Prop}
theorem Rb (hc:φ) {ts:Array TypeId} {m n:Int} (h1:Has ms G i x (pI m):=by exact hg) (h2:Has ms G i y (pI n):=by exact hg) (hp:Post G i (pI (F7 m n)):=by exact pg (by assumption) rfl):OpOk P ops ms c V A G i ⟨some d,.call ⟨.builtin .min,#[x,y],ts⟩,ty,pos,aI,none⟩:=(λ_:φ=>Jp h1 h2 hp) hc
theorem wF (g:FuncId):Fits 1 false (bR (.func (.func g) #[] #[])):=nT (λ_=>⟨(by simp),by simp⟩) rfl rfl
variable {T:TypeId}
theorem WB {g:FuncId} (h:Has ms G i x (dP 1 false (bR (.func (.func g) #[] #[]))):=by exact hs) (hp:Post G i (bR (.func (.func g) #[] #[])):=by exact pt rfl) (ht:Hi P T false 1=true:=by kernel_rfl):OpOk P ops ms c V A G i ⟨some d,.load T x,ty,pos,aI,none⟩:=fH h hp ht (wF g)
theorem Ra (hc:φ) {T:TypeId} {g:FuncId} (h:Has ms G i x (dP 1 false (bR (.func (.func g) #[] #[]))):=by exact hg) (hp:Post G i (bR (.func (.func g) #[] #[])):=by exact pg (by assumption) rfl) (ht:Hi P T false 1=true:=by kernel_rfl):OpOk P ops ms c V A G i ⟨some d,.load T x,ty,pos,aI,none⟩:=(λ_:φ=>fH h hp ht (wF g)) hc
theorem UT {v:Vr} (hv:zT i V=some v:=by exact rfl) (hT:v.T=T:=by exact rfl) (cg:v.kd=.ptr:=by exact rfl) (hc:v.c0=pv (bR .nilFunc):=by exact rfl) (Aw:v.agg=false:=by exact rfl) (hn:v.n=1:=by exact rfl)
  (hz:∀w,(zeroValue T).run P w=.ok .nilFunc w:=by exactλ_=>by kernel_rfl) (hst:((v.st.all λq=>(ms.getD q.1 0).testBit i)&&V.all λy=>y.dead != some i)=true:=by kernel_rfl) (hno:(G.all λe=>e.tag != some i)=true:=by kernel_rfl) (eu:(A.all λp=>p.var != v.id||p.tag.any λj=>(ms.getD j 0).testBit i)=true:=by kernel_rfl):
  OpOk P ops ms c V A G i ⟨some d,.alloc T,ty,pos,aI,none⟩:=by
 obtain⟨⟨k,hk⟩,hb⟩:=gg hv
 exact jz k hk hb hst hno eu hT cg hz (cs:=[.nilFunc]) rfl hn.symm (λu hu=>by rw[List.mem_singleton.1 hu]; exactλ_=>⟨(by simp),by simp⟩) hc λw=>by rw[Aw]; exact rfl
theorem J8 {fn:Func} {a:Act} {w:World} {r1:ResultVar} {p:Pred} (hI:Inv c V [] G none_ a w) (hr:fn.results=#[r1]) (h:dw P V G r1 p) (hn:∀k,¬c.gM k:=by exactλ_ h=>h):vD P fn (cA c.M0 p c.w0) .ret a w:=by
 obtain⟨β,hI⟩:=hI
 obtain⟨v,h3,h4⟩:=h.run hI
 show LeavesInM (Ar none) 0 P fn a.tmps (cA c.M0 p c.w0) a.defers .returning w
 rw[hI.defers]
 refine⟨v,?_,v,rfl,iM h4,hI.below.below hn⟩
 rw[ee,hr]
 simp[h3]
end
end Wx
