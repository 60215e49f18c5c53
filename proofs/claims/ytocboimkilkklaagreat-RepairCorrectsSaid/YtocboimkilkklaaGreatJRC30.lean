import Derived.Test.YtocboimkilkklaaGreatJRC29
namespace Wx
open Go Go.RowKit
def One (b n:Nat) (q:Pred) (w:World):Prop:=∃(cs:List Value) (T:TypeId),w.heap[b]?=some (.cells cs.toArray T (0,0))/\cs.length=n/\(∀v∈cs,gm v)/\q w (aq true cs)
def FZ (b n:Nat) (q:Pred):Rel:=λB w _=>(∀k,B k↔k=b)/\One b n q w
abbrev fJ (id b n:Nat) (q:Pred):Vr:=fc id id (FZ b n q)
variable {b n:Nat} {q:Pred} {w:World}
theorem One.lt (h:One b n q w):b<w.heap.size:=by
 obtain⟨cs,T,h1,_⟩:=h
 exact(Array.getElem?_eq_some_iff.1 h1).1
theorem One.RK (h:One b n q w):∀o v,w.cell? ⟨b,o,none⟩=some v->gm v:=by
 obtain⟨cs,T,h1,_,h3,_⟩:=h
 intro o v hv
 simp only[World.cell?,h1]at hv
 have:cs[o]?=some v:=by simpa using hv
 exact h3 v (List.mem_of_getElem? this)
theorem One.imp {q':Pred} (h:One b n q w) (hq:∀w v,q w v->q' w v):One b n q' w:=by
 obtain⟨cs,T,h1,h2,h3,h4⟩:=h
 exact⟨cs,T,h1,h2,h3,hq _ _ h4⟩
theorem One.box {M:Nat->Nat->Prop} {B:Nat->Prop} (h:One b n q w) (hB:B b) (hn:au q) (hM:dz M w):aP (minus M B) (One b n q) w:=by
 obtain⟨cs,T,h1,h2,h3,h4⟩:=h
 intro w' he
 exact⟨cs,T,(he.block b ((Array.getElem?_eq_some_iff.1 h1).1) λo ho=>ho.2 hB).trans h1,h2,h3,hn _ w _ (λk o hk=>hM k o hk.1) h4 w' he⟩
section
variable {P:Program} {ops:Array Oper} {ms:List Nat} {c:dS} {V:List Vr} {A:List Al} {G:List bf} {i:Nat}{d:Nat} {x y z:Operand} {ty:TypeId} {pos:String} {aJ:Array Edge}{b n:Nat} {q:Pred} {v:Vr}
theorem OW {L:Nat->Bool} {β:Nat->Nat->Prop} {a:Act} {w:World} (hI:bq c V A G L β a w) (hd:nw ms i L) (hv:v∈V) (ho:bS ms i v=true) (cI:v.kd=.obj) (hst:(v.st.all λq=>(q.1==i||(ms.getD i 0).testBit q.1)||(ms.getD q.1 0).testBit i)=true)
  (hc:cont (λj=>(ms.getD i 0).testBit j) v.c0 v.st=FZ b n q):(∀k,β v.id k↔k=b)/\One b n q w:=by
 have hH:=(Cw hI hd hv ho cI).2.out
 rw[tv hd hst,hc]at hH
 exact hH
theorem I8 {T:TypeId} {off m:Nat} {ag:Bool} {p:Pred} (k:Nat) (hk:V[k]?=some v) (ho:bS ms i v=true) (cI:v.kd=.obj) (hst:(v.st.all λq=>(q.1==i||(ms.getD i 0).testBit q.1)||(ms.getD q.1 0).testBit i)=true)
  (hc:cont (λj=>(ms.getD i 0).testBit j) v.c0 v.st=FZ b n q) (h:Has ms G i y (bY (.pointer (some ⟨b,off,none⟩)))) (hlen:off+m<=n) (ht:Ty P T ag m) (hq:∀w cs,cs.length=n->q w (aq true cs)->p w (aq ag ((cs.drop off).take m))) (hn:au p) (hp:Post G i p):
  OpOk P ops ms c V A G i ⟨some d,.load T y,ty,pos,aJ,none⟩:=
 dg rfl rfl rfl (.inl rfl) hp λL β a w hI hd=>by
  obtain⟨_,cs,t,h1,h2,h3,h4⟩:=OW hI hd (List.mem_of_getElem? hk) ho cI hst hc
  have hy:a.eval y=.pointer (some ⟨b,off,none⟩):=(h.spec hI hd).out
  refine⟨aq ag ((cs.drop off).take m),w,?_,Below.refl _ _,hn _ w _ (bK hI) (hq w cs h2 h4)⟩
  show(do pure (Next.value (<-Instr.loadAt T (a.eval y)))).run P w=_
  rw[hy,Sem.run_bind,gj (cs:=(cs.drop off).take m) ht (jc h1 off m) (by rw[List.length_take,List.length_drop]; omega)]
  rfl
end
variable {V:List Vr} {N:Nat}
theorem vO {b n:Nat} {q q':Pred} (hq:∀w v,q w v->q' w v:=by exactλ_ _ h=>h) (h:mh N V=some (fJ N b n q):=by exact rfl):∃r:Rel,mh (fJ N b n q').id V=some ⟨(fJ N b n q').id,(fJ N b n q').slot,none,none,(fJ N b n q').kd,(fJ N b n q').T,(fJ N b n q').n,(fJ N b n q').agg,r,[]⟩/\((fJ N b n q').born=none/\(fJ N b n q').dead=none/\(fJ N b n q').st=[])/\∀F w v,r F w v->(fJ N b n q').c0 F w v:=
 ⟨_,h,⟨rfl,rfl,rfl⟩,λ_ _ _ h=>⟨h.1,h.2.imp hq⟩⟩
theorem vA {s:Nat} {R:Rel} (h:mh N V=some (fc N s R):=by exact rfl):∃r:Rel,mh (fc N s R).id V=some ⟨(fc N s R).id,(fc N s R).slot,none,none,(fc N s R).kd,(fc N s R).T,(fc N s R).n,(fc N s R).agg,r,[]⟩/\((fc N s R).born=none/\(fc N s R).dead=none/\(fc N s R).st=[])/\∀F w v,r F w v->(fc N s R).c0 F w v:=⟨_,h,⟨rfl,rfl,rfl⟩,λ_ _ _ h=>h⟩
def xK (M:Nat->Nat->Prop) (b n:Nat) (p q:Pred) (w:World) (e:Ending) (w':World):Prop:=∃v,e=.returned v/\aP M (λw=>p w v) w'/\dN (·=b) w w'/\One b n q w'
abbrev lY (M:Nat->Nat->Prop) (b:Nat) (k o:Nat):Prop:=M k o\/k=b
section
variable {P:Program} {c:dS} {V:List Vr} {G:List bf} {a:Act} {w:World} {x y z:Operand} {d:Nat} {ty:TypeId} {pos:String} {aJ:Array Edge}{id b n n0:Nat} {q:Pred}
theorem uU {q' p:Pred} {f:FuncId} {args:Array Operand} {ts:Array TypeId} {ops:Array Oper} (hf:aI P f) (h:Inv c V [] G none_ a w) (hk:V[n0]?=some (fJ id b n q)) (hp:au p) (hq:au q')
  (hc:∀β,bq c V [] G none_ β a w->Calls P f (args.map a.eval) w (xK (minus (own c V none_ β) (β id)) b n p q' w))
  (hV:cO V=true) (hG:ek G=true) (hu:iv V id n0=true) (hd':decide (d<c.N)=true) (KN:(V.all λx=>x.slot != d)=true) (Mz:(G.all λx=>x.slot != d)=true):
  dy P ops ⟨some d,.call ⟨.value (.func f),args,ts⟩,ty,pos,aJ,none⟩ a w (Inv c (V.set n0 (fJ id b n q')) [] (⟨none,none,d,p⟩::G) none_):=by
 obtain⟨β,hI⟩:=h
 have hx0:=List.mem_of_getElem? hk
 obtain⟨hβ,hone⟩:(∀k,β id k↔k=b)/\One b n q w:=((aQ rfl).1 (hI.var _ hx0 rfl)).2.out
 refine .of rfl (nI hf ((hc β hI).mono ?_))
 rintro e w' ⟨v,rfl,h1,h2,h3⟩
 refine⟨v,rfl,kQ β id (β id),?_⟩
 have hle:dN (β id) w w':=⟨h2.os,h2.tape,h2.output,h2.size,λk hk hn=>h2.block k hk λe=>hn ((hβ k).2 e)⟩
 have yx:dz (own c V none_ β) w':=λk o hk=>by
  obtain⟨k1,k2⟩:=bK hI k o hk
  refine⟨Nat.lt_of_lt_of_le k1 h2.size,λu zi=>?_⟩
  by_cases hkb:k=b
  ·exact h3.RK o u (by rw[<-hkb]; exact zi)
  ·rw[World.cell?_of_block (w:=w) (a:=⟨k,o,none⟩) (h2.block k k1 hkb)]at zi
   exact k2 u zi
 have hm:=hI.move (B':=β id) (R':=FZ b n q') hV hG hk (jw hu) hle (λk hk=>.inl hk) (λk hk=>by rw[(hβ k).1 hk]; exact⟨h3.lt,h3.RK⟩) ((h3.box ((hβ b).2 rfl) hq yx).imp λw h=>⟨hβ,h⟩)
 rw[List.all_eq_true]at KN Mz
 refine hm.qN (of_decide_eq_true hd') (λx hx=>?_) (λe he=>by simpa using Mz e he) ?_
 ·rcases List.mem_or_eq_of_mem_set hx with hx|rfl
  ·simpa using KN x hx
  ·simpa using KN _ hx0
 ·exact hp _ w' v (bK hm) h1.out
theorem ux {β:Nat->Nat->Prop} (h:bq c V [] G none_ β a w) (hk:V[n0]?=some (fJ id b n q)) {F:World->Prop} (hF:aP (own c V none_ β) F w):aP (lY (minus (own c V none_ β) (β id)) b) F w:=by
 have hx0:=List.mem_of_getElem? hk
 obtain⟨hβ,hone⟩:(∀k,β id k↔k=b)/\One b n q w:=((aQ rfl).1 (h.var _ hx0 rfl)).2.out
 exact hF.sub λk o _ hk'=>hk'.elim (λh=>h.1) λe=>.inr ⟨_,hx0,rfl,(hβ k).2 e,Nat.zero_le _⟩
end
end Wx

namespace Wx
open Go Go.RowKit
section
variable {P:Program} {ops:Array Oper} {ms:List Nat} {c:dS} {V:List Vr} {A:List Al} {G:List bf} {i:Nat}{d:Nat} {x y z:Operand} {ty:TypeId} {pos:String} {aJ:Array Edge}
theorem MU {o:Oper} (h:OpOk P ops ms c V A G i o:=by exact o_load rfl rfl (by kernel_rfl) rfl (pt rfl) (cV (by kernel_rfl))):OpOk P ops ms c V A G i o:=h
theorem Tv {T:TypeId} (J n:Nat) (hJ:1<=J:=by omega) (hp:Post G i (pV aD J (List.replicate n 0)):=by exact pt rfl) (hr:P.built T []=some ((List.replicate n Zl.r).flatMap Zl.cs).toArray:=by kernel_rfl):OpOk P ops ms c V A G i ⟨some d,.build T #[],ty,pos,aJ,none⟩:=
 LD rfl rfl rfl rfl hp λρ w=>⟨.agg ((List.replicate n Zl.r).flatMap Zl.cs).toArray,by
  show(do pure (Next.value (<-Instr.build T ((#[]:Array (Nat×Operand)).map λ(q:Nat×Operand)=>(q.1,ρ q.2))))).run P w=_
  rw[show(#[]:Array (Nat×Operand)).map (λ(q:Nat×Operand)=>(q.1,ρ q.2))=#[] by simp,Sem.run_bind,run_build w T _ _ hr]
  rfl,λw=>by
  have h:=zf (List.replicate n Zl.r) w
  rw[List.map_replicate]at h
  refine AW hJ _ _ ?_
  show pS ((List.replicate n (0:Rat)).map (zh aD 1)) w _
  rw[List.map_replicate]
  exact h⟩
end
section
variable {P:Program} {w:World} {fn:Func}{f:FuncId} {C:Code} {v0:Value} {M:Nat->Nat->Prop} {p p0:Pred} {N:Nat}
theorem VT (hf:P.funcs[f]?=some fn) (hb:fn.body=some C) (hN:fn.ntmps=N) (hM:dz M w) (h0:aP M (λw=>p0 w v0) w) (h:∀a,Inv ⟨N,w,M,λ_=>False⟩ [] [] [Uz 0 p0] none_ a w->C.ww none [] P (xp P fn (bE M p w)) a w) (hlen:decide ([v0].length<=N)=true:=by kernel_rfl):Calls P f #[v0] w (bE M p w):=
 wA (vs:=[v0]) hf hb hN hlen hM (show cQ M w [v0] [Uz 0 p0]from⟨⟨rfl,_,rfl,h0⟩,trivial⟩) h
theorem VU {v1:Value} {p1:Pred} (hf:P.funcs[f]?=some fn) (hb:fn.body=some C) (hN:fn.ntmps=N) (hM:dz M w) (h0:aP M (λw=>p0 w v0) w) (h1:aP M (λw=>p1 w v1) w) (h:∀a,Inv ⟨N,w,M,λ_=>False⟩ [] [] [Uz 0 p0,Uz 1 p1] none_ a w->C.ww none [] P (xp P fn (bE M p w)) a w) (hlen:decide ([v0,v1].length<=N)=true:=by kernel_rfl):Calls P f #[v0,v1] w (bE M p w):=
 wA (vs:=[v0,v1]) hf hb hN hlen hM (show cQ M w [v0,v1] [Uz 0 p0,Uz 1 p1]from⟨⟨rfl,_,rfl,h0⟩,⟨rfl,_,rfl,h1⟩,trivial⟩) h
end
end Wx

namespace Wx
open Go Go.RowKit
section
variable {P:Program} {ops:Array Oper} {ms:List Nat} {c:dS} {V:List Vr} {A:List Al} {G:List bf} {i:Nat} {L:Nat->Bool} {β:Nat->Nat->Prop} {a:Act} {w:World} {o:Oper}{d:Nat} {x y z:Operand} {ty:TypeId} {pos:String} {aJ:Array Edge}{fn:Func}
end
end Wx

namespace Wx
open Go Go.RowKit
section
variable {c:dS} {V:List Vr} {G:List bf} {a:Act} {w:World}
end
section
variable {P:Program} {ops:Array Oper} {ms:List Nat} {c:dS} {V:List Vr} {A:List Al} {G:List bf} {i:Nat} {d:Nat} {x y z u:Operand} {ty:TypeId} {pos:String} {aJ:Array Edge}
theorem I9 {ts:Array TypeId} (h1:Has ms G i x (pI 0)) (h2:Has ms G i y (pI 0)) (h3:Has ms G i z (pI 0)) (h4:Has ms G i u (pI 0)) (hp:Post G i (pI 0)):OpOk P ops ms c V A G i ⟨some d,.call ⟨.builtin .max,#[x,y,z,u],ts⟩,ty,pos,aJ,none⟩:=
 dg rfl rfl rfl (.inl rfl) hp λL β a w hI hd=>by
  have h1:a.eval x=.int .i64 0:=(h1.spec hI hd).out
  have h2:a.eval y=.int .i64 0:=(h2.spec hI hd).out
  have h3:a.eval z=.int .i64 0:=(h3.spec hI hd).out
  have h4:a.eval u=.int .i64 0:=(h4.spec hI hd).out
  refine⟨.int .i64 0,w,?_,Below.refl _ _,λ_ _=>rfl⟩
  show(do let d <-resolve a.eval ⟨.builtin .max,#[x,y,z,u],ts⟩ ty; invoke d.target d.args).run P w=_
  simp only[resolve,invoke,pure_bind,builtin]
  rw[show(#[x,y,z,u]:Array Operand).map a.eval=#[a.eval x,a.eval y,a.eval z,a.eval u] by simp,h1,h2,h3,h4]
  rfl
end
end Wx

namespace Wx
open Go Go.RowKit
section
variable {P:Program} {ops:Array Oper} {ms:List Nat} {c:dS} {V:List Vr} {A:List Al} {G:List bf} {i:Nat} {L:Nat->Bool} {β:Nat->Nat->Prop} {a:Act} {w:World} {o:Oper}{d:Nat} {x y z:Operand} {ty:TypeId} {pos:String} {aJ:Array Edge}
end
end Wx

namespace Wx
open Go Go.RowKit
section
variable {P:Program} {ops:Array Oper} {ms:List Nat} {c:dS} {V:List Vr} {A:List Al} {G:List bf} {i:Nat}{d:Nat} {x y z:Operand} {ty:TypeId} {pos:String} {aJ:Array Edge}{T:TypeId}
theorem iX {b o' n cap:Nat} (sz q:Nat) (h:Has ms G i x (bY (.slice (some ⟨b,o',none⟩) n cap)):=by exact hs) (hy:Has ms G i y (pI (q:Int)):=by exact(Wx.hs).imp (dB (by omega))) (h1:q<n:=by omega) (hp:Post G i (bY (.pointer (some ⟨b,o'+q*sz,none⟩))):=by exact pt rfl) (ht:Pj P T sz=true:=by kernel_rfl) (hA:(A.all λq=>q.tag != some i)=true:=by kernel_rfl):OpOk P ops ms c V A G i ⟨some d,.indexAddr T x y,ty,pos,aJ,none⟩:=by
 obtain⟨E,hE⟩:=yY ht
 exact CC h hy hE (by omega) (by omega) hA (by rw[Int.toNat_natCast]; exact hp)
theorem XP {sz:Nat} (E:TypeId) (ht:mw P T E sz:=by exact⟨by kernel_rfl,λ_=>by kernel_rfl⟩) (hp:Post G i yL:=by exact pt rfl):OpOk P ops ms c V A G i ⟨some d,.buildSlice T 0 #[],ty,pos,aJ,none⟩:=ur ht hp
end
theorem JL {c:dS} {V:List Vr} {G:List bf} {a:Act} {w:World} {i T n:Nat} {ag:Bool} {q:Pred} (hI:Inv c V [] G none_ a w) (k:Nat) (hk:V[k]?=some (Vz i i T n ag q)) (hu:((V.eraseIdx k).all λy=>y.id != i)=true):Inv c (V.eraseIdx k) [] (⟨none,none,i,dU n ag q⟩::G) none_ a w:=by
 obtain⟨β,h⟩:=hI
 have hx:=List.mem_of_getElem? hk
 have hsub:∀y,y∈V.eraseIdx k->y∈V/\y.id≠i:=λy hy=>⟨List.mem_of_mem_eraseIdx hy,by
  have:=List.all_eq_true.1 hu y hy
  simpa using this⟩
 obtain⟨g,h1,h2,h3⟩:=(bW (by rfl)).1 (h.var _ hx rfl)
 have h1:∀k,β i k↔k=g:=h1
 have h2:sl a i=.pointer (some ⟨g,0,none⟩):=h2
 obtain⟨cs,k1,k2,k3,k4⟩:=h3.held
 have k4:aP (own c V none_ β) (λw=>q w (aq ag cs)) w:=k4
 have k2:cs.length=n:=k2
 have hnew:mine c g:=h3.new
 have QW:g<w.heap.size:=(Array.getElem?_eq_some_iff.1 k1).1
 have eo:∀k' o,own c (V.eraseIdx k) none_ β k' o->own c V none_ β k' o/\k'≠g:=by
  rintro k' o (hM|⟨y,hy,q1,q2,q3⟩)
  ·refine⟨.inl hM,λhb=>?_⟩
   have:=(h.old k' o hM).1
   rw[hb]at this
   exact hnew.elim (λh'=>absurd this.1 (Nat.not_lt.2 h')) (λh'=>this.2 h')
  ·obtain⟨hy,hid⟩:=hsub y hy
   exact⟨.inr ⟨y,hy,q1,q2,q3⟩,λhb=>h.apart y _ k' hy hx q1 rfl hid q2 ((h1 k').2 hb)⟩
 refine⟨β,h.size,h.defers,h.below,h.old,λy hy hl=>(h.var y (hsub y hy).1 hl).keep rfl rfl (λ_ _=>rfl) (Nat.le_refl _) (λF hF=>hF.sub λk o _ hh=>(eo k o hh).1) (λF hF=>hF.sub λk o _ hh=>⟨(eo k o hh.1).1,hh.2⟩) rfl,λy z g hy hz=>h.apart y z g (hsub y hy).1 (hsub z hz).1,(λp hp=>by cases hp),λe he ho hf'=>?_⟩
 rcases List.mem_cons.1 he with rfl|he
 ·intro w' hw'
  show dU n ag q w' (sl a i)
  rw[h2]
  have hb:w'.heap[g]?=some (.cells cs.toArray T (0,0)):=(hw'.block g QW λo hh=>(eo g o hh).2 rfl).trans k1
  refine⟨g,0,cs,rfl,k2,λj v hj=>?_,k4 w' (hw'.mono λk o _ hh=>(eo k o hh).1)⟩
  rw[Nat.zero_add]
  simp only[World.cell?,hb]
  simpa using hj
 ·exact(h.ku e he ho hf').sub λk o _ hh=>(eo k o hh).1
end Wx

namespace Wx
open Go Go.RowKit
section
variable {P:Program} {ops:Array Oper} {ms:List Nat} {c:dS} {V:List Vr} {A:List Al} {G:List bf} {i d:Nat} {x y z u:Operand} {ty:TypeId} {pos:String} {aJ:Array Edge}
def II (m n:Int):Int:=if n<m then n else m
variable {t s:TypeId} {m n:Int}
theorem RP (h1:Has ms G i x (pI m)) (h2:Has ms G i y (pI n)) (hp:Post G i (pI (m%n))) (hr:0<=m/\m<=9223372036854775807/\0<n/\n<=9223372036854775807:=by omega):OpOk P ops ms c V A G i ⟨some d,.binOp .rem t x y s,ty,pos,aJ,none⟩:=
 fA h1 h2 (v:=.int .i64 (m%n)) (λw=>by
  show(if n=0 then _ else(pure (.int .i64 (m.tmod n)):Sem Value)).run P w=_
  rw[if_neg (by omega),Int.tmod_eq_emod_of_nonneg hr.1]
  rfl) hp
theorem rm (h1:Has ms G i x (pI m):=by exact hs) (h2:Has ms G i y (pI n):=by exact hs) (hp:Post G i (pI (m%n)):=by exact pt rfl) (hr:0<=m/\m<=9223372036854775807/\0<n/\n<=9223372036854775807:=by omega):OpOk P ops ms c V A G i ⟨some d,.binOp .rem t x y s,ty,pos,aJ,none⟩:=RP h1 h2 hp hr
variable {ts:Array TypeId}
theorem LB (h1:Has ms G i x (pI m)) (h2:Has ms G i y (pI n)) (hp:Post G i (pI (II m n))):OpOk P ops ms c V A G i ⟨some d,.call ⟨.builtin .min,#[x,y],ts⟩,ty,pos,aJ,none⟩:=
 lM rfl rfl rfl rfl h1 h2 hp λρ w h1 h2=>⟨.int .i64 (II m n),by
  have h1:ρ x=.int .i64 m:=h1
  have h2:ρ y=.int .i64 n:=h2
  show(do let d <-resolve ρ ⟨.builtin .min,#[x,y],ts⟩ ty; invoke d.target d.args).run P w=_
  simp only[resolve,invoke,pure_bind,builtin]
  rw[show(#[x,y]:Array Operand).map ρ=#[ρ x,ρ y] by simp,h1,h2]
  rfl,λ_ _ _=>rfl⟩
variable {k l:Int}
theorem LA (h1:Has ms G i x (pI k)) (h2:Has ms G i y (pI l)) (h3:Has ms G i z (pI m)) (h4:Has ms G i u (pI n)) (hp:Post G i (pI (mR (mR (mR k l) m) n))):OpOk P ops ms c V A G i ⟨some d,.call ⟨.builtin .max,#[x,y,z,u],ts⟩,ty,pos,aJ,none⟩:=
 dg rfl rfl rfl (.inl rfl) hp λL β a w hI hd=>by
  have h1:a.eval x=.int .i64 k:=(h1.spec hI hd).out
  have h2:a.eval y=.int .i64 l:=(h2.spec hI hd).out
  have h3:a.eval z=.int .i64 m:=(h3.spec hI hd).out
  have h4:a.eval u=.int .i64 n:=(h4.spec hI hd).out
  refine⟨.int .i64 (mR (mR (mR k l) m) n),w,?_,Below.refl _ _,λ_ _=>rfl⟩
  show(do let d <-resolve a.eval ⟨.builtin .max,#[x,y,z,u],ts⟩ ty; invoke d.target d.args).run P w=_
  simp only[resolve,invoke,pure_bind,builtin]
  rw[show(#[x,y,z,u]:Array Operand).map a.eval=#[a.eval x,a.eval y,a.eval z,a.eval u] by simp,h1,h2,h3,h4]
  rfl
theorem Zo (h1:Has ms G i x (pI k):=by exact hs) (h2:Has ms G i y (pI l):=by exact hs) (h3:Has ms G i z (pI m):=by exact hs) (h4:Has ms G i u (pI n):=by exact hs) (hp:Post G i (pI (mR (mR (mR k l) m) n)):=by exact pt rfl):OpOk P ops ms c V A G i ⟨some d,.call ⟨.builtin .max,#[x,y,z,u],ts⟩,ty,pos,aJ,none⟩:=LA h1 h2 h3 h4 hp
theorem Zp (h1:Has ms G i x (pI m):=by exact hs) (h2:Has ms G i y (pI n):=by exact hs) (hp:Post G i (pI (mR m n)):=by exact pt rfl):OpOk P ops ms c V A G i ⟨some d,.call ⟨.builtin .max,#[x,y],ts⟩,ty,pos,aJ,none⟩:=Lz h1 h2 hp
variable {φ:Prop}
theorem TQ (hc:φ) {ts:Array TypeId} {m n:Int} (h1:Has ms G i x (pI m):=by exact hg) (h2:Has ms G i y (pI n):=by exact hg) (hp:Post G i (pI (II m n)):=by exact pg (by assumption) rfl):OpOk P ops ms c V A G i ⟨some d,.call ⟨.builtin .min,#[x,y],ts⟩,ty,pos,aJ,none⟩:=(λ_:φ=>LB h1 h2 hp) hc
theorem ym (g:FuncId):Fits 1 false (bY (.func (.func g) #[] #[])):=pA (λ_=>⟨(by simp),by simp⟩) rfl rfl
variable {T:TypeId}
theorem Zm {g:FuncId} (h:Has ms G i x (dU 1 false (bY (.func (.func g) #[] #[]))):=by exact hs) (hp:Post G i (bY (.func (.func g) #[] #[])):=by exact pt rfl) (ht:J7 P T false 1=true:=by kernel_rfl):OpOk P ops ms c V A G i ⟨some d,.load T x,ty,pos,aJ,none⟩:=iU h hp ht (ym g)
theorem TN (hc:φ) {T:TypeId} {g:FuncId} (h:Has ms G i x (dU 1 false (bY (.func (.func g) #[] #[]))):=by exact hg) (hp:Post G i (bY (.func (.func g) #[] #[])):=by exact pg (by assumption) rfl) (ht:J7 P T false 1=true:=by kernel_rfl):OpOk P ops ms c V A G i ⟨some d,.load T x,ty,pos,aJ,none⟩:=(λ_:φ=>iU h hp ht (ym g)) hc
theorem XL {v:Vr} (hv:BA i V=some v:=by exact rfl) (hT:v.T=T:=by exact rfl) (cI:v.kd=.ptr:=by exact rfl) (hc:v.c0=pv (bY .nilFunc):=by exact rfl) (Af:v.agg=false:=by exact rfl) (hn:v.n=1:=by exact rfl)
  (hz:∀w,(zeroValue T).run P w=.ok .nilFunc w:=by exactλ_=>by kernel_rfl) (hst:((v.st.all λq=>(ms.getD q.1 0).testBit i)&&V.all λy=>y.dead != some i)=true:=by kernel_rfl) (hno:(G.all λe=>e.tag != some i)=true:=by kernel_rfl) (fo:(A.all λp=>p.var != v.id||p.tag.any λj=>(ms.getD j 0).testBit i)=true:=by kernel_rfl):
  OpOk P ops ms c V A G i ⟨some d,.alloc T,ty,pos,aJ,none⟩:=by
 obtain⟨⟨k,hk⟩,hb⟩:=gW hv
 exact ct k hk hb hst hno fo hT cI hz (cs:=[.nilFunc]) rfl hn.symm (λu hu=>by rw[List.mem_singleton.1 hu]; exactλ_=>⟨(by simp),by simp⟩) hc λw=>by rw[Af]; exact rfl
theorem Mr {fn:Func} {a:Act} {w:World} {r1:ResultVar} {p:Pred} (hI:Inv c V [] G none_ a w) (hr:fn.results=#[r1]) (h:eu P V G r1 p) (hn:∀k,¬c.iQ k:=by exactλ_ h=>h):xp P fn (bE c.M0 p c.w0) .ret a w:=by
 obtain⟨β,hI⟩:=hI
 obtain⟨v,h3,h4⟩:=h.run hI
 show LeavesInM (B5 none) 0 P fn a.tmps (bE c.M0 p c.w0) a.defers .returning w
 rw[hI.defers]
 refine⟨v,?_,v,rfl,jD h4,hI.below.below hn⟩
 rw[fe,hr]
 simp[h3]
end
end Wx
