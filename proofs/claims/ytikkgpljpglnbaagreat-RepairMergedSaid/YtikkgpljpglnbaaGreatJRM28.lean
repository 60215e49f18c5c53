import Derived.Test.YtikkgpljpglnbaaGreatJRM27
namespace Wx
open Go Go.RowKit
section
variable {P:Program} {ops:Array Oper} {ms:List Nat} {c:cM} {V:List Vr} {A:List Al} {G:List aV} {i:Nat}{d:Nat} {x y z:Operand} {ty:TypeId} {pos:String} {aL:Array Edge}
end
section
variable {P:Program} {w:World} {fn:Func}{f:FuncId} {C:Code} {v0:Value} {M:Nat->Nat->Prop} {p p0:Pred} {N:Nat}
theorem Tz (hf:P.funcs[f]?=some fn) (hb:fn.body=some C) (hN:fn.ntmps=N) (hM:cR M w) (h0:aM M (λw=>p0 w v0) w) (h:∀a,Inv ⟨N,w,M,λ_=>False⟩ [] [] [Uz 0 p0] none_ a w->C.ww none [] P (tA P fn (bD M p w)) a w) (hlen:decide ([v0].length<=N)=true:=by kernel_rfl):Calls P f #[v0] w (bD M p w):=
 pH (vs:=[v0]) hf hb hN hlen hM (show dH M w [v0] [Uz 0 p0]from⟨⟨rfl,_,rfl,h0⟩,trivial⟩) h
variable {v1:Value} {p1:Pred}
theorem TA (hf:P.funcs[f]?=some fn) (hb:fn.body=some C) (hN:fn.ntmps=N) (hM:cR M w) (h0:aM M (λw=>p0 w v0) w) (h1:aM M (λw=>p1 w v1) w) (h:∀a,Inv ⟨N,w,M,λ_=>False⟩ [] [] [Uz 0 p0,Uz 1 p1] none_ a w->C.ww none [] P (tA P fn (bD M p w)) a w) (hlen:decide ([v0,v1].length<=N)=true:=by kernel_rfl):Calls P f #[v0,v1] w (bD M p w):=
 pH (vs:=[v0,v1]) hf hb hN hlen hM (show dH M w [v0,v1] [Uz 0 p0,Uz 1 p1]from⟨⟨rfl,_,rfl,h0⟩,⟨rfl,_,rfl,h1⟩,trivial⟩) h
theorem Qf {v2:Value} {p2:Pred} (hf:P.funcs[f]?=some fn) (hb:fn.body=some C) (hN:fn.ntmps=N) (hM:cR M w) (h0:aM M (λw=>p0 w v0) w) (h1:aM M (λw=>p1 w v1) w) (h2:aM M (λw=>p2 w v2) w) (h:∀a,Inv ⟨N,w,M,λ_=>False⟩ [] [] [Uz 0 p0,Uz 1 p1,Uz 2 p2] none_ a w->C.ww none [] P (tA P fn (bD M p w)) a w) (hlen:decide ([v0,v1,v2].length<=N)=true:=by kernel_rfl):Calls P f #[v0,v1,v2] w (bD M p w):=
 pH (vs:=[v0,v1,v2]) hf hb hN hlen hM (show dH M w [v0,v1,v2] [Uz 0 p0,Uz 1 p1,Uz 2 p2]from⟨⟨rfl,_,rfl,h0⟩,⟨rfl,_,rfl,h1⟩,⟨rfl,_,rfl,h2⟩,trivial⟩) h
end
end Wx

namespace Wx
open Go Go.RowKit
section
variable {P:Program} {ops:Array Oper} {ms:List Nat} {c:cM} {V:List Vr} {A:List Al} {G:List aV} {i:Nat} {L:Nat->Bool} {β:Nat->Nat->Prop} {a:Act} {w:World} {o:Oper}{d:Nat} {x y z:Operand} {ty:TypeId} {pos:String} {aL:Array Edge}
theorem B4 {xt:TypeId} {k:IntKind} {a b:Int} (h:b≠0) (w:World):(Go.binOp .rem xt (.int k a) (.int k b)).run P w=.ok (.int k (a.tmod b)) w:=by
 have e:Go.binOp .rem xt (.int k a) (.int k b)=Op.intDiv .rem k a b:=by
  show(if k≠k then _ else _)=_
  rw[if_neg (by simp)]
 rw[e]
 unfold Op.intDiv
 rw[if_neg h]
 rfl
variable {fn:Func}
end
end Wx

namespace Wx
open Go Go.RowKit
section
variable {c:cM} {V:List Vr} {G:List aV} {a:Act} {w:World}
end
section
variable {P:Program} {ops:Array Oper} {ms:List Nat} {c:cM} {V:List Vr} {A:List Al} {G:List aV} {i:Nat} {d:Nat} {x y z u:Operand} {ty:TypeId} {pos:String} {aL:Array Edge}{ts:Array TypeId}
theorem Gs (h1:Has ms G i x (pI 0)) (h2:Has ms G i y (pI 0)) (h3:Has ms G i z (pI 0)) (hp:Post G i (pI 0)):OpOk P ops ms c V A G i ⟨some d,.call ⟨.builtin .max,#[x,y,z],ts⟩,ty,pos,aL,none⟩:=
 JA rfl rfl rfl rfl h1 h2 h3 hp λρ w h1 h2 h3=>⟨.int .i64 0,by
  have h1:ρ x=.int .i64 0:=h1
  have h2:ρ y=.int .i64 0:=h2
  have h3:ρ z=.int .i64 0:=h3
  show(do let d <-resolve ρ ⟨.builtin .max,#[x,y,z],ts⟩ ty; invoke d.target d.args).run P w=_
  simp only[resolve,invoke,pure_bind,builtin]
  rw[show(#[x,y,z]:Array Operand).map ρ=#[ρ x,ρ y,ρ z] by simp,h1,h2,h3]
  rfl,λ_ _ _ _=>rfl⟩
theorem zh (h1:Has ms G i x (pI 0)) (h2:Has ms G i y (pI 0)) (h3:Has ms G i z (pI 0)) (h4:Has ms G i u (pI 0)) (hp:Post G i (pI 0)):OpOk P ops ms c V A G i ⟨some d,.call ⟨.builtin .max,#[x,y,z,u],ts⟩,ty,pos,aL,none⟩:=
 cq rfl rfl rfl (.inl rfl) hp λL β a w hI hd=>by
  have h1:a.eval x=.int .i64 0:=(h1.spec hI hd).out
  have h2:a.eval y=.int .i64 0:=(h2.spec hI hd).out
  have h3:a.eval z=.int .i64 0:=(h3.spec hI hd).out
  have h4:a.eval u=.int .i64 0:=(h4.spec hI hd).out
  refine⟨.int .i64 0,w,?_,Below.refl _ _,λ_ _=>rfl⟩
  show(do let d <-resolve a.eval ⟨.builtin .max,#[x,y,z,u],ts⟩ ty; invoke d.target d.args).run P w=_
  simp only[resolve,invoke,pure_bind,builtin]
  rw[show(#[x,y,z,u]:Array Operand).map a.eval=#[a.eval x,a.eval y,a.eval z,a.eval u] by simp,h1,h2,h3,h4]
  rfl
end
end Wx

namespace Wx
open Go Go.RowKit
section
variable {P:Program} {ops:Array Oper} {ms:List Nat} {c:cM} {V:List Vr} {A:List Al} {G:List aV} {i:Nat} {L:Nat->Bool} {β:Nat->Nat->Prop} {a:Act} {w:World} {o:Oper}{d:Nat} {x y z:Operand} {ty:TypeId} {pos:String} {aL:Array Edge}
end
end Wx

namespace Wx
open Go Go.RowKit
section
variable {P:Program} {ops:Array Oper} {ms:List Nat} {c:cM} {V:List Vr} {A:List Al} {G:List aV} {i:Nat}{d:Nat} {x y z:Operand} {ty:TypeId} {pos:String} {aL:Array Edge}{T:TypeId}
theorem iX {b o' n cap:Nat} (sz q:Nat) (h:Has ms G i x (bp (.slice (some ⟨b,o',none⟩) n cap)):=by exact hs) (hy:Has ms G i y (pI (q:Int)):=by exact(Wx.hs).imp (cG (by omega))) (h1:q<n:=by omega) (hp:Post G i (bp (.pointer (some ⟨b,o'+q*sz,none⟩))):=by exact pt rfl) (ht:JP P T sz=true:=by kernel_rfl) (hA:(A.all λq=>q.tag != some i)=true:=by kernel_rfl):OpOk P ops ms c V A G i ⟨some d,.indexAddr T x y,ty,pos,aL,none⟩:=by
 obtain⟨E,hE⟩:=qf ht
 exact Bl h hy hE (by omega) (by omega) hA (by rw[Int.toNat_natCast]; exact hp)
theorem TY {sz:Nat} (E:TypeId) (ht:pD P T E sz:=by exact⟨by kernel_rfl,λ_=>by kernel_rfl⟩) (hp:Post G i wP:=by exact pt rfl):OpOk P ops ms c V A G i ⟨some d,.buildSlice T 0 #[],ty,pos,aL,none⟩:=tc ht hp
end
theorem BK {c:cM} {V:List Vr} {G:List aV} {a:Act} {w:World} {i T n:Nat} {ag:Bool} {q:Pred} (hI:Inv c V [] G none_ a w) (k:Nat) (hk:V[k]?=some (Vz i i T n ag q)) (hu:((V.eraseIdx k).all λy=>y.id != i)=true):Inv c (V.eraseIdx k) [] (⟨none,none,i,dD n ag q⟩::G) none_ a w:=by
 obtain⟨β,h⟩:=hI
 have hx:=List.mem_of_getElem? hk
 have hsub:∀y,y∈V.eraseIdx k->y∈V/\y.id≠i:=λy hy=>⟨List.mem_of_mem_eraseIdx hy,by
  have:=List.all_eq_true.1 hu y hy
  simpa using this⟩
 obtain⟨g,h1,h2,h3⟩:=(bB (by rfl)).1 (h.var _ hx rfl)
 have h1:∀k,β i k↔k=g:=h1
 have h2:sl a i=.pointer (some ⟨g,0,none⟩):=h2
 obtain⟨cs,k1,k2,k3,k4⟩:=h3.held
 have k4:aM (own c V none_ β) (λw=>q w (au ag cs)) w:=k4
 have k2:cs.length=n:=k2
 have hnew:mine c g:=h3.new
 have Pe:g<w.heap.size:=(Array.getElem?_eq_some_iff.1 k1).1
 have eo:∀k' o,own c (V.eraseIdx k) none_ β k' o->own c V none_ β k' o/\k'≠g:=by
  rintro k' o (hM|⟨y,hy,q1,q2,q3⟩)
  ·refine⟨.inl hM,λhb=>?_⟩
   have:=(h.old k' o hM).1
   rw[hb]at this
   exact hnew.elim (λh'=>absurd this.1 (Nat.not_lt.2 h')) (λh'=>this.2 h')
  ·obtain⟨hy,hid⟩:=hsub y hy
   exact⟨.inr ⟨y,hy,q1,q2,q3⟩,λhb=>h.apart y _ k' hy hx q1 rfl hid q2 ((h1 k').2 hb)⟩
 refine⟨β,h.size,h.defers,h.below,h.old,λy hy hl=>(h.var y (hsub y hy).1 hl).keep rfl rfl (λ_ _=>rfl) (Nat.le_refl _) (λF hF=>hF.sub λk o _ hh=>(eo k o hh).1) (λF hF=>hF.sub λk o _ hh=>⟨(eo k o hh.1).1,hh.2⟩) rfl,λy z g hy hz=>h.apart y z g (hsub y hy).1 (hsub z hz).1,(λp hp=>by cases hp),λe he ho hf'=>?_⟩
 rcases List.mem_cons.1 he with rfl|he
 ·intro w' hw'
  show dD n ag q w' (sl a i)
  rw[h2]
  have hb:w'.heap[g]?=some (.cells cs.toArray T (0,0)):=(hw'.block g Pe λo hh=>(eo g o hh).2 rfl).trans k1
  refine⟨g,0,cs,rfl,k2,λj v hj=>?_,k4 w' (hw'.mono λk o _ hh=>(eo k o hh).1)⟩
  rw[Nat.zero_add]
  simp only[World.cell?,hb]
  simpa using hj
 ·exact(h.gY e he ho hf').sub λk o _ hh=>(eo k o hh).1
end Wx

namespace Wx
open Go Go.RowKit
section
variable {P:Program} {ops:Array Oper} {ms:List Nat} {c:cM} {V:List Vr} {A:List Al} {G:List aV} {i d:Nat} {x y z u:Operand} {ty:TypeId} {pos:String} {aL:Array Edge}
def jT (m n:Int):Int:=if n<m then n else m
variable {t s:TypeId} {m n:Int}
theorem PY (h1:Has ms G i x (pI m)) (h2:Has ms G i y (pI n)) (hp:Post G i (pI (m%n))) (hr:0<=m/\m<=9223372036854775807/\0<n/\n<=9223372036854775807:=by omega):OpOk P ops ms c V A G i ⟨some d,.binOp .rem t x y s,ty,pos,aL,none⟩:=
 fu h1 h2 (v:=.int .i64 (m%n)) (λw=>by
  show(if n=0 then _ else(pure (.int .i64 (m.tmod n)):Sem Value)).run P w=_
  rw[if_neg (by omega),Int.tmod_eq_emod_of_nonneg hr.1]
  rfl) hp
theorem rm (h1:Has ms G i x (pI m):=by exact hs) (h2:Has ms G i y (pI n):=by exact hs) (hp:Post G i (pI (m%n)):=by exact pt rfl) (hr:0<=m/\m<=9223372036854775807/\0<n/\n<=9223372036854775807:=by omega):OpOk P ops ms c V A G i ⟨some d,.binOp .rem t x y s,ty,pos,aL,none⟩:=PY h1 h2 hp hr
variable {ts:Array TypeId}
theorem wN (h1:Has ms G i x (pI m)) (h2:Has ms G i y (pI n)) (hp:Post G i (pI (jT m n))):OpOk P ops ms c V A G i ⟨some d,.call ⟨.builtin .min,#[x,y],ts⟩,ty,pos,aL,none⟩:=
 jX rfl rfl rfl rfl h1 h2 hp λρ w h1 h2=>⟨.int .i64 (jT m n),by
  have h1:ρ x=.int .i64 m:=h1
  have h2:ρ y=.int .i64 n:=h2
  show(do let d <-resolve ρ ⟨.builtin .min,#[x,y],ts⟩ ty; invoke d.target d.args).run P w=_
  simp only[resolve,invoke,pure_bind,builtin]
  rw[show(#[x,y]:Array Operand).map ρ=#[ρ x,ρ y] by simp,h1,h2]
  rfl,λ_ _ _=>rfl⟩
variable {k l:Int}
theorem Jz (h1:Has ms G i x (pI k)) (h2:Has ms G i y (pI l)) (h3:Has ms G i z (pI m)) (h4:Has ms G i u (pI n)) (hp:Post G i (pI (dh (dh (dh k l) m) n))):OpOk P ops ms c V A G i ⟨some d,.call ⟨.builtin .max,#[x,y,z,u],ts⟩,ty,pos,aL,none⟩:=
 cq rfl rfl rfl (.inl rfl) hp λL β a w hI hd=>by
  have h1:a.eval x=.int .i64 k:=(h1.spec hI hd).out
  have h2:a.eval y=.int .i64 l:=(h2.spec hI hd).out
  have h3:a.eval z=.int .i64 m:=(h3.spec hI hd).out
  have h4:a.eval u=.int .i64 n:=(h4.spec hI hd).out
  refine⟨.int .i64 (dh (dh (dh k l) m) n),w,?_,Below.refl _ _,λ_ _=>rfl⟩
  show(do let d <-resolve a.eval ⟨.builtin .max,#[x,y,z,u],ts⟩ ty; invoke d.target d.args).run P w=_
  simp only[resolve,invoke,pure_bind,builtin]
  rw[show(#[x,y,z,u]:Array Operand).map a.eval=#[a.eval x,a.eval y,a.eval z,a.eval u] by simp,h1,h2,h3,h4]
  rfl
theorem W6 (h1:Has ms G i x (pI k):=by exact hs) (h2:Has ms G i y (pI l):=by exact hs) (h3:Has ms G i z (pI m):=by exact hs) (h4:Has ms G i u (pI n):=by exact hs) (hp:Post G i (pI (dh (dh (dh k l) m) n)):=by exact pt rfl):OpOk P ops ms c V A G i ⟨some d,.call ⟨.builtin .max,#[x,y,z,u],ts⟩,ty,pos,aL,none⟩:=Jz h1 h2 h3 h4 hp
theorem UN (h1:Has ms G i x (pI m):=by exact hs) (h2:Has ms G i y (pI n):=by exact hs) (hp:Post G i (pI (dh m n)):=by exact pt rfl):OpOk P ops ms c V A G i ⟨some d,.call ⟨.builtin .max,#[x,y],ts⟩,ty,pos,aL,none⟩:=wL h1 h2 hp
theorem UM (h1:Has ms G i x (pI m):=by exact hs) (h2:Has ms G i y (pI n):=by exact hs) (hp:Post G i (pI (jT m n)):=by exact pt rfl):OpOk P ops ms c V A G i ⟨some d,.call ⟨.builtin .min,#[x,y],ts⟩,ty,pos,aL,none⟩:=wN h1 h2 hp
variable {φ:Prop}
theorem RD (hc:φ) {ts:Array TypeId} {m n:Int} (h1:Has ms G i x (pI m):=by exact hg) (h2:Has ms G i y (pI n):=by exact hg) (hp:Post G i (pI (jT m n)):=by exact pg (by assumption) rfl):OpOk P ops ms c V A G i ⟨some d,.call ⟨.builtin .min,#[x,y],ts⟩,ty,pos,aL,none⟩:=(λ_:φ=>wN h1 h2 hp) hc
theorem wq (g:FuncId):Fits 1 false (bp (.func (.func g) #[] #[])):=jO (λ_=>⟨(by simp),by simp⟩) rfl rfl
variable {T:TypeId}
theorem W5 {g:FuncId} (h:Has ms G i x (dD 1 false (bp (.func (.func g) #[] #[]))):=by exact hs) (hp:Post G i (bp (.func (.func g) #[] #[])):=by exact pt rfl) (ht:He P T false 1=true:=by kernel_rfl):OpOk P ops ms c V A G i ⟨some d,.load T x,ty,pos,aL,none⟩:=fq h hp ht (wq g)
theorem RB (hc:φ) {T:TypeId} {g:FuncId} (h:Has ms G i x (dD 1 false (bp (.func (.func g) #[] #[]))):=by exact hg) (hp:Post G i (bp (.func (.func g) #[] #[])):=by exact pg (by assumption) rfl) (ht:He P T false 1=true:=by kernel_rfl):OpOk P ops ms c V A G i ⟨some d,.load T x,ty,pos,aL,none⟩:=(λ_:φ=>fq h hp ht (wq g)) hc
theorem Vo {v:Vr} (hv:C7 i V=some v:=by exact rfl) (hT:v.T=T:=by exact rfl) (bS:v.kd=.ptr:=by exact rfl) (hc:v.c0=pv (bp .nilFunc):=by exact rfl) (Dv:v.agg=false:=by exact rfl) (hn:v.n=1:=by exact rfl)
  (hz:∀w,(zeroValue T).run P w=.ok .nilFunc w:=by exactλ_=>by kernel_rfl) (hst:((v.st.all λq=>(ms.getD q.1 0).testBit i)&&V.all λy=>y.dead != some i)=true:=by kernel_rfl) (hno:(G.all λe=>e.tag != some i)=true:=by kernel_rfl) (fC:(A.all λp=>p.var != v.id||p.tag.any λj=>(ms.getD j 0).testBit i)=true:=by kernel_rfl):
  OpOk P ops ms c V A G i ⟨some d,.alloc T,ty,pos,aL,none⟩:=by
 obtain⟨⟨k,hk⟩,hb⟩:=iZ hv
 exact lC k hk hb hst hno fC hT bS hz (cs:=[.nilFunc]) rfl hn.symm (λu hu=>by rw[List.mem_singleton.1 hu]; exactλ_=>⟨(by simp),by simp⟩) hc λw=>by rw[Dv]; exact rfl
theorem VD (hc:φ) {S f sz:Nat} {fs:List Fd} {q:Pred} (off n:Nat) (ag:Bool) (h:Has ms G i x (dD sz true (pS fs)):=by exact hg) (hq:Gl ag (xh fs off n)=some q:=by exact rfl) (hp:Post G i (dD n ag q):=by exact pg (by assumption) rfl) (hn:n≠0:=by decide) (hf:∀b o w,(Instr.fieldAt S (.pointer (some ⟨b,o,none⟩)) f).run P w=.ok (.pointer (some ⟨b,o+off,none⟩)) w:=by exactλ_ _ _=>by kernel_rfl)
  (hA:(A.all λq=>q.tag != some i)=true:=by kernel_rfl):OpOk P ops ms c V A G i ⟨some d,.fieldAddr S x f,ty,pos,aL,none⟩:=(λ_:φ=>fP off n ag h hq hp hn hf hA) hc
theorem Fm {fn:Func} {a:Act} {w:World} {r1:ResultVar} {p:Pred} (hI:Inv c V [] G none_ a w) (hr:fn.results=#[r1]) (h:cZ P V G r1 p) (hn:∀k,¬c.gw k:=by exactλ_ h=>h):tA P fn (bD c.M0 p c.w0) .ret a w:=by
 obtain⟨β,hI⟩:=hI
 obtain⟨v,h3,h4⟩:=h.run hI
 show LeavesInM (zU none) 0 P fn a.tmps (bD c.M0 p c.w0) a.defers .returning w
 rw[hI.defers]
 refine⟨v,?_,v,rfl,iM h4,hI.below.below hn⟩
 rw[dm,hr]
 simp[h3]
end
end Wx
