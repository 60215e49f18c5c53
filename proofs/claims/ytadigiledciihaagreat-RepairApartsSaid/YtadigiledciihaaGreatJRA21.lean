import Derived.Test.YtadigiledciihaaGreatJRA20
namespace Wx
open Go Go.RowKit
section
variable {ro:Option Nat} {ds:List Deferred} {P:Program} {Q:Exit->Act->World->Prop} {c:dM} {V:List Vr} {G:List bg} {a:Act} {w:World} {fn:Func}{id:Nat} {l:List Oper} {V1 V2:List Vr} {G1 G2:List bg}
theorem TD (h:Inv c V [] G none_ a w) (ms:List Nat) (nv:List Vr) (A1:List Al) (ne:List bg) (hV:AA nv V V1) (hG:nD ne G G1) (hs:qK P l.toArray ms c V1 A1 G1 0 l) (kV:gI V1 V2) (kG:aJ G1 G2) (hk:∀a w,Inv c V2 [] G2 none_ a w->Q .normal a w) (hn:nP nv A1 ne=true:=by kernel_rfl) (hb:zS P c.N l ms V1 A1 G1=true:=by kernel_rfl) (hd:l.all gN=true:=by kernel_rfl):(Code.region id l.toArray true).ww ro ds P Q a w:=by
 unfold zS at hb
 simp only[Bool.and_eq_true,beq_iff_eq]at hb
 obtain⟨hm,hok,zb,hwf⟩:=hb
 exact IG ms hm hok zb hwf hd (mP h hV hG hn) hs λa w hI=>hk a w (oQ hwf kV kG hI)
variable {y:Code}
theorem xV (h:Inv c V [] G none_ a w) (ms:List Nat) (nv:List Vr) (A1:List Al) (ne:List bg) (hV:AA nv V V1) (hG:nD ne G G1) (hs:qK P l.toArray ms c V1 A1 G1 0 l) (kV:gI V1 V2) (kG:aJ G1 G2) (hk:∀a w,Inv c V2 [] G2 none_ a w->y.ww ro ds P Q a w) (hn:nP nv A1 ne=true:=by kernel_rfl) (hb:zS P c.N l ms V1 A1 G1=true:=by kernel_rfl) (hd:l.all gN=true:=by kernel_rfl):(Code.seq (Code.region id l.toArray true) y).ww ro ds P Q a w:=
 aq (TD h ms nv A1 ne hV hG hs kV kG hk hn hb hd)
theorem TE (h:Inv c [] [] G none_ a w) (ms:List Nat) (ne:List bg) (hG:nD ne G G1) (hs:qK P l.toArray ms c [] [] G1 0 l) (kG:aJ G1 G2) (hk:∀a w,Inv c [] [] G2 none_ a w->Q .normal a w) (hn:nP [] [] ne=true:=by kernel_rfl) (hb:zS P c.N l ms [] [] G1=true:=by kernel_rfl) (hd:l.all gN=true:=by kernel_rfl):(Code.region id l.toArray true).ww ro ds P Q a w:=TD h ms [] [] ne .z hG hs .z kG hk hn hb hd
theorem Qm (h:Inv c [] [] G none_ a w) (ms:List Nat) (ne:List bg) (hG:nD ne G G1) (hs:qK P l.toArray ms c [] [] G1 0 l) (kG:aJ G1 G2) (hk:∀a w,Inv c [] [] G2 none_ a w->y.ww ro ds P Q a w) (hn:nP [] [] ne=true:=by kernel_rfl) (hb:zS P c.N l ms [] [] G1=true:=by kernel_rfl) (hd:l.all gN=true:=by kernel_rfl):(Code.seq (Code.region id l.toArray true) y).ww ro ds P Q a w:=aq (TE h ms ne hG hs kG hk hn hb hd)
theorem Ao (h:Inv c V [] G none_ a w) (n:Nat) (nv:List Vr) (A1:List Al) (ne:List bg) (hV:AA nv V V1) (hG:nD ne G G1) (hs:qK P l.toArray (tm n 0) c V1 A1 G1 0 l) (kV:gI V1 V2) (kG:aJ G1 G2) (hk:∀a w,Inv c V2 [] G2 none_ a w->Q .normal a w) (hn:nP nv A1 ne=true:=by kernel_rfl) (hb:zT c.N l (tm n 0) V1 A1 G1=true:=by kernel_rfl) (hd:l.all gN=true:=by kernel_rfl):(Code.region id l.toArray false).ww ro ds P Q a w:=by
 unfold zT at hb
 simp only[Bool.and_eq_true,beq_iff_eq]at hb
 obtain⟨zb,hwf⟩:=hb
 exact Ks hwf hd (mP h hV hG hn) (by rw[zb]; exact hs) λa w hI=>hk a w (oQ hwf kV kG hI)
theorem bB (h:Inv c V [] G none_ a w) (n:Nat) (nv:List Vr) (A1:List Al) (ne:List bg) (hV:AA nv V V1) (hG:nD ne G G1) (hs:qK P l.toArray (tm n 0) c V1 A1 G1 0 l) (kV:gI V1 V2) (kG:aJ G1 G2) (hk:∀a w,Inv c V2 [] G2 none_ a w->y.ww ro ds P Q a w) (hn:nP nv A1 ne=true:=by kernel_rfl) (hb:zT c.N l (tm n 0) V1 A1 G1=true:=by kernel_rfl) (hd:l.all gN=true:=by kernel_rfl):(Code.seq (Code.region id l.toArray false) y).ww ro ds P Q a w:=
 aq (Ao h n nv A1 ne hV hG hs kV kG hk hn hb hd)
theorem qR (h:Inv c [] [] G none_ a w) (n:Nat) (ne:List bg) (hG:nD ne G G1) (hs:qK P l.toArray (tm n 0) c [] [] G1 0 l) (kG:aJ G1 G2) (hk:∀a w,Inv c [] [] G2 none_ a w->Q .normal a w) (hn:nP [] [] ne=true:=by kernel_rfl) (hb:zT c.N l (tm n 0) [] [] G1=true:=by kernel_rfl) (hd:l.all gN=true:=by kernel_rfl):(Code.region id l.toArray false).ww ro ds P Q a w:=Ao h n [] [] ne .z hG hs .z kG hk hn hb hd
theorem aZ (h:Inv c [] [] G none_ a w) (n:Nat) (ne:List bg) (hG:nD ne G G1) (hs:qK P l.toArray (tm n 0) c [] [] G1 0 l) (kG:aJ G1 G2) (hk:∀a w,Inv c [] [] G2 none_ a w->y.ww ro ds P Q a w) (hn:nP [] [] ne=true:=by kernel_rfl) (hb:zT c.N l (tm n 0) [] [] G1=true:=by kernel_rfl) (hd:l.all gN=true:=by kernel_rfl):(Code.seq (Code.region id l.toArray false) y).ww ro ds P Q a w:=aq (qR h n ne hG hs kG hk hn hb hd)
variable {s:Nat}
theorem ou {v:Value} (hI:Inv c V [] G none_ a w) (hk:gZ s G=some (bW v)):a.eval (.tmp s)=v:=by
 obtain⟨k,h⟩:=eL hk
 exact hI.get k h
variable {b:Bool} {x:Code}
theorem tY (hI:Inv c V [] G none_ a w) (ht:b=true->x.ww ro ds P Q a w) (hf:b=false->y.ww ro ds P Q a w) (hk:gZ s G=some (pB b):=by exact rfl):(Code.cond (.tmp s) x y).ww ro ds P Q a w:=rI (ou hI hk) ht hf
theorem jK {φ:Prop} [Decidable φ] {x y:Code} (hI:Inv c V [] G none_ a w) (ht:φ->x.ww ro ds P Q a w) (hf:¬φ->y.ww ro ds P Q a w) (hk:gZ s G=some (pB (decide φ)):=by exact rfl):(Code.cond (.tmp s) x y).ww ro ds P Q a w:=rI (ou hI hk) (λh=>ht (of_decide_eq_true h)) λh=>hf (of_decide_eq_false h)
theorem Xn (hI:Inv c V [] G none_ a w) (hb:b=true) (ht:x.ww ro ds P Q a w) (hk:gZ s G=some (pB b):=by exact rfl):(Code.cond (.tmp s) x y).ww ro ds P Q a w:=rI (ou hI hk) (λ_=>ht) λh=>by rw[hb]at h; cases h
theorem Xm (hI:Inv c V [] G none_ a w) (hb:b=false) (hf:y.ww ro ds P Q a w) (hk:gZ s G=some (pB b):=by exact rfl):(Code.cond (.tmp s) x y).ww ro ds P Q a w:=rI (ou hI hk) (λh=>by rw[hb]at h; cases h) λ_=>hf
theorem xN {ι:Type} {C:Code} (VF:List Vr) (GF:List bg) (V1:ι->List Vr) (G1:ι->List bg) (φ:ι->Prop) (μ:ι->Nat) (k0:ι) (h0:φ k0) (hI:Inv c V [] G none_ a w) (hV:LB V (VF++V1 k0)) (hG:LA G (GF++G1 k0))
  (round:∀k a w,φ k->Inv c (VF++V1 k) [] (GF++G1 k) none_ a w->C.ww ro ds P (Exit.then (λa w=>∃k',(φ k'/\Inv c (VF++V1 k') [] (GF++G1 k') none_ a w)/\μ k'<μ k) Q) a w):(Code.loop C).ww ro ds P Q a w:=
 Kr (λk a w=>φ k/\Inv c (VF++V1 k) [] (GF++G1 k) none_ a w) μ k0 ⟨h0,hI.cv hV hG⟩ λk a w h=>round k a w h.1 h.2
variable {p q:Pred}
theorem fh (h:gZ s G=some q:=by exact rfl) (hq:∀w v,q w v->p w v:=by exact IL):dO P V G (.tmp s) p:=rt hq h
theorem xU {x:Vr} {T:Nat} (h:nA s V=some x:=by exact rfl) (hs:x.slot=s:=by exact rfl) (hb:live none_ x=true:=by exact rfl) (cO:x.kd=.ptr:=by exact rfl) (hc:cont none_ x.c0 x.st=pv q:=by exact rfl) (hq:∀w v,q w v->p w v:=by exact IL) (ht:IX P T x.agg x.n=true:=by kernel_rfl):dO P V G (.cell s T) p:=(fl h).1.elim λk hk=>.imp (.cell k hk hb cO hs (cV ht) hc) hq
end
section
variable {P:Program} {w:World} {fn:Func}{f:FuncId} {C:Code} {M:Nat->Nat->Prop} {p:Pred} {N:Nat}
theorem lO {vs:List Value} {G:List bg} (hf:P.funcs[f]?=some fn) (hb:fn.body=some C) (hN:fn.ntmps=N) (hlen:decide (vs.length<=N)=true) (hM:dN M w) (hG:eI M w vs G)
  (h:∀a,Inv ⟨N,w,M,λ_=>False⟩ [] [] G none_ a w->C.ww none [] P (bodyPost P fn (bT M p w)) a w):Calls P f vs.toArray w (bT M p w):=
 lN hf hb hN hlen hM hG λa hI=>(wpIn_wide (n:=0)).1 (wpIn_mono (h a hI 0) λe a' w' ⟨a0,e0,h0⟩=>by subst e0; exact h0)
theorem TI (hf:P.funcs[f]?=some fn) (hb:fn.body=some C) (hN:fn.ntmps=N) (hlen:decide (([]:List Value).length<=N)=true) (hM:dN M w) (h:∀a,Inv ⟨N,w,M,λ_=>False⟩ [] [] [] none_ a w->C.ww none [] P (bodyPost P fn (bT M p w)) a w):Calls P f #[] w (bT M p w):=
 lO (vs:=([]:List Value)) hf hb hN hlen hM (show eI M w ([]:List Value) []from trivial) h
variable {v0:Value} {p0:Pred}
theorem uc (hf:P.funcs[f]?=some fn) (hb:fn.body=some C) (hN:fn.ntmps=N) (hlen:decide ([v0].length<=N)=true) (hM:dN M w) (h0:aS M (λw=>p0 w v0) w) (h:∀a,Inv ⟨N,w,M,λ_=>False⟩ [] [] [Uz 0 p0] none_ a w->C.ww none [] P (bodyPost P fn (bT M p w)) a w):Calls P f #[v0] w (bT M p w):=
 lO (vs:=[v0]) hf hb hN hlen hM (show eI M w [v0] [Uz 0 p0]from⟨⟨rfl,_,rfl,h0⟩,trivial⟩) h
variable {v1:Value} {p1:Pred}
theorem ud (hf:P.funcs[f]?=some fn) (hb:fn.body=some C) (hN:fn.ntmps=N) (hlen:decide ([v0,v1].length<=N)=true) (hM:dN M w) (h0:aS M (λw=>p0 w v0) w) (h1:aS M (λw=>p1 w v1) w) (h:∀a,Inv ⟨N,w,M,λ_=>False⟩ [] [] [Uz 0 p0,Uz 1 p1] none_ a w->C.ww none [] P (bodyPost P fn (bT M p w)) a w):Calls P f #[v0,v1] w (bT M p w):=
 lO (vs:=[v0,v1]) hf hb hN hlen hM (show eI M w [v0,v1] [Uz 0 p0,Uz 1 p1]from⟨⟨rfl,_,rfl,h0⟩,⟨rfl,_,rfl,h1⟩,trivial⟩) h
variable {v2:Value} {p2:Pred}
theorem xP (hf:P.funcs[f]?=some fn) (hb:fn.body=some C) (hN:fn.ntmps=N) (hlen:decide ([v0,v1,v2].length<=N)=true) (hM:dN M w) (h0:aS M (λw=>p0 w v0) w) (h1:aS M (λw=>p1 w v1) w) (h2:aS M (λw=>p2 w v2) w) (h:∀a,Inv ⟨N,w,M,λ_=>False⟩ [] [] [Uz 0 p0,Uz 1 p1,Uz 2 p2] none_ a w->C.ww none [] P (bodyPost P fn (bT M p w)) a w):Calls P f #[v0,v1,v2] w (bT M p w):=
 lO (vs:=[v0,v1,v2]) hf hb hN hlen hM (show eI M w [v0,v1,v2] [Uz 0 p0,Uz 1 p1,Uz 2 p2]from⟨⟨rfl,_,rfl,h0⟩,⟨rfl,_,rfl,h1⟩,⟨rfl,_,rfl,h2⟩,trivial⟩) h
theorem Kq {v3:Value} {p3:Pred} (hf:P.funcs[f]?=some fn) (hb:fn.body=some C) (hN:fn.ntmps=N) (hlen:decide ([v0,v1,v2,v3].length<=N)=true) (hM:dN M w) (h0:aS M (λw=>p0 w v0) w) (h1:aS M (λw=>p1 w v1) w) (h2:aS M (λw=>p2 w v2) w) (h3:aS M (λw=>p3 w v3) w) (h:∀a,Inv ⟨N,w,M,λ_=>False⟩ [] [] [Uz 0 p0,Uz 1 p1,Uz 2 p2,Uz 3 p3] none_ a w->C.ww none [] P (bodyPost P fn (bT M p w)) a w):Calls P f #[v0,v1,v2,v3] w (bT M p w):=
 lO (vs:=[v0,v1,v2,v3]) hf hb hN hlen hM (show eI M w [v0,v1,v2,v3] [Uz 0 p0,Uz 1 p1,Uz 2 p2,Uz 3 p3]from⟨⟨rfl,_,rfl,h0⟩,⟨rfl,_,rfl,h1⟩,⟨rfl,_,rfl,h2⟩,⟨rfl,_,rfl,h3⟩,trivial⟩) h
end
abbrev K0 (P:Program) (f:FuncId) (p:Pred):Prop:=∀(M:Nat->Nat->Prop) (w:World),dN M w->Calls P f #[] w (bT M p w)
abbrev K1 (P:Program) (f:FuncId) (p0 p:Pred):Prop:=∀(M:Nat->Nat->Prop) (w:World) (v0:Value),dN M w->aS M (λw=>p0 w v0) w->Calls P f #[v0] w (bT M p w)
abbrev K2 (P:Program) (f:FuncId) (p0 p1 p:Pred):Prop:=∀(M:Nat->Nat->Prop) (w:World) (v0 v1:Value),dN M w->aS M (λw=>p0 w v0) w->aS M (λw=>p1 w v1) w->Calls P f #[v0,v1] w (bT M p w)
abbrev K3 (P:Program) (f:FuncId) (p0 p1 p2 p:Pred):Prop:=∀(M:Nat->Nat->Prop) (w:World) (v0 v1 v2:Value),dN M w->aS M (λw=>p0 w v0) w->aS M (λw=>p1 w v1) w->aS M (λw=>p2 w v2) w->Calls P f #[v0,v1,v2] w (bT M p w)
abbrev K4 (P:Program) (f:FuncId) (p0 p1 p2 p3 p:Pred):Prop:=∀(M:Nat->Nat->Prop) (w:World) (v0 v1 v2 v3:Value),dN M w->aS M (λw=>p0 w v0) w->aS M (λw=>p1 w v1) w->aS M (λw=>p2 w v2) w->aS M (λw=>p3 w v3) w->Calls P f #[v0,v1,v2,v3] w (bT M p w)
end Wx

namespace Wx
open Go Go.RowKit Go.Proofs
instance Xc:xQ Tryz.prog 3 false 1:=⟨cV (by kernel_rfl)⟩
instance Xd:xQ Tryz.prog 4 false 1:=⟨cV (by kernel_rfl)⟩
instance Xe:xQ Tryz.prog 2 false 1:=⟨cV (by kernel_rfl)⟩
instance Xf:xQ Tryz.prog 29 false 1:=⟨cV (by kernel_rfl)⟩
instance Xg:xQ Tryz.prog 54 true 3:=⟨cV (by kernel_rfl)⟩
instance Xh:xQ Tryz.prog 61 true 3:=⟨cV (by kernel_rfl)⟩
instance Xi:xQ Tryz.prog 86 true 2:=⟨cV (by kernel_rfl)⟩
instance Xj:xQ Tryz.prog 26 true 2:=⟨cV (by kernel_rfl)⟩
instance US:xQ Tryz.prog 24 true 2:=⟨cV (by kernel_rfl)⟩
instance UT:xQ Tryz.prog 31 true 2:=⟨cV (by kernel_rfl)⟩
instance UU:xQ Tryz.prog 56 true 9:=⟨cV (by kernel_rfl)⟩
instance UW:xQ Tryz.prog 63 true 9:=⟨cV (by kernel_rfl)⟩
instance UX:xQ Tryz.prog 22 false 1:=⟨cV (by kernel_rfl)⟩
instance UY:xQ Tryz.prog 87 true 6:=⟨cV (by kernel_rfl)⟩
end Wx

namespace Wx
open Go Go.RowKit Go.Proofs
theorem ye {x y c:Operand} {ops:Array Oper} {Q:Exit->Act->World->Prop} {o:Oper} {rest:List Oper} {a:Act} {w:World} {X Y C:Int}
  (hx:a.eval x=.int .u64 X) (hy:a.eval y=.int .u64 Y) (hc:a.eval c=.int .u64 C) (x0:0<=X) (y0:0<=Y) (c0:0<=C) (c1:C<=1)
  (hK:wpList Tryz.prog ops Q rest (a.put o.dst (.tuple #[.int .u64 (yg X Y C),.int .u64 (yf X Y C)])) w):Ay Tryz.prog 113 x y c ops Q o rest a w:=
 add64_ext Tryz.func113 (by kernel_rfl) (by kernel_rfl) (by kernel_rfl) (by kernel_rfl) hx hy hc x0 y0 c0 c1 hK
theorem uL (x y c:Nat):yg (x:Int) y c=(((x+y+c)%b64:Nat):Int):=by unfold yg b64; omega
theorem uK (x y c:Nat):yf (x:Int) y c=(((x+y+c)/b64:Nat):Int):=by unfold yf b64; omega
theorem AF (x c:Nat):yg (x:Int) 0 c=(((x+0+c)%b64:Nat):Int):=uL x 0 c
theorem AE (x c:Nat):yf (x:Int) 0 c=(((x+0+c)/b64:Nat):Int):=uK x 0 c
theorem FO {x y c:Nat} (hx:x<b64) (hy:y<b64) (hc:c<=1):(x+y+c)/b64<=1:=by unfold b64 at *; omega
variable {x y o:List Nat} {cr:Nat}
theorem tE {i vx vy g:Nat} {wr w0:World} (dG:o.length=i) (hlt:i<x.length) (wx:Wf b64 x) (wy:Wf b64 y) (yZ:cr<=1) (ee:Wf b64 o)
  (hx:x[i]?=some vx) (hy:y.getD i 0=vy) (hr:Row wr .u64 108 g (o++List.replicate (x.length+1-i) 0)) (hbl:Below w0.heap.size w0 wr) (hg:w0.heap.size<=g)
  (hval:val b64 o+b64^i*cr=val b64 (x.take i)+val b64 (y.take i)):
  ∃(Mf:Nat) (o':List Nat),((vx+vy+cr)/b64=Mf)/\Mf<=1/\o'.length=i+1/\Wf b64 o' /\
   Row (wr.setCell ⟨g,i,none⟩ (.int .u64 (((vx+vy+cr)%b64:Nat):Int))) .u64 108 g (o'++List.replicate (x.length+1-(i+1)) 0) /\
   Below w0.heap.size w0 (wr.setCell ⟨g,i,none⟩ (.int .u64 (((vx+vy+cr)%b64:Nat):Int)))/\val b64 o'+b64^(i+1)*Mf=val b64 (x.take (i+1))+val b64 (y.take (i+1)):=by
 have oD:vx<b64:=wx _ (List.mem_of_getElem? hx)
 have ze:vy<b64:=by
  rw[<-hy,List.getD_eq_getElem?_getD]
  cases h:y[i]? with
  |none=>simp[b64]
  |some z=>exact wy _ (List.mem_of_getElem? h)
 refine⟨_,o++[(vx+vy+cr)%b64],rfl,FO oD ze yZ,by simp[dG],ee.append (Wf.cons (Nat.mod_lt _ (by unfold b64; omega)) (Wf.nil _)),?_,hbl.setCell hg _,?_⟩
 ·have h:=hr.set i ((vx+vy+cr)%b64)
  rw[show x.length+1-i=(x.length+1-(i+1))+1 by omega,List.replicate_succ,js dG]at h
  rw[List.append_assoc]
  exact h
 ·exact Ai dG hval (bV hx) (by rw[dP,hy]) (by have:=Nat.mod_add_div (vx+vy+cr) b64; omega)
theorem Hu (hx:oa x) (wx:Wf b64 x) (wo:Wf b64 o) (dG:o.length=x.length) (QK:2<=b64) (hval:val b64 o+b64^o.length*cr=val b64 x+val b64 y):cr=0->oa o:=by
 rintro rfl
 refine B5 wo ?_
 by_cases h:o=[]
 ·exact .inl h
 ·refine .inr ?_
  have hd:=lS QK wx hx
  have hpos:0<val b64 x:=by
   rcases Nat.eq_zero_or_pos (val b64 x)with h0|h0
   ·rw[h0,bk]at hd
    rw[<-hd]at dG
    exact absurd (List.eq_nil_of_length_eq_zero dG) h
   ·exact h0
  have:=mB QK hpos
  rw[hd]at this
  rw[dG]
  simp at hval
  omega
set_option maxHeartbeats 400000 in
theorem Ht (w:World) (v1 v2:Value) (m n:Nat) (h1:bj .u64 b64 w v1 m) (h2:bj .u64 b64 w v2 n) {j k:Nat} (hj:Bd j m) (hk:Bd k n) (dz:j<=1000000000) (lE:k<=1000000000):
  Calls Tryz.prog 86 #[v1,v2] w (er .u64 b64 w (m+n)):=by
 obtain⟨A,c,rfl,ha⟩:=h1
 obtain⟨B,d,rfl,hb⟩:=h2
 have hla:=oJ hj
 have hlb:=oJ hk
 have hv:val b64 (ae b64 m)+val b64 (ae b64 n)=m+n:=by rw[aY ai,aY ai]
 have wa:=bw ai m
 have wb:=bw ai n
 have ta:=jQ ai m
 have tb:=jQ ai n
 clear hj hk
 generalize ae b64 m=a at *
 generalize ae b64 n=b at *
 generalize m+n=s at *
 go_enter Tryz.func86,Tryz.ntmps86
 go_upto_if 14 with fail
 go_cut [0,1] (λv0 v1 w'=>w'=w/\∃X cx x Y cy y,v0=.slice X x.length cx/\v1=.slice Y y.length cy/\Rd w .u64 X cx x/\Rd w .u64 Y cy y/\Wf b64 x/\Wf b64 y/\oa x/\y.length<=x.length/\x.length<=1000000000/\val b64 x+val b64 y=s)
 case first=>
  by_cases h:a.length<b.length
  ·go_wp2
   go_meet
   case rel=>exact⟨rfl,B,d,b,A,c,a,rfl,rfl,hb,ha,wb,wa,tb,by omega,by omega,by omega⟩
  ·go_wp2
   go_meet
   case rel=>exact⟨rfl,A,c,a,B,d,b,rfl,rfl,ha,hb,wa,wb,ta,by omega,by omega,hv⟩
 case rest=>
  obtain⟨rfl,X,cx,x,Y,cy,y,rfl,rfl,hx,hy,wx,wy,tx,ux,hx1,hs⟩:=hcut
  clear ha hb wa wb ta tb hla hlb hv
  have HS:=Lib.hid hs
  clear hs
  have KW:=hx.len
  have Pw:=hy.len
  go_wp2_with (at_make; refine ck _ rfl _ _ _ rfl .u64 108 Tryz.underlying52 jC _ _ rfl rfl (by omega) (by omega) (by omega) ?_; intro w1 hrow bZ hsz)
  go_loopw [6,25] (λs6 Nv wr=>∃(i cr:Nat) (o:List Nat),i<=x.length/\Nv=.int .i64 i/\s6=.int .u64 cr/\cr<=1/\o.length=i/\Wf b64 o/\Row wr .u64 108 wc.heap.size (o++List.replicate (x.length+1-i) 0)/\Below wc.heap.size wc wr/\val b64 o+b64^i*cr=val b64 (x.take i)+val b64 (y.take i))
   (λ_ Nv _=>x.length-(intOf Nv).toNat)
  case atStart=>exact⟨0,0,[],by omega,rfl,rfl,by omega,rfl,Wf.nil _,by simpa using hrow,bZ,by simp[val]⟩
  case round=>
   obtain⟨i,cr,o,hi,rfl,rfl,yZ,dG,ee,hr,hbl,hval⟩:=hrel
   have cq:=Lib.hid hval
   have dy:=Lib.hid dG
   clear hval dG hrow bZ hsz
   by_cases hlt:i<x.length
   ·obtain⟨bx,ox,vx,rfl,vf,jc⟩:=(hx.below hbl).get hlt
    obtain⟨vo,CF,Fi⟩:=hr.get (i:=i) (by have:=dy.out; simp; omega)
    have uf:=hr.frozen i
    by_cases oF:i<y.length
    ·obtain⟨LV,oy,vy,rfl,Gg,qJ⟩:=(hy.below hbl).get oF
     go_wp2_with ((with_reducible refine gD 113 rfl rfl ?_); refine ye rfl rfl rfl (by omega) (by omega) (by omega) (by omega) ?_)
     go_roundw
     case rel=>
      rw[uL,uK]
      obtain⟨Mf,o',e,r⟩:=tE (vy:=vy) dy.out hlt wx wy yZ ee jc.out (by rw[List.getD_eq_getElem?_getD,qJ.out]; rfl) hr hbl (Nat.le_refl _) cq.out
      exact⟨i+1,Mf,o',by omega,by go_num,by rw[e],r⟩
     case measure=>simp[intOf]; omega
    ·go_wp2_with ((with_reducible refine gD 113 rfl rfl ?_); refine ye rfl rfl rfl (by omega) (by omega) (by omega) (by omega) ?_)
     go_roundw
     case rel=>
      rw[AF,AE]
      obtain⟨Mf,o',e,r⟩:=tE (vy:=0) dy.out hlt wx wy yZ ee jc.out (by rw[List.getD_eq_getElem?_getD,List.getElem?_eq_none (by omega)]; rfl) hr hbl (Nat.le_refl _) cq.out
      exact⟨i+1,Mf,o',by omega,by go_num,by rw[e],r⟩
     case measure=>simp[intOf]; omega
   ·obtain rfl:i=x.length:=by omega
    have eB:val b64 o+b64^o.length*cr=s:=by
     have:=cq.out
     rw[dy.out,this,List.take_of_length_le (Nat.le_refl _),List.take_of_length_le (by omega)]; exact HS.out
    have HF:=Lib.hid eB
    clear eB
    rw[show x.length+1-x.length=1 by omega,show List.replicate 1 0=[0]from rfl]at hr
    rcases Nat.eq_zero_or_pos cr with rfl|hc0
    ·go_wp2
     go_ret
     refine⟨_,rfl,?_,hbl⟩
     have h:=hr.rd (n:=x.length) (c:=x.length+1) (by simp; have:=dy.out; omega) (by omega) (by unfold maxLen; omega)
     rw[<-dy.out,List.take_left]at h
     have hF:=HF.out
     rw[Nat.mul_zero,Nat.add_zero]at hF
     rw[<-hF,<-dy.out]
     exact bj.of ai h rfl ee (Hu (y:=y) tx wx ee dy.out ai (by have h1:=HF.out; have h2:=HS.out; omega) rfl)
    ·have hA:=hr.keep ((Below.refl _ _).alloc (Nat.le_refl _) (.cells #[.int .u64 (cr:Int)] 108))
     obtain⟨vo,CF,_⟩:=hA.get (i:=x.length) (by simp; have:=dy.out; omega)
     have uf:=hA.frozen x.length
     go_wp2
     go_ret
     refine⟨_,rfl,?_,(hbl.alloc hbl.size _).setCell (Nat.le_refl _) _⟩
     have hR:=hA.set x.length cr
     rw[js dy.out]at hR
     have hF:=HF.out
     rw[<-kB]at hF
     rw[<-hF]
     have hl:(o++[cr]).length=x.length+1:=by simp[dy.out]
     exact bj.of ai (hR.ew (by omega) (by unfold maxLen; omega)) hl (ee.append (Wf.cons (by unfold b64; omega) (Wf.nil _))) (by unfold oa; simp; omega)
end Wx

namespace Wx
open Go Go.RowKit Go.Proofs
theorem ku:Ty Tryz.prog 54 true 3:=⟨λ_=>by kernel_rfl,λ_=>by kernel_rfl,by decide⟩
theorem IJ:∀w,(zeroValue 54).run Tryz.prog w=.ok (.agg #[.bool false,.slice none 0 0,.slice none 0 0]) w:=λ_=>by kernel_rfl
theorem iM:∀b o w,(Instr.fieldAt 54 (.pointer (some ⟨b,o,none⟩)) 0).run Tryz.prog w=.ok (.pointer (some ⟨b,o+0,none⟩)) w:=λ_ _ _=>by kernel_rfl
theorem sA:∀b o w,(Instr.fieldAt 54 (.pointer (some ⟨b,o,none⟩)) 1).run Tryz.prog w=.ok (.pointer (some ⟨b,o+1,none⟩)) w:=λ_ _ _=>by kernel_rfl
theorem sB:∀b o w,(Instr.fieldAt 54 (.pointer (some ⟨b,o,none⟩)) 2).run Tryz.prog w=.ok (.pointer (some ⟨b,o+2,none⟩)) w:=λ_ _ _=>by kernel_rfl
theorem gH:Ty Tryz.prog 4 false 1:=⟨λ_=>by kernel_rfl,λ_=>by kernel_rfl,by decide⟩
theorem uE:Ty Tryz.prog 61 true 3:=⟨λ_=>by kernel_rfl,λ_=>by kernel_rfl,by decide⟩
theorem TJ:∀w,(zeroValue 61).run Tryz.prog w=.ok (.agg #[.bool false,.slice none 0 0,.slice none 0 0]) w:=λ_=>by kernel_rfl
theorem sw:∀b o w,(Instr.fieldAt 61 (.pointer (some ⟨b,o,none⟩)) 0).run Tryz.prog w=.ok (.pointer (some ⟨b,o+0,none⟩)) w:=λ_ _ _=>by kernel_rfl
theorem F0:∀b o w,(Instr.fieldAt 61 (.pointer (some ⟨b,o,none⟩)) 1).run Tryz.prog w=.ok (.pointer (some ⟨b,o+1,none⟩)) w:=λ_ _ _=>by kernel_rfl
theorem pE:Ty Tryz.prog 52 false 1:=⟨λ_=>by kernel_rfl,λ_=>by kernel_rfl,by decide⟩
end Wx

namespace Wx
open Go Go.RowKit Go.Proofs
def aU (n:Nat):Pred:=λw v=>bj .u64 b64 w v n
theorem dR (n:Nat):aC (aU n):=λ_ _ _ hM h=>mS hM (.inl rfl) h
theorem yM (n:Nat):Fits 1 false (aU n):=by
 rintro w v ⟨A,c,rfl,_⟩
 refine⟨[_],rfl,rfl,rfl,?_⟩
 intro u hu
 simp at hu
 subst hu
 exact⟨fD _ _ _,rfl⟩
def bA (q:Rat):List Fd:=[⟨false,1,pB (decide (q.num<0))⟩,⟨false,1,aU q.num.natAbs⟩,⟨false,1,aU (az q.den)⟩]
theorem Ls (q:Rat):∀w v,bG q w v->pS (bA q) w v:=by
 rintro w v ⟨vn,vd,rfl,h1,h2⟩
 exact Hs (cs:=[.bool (decide (q.num<0)),vn,vd]) ⟨by simp,rfl,by simp,h1,by simp,h2,rfl⟩
theorem uY (q:Rat):Fits 3 true (pS (bA q)):=pZ (fs:=bA q) ⟨fits_bool _,yM _,yM _,trivial⟩ rfl
variable {n:Nat}
theorem Df {w:World} {e:Ending} {w':World} (h:er .u64 b64 w n e w'):eR (aU n) w e w':=h
theorem LY (m n:Nat):∀w v1 v2,aU m w v1->aU n w v2->Calls Tryz.prog 55 #[v1,v2] w (eR (pI (bq m n)) w):=λw v1 v2 h1 h2=>(mM w v1 v2 m n h1 h2).mono λ_ _ h=>⟨_,h.1,rfl,h.2⟩
theorem LZ {m j k:Nat} (hj:Bd j m) (hk:Bd k n) (dz:j<=1000000000) (lE:k<=1000000000):∀w v1 v2,aU m w v1->aU n w v2->Calls Tryz.prog 86 #[v1,v2] w (eR (aU (m+n)) w):=λw v1 v2 h1 h2=>(Ht w v1 v2 m n h1 h2 hj hk dz lE).mono λ_ _=>Df
theorem Cr {d:Nat} (hd:0<d):∀w v1,aU (az d) w v1->Calls Tryz.prog 83 #[v1] w (eR (aU d) w):=λw v1 h1=>(gA w v1 d h1 hd).mono λ_ _=>Df
section
variable {P:Program} {ops:Array Oper} {ms:List Nat} {c:dM} {V:List Vr} {A:List Al} {G:List bg} {i:Nat} {L:Nat->Bool} {β:Nat->Nat->Prop} {a:Act} {w:World} {o:Oper}{d:Nat} {x y z:Operand} {ty:TypeId} {pos:String} {aR:Array Edge}
end
end Wx
