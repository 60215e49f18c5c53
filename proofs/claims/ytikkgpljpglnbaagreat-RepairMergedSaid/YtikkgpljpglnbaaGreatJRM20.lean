import Derived.Test.YtikkgpljpglnbaaGreatJRM19
namespace Wx
open Go Go.RowKit
section
variable {ro:Option Nat} {ds:List Deferred} {P:Program} {Q:Exit->Act->World->Prop} {c:cM} {V:List Vr} {G:List aV} {a:Act} {w:World} {fn:Func}{id:Nat} {l:List Oper} {V1 V2:List Vr} {G1 G2:List aV}
theorem Tw (h:Inv c V [] G none_ a w) (ms:List Nat) (nv:List Vr) (A1:List Al) (ne:List aV) (hV:Aa nv V V1) (hG:mL ne G G1) (hs:qH P l.toArray ms c V1 A1 G1 0 l) (kV:gp V1 V2) (kG:aF G1 G2) (hk:∀a w,Inv c V2 [] G2 none_ a w->Q .normal a w) (hn:ni nv A1 ne=true:=by kernel_rfl) (hb:zw P c.N l ms V1 A1 G1=true:=by kernel_rfl) (hd:l.all gz=true:=by kernel_rfl):(Code.region id l.toArray true).ww ro ds P Q a w:=by
 unfold zw at hb
 simp only[Bool.and_eq_true,beq_iff_eq]at hb
 obtain⟨hm,hok,yC,hwf⟩:=hb
 exact Hp ms hm hok yC hwf hd (lY h hV hG hn) hs λa w hI=>hk a w (ow hwf kV kG hI)
variable {y:Code}
theorem BP (h:Inv c V [] G none_ a w) (ms:List Nat) (nv:List Vr) (A1:List Al) (ne:List aV) (hV:Aa nv V V1) (hG:mL ne G G1) (hs:qH P l.toArray ms c V1 A1 G1 0 l) (kV:gp V1 V2) (kG:aF G1 G2) (hk:∀a w,Inv c V2 [] G2 none_ a w->y.ww ro ds P Q a w) (hn:ni nv A1 ne=true:=by kernel_rfl) (hb:zw P c.N l ms V1 A1 G1=true:=by kernel_rfl) (hd:l.all gz=true:=by kernel_rfl):(Code.seq (Code.region id l.toArray true) y).ww ro ds P Q a w:=
 av (Tw h ms nv A1 ne hV hG hs kV kG hk hn hb hd)
theorem Tx (h:Inv c [] [] G none_ a w) (ms:List Nat) (ne:List aV) (hG:mL ne G G1) (hs:qH P l.toArray ms c [] [] G1 0 l) (kG:aF G1 G2) (hk:∀a w,Inv c [] [] G2 none_ a w->Q .normal a w) (hn:ni [] [] ne=true:=by kernel_rfl) (hb:zw P c.N l ms [] [] G1=true:=by kernel_rfl) (hd:l.all gz=true:=by kernel_rfl):(Code.region id l.toArray true).ww ro ds P Q a w:=Tw h ms [] [] ne .z hG hs .z kG hk hn hb hd
theorem Tv (h:Inv c [] [] G none_ a w) (ms:List Nat) (ne:List aV) (hG:mL ne G G1) (hs:qH P l.toArray ms c [] [] G1 0 l) (kG:aF G1 G2) (hk:∀a w,Inv c [] [] G2 none_ a w->y.ww ro ds P Q a w) (hn:ni [] [] ne=true:=by kernel_rfl) (hb:zw P c.N l ms [] [] G1=true:=by kernel_rfl) (hd:l.all gz=true:=by kernel_rfl):(Code.seq (Code.region id l.toArray true) y).ww ro ds P Q a w:=av (Tx h ms ne hG hs kG hk hn hb hd)
theorem tX (h:Inv c V [] G none_ a w) (n:Nat) (nv:List Vr) (A1:List Al) (ne:List aV) (hV:Aa nv V V1) (hG:mL ne G G1) (hs:qH P l.toArray (tm n 0) c V1 A1 G1 0 l) (kV:gp V1 V2) (kG:aF G1 G2) (hk:∀a w,Inv c V2 [] G2 none_ a w->Q .normal a w) (hn:ni nv A1 ne=true:=by kernel_rfl) (hb:zz c.N l (tm n 0) V1 A1 G1=true:=by kernel_rfl) (hd:l.all gz=true:=by kernel_rfl):(Code.region id l.toArray false).ww ro ds P Q a w:=by
 unfold zz at hb
 simp only[Bool.and_eq_true,beq_iff_eq]at hb
 obtain⟨yC,hwf⟩:=hb
 exact J2 hwf hd (lY h hV hG hn) (by rw[yC]; exact hs) λa w hI=>hk a w (ow hwf kV kG hI)
theorem aW (h:Inv c V [] G none_ a w) (n:Nat) (nv:List Vr) (A1:List Al) (ne:List aV) (hV:Aa nv V V1) (hG:mL ne G G1) (hs:qH P l.toArray (tm n 0) c V1 A1 G1 0 l) (kV:gp V1 V2) (kG:aF G1 G2) (hk:∀a w,Inv c V2 [] G2 none_ a w->y.ww ro ds P Q a w) (hn:ni nv A1 ne=true:=by kernel_rfl) (hb:zz c.N l (tm n 0) V1 A1 G1=true:=by kernel_rfl) (hd:l.all gz=true:=by kernel_rfl):(Code.seq (Code.region id l.toArray false) y).ww ro ds P Q a w:=
 av (tX h n nv A1 ne hV hG hs kV kG hk hn hb hd)
theorem BQ (h:Inv c [] [] G none_ a w) (n:Nat) (ne:List aV) (hG:mL ne G G1) (hs:qH P l.toArray (tm n 0) c [] [] G1 0 l) (kG:aF G1 G2) (hk:∀a w,Inv c [] [] G2 none_ a w->Q .normal a w) (hn:ni [] [] ne=true:=by kernel_rfl) (hb:zz c.N l (tm n 0) [] [] G1=true:=by kernel_rfl) (hd:l.all gz=true:=by kernel_rfl):(Code.region id l.toArray false).ww ro ds P Q a w:=tX h n [] [] ne .z hG hs .z kG hk hn hb hd
theorem bH (h:Inv c [] [] G none_ a w) (n:Nat) (ne:List aV) (hG:mL ne G G1) (hs:qH P l.toArray (tm n 0) c [] [] G1 0 l) (kG:aF G1 G2) (hk:∀a w,Inv c [] [] G2 none_ a w->y.ww ro ds P Q a w) (hn:ni [] [] ne=true:=by kernel_rfl) (hb:zz c.N l (tm n 0) [] [] G1=true:=by kernel_rfl) (hd:l.all gz=true:=by kernel_rfl):(Code.seq (Code.region id l.toArray false) y).ww ro ds P Q a w:=av (BQ h n ne hG hs kG hk hn hb hd)
variable {s:Nat}
theorem nP {v:Value} (hI:Inv c V [] G none_ a w) (hk:fD s G=some (bp v)):a.eval (.tmp s)=v:=by
 obtain⟨k,h⟩:=dn hk
 exact hI.get k h
variable {b:Bool} {x:Code}
theorem uz (hI:Inv c V [] G none_ a w) (ht:b=true->x.ww ro ds P Q a w) (hf:b=false->y.ww ro ds P Q a w) (hk:fD s G=some (pB b):=by exact rfl):(Code.cond (.tmp s) x y).ww ro ds P Q a w:=rJ (nP hI hk) ht hf
theorem iK {φ:Prop} [Decidable φ] {x y:Code} (hI:Inv c V [] G none_ a w) (ht:φ->x.ww ro ds P Q a w) (hf:¬φ->y.ww ro ds P Q a w) (hk:fD s G=some (pB (decide φ)):=by exact rfl):(Code.cond (.tmp s) x y).ww ro ds P Q a w:=rJ (nP hI hk) (λh=>ht (of_decide_eq_true h)) λh=>hf (of_decide_eq_false h)
theorem Xk (hI:Inv c V [] G none_ a w) (hb:b=true) (ht:x.ww ro ds P Q a w) (hk:fD s G=some (pB b):=by exact rfl):(Code.cond (.tmp s) x y).ww ro ds P Q a w:=rJ (nP hI hk) (λ_=>ht) λh=>by rw[hb]at h; cases h
theorem Xj (hI:Inv c V [] G none_ a w) (hb:b=false) (hf:y.ww ro ds P Q a w) (hk:fD s G=some (pB b):=by exact rfl):(Code.cond (.tmp s) x y).ww ro ds P Q a w:=rJ (nP hI hk) (λh=>by rw[hb]at h; cases h) λ_=>hf
theorem vL {ι:Type} {C:Code} (VF:List Vr) (GF:List aV) (V1:ι->List Vr) (G1:ι->List aV) (φ:ι->Prop) (μ:ι->Nat) (k0:ι) (h0:φ k0) (hI:Inv c V [] G none_ a w) (hV:J7 V (VF++V1 k0)) (hG:J6 G (GF++G1 k0))
  (round:∀k a w,φ k->Inv c (VF++V1 k) [] (GF++G1 k) none_ a w->C.ww ro ds P (Exit.then (λa w=>∃k',(φ k'/\Inv c (VF++V1 k') [] (GF++G1 k') none_ a w)/\μ k'<μ k) Q) a w):(Code.loop C).ww ro ds P Q a w:=
 JZ (λk a w=>φ k/\Inv c (VF++V1 k) [] (GF++G1 k) none_ a w) μ k0 ⟨h0,hI.cv hV hG⟩ λk a w h=>round k a w h.1 h.2
theorem J1 (V':List Vr) (G':List aV) (_:Inv c V [] G none_ a w) (_:J7 V V') (_:J6 G G') (hx:x.ww ro ds P (Exit.then (Inv c V' [] G' none_) Q) a w) (hy:∀a w,Inv c V' [] G' none_ a w->y.ww ro ds P Q a w):(Code.seq x y).ww ro ds P Q a w:=
 av (J0 hx λe a w h=>by
  cases e with
  |normal=>exact hy a w h
  |_=>exact h)
variable {p q:Pred}
theorem fK (h:fD s G=some q:=by exact rfl) (hq:∀w v,q w v->p w v:=by exact Hu):cZ P V G (.tmp s) p:=rt hq h
theorem xj {x:Vr} {T:Nat} (h:lO s V=some x:=by exact rfl) (hs:x.slot=s:=by exact rfl) (hb:live none_ x=true:=by exact rfl) (bS:x.kd=.ptr:=by exact rfl) (hc:cont none_ x.c0 x.st=pv q:=by exact rfl) (hq:∀w v,q w v->p w v:=by exact Hu) (ht:He P T x.agg x.n=true:=by kernel_rfl):cZ P V G (.cell s T) p:=(dX h).1.elim λk hk=>.imp (.cell k hk hb bS hs (bE ht) hc) hq
end
section
variable {P:Program} {w:World} {fn:Func}{f:FuncId} {C:Code} {M:Nat->Nat->Prop} {p:Pred} {N:Nat}
theorem jn {vs:List Value} {G:List aV} (hf:P.funcs[f]?=some fn) (hb:fn.body=some C) (hN:fn.ntmps=N) (hlen:decide (vs.length<=N)=true) (hM:cR M w) (hG:dH M w vs G)
  (h:∀a,Inv ⟨N,w,M,λ_=>False⟩ [] [] G none_ a w->C.ww none [] P (bodyPost P fn (bD M p w)) a w):Calls P f vs.toArray w (bD M p w):=
 ql hf hb hN hlen hM hG λa hI=>(wpIn_wide (n:=0)).1 (wpIn_mono (h a hI 0) λe a' w' ⟨a0,e0,h0⟩=>by subst e0; exact h0)
theorem TB (hf:P.funcs[f]?=some fn) (hb:fn.body=some C) (hN:fn.ntmps=N) (hlen:decide (([]:List Value).length<=N)=true) (hM:cR M w) (h:∀a,Inv ⟨N,w,M,λ_=>False⟩ [] [] [] none_ a w->C.ww none [] P (bodyPost P fn (bD M p w)) a w):Calls P f #[] w (bD M p w):=
 jn (vs:=([]:List Value)) hf hb hN hlen hM (show dH M w ([]:List Value) []from trivial) h
variable {v0:Value} {p0:Pred}
theorem uA (hf:P.funcs[f]?=some fn) (hb:fn.body=some C) (hN:fn.ntmps=N) (hlen:decide ([v0].length<=N)=true) (hM:cR M w) (h0:aM M (λw=>p0 w v0) w) (h:∀a,Inv ⟨N,w,M,λ_=>False⟩ [] [] [Uz 0 p0] none_ a w->C.ww none [] P (bodyPost P fn (bD M p w)) a w):Calls P f #[v0] w (bD M p w):=
 jn (vs:=[v0]) hf hb hN hlen hM (show dH M w [v0] [Uz 0 p0]from⟨⟨rfl,_,rfl,h0⟩,trivial⟩) h
variable {v1:Value} {p1:Pred}
theorem xn (hf:P.funcs[f]?=some fn) (hb:fn.body=some C) (hN:fn.ntmps=N) (hlen:decide ([v0,v1].length<=N)=true) (hM:cR M w) (h0:aM M (λw=>p0 w v0) w) (h1:aM M (λw=>p1 w v1) w) (h:∀a,Inv ⟨N,w,M,λ_=>False⟩ [] [] [Uz 0 p0,Uz 1 p1] none_ a w->C.ww none [] P (bodyPost P fn (bD M p w)) a w):Calls P f #[v0,v1] w (bD M p w):=
 jn (vs:=[v0,v1]) hf hb hN hlen hM (show dH M w [v0,v1] [Uz 0 p0,Uz 1 p1]from⟨⟨rfl,_,rfl,h0⟩,⟨rfl,_,rfl,h1⟩,trivial⟩) h
variable {v2:Value} {p2:Pred}
theorem Ho (hf:P.funcs[f]?=some fn) (hb:fn.body=some C) (hN:fn.ntmps=N) (hlen:decide ([v0,v1,v2].length<=N)=true) (hM:cR M w) (h0:aM M (λw=>p0 w v0) w) (h1:aM M (λw=>p1 w v1) w) (h2:aM M (λw=>p2 w v2) w) (h:∀a,Inv ⟨N,w,M,λ_=>False⟩ [] [] [Uz 0 p0,Uz 1 p1,Uz 2 p2] none_ a w->C.ww none [] P (bodyPost P fn (bD M p w)) a w):Calls P f #[v0,v1,v2] w (bD M p w):=
 jn (vs:=[v0,v1,v2]) hf hb hN hlen hM (show dH M w [v0,v1,v2] [Uz 0 p0,Uz 1 p1,Uz 2 p2]from⟨⟨rfl,_,rfl,h0⟩,⟨rfl,_,rfl,h1⟩,⟨rfl,_,rfl,h2⟩,trivial⟩) h
variable {v3:Value} {p3:Pred}
theorem Nn (hf:P.funcs[f]?=some fn) (hb:fn.body=some C) (hN:fn.ntmps=N) (hlen:decide ([v0,v1,v2,v3].length<=N)=true) (hM:cR M w) (h0:aM M (λw=>p0 w v0) w) (h1:aM M (λw=>p1 w v1) w) (h2:aM M (λw=>p2 w v2) w) (h3:aM M (λw=>p3 w v3) w) (h:∀a,Inv ⟨N,w,M,λ_=>False⟩ [] [] [Uz 0 p0,Uz 1 p1,Uz 2 p2,Uz 3 p3] none_ a w->C.ww none [] P (bodyPost P fn (bD M p w)) a w):Calls P f #[v0,v1,v2,v3] w (bD M p w):=
 jn (vs:=[v0,v1,v2,v3]) hf hb hN hlen hM (show dH M w [v0,v1,v2,v3] [Uz 0 p0,Uz 1 p1,Uz 2 p2,Uz 3 p3]from⟨⟨rfl,_,rfl,h0⟩,⟨rfl,_,rfl,h1⟩,⟨rfl,_,rfl,h2⟩,⟨rfl,_,rfl,h3⟩,trivial⟩) h
theorem TC {v4 v5:Value} {p4 p5:Pred} (hf:P.funcs[f]?=some fn) (hb:fn.body=some C) (hN:fn.ntmps=N) (hlen:decide ([v0,v1,v2,v3,v4,v5].length<=N)=true) (hM:cR M w) (h0:aM M (λw=>p0 w v0) w) (h1:aM M (λw=>p1 w v1) w) (h2:aM M (λw=>p2 w v2) w) (h3:aM M (λw=>p3 w v3) w) (h4:aM M (λw=>p4 w v4) w) (h5:aM M (λw=>p5 w v5) w) (h:∀a,Inv ⟨N,w,M,λ_=>False⟩ [] [] [Uz 0 p0,Uz 1 p1,Uz 2 p2,Uz 3 p3,Uz 4 p4,Uz 5 p5] none_ a w->C.ww none [] P (bodyPost P fn (bD M p w)) a w):Calls P f #[v0,v1,v2,v3,v4,v5] w (bD M p w):=
 jn (vs:=[v0,v1,v2,v3,v4,v5]) hf hb hN hlen hM (show dH M w [v0,v1,v2,v3,v4,v5] [Uz 0 p0,Uz 1 p1,Uz 2 p2,Uz 3 p3,Uz 4 p4,Uz 5 p5]from⟨⟨rfl,_,rfl,h0⟩,⟨rfl,_,rfl,h1⟩,⟨rfl,_,rfl,h2⟩,⟨rfl,_,rfl,h3⟩,⟨rfl,_,rfl,h4⟩,⟨rfl,_,rfl,h5⟩,trivial⟩) h
end
abbrev K0 (P:Program) (f:FuncId) (p:Pred):Prop:=∀(M:Nat->Nat->Prop) (w:World),cR M w->Calls P f #[] w (bD M p w)
abbrev K1 (P:Program) (f:FuncId) (p0 p:Pred):Prop:=∀(M:Nat->Nat->Prop) (w:World) (v0:Value),cR M w->aM M (λw=>p0 w v0) w->Calls P f #[v0] w (bD M p w)
abbrev K2 (P:Program) (f:FuncId) (p0 p1 p:Pred):Prop:=∀(M:Nat->Nat->Prop) (w:World) (v0 v1:Value),cR M w->aM M (λw=>p0 w v0) w->aM M (λw=>p1 w v1) w->Calls P f #[v0,v1] w (bD M p w)
abbrev K3 (P:Program) (f:FuncId) (p0 p1 p2 p:Pred):Prop:=∀(M:Nat->Nat->Prop) (w:World) (v0 v1 v2:Value),cR M w->aM M (λw=>p0 w v0) w->aM M (λw=>p1 w v1) w->aM M (λw=>p2 w v2) w->Calls P f #[v0,v1,v2] w (bD M p w)
abbrev K4 (P:Program) (f:FuncId) (p0 p1 p2 p3 p:Pred):Prop:=∀(M:Nat->Nat->Prop) (w:World) (v0 v1 v2 v3:Value),cR M w->aM M (λw=>p0 w v0) w->aM M (λw=>p1 w v1) w->aM M (λw=>p2 w v2) w->aM M (λw=>p3 w v3) w->Calls P f #[v0,v1,v2,v3] w (bD M p w)
abbrev K6 (P:Program) (f:FuncId) (p0 p1 p2 p3 p4 p5 p:Pred):Prop:=∀(M:Nat->Nat->Prop) (w:World) (v0 v1 v2 v3 v4 v5:Value),cR M w->aM M (λw=>p0 w v0) w->aM M (λw=>p1 w v1) w->aM M (λw=>p2 w v2) w->aM M (λw=>p3 w v3) w->aM M (λw=>p4 w v4) w->aM M (λw=>p5 w v5) w->Calls P f #[v0,v1,v2,v3,v4,v5] w (bD M p w)
end Wx

namespace Wx
open Go Go.RowKit Go.Proofs
instance Xc:BZ Tryz.prog 3 false 1:=⟨bE (by kernel_rfl)⟩
instance Xd:BZ Tryz.prog 4 false 1:=⟨bE (by kernel_rfl)⟩
instance Xe:BZ Tryz.prog 2 false 1:=⟨bE (by kernel_rfl)⟩
instance Xf:BZ Tryz.prog 27 false 1:=⟨bE (by kernel_rfl)⟩
instance Xg:BZ Tryz.prog 47 true 3:=⟨bE (by kernel_rfl)⟩
instance Xh:BZ Tryz.prog 38 true 2:=⟨bE (by kernel_rfl)⟩
instance UU:BZ Tryz.prog 24 true 2:=⟨bE (by kernel_rfl)⟩
instance UW:BZ Tryz.prog 30 true 2:=⟨bE (by kernel_rfl)⟩
instance UX:BZ Tryz.prog 49 true 9:=⟨bE (by kernel_rfl)⟩
instance UY:BZ Tryz.prog 22 false 1:=⟨bE (by kernel_rfl)⟩
end Wx

namespace Wx
open Go Go.RowKit Go.Proofs
theorem xF {x y c:Operand} {ops:Array Oper} {Q:Exit->Act->World->Prop} {o:Oper} {rest:List Oper} {a:Act} {w:World} {X Y C:Int}
  (hx:a.eval x=.int .u64 X) (hy:a.eval y=.int .u64 Y) (hc:a.eval c=.int .u64 C) (x0:0<=X) (y0:0<=Y) (c0:0<=C) (c1:C<=1)
  (hK:wpList Tryz.prog ops Q rest (a.put o.dst (.tuple #[.int .u64 (xH X Y C),.int .u64 (xG X Y C)])) w):zY Tryz.prog 74 x y c ops Q o rest a w:=
 add64_ext Tryz.func74 (by kernel_rfl) (by kernel_rfl) (by kernel_rfl) (by kernel_rfl) hx hy hc x0 y0 c0 c1 hK
theorem uF (x y c:Nat):xH (x:Int) y c=(((x+y+c)%b64:Nat):Int):=by unfold xH b64; omega
theorem uE (x y c:Nat):xG (x:Int) y c=(((x+y+c)/b64:Nat):Int):=by unfold xG b64; omega
theorem Ae (x c:Nat):xH (x:Int) 0 c=(((x+0+c)%b64:Nat):Int):=uF x 0 c
theorem Ad (x c:Nat):xG (x:Int) 0 c=(((x+0+c)/b64:Nat):Int):=uE x 0 c
theorem EZ {x y c:Nat} (hx:x<b64) (hy:y<b64) (hc:c<=1):(x+y+c)/b64<=1:=by unfold b64 at *; omega
variable {x y o:List Nat} {cr:Nat}
theorem tw {i vx vy g:Nat} {wr w0:World} (ek:o.length=i) (hlt:i<x.length) (wx:Wf b64 x) (wy:Wf b64 y) (Hw:cr<=1) (jC:Wf b64 o)
  (hx:x[i]?=some vx) (hy:y.getD i 0=vy) (hr:Row wr .u64 86 g (o++List.replicate (x.length+1-i) 0)) (hbl:Below w0.heap.size w0 wr) (hg:w0.heap.size<=g)
  (hval:val b64 o+b64^i*cr=val b64 (x.take i)+val b64 (y.take i)):
  ∃(LL:Nat) (o':List Nat),((vx+vy+cr)/b64=LL)/\LL<=1/\o'.length=i+1/\Wf b64 o' /\
   Row (wr.setCell ⟨g,i,none⟩ (.int .u64 (((vx+vy+cr)%b64:Nat):Int))) .u64 86 g (o'++List.replicate (x.length+1-(i+1)) 0) /\
   Below w0.heap.size w0 (wr.setCell ⟨g,i,none⟩ (.int .u64 (((vx+vy+cr)%b64:Nat):Int)))/\val b64 o'+b64^(i+1)*LL=val b64 (x.take (i+1))+val b64 (y.take (i+1)):=by
 have qw:vx<b64:=wx _ (List.mem_of_getElem? hx)
 have I4:vy<b64:=by
  rw[<-hy,List.getD_eq_getElem?_getD]
  cases h:y[i]? with
  |none=>simp[b64]
  |some z=>exact wy _ (List.mem_of_getElem? h)
 refine⟨_,o++[(vx+vy+cr)%b64],rfl,EZ qw I4 Hw,by simp[ek],jC.append (Wf.cons (Nat.mod_lt _ (by unfold b64; omega)) (Wf.nil _)),?_,hbl.setCell hg _,?_⟩
 ·have h:=hr.set i ((vx+vy+cr)%b64)
  rw[show x.length+1-i=(x.length+1-(i+1))+1 by omega,List.replicate_succ,oP ek]at h
  rw[List.append_assoc]
  exact h
 ·exact G4 ek hval (bR hx) (by rw[iO,hy]) (by have:=Nat.mod_add_div (vx+vy+cr) b64; omega)
theorem GD (hx:qV x) (wx:Wf b64 x) (wo:Wf b64 o) (ek:o.length=x.length) (QH:2<=b64) (hval:val b64 o+b64^o.length*cr=val b64 x+val b64 y):cr=0->qV o:=by
 rintro rfl
 refine BL wo ?_
 by_cases h:o=[]
 ·exact .inl h
 ·refine .inr ?_
  have hd:=nO QH wx hx
  have hpos:0<val b64 x:=by
   rcases Nat.eq_zero_or_pos (val b64 x)with h0|h0
   ·rw[h0,bk]at hd
    rw[<-hd]at ek
    exact absurd (List.eq_nil_of_length_eq_zero ek) h
   ·exact h0
  have:=lD QH hpos
  rw[hd]at this
  rw[ek]
  simp at hval
  omega
set_option maxHeartbeats 400000 in
theorem GC (w:World) (v1 v2:Value) (m n:Nat) (h1:cI .u64 b64 w v1 m) (h2:cI .u64 b64 w v2 n) {j k:Nat} (hj:Bd j m) (hk:Bd k n) (gg:j<=1000000000) (nD:k<=1000000000):
  Calls Tryz.prog 54 #[v1,v2] w (jc .u64 b64 w (m+n)):=by
 obtain⟨A,c,rfl,ha⟩:=h1
 obtain⟨B,d,rfl,hb⟩:=h2
 have hla:=ot hj
 have hlb:=ot hk
 have hv:val b64 (af b64 m)+val b64 (af b64 n)=m+n:=by rw[bM ak,bM ak]
 have wa:=cS ak m
 have wb:=cS ak n
 have ta:=nN ak m
 have tb:=nN ak n
 clear hj hk
 generalize af b64 m=a at *
 generalize af b64 n=b at *
 generalize m+n=s at *
 go_enter Tryz.func54,Tryz.ntmps54
 go_upto_if 14 with fail
 go_cut [0,1] (λv0 v1 w'=>w'=w/\∃X cx x Y cy y,v0=.slice X x.length cx/\v1=.slice Y y.length cy/\Rd w .u64 X cx x/\Rd w .u64 Y cy y/\Wf b64 x/\Wf b64 y/\qV x/\y.length<=x.length/\x.length<=1000000000/\val b64 x+val b64 y=s)
 case first=>
  by_cases h:a.length<b.length
  ·go_wp2
   go_meet
   case rel=>exact⟨rfl,B,d,b,A,c,a,rfl,rfl,hb,ha,wb,wa,tb,by omega,by omega,by omega⟩
  ·go_wp2
   go_meet
   case rel=>exact⟨rfl,A,c,a,B,d,b,rfl,rfl,ha,hb,wa,wb,ta,by omega,by omega,hv⟩
 case rest=>
  obtain⟨rfl,X,cx,x,Y,cy,y,rfl,rfl,hx,hy,wx,wy,tx,qO,hx1,hs⟩:=hcut
  clear ha hb wa wb ta tb hla hlb hv
  have HS:=Lib.hid hs
  clear hs
  have Hz:=hx.len
  have Wy:=hy.len
  go_wp2_with (at_make; refine eP _ rfl _ _ _ rfl .u64 86 Tryz.underlying45 jf _ _ rfl rfl (by omega) (by omega) (by omega) ?_; intro w1 hrow gH hsz)
  go_loopw [6,25] (λs6 M9 wr=>∃(i cr:Nat) (o:List Nat),i<=x.length/\M9=.int .i64 i/\s6=.int .u64 cr/\cr<=1/\o.length=i/\Wf b64 o/\Row wr .u64 86 wc.heap.size (o++List.replicate (x.length+1-i) 0)/\Below wc.heap.size wc wr/\val b64 o+b64^i*cr=val b64 (x.take i)+val b64 (y.take i))
   (λ_ M9 _=>x.length-(RowKit.intOf M9).toNat)
  case atStart=>exact⟨0,0,[],by omega,rfl,rfl,by omega,rfl,Wf.nil _,by simpa using hrow,gH,by simp[val]⟩
  case round=>
   obtain⟨i,cr,o,hi,rfl,rfl,Hw,ek,jC,hr,hbl,hval⟩:=hrel
   have eY:=Lib.hid hval
   have gn:=Lib.hid ek
   clear hval ek hrow gH hsz
   by_cases hlt:i<x.length
   ·obtain⟨bx,ox,vx,rfl,Hx,ue⟩:=(hx.below hbl).get hlt
    obtain⟨vo,Hv,Ka⟩:=hr.get (i:=i) (by have:=gn.out; simp; omega)
    have Cm:=hr.frozen i
    by_cases wH:i<y.length
    ·obtain⟨Rh,oy,vy,rfl,Qx,Ib⟩:=(hy.below hbl).get wH
     go_wp2_with ((with_reducible refine gb 74 rfl rfl ?_); refine xF rfl rfl rfl (by omega) (by omega) (by omega) (by omega) ?_)
     go_roundw
     case rel=>
      rw[uF,uE]
      obtain⟨LL,o',e,r⟩:=tw (vy:=vy) gn.out hlt wx wy Hw jC ue.out (by rw[List.getD_eq_getElem?_getD,Ib.out]; rfl) hr hbl (Nat.le_refl _) eY.out
      exact⟨i+1,LL,o',by omega,by go_num,by rw[e],r⟩
     case measure=>simp[RowKit.intOf]; omega
    ·go_wp2_with ((with_reducible refine gb 74 rfl rfl ?_); refine xF rfl rfl rfl (by omega) (by omega) (by omega) (by omega) ?_)
     go_roundw
     case rel=>
      rw[Ae,Ad]
      obtain⟨LL,o',e,r⟩:=tw (vy:=0) gn.out hlt wx wy Hw jC ue.out (by rw[List.getD_eq_getElem?_getD,List.getElem?_eq_none (by omega)]; rfl) hr hbl (Nat.le_refl _) eY.out
      exact⟨i+1,LL,o',by omega,by go_num,by rw[e],r⟩
     case measure=>simp[RowKit.intOf]; omega
   ·obtain rfl:i=x.length:=by omega
    have ee:val b64 o+b64^o.length*cr=s:=by
     have:=eY.out
     rw[gn.out,this,List.take_of_length_le (Nat.le_refl _),List.take_of_length_le (by omega)]; exact HS.out
    have HF:=Lib.hid ee
    clear ee
    rw[show x.length+1-x.length=1 by omega,show List.replicate 1 0=[0]from rfl]at hr
    rcases Nat.eq_zero_or_pos cr with rfl|hc0
    ·go_wp2
     go_ret
     refine⟨_,rfl,?_,hbl⟩
     have h:=hr.rd (n:=x.length) (c:=x.length+1) (by simp; have:=gn.out; omega) (by omega) (by unfold maxLen; omega)
     rw[<-gn.out,List.take_left]at h
     have hF:=HF.out
     rw[Nat.mul_zero,Nat.add_zero]at hF
     rw[<-hF,<-gn.out]
     exact cI.of ak h rfl jC (GD (y:=y) tx wx jC gn.out ak (by have h1:=HF.out; have h2:=HS.out; omega) rfl)
    ·have hA:=hr.keep ((Below.refl _ _).alloc (Nat.le_refl _) (.cells #[.int .u64 (cr:Int)] 86))
     obtain⟨vo,Hv,_⟩:=hA.get (i:=x.length) (by simp; have:=gn.out; omega)
     have Cm:=hA.frozen x.length
     go_wp2
     go_ret
     refine⟨_,rfl,?_,(hbl.alloc hbl.size _).setCell (Nat.le_refl _) _⟩
     have hR:=hA.set x.length cr
     rw[oP gn.out]at hR
     have hF:=HF.out
     rw[<-lM]at hF
     rw[<-hF]
     have hl:(o++[cr]).length=x.length+1:=by simp[gn.out]
     exact cI.of ak (hR.iE (by omega) (by unfold maxLen; omega)) hl (jC.append (Wf.cons (by unfold b64; omega) (Wf.nil _))) (by unfold qV; simp; omega)
end Wx

namespace Wx
open Go Go.RowKit Go.Proofs
theorem jz:Ty Tryz.prog 47 true 3:=⟨λ_=>by kernel_rfl,λ_=>by kernel_rfl,by decide⟩
theorem Hr:∀w,(zeroValue 47).run Tryz.prog w=.ok (.agg #[.bool false,.slice none 0 0,.slice none 0 0]) w:=λ_=>by kernel_rfl
theorem iv:∀b o w,(Instr.fieldAt 47 (.pointer (some ⟨b,o,none⟩)) 0).run Tryz.prog w=.ok (.pointer (some ⟨b,o+0,none⟩)) w:=λ_ _ _=>by kernel_rfl
theorem su:∀b o w,(Instr.fieldAt 47 (.pointer (some ⟨b,o,none⟩)) 1).run Tryz.prog w=.ok (.pointer (some ⟨b,o+1,none⟩)) w:=λ_ _ _=>by kernel_rfl
theorem sw:∀b o w,(Instr.fieldAt 47 (.pointer (some ⟨b,o,none⟩)) 2).run Tryz.prog w=.ok (.pointer (some ⟨b,o+2,none⟩)) w:=λ_ _ _=>by kernel_rfl
theorem oW:Ty Tryz.prog 4 false 1:=⟨λ_=>by kernel_rfl,λ_=>by kernel_rfl,by decide⟩
theorem oZ:Ty Tryz.prog 45 false 1:=⟨λ_=>by kernel_rfl,λ_=>by kernel_rfl,by decide⟩
end Wx

namespace Wx
open Go Go.RowKit Go.Proofs
def aS (n:Nat):Pred:=λw v=>cI .u64 b64 w v n
theorem da (n:Nat):aA (aS n):=λ_ _ _ hM h=>oz hM (.inl rfl) h
theorem yn (n:Nat):Fits 1 false (aS n):=by
 rintro w v ⟨A,c,rfl,_⟩
 refine⟨[_],rfl,rfl,rfl,?_⟩
 intro u hu
 simp at hu
 subst hu
 exact⟨fQ _ _ _,rfl⟩
def bh (q:Rat):List Fd:=[⟨false,1,pB (decide (q.num<0))⟩,⟨false,1,aS q.num.natAbs⟩,⟨false,1,aS (az q.den)⟩]
theorem Lf (q:Rat):∀w v,bu q w v->pS (bh q) w v:=by
 rintro w v ⟨vn,vd,rfl,h1,h2⟩
 exact MS (cs:=[.bool (decide (q.num<0)),vn,vd]) ⟨by simp,rfl,by simp,h1,by simp,h2,rfl⟩
theorem uT (q:Rat):Fits 3 true (pS (bh q)):=pL (fs:=bh q) ⟨fits_bool _,yn _,yn _,trivial⟩ rfl
variable {n:Nat}
theorem CU {w:World} {e:Ending} {w':World} (h:jc .u64 b64 w n e w'):jb (aS n) w e w':=h
theorem LC (m n:Nat):∀w v1 v2,aS m w v1->aS n w v2->Calls Tryz.prog 55 #[v1,v2] w (jb (pI (cD m n)) w):=λw v1 v2 h1 h2=>(lU w v1 v2 m n h1 h2).mono λ_ _ h=>⟨_,h.1,rfl,h.2⟩
theorem LD {m j k:Nat} (hj:Bd j m) (hk:Bd k n) (gg:j<=1000000000) (nD:k<=1000000000):∀w v1 v2,aS m w v1->aS n w v2->Calls Tryz.prog 54 #[v1,v2] w (jb (aS (m+n)) w):=λw v1 v2 h1 h2=>(GC w v1 v2 m n h1 h2 hj hk gg nD).mono λ_ _=>CU
theorem B6 {d:Nat} (hd:0<d):∀w v1,aS (az d) w v1->Calls Tryz.prog 51 #[v1] w (jb (aS d) w):=λw v1 h1=>(fU w v1 d h1 hd).mono λ_ _=>CU
section
variable {P:Program} {ops:Array Oper} {ms:List Nat} {c:cM} {V:List Vr} {A:List Al} {G:List aV} {i:Nat} {L:Nat->Bool} {β:Nat->Nat->Prop} {a:Act} {w:World} {o:Oper}{d:Nat} {x y z:Operand} {ty:TypeId} {pos:String} {aL:Array Edge}
end
end Wx
