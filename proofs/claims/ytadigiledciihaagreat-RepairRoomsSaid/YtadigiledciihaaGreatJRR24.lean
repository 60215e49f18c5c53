import Derived.Test.YtadigiledciihaaGreatJRR23
namespace Wx
open Go Go.RowKit
section
variable {ro:Option Nat} {ds:List Deferred} {P:Program} {Q:Exit->Act->World->Prop} {c:dg} {V:List Vr} {G:List aV} {a:Act} {w:World} {fn:Func}{id:Nat} {l:List Oper} {V1 V2:List Vr} {G1 G2:List aV}
theorem QL (h:Inv c V [] G none_ a w) (ms:List Nat) (nv:List Vr) (A1:List Al) (ne:List aV) (hV:yg nv V V1) (hG:mo ne G G1) (hs:pq P l.toArray ms c V1 A1 G1 0 l) (kV:fN V1 V2) (kG:aB G1 G2) (hk:∀a w,Inv c V2 [] G2 none_ a w->Q .normal a w) (hn:mF nv A1 ne=true:=by kernel_rfl) (hb:xI P c.N l ms V1 A1 G1=true:=by kernel_rfl) (hd:l.all fQ=true:=by kernel_rfl):(Code.region id l.toArray true).ww ro ds P Q a w:=by
 unfold xI at hb
 simp only[Bool.and_eq_true,beq_iff_eq]at hb
 obtain⟨hm,hok,wX,hwf⟩:=hb
 exact Fc ms hm hok wX hwf hd (lO h hV hG hn) hs λa w hI=>hk a w (nD hwf kV kG hI)
variable {y:Code}
theorem Fb (h:Inv c V [] G none_ a w) (ms:List Nat) (nv:List Vr) (A1:List Al) (ne:List aV) (hV:yg nv V V1) (hG:mo ne G G1) (hs:pq P l.toArray ms c V1 A1 G1 0 l) (kV:fN V1 V2) (kG:aB G1 G2) (hk:∀a w,Inv c V2 [] G2 none_ a w->y.ww ro ds P Q a w) (hn:mF nv A1 ne=true:=by kernel_rfl) (hb:xI P c.N l ms V1 A1 G1=true:=by kernel_rfl) (hd:l.all fQ=true:=by kernel_rfl):(Code.seq (Code.region id l.toArray true) y).ww ro ds P Q a w:=
 az (QL h ms nv A1 ne hV hG hs kV kG hk hn hb hd)
theorem QM (h:Inv c [] [] G none_ a w) (ms:List Nat) (ne:List aV) (hG:mo ne G G1) (hs:pq P l.toArray ms c [] [] G1 0 l) (kG:aB G1 G2) (hk:∀a w,Inv c [] [] G2 none_ a w->Q .normal a w) (hn:mF [] [] ne=true:=by kernel_rfl) (hb:xI P c.N l ms [] [] G1=true:=by kernel_rfl) (hd:l.all fQ=true:=by kernel_rfl):(Code.region id l.toArray true).ww ro ds P Q a w:=QL h ms [] [] ne .z hG hs .z kG hk hn hb hd
theorem Nl (h:Inv c [] [] G none_ a w) (ms:List Nat) (ne:List aV) (hG:mo ne G G1) (hs:pq P l.toArray ms c [] [] G1 0 l) (kG:aB G1 G2) (hk:∀a w,Inv c [] [] G2 none_ a w->y.ww ro ds P Q a w) (hn:mF [] [] ne=true:=by kernel_rfl) (hb:xI P c.N l ms [] [] G1=true:=by kernel_rfl) (hd:l.all fQ=true:=by kernel_rfl):(Code.seq (Code.region id l.toArray true) y).ww ro ds P Q a w:=az (QM h ms ne hG hs kG hk hn hb hd)
theorem yc (h:Inv c V [] G none_ a w) (n:Nat) (nv:List Vr) (A1:List Al) (ne:List aV) (hV:yg nv V V1) (hG:mo ne G G1) (hs:pq P l.toArray (tm n 0) c V1 A1 G1 0 l) (kV:fN V1 V2) (kG:aB G1 G2) (hk:∀a w,Inv c V2 [] G2 none_ a w->Q .normal a w) (hn:mF nv A1 ne=true:=by kernel_rfl) (hb:xJ c.N l (tm n 0) V1 A1 G1=true:=by kernel_rfl) (hd:l.all fQ=true:=by kernel_rfl):(Code.region id l.toArray false).ww ro ds P Q a w:=by
 unfold xJ at hb
 simp only[Bool.and_eq_true,beq_iff_eq]at hb
 obtain⟨wX,hwf⟩:=hb
 exact Hg hwf hd (lO h hV hG hn) (by rw[wX]; exact hs) λa w hI=>hk a w (nD hwf kV kG hI)
theorem bJ (h:Inv c V [] G none_ a w) (n:Nat) (nv:List Vr) (A1:List Al) (ne:List aV) (hV:yg nv V V1) (hG:mo ne G G1) (hs:pq P l.toArray (tm n 0) c V1 A1 G1 0 l) (kV:fN V1 V2) (kG:aB G1 G2) (hk:∀a w,Inv c V2 [] G2 none_ a w->y.ww ro ds P Q a w) (hn:mF nv A1 ne=true:=by kernel_rfl) (hb:xJ c.N l (tm n 0) V1 A1 G1=true:=by kernel_rfl) (hd:l.all fQ=true:=by kernel_rfl):(Code.seq (Code.region id l.toArray false) y).ww ro ds P Q a w:=
 az (yc h n nv A1 ne hV hG hs kV kG hk hn hb hd)
theorem sq (h:Inv c [] [] G none_ a w) (n:Nat) (ne:List aV) (hG:mo ne G G1) (hs:pq P l.toArray (tm n 0) c [] [] G1 0 l) (kG:aB G1 G2) (hk:∀a w,Inv c [] [] G2 none_ a w->Q .normal a w) (hn:mF [] [] ne=true:=by kernel_rfl) (hb:xJ c.N l (tm n 0) [] [] G1=true:=by kernel_rfl) (hd:l.all fQ=true:=by kernel_rfl):(Code.region id l.toArray false).ww ro ds P Q a w:=yc h n [] [] ne .z hG hs .z kG hk hn hb hd
theorem bg (h:Inv c [] [] G none_ a w) (n:Nat) (ne:List aV) (hG:mo ne G G1) (hs:pq P l.toArray (tm n 0) c [] [] G1 0 l) (kG:aB G1 G2) (hk:∀a w,Inv c [] [] G2 none_ a w->y.ww ro ds P Q a w) (hn:mF [] [] ne=true:=by kernel_rfl) (hb:xJ c.N l (tm n 0) [] [] G1=true:=by kernel_rfl) (hd:l.all fQ=true:=by kernel_rfl):(Code.seq (Code.region id l.toArray false) y).ww ro ds P Q a w:=az (sq h n ne hG hs kG hk hn hb hd)
variable {s:Nat}
theorem mX {v:Value} (hI:Inv c V [] G none_ a w) (hk:gB s G=some (bN v)):a.eval (.tmp s)=v:=by
 obtain⟨k,h⟩:=en hk
 exact hI.get k h
variable {b:Bool} {x:Code}
theorem vB (hI:Inv c V [] G none_ a w) (ht:b=true->x.ww ro ds P Q a w) (hf:b=false->y.ww ro ds P Q a w) (hk:gB s G=some (pB b):=by exact rfl):(Code.cond (.tmp s) x y).ww ro ds P Q a w:=ql (mX hI hk) ht hf
theorem kp {φ:Prop} [Decidable φ] {x y:Code} (hI:Inv c V [] G none_ a w) (ht:φ->x.ww ro ds P Q a w) (hf:¬φ->y.ww ro ds P Q a w) (hk:gB s G=some (pB (decide φ)):=by exact rfl):(Code.cond (.tmp s) x y).ww ro ds P Q a w:=ql (mX hI hk) (λh=>ht (of_decide_eq_true h)) λh=>hf (of_decide_eq_false h)
theorem Uv (hI:Inv c V [] G none_ a w) (hb:b=true) (ht:x.ww ro ds P Q a w) (hk:gB s G=some (pB b):=by exact rfl):(Code.cond (.tmp s) x y).ww ro ds P Q a w:=ql (mX hI hk) (λ_=>ht) λh=>by rw[hb]at h; cases h
theorem Uu (hI:Inv c V [] G none_ a w) (hb:b=false) (hf:y.ww ro ds P Q a w) (hk:gB s G=some (pB b):=by exact rfl):(Code.cond (.tmp s) x y).ww ro ds P Q a w:=ql (mX hI hk) (λh=>by rw[hb]at h; cases h) λ_=>hf
theorem vK {ι:Type} {C:Code} (VF:List Vr) (GF:List aV) (V1:ι->List Vr) (G1:ι->List aV) (φ:ι->Prop) (μ:ι->Nat) (k0:ι) (h0:φ k0) (hI:Inv c V [] G none_ a w) (hV:I3 V (VF++V1 k0)) (hG:I2 G (GF++G1 k0))
  (round:∀k a w,φ k->Inv c (VF++V1 k) [] (GF++G1 k) none_ a w->C.ww ro ds P (Exit.then (λa w=>∃k',(φ k'/\Inv c (VF++V1 k') [] (GF++G1 k') none_ a w)/\μ k'<μ k) Q) a w):(Code.loop C).ww ro ds P Q a w:=
 Hf (λk a w=>φ k/\Inv c (VF++V1 k) [] (GF++G1 k) none_ a w) μ k0 ⟨h0,hI.cv hV hG⟩ λk a w h=>round k a w h.1 h.2
variable {p q:Pred}
theorem fE (h:gB s G=some q:=by exact rfl) (hq:∀w v,q w v->p w v:=by exact Fj):dh P V G (.tmp s) p:=rt hq h
theorem CA {x:Vr} {T:Nat} (h:mh s V=some x:=by exact rfl) (hs:x.slot=s:=by exact rfl) (hb:live none_ x=true:=by exact rfl) (cC:x.kd=.ptr:=by exact rfl) (hc:cont none_ x.c0 x.st=pv q:=by exact rfl) (hq:∀w v,q w v->p w v:=by exact Fj) (ht:Fv P T x.agg x.n=true:=by kernel_rfl):dh P V G (.cell s T) p:=(eB h).1.elim λk hk=>.imp (.cell k hk hb cC hs (cH ht) hc) hq
end
section
variable {P:Program} {w:World} {fn:Func}{f:FuncId} {C:Code} {M:Nat->Nat->Prop} {p:Pred} {N:Nat}
theorem kC {vs:List Value} {G:List aV} (hf:P.funcs[f]?=some fn) (hb:fn.body=some C) (hN:fn.ntmps=N) (hlen:decide (vs.length<=N)=true) (hM:da M w) (hG:dU M w vs G)
  (h:∀a,Inv ⟨N,w,M,λ_=>False⟩ [] [] G none_ a w->C.ww none [] P (bodyPost P fn (bK M p w)) a w):Calls P f vs.toArray w (bK M p w):=
 kB hf hb hN hlen hM hG λa hI=>(wpIn_wide (n:=0)).1 (wpIn_mono (h a hI 0) λe a' w' ⟨a0,e0,h0⟩=>by subst e0; exact h0)
theorem QT (hf:P.funcs[f]?=some fn) (hb:fn.body=some C) (hN:fn.ntmps=N) (hlen:decide (([]:List Value).length<=N)=true) (hM:da M w) (h:∀a,Inv ⟨N,w,M,λ_=>False⟩ [] [] [] none_ a w->C.ww none [] P (bodyPost P fn (bK M p w)) a w):Calls P f #[] w (bK M p w):=
 kC (vs:=([]:List Value)) hf hb hN hlen hM (show dU M w ([]:List Value) []from trivial) h
variable {v0:Value} {p0:Pred}
theorem sU (hf:P.funcs[f]?=some fn) (hb:fn.body=some C) (hN:fn.ntmps=N) (hlen:decide ([v0].length<=N)=true) (hM:da M w) (h0:aP M (λw=>p0 w v0) w) (h:∀a,Inv ⟨N,w,M,λ_=>False⟩ [] [] [Uz 0 p0] none_ a w->C.ww none [] P (bodyPost P fn (bK M p w)) a w):Calls P f #[v0] w (bK M p w):=
 kC (vs:=[v0]) hf hb hN hlen hM (show dU M w [v0] [Uz 0 p0]from⟨⟨rfl,_,rfl,h0⟩,trivial⟩) h
variable {v1:Value} {p1:Pred}
theorem vF (hf:P.funcs[f]?=some fn) (hb:fn.body=some C) (hN:fn.ntmps=N) (hlen:decide ([v0,v1].length<=N)=true) (hM:da M w) (h0:aP M (λw=>p0 w v0) w) (h1:aP M (λw=>p1 w v1) w) (h:∀a,Inv ⟨N,w,M,λ_=>False⟩ [] [] [Uz 0 p0,Uz 1 p1] none_ a w->C.ww none [] P (bodyPost P fn (bK M p w)) a w):Calls P f #[v0,v1] w (bK M p w):=
 kC (vs:=[v0,v1]) hf hb hN hlen hM (show dU M w [v0,v1] [Uz 0 p0,Uz 1 p1]from⟨⟨rfl,_,rfl,h0⟩,⟨rfl,_,rfl,h1⟩,trivial⟩) h
variable {v2:Value} {p2:Pred}
theorem zJ (hf:P.funcs[f]?=some fn) (hb:fn.body=some C) (hN:fn.ntmps=N) (hlen:decide ([v0,v1,v2].length<=N)=true) (hM:da M w) (h0:aP M (λw=>p0 w v0) w) (h1:aP M (λw=>p1 w v1) w) (h2:aP M (λw=>p2 w v2) w) (h:∀a,Inv ⟨N,w,M,λ_=>False⟩ [] [] [Uz 0 p0,Uz 1 p1,Uz 2 p2] none_ a w->C.ww none [] P (bodyPost P fn (bK M p w)) a w):Calls P f #[v0,v1,v2] w (bK M p w):=
 kC (vs:=[v0,v1,v2]) hf hb hN hlen hM (show dU M w [v0,v1,v2] [Uz 0 p0,Uz 1 p1,Uz 2 p2]from⟨⟨rfl,_,rfl,h0⟩,⟨rfl,_,rfl,h1⟩,⟨rfl,_,rfl,h2⟩,trivial⟩) h
theorem QU {v3:Value} {p3:Pred} (hf:P.funcs[f]?=some fn) (hb:fn.body=some C) (hN:fn.ntmps=N) (hlen:decide ([v0,v1,v2,v3].length<=N)=true) (hM:da M w) (h0:aP M (λw=>p0 w v0) w) (h1:aP M (λw=>p1 w v1) w) (h2:aP M (λw=>p2 w v2) w) (h3:aP M (λw=>p3 w v3) w) (h:∀a,Inv ⟨N,w,M,λ_=>False⟩ [] [] [Uz 0 p0,Uz 1 p1,Uz 2 p2,Uz 3 p3] none_ a w->C.ww none [] P (bodyPost P fn (bK M p w)) a w):Calls P f #[v0,v1,v2,v3] w (bK M p w):=
 kC (vs:=[v0,v1,v2,v3]) hf hb hN hlen hM (show dU M w [v0,v1,v2,v3] [Uz 0 p0,Uz 1 p1,Uz 2 p2,Uz 3 p3]from⟨⟨rfl,_,rfl,h0⟩,⟨rfl,_,rfl,h1⟩,⟨rfl,_,rfl,h2⟩,⟨rfl,_,rfl,h3⟩,trivial⟩) h
end
abbrev K0 (P:Program) (f:FuncId) (p:Pred):Prop:=∀(M:Nat->Nat->Prop) (w:World),da M w->Calls P f #[] w (bK M p w)
abbrev K1 (P:Program) (f:FuncId) (p0 p:Pred):Prop:=∀(M:Nat->Nat->Prop) (w:World) (v0:Value),da M w->aP M (λw=>p0 w v0) w->Calls P f #[v0] w (bK M p w)
abbrev K2 (P:Program) (f:FuncId) (p0 p1 p:Pred):Prop:=∀(M:Nat->Nat->Prop) (w:World) (v0 v1:Value),da M w->aP M (λw=>p0 w v0) w->aP M (λw=>p1 w v1) w->Calls P f #[v0,v1] w (bK M p w)
abbrev K3 (P:Program) (f:FuncId) (p0 p1 p2 p:Pred):Prop:=∀(M:Nat->Nat->Prop) (w:World) (v0 v1 v2:Value),da M w->aP M (λw=>p0 w v0) w->aP M (λw=>p1 w v1) w->aP M (λw=>p2 w v2) w->Calls P f #[v0,v1,v2] w (bK M p w)
abbrev K4 (P:Program) (f:FuncId) (p0 p1 p2 p3 p:Pred):Prop:=∀(M:Nat->Nat->Prop) (w:World) (v0 v1 v2 v3:Value),da M w->aP M (λw=>p0 w v0) w->aP M (λw=>p1 w v1) w->aP M (λw=>p2 w v2) w->aP M (λw=>p3 w v3) w->Calls P f #[v0,v1,v2,v3] w (bK M p w)
end Wx

namespace Wx
open Go Go.RowKit Go.Proofs
instance Uk:vG Tryz.prog 3 false 1:=⟨cH (by kernel_rfl)⟩
instance Ul:vG Tryz.prog 4 false 1:=⟨cH (by kernel_rfl)⟩
instance Um:vG Tryz.prog 2 false 1:=⟨cH (by kernel_rfl)⟩
instance Un:vG Tryz.prog 29 false 1:=⟨cH (by kernel_rfl)⟩
instance Uo:vG Tryz.prog 54 true 3:=⟨cH (by kernel_rfl)⟩
instance Up:vG Tryz.prog 61 true 3:=⟨cH (by kernel_rfl)⟩
instance Uq:vG Tryz.prog 86 true 2:=⟨cH (by kernel_rfl)⟩
instance Ur:vG Tryz.prog 26 true 2:=⟨cH (by kernel_rfl)⟩
instance R6:vG Tryz.prog 24 true 2:=⟨cH (by kernel_rfl)⟩
instance R7:vG Tryz.prog 31 true 2:=⟨cH (by kernel_rfl)⟩
instance R8:vG Tryz.prog 56 true 9:=⟨cH (by kernel_rfl)⟩
instance R9:vG Tryz.prog 63 true 9:=⟨cH (by kernel_rfl)⟩
instance Sa:vG Tryz.prog 22 false 1:=⟨cH (by kernel_rfl)⟩
instance Sb:vG Tryz.prog 87 true 6:=⟨cH (by kernel_rfl)⟩
end Wx

namespace Wx
open Go Go.RowKit Go.Proofs
theorem vU {x y c:Operand} {ops:Array Oper} {Q:Exit->Act->World->Prop} {o:Oper} {rest:List Oper} {a:Act} {w:World} {X Y C:Int}
  (hx:a.eval x=.int .u64 X) (hy:a.eval y=.int .u64 Y) (hc:a.eval c=.int .u64 C) (x0:0<=X) (y0:0<=Y) (c0:0<=C) (c1:C<=1)
  (hK:wpList Tryz.prog ops Q rest (a.put o.dst (.tuple #[.int .u64 (vW X Y C),.int .u64 (vV X Y C)])) w):ye Tryz.prog 113 x y c ops Q o rest a w:=
 add64_ext Tryz.func113 (by kernel_rfl) (by kernel_rfl) (by kernel_rfl) (by kernel_rfl) hx hy hc x0 y0 c0 c1 hK
theorem sY (x y c:Nat):vW (x:Int) y c=(((x+y+c)%b64:Nat):Int):=by unfold vW b64; omega
theorem sX (x y c:Nat):vV (x:Int) y c=(((x+y+c)/b64:Nat):Int):=by unfold vV b64; omega
theorem ym (x c:Nat):vW (x:Int) 0 c=(((x+0+c)%b64:Nat):Int):=sY x 0 c
theorem yl (x c:Nat):vV (x:Int) 0 c=(((x+0+c)/b64:Nat):Int):=sX x 0 c
theorem CY {x y c:Nat} (hx:x<b64) (hy:y<b64) (hc:c<=1):(x+y+c)/b64<=1:=by unfold b64 at *; omega
variable {x y o:List Nat} {cr:Nat}
theorem rN {i vx vy g:Nat} {wr w0:World} (cS:o.length=i) (hlt:i<x.length) (wx:Wf b64 x) (wy:Wf b64 y) (wV:cr<=1) (dI:Wf b64 o)
  (hx:x[i]?=some vx) (hy:y.getD i 0=vy) (hr:Row wr .u64 108 g (o++List.replicate (x.length+1-i) 0)) (hbl:Below w0.heap.size w0 wr) (hg:w0.heap.size<=g)
  (hval:val b64 o+b64^i*cr=val b64 (x.take i)+val b64 (y.take i)):
  ∃(Ju:Nat) (o':List Nat),((vx+vy+cr)/b64=Ju)/\Ju<=1/\o'.length=i+1/\Wf b64 o' /\
   Row (wr.setCell ⟨g,i,none⟩ (.int .u64 (((vx+vy+cr)%b64:Nat):Int))) .u64 108 g (o'++List.replicate (x.length+1-(i+1)) 0) /\
   Below w0.heap.size w0 (wr.setCell ⟨g,i,none⟩ (.int .u64 (((vx+vy+cr)%b64:Nat):Int)))/\val b64 o'+b64^(i+1)*Ju=val b64 (x.take (i+1))+val b64 (y.take (i+1)):=by
 have nk:vx<b64:=wx _ (List.mem_of_getElem? hx)
 have wY:vy<b64:=by
  rw[<-hy,List.getD_eq_getElem?_getD]
  cases h:y[i]? with
  |none=>simp[b64]
  |some z=>exact wy _ (List.mem_of_getElem? h)
 refine⟨_,o++[(vx+vy+cr)%b64],rfl,CY nk wY wV,by simp[cS],dI.append (Wf.cons (Nat.mod_lt _ (by unfold b64; omega)) (Wf.nil _)),?_,hbl.setCell hg _,?_⟩
 ·have h:=hr.set i ((vx+vy+cr)%b64)
  rw[show x.length+1-i=(x.length+1-(i+1))+1 by omega,List.replicate_succ,iE cS]at h
  rw[List.append_assoc]
  exact h
 ·exact xV cS hval (bM hx) (by rw[dn,hy]) (by have:=Nat.mod_add_div (vx+vy+cr) b64; omega)
theorem Et (hx:mO x) (wx:Wf b64 x) (wo:Wf b64 o) (cS:o.length=x.length) (NM:2<=b64) (hval:val b64 o+b64^o.length*cr=val b64 x+val b64 y):cr=0->mO o:=by
 rintro rfl
 refine zF wo ?_
 by_cases h:o=[]
 ·exact .inl h
 ·refine .inr ?_
  have hd:=kI NM wx hx
  have hpos:0<val b64 x:=by
   rcases Nat.eq_zero_or_pos (val b64 x)with h0|h0
   ·rw[h0,aZ]at hd
    rw[<-hd]at cS
    exact absurd (List.eq_nil_of_length_eq_zero cS) h
   ·exact h0
  have:=lu NM hpos
  rw[hd]at this
  rw[cS]
  simp at hval
  omega
set_option maxHeartbeats 400000 in
theorem Es (w:World) (v1 v2:Value) (m n:Nat) (h1:aY .u64 b64 w v1 m) (h2:aY .u64 b64 w v2 n) {j k:Nat} (hj:Bd j m) (hk:Bd k n) (cQ:j<=1000000000) (kT:k<=1000000000):
  Calls Tryz.prog 86 #[v1,v2] w (dN .u64 b64 w (m+n)):=by
 obtain⟨A,c,rfl,ha⟩:=h1
 obtain⟨B,d,rfl,hb⟩:=h2
 have hla:=nA hj
 have hlb:=nA hk
 have hv:val b64 (ae b64 m)+val b64 (ae b64 n)=m+n:=by rw[aU ah,aU ah]
 have wa:=bq ah m
 have wb:=bq ah n
 have ta:=jb ah m
 have tb:=jb ah n
 clear hj hk
 generalize ae b64 m=a at *
 generalize ae b64 n=b at *
 generalize m+n=s at *
 go_enter Tryz.func86,Tryz.ntmps86
 go_upto_if 14 with fail
 go_cut [0,1] (λv0 v1 w'=>w'=w/\∃X cx x Y cy y,v0=.slice X x.length cx/\v1=.slice Y y.length cy/\Rd w .u64 X cx x/\Rd w .u64 Y cy y/\Wf b64 x/\Wf b64 y/\mO x/\y.length<=x.length/\x.length<=1000000000/\val b64 x+val b64 y=s)
 case first=>
  by_cases h:a.length<b.length
  ·go_wp2
   go_meet
   case rel=>exact⟨rfl,B,d,b,A,c,a,rfl,rfl,hb,ha,wb,wa,tb,by omega,by omega,by omega⟩
  ·go_wp2
   go_meet
   case rel=>exact⟨rfl,A,c,a,B,d,b,rfl,rfl,ha,hb,wa,wb,ta,by omega,by omega,hv⟩
 case rest=>
  obtain⟨rfl,X,cx,x,Y,cy,y,rfl,rfl,hx,hy,wx,wy,tx,sJ,hx1,hs⟩:=hcut
  clear ha hb wa wb ta tb hla hlb hv
  have HS:=Lib.hid hs
  clear hs
  have Il:=hx.len
  have Mq:=hy.len
  go_wp2_with (at_make; refine bW _ rfl _ _ _ rfl .u64 108 Tryz.underlying52 iO _ _ rfl rfl (by omega) (by omega) (by omega) ?_; intro w1 hrow bT hsz)
  go_loopw [6,25] (λs6 KG wr=>∃(i cr:Nat) (o:List Nat),i<=x.length/\KG=.int .i64 i/\s6=.int .u64 cr/\cr<=1/\o.length=i/\Wf b64 o/\Row wr .u64 108 wc.heap.size (o++List.replicate (x.length+1-i) 0)/\Below wc.heap.size wc wr/\val b64 o+b64^i*cr=val b64 (x.take i)+val b64 (y.take i))
   (λ_ KG _=>x.length-(intOf KG).toNat)
  case atStart=>exact⟨0,0,[],by omega,rfl,rfl,by omega,rfl,Wf.nil _,by simpa using hrow,bT,by simp[val]⟩
  case round=>
   obtain⟨i,cr,o,hi,rfl,rfl,wV,cS,dI,hr,hbl,hval⟩:=hrel
   have bY:=Lib.hid hval
   have cM:=Lib.hid cS
   clear hval cS hrow bT hsz
   by_cases hlt:i<x.length
   ·obtain⟨bx,ox,vx,rfl,tB,ig⟩:=(hx.below hbl).get hlt
    obtain⟨vo,Aj,CD⟩:=hr.get (i:=i) (by have:=cM.out; simp; omega)
    have su:=hr.frozen i
    by_cases sA:i<y.length
    ·obtain⟨Ji,oy,vy,rfl,Dm,po⟩:=(hy.below hbl).get sA
     go_wp2_with ((with_reducible refine fI 113 rfl rfl ?_); refine vU rfl rfl rfl (by omega) (by omega) (by omega) (by omega) ?_)
     go_roundw
     case rel=>
      rw[sY,sX]
      obtain⟨Ju,o',e,r⟩:=rN (vy:=vy) cM.out hlt wx wy wV dI ig.out (by rw[List.getD_eq_getElem?_getD,po.out]; rfl) hr hbl (Nat.le_refl _) bY.out
      exact⟨i+1,Ju,o',by omega,by go_num,by rw[e],r⟩
     case measure=>simp[intOf]; omega
    ·go_wp2_with ((with_reducible refine fI 113 rfl rfl ?_); refine vU rfl rfl rfl (by omega) (by omega) (by omega) (by omega) ?_)
     go_roundw
     case rel=>
      rw[ym,yl]
      obtain⟨Ju,o',e,r⟩:=rN (vy:=0) cM.out hlt wx wy wV dI ig.out (by rw[List.getD_eq_getElem?_getD,List.getElem?_eq_none (by omega)]; rfl) hr hbl (Nat.le_refl _) bY.out
      exact⟨i+1,Ju,o',by omega,by go_num,by rw[e],r⟩
     case measure=>simp[intOf]; omega
   ·obtain rfl:i=x.length:=by omega
    have dQ:val b64 o+b64^o.length*cr=s:=by
     have:=bY.out
     rw[cM.out,this,List.take_of_length_le (Nat.le_refl _),List.take_of_length_le (by omega)]; exact HS.out
    have HF:=Lib.hid dQ
    clear dQ
    rw[show x.length+1-x.length=1 by omega,show List.replicate 1 0=[0]from rfl]at hr
    rcases Nat.eq_zero_or_pos cr with rfl|hc0
    ·go_wp2
     go_ret
     refine⟨_,rfl,?_,hbl⟩
     have h:=hr.rd (n:=x.length) (c:=x.length+1) (by simp; have:=cM.out; omega) (by omega) (by unfold maxLen; omega)
     rw[<-cM.out,List.take_left]at h
     have hF:=HF.out
     rw[Nat.mul_zero,Nat.add_zero]at hF
     rw[<-hF,<-cM.out]
     exact aY.of ah h rfl dI (Et (y:=y) tx wx dI cM.out ah (by have h1:=HF.out; have h2:=HS.out; omega) rfl)
    ·have hA:=hr.keep ((Below.refl _ _).alloc (Nat.le_refl _) (.cells #[.int .u64 (cr:Int)] 108))
     obtain⟨vo,Aj,_⟩:=hA.get (i:=x.length) (by simp; have:=cM.out; omega)
     have su:=hA.frozen x.length
     go_wp2
     go_ret
     refine⟨_,rfl,?_,(hbl.alloc hbl.size _).setCell (Nat.le_refl _) _⟩
     have hR:=hA.set x.length cr
     rw[iE cM.out]at hR
     have hF:=HF.out
     rw[<-jt]at hF
     rw[<-hF]
     have hl:(o++[cr]).length=x.length+1:=by simp[cM.out]
     exact aY.of ah (hR.dO (by omega) (by unfold maxLen; omega)) hl (dI.append (Wf.cons (by unfold b64; omega) (Wf.nil _))) (by unfold mO; simp; omega)
end Wx

namespace Wx
open Go Go.RowKit Go.Proofs
theorem jq:Ty Tryz.prog 54 true 3:=⟨λ_=>by kernel_rfl,λ_=>by kernel_rfl,by decide⟩
theorem Fg:∀w,(zeroValue 54).run Tryz.prog w=.ok (.agg #[.bool false,.slice none 0 0,.slice none 0 0]) w:=λ_=>by kernel_rfl
theorem gN:∀b o w,(Instr.fieldAt 54 (.pointer (some ⟨b,o,none⟩)) 0).run Tryz.prog w=.ok (.pointer (some ⟨b,o+0,none⟩)) w:=λ_ _ _=>by kernel_rfl
theorem qL:∀b o w,(Instr.fieldAt 54 (.pointer (some ⟨b,o,none⟩)) 1).run Tryz.prog w=.ok (.pointer (some ⟨b,o+1,none⟩)) w:=λ_ _ _=>by kernel_rfl
theorem qM:∀b o w,(Instr.fieldAt 54 (.pointer (some ⟨b,o,none⟩)) 2).run Tryz.prog w=.ok (.pointer (some ⟨b,o+2,none⟩)) w:=λ_ _ _=>by kernel_rfl
theorem fM:Ty Tryz.prog 4 false 1:=⟨λ_=>by kernel_rfl,λ_=>by kernel_rfl,by decide⟩
theorem sP:Ty Tryz.prog 61 true 3:=⟨λ_=>by kernel_rfl,λ_=>by kernel_rfl,by decide⟩
theorem QV:∀w,(zeroValue 61).run Tryz.prog w=.ok (.agg #[.bool false,.slice none 0 0,.slice none 0 0]) w:=λ_=>by kernel_rfl
theorem qK:∀b o w,(Instr.fieldAt 61 (.pointer (some ⟨b,o,none⟩)) 0).run Tryz.prog w=.ok (.pointer (some ⟨b,o+0,none⟩)) w:=λ_ _ _=>by kernel_rfl
theorem Dc:∀b o w,(Instr.fieldAt 61 (.pointer (some ⟨b,o,none⟩)) 1).run Tryz.prog w=.ok (.pointer (some ⟨b,o+1,none⟩)) w:=λ_ _ _=>by kernel_rfl
theorem nW:Ty Tryz.prog 52 false 1:=⟨λ_=>by kernel_rfl,λ_=>by kernel_rfl,by decide⟩
end Wx

namespace Wx
open Go Go.RowKit Go.Proofs
def aS (n:Nat):Pred:=λw v=>aY .u64 b64 w v n
theorem dx (n:Nat):aA (aS n):=λ_ _ _ hM h=>lS hM (.inl rfl) h
theorem wO (n:Nat):Fits 1 false (aS n):=by
 rintro w v ⟨A,c,rfl,_⟩
 refine⟨[_],rfl,rfl,rfl,?_⟩
 intro u hu
 simp at hu
 subst hu
 exact⟨eI _ _ _,rfl⟩
def bu (q:Rat):List Fd:=[⟨false,1,pB (decide (q.num<0))⟩,⟨false,1,aS q.num.natAbs⟩,⟨false,1,aS (aq q.den)⟩]
theorem IU (q:Rat):∀w v,bA q w v->pS (bu q) w v:=by
 rintro w v ⟨vn,vd,rfl,h1,h2⟩
 exact Ep (cs:=[.bool (decide (q.num<0)),vn,vd]) ⟨by simp,rfl,by simp,h1,by simp,h2,rfl⟩
theorem tv (q:Rat):Fits 3 true (pS (bu q)):=oq (fs:=bu q) ⟨fits_bool _,wO _,wO _,trivial⟩ rfl
variable {n:Nat}
theorem AP {w:World} {e:Ending} {w':World} (h:dN .u64 b64 w n e w'):fk (aS n) w e w':=h
theorem Jl (m n:Nat):∀w v1 v2,aS m w v1->aS n w v2->Calls Tryz.prog 55 #[v1,v2] w (fk (pI (bf m n)) w):=λw v1 v2 h1 h2=>(lK w v1 v2 m n h1 h2).mono λ_ _ h=>⟨_,h.1,rfl,h.2⟩
theorem Jm {m j k:Nat} (hj:Bd j m) (hk:Bd k n) (cQ:j<=1000000000) (kT:k<=1000000000):∀w v1 v2,aS m w v1->aS n w v2->Calls Tryz.prog 86 #[v1,v2] w (fk (aS (m+n)) w):=λw v1 v2 h1 h2=>(Es w v1 v2 m n h1 h2 hj hk cQ kT).mono λ_ _=>AP
theorem zY {d:Nat} (hd:0<d):∀w v1,aS (aq d) w v1->Calls Tryz.prog 83 #[v1] w (fk (aS d) w):=λw v1 h1=>(fD w v1 d h1 hd).mono λ_ _=>AP
section
variable {P:Program} {ops:Array Oper} {ms:List Nat} {c:dg} {V:List Vr} {A:List Al} {G:List aV} {i:Nat} {L:Nat->Bool} {β:Nat->Nat->Prop} {a:Act} {w:World} {o:Oper}{d:Nat} {x y z:Operand} {ty:TypeId} {pos:String} {aO:Array Edge}
end
end Wx
