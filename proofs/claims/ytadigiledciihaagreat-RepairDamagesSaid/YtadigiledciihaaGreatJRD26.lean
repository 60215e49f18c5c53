import Derived.Test.YtadigiledciihaaGreatJRD25
namespace Wx
open Go Go.RowKit
section
variable {ro:Option Nat} {ds:List Deferred} {P:Program} {Q:Exit->Act->World->Prop} {c:cT} {V:List Vr} {G:List aS} {a:Act} {w:World} {fn:Func}{id:Nat} {l:List Oper} {V1 V2:List Vr} {G1 G2:List aS}
theorem Q4 (h:Inv c V [] G none_ a w) (ms:List Nat) (nv:List Vr) (A1:List Al) (ne:List aS) (hV:yD nv V V1) (hG:lZ ne G G1) (hs:oV P l.toArray ms c V1 A1 G1 0 l) (kV:fc V1 V2) (kG:az G1 G2) (hk:∀a w,Inv c V2 [] G2 none_ a w->Q .normal a w) (hn:mw nv A1 ne=true:=by kernel_rfl) (hb:xR P c.N l ms V1 A1 G1=true:=by kernel_rfl) (hd:l.all fe=true:=by kernel_rfl):(Code.region id l.toArray true).ww ro ds P Q a w:=by
 unfold xR at hb
 simp only[Bool.and_eq_true,beq_iff_eq]at hb
 obtain⟨hm,hok,wY,hwf⟩:=hb
 exact FP ms hm hok wY hwf hd (lq h hV hG hn) hs λa w hI=>hk a w (nk hwf kV kG hI)
variable {y:Code}
theorem F9 (h:Inv c V [] G none_ a w) (ms:List Nat) (nv:List Vr) (A1:List Al) (ne:List aS) (hV:yD nv V V1) (hG:lZ ne G G1) (hs:oV P l.toArray ms c V1 A1 G1 0 l) (kV:fc V1 V2) (kG:az G1 G2) (hk:∀a w,Inv c V2 [] G2 none_ a w->y.ww ro ds P Q a w) (hn:mw nv A1 ne=true:=by kernel_rfl) (hb:xR P c.N l ms V1 A1 G1=true:=by kernel_rfl) (hd:l.all fe=true:=by kernel_rfl):(Code.seq (Code.region id l.toArray true) y).ww ro ds P Q a w:=
 ay (Q4 h ms nv A1 ne hV hG hs kV kG hk hn hb hd)
theorem Q5 (h:Inv c [] [] G none_ a w) (ms:List Nat) (ne:List aS) (hG:lZ ne G G1) (hs:oV P l.toArray ms c [] [] G1 0 l) (kG:az G1 G2) (hk:∀a w,Inv c [] [] G2 none_ a w->Q .normal a w) (hn:mw [] [] ne=true:=by kernel_rfl) (hb:xR P c.N l ms [] [] G1=true:=by kernel_rfl) (hd:l.all fe=true:=by kernel_rfl):(Code.region id l.toArray true).ww ro ds P Q a w:=Q4 h ms [] [] ne .z hG hs .z kG hk hn hb hd
theorem NK (h:Inv c [] [] G none_ a w) (ms:List Nat) (ne:List aS) (hG:lZ ne G G1) (hs:oV P l.toArray ms c [] [] G1 0 l) (kG:az G1 G2) (hk:∀a w,Inv c [] [] G2 none_ a w->y.ww ro ds P Q a w) (hn:mw [] [] ne=true:=by kernel_rfl) (hb:xR P c.N l ms [] [] G1=true:=by kernel_rfl) (hd:l.all fe=true:=by kernel_rfl):(Code.seq (Code.region id l.toArray true) y).ww ro ds P Q a w:=ay (Q5 h ms ne hG hs kG hk hn hb hd)
theorem Dg (h:Inv c V [] G none_ a w) (n:Nat) (nv:List Vr) (A1:List Al) (ne:List aS) (hV:yD nv V V1) (hG:lZ ne G G1) (hs:oV P l.toArray (tm n 0) c V1 A1 G1 0 l) (kV:fc V1 V2) (kG:az G1 G2) (hk:∀a w,Inv c V2 [] G2 none_ a w->Q .normal a w) (hn:mw nv A1 ne=true:=by kernel_rfl) (hb:xS c.N l (tm n 0) V1 A1 G1=true:=by kernel_rfl) (hd:l.all fe=true:=by kernel_rfl):(Code.region id l.toArray false).ww ro ds P Q a w:=by
 unfold xS at hb
 simp only[Bool.and_eq_true,beq_iff_eq]at hb
 obtain⟨wY,hwf⟩:=hb
 exact Ia hwf hd (lq h hV hG hn) (by rw[wY]; exact hs) λa w hI=>hk a w (nk hwf kV kG hI)
theorem bZ (h:Inv c V [] G none_ a w) (n:Nat) (nv:List Vr) (A1:List Al) (ne:List aS) (hV:yD nv V V1) (hG:lZ ne G G1) (hs:oV P l.toArray (tm n 0) c V1 A1 G1 0 l) (kV:fc V1 V2) (kG:az G1 G2) (hk:∀a w,Inv c V2 [] G2 none_ a w->y.ww ro ds P Q a w) (hn:mw nv A1 ne=true:=by kernel_rfl) (hb:xS c.N l (tm n 0) V1 A1 G1=true:=by kernel_rfl) (hd:l.all fe=true:=by kernel_rfl):(Code.seq (Code.region id l.toArray false) y).ww ro ds P Q a w:=
 ay (Dg h n nv A1 ne hV hG hs kV kG hk hn hb hd)
theorem ym (h:Inv c [] [] G none_ a w) (n:Nat) (ne:List aS) (hG:lZ ne G G1) (hs:oV P l.toArray (tm n 0) c [] [] G1 0 l) (kG:az G1 G2) (hk:∀a w,Inv c [] [] G2 none_ a w->Q .normal a w) (hn:mw [] [] ne=true:=by kernel_rfl) (hb:xS c.N l (tm n 0) [] [] G1=true:=by kernel_rfl) (hd:l.all fe=true:=by kernel_rfl):(Code.region id l.toArray false).ww ro ds P Q a w:=Dg h n [] [] ne .z hG hs .z kG hk hn hb hd
theorem bu (h:Inv c [] [] G none_ a w) (n:Nat) (ne:List aS) (hG:lZ ne G G1) (hs:oV P l.toArray (tm n 0) c [] [] G1 0 l) (kG:az G1 G2) (hk:∀a w,Inv c [] [] G2 none_ a w->y.ww ro ds P Q a w) (hn:mw [] [] ne=true:=by kernel_rfl) (hb:xS c.N l (tm n 0) [] [] G1=true:=by kernel_rfl) (hd:l.all fe=true:=by kernel_rfl):(Code.seq (Code.region id l.toArray false) y).ww ro ds P Q a w:=ay (ym h n ne hG hs kG hk hn hb hd)
variable {s:Nat}
theorem mO {v:Value} (hI:Inv c V [] G none_ a w) (hk:fL s G=some (bK v)):a.eval (.tmp s)=v:=by
 obtain⟨k,h⟩:=dW hk
 exact hI.get k h
variable {b:Bool} {x:Code}
theorem Ab (hI:Inv c V [] G none_ a w) (ht:b=true->x.ww ro ds P Q a w) (hf:b=false->y.ww ro ds P Q a w) (hk:fL s G=some (pB b):=by exact rfl):(Code.cond (.tmp s) x y).ww ro ds P Q a w:=qb (mO hI hk) ht hf
theorem lN {φ:Prop} [Decidable φ] {x y:Code} (hI:Inv c V [] G none_ a w) (ht:φ->x.ww ro ds P Q a w) (hf:¬φ->y.ww ro ds P Q a w) (hk:fL s G=some (pB (decide φ)):=by exact rfl):(Code.cond (.tmp s) x y).ww ro ds P Q a w:=qb (mO hI hk) (λh=>ht (of_decide_eq_true h)) λh=>hf (of_decide_eq_false h)
theorem UM (hI:Inv c V [] G none_ a w) (hb:b=true) (ht:x.ww ro ds P Q a w) (hk:fL s G=some (pB b):=by exact rfl):(Code.cond (.tmp s) x y).ww ro ds P Q a w:=qb (mO hI hk) (λ_=>ht) λh=>by rw[hb]at h; cases h
theorem UL (hI:Inv c V [] G none_ a w) (hb:b=false) (hf:y.ww ro ds P Q a w) (hk:fL s G=some (pB b):=by exact rfl):(Code.cond (.tmp s) x y).ww ro ds P Q a w:=qb (mO hI hk) (λh=>by rw[hb]at h; cases h) λ_=>hf
theorem yz {ι:Type} {C:Code} (VF:List Vr) (GF:List aS) (V1:ι->List Vr) (G1:ι->List aS) (φ:ι->Prop) (μ:ι->Nat) (k0:ι) (h0:φ k0) (hI:Inv c V [] G none_ a w) (hV:Jp V (VF++V1 k0)) (hG:Jo G (GF++G1 k0))
  (round:∀k a w,φ k->Inv c (VF++V1 k) [] (GF++G1 k) none_ a w->C.ww ro ds P (Exit.then (λa w=>∃k',(φ k'/\Inv c (VF++V1 k') [] (GF++G1 k') none_ a w)/\μ k'<μ k) Q) a w):(Code.loop C).ww ro ds P Q a w:=
 H9 (λk a w=>φ k/\Inv c (VF++V1 k) [] (GF++G1 k) none_ a w) μ k0 ⟨h0,hI.cv hV hG⟩ λk a w h=>round k a w h.1 h.2
variable {p q:Pred}
theorem iE (h:fL s G=some q:=by exact rfl) (hq:∀w v,q w v->p w v:=by exact FW):cW P V G (.tmp s) p:=rt hq h
theorem F8 {x:Vr} {T:Nat} (h:lW s V=some x:=by exact rfl) (hs:x.slot=s:=by exact rfl) (hb:live none_ x=true:=by exact rfl) (cq:x.kd=.ptr:=by exact rfl) (hc:cont none_ x.c0 x.st=pv q:=by exact rfl) (hq:∀w v,q w v->p w v:=by exact FW) (ht:F7 P T x.agg x.n=true:=by kernel_rfl):cW P V G (.cell s T) p:=(ee h).1.elim λk hk=>.imp (.cell k hk hb cq hs (cA ht) hc) hq
end
section
variable {P:Program} {w:World} {fn:Func}{f:FuncId} {C:Code} {M:Nat->Nat->Prop} {p:Pred} {N:Nat}
theorem mJ {vs:List Value} {G:List aS} (hf:P.funcs[f]?=some fn) (hb:fn.body=some C) (hN:fn.ntmps=N) (hlen:decide (vs.length<=N)=true) (hM:dD M w) (hG:dU M w vs G)
  (h:∀a,Inv ⟨N,w,M,λ_=>False⟩ [] [] G none_ a w->C.ww none [] P (bodyPost P fn (bX M p w)) a w):Calls P f vs.toArray w (bX M p w):=
 jW hf hb hN hlen hM hG λa hI=>(wpIn_wide (n:=0)).1 (wpIn_mono (h a hI 0) λe a' w' ⟨a0,e0,h0⟩=>by subst e0; exact h0)
theorem Q8 (hf:P.funcs[f]?=some fn) (hb:fn.body=some C) (hN:fn.ntmps=N) (hlen:decide (([]:List Value).length<=N)=true) (hM:dD M w) (h:∀a,Inv ⟨N,w,M,λ_=>False⟩ [] [] [] none_ a w->C.ww none [] P (bodyPost P fn (bX M p w)) a w):Calls P f #[] w (bX M p w):=
 mJ (vs:=([]:List Value)) hf hb hN hlen hM (show dU M w ([]:List Value) []from trivial) h
variable {v0:Value} {p0:Pred}
theorem vK (hf:P.funcs[f]?=some fn) (hb:fn.body=some C) (hN:fn.ntmps=N) (hlen:decide ([v0].length<=N)=true) (hM:dD M w) (h0:aN M (λw=>p0 w v0) w) (h:∀a,Inv ⟨N,w,M,λ_=>False⟩ [] [] [Uz 0 p0] none_ a w->C.ww none [] P (bodyPost P fn (bX M p w)) a w):Calls P f #[v0] w (bX M p w):=
 mJ (vs:=[v0]) hf hb hN hlen hM (show dU M w [v0] [Uz 0 p0]from⟨⟨rfl,_,rfl,h0⟩,trivial⟩) h
variable {v1:Value} {p1:Pred}
theorem vL (hf:P.funcs[f]?=some fn) (hb:fn.body=some C) (hN:fn.ntmps=N) (hlen:decide ([v0,v1].length<=N)=true) (hM:dD M w) (h0:aN M (λw=>p0 w v0) w) (h1:aN M (λw=>p1 w v1) w) (h:∀a,Inv ⟨N,w,M,λ_=>False⟩ [] [] [Uz 0 p0,Uz 1 p1] none_ a w->C.ww none [] P (bodyPost P fn (bX M p w)) a w):Calls P f #[v0,v1] w (bX M p w):=
 mJ (vs:=[v0,v1]) hf hb hN hlen hM (show dU M w [v0,v1] [Uz 0 p0,Uz 1 p1]from⟨⟨rfl,_,rfl,h0⟩,⟨rfl,_,rfl,h1⟩,trivial⟩) h
theorem FO {v2:Value} {p2:Pred} (hf:P.funcs[f]?=some fn) (hb:fn.body=some C) (hN:fn.ntmps=N) (hlen:decide ([v0,v1,v2].length<=N)=true) (hM:dD M w) (h0:aN M (λw=>p0 w v0) w) (h1:aN M (λw=>p1 w v1) w) (h2:aN M (λw=>p2 w v2) w) (h:∀a,Inv ⟨N,w,M,λ_=>False⟩ [] [] [Uz 0 p0,Uz 1 p1,Uz 2 p2] none_ a w->C.ww none [] P (bodyPost P fn (bX M p w)) a w):Calls P f #[v0,v1,v2] w (bX M p w):=
 mJ (vs:=[v0,v1,v2]) hf hb hN hlen hM (show dU M w [v0,v1,v2] [Uz 0 p0,Uz 1 p1,Uz 2 p2]from⟨⟨rfl,_,rfl,h0⟩,⟨rfl,_,rfl,h1⟩,⟨rfl,_,rfl,h2⟩,trivial⟩) h
end
abbrev K0 (P:Program) (f:FuncId) (p:Pred):Prop:=∀(M:Nat->Nat->Prop) (w:World),dD M w->Calls P f #[] w (bX M p w)
abbrev K1 (P:Program) (f:FuncId) (p0 p:Pred):Prop:=∀(M:Nat->Nat->Prop) (w:World) (v0:Value),dD M w->aN M (λw=>p0 w v0) w->Calls P f #[v0] w (bX M p w)
abbrev K2 (P:Program) (f:FuncId) (p0 p1 p:Pred):Prop:=∀(M:Nat->Nat->Prop) (w:World) (v0 v1:Value),dD M w->aN M (λw=>p0 w v0) w->aN M (λw=>p1 w v1) w->Calls P f #[v0,v1] w (bX M p w)
abbrev K3 (P:Program) (f:FuncId) (p0 p1 p2 p:Pred):Prop:=∀(M:Nat->Nat->Prop) (w:World) (v0 v1 v2:Value),dD M w->aN M (λw=>p0 w v0) w->aN M (λw=>p1 w v1) w->aN M (λw=>p2 w v2) w->Calls P f #[v0,v1,v2] w (bX M p w)
end Wx

namespace Wx
open Go Go.RowKit Go.Proofs
instance UC:vN Tryz.prog 3 false 1:=⟨cA (by kernel_rfl)⟩
instance UD:vN Tryz.prog 4 false 1:=⟨cA (by kernel_rfl)⟩
instance UE:vN Tryz.prog 2 false 1:=⟨cA (by kernel_rfl)⟩
instance UF:vN Tryz.prog 29 false 1:=⟨cA (by kernel_rfl)⟩
instance UG:vN Tryz.prog 54 true 3:=⟨cA (by kernel_rfl)⟩
instance UH:vN Tryz.prog 61 true 3:=⟨cA (by kernel_rfl)⟩
instance UI:vN Tryz.prog 86 true 2:=⟨cA (by kernel_rfl)⟩
instance UJ:vN Tryz.prog 26 true 2:=⟨cA (by kernel_rfl)⟩
instance Sf:vN Tryz.prog 24 true 2:=⟨cA (by kernel_rfl)⟩
instance Sg:vN Tryz.prog 31 true 2:=⟨cA (by kernel_rfl)⟩
instance Sh:vN Tryz.prog 56 true 9:=⟨cA (by kernel_rfl)⟩
instance Si:vN Tryz.prog 63 true 9:=⟨cA (by kernel_rfl)⟩
instance Sj:vN Tryz.prog 22 false 1:=⟨cA (by kernel_rfl)⟩
instance Sk:vN Tryz.prog 87 true 6:=⟨cA (by kernel_rfl)⟩
end Wx

namespace Wx
open Go Go.RowKit Go.Proofs
theorem vX {x y c:Operand} {ops:Array Oper} {Q:Exit->Act->World->Prop} {o:Oper} {rest:List Oper} {a:Act} {w:World} {X Y C:Int}
  (hx:a.eval x=.int .u64 X) (hy:a.eval y=.int .u64 Y) (hc:a.eval c=.int .u64 C) (x0:0<=X) (y0:0<=Y) (c0:0<=C) (c1:C<=1)
  (hK:wpList Tryz.prog ops Q rest (a.put o.dst (.tuple #[.int .u64 (vZ X Y C),.int .u64 (vY X Y C)])) w):yB Tryz.prog 113 x y c ops Q o rest a w:=
 add64_ext Tryz.func113 (by kernel_rfl) (by kernel_rfl) (by kernel_rfl) (by kernel_rfl) hx hy hc x0 y0 c0 c1 hK
theorem sX (x y c:Nat):vZ (x:Int) y c=(((x+y+c)%b64:Nat):Int):=by unfold vZ b64; omega
theorem sW (x y c:Nat):vY (x:Int) y c=(((x+y+c)/b64:Nat):Int):=by unfold vY b64; omega
theorem yH (x c:Nat):vZ (x:Int) 0 c=(((x+0+c)%b64:Nat):Int):=sX x 0 c
theorem yG (x c:Nat):vY (x:Int) 0 c=(((x+0+c)/b64:Nat):Int):=sW x 0 c
theorem DJ {x y c:Nat} (hx:x<b64) (hy:y<b64) (hc:c<=1):(x+y+c)/b64<=1:=by unfold b64 at *; omega
variable {x y o:List Nat} {cr:Nat}
theorem rJ {i vx vy g:Nat} {wr w0:World} (cG:o.length=i) (hlt:i<x.length) (wx:Wf b64 x) (wy:Wf b64 y) (wW:cr<=1) (dw:Wf b64 o)
  (hx:x[i]?=some vx) (hy:y.getD i 0=vy) (hr:Row wr .u64 108 g (o++List.replicate (x.length+1-i) 0)) (hbl:Below w0.heap.size w0 wr) (hg:w0.heap.size<=g)
  (hval:val b64 o+b64^i*cr=val b64 (x.take i)+val b64 (y.take i)):
  ∃(JR:Nat) (o':List Nat),((vx+vy+cr)/b64=JR)/\JR<=1/\o'.length=i+1/\Wf b64 o' /\
   Row (wr.setCell ⟨g,i,none⟩ (.int .u64 (((vx+vy+cr)%b64:Nat):Int))) .u64 108 g (o'++List.replicate (x.length+1-(i+1)) 0) /\
   Below w0.heap.size w0 (wr.setCell ⟨g,i,none⟩ (.int .u64 (((vx+vy+cr)%b64:Nat):Int)))/\val b64 o'+b64^(i+1)*JR=val b64 (x.take (i+1))+val b64 (y.take (i+1)):=by
 have mV:vx<b64:=wx _ (List.mem_of_getElem? hx)
 have wZ:vy<b64:=by
  rw[<-hy,List.getD_eq_getElem?_getD]
  cases h:y[i]? with
  |none=>simp[b64]
  |some z=>exact wy _ (List.mem_of_getElem? h)
 refine⟨_,o++[(vx+vy+cr)%b64],rfl,DJ mV wZ wW,by simp[cG],dw.append (Wf.cons (Nat.mod_lt _ (by unfold b64; omega)) (Wf.nil _)),?_,hbl.setCell hg _,?_⟩
 ·have h:=hr.set i ((vx+vy+cr)%b64)
  rw[show x.length+1-i=(x.length+1-(i+1))+1 by omega,List.replicate_succ,gU cG]at h
  rw[List.append_assoc]
  exact h
 ·exact yg cG hval (bI hx) (by rw[cZ,hy]) (by have:=Nat.mod_add_div (vx+vy+cr) b64; omega)
theorem E9 (hx:mF x) (wx:Wf b64 x) (wo:Wf b64 o) (cG:o.length=x.length) (Oc:2<=b64) (hval:val b64 o+b64^o.length*cr=val b64 x+val b64 y):cr=0->mF o:=by
 rintro rfl
 refine zY wo ?_
 by_cases h:o=[]
 ·exact .inl h
 ·refine .inr ?_
  have hd:=ki Oc wx hx
  have hpos:0<val b64 x:=by
   rcases Nat.eq_zero_or_pos (val b64 x)with h0|h0
   ·rw[h0,aX]at hd
    rw[<-hd]at cG
    exact absurd (List.eq_nil_of_length_eq_zero cG) h
   ·exact h0
  have:=kO Oc hpos
  rw[hd]at this
  rw[cG]
  simp at hval
  omega
set_option maxHeartbeats 400000 in
theorem E8 (w:World) (v1 v2:Value) (m n:Nat) (h1:aV .u64 b64 w v1 m) (h2:aV .u64 b64 w v2 n) {j k:Nat} (hj:Bd j m) (hk:Bd k n) (cQ:j<=1000000000) (lQ:k<=1000000000):
  Calls Tryz.prog 86 #[v1,v2] w (dG .u64 b64 w (m+n)):=by
 obtain⟨A,c,rfl,ha⟩:=h1
 obtain⟨B,d,rfl,hb⟩:=h2
 have hla:=nc hj
 have hlb:=nc hk
 have hv:val b64 (ae b64 m)+val b64 (ae b64 n)=m+n:=by rw[aR af,aR af]
 have wa:=bf af m
 have wb:=bf af n
 have ta:=iK af m
 have tb:=iK af n
 clear hj hk
 generalize ae b64 m=a at *
 generalize ae b64 n=b at *
 generalize m+n=s at *
 go_enter Tryz.func86,Tryz.ntmps86
 go_upto_if 14 with fail
 go_cut [0,1] (λv0 v1 w'=>w'=w/\∃X cx x Y cy y,v0=.slice X x.length cx/\v1=.slice Y y.length cy/\Rd w .u64 X cx x/\Rd w .u64 Y cy y/\Wf b64 x/\Wf b64 y/\mF x/\y.length<=x.length/\x.length<=1000000000/\val b64 x+val b64 y=s)
 case first=>
  by_cases h:a.length<b.length
  ·go_wp2
   go_meet
   case rel=>exact⟨rfl,B,d,b,A,c,a,rfl,rfl,hb,ha,wb,wa,tb,by omega,by omega,by omega⟩
  ·go_wp2
   go_meet
   case rel=>exact⟨rfl,A,c,a,B,d,b,rfl,rfl,ha,hb,wa,wb,ta,by omega,by omega,hv⟩
 case rest=>
  obtain⟨rfl,X,cx,x,Y,cy,y,rfl,rfl,hx,hy,wx,wy,tx,sG,hx1,hs⟩:=hcut
  clear ha hb wa wb ta tb hla hlb hv
  have HS:=Lib.hid hs
  clear hs
  have IP:=hx.len
  have MN:=hy.len
  go_wp2_with (at_make; refine bO _ rfl _ _ _ rfl .u64 108 Tryz.underlying52 ir _ _ rfl rfl (by omega) (by omega) (by omega) ?_; intro w1 hrow bL hsz)
  go_loopw [6,25] (λs6 K7 wr=>∃(i cr:Nat) (o:List Nat),i<=x.length/\K7=.int .i64 i/\s6=.int .u64 cr/\cr<=1/\o.length=i/\Wf b64 o/\Row wr .u64 108 wc.heap.size (o++List.replicate (x.length+1-i) 0)/\Below wc.heap.size wc wr/\val b64 o+b64^i*cr=val b64 (x.take i)+val b64 (y.take i))
   (λ_ K7 _=>x.length-(intOf K7).toNat)
  case atStart=>exact⟨0,0,[],by omega,rfl,rfl,by omega,rfl,Wf.nil _,by simpa using hrow,bL,by simp[val]⟩
  case round=>
   obtain⟨i,cr,o,hi,rfl,rfl,wW,cG,dw,hr,hbl,hval⟩:=hrel
   have bR:=Lib.hid hval
   have cD:=Lib.hid cG
   clear hval cG hrow bL hsz
   by_cases hlt:i<x.length
   ·obtain⟨bx,ox,vx,rfl,tB,gI⟩:=(hx.below hbl).get hlt
    obtain⟨vo,AW,Dh⟩:=hr.get (i:=i) (by have:=cD.out; simp; omega)
    have sw:=hr.frozen i
    by_cases sy:i<y.length
    ·obtain⟨JE,oy,vy,rfl,D7,oU⟩:=(hy.below hbl).get sy
     go_wp2_with ((with_reducible refine eU 113 rfl rfl ?_); refine vX rfl rfl rfl (by omega) (by omega) (by omega) (by omega) ?_)
     go_roundw
     case rel=>
      rw[sX,sW]
      obtain⟨JR,o',e,r⟩:=rJ (vy:=vy) cD.out hlt wx wy wW dw gI.out (by rw[List.getD_eq_getElem?_getD,oU.out]; rfl) hr hbl (Nat.le_refl _) bR.out
      exact⟨i+1,JR,o',by omega,by go_num,by rw[e],r⟩
     case measure=>simp[intOf]; omega
    ·go_wp2_with ((with_reducible refine eU 113 rfl rfl ?_); refine vX rfl rfl rfl (by omega) (by omega) (by omega) (by omega) ?_)
     go_roundw
     case rel=>
      rw[yH,yG]
      obtain⟨JR,o',e,r⟩:=rJ (vy:=0) cD.out hlt wx wy wW dw gI.out (by rw[List.getD_eq_getElem?_getD,List.getElem?_eq_none (by omega)]; rfl) hr hbl (Nat.le_refl _) bR.out
      exact⟨i+1,JR,o',by omega,by go_num,by rw[e],r⟩
     case measure=>simp[intOf]; omega
   ·obtain rfl:i=x.length:=by omega
    have dJ:val b64 o+b64^o.length*cr=s:=by
     have:=bR.out
     rw[cD.out,this,List.take_of_length_le (Nat.le_refl _),List.take_of_length_le (by omega)]; exact HS.out
    have HF:=Lib.hid dJ
    clear dJ
    rw[show x.length+1-x.length=1 by omega,show List.replicate 1 0=[0]from rfl]at hr
    rcases Nat.eq_zero_or_pos cr with rfl|hc0
    ·go_wp2
     go_ret
     refine⟨_,rfl,?_,hbl⟩
     have h:=hr.rd (n:=x.length) (c:=x.length+1) (by simp; have:=cD.out; omega) (by omega) (by unfold maxLen; omega)
     rw[<-cD.out,List.take_left]at h
     have hF:=HF.out
     rw[Nat.mul_zero,Nat.add_zero]at hF
     rw[<-hF,<-cD.out]
     exact aV.of af h rfl dw (E9 (y:=y) tx wx dw cD.out af (by have h1:=HF.out; have h2:=HS.out; omega) rfl)
    ·have hA:=hr.keep ((Below.refl _ _).alloc (Nat.le_refl _) (.cells #[.int .u64 (cr:Int)] 108))
     obtain⟨vo,AW,_⟩:=hA.get (i:=x.length) (by simp; have:=cD.out; omega)
     have sw:=hA.frozen x.length
     go_wp2
     go_ret
     refine⟨_,rfl,?_,(hbl.alloc hbl.size _).setCell (Nat.le_refl _) _⟩
     have hR:=hA.set x.length cr
     rw[gU cD.out]at hR
     have hF:=HF.out
     rw[<-jd]at hF
     rw[<-hF]
     have hl:(o++[cr]).length=x.length+1:=by simp[cD.out]
     exact aV.of af (hR.dI (by omega) (by unfold maxLen; omega)) hl (dw.append (Wf.cons (by unfold b64; omega) (Wf.nil _))) (by unfold mF; simp; omega)
end Wx

namespace Wx
open Go Go.RowKit Go.Proofs
theorem iZ:Ty Tryz.prog 54 true 3:=⟨λ_=>by kernel_rfl,λ_=>by kernel_rfl,by decide⟩
theorem FR:∀w,(zeroValue 54).run Tryz.prog w=.ok (.agg #[.bool false,.slice none 0 0,.slice none 0 0]) w:=λ_=>by kernel_rfl
theorem gh:∀b o w,(Instr.fieldAt 54 (.pointer (some ⟨b,o,none⟩)) 0).run Tryz.prog w=.ok (.pointer (some ⟨b,o+0,none⟩)) w:=λ_ _ _=>by kernel_rfl
theorem qE:∀b o w,(Instr.fieldAt 54 (.pointer (some ⟨b,o,none⟩)) 1).run Tryz.prog w=.ok (.pointer (some ⟨b,o+1,none⟩)) w:=λ_ _ _=>by kernel_rfl
theorem qF:∀b o w,(Instr.fieldAt 54 (.pointer (some ⟨b,o,none⟩)) 2).run Tryz.prog w=.ok (.pointer (some ⟨b,o+2,none⟩)) w:=λ_ _ _=>by kernel_rfl
theorem eZ:Ty Tryz.prog 4 false 1:=⟨λ_=>by kernel_rfl,λ_=>by kernel_rfl,by decide⟩
theorem sP:Ty Tryz.prog 61 true 3:=⟨λ_=>by kernel_rfl,λ_=>by kernel_rfl,by decide⟩
theorem Q9:∀w,(zeroValue 61).run Tryz.prog w=.ok (.agg #[.bool false,.slice none 0 0,.slice none 0 0]) w:=λ_=>by kernel_rfl
theorem qD:∀b o w,(Instr.fieldAt 61 (.pointer (some ⟨b,o,none⟩)) 0).run Tryz.prog w=.ok (.pointer (some ⟨b,o+0,none⟩)) w:=λ_ _ _=>by kernel_rfl
theorem DX:∀b o w,(Instr.fieldAt 61 (.pointer (some ⟨b,o,none⟩)) 1).run Tryz.prog w=.ok (.pointer (some ⟨b,o+1,none⟩)) w:=λ_ _ _=>by kernel_rfl
theorem nJ:Ty Tryz.prog 52 false 1:=⟨λ_=>by kernel_rfl,λ_=>by kernel_rfl,by decide⟩
end Wx

namespace Wx
open Go Go.RowKit Go.Proofs
def aP (n:Nat):Pred:=λw v=>aV .u64 b64 w v n
theorem dc (n:Nat):au (aP n):=λ_ _ _ hM h=>lB hM (.inl rfl) h
theorem wO (n:Nat):Fits 1 false (aP n):=by
 rintro w v ⟨A,c,rfl,_⟩
 refine⟨[_],rfl,rfl,rfl,?_⟩
 intro u hu
 simp at hu
 subst hu
 exact⟨eu _ _ _,rfl⟩
def bh (q:Rat):List Fd:=[⟨false,1,pB (decide (q.num<0))⟩,⟨false,1,aP q.num.natAbs⟩,⟨false,1,aP (aL q.den)⟩]
theorem Ji (q:Rat):∀w v,bz q w v->pS (bh q) w v:=by
 rintro w v ⟨vn,vd,rfl,h1,h2⟩
 exact E6 (cs:=[.bool (decide (q.num<0)),vn,vd]) ⟨by simp,rfl,by simp,h1,by simp,h2,rfl⟩
theorem tv (q:Rat):Fits 3 true (pS (bh q)):=nU (fs:=bh q) ⟨fits_bool _,wO _,wO _,trivial⟩ rfl
variable {n:Nat}
theorem Bw {w:World} {e:Ending} {w':World} (h:dG .u64 b64 w n e w'):eJ (aP n) w e w':=h
theorem JH (m n:Nat):∀w v1 v2,aP m w v1->aP n w v2->Calls Tryz.prog 55 #[v1,v2] w (eJ (pI (bp m n)) w):=λw v1 v2 h1 h2=>(mL w v1 v2 m n h1 h2).mono λ_ _ h=>⟨_,h.1,rfl,h.2⟩
theorem JI {m j k:Nat} (hj:Bd j m) (hk:Bd k n) (cQ:j<=1000000000) (lQ:k<=1000000000):∀w v1 v2,aP m w v1->aP n w v2->Calls Tryz.prog 86 #[v1,v2] w (eJ (aP (m+n)) w):=λw v1 v2 h1 h2=>(E8 w v1 v2 m n h1 h2 hj hk cQ lQ).mono λ_ _=>Bw
theorem Az {d:Nat} (hd:0<d):∀w v1,aP (aL d) w v1->Calls Tryz.prog 83 #[v1] w (eJ (aP d) w):=λw v1 h1=>(ja w v1 d h1 hd).mono λ_ _=>Bw
section
variable {P:Program} {ops:Array Oper} {ms:List Nat} {c:cT} {V:List Vr} {A:List Al} {G:List aS} {i:Nat} {L:Nat->Bool} {β:Nat->Nat->Prop} {a:Act} {w:World} {o:Oper}{d:Nat} {x y z:Operand} {ty:TypeId} {pos:String} {aJ:Array Edge}
end
end Wx
