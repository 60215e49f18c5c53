import Derived.Test.YtadigiledciihaaGreatJRB23
namespace Wx
open Go Go.RowKit
section
variable {ro:Option Nat} {ds:List Deferred} {P:Program} {Q:Exit->Act->World->Prop} {c:dg} {V:List Vr} {G:List aX} {a:Act} {w:World} {fn:Func}{id:Nat} {l:List Oper} {V1 V2:List Vr} {G1 G2:List aX}
theorem PK (h:Inv c V [] G none_ a w) (ms:List Nat) (nv:List Vr) (A1:List Al) (ne:List aX) (hV:xD nv V V1) (hG:mb ne G G1) (hs:oN P l.toArray ms c V1 A1 G1 0 l) (kV:eY V1 V2) (kG:aC G1 G2) (hk:∀a w,Inv c V2 [] G2 none_ a w->Q .normal a w) (hn:kO nv A1 ne=true:=by kernel_rfl) (hb:zx P c.N l ms V1 A1 G1=true:=by kernel_rfl) (hd:l.all eJ=true:=by kernel_rfl):(Code.region id l.toArray true).ww ro ds P Q a w:=by
 unfold zx at hb
 simp only[Bool.and_eq_true,beq_iff_eq]at hb
 obtain⟨hm,hok,uf,hwf⟩:=hb
 exact Hs ms hm hok uf hwf hd (gV h hV hG hn) hs λa w hI=>hk a w (jy hwf kV kG hI)
variable {y:Code}
theorem Ib (h:Inv c V [] G none_ a w) (ms:List Nat) (nv:List Vr) (A1:List Al) (ne:List aX) (hV:xD nv V V1) (hG:mb ne G G1) (hs:oN P l.toArray ms c V1 A1 G1 0 l) (kV:eY V1 V2) (kG:aC G1 G2) (hk:∀a w,Inv c V2 [] G2 none_ a w->y.ww ro ds P Q a w) (hn:kO nv A1 ne=true:=by kernel_rfl) (hb:zx P c.N l ms V1 A1 G1=true:=by kernel_rfl) (hd:l.all eJ=true:=by kernel_rfl):(Code.seq (Code.region id l.toArray true) y).ww ro ds P Q a w:=
 ax (PK h ms nv A1 ne hV hG hs kV kG hk hn hb hd)
theorem Tc (h:Inv c [] [] G none_ a w) (ms:List Nat) (ne:List aX) (hG:mb ne G G1) (hs:oN P l.toArray ms c [] [] G1 0 l) (kG:aC G1 G2) (hk:∀a w,Inv c [] [] G2 none_ a w->Q .normal a w) (hn:kO [] [] ne=true:=by kernel_rfl) (hb:zx P c.N l ms [] [] G1=true:=by kernel_rfl) (hd:l.all eJ=true:=by kernel_rfl):(Code.region id l.toArray true).ww ro ds P Q a w:=PK h ms [] [] ne .z hG hs .z kG hk hn hb hd
theorem Tb (h:Inv c [] [] G none_ a w) (ms:List Nat) (ne:List aX) (hG:mb ne G G1) (hs:oN P l.toArray ms c [] [] G1 0 l) (kG:aC G1 G2) (hk:∀a w,Inv c [] [] G2 none_ a w->y.ww ro ds P Q a w) (hn:kO [] [] ne=true:=by kernel_rfl) (hb:zx P c.N l ms [] [] G1=true:=by kernel_rfl) (hd:l.all eJ=true:=by kernel_rfl):(Code.seq (Code.region id l.toArray true) y).ww ro ds P Q a w:=ax (Tc h ms ne hG hs kG hk hn hb hd)
theorem BH (h:Inv c V [] G none_ a w) (n:Nat) (nv:List Vr) (A1:List Al) (ne:List aX) (hV:xD nv V V1) (hG:mb ne G G1) (hs:oN P l.toArray (tm n 0) c V1 A1 G1 0 l) (kV:eY V1 V2) (kG:aC G1 G2) (hk:∀a w,Inv c V2 [] G2 none_ a w->Q .normal a w) (hn:kO nv A1 ne=true:=by kernel_rfl) (hb:zy c.N l (tm n 0) V1 A1 G1=true:=by kernel_rfl) (hd:l.all eJ=true:=by kernel_rfl):(Code.region id l.toArray false).ww ro ds P Q a w:=by
 unfold zy at hb
 simp only[Bool.and_eq_true,beq_iff_eq]at hb
 obtain⟨uf,hwf⟩:=hb
 exact JQ hwf hd (gV h hV hG hn) (by rw[uf]; exact hs) λa w hI=>hk a w (jy hwf kV kG hI)
theorem bN (h:Inv c V [] G none_ a w) (n:Nat) (nv:List Vr) (A1:List Al) (ne:List aX) (hV:xD nv V V1) (hG:mb ne G G1) (hs:oN P l.toArray (tm n 0) c V1 A1 G1 0 l) (kV:eY V1 V2) (kG:aC G1 G2) (hk:∀a w,Inv c V2 [] G2 none_ a w->y.ww ro ds P Q a w) (hn:kO nv A1 ne=true:=by kernel_rfl) (hb:zy c.N l (tm n 0) V1 A1 G1=true:=by kernel_rfl) (hd:l.all eJ=true:=by kernel_rfl):(Code.seq (Code.region id l.toArray false) y).ww ro ds P Q a w:=
 ax (BH h n nv A1 ne hV hG hs kV kG hk hn hb hd)
theorem Hr (h:Inv c [] [] G none_ a w) (n:Nat) (ne:List aX) (hG:mb ne G G1) (hs:oN P l.toArray (tm n 0) c [] [] G1 0 l) (kG:aC G1 G2) (hk:∀a w,Inv c [] [] G2 none_ a w->Q .normal a w) (hn:kO [] [] ne=true:=by kernel_rfl) (hb:zy c.N l (tm n 0) [] [] G1=true:=by kernel_rfl) (hd:l.all eJ=true:=by kernel_rfl):(Code.region id l.toArray false).ww ro ds P Q a w:=BH h n [] [] ne .z hG hs .z kG hk hn hb hd
theorem cK (h:Inv c [] [] G none_ a w) (n:Nat) (ne:List aX) (hG:mb ne G G1) (hs:oN P l.toArray (tm n 0) c [] [] G1 0 l) (kG:aC G1 G2) (hk:∀a w,Inv c [] [] G2 none_ a w->y.ww ro ds P Q a w) (hn:kO [] [] ne=true:=by kernel_rfl) (hb:zy c.N l (tm n 0) [] [] G1=true:=by kernel_rfl) (hd:l.all eJ=true:=by kernel_rfl):(Code.seq (Code.region id l.toArray false) y).ww ro ds P Q a w:=ax (Hr h n ne hG hs kG hk hn hb hd)
variable {s:Nat}
theorem nR {v:Value} (hI:Inv c V [] G none_ a w) (hk:gL s G=some (bR v)):a.eval (.tmp s)=v:=by
 obtain⟨k,h⟩:=eG hk
 exact hI.get k h
variable {b:Bool} {x:Code}
theorem CS (hI:Inv c V [] G none_ a w) (ht:b=true->x.ww ro ds P Q a w) (hf:b=false->y.ww ro ds P Q a w) (hk:gL s G=some (pB b):=by exact rfl):(Code.cond (.tmp s) x y).ww ro ds P Q a w:=rz (nR hI hk) ht hf
theorem mJ {φ:Prop} [Decidable φ] {x y:Code} (hI:Inv c V [] G none_ a w) (ht:φ->x.ww ro ds P Q a w) (hf:¬φ->y.ww ro ds P Q a w) (hk:gL s G=some (pB (decide φ)):=by exact rfl):(Code.cond (.tmp s) x y).ww ro ds P Q a w:=rz (nR hI hk) (λh=>ht (of_decide_eq_true h)) λh=>hf (of_decide_eq_false h)
theorem W6 (hI:Inv c V [] G none_ a w) (hb:b=true) (ht:x.ww ro ds P Q a w) (hk:gL s G=some (pB b):=by exact rfl):(Code.cond (.tmp s) x y).ww ro ds P Q a w:=rz (nR hI hk) (λ_=>ht) λh=>by rw[hb]at h; cases h
theorem W5 (hI:Inv c V [] G none_ a w) (hb:b=false) (hf:y.ww ro ds P Q a w) (hk:gL s G=some (pB b):=by exact rfl):(Code.cond (.tmp s) x y).ww ro ds P Q a w:=rz (nR hI hk) (λh=>by rw[hb]at h; cases h) λ_=>hf
theorem BF {ι:Type} {C:Code} (VF:List Vr) (GF:List aX) (V1:ι->List Vr) (G1:ι->List aX) (φ:ι->Prop) (μ:ι->Nat) (k0:ι) (h0:φ k0) (hI:Inv c V [] G none_ a w) (hV:K5 V (VF++V1 k0)) (hG:K4 G (GF++G1 k0))
  (round:∀k a w,φ k->Inv c (VF++V1 k) [] (GF++G1 k) none_ a w->C.ww ro ds P (Exit.then (λa w=>∃k',(φ k'/\Inv c (VF++V1 k') [] (GF++G1 k') none_ a w)/\μ k'<μ k) Q) a w):(Code.loop C).ww ro ds P Q a w:=
 JP (λk a w=>φ k/\Inv c (VF++V1 k) [] (GF++G1 k) none_ a w) μ k0 ⟨h0,hI.cv hV hG⟩ λk a w h=>round k a w h.1 h.2
variable {p q:Pred}
theorem jP (h:gL s G=some q:=by exact rfl) (hq:∀w v,q w v->p w v:=by exact Hx):dw P V G (.tmp s) p:=rt hq h
theorem xx {x:Vr} {T:Nat} (h:lW s V=some x:=by exact rfl) (hs:x.slot=s:=by exact rfl) (hb:live none_ x=true:=by exact rfl) (cg:x.kd=.ptr:=by exact rfl) (hc:cont none_ x.c0 x.st=pv q:=by exact rfl) (hq:∀w v,q w v->p w v:=by exact Hx) (ht:Hi P T x.agg x.n=true:=by kernel_rfl):dw P V G (.cell s T) p:=(eR h).1.elim λk hk=>.imp (.cell k hk hb cg hs (bO ht) hc) hq
end
section
variable {P:Program} {w:World} {fn:Func}{f:FuncId} {C:Code} {M:Nat->Nat->Prop} {p:Pred} {N:Nat}
theorem nP {vs:List Value} {G:List aX} (hf:P.funcs[f]?=some fn) (hb:fn.body=some C) (hN:fn.ntmps=N) (hlen:decide (vs.length<=N)=true) (hM:dR M w) (hG:eF M w vs G)
  (h:∀a,Inv ⟨N,w,M,λ_=>False⟩ [] [] G none_ a w->C.ww none [] P (bodyPost P fn (cA M p w)) a w):Calls P f vs.toArray w (cA M p w):=
 kT hf hb hN hlen hM hG λa hI=>(wpIn_wide (n:=0)).1 (wpIn_mono (h a hI 0) λe a' w' ⟨a0,e0,h0⟩=>by subst e0; exact h0)
theorem Tf (hf:P.funcs[f]?=some fn) (hb:fn.body=some C) (hN:fn.ntmps=N) (hlen:decide (([]:List Value).length<=N)=true) (hM:dR M w) (h:∀a,Inv ⟨N,w,M,λ_=>False⟩ [] [] [] none_ a w->C.ww none [] P (bodyPost P fn (cA M p w)) a w):Calls P f #[] w (cA M p w):=
 nP (vs:=([]:List Value)) hf hb hN hlen hM (show eF M w ([]:List Value) []from trivial) h
variable {v0:Value} {p0:Pred}
theorem xA (hf:P.funcs[f]?=some fn) (hb:fn.body=some C) (hN:fn.ntmps=N) (hlen:decide ([v0].length<=N)=true) (hM:dR M w) (h0:aQ M (λw=>p0 w v0) w) (h:∀a,Inv ⟨N,w,M,λ_=>False⟩ [] [] [Uz 0 p0] none_ a w->C.ww none [] P (bodyPost P fn (cA M p w)) a w):Calls P f #[v0] w (cA M p w):=
 nP (vs:=[v0]) hf hb hN hlen hM (show eF M w [v0] [Uz 0 p0]from⟨⟨rfl,_,rfl,h0⟩,trivial⟩) h
variable {v1:Value} {p1:Pred}
theorem xB (hf:P.funcs[f]?=some fn) (hb:fn.body=some C) (hN:fn.ntmps=N) (hlen:decide ([v0,v1].length<=N)=true) (hM:dR M w) (h0:aQ M (λw=>p0 w v0) w) (h1:aQ M (λw=>p1 w v1) w) (h:∀a,Inv ⟨N,w,M,λ_=>False⟩ [] [] [Uz 0 p0,Uz 1 p1] none_ a w->C.ww none [] P (bodyPost P fn (cA M p w)) a w):Calls P f #[v0,v1] w (cA M p w):=
 nP (vs:=[v0,v1]) hf hb hN hlen hM (show eF M w [v0,v1] [Uz 0 p0,Uz 1 p1]from⟨⟨rfl,_,rfl,h0⟩,⟨rfl,_,rfl,h1⟩,trivial⟩) h
theorem Nd {v2:Value} {p2:Pred} (hf:P.funcs[f]?=some fn) (hb:fn.body=some C) (hN:fn.ntmps=N) (hlen:decide ([v0,v1,v2].length<=N)=true) (hM:dR M w) (h0:aQ M (λw=>p0 w v0) w) (h1:aQ M (λw=>p1 w v1) w) (h2:aQ M (λw=>p2 w v2) w) (h:∀a,Inv ⟨N,w,M,λ_=>False⟩ [] [] [Uz 0 p0,Uz 1 p1,Uz 2 p2] none_ a w->C.ww none [] P (bodyPost P fn (cA M p w)) a w):Calls P f #[v0,v1,v2] w (cA M p w):=
 nP (vs:=[v0,v1,v2]) hf hb hN hlen hM (show eF M w [v0,v1,v2] [Uz 0 p0,Uz 1 p1,Uz 2 p2]from⟨⟨rfl,_,rfl,h0⟩,⟨rfl,_,rfl,h1⟩,⟨rfl,_,rfl,h2⟩,trivial⟩) h
end
abbrev K0 (P:Program) (f:FuncId) (p:Pred):Prop:=∀(M:Nat->Nat->Prop) (w:World),dR M w->Calls P f #[] w (cA M p w)
abbrev K1 (P:Program) (f:FuncId) (p0 p:Pred):Prop:=∀(M:Nat->Nat->Prop) (w:World) (v0:Value),dR M w->aQ M (λw=>p0 w v0) w->Calls P f #[v0] w (cA M p w)
abbrev K2 (P:Program) (f:FuncId) (p0 p1 p:Pred):Prop:=∀(M:Nat->Nat->Prop) (w:World) (v0 v1:Value),dR M w->aQ M (λw=>p0 w v0) w->aQ M (λw=>p1 w v1) w->Calls P f #[v0,v1] w (cA M p w)
abbrev K3 (P:Program) (f:FuncId) (p0 p1 p2 p:Pred):Prop:=∀(M:Nat->Nat->Prop) (w:World) (v0 v1 v2:Value),dR M w->aQ M (λw=>p0 w v0) w->aQ M (λw=>p1 w v1) w->aQ M (λw=>p2 w v2) w->Calls P f #[v0,v1,v2] w (cA M p w)
end Wx

namespace Wx
open Go Go.RowKit Go.Proofs
instance WR:xE Tryz.prog 3 false 1:=⟨bO (by kernel_rfl)⟩
instance WS:xE Tryz.prog 4 false 1:=⟨bO (by kernel_rfl)⟩
instance WT:xE Tryz.prog 2 false 1:=⟨bO (by kernel_rfl)⟩
instance WU:xE Tryz.prog 29 false 1:=⟨bO (by kernel_rfl)⟩
instance WV:xE Tryz.prog 54 true 3:=⟨bO (by kernel_rfl)⟩
instance WW:xE Tryz.prog 61 true 3:=⟨bO (by kernel_rfl)⟩
instance WX:xE Tryz.prog 86 true 2:=⟨bO (by kernel_rfl)⟩
instance WY:xE Tryz.prog 26 true 2:=⟨bO (by kernel_rfl)⟩
instance Ur:xE Tryz.prog 24 true 2:=⟨bO (by kernel_rfl)⟩
instance Us:xE Tryz.prog 31 true 2:=⟨bO (by kernel_rfl)⟩
instance Ut:xE Tryz.prog 56 true 9:=⟨bO (by kernel_rfl)⟩
instance Uu:xE Tryz.prog 63 true 9:=⟨bO (by kernel_rfl)⟩
instance Uv:xE Tryz.prog 22 false 1:=⟨bO (by kernel_rfl)⟩
instance Uw:xE Tryz.prog 87 true 6:=⟨bO (by kernel_rfl)⟩
end Wx

namespace Wx
open Go Go.RowKit Go.Proofs
theorem xP {x y c:Operand} {ops:Array Oper} {Q:Exit->Act->World->Prop} {o:Oper} {rest:List Oper} {a:Act} {w:World} {X Y C:Int}
  (hx:a.eval x=.int .u64 X) (hy:a.eval y=.int .u64 Y) (hc:a.eval c=.int .u64 C) (x0:0<=X) (y0:0<=Y) (c0:0<=C) (c1:C<=1)
  (hK:wpList Tryz.prog ops Q rest (a.put o.dst (.tuple #[.int .u64 (xR X Y C),.int .u64 (xQ X Y C)])) w):zV Tryz.prog 113 x y c ops Q o rest a w:=
 add64_ext Tryz.func113 (by kernel_rfl) (by kernel_rfl) (by kernel_rfl) (by kernel_rfl) hx hy hc x0 y0 c0 c1 hK
theorem uA (x y c:Nat):xR (x:Int) y c=(((x+y+c)%b64:Nat):Int):=by unfold xR b64; omega
theorem uz (x y c:Nat):xQ (x:Int) y c=(((x+y+c)/b64:Nat):Int):=by unfold xQ b64; omega
theorem Ab (x c:Nat):xR (x:Int) 0 c=(((x+0+c)%b64:Nat):Int):=uA x 0 c
theorem Aa (x c:Nat):xQ (x:Int) 0 c=(((x+0+c)/b64:Nat):Int):=uz x 0 c
theorem E5 {x y c:Nat} (hx:x<b64) (hy:y<b64) (hc:c<=1):(x+y+c)/b64<=1:=by unfold b64 at *; omega
variable {x y o:List Nat} {cr:Nat}
theorem tq {i vx vy g:Nat} {wr w0:World} (cL:o.length=i) (hlt:i<x.length) (wx:Wf b64 x) (wy:Wf b64 y) (yE:cr<=1) (dN:Wf b64 o)
  (hx:x[i]?=some vx) (hy:y.getD i 0=vy) (hr:Row wr .u64 108 g (o++List.replicate (x.length+1-i) 0)) (hbl:Below w0.heap.size w0 wr) (hg:w0.heap.size<=g)
  (hval:val b64 o+b64^i*cr=val b64 (x.take i)+val b64 (y.take i)):
  ∃(LD:Nat) (o':List Nat),((vx+vy+cr)/b64=LD)/\LD<=1/\o'.length=i+1/\Wf b64 o' /\
   Row (wr.setCell ⟨g,i,none⟩ (.int .u64 (((vx+vy+cr)%b64:Nat):Int))) .u64 108 g (o'++List.replicate (x.length+1-(i+1)) 0) /\
   Below w0.heap.size w0 (wr.setCell ⟨g,i,none⟩ (.int .u64 (((vx+vy+cr)%b64:Nat):Int)))/\val b64 o'+b64^(i+1)*LD=val b64 (x.take (i+1))+val b64 (y.take (i+1)):=by
 have nr:vx<b64:=wx _ (List.mem_of_getElem? hx)
 have yL:vy<b64:=by
  rw[<-hy,List.getD_eq_getElem?_getD]
  cases h:y[i]? with
  |none=>simp[b64]
  |some z=>exact wy _ (List.mem_of_getElem? h)
 refine⟨_,o++[(vx+vy+cr)%b64],rfl,E5 nr yL yE,by simp[cL],dN.append (Wf.cons (Nat.mod_lt _ (by unfold b64; omega)) (Wf.nil _)),?_,hbl.setCell hg _,?_⟩
 ·have h:=hr.set i ((vx+vy+cr)%b64)
  rw[show x.length+1-i=(x.length+1-(i+1))+1 by omega,List.replicate_succ,iW cL]at h
  rw[List.append_assoc]
  exact h
 ·exact zJ cL hval (bQ hx) (by rw[dx,hy]) (by have:=Nat.mod_add_div (vx+vy+cr) b64; omega)
theorem GD (hx:nI x) (wx:Wf b64 x) (wo:Wf b64 o) (cL:o.length=x.length) (Qg:2<=b64) (hval:val b64 o+b64^o.length*cr=val b64 x+val b64 y):cr=0->nI o:=by
 rintro rfl
 refine BA wo ?_
 by_cases h:o=[]
 ·exact .inl h
 ·refine .inr ?_
  have hd:=kZ Qg wx hx
  have hpos:0<val b64 x:=by
   rcases Nat.eq_zero_or_pos (val b64 x)with h0|h0
   ·rw[h0,aW]at hd
    rw[<-hd]at cL
    exact absurd (List.eq_nil_of_length_eq_zero cL) h
   ·exact h0
  have:=lQ Qg hpos
  rw[hd]at this
  rw[cL]
  simp at hval
  omega
set_option maxHeartbeats 400000 in
theorem GC (w:World) (v1 v2:Value) (m n:Nat) (h1:aZ .u64 b64 w v1 m) (h2:aZ .u64 b64 w v2 n) {j k:Nat} (hj:Bd j m) (hk:Bd k n) (ct:j<=1000000000) (kN:k<=1000000000):
  Calls Tryz.prog 86 #[v1,v2] w (dS .u64 b64 w (m+n)):=by
 obtain⟨A,c,rfl,ha⟩:=h1
 obtain⟨B,d,rfl,hb⟩:=h2
 have hla:=od hj
 have hlb:=od hk
 have hv:val b64 (ae b64 m)+val b64 (ae b64 n)=m+n:=by rw[aV af,aV af]
 have wa:=bq af m
 have wb:=bq af n
 have ta:=js af m
 have tb:=js af n
 clear hj hk
 generalize ae b64 m=a at *
 generalize ae b64 n=b at *
 generalize m+n=s at *
 go_enter Tryz.func86,Tryz.ntmps86
 go_upto_if 14 with fail
 go_cut [0,1] (λv0 v1 w'=>w'=w/\∃X cx x Y cy y,v0=.slice X x.length cx/\v1=.slice Y y.length cy/\Rd w .u64 X cx x/\Rd w .u64 Y cy y/\Wf b64 x/\Wf b64 y/\nI x/\y.length<=x.length/\x.length<=1000000000/\val b64 x+val b64 y=s)
 case first=>
  by_cases h:a.length<b.length
  ·go_wp2
   go_meet
   case rel=>exact⟨rfl,B,d,b,A,c,a,rfl,rfl,hb,ha,wb,wa,tb,by omega,by omega,by omega⟩
  ·go_wp2
   go_meet
   case rel=>exact⟨rfl,A,c,a,B,d,b,rfl,rfl,ha,hb,wa,wb,ta,by omega,by omega,hv⟩
 case rest=>
  obtain⟨rfl,X,cx,x,Y,cy,y,rfl,rfl,hx,hy,wx,wy,tx,uh,hx1,hs⟩:=hcut
  clear ha hb wa wb ta tb hla hlb hv
  have HS:=Lib.hid hs
  clear hs
  have Dn:=hx.len
  have OM:=hy.len
  go_wp2_with (at_make; refine bY _ rfl _ _ _ rfl .u64 108 Tryz.underlying52 jf _ _ rfl rfl (by omega) (by omega) (by omega) ?_; intro w1 hrow bV hsz)
  go_loopw [6,25] (λs6 M3 wr=>∃(i cr:Nat) (o:List Nat),i<=x.length/\M3=.int .i64 i/\s6=.int .u64 cr/\cr<=1/\o.length=i/\Wf b64 o/\Row wr .u64 108 wc.heap.size (o++List.replicate (x.length+1-i) 0)/\Below wc.heap.size wc wr/\val b64 o+b64^i*cr=val b64 (x.take i)+val b64 (y.take i))
   (λ_ M3 _=>x.length-(RowKit.intOf M3).toNat)
  case atStart=>exact⟨0,0,[],by omega,rfl,rfl,by omega,rfl,Wf.nil _,by simpa using hrow,bV,by simp[val]⟩
  case round=>
   obtain⟨i,cr,o,hi,rfl,rfl,yE,cL,dN,hr,hbl,hval⟩:=hrel
   have cj:=Lib.hid hval
   have dc:=Lib.hid cL
   clear hval cL hrow bV hsz
   by_cases hlt:i<x.length
   ·obtain⟨bx,ox,vx,rfl,uS,iK⟩:=(hx.below hbl).get hlt
    obtain⟨vo,Cj,Es⟩:=hr.get (i:=i) (by have:=dc.out; simp; omega)
    have tS:=hr.frozen i
    by_cases oQ:i<y.length
    ·obtain⟨Ln,oy,vy,rfl,Fv,qF⟩:=(hy.below hbl).get oQ
     go_wp2_with ((with_reducible refine fU 113 rfl rfl ?_); refine xP rfl rfl rfl (by omega) (by omega) (by omega) (by omega) ?_)
     go_roundw
     case rel=>
      rw[uA,uz]
      obtain⟨LD,o',e,r⟩:=tq (vy:=vy) dc.out hlt wx wy yE dN iK.out (by rw[List.getD_eq_getElem?_getD,qF.out]; rfl) hr hbl (Nat.le_refl _) cj.out
      exact⟨i+1,LD,o',by omega,by go_num,by rw[e],r⟩
     case measure=>simp[RowKit.intOf]; omega
    ·go_wp2_with ((with_reducible refine fU 113 rfl rfl ?_); refine xP rfl rfl rfl (by omega) (by omega) (by omega) (by omega) ?_)
     go_roundw
     case rel=>
      rw[Ab,Aa]
      obtain⟨LD,o',e,r⟩:=tq (vy:=0) dc.out hlt wx wy yE dN iK.out (by rw[List.getD_eq_getElem?_getD,List.getElem?_eq_none (by omega)]; rfl) hr hbl (Nat.le_refl _) cj.out
      exact⟨i+1,LD,o',by omega,by go_num,by rw[e],r⟩
     case measure=>simp[RowKit.intOf]; omega
   ·obtain rfl:i=x.length:=by omega
    have dM:val b64 o+b64^o.length*cr=s:=by
     have:=cj.out
     rw[dc.out,this,List.take_of_length_le (Nat.le_refl _),List.take_of_length_le (by omega)]; exact HS.out
    have HF:=Lib.hid dM
    clear dM
    rw[show x.length+1-x.length=1 by omega,show List.replicate 1 0=[0]from rfl]at hr
    rcases Nat.eq_zero_or_pos cr with rfl|hc0
    ·go_wp2
     go_ret
     refine⟨_,rfl,?_,hbl⟩
     have h:=hr.rd (n:=x.length) (c:=x.length+1) (by simp; have:=dc.out; omega) (by omega) (by unfold maxLen; omega)
     rw[<-dc.out,List.take_left]at h
     have hF:=HF.out
     rw[Nat.mul_zero,Nat.add_zero]at hF
     rw[<-hF,<-dc.out]
     exact aZ.of af h rfl dN (GD (y:=y) tx wx dN dc.out af (by have h1:=HF.out; have h2:=HS.out; omega) rfl)
    ·have hA:=hr.keep ((Below.refl _ _).alloc (Nat.le_refl _) (.cells #[.int .u64 (cr:Int)] 108))
     obtain⟨vo,Cj,_⟩:=hA.get (i:=x.length) (by simp; have:=dc.out; omega)
     have tS:=hA.frozen x.length
     go_wp2
     go_ret
     refine⟨_,rfl,?_,(hbl.alloc hbl.size _).setCell (Nat.le_refl _) _⟩
     have hR:=hA.set x.length cr
     rw[iW dc.out]at hR
     have hF:=HF.out
     rw[<-jO]at hF
     rw[<-hF]
     have hl:(o++[cr]).length=x.length+1:=by simp[dc.out]
     exact aZ.of af (hR.dV (by omega) (by unfold maxLen; omega)) hl (dN.append (Wf.cons (by unfold b64; omega) (Wf.nil _))) (by unfold nI; simp; omega)
end Wx

namespace Wx
open Go Go.RowKit Go.Proofs
theorem jI:Ty Tryz.prog 54 true 3:=⟨λ_=>by kernel_rfl,λ_=>by kernel_rfl,by decide⟩
theorem Hv:∀w,(zeroValue 54).run Tryz.prog w=.ok (.agg #[.bool false,.slice none 0 0,.slice none 0 0]) w:=λ_=>by kernel_rfl
theorem ij:∀b o w,(Instr.fieldAt 54 (.pointer (some ⟨b,o,none⟩)) 0).run Tryz.prog w=.ok (.pointer (some ⟨b,o+0,none⟩)) w:=λ_ _ _=>by kernel_rfl
theorem sk:∀b o w,(Instr.fieldAt 54 (.pointer (some ⟨b,o,none⟩)) 1).run Tryz.prog w=.ok (.pointer (some ⟨b,o+1,none⟩)) w:=λ_ _ _=>by kernel_rfl
theorem sn:∀b o w,(Instr.fieldAt 54 (.pointer (some ⟨b,o,none⟩)) 2).run Tryz.prog w=.ok (.pointer (some ⟨b,o+2,none⟩)) w:=λ_ _ _=>by kernel_rfl
theorem gb:Ty Tryz.prog 4 false 1:=⟨λ_=>by kernel_rfl,λ_=>by kernel_rfl,by decide⟩
theorem ur:Ty Tryz.prog 61 true 3:=⟨λ_=>by kernel_rfl,λ_=>by kernel_rfl,by decide⟩
theorem Tg:∀w,(zeroValue 61).run Tryz.prog w=.ok (.agg #[.bool false,.slice none 0 0,.slice none 0 0]) w:=λ_=>by kernel_rfl
theorem sj:∀b o w,(Instr.fieldAt 61 (.pointer (some ⟨b,o,none⟩)) 0).run Tryz.prog w=.ok (.pointer (some ⟨b,o+0,none⟩)) w:=λ_ _ _=>by kernel_rfl
theorem Fi:∀b o w,(Instr.fieldAt 61 (.pointer (some ⟨b,o,none⟩)) 1).run Tryz.prog w=.ok (.pointer (some ⟨b,o+1,none⟩)) w:=λ_ _ _=>by kernel_rfl
theorem oK:Ty Tryz.prog 52 false 1:=⟨λ_=>by kernel_rfl,λ_=>by kernel_rfl,by decide⟩
end Wx

namespace Wx
open Go Go.RowKit Go.Proofs
def aS (n:Nat):Pred:=λw v=>aZ .u64 b64 w v n
theorem dy (n:Nat):au (aS n):=λ_ _ _ hM h=>mz hM (.inl rfl) h
theorem yx (n:Nat):Fits 1 false (aS n):=by
 rintro w v ⟨A,c,rfl,_⟩
 refine⟨[_],rfl,rfl,rfl,?_⟩
 intro u hu
 simp at hu
 subst hu
 exact⟨fg _ _ _,rfl⟩
def bu (q:Rat):List Fd:=[⟨false,1,pB (decide (q.num<0))⟩,⟨false,1,aS q.num.natAbs⟩,⟨false,1,aS (ay q.den)⟩]
theorem KR (q:Rat):∀w v,bg q w v->pS (bu q) w v:=by
 rintro w v ⟨vn,vd,rfl,h1,h2⟩
 exact Gy (cs:=[.bool (decide (q.num<0)),vn,vd]) ⟨by simp,rfl,by simp,h1,by simp,h2,rfl⟩
theorem uO (q:Rat):Fits 3 true (pS (bu q)):=lz (fs:=bu q) ⟨fits_bool _,yx _,yx _,trivial⟩ rfl
variable {n:Nat}
theorem CH {w:World} {e:Ending} {w':World} (h:dS .u64 b64 w n e w'):dK (aS n) w e w':=h
theorem Lq (m n:Nat):∀w v1 v2,aS m w v1->aS n w v2->Calls Tryz.prog 55 #[v1,v2] w (dK (pI (bf m n)) w):=λw v1 v2 h1 h2=>(fW w v1 v2 m n h1 h2).mono λ_ _ h=>⟨_,h.1,rfl,h.2⟩
theorem Lr {m j k:Nat} (hj:Bd j m) (hk:Bd k n) (ct:j<=1000000000) (kN:k<=1000000000):∀w v1 v2,aS m w v1->aS n w v2->Calls Tryz.prog 86 #[v1,v2] w (dK (aS (m+n)) w):=λw v1 v2 h1 h2=>(GC w v1 v2 m n h1 h2 hj hk ct kN).mono λ_ _=>CH
theorem BZ {d:Nat} (hd:0<d):∀w v1,aS (ay d) w v1->Calls Tryz.prog 83 #[v1] w (dK (aS d) w):=λw v1 h1=>(jK w v1 d h1 hd).mono λ_ _=>CH
section
variable {P:Program} {ops:Array Oper} {ms:List Nat} {c:dg} {V:List Vr} {A:List Al} {G:List aX} {i:Nat} {L:Nat->Bool} {β:Nat->Nat->Prop} {a:Act} {w:World} {o:Oper}{d:Nat} {x y z:Operand} {ty:TypeId} {pos:String} {aI:Array Edge}
end
end Wx
