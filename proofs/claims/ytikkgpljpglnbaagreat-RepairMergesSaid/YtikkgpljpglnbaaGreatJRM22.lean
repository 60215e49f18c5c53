import Derived.Test.YtikkgpljpglnbaaGreatJRM21
namespace Wx
open Go Go.RowKit
section
variable {ro:Option Nat} {ds:List Deferred} {P:Program} {Q:Exit->Act->World->Prop} {c:cF} {V:List Vr} {G:List aQ} {a:Act} {w:World} {fn:Func}{id:Nat} {l:List Oper} {V1 V2:List Vr} {G1 G2:List aQ}
theorem NS (h:Inv c V [] G none_ a w) (ms:List Nat) (nv:List Vr) (A1:List Al) (ne:List aQ) (hV:xD nv V V1) (hG:kP ne G G1) (hs:oC P l.toArray ms c V1 A1 G1 0 l) (kV:eE V1 V2) (kG:aA G1 G2) (hk:∀a w,Inv c V2 [] G2 none_ a w->Q .normal a w) (hn:kM nv A1 ne=true:=by kernel_rfl) (hb:wX P c.N l ms V1 A1 G1=true:=by kernel_rfl) (hd:l.all fg=true:=by kernel_rfl):(Code.region id l.toArray true).ww ro ds P Q a w:=by
 unfold wX at hb
 simp only[Bool.and_eq_true,beq_iff_eq]at hb
 obtain⟨hm,hok,vZ,hwf⟩:=hb
 exact EM ms hm hok vZ hwf hd (iB h hV hG hn) hs λa w hI=>hk a w (jR hwf kV kG hI)
variable {y:Code}
theorem AZ (h:Inv c V [] G none_ a w) (ms:List Nat) (nv:List Vr) (A1:List Al) (ne:List aQ) (hV:xD nv V V1) (hG:kP ne G G1) (hs:oC P l.toArray ms c V1 A1 G1 0 l) (kV:eE V1 V2) (kG:aA G1 G2) (hk:∀a w,Inv c V2 [] G2 none_ a w->y.ww ro ds P Q a w) (hn:kM nv A1 ne=true:=by kernel_rfl) (hb:wX P c.N l ms V1 A1 G1=true:=by kernel_rfl) (hd:l.all fg=true:=by kernel_rfl):(Code.seq (Code.region id l.toArray true) y).ww ro ds P Q a w:=
 au (NS h ms nv A1 ne hV hG hs kV kG hk hn hb hd)
theorem Qu (h:Inv c [] [] G none_ a w) (ms:List Nat) (ne:List aQ) (hG:kP ne G G1) (hs:oC P l.toArray ms c [] [] G1 0 l) (kG:aA G1 G2) (hk:∀a w,Inv c [] [] G2 none_ a w->Q .normal a w) (hn:kM [] [] ne=true:=by kernel_rfl) (hb:wX P c.N l ms [] [] G1=true:=by kernel_rfl) (hd:l.all fg=true:=by kernel_rfl):(Code.region id l.toArray true).ww ro ds P Q a w:=NS h ms [] [] ne .z hG hs .z kG hk hn hb hd
theorem Nf (h:Inv c [] [] G none_ a w) (ms:List Nat) (ne:List aQ) (hG:kP ne G G1) (hs:oC P l.toArray ms c [] [] G1 0 l) (kG:aA G1 G2) (hk:∀a w,Inv c [] [] G2 none_ a w->y.ww ro ds P Q a w) (hn:kM [] [] ne=true:=by kernel_rfl) (hb:wX P c.N l ms [] [] G1=true:=by kernel_rfl) (hd:l.all fg=true:=by kernel_rfl):(Code.seq (Code.region id l.toArray true) y).ww ro ds P Q a w:=au (Qu h ms ne hG hs kG hk hn hb hd)
theorem nw (h:Inv c V [] G none_ a w) (n:Nat) (nv:List Vr) (A1:List Al) (ne:List aQ) (hV:xD nv V V1) (hG:kP ne G G1) (hs:oC P l.toArray (tm n 0) c V1 A1 G1 0 l) (kV:eE V1 V2) (kG:aA G1 G2) (hk:∀a w,Inv c V2 [] G2 none_ a w->Q .normal a w) (hn:kM nv A1 ne=true:=by kernel_rfl) (hb:wY c.N l (tm n 0) V1 A1 G1=true:=by kernel_rfl) (hd:l.all fg=true:=by kernel_rfl):(Code.region id l.toArray false).ww ro ds P Q a w:=by
 unfold wY at hb
 simp only[Bool.and_eq_true,beq_iff_eq]at hb
 obtain⟨vZ,hwf⟩:=hb
 exact GV hwf hd (iB h hV hG hn) (by rw[vZ]; exact hs) λa w hI=>hk a w (jR hwf kV kG hI)
theorem bk (h:Inv c V [] G none_ a w) (n:Nat) (nv:List Vr) (A1:List Al) (ne:List aQ) (hV:xD nv V V1) (hG:kP ne G G1) (hs:oC P l.toArray (tm n 0) c V1 A1 G1 0 l) (kV:eE V1 V2) (kG:aA G1 G2) (hk:∀a w,Inv c V2 [] G2 none_ a w->y.ww ro ds P Q a w) (hn:kM nv A1 ne=true:=by kernel_rfl) (hb:wY c.N l (tm n 0) V1 A1 G1=true:=by kernel_rfl) (hd:l.all fg=true:=by kernel_rfl):(Code.seq (Code.region id l.toArray false) y).ww ro ds P Q a w:=
 au (nw h n nv A1 ne hV hG hs kV kG hk hn hb hd)
theorem xy (h:Inv c [] [] G none_ a w) (n:Nat) (ne:List aQ) (hG:kP ne G G1) (hs:oC P l.toArray (tm n 0) c [] [] G1 0 l) (kG:aA G1 G2) (hk:∀a w,Inv c [] [] G2 none_ a w->Q .normal a w) (hn:kM [] [] ne=true:=by kernel_rfl) (hb:wY c.N l (tm n 0) [] [] G1=true:=by kernel_rfl) (hd:l.all fg=true:=by kernel_rfl):(Code.region id l.toArray false).ww ro ds P Q a w:=nw h n [] [] ne .z hG hs .z kG hk hn hb hd
theorem aZ (h:Inv c [] [] G none_ a w) (n:Nat) (ne:List aQ) (hG:kP ne G G1) (hs:oC P l.toArray (tm n 0) c [] [] G1 0 l) (kG:aA G1 G2) (hk:∀a w,Inv c [] [] G2 none_ a w->y.ww ro ds P Q a w) (hn:kM [] [] ne=true:=by kernel_rfl) (hb:wY c.N l (tm n 0) [] [] G1=true:=by kernel_rfl) (hd:l.all fg=true:=by kernel_rfl):(Code.seq (Code.region id l.toArray false) y).ww ro ds P Q a w:=au (xy h n ne hG hs kG hk hn hb hd)
variable {s:Nat}
theorem lX {v:Value} (hI:Inv c V [] G none_ a w) (hk:eK s G=some (bg v)):a.eval (.tmp s)=v:=by
 obtain⟨k,h⟩:=dh hk
 exact hI.get k h
variable {b:Bool} {x:Code}
theorem uR (hI:Inv c V [] G none_ a w) (ht:b=true->x.ww ro ds P Q a w) (hf:b=false->y.ww ro ds P Q a w) (hk:eK s G=some (pB b):=by exact rfl):(Code.cond (.tmp s) x y).ww ro ds P Q a w:=pP (lX hI hk) ht hf
theorem gA {φ:Prop} [Decidable φ] {x y:Code} (hI:Inv c V [] G none_ a w) (ht:φ->x.ww ro ds P Q a w) (hf:¬φ->y.ww ro ds P Q a w) (hk:eK s G=some (pB (decide φ)):=by exact rfl):(Code.cond (.tmp s) x y).ww ro ds P Q a w:=pP (lX hI hk) (λh=>ht (of_decide_eq_true h)) λh=>hf (of_decide_eq_false h)
theorem T8 (hI:Inv c V [] G none_ a w) (hb:b=true) (ht:x.ww ro ds P Q a w) (hk:eK s G=some (pB b):=by exact rfl):(Code.cond (.tmp s) x y).ww ro ds P Q a w:=pP (lX hI hk) (λ_=>ht) λh=>by rw[hb]at h; cases h
theorem T7 (hI:Inv c V [] G none_ a w) (hb:b=false) (hf:y.ww ro ds P Q a w) (hk:eK s G=some (pB b):=by exact rfl):(Code.cond (.tmp s) x y).ww ro ds P Q a w:=pP (lX hI hk) (λh=>by rw[hb]at h; cases h) λ_=>hf
theorem sF {ι:Type} {C:Code} (VF:List Vr) (GF:List aQ) (V1:ι->List Vr) (G1:ι->List aQ) (φ:ι->Prop) (μ:ι->Nat) (k0:ι) (h0:φ k0) (hI:Inv c V [] G none_ a w) (hV:I0 V (VF++V1 k0)) (hG:IZ G (GF++G1 k0))
  (round:∀k a w,φ k->Inv c (VF++V1 k) [] (GF++G1 k) none_ a w->C.ww ro ds P (Exit.then (λa w=>∃k',(φ k'/\Inv c (VF++V1 k') [] (GF++G1 k') none_ a w)/\μ k'<μ k) Q) a w):(Code.loop C).ww ro ds P Q a w:=
 GU (λk a w=>φ k/\Inv c (VF++V1 k) [] (GF++G1 k) none_ a w) μ k0 ⟨h0,hI.cv hV hG⟩ λk a w h=>round k a w h.1 h.2
variable {p q:Pred}
theorem fR (h:eK s G=some q:=by exact rfl) (hq:∀w v,q w v->p w v:=by exact ET):cN P V G (.tmp s) p:=rt hq h
theorem xx {x:Vr} {T:Nat} (h:jv s V=some x:=by exact rfl) (hs:x.slot=s:=by exact rfl) (hb:live none_ x=true:=by exact rfl) (bD:x.kd=.ptr:=by exact rfl) (hc:cont none_ x.c0 x.st=pv q:=by exact rfl) (hq:∀w v,q w v->p w v:=by exact ET) (ht:zn P T x.agg x.n=true:=by kernel_rfl):cN P V G (.cell s T) p:=(cC h).1.elim λk hk=>.imp (.cell k hk hb bD hs (bF ht) hc) hq
end
section
variable {P:Program} {w:World} {fn:Func}{f:FuncId} {C:Code} {M:Nat->Nat->Prop} {p:Pred} {N:Nat}
theorem lR {vs:List Value} {G:List aQ} (hf:P.funcs[f]?=some fn) (hb:fn.body=some C) (hN:fn.ntmps=N) (hlen:decide (vs.length<=N)=true) (hM:cQ M w) (hG:dO M w vs G)
  (h:∀a,Inv ⟨N,w,M,λ_=>False⟩ [] [] G none_ a w->C.ww none [] P (bodyPost P fn (bV M p w)) a w):Calls P f vs.toArray w (bV M p w):=
 nX hf hb hN hlen hM hG λa hI=>(wpIn_wide (n:=0)).1 (wpIn_mono (h a hI 0) λe a' w' ⟨a0,e0,h0⟩=>by subst e0; exact h0)
theorem Qx (hf:P.funcs[f]?=some fn) (hb:fn.body=some C) (hN:fn.ntmps=N) (hlen:decide (([]:List Value).length<=N)=true) (hM:cQ M w) (h:∀a,Inv ⟨N,w,M,λ_=>False⟩ [] [] [] none_ a w->C.ww none [] P (bodyPost P fn (bV M p w)) a w):Calls P f #[] w (bV M p w):=
 lR (vs:=([]:List Value)) hf hb hN hlen hM (show dO M w ([]:List Value) []from trivial) h
variable {v0:Value} {p0:Pred}
theorem rY (hf:P.funcs[f]?=some fn) (hb:fn.body=some C) (hN:fn.ntmps=N) (hlen:decide ([v0].length<=N)=true) (hM:cQ M w) (h0:aL M (λw=>p0 w v0) w) (h:∀a,Inv ⟨N,w,M,λ_=>False⟩ [] [] [Uz 0 p0] none_ a w->C.ww none [] P (bodyPost P fn (bV M p w)) a w):Calls P f #[v0] w (bV M p w):=
 lR (vs:=[v0]) hf hb hN hlen hM (show dO M w [v0] [Uz 0 p0]from⟨⟨rfl,_,rfl,h0⟩,trivial⟩) h
variable {v1:Value} {p1:Pred}
theorem rZ (hf:P.funcs[f]?=some fn) (hb:fn.body=some C) (hN:fn.ntmps=N) (hlen:decide ([v0,v1].length<=N)=true) (hM:cQ M w) (h0:aL M (λw=>p0 w v0) w) (h1:aL M (λw=>p1 w v1) w) (h:∀a,Inv ⟨N,w,M,λ_=>False⟩ [] [] [Uz 0 p0,Uz 1 p1] none_ a w->C.ww none [] P (bodyPost P fn (bV M p w)) a w):Calls P f #[v0,v1] w (bV M p w):=
 lR (vs:=[v0,v1]) hf hb hN hlen hM (show dO M w [v0,v1] [Uz 0 p0,Uz 1 p1]from⟨⟨rfl,_,rfl,h0⟩,⟨rfl,_,rfl,h1⟩,trivial⟩) h
theorem GR {v2:Value} {p2:Pred} (hf:P.funcs[f]?=some fn) (hb:fn.body=some C) (hN:fn.ntmps=N) (hlen:decide ([v0,v1,v2].length<=N)=true) (hM:cQ M w) (h0:aL M (λw=>p0 w v0) w) (h1:aL M (λw=>p1 w v1) w) (h2:aL M (λw=>p2 w v2) w) (h:∀a,Inv ⟨N,w,M,λ_=>False⟩ [] [] [Uz 0 p0,Uz 1 p1,Uz 2 p2] none_ a w->C.ww none [] P (bodyPost P fn (bV M p w)) a w):Calls P f #[v0,v1,v2] w (bV M p w):=
 lR (vs:=[v0,v1,v2]) hf hb hN hlen hM (show dO M w [v0,v1,v2] [Uz 0 p0,Uz 1 p1,Uz 2 p2]from⟨⟨rfl,_,rfl,h0⟩,⟨rfl,_,rfl,h1⟩,⟨rfl,_,rfl,h2⟩,trivial⟩) h
end
abbrev K0 (P:Program) (f:FuncId) (p:Pred):Prop:=∀(M:Nat->Nat->Prop) (w:World),cQ M w->Calls P f #[] w (bV M p w)
abbrev K1 (P:Program) (f:FuncId) (p0 p:Pred):Prop:=∀(M:Nat->Nat->Prop) (w:World) (v0:Value),cQ M w->aL M (λw=>p0 w v0) w->Calls P f #[v0] w (bV M p w)
abbrev K2 (P:Program) (f:FuncId) (p0 p1 p:Pred):Prop:=∀(M:Nat->Nat->Prop) (w:World) (v0 v1:Value),cQ M w->aL M (λw=>p0 w v0) w->aL M (λw=>p1 w v1) w->Calls P f #[v0,v1] w (bV M p w)
abbrev K3 (P:Program) (f:FuncId) (p0 p1 p2 p:Pred):Prop:=∀(M:Nat->Nat->Prop) (w:World) (v0 v1 v2:Value),cQ M w->aL M (λw=>p0 w v0) w->aL M (λw=>p1 w v1) w->aL M (λw=>p2 w v2) w->Calls P f #[v0,v1,v2] w (bV M p w)
end Wx

namespace Wx
open Go Go.RowKit Go.Proofs
instance TV:zC Tryz.prog 3 false 1:=⟨bF (by kernel_rfl)⟩
instance TW:zC Tryz.prog 4 false 1:=⟨bF (by kernel_rfl)⟩
instance TX:zC Tryz.prog 2 false 1:=⟨bF (by kernel_rfl)⟩
instance TY:zC Tryz.prog 27 false 1:=⟨bF (by kernel_rfl)⟩
instance TZ:zC Tryz.prog 47 true 3:=⟨bF (by kernel_rfl)⟩
instance T1:zC Tryz.prog 38 true 2:=⟨bF (by kernel_rfl)⟩
instance RS:zC Tryz.prog 24 true 2:=⟨bF (by kernel_rfl)⟩
instance RT:zC Tryz.prog 30 true 2:=⟨bF (by kernel_rfl)⟩
instance RU:zC Tryz.prog 49 true 9:=⟨bF (by kernel_rfl)⟩
instance RV:zC Tryz.prog 22 false 1:=⟨bF (by kernel_rfl)⟩
end Wx

namespace Wx
open Go Go.RowKit Go.Proofs
theorem uW {x y c:Operand} {ops:Array Oper} {Q:Exit->Act->World->Prop} {o:Oper} {rest:List Oper} {a:Act} {w:World} {X Y C:Int}
  (hx:a.eval x=.int .u64 X) (hy:a.eval y=.int .u64 Y) (hc:a.eval c=.int .u64 C) (x0:0<=X) (y0:0<=Y) (c0:0<=C) (c1:C<=1)
  (hK:wpList Tryz.prog ops Q rest (a.put o.dst (.tuple #[.int .u64 (uY X Y C),.int .u64 (uX X Y C)])) w):xI Tryz.prog 74 x y c ops Q o rest a w:=
 add64_ext Tryz.func74 (by kernel_rfl) (by kernel_rfl) (by kernel_rfl) (by kernel_rfl) hx hy hc x0 y0 c0 c1 hK
theorem sI (x y c:Nat):uY (x:Int) y c=(((x+y+c)%b64:Nat):Int):=by unfold uY b64; omega
theorem sH (x y c:Nat):uX (x:Int) y c=(((x+y+c)/b64:Nat):Int):=by unfold uX b64; omega
theorem xM (x c:Nat):uY (x:Int) 0 c=(((x+0+c)%b64:Nat):Int):=sI x 0 c
theorem xL (x c:Nat):uX (x:Int) 0 c=(((x+0+c)/b64:Nat):Int):=sH x 0 c
theorem CK {x y c:Nat} (hx:x<b64) (hy:y<b64) (hc:c<=1):(x+y+c)/b64<=1:=by unfold b64 at *; omega
variable {x y o:List Nat} {cr:Nat}
theorem rE {i vx vy g:Nat} {wr w0:World} (dF:o.length=i) (hlt:i<x.length) (wx:Wf b64 x) (wy:Wf b64 y) (EX:cr<=1) (iM:Wf b64 o)
  (hx:x[i]?=some vx) (hy:y.getD i 0=vy) (hr:Row wr .u64 86 g (o++List.replicate (x.length+1-i) 0)) (hbl:Below w0.heap.size w0 wr) (hg:w0.heap.size<=g)
  (hval:val b64 o+b64^i*cr=val b64 (x.take i)+val b64 (y.take i)):
  ∃(Jk:Nat) (o':List Nat),((vx+vy+cr)/b64=Jk)/\Jk<=1/\o'.length=i+1/\Wf b64 o' /\
   Row (wr.setCell ⟨g,i,none⟩ (.int .u64 (((vx+vy+cr)%b64:Nat):Int))) .u64 86 g (o'++List.replicate (x.length+1-(i+1)) 0) /\
   Below w0.heap.size w0 (wr.setCell ⟨g,i,none⟩ (.int .u64 (((vx+vy+cr)%b64:Nat):Int)))/\val b64 o'+b64^(i+1)*Jk=val b64 (x.take (i+1))+val b64 (y.take (i+1)):=by
 have om:vx<b64:=wx _ (List.mem_of_getElem? hx)
 have FT:vy<b64:=by
  rw[<-hy,List.getD_eq_getElem?_getD]
  cases h:y[i]? with
  |none=>simp[b64]
  |some z=>exact wy _ (List.mem_of_getElem? h)
 refine⟨_,o++[(vx+vy+cr)%b64],rfl,CK om FT EX,by simp[dF],iM.append (Wf.cons (Nat.mod_lt _ (by unfold b64; omega)) (Wf.nil _)),?_,hbl.setCell hg _,?_⟩
 ·have h:=hr.set i ((vx+vy+cr)%b64)
  rw[show x.length+1-i=(x.length+1-(i+1))+1 by omega,List.replicate_succ,mS dF]at h
  rw[List.append_assoc]
  exact h
 ·exact Ex dF hval (bN hx) (by rw[gH,hy]) (by have:=Nat.mod_add_div (vx+vy+cr) b64; omega)
theorem D6 (hx:oU x) (wx:Wf b64 x) (wo:Wf b64 o) (dF:o.length=x.length) (FW:2<=b64) (hval:val b64 o+b64^o.length*cr=val b64 x+val b64 y):cr=0->oU o:=by
 rintro rfl
 refine zl wo ?_
 by_cases h:o=[]
 ·exact .inl h
 ·refine .inr ?_
  have hd:=lW FW wx hx
  have hpos:0<val b64 x:=by
   rcases Nat.eq_zero_or_pos (val b64 x)with h0|h0
   ·rw[h0,bf]at hd
    rw[<-hd]at dF
    exact absurd (List.eq_nil_of_length_eq_zero dF) h
   ·exact h0
  have:=jU FW hpos
  rw[hd]at this
  rw[dF]
  simp at hval
  omega
set_option maxHeartbeats 400000 in
theorem D5 (w:World) (v1 v2:Value) (m n:Nat) (h1:cz .u64 b64 w v1 m) (h2:cz .u64 b64 w v2 n) {j k:Nat} (hj:Bd j m) (hk:Bd k n) (fD:j<=1000000000) (nk:k<=1000000000):
  Calls Tryz.prog 54 #[v1,v2] w (gQ .u64 b64 w (m+n)):=by
 obtain⟨A,c,rfl,ha⟩:=h1
 obtain⟨B,d,rfl,hb⟩:=h2
 have hla:=mz hj
 have hlb:=mz hk
 have hv:val b64 (ak b64 m)+val b64 (ak b64 n)=m+n:=by rw[bI ai,bI ai]
 have wa:=cI ai m
 have wb:=cI ai n
 have ta:=lU ai m
 have tb:=lU ai n
 clear hj hk
 generalize ak b64 m=a at *
 generalize ak b64 n=b at *
 generalize m+n=s at *
 go_enter Tryz.func54,Tryz.ntmps54
 go_upto_if 14 with fail
 go_cut [0,1] (λv0 v1 w'=>w'=w/\∃X cx x Y cy y,v0=.slice X x.length cx/\v1=.slice Y y.length cy/\Rd w .u64 X cx x/\Rd w .u64 Y cy y/\Wf b64 x/\Wf b64 y/\oU x/\y.length<=x.length/\x.length<=1000000000/\val b64 x+val b64 y=s)
 case first=>
  by_cases h:a.length<b.length
  ·go_wp2
   go_meet
   case rel=>exact⟨rfl,B,d,b,A,c,a,rfl,rfl,hb,ha,wb,wa,tb,by omega,by omega,by omega⟩
  ·go_wp2
   go_meet
   case rel=>exact⟨rfl,A,c,a,B,d,b,rfl,rfl,ha,hb,wa,wb,ta,by omega,by omega,hv⟩
 case rest=>
  obtain⟨rfl,X,cx,x,Y,cy,y,rfl,rfl,hx,hy,wx,wy,tx,qQ,hx1,hs⟩:=hcut
  clear ha hb wa wb ta tb hla hlb hv
  have HS:=Lib.hid hs
  clear hs
  have E4:=hx.len
  have Tm:=hy.len
  go_wp2_with (at_make; refine dV _ rfl _ _ _ rfl .u64 86 Tryz.underlying45 gV _ _ rfl rfl (by omega) (by omega) (by omega) ?_; intro w1 hrow fC hsz)
  go_loopw [6,25] (λs6 Kn wr=>∃(i cr:Nat) (o:List Nat),i<=x.length/\Kn=.int .i64 i/\s6=.int .u64 cr/\cr<=1/\o.length=i/\Wf b64 o/\Row wr .u64 86 wc.heap.size (o++List.replicate (x.length+1-i) 0)/\Below wc.heap.size wc wr/\val b64 o+b64^i*cr=val b64 (x.take i)+val b64 (y.take i))
   (λ_ Kn _=>x.length-(RowKit.intOf Kn).toNat)
  case atStart=>exact⟨0,0,[],by omega,rfl,rfl,by omega,rfl,Wf.nil _,by simpa using hrow,fC,by simp[val]⟩
  case round=>
   obtain⟨i,cr,o,hi,rfl,rfl,EX,dF,iM,hr,hbl,hval⟩:=hrel
   have dX:=Lib.hid hval
   have fe:=Lib.hid dF
   clear hval dF hrow fC hsz
   by_cases hlt:i<x.length
   ·obtain⟨bx,ox,vx,rfl,Cq,sj⟩:=(hx.below hbl).get hlt
    obtain⟨vo,EW,G6⟩:=hr.get (i:=i) (by have:=fe.out; simp; omega)
    have zZ:=hr.frozen i
    by_cases uP:i<y.length
    ·obtain⟨On,oy,vy,rfl,NC,Fb⟩:=(hy.below hbl).get uP
     go_wp2_with ((with_reducible refine eX 74 rfl rfl ?_); refine uW rfl rfl rfl (by omega) (by omega) (by omega) (by omega) ?_)
     go_roundw
     case rel=>
      rw[sI,sH]
      obtain⟨Jk,o',e,r⟩:=rE (vy:=vy) fe.out hlt wx wy EX iM sj.out (by rw[List.getD_eq_getElem?_getD,Fb.out]; rfl) hr hbl (Nat.le_refl _) dX.out
      exact⟨i+1,Jk,o',by omega,by go_num,by rw[e],r⟩
     case measure=>simp[RowKit.intOf]; omega
    ·go_wp2_with ((with_reducible refine eX 74 rfl rfl ?_); refine uW rfl rfl rfl (by omega) (by omega) (by omega) (by omega) ?_)
     go_roundw
     case rel=>
      rw[xM,xL]
      obtain⟨Jk,o',e,r⟩:=rE (vy:=0) fe.out hlt wx wy EX iM sj.out (by rw[List.getD_eq_getElem?_getD,List.getElem?_eq_none (by omega)]; rfl) hr hbl (Nat.le_refl _) dX.out
      exact⟨i+1,Jk,o',by omega,by go_num,by rw[e],r⟩
     case measure=>simp[RowKit.intOf]; omega
   ·obtain rfl:i=x.length:=by omega
    have dD:val b64 o+b64^o.length*cr=s:=by
     have:=dX.out
     rw[fe.out,this,List.take_of_length_le (Nat.le_refl _),List.take_of_length_le (by omega)]; exact HS.out
    have HF:=Lib.hid dD
    clear dD
    rw[show x.length+1-x.length=1 by omega,show List.replicate 1 0=[0]from rfl]at hr
    rcases Nat.eq_zero_or_pos cr with rfl|hc0
    ·go_wp2
     go_ret
     refine⟨_,rfl,?_,hbl⟩
     have h:=hr.rd (n:=x.length) (c:=x.length+1) (by simp; have:=fe.out; omega) (by omega) (by unfold maxLen; omega)
     rw[<-fe.out,List.take_left]at h
     have hF:=HF.out
     rw[Nat.mul_zero,Nat.add_zero]at hF
     rw[<-hF,<-fe.out]
     exact cz.of ai h rfl iM (D6 (y:=y) tx wx iM fe.out ai (by have h1:=HF.out; have h2:=HS.out; omega) rfl)
    ·have hA:=hr.keep ((Below.refl _ _).alloc (Nat.le_refl _) (.cells #[.int .u64 (cr:Int)] 86))
     obtain⟨vo,EW,_⟩:=hA.get (i:=x.length) (by simp; have:=fe.out; omega)
     have zZ:=hA.frozen x.length
     go_wp2
     go_ret
     refine⟨_,rfl,?_,(hbl.alloc hbl.size _).setCell (Nat.le_refl _) _⟩
     have hR:=hA.set x.length cr
     rw[mS fe.out]at hR
     have hF:=HF.out
     rw[<-ki]at hF
     rw[<-hF]
     have hl:(o++[cr]).length=x.length+1:=by simp[fe.out]
     exact cz.of ai (hR.gw (by omega) (by unfold maxLen; omega)) hl (iM.append (Wf.cons (by unfold b64; omega) (Wf.nil _))) (by unfold oU; simp; omega)
end Wx

namespace Wx
open Go Go.RowKit Go.Proofs
theorem iI:Ty Tryz.prog 47 true 3:=⟨λ_=>by kernel_rfl,λ_=>by kernel_rfl,by decide⟩
theorem EP:∀w,(zeroValue 47).run Tryz.prog w=.ok (.agg #[.bool false,.slice none 0 0,.slice none 0 0]) w:=λ_=>by kernel_rfl
theorem gg:∀b o w,(Instr.fieldAt 47 (.pointer (some ⟨b,o,none⟩)) 0).run Tryz.prog w=.ok (.pointer (some ⟨b,o+0,none⟩)) w:=λ_ _ _=>by kernel_rfl
theorem qu:∀b o w,(Instr.fieldAt 47 (.pointer (some ⟨b,o,none⟩)) 1).run Tryz.prog w=.ok (.pointer (some ⟨b,o+1,none⟩)) w:=λ_ _ _=>by kernel_rfl
theorem qv:∀b o w,(Instr.fieldAt 47 (.pointer (some ⟨b,o,none⟩)) 2).run Tryz.prog w=.ok (.pointer (some ⟨b,o+2,none⟩)) w:=λ_ _ _=>by kernel_rfl
theorem mY:Ty Tryz.prog 4 false 1:=⟨λ_=>by kernel_rfl,λ_=>by kernel_rfl,by decide⟩
theorem mZ:Ty Tryz.prog 45 false 1:=⟨λ_=>by kernel_rfl,λ_=>by kernel_rfl,by decide⟩
end Wx

namespace Wx
open Go Go.RowKit Go.Proofs
def aM (n:Nat):Pred:=λw v=>cz .u64 b64 w v n
theorem cO (n:Nat):av (aM n):=λ_ _ _ hM h=>mB hM (.inl rfl) h
theorem vS (n:Nat):Fits 1 false (aM n):=by
 rintro w v ⟨A,c,rfl,_⟩
 refine⟨[_],rfl,rfl,rfl,?_⟩
 intro u hu
 simp at hu
 subst hu
 exact⟨eP _ _ _,rfl⟩
def aY (q:Rat):List Fd:=[⟨false,1,pB (decide (q.num<0))⟩,⟨false,1,aM q.num.natAbs⟩,⟨false,1,aM (aK q.den)⟩]
theorem IL (q:Rat):∀w v,bq q w v->pS (aY q) w v:=by
 rintro w v ⟨vn,vd,rfl,h1,h2⟩
 exact J9 (cs:=[.bool (decide (q.num<0)),vn,vd]) ⟨by simp,rfl,by simp,h1,by simp,h2,rfl⟩
theorem sW (q:Rat):Fits 3 true (pS (aY q)):=qy (fs:=aY q) ⟨fits_bool _,vS _,vS _,trivial⟩ rfl
variable {n:Nat}
theorem AK {w:World} {e:Ending} {w':World} (h:gQ .u64 b64 w n e w'):iw (aM n) w e w':=h
theorem Je (m n:Nat):∀w v1 v2,aM m w v1->aM n w v2->Calls Tryz.prog 55 #[v1,v2] w (iw (pI (cW m n)) w):=λw v1 v2 h1 h2=>(lS w v1 v2 m n h1 h2).mono λ_ _ h=>⟨_,h.1,rfl,h.2⟩
theorem Jf {m j k:Nat} (hj:Bd j m) (hk:Bd k n) (fD:j<=1000000000) (nk:k<=1000000000):∀w v1 v2,aM m w v1->aM n w v2->Calls Tryz.prog 54 #[v1,v2] w (iw (aM (m+n)) w):=λw v1 v2 h1 h2=>(D5 w v1 v2 m n h1 h2 hj hk fD nk).mono λ_ _=>AK
theorem zI {d:Nat} (hd:0<d):∀w v1,aM (aK d) w v1->Calls Tryz.prog 51 #[v1] w (iw (aM d) w):=λw v1 h1=>(iJ w v1 d h1 hd).mono λ_ _=>AK
section
variable {P:Program} {ops:Array Oper} {ms:List Nat} {c:cF} {V:List Vr} {A:List Al} {G:List aQ} {i:Nat} {L:Nat->Bool} {β:Nat->Nat->Prop} {a:Act} {w:World} {o:Oper}{d:Nat} {x y z:Operand} {ty:TypeId} {pos:String} {aI:Array Edge}
end
end Wx
