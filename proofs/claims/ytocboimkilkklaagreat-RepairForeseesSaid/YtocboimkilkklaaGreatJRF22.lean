import Derived.Test.YtocboimkilkklaaGreatJRF20
namespace Wx
open Go Go.RowKit Go.Proofs
instance ZL:BM Tryz.prog 3 false 1:=⟨dX (by kernel_rfl)⟩
instance ZM:BM Tryz.prog 4 false 1:=⟨dX (by kernel_rfl)⟩
instance ZN:BM Tryz.prog 2 false 1:=⟨dX (by kernel_rfl)⟩
instance ZO:BM Tryz.prog 44 false 1:=⟨dX (by kernel_rfl)⟩
instance ZP:BM Tryz.prog 32 true 3:=⟨dX (by kernel_rfl)⟩
instance ZQ:BM Tryz.prog 38 true 3:=⟨dX (by kernel_rfl)⟩
instance ZR:BM Tryz.prog 24 true 2:=⟨dX (by kernel_rfl)⟩
instance ZS:BM Tryz.prog 68 true 2:=⟨dX (by kernel_rfl)⟩
instance XE:BM Tryz.prog 28 true 4:=⟨dX (by kernel_rfl)⟩
instance XF:BM Tryz.prog 71 true 2:=⟨dX (by kernel_rfl)⟩
instance XG:BM Tryz.prog 78 true 9:=⟨dX (by kernel_rfl)⟩
instance XH:BM Tryz.prog 69 false 1:=⟨dX (by kernel_rfl)⟩
end Wx

namespace Wx
open Go Go.RowKit Go.Proofs
theorem zJ {x y c:Operand} {ops:Array Oper} {Q:Exit->Act->World->Prop} {o:Oper} {rest:List Oper} {a:Act} {w:World} {X Y C:Int}
  (hx:a.eval x=.int .u64 X) (hy:a.eval y=.int .u64 Y) (hc:a.eval c=.int .u64 C) (x0:0<=X) (y0:0<=Y) (c0:0<=C) (c1:C<=1)
  (hK:wpList Tryz.prog ops Q rest (a.put o.dst (.tuple #[.int .u64 (zL X Y C),.int .u64 (zK X Y C)])) w):BS Tryz.prog 114 x y c ops Q o rest a w:=
 add64_ext Tryz.func114 (by kernel_rfl) (by kernel_rfl) (by kernel_rfl) (by kernel_rfl) hx hy hc x0 y0 c0 c1 hK
theorem wK (x y c:Nat):zL (x:Int) y c=(((x+y+c)%b64:Nat):Int):=by unfold zL b64; omega
theorem wJ (x y c:Nat):zK (x:Int) y c=(((x+y+c)/b64:Nat):Int):=by unfold zK b64; omega
theorem B6 (x c:Nat):zL (x:Int) 0 c=(((x+0+c)%b64:Nat):Int):=wK x 0 c
theorem B5 (x c:Nat):zK (x:Int) 0 c=(((x+0+c)/b64:Nat):Int):=wJ x 0 c
theorem Hu {x y c:Nat} (hx:x<b64) (hy:y<b64) (hc:c<=1):(x+y+c)/b64<=1:=by unfold b64 at *; omega
variable {x y o:List Nat} {cr:Nat}
theorem uU {i vx vy g:Nat} {wr w0:World} (ew:o.length=i) (hlt:i<x.length) (wx:Wf b64 x) (wy:Wf b64 y) (AD:cr<=1) (fg:Wf b64 o)
  (hx:x[i]?=some vx) (hy:y.getD i 0=vy) (hr:Row wr .u64 119 g (o++List.replicate (x.length+1-i) 0)) (hbl:Below w0.heap.size w0 wr) (hg:w0.heap.size<=g)
  (hval:val b64 o+b64^i*cr=val b64 (x.take i)+val b64 (y.take i)):
  ∃(Oa:Nat) (o':List Nat),((vx+vy+cr)/b64=Oa)/\Oa<=1/\o'.length=i+1/\Wf b64 o' /\
   Row (wr.setCell ⟨g,i,none⟩ (.int .u64 (((vx+vy+cr)%b64:Nat):Int))) .u64 119 g (o'++List.replicate (x.length+1-(i+1)) 0) /\
   Below w0.heap.size w0 (wr.setCell ⟨g,i,none⟩ (.int .u64 (((vx+vy+cr)%b64:Nat):Int)))/\val b64 o'+b64^(i+1)*Oa=val b64 (x.take (i+1))+val b64 (y.take (i+1)):=by
 have qb:vx<b64:=wx _ (List.mem_of_getElem? hx)
 have AF:vy<b64:=by
  rw[<-hy,List.getD_eq_getElem?_getD]
  cases h:y[i]? with
  |none=>simp[b64]
  |some z=>exact wy _ (List.mem_of_getElem? h)
 refine⟨_,o++[(vx+vy+cr)%b64],rfl,Hu qb AF AD,by simp[ew],fg.append (Wf.cons (Nat.mod_lt _ (by unfold b64; omega)) (Wf.nil _)),?_,hbl.setCell hg _,?_⟩
 ·have h:=hr.set i ((vx+vy+cr)%b64)
  rw[show x.length+1-i=(x.length+1-(i+1))+1 by omega,List.replicate_succ,ki ew]at h
  rw[List.append_assoc]
  exact h
 ·exact BD ew hval (cQ hx) (by rw[eO,hy]) (by have:=Nat.mod_add_div (vx+vy+cr) b64; omega)
theorem JN (hx:pE x) (wx:Wf b64 x) (wo:Wf b64 o) (ew:o.length=x.length) (S7:2<=b64) (hval:val b64 o+b64^o.length*cr=val b64 x+val b64 y):cr=0->pE o:=by
 rintro rfl
 refine Df wo ?_
 by_cases h:o=[]
 ·exact .inl h
 ·refine .inr ?_
  have hd:=mJ S7 wx hx
  have hpos:0<val b64 x:=by
   rcases Nat.eq_zero_or_pos (val b64 x)with h0|h0
   ·rw[h0,bE]at hd
    rw[<-hd]at ew
    exact absurd (List.eq_nil_of_length_eq_zero ew) h
   ·exact h0
  have:=nj S7 hpos
  rw[hd]at this
  rw[ew]
  simp at hval
  omega
set_option maxHeartbeats 400000 in
theorem Bl (w:World) (v1 v2:Value) (m n:Nat) (h1:bq .u64 b64 w v1 m) (h2:bq .u64 b64 w v2 n) {j k:Nat} (hj:Bd j m) (hk:Bd k n) (de:j<=1000000000) (jE:k<=1000000000):
  Calls Tryz.prog 72 #[v1,v2] w (eW .u64 b64 w (m+n)):=by
 obtain⟨A,c,rfl,ha⟩:=h1
 obtain⟨B,d,rfl,hb⟩:=h2
 have hla:=qi hj
 have hlb:=qi hk
 have hv:val b64 (ae b64 m)+val b64 (ae b64 n)=m+n:=by rw[bF ai,bF ai]
 have wa:=bW ai m
 have wb:=bW ai n
 have ta:=kM ai m
 have tb:=kM ai n
 clear hj hk
 generalize ae b64 m=a at *
 generalize ae b64 n=b at *
 generalize m+n=s at *
 go_enter Tryz.func72,Tryz.ntmps72
 go_upto_if 14 with fail
 go_cut [0,1] (λv0 v1 w'=>w'=w/\∃X cx x Y cy y,v0=.slice X x.length cx/\v1=.slice Y y.length cy/\Rd w .u64 X cx x/\Rd w .u64 Y cy y/\Wf b64 x/\Wf b64 y/\pE x/\y.length<=x.length/\x.length<=1000000000/\val b64 x+val b64 y=s)
 case first=>
  by_cases h:a.length<b.length
  ·go_wp2
   go_meet
   case rel=>exact⟨rfl,B,d,b,A,c,a,rfl,rfl,hb,ha,wb,wa,tb,by omega,by omega,by omega⟩
  ·go_wp2
   go_meet
   case rel=>exact⟨rfl,A,c,a,B,d,b,rfl,rfl,ha,hb,wa,wb,ta,by omega,by omega,hv⟩
 case rest=>
  obtain⟨rfl,X,cx,x,Y,cy,y,rfl,rfl,hx,hy,wx,wy,tx,wq,hx1,hs⟩:=hcut
  clear ha hb wa wb ta tb hla hlb hv
  have HS:=Lib.hid hs
  clear hs
  have M8:=hx.len
  have RM:=hy.len
  go_wp2_with (at_make; refine da _ rfl _ _ _ rfl .u64 119 Tryz.underlying30 kA _ _ rfl rfl (by omega) (by omega) (by omega) ?_; intro w1 hrow cV hsz)
  go_loopw [6,25] (λs6 PJ wr=>∃(i cr:Nat) (o:List Nat),i<=x.length/\PJ=.int .i64 i/\s6=.int .u64 cr/\cr<=1/\o.length=i/\Wf b64 o/\Row wr .u64 119 wc.heap.size (o++List.replicate (x.length+1-i) 0)/\Below wc.heap.size wc wr/\val b64 o+b64^i*cr=val b64 (x.take i)+val b64 (y.take i))
   (λ_ PJ _=>x.length-(RowKit.intOf PJ).toNat)
  case atStart=>exact⟨0,0,[],by omega,rfl,rfl,by omega,rfl,Wf.nil _,by simpa using hrow,cV,by simp[val]⟩
  case round=>
   obtain⟨i,cr,o,hi,rfl,rfl,AD,ew,fg,hr,hbl,hval⟩:=hrel
   have dh:=Lib.hid hval
   have en:=Lib.hid ew
   clear hval ew hrow cV hsz
   by_cases hlt:i<x.length
   ·obtain⟨bx,ox,vx,rfl,xo,jG⟩:=(hx.below hbl).get hlt
    obtain⟨vo,DY,GI⟩:=hr.get (i:=i) (by have:=en.out; simp; omega)
    have vU:=hr.frozen i
    by_cases qP:i<y.length
    ·obtain⟨N0,oy,vy,rfl,Iw,sq⟩:=(hy.below hbl).get qP
     go_wp2_with ((with_reducible refine ij 114 rfl rfl ?_); refine zJ rfl rfl rfl (by omega) (by omega) (by omega) (by omega) ?_)
     go_roundw
     case rel=>
      rw[wK,wJ]
      obtain⟨Oa,o',e,r⟩:=uU (vy:=vy) en.out hlt wx wy AD fg jG.out (by rw[List.getD_eq_getElem?_getD,sq.out]; rfl) hr hbl (Nat.le_refl _) dh.out
      exact⟨i+1,Oa,o',by omega,by go_num,by rw[e],r⟩
     case measure=>simp[RowKit.intOf]; omega
    ·go_wp2_with ((with_reducible refine ij 114 rfl rfl ?_); refine zJ rfl rfl rfl (by omega) (by omega) (by omega) (by omega) ?_)
     go_roundw
     case rel=>
      rw[B6,B5]
      obtain⟨Oa,o',e,r⟩:=uU (vy:=0) en.out hlt wx wy AD fg jG.out (by rw[List.getD_eq_getElem?_getD,List.getElem?_eq_none (by omega)]; rfl) hr hbl (Nat.le_refl _) dh.out
      exact⟨i+1,Oa,o',by omega,by go_num,by rw[e],r⟩
     case measure=>simp[RowKit.intOf]; omega
   ·obtain rfl:i=x.length:=by omega
    have cW:val b64 o+b64^o.length*cr=s:=by
     have:=dh.out
     rw[en.out,this,List.take_of_length_le (Nat.le_refl _),List.take_of_length_le (by omega)]; exact HS.out
    have HF:=Lib.hid cW
    clear cW
    rw[show x.length+1-x.length=1 by omega,show List.replicate 1 0=[0]from rfl]at hr
    rcases Nat.eq_zero_or_pos cr with rfl|hc0
    ·go_wp2
     go_ret
     refine⟨_,rfl,?_,hbl⟩
     have h:=hr.rd (n:=x.length) (c:=x.length+1) (by simp; have:=en.out; omega) (by omega) (by unfold maxLen; omega)
     rw[<-en.out,List.take_left]at h
     have hF:=HF.out
     rw[Nat.mul_zero,Nat.add_zero]at hF
     rw[<-hF,<-en.out]
     exact bq.of ai h rfl fg (JN (y:=y) tx wx fg en.out ai (by have h1:=HF.out; have h2:=HS.out; omega) rfl)
    ·have hA:=hr.keep ((Below.refl _ _).alloc (Nat.le_refl _) (.cells #[.int .u64 (cr:Int)] 119))
     obtain⟨vo,DY,_⟩:=hA.get (i:=x.length) (by simp; have:=en.out; omega)
     have vU:=hA.frozen x.length
     go_wp2
     go_ret
     refine⟨_,rfl,?_,(hbl.alloc hbl.size _).setCell (Nat.le_refl _) _⟩
     have hR:=hA.set x.length cr
     rw[ki en.out]at hR
     have hF:=HF.out
     rw[<-lC]at hF
     rw[<-hF]
     have hl:(o++[cr]).length=x.length+1:=by simp[en.out]
     exact bq.of ai (hR.fF (by omega) (by unfold maxLen; omega)) hl (fg.append (Wf.cons (by unfold b64; omega) (Wf.nil _))) (by unfold pE; simp; omega)
end Wx

namespace Wx
open Go Go.RowKit Go.Proofs
theorem av:Ty Tryz.prog 32 true 3:=⟨λ_=>by kernel_rfl,λ_=>by kernel_rfl,by decide⟩
theorem gp:∀w,(zeroValue 32).run Tryz.prog w=.ok (.agg #[.bool false,.slice none 0 0,.slice none 0 0]) w:=λ_=>by kernel_rfl
theorem Hl:pF Tryz.prog 32 #[(0,1),(1,1),(2,1)] [.bool false,.slice none 0 0,.slice none 0 0]:=λ_=>by kernel_rfl
theorem jo:∀b o w,(Instr.fieldAt 32 (.pointer (some ⟨b,o,none⟩)) 0).run Tryz.prog w=.ok (.pointer (some ⟨b,o+0,none⟩)) w:=λ_ _ _=>by kernel_rfl
theorem tW:∀b o w,(Instr.fieldAt 32 (.pointer (some ⟨b,o,none⟩)) 1).run Tryz.prog w=.ok (.pointer (some ⟨b,o+1,none⟩)) w:=λ_ _ _=>by kernel_rfl
theorem tX:∀b o w,(Instr.fieldAt 32 (.pointer (some ⟨b,o,none⟩)) 2).run Tryz.prog w=.ok (.pointer (some ⟨b,o+2,none⟩)) w:=λ_ _ _=>by kernel_rfl
theorem cP:Ty Tryz.prog 43 true 6:=⟨λ_=>by kernel_rfl,λ_=>by kernel_rfl,by decide⟩
theorem iH:∀w,(zeroValue 43).run Tryz.prog w=.ok (.agg #[.bool false,.slice none 0 0,.slice none 0 0,.bool false,.slice none 0 0,.slice none 0 0]) w:=λ_=>by kernel_rfl
theorem pM:pF Tryz.prog 43 #[(0,3),(3,3)] [.bool false,.slice none 0 0,.slice none 0 0,.bool false,.slice none 0 0,.slice none 0 0]:=λ_=>by kernel_rfl
theorem cD:∀b o w,(Instr.fieldAt 43 (.pointer (some ⟨b,o,none⟩)) 0).run Tryz.prog w=.ok (.pointer (some ⟨b,o+0,none⟩)) w:=λ_ _ _=>by kernel_rfl
theorem cE:∀b o w,(Instr.fieldAt 43 (.pointer (some ⟨b,o,none⟩)) 1).run Tryz.prog w=.ok (.pointer (some ⟨b,o+3,none⟩)) w:=λ_ _ _=>by kernel_rfl
theorem tj:Ty Tryz.prog 24 true 2:=⟨λ_=>by kernel_rfl,λ_=>by kernel_rfl,by decide⟩
theorem iv:Ty Tryz.prog 4 false 1:=⟨λ_=>by kernel_rfl,λ_=>by kernel_rfl,by decide⟩
theorem cR:Ty Tryz.prog 38 true 3:=⟨λ_=>by kernel_rfl,λ_=>by kernel_rfl,by decide⟩
theorem Kt:∀w,(zeroValue 38).run Tryz.prog w=.ok (.agg #[.bool false,.slice none 0 0,.slice none 0 0]) w:=λ_=>by kernel_rfl
theorem tV:∀b o w,(Instr.fieldAt 38 (.pointer (some ⟨b,o,none⟩)) 0).run Tryz.prog w=.ok (.pointer (some ⟨b,o+0,none⟩)) w:=λ_ _ _=>by kernel_rfl
theorem Ii:∀b o w,(Instr.fieldAt 38 (.pointer (some ⟨b,o,none⟩)) 1).run Tryz.prog w=.ok (.pointer (some ⟨b,o+1,none⟩)) w:=λ_ _ _=>by kernel_rfl
theorem jc:Ty Tryz.prog 48 true 6:=⟨λ_=>by kernel_rfl,λ_=>by kernel_rfl,by decide⟩
theorem vS:∀w,(zeroValue 48).run Tryz.prog w=.ok (.agg #[.bool false,.slice none 0 0,.slice none 0 0,.bool false,.slice none 0 0,.slice none 0 0]) w:=λ_=>by kernel_rfl
theorem Ho:pF Tryz.prog 48 #[(0,3),(3,3)] [.bool false,.slice none 0 0,.slice none 0 0,.bool false,.slice none 0 0,.slice none 0 0]:=λ_=>by kernel_rfl
theorem iM:∀b o w,(Instr.fieldAt 48 (.pointer (some ⟨b,o,none⟩)) 0).run Tryz.prog w=.ok (.pointer (some ⟨b,o+0,none⟩)) w:=λ_ _ _=>by kernel_rfl
theorem iN:∀b o w,(Instr.fieldAt 48 (.pointer (some ⟨b,o,none⟩)) 1).run Tryz.prog w=.ok (.pointer (some ⟨b,o+3,none⟩)) w:=λ_ _ _=>by kernel_rfl
theorem qJ:Ty Tryz.prog 30 false 1:=⟨λ_=>by kernel_rfl,λ_=>by kernel_rfl,by decide⟩
theorem dU:oq Tryz.prog 163 32 3:=⟨by kernel_rfl,λ_=>by kernel_rfl⟩
end Wx

namespace Wx
open Go Go.RowKit Go.Proofs
def bB (n:Nat):Pred:=λw v=>bq .u64 b64 w v n
theorem eP (n:Nat):aB (bB n):=λ_ _ _ hM h=>nU hM (.inl rfl) h
theorem Aq (n:Nat):Fits 1 false (bB n):=by
 rintro w v ⟨A,c,rfl,_⟩
 refine⟨[_],rfl,rfl,rfl,?_⟩
 intro u hu
 simp at hu
 subst hu
 exact⟨gH _ _ _,rfl⟩
def bY (q:Rat):List Fd:=[⟨false,1,pB (decide (q.num<0))⟩,⟨false,1,bB q.num.natAbs⟩,⟨false,1,bB (ah q.den)⟩]
theorem Nx (q:Rat):∀w v,au q w v->pS (bY q) w v:=by
 rintro w v ⟨vn,vd,rfl,h1,h2⟩
 exact JL (cs:=[.bool (decide (q.num<0)),vn,vd]) ⟨by simp,rfl,by simp,h1,by simp,h2,rfl⟩
theorem xe (q:Rat):Fits 3 true (pS (bY q)):=iO (fs:=bY q) ⟨fits_bool _,Aq _,Aq _,trivial⟩ rfl
variable {n:Nat}
theorem Ez {w:World} {e:Ending} {w':World} (h:eW .u64 b64 w n e w'):fu (bB n) w e w':=h
theorem N4 (m n:Nat):∀w v1 v2,bB m w v1->bB n w v2->Calls Tryz.prog 73 #[v1,v2] w (fu (pI (bK m n)) w):=λw v1 v2 h1 h2=>(nM w v1 v2 m n h1 h2).mono λ_ _ h=>⟨_,h.1,rfl,h.2⟩
theorem N5 {m j k:Nat} (hj:Bd j m) (hk:Bd k n) (de:j<=1000000000) (jE:k<=1000000000):∀w v1 v2,bB m w v1->bB n w v2->Calls Tryz.prog 72 #[v1,v2] w (fu (bB (m+n)) w):=λw v1 v2 h1 h2=>(Bl w v1 v2 m n h1 h2 hj hk de jE).mono λ_ _=>Ez
theorem DD {d:Nat} (hd:0<d):∀w v1,bB (ah d) w v1->Calls Tryz.prog 70 #[v1] w (fu (bB d) w):=λw v1 h1=>(fC w v1 d h1 hd).mono λ_ _=>Ez
section
variable {P:Program} {ops:Array Oper} {ms:List Nat} {c:eL} {V:List Vr} {A:List Al} {G:List bI} {i:Nat} {L:Nat->Bool} {β:Nat->Nat->Prop} {a:Act} {w:World} {o:Oper}{d:Nat} {x y z:Operand} {ty:TypeId} {pos:String} {aZ:Array Edge}
end
end Wx

namespace Wx
set_option maxRecDepth 100000
open Go Go.RowKit Go.Proofs
set_option linter.unusedVariables false
theorem tL (m n:Nat):(m<n/\bK m n = -1)\/(m=n/\bK m n=0)\/(n<m/\bK m n=1):=by
 unfold bK
 rcases Nat.lt_trichotomy m n with h|h|h
 ·exact .inl ⟨h,if_pos h⟩
 ·exact .inr (.inl ⟨h,by rw[if_neg (by omega),if_neg (by omega)]⟩)
 ·exact .inr (.inr ⟨h,by rw[if_neg (by omega),if_pos h]⟩)
variable {m n:Nat}
theorem DG (h:bK m n>=(0:Int)):n<=m:=by
 rcases tL m n with⟨h1,e⟩|⟨h1,e⟩|⟨h1,e⟩<;>omega
theorem tK (h:¬bK m n>=(0:Int)):m<=n:=by
 rcases tL m n with⟨h1,e⟩|⟨h1,e⟩|⟨h1,e⟩<;>omega
variable {x y:Rat}
theorem uR (h:x=y):∀w v,au x w v->au y w v:=λ_ _ k=>h▸k
variable {j k:Nat}
theorem tH (hj:Bd j m) (hk:Bd k n) (h1:j<=1000000000) (h2:k<=1000000000):∀w v1 v2,bB m w v1->bB n w v2->Calls Tryz.prog 71 #[v1,v2] w (fu (bB (m*n)) w):=λw v1 v2 a b=>ia w v1 v2 m n a b hj hk h1 h2
theorem zP (hnm:n<=m) (hj:Bd j m) (h1:j<=1000000000):∀w v1 v2,bB m w v1->bB n w v2->Calls Tryz.prog 74 #[v1,v2] w (fu (bB (m-n)) w):=λw v1 v2 a b=>FY w v1 v2 m n a b hnm hj h1
theorem oM {neg:Bool} {d:Nat} (hj:Bd j n) (hk:Bd j d) (hd:0<d) (de:j<=100000000):∀w v1 v2 v3,pB neg w v1->bB n w v2->bB d w v3->Calls Tryz.prog 67 #[v1,v2,v3] w (fu (au (cL neg n d)) w):=λw v1 v2 v3 h1 h2 h3=>by
 have h1:v1=.bool neg:=h1
 rw[h1]
 exact fO w neg v2 v3 n d h2 h3 hd hj hk de
theorem N2 (hx:bg j x) (hy:bg k y) (kP:j+k+j+k+1<=100000000):∀(M:Nat->Nat->Prop) (w:World) (v0 v1:Value),dc M w->aL M (λw=>(au x) w v0) w->aL M (λw=>(au y) w v1) w->Calls Tryz.prog 32 #[v0,v1] w (bu M (au (x+y)) w):=by
 intro M w0 v0 v1 hM hv0 gb
 have b1:=(hx.1.mul hy.2).add (hy.1.mul hx.2)
 have b2:Bd (j+k+(k+j)+1) (x.num.natAbs*y.den-y.num.natAbs*x.den):=((hx.1.mul hy.2).mono (by omega)).le (Nat.sub_le _ _)
 have b3:Bd (j+k+(k+j)+1) (y.num.natAbs*x.den-x.num.natAbs*y.den):=((hy.1.mul hx.2).mono (by omega)).le (Nat.sub_le _ _)
 have b4:Bd (j+k+(k+j)+1) (x.den*y.den):=(hx.2.mul hy.2).mono (by omega)
 have hd:0<x.den*y.den:=Nat.mul_pos x.den_pos y.den_pos
 refine aQ (N:=58) Tryz.func32 rfl rfl rfl hM (show ck M w0 [v0,v1] [⟨none,none,0,au x⟩,⟨none,none,1,au y⟩]from⟨⟨rfl,_,rfl,hv0⟩,⟨rfl,_,rfl,gb⟩,trivial⟩) λa hI=>?_
 refine iD (V1:=[⟨2,2,some 0,none,.ptr,32,3,true,pv (pS (bY x)),[]⟩,⟨3,3,some 1,none,.ptr,32,3,true,pv (pS (bY y)),[]⟩,⟨4,4,some 2,none,.ptr,32,3,true,pv (au 0),[]⟩]) (A1:=[]) (G1:=[⟨none,none,0,au x⟩,⟨none,none,1,au y⟩]) (V2:=[⟨2,2,none,none,.ptr,32,3,true,pv (pS (bY x)),[]⟩,⟨3,3,none,none,.ptr,32,3,true,pv (pS (bY y)),[]⟩,⟨4,4,none,none,.ptr,32,3,true,pv (au 0),[]⟩]) (G2:=[]) hI rfl rfl rfl [0,1,3] (by kernel_rfl) (by kernel_rfl) ?_ [0,1,2] [] rfl rfl λa w hI=>?_
 ·exact⟨bQ 0 rfl rfl (by kernel_rfl) (by kernel_rfl) rfl rfl rfl (.imp (.tmp 0 rfl rfl) (Nx _)) (xe _) rfl,bQ 1 rfl rfl (by kernel_rfl) (by kernel_rfl) rfl rfl rfl (.imp (.tmp 1 rfl rfl) (Nx _)) (xe _) rfl,bp 2 rfl rfl (by kernel_rfl) (by kernel_rfl) rfl rfl rfl gp rfl rfl (by simp[fq]) rfl (λw=>cF w),trivial⟩
 refine eJ (V1:=[⟨2,2,none,none,.ptr,32,3,true,pv (pS (bY x)),[]⟩,⟨3,3,none,none,.ptr,32,3,true,pv (pS (bY y)),[]⟩,⟨4,4,none,none,.ptr,32,3,true,pv (au 0),[]⟩]) (A1:=[⟨some 0,9,2,2,True⟩,⟨some 3,12,3,2,True⟩]) (G1:=[⟨some 1,none,10,bB (ah x.den)⟩,⟨some 2,none,11,bB x.den⟩,⟨some 4,none,13,bB (ah y.den)⟩,⟨some 5,none,14,bB y.den⟩,⟨some 6,none,5,bB x.den⟩,⟨some 7,none,6,bB y.den⟩]) (V2:=[⟨2,2,none,none,.ptr,32,3,true,pv (pS (bY x)),[]⟩,⟨3,3,none,none,.ptr,32,3,true,pv (pS (bY y)),[]⟩,⟨4,4,none,none,.ptr,32,3,true,pv (au 0),[]⟩]) (G2:=[⟨none,none,5,bB x.den⟩,⟨none,none,6,bB y.den⟩]) hI rfl rfl rfl [0,1,3,0,8,31,63,127] (by kernel_rfl) (by kernel_rfl) (by kernel_rfl) (by kernel_rfl) ?_ [0,1,2] [4,5] rfl rfl λa w hI=>?_
 ·exact⟨aq 0 rfl rfl rfl 0 rfl rfl rfl rfl (.inl ⟨rfl,rfl⟩) rfl (by kernel_rfl) (λb w=>tX b 0 w),cm 0 rfl 0 rfl rfl rfl rfl rfl trivial rfl rfl (by kernel_rfl) qJ rfl rfl (fE (fs:=(bY x)) 2 (f:=⟨false,1,bB (ah x.den)⟩) rfl (off:=2) rfl) (.here 0 rfl),fN (λ_ _=>by kernel_rfl) (eP _) (.tmp 0 rfl rfl) (.here 1 rfl) (DD (Rat.den_pos _)),aq 1 rfl rfl rfl 1 rfl rfl rfl rfl (.inl ⟨rfl,rfl⟩) rfl (by kernel_rfl) (λb w=>tX b 0 w),cm 1 rfl 1 rfl rfl rfl rfl rfl trivial rfl rfl (by kernel_rfl) qJ rfl rfl (fE (fs:=(bY y)) 2 (f:=⟨false,1,bB (ah y.den)⟩) rfl (off:=2) rfl) (.here 2 rfl),fN (λ_ _=>by kernel_rfl) (eP _) (.tmp 2 rfl rfl) (.here 3 rfl) (DD (Rat.den_pos _)),ee (.tmp 1 rfl rfl) (.here 4 rfl),ee (.tmp 3 rfl rfl) (.here 5 rfl),trivial⟩
 refine eJ (V1:=[⟨2,2,none,none,.ptr,32,3,true,pv (pS (bY x)),[]⟩,⟨3,3,none,none,.ptr,32,3,true,pv (pS (bY y)),[]⟩,⟨4,4,none,none,.ptr,32,3,true,pv (au 0),[]⟩]) (A1:=[⟨some 0,15,2,1,True⟩,⟨some 4,19,3,1,True⟩]) (G1:=[⟨none,none,5,bB x.den⟩,⟨none,none,6,bB y.den⟩,⟨some 1,none,16,bB x.num.natAbs⟩,⟨some 2,none,17,bB y.den⟩,⟨some 3,none,18,bB (x.num.natAbs*y.den)⟩,⟨some 5,none,20,bB y.num.natAbs⟩,⟨some 6,none,21,bB x.den⟩,⟨some 7,none,22,bB (y.num.natAbs*x.den)⟩,⟨some 8,none,7,bB (x.num.natAbs*y.den)⟩,⟨some 9,none,8,bB (y.num.natAbs*x.den)⟩]) (V2:=[⟨2,2,none,none,.ptr,32,3,true,pv (pS (bY x)),[]⟩,⟨3,3,none,none,.ptr,32,3,true,pv (pS (bY y)),[]⟩,⟨4,4,none,none,.ptr,32,3,true,pv (au 0),[]⟩]) (G2:=[⟨none,none,5,bB x.den⟩,⟨none,none,6,bB y.den⟩,⟨none,none,7,bB (x.num.natAbs*y.den)⟩,⟨none,none,8,bB (y.num.natAbs*x.den)⟩]) hI rfl rfl rfl [0,1,0,7,0,16,0,127,255,511] (by kernel_rfl) (by kernel_rfl) (by kernel_rfl) (by kernel_rfl) ?_ [0,1,2] [0,1,8,9] rfl rfl λa w hI=>?_
 ·exact⟨aq 0 rfl rfl rfl 0 rfl rfl rfl rfl (.inl ⟨rfl,rfl⟩) rfl (by kernel_rfl) (λb w=>tW b 0 w),cm 0 rfl 0 rfl rfl rfl rfl rfl trivial rfl rfl (by kernel_rfl) qJ rfl rfl (fE (fs:=(bY x)) 1 (f:=⟨false,1,bB x.num.natAbs⟩) rfl (off:=1) rfl) (.here 2 rfl),cg (.tmp 1 rfl rfl) (.here 3 rfl),dn (λ_ _=>by kernel_rfl) (eP _) (.tmp 2 rfl rfl) (.tmp 3 rfl rfl) (.here 4 rfl) (tH (hx).1 hy.2 (by omega) (by omega)),aq 1 rfl rfl rfl 1 rfl rfl rfl rfl (.inl ⟨rfl,rfl⟩) rfl (by kernel_rfl) (λb w=>tW b 0 w),cm 1 rfl 1 rfl rfl rfl rfl rfl trivial rfl rfl (by kernel_rfl) qJ rfl rfl (fE (fs:=(bY y)) 1 (f:=⟨false,1,bB y.num.natAbs⟩) rfl (off:=1) rfl) (.here 5 rfl),cg (.tmp 0 rfl rfl) (.here 6 rfl),dn (λ_ _=>by kernel_rfl) (eP _) (.tmp 5 rfl rfl) (.tmp 6 rfl rfl) (.here 7 rfl) (tH (hy).1 hx.2 (by omega) (by omega)),ee (.tmp 4 rfl rfl) (.here 8 rfl),ee (.tmp 7 rfl rfl) (.here 9 rfl),trivial⟩
 refine iD (V1:=[⟨2,2,none,none,.ptr,32,3,true,pv (pS (bY x)),[]⟩,⟨3,3,none,none,.ptr,32,3,true,pv (pS (bY y)),[]⟩,⟨4,4,none,none,.ptr,32,3,true,pv (au 0),[]⟩]) (A1:=[]) (G1:=[⟨none,some 3,5,bB x.den⟩,⟨none,none,6,bB y.den⟩,⟨none,none,7,bB (x.num.natAbs*y.den)⟩,⟨none,none,8,bB (y.num.natAbs*x.den)⟩,⟨some 0,none,23,bB x.den⟩,⟨some 1,none,24,bB y.den⟩,⟨some 2,none,25,bB (x.den*y.den)⟩,⟨some 3,none,5,bB (x.den*y.den)⟩]) (V2:=[⟨2,2,none,none,.ptr,32,3,true,pv (pS (bY x)),[]⟩,⟨3,3,none,none,.ptr,32,3,true,pv (pS (bY y)),[]⟩,⟨4,4,none,none,.ptr,32,3,true,pv (au 0),[]⟩]) (G2:=[⟨none,none,7,bB (x.num.natAbs*y.den)⟩,⟨none,none,8,bB (y.num.natAbs*x.den)⟩,⟨none,none,5,bB (x.den*y.den)⟩]) hI rfl rfl rfl [0,1,3,7] (by kernel_rfl) (by kernel_rfl) ?_ [0,1,2] [1,2,6] rfl rfl λa w hI=>?_
 ·exact⟨cg (.tmp 0 rfl rfl) (.here 4 rfl),cg (.tmp 1 rfl rfl) (.here 5 rfl),dn (λ_ _=>by kernel_rfl) (eP _) (.tmp 4 rfl rfl) (.tmp 5 rfl rfl) (.here 6 rfl) (tH hx.2 hy.2 (by omega) (by omega)),ee (.tmp 6 rfl rfl) (.here 7 rfl),trivial⟩
 refine wp_seq ?_
 refine wp_block ?_
 refine iD (V1:=[⟨2,2,none,none,.ptr,32,3,true,pv (pS (bY x)),[]⟩,⟨3,3,none,none,.ptr,32,3,true,pv (pS (bY y)),[]⟩,⟨4,4,none,none,.ptr,32,3,true,pv (au 0),[]⟩]) (A1:=[⟨some 0,27,2,0,True⟩,⟨some 2,29,3,0,True⟩]) (G1:=[⟨none,none,7,bB (x.num.natAbs*y.den)⟩,⟨none,none,8,bB (y.num.natAbs*x.den)⟩,⟨none,none,5,bB (x.den*y.den)⟩,⟨some 1,none,28,pB (decide (x.num<0))⟩,⟨some 3,none,30,pB (decide (y.num<0))⟩,⟨some 4,none,31,pB ((decide (x.num<0))==(decide (y.num<0)))⟩,⟨some 5,none,26,pB ((decide (x.num<0))==(decide (y.num<0)))⟩]) (V2:=[⟨2,2,none,none,.ptr,32,3,true,pv (pS (bY x)),[]⟩,⟨3,3,none,none,.ptr,32,3,true,pv (pS (bY y)),[]⟩,⟨4,4,none,none,.ptr,32,3,true,pv (au 0),[]⟩]) (G2:=[⟨none,none,7,bB (x.num.natAbs*y.den)⟩,⟨none,none,8,bB (y.num.natAbs*x.den)⟩,⟨none,none,5,bB (x.den*y.den)⟩,⟨none,none,26,pB ((decide (x.num<0))==(decide (y.num<0)))⟩]) hI rfl rfl rfl [0,1,3,7,15,31] (by kernel_rfl) (by kernel_rfl) ?_ [0,1,2] [0,1,2,6] rfl rfl λa w hI=>?_
 ·exact⟨aq 0 rfl rfl rfl 0 rfl rfl rfl rfl (.inl ⟨rfl,rfl⟩) rfl (by kernel_rfl) (λb w=>jo b 0 w),cm 0 rfl 0 rfl rfl rfl rfl rfl trivial rfl rfl (by kernel_rfl) iv rfl rfl (fE (fs:=(bY x)) 0 (f:=⟨false,1,pB (decide (x.num<0))⟩) rfl (off:=0) rfl) (.here 3 rfl),aq 1 rfl rfl rfl 1 rfl rfl rfl rfl (.inl ⟨rfl,rfl⟩) rfl (by kernel_rfl) (λb w=>jo b 0 w),cm 1 rfl 1 rfl rfl rfl rfl rfl trivial rfl rfl (by kernel_rfl) iv rfl rfl (fE (fs:=(bY y)) 0 (f:=⟨false,1,pB (decide (y.num<0))⟩) rfl (off:=0) rfl) (.here 4 rfl),rY (v:=.bool ((decide (x.num<0))==(decide (y.num<0)))) (.tmp 3 rfl rfl) (.tmp 4 rfl rfl) (λ_=>by kernel_rfl) (.here 5 rfl),ee (.tmp 5 rfl rfl) (.here 6 rfl),trivial⟩
 refine ik hI 3 rfl (λht=>?_) (λht=>?_)
 ·have t1:=ht
  refine eJ (V1:=[⟨2,2,none,none,.ptr,32,3,true,pv (pS (bY x)),[]⟩,⟨3,3,none,none,.ptr,32,3,true,pv (pS (bY y)),[]⟩,⟨4,4,none,none,.ptr,32,3,true,pv (au 0),[(7,pv (au (cL (decide (x.num<0)) ((x.num.natAbs*y.den)+(y.num.natAbs*x.den)) (x.den*y.den))))]⟩]) (A1:=[⟨some 0,32,2,0,True⟩]) (G1:=[⟨none,none,7,bB (x.num.natAbs*y.den)⟩,⟨none,none,8,bB (y.num.natAbs*x.den)⟩,⟨none,none,5,bB (x.den*y.den)⟩,⟨none,none,26,pB ((decide (x.num<0))==(decide (y.num<0)))⟩,⟨some 1,none,33,pB (decide (x.num<0))⟩,⟨some 2,none,34,bB (x.num.natAbs*y.den)⟩,⟨some 3,none,35,bB (y.num.natAbs*x.den)⟩,⟨some 4,none,36,bB ((x.num.natAbs*y.den)+(y.num.natAbs*x.den))⟩,⟨some 5,none,37,bB (x.den*y.den)⟩,⟨some 6,none,38,au (cL (decide (x.num<0)) ((x.num.natAbs*y.den)+(y.num.natAbs*x.den)) (x.den*y.den))⟩]) (V2:=[⟨2,2,none,none,.ptr,32,3,true,pv (pS (bY x)),[]⟩,⟨3,3,none,none,.ptr,32,3,true,pv (pS (bY y)),[]⟩,⟨4,4,none,none,.ptr,32,3,true,pv (au (cL (decide (x.num<0)) ((x.num.natAbs*y.den)+(y.num.natAbs*x.den)) (x.den*y.den))),[]⟩]) (G2:=[⟨none,none,7,bB (x.num.natAbs*y.den)⟩,⟨none,none,8,bB (y.num.natAbs*x.den)⟩,⟨none,none,5,bB (x.den*y.den)⟩]) hI rfl rfl rfl [0,1,0,0,12,0,63,127] (by kernel_rfl) (by kernel_rfl) (by kernel_rfl) (by kernel_rfl) ?_ [0,1,2] [0,1,2] rfl rfl λa w hI=>?_
  ·exact⟨aq 0 rfl rfl rfl 0 rfl rfl rfl rfl (.inl ⟨rfl,rfl⟩) rfl (by kernel_rfl) (λb w=>jo b 0 w),cm 0 rfl 0 rfl rfl rfl rfl rfl trivial rfl rfl (by kernel_rfl) iv rfl rfl (fE (fs:=(bY x)) 0 (f:=⟨false,1,pB (decide (x.num<0))⟩) rfl (off:=0) rfl) (.here 4 rfl),cg (.tmp 0 rfl rfl) (.here 5 rfl),cg (.tmp 1 rfl rfl) (.here 6 rfl),dn (λ_ _=>by kernel_rfl) (eP _) (.tmp 5 rfl rfl) (.tmp 6 rfl rfl) (.here 7 rfl) (N5 (((hx).1).mul hy.2) (((hy).1).mul hx.2) (by omega) (by omega)),cg (.tmp 2 rfl rfl) (.here 8 rfl),lj (λ_ _=>by kernel_rfl) (bt _) (.tmp 4 rfl rfl) (.tmp 7 rfl rfl) (.tmp 8 rfl rfl) (.here 9 rfl) (oM b1 b4 hd (by omega)),aS 2 rfl rfl rfl rfl 0 rfl (by kernel_rfl) (by kernel_rfl) av (.tmp 9 rfl rfl) (aN _),trivial⟩
  refine wp_ret ?_
  refine dz ?_
  refine bM ?_
  exact dx hI rfl (.imp (.cell 2 rfl rfl rfl rfl av rfl) (uR (add_same x y (beq_iff_eq.1 t1)).symm))
 ·have t2:=ht
  refine iD (V1:=[⟨2,2,none,none,.ptr,32,3,true,pv (pS (bY x)),[]⟩,⟨3,3,none,none,.ptr,32,3,true,pv (pS (bY y)),[]⟩,⟨4,4,none,none,.ptr,32,3,true,pv (au 0),[]⟩]) (A1:=[]) (G1:=[⟨none,none,7,bB (x.num.natAbs*y.den)⟩,⟨none,none,8,bB (y.num.natAbs*x.den)⟩,⟨none,none,5,bB (x.den*y.den)⟩,⟨none,none,26,pB ((decide (x.num<0))==(decide (y.num<0)))⟩,⟨some 0,none,40,bB (x.num.natAbs*y.den)⟩,⟨some 1,none,41,bB (y.num.natAbs*x.den)⟩,⟨some 2,none,42,pI (bK (x.num.natAbs*y.den) (y.num.natAbs*x.den))⟩,⟨some 3,none,43,pB (decide ((bK (x.num.natAbs*y.den) (y.num.natAbs*x.den))>=(0:Int)))⟩,⟨some 4,none,39,pB (decide ((bK (x.num.natAbs*y.den) (y.num.natAbs*x.den))>=(0:Int)))⟩]) (V2:=[⟨2,2,none,none,.ptr,32,3,true,pv (pS (bY x)),[]⟩,⟨3,3,none,none,.ptr,32,3,true,pv (pS (bY y)),[]⟩,⟨4,4,none,none,.ptr,32,3,true,pv (au 0),[]⟩]) (G2:=[⟨none,none,7,bB (x.num.natAbs*y.den)⟩,⟨none,none,8,bB (y.num.natAbs*x.den)⟩,⟨none,none,5,bB (x.den*y.den)⟩,⟨none,none,39,pB (decide ((bK (x.num.natAbs*y.den) (y.num.natAbs*x.den))>=(0:Int)))⟩]) hI rfl rfl rfl [0,1,3,7,15] (by kernel_rfl) (by kernel_rfl) ?_ [0,1,2] [0,1,2,8] rfl rfl λa w hI=>?_
  ·exact⟨cg (.tmp 0 rfl rfl) (.here 4 rfl),cg (.tmp 1 rfl rfl) (.here 5 rfl),dn (λ_ _=>by kernel_rfl) (bz _) (.tmp 4 rfl rfl) (.tmp 5 rfl rfl) (.here 6 rfl) (N4 _ _),gg (v:=.bool (decide ((bK (x.num.natAbs*y.den) (y.num.natAbs*x.den))>=(0:Int)))) (.tmp 6 rfl rfl) (.const _) (λ_=>rfl) (.here 7 rfl),ee (.tmp 7 rfl rfl) (.here 8 rfl),trivial⟩
  refine ik hI 3 rfl (λht=>?_) (λht=>?_)
  ·have t3:=of_decide_eq_true ht
   refine eJ (V1:=[⟨2,2,none,none,.ptr,32,3,true,pv (pS (bY x)),[]⟩,⟨3,3,none,none,.ptr,32,3,true,pv (pS (bY y)),[]⟩,⟨4,4,none,none,.ptr,32,3,true,pv (au 0),[(7,pv (au (cL (decide (x.num<0)) ((x.num.natAbs*y.den)-(y.num.natAbs*x.den)) (x.den*y.den))))]⟩]) (A1:=[⟨some 0,44,2,0,True⟩]) (G1:=[⟨none,none,7,bB (x.num.natAbs*y.den)⟩,⟨none,none,8,bB (y.num.natAbs*x.den)⟩,⟨none,none,5,bB (x.den*y.den)⟩,⟨none,none,39,pB (decide ((bK (x.num.natAbs*y.den) (y.num.natAbs*x.den))>=(0:Int)))⟩,⟨some 1,none,45,pB (decide (x.num<0))⟩,⟨some 2,none,46,bB (x.num.natAbs*y.den)⟩,⟨some 3,none,47,bB (y.num.natAbs*x.den)⟩,⟨some 4,none,48,bB ((x.num.natAbs*y.den)-(y.num.natAbs*x.den))⟩,⟨some 5,none,49,bB (x.den*y.den)⟩,⟨some 6,none,50,au (cL (decide (x.num<0)) ((x.num.natAbs*y.den)-(y.num.natAbs*x.den)) (x.den*y.den))⟩]) (V2:=[⟨2,2,none,none,.ptr,32,3,true,pv (pS (bY x)),[]⟩,⟨3,3,none,none,.ptr,32,3,true,pv (pS (bY y)),[]⟩,⟨4,4,none,none,.ptr,32,3,true,pv (au (cL (decide (x.num<0)) ((x.num.natAbs*y.den)-(y.num.natAbs*x.den)) (x.den*y.den))),[]⟩]) (G2:=[⟨none,none,7,bB (x.num.natAbs*y.den)⟩,⟨none,none,8,bB (y.num.natAbs*x.den)⟩,⟨none,none,5,bB (x.den*y.den)⟩]) hI rfl rfl rfl [0,1,0,0,12,0,63,127] (by kernel_rfl) (by kernel_rfl) (by kernel_rfl) (by kernel_rfl) ?_ [0,1,2] [0,1,2] rfl rfl λa w hI=>?_
   ·exact⟨aq 0 rfl rfl rfl 0 rfl rfl rfl rfl (.inl ⟨rfl,rfl⟩) rfl (by kernel_rfl) (λb w=>jo b 0 w),cm 0 rfl 0 rfl rfl rfl rfl rfl trivial rfl rfl (by kernel_rfl) iv rfl rfl (fE (fs:=(bY x)) 0 (f:=⟨false,1,pB (decide (x.num<0))⟩) rfl (off:=0) rfl) (.here 4 rfl),cg (.tmp 0 rfl rfl) (.here 5 rfl),cg (.tmp 1 rfl rfl) (.here 6 rfl),dn (λ_ _=>by kernel_rfl) (eP _) (.tmp 5 rfl rfl) (.tmp 6 rfl rfl) (.here 7 rfl) (zP (DG t3) (((hx).1).mul hy.2) (by omega)),cg (.tmp 2 rfl rfl) (.here 8 rfl),lj (λ_ _=>by kernel_rfl) (bt _) (.tmp 4 rfl rfl) (.tmp 7 rfl rfl) (.tmp 8 rfl rfl) (.here 9 rfl) (oM b2 b4 hd (by omega)),aS 2 rfl rfl rfl rfl 0 rfl (by kernel_rfl) (by kernel_rfl) av (.tmp 9 rfl rfl) (aN _),trivial⟩
   refine wp_ret ?_
   refine dz ?_
   refine bM ?_
   exact dx hI rfl (.imp (.cell 2 rfl rfl rfl rfl av rfl) (uR (B7 x y (beq_eq_false_iff_ne.1 t2) (DG t3)).symm))
  ·have t4:=of_decide_eq_false ht
   refine wp_skip ?_
   refine cz ?_
   refine aj ?_
   refine eJ (V1:=[⟨2,2,none,none,.ptr,32,3,true,pv (pS (bY x)),[]⟩,⟨3,3,none,none,.ptr,32,3,true,pv (pS (bY y)),[]⟩,⟨4,4,none,none,.ptr,32,3,true,pv (au 0),[(7,pv (au (cL (decide (y.num<0)) ((y.num.natAbs*x.den)-(x.num.natAbs*y.den)) (x.den*y.den))))]⟩]) (A1:=[⟨some 0,51,3,0,True⟩]) (G1:=[⟨none,none,7,bB (x.num.natAbs*y.den)⟩,⟨none,none,8,bB (y.num.natAbs*x.den)⟩,⟨none,none,5,bB (x.den*y.den)⟩,⟨none,none,39,pB (decide ((bK (x.num.natAbs*y.den) (y.num.natAbs*x.den))>=(0:Int)))⟩,⟨some 1,none,52,pB (decide (y.num<0))⟩,⟨some 2,none,53,bB (y.num.natAbs*x.den)⟩,⟨some 3,none,54,bB (x.num.natAbs*y.den)⟩,⟨some 4,none,55,bB ((y.num.natAbs*x.den)-(x.num.natAbs*y.den))⟩,⟨some 5,none,56,bB (x.den*y.den)⟩,⟨some 6,none,57,au (cL (decide (y.num<0)) ((y.num.natAbs*x.den)-(x.num.natAbs*y.den)) (x.den*y.den))⟩]) (V2:=[⟨2,2,none,none,.ptr,32,3,true,pv (pS (bY x)),[]⟩,⟨3,3,none,none,.ptr,32,3,true,pv (pS (bY y)),[]⟩,⟨4,4,none,none,.ptr,32,3,true,pv (au (cL (decide (y.num<0)) ((y.num.natAbs*x.den)-(x.num.natAbs*y.den)) (x.den*y.den))),[]⟩]) (G2:=[]) hI rfl rfl rfl [0,1,0,0,12,0,63,127] (by kernel_rfl) (by kernel_rfl) (by kernel_rfl) (by kernel_rfl) ?_ [0,1,2] [] rfl rfl λa w hI=>?_
   ·exact⟨aq 1 rfl rfl rfl 0 rfl rfl rfl rfl (.inl ⟨rfl,rfl⟩) rfl (by kernel_rfl) (λb w=>jo b 0 w),cm 1 rfl 0 rfl rfl rfl rfl rfl trivial rfl rfl (by kernel_rfl) iv rfl rfl (fE (fs:=(bY y)) 0 (f:=⟨false,1,pB (decide (y.num<0))⟩) rfl (off:=0) rfl) (.here 4 rfl),cg (.tmp 1 rfl rfl) (.here 5 rfl),cg (.tmp 0 rfl rfl) (.here 6 rfl),dn (λ_ _=>by kernel_rfl) (eP _) (.tmp 5 rfl rfl) (.tmp 6 rfl rfl) (.here 7 rfl) (zP (tK t4) (((hy).1).mul hx.2) (by omega)),cg (.tmp 2 rfl rfl) (.here 8 rfl),lj (λ_ _=>by kernel_rfl) (bt _) (.tmp 4 rfl rfl) (.tmp 7 rfl rfl) (.tmp 8 rfl rfl) (.here 9 rfl) (oM b3 b4 hd (by omega)),aS 2 rfl rfl rfl rfl 0 rfl (by kernel_rfl) (by kernel_rfl) av (.tmp 9 rfl rfl) (aN _),trivial⟩
   refine wp_ret ?_
   exact dx hI rfl (.imp (.cell 2 rfl rfl rfl rfl av rfl) (uR (B8 x y (beq_eq_false_iff_ne.1 t2) (tK t4)).symm))
theorem KO (w:World) (vx vy:Value) (x y:Rat) (hx:cq w vx x) (hy:cq w vy y) {j k:Nat} (hj:bg j x) (hk:bg k y) (kP:j+k+j+k+1<=100000000):Calls Tryz.prog 32 #[vx,vy] w (fD w (x+y)):=
 (N2 hj hk kP (λ_ _=>False) w vx vy (kU w) (bt x _ w vx (kU w) hx) (bt y _ w vy (kU w) hy)).mono λ_ _ h=>h.ret
end Wx
