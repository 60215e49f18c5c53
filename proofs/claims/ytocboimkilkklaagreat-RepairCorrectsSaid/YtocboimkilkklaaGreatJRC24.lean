import Derived.Test.YtocboimkilkklaaGreatJRC22
namespace Wx
open Go Go.RowKit Go.Proofs
instance Zv:Bw Tryz.prog 3 false 1:=⟨cV (by kernel_rfl)⟩
instance Zw:Bw Tryz.prog 4 false 1:=⟨cV (by kernel_rfl)⟩
instance Zx:Bw Tryz.prog 2 false 1:=⟨cV (by kernel_rfl)⟩
instance Zy:Bw Tryz.prog 44 false 1:=⟨cV (by kernel_rfl)⟩
instance Zz:Bw Tryz.prog 32 true 3:=⟨cV (by kernel_rfl)⟩
instance ZA:Bw Tryz.prog 38 true 3:=⟨cV (by kernel_rfl)⟩
instance ZB:Bw Tryz.prog 24 true 2:=⟨cV (by kernel_rfl)⟩
instance ZC:Bw Tryz.prog 68 true 2:=⟨cV (by kernel_rfl)⟩
instance Xl:Bw Tryz.prog 28 true 4:=⟨cV (by kernel_rfl)⟩
instance Xm:Bw Tryz.prog 71 true 2:=⟨cV (by kernel_rfl)⟩
instance Xn:Bw Tryz.prog 78 true 9:=⟨cV (by kernel_rfl)⟩
instance Xo:Bw Tryz.prog 69 false 1:=⟨cV (by kernel_rfl)⟩
end Wx

namespace Wx
open Go Go.RowKit Go.Proofs
theorem zw {x y c:Operand} {ops:Array Oper} {Q:Exit->Act->World->Prop} {o:Oper} {rest:List Oper} {a:Act} {w:World} {X Y C:Int}
  (hx:a.eval x=.int .u64 X) (hy:a.eval y=.int .u64 Y) (hc:a.eval c=.int .u64 C) (x0:0<=X) (y0:0<=Y) (c0:0<=C) (c1:C<=1)
  (hK:wpList Tryz.prog ops Q rest (a.put o.dst (.tuple #[.int .u64 (zy X Y C),.int .u64 (zx X Y C)])) w):BB Tryz.prog 114 x y c ops Q o rest a w:=
 add64_ext Tryz.func114 (by kernel_rfl) (by kernel_rfl) (by kernel_rfl) (by kernel_rfl) hx hy hc x0 y0 c0 c1 hK
theorem wm (x y c:Nat):zy (x:Int) y c=(((x+y+c)%b64:Nat):Int):=by unfold zy b64; omega
theorem wk (x y c:Nat):zx (x:Int) y c=(((x+y+c)/b64:Nat):Int):=by unfold zx b64; omega
theorem BG (x c:Nat):zy (x:Int) 0 c=(((x+0+c)%b64:Nat):Int):=wm x 0 c
theorem BF (x c:Nat):zx (x:Int) 0 c=(((x+0+c)/b64:Nat):Int):=wk x 0 c
theorem GZ {x y c:Nat} (hx:x<b64) (hy:y<b64) (hc:c<=1):(x+y+c)/b64<=1:=by unfold b64 at *; omega
variable {x y o:List Nat} {cr:Nat}
theorem uD {i vx vy g:Nat} {wr w0:World} (dr:o.length=i) (hlt:i<x.length) (wx:Wf b64 x) (wy:Wf b64 y) (Ah:cr<=1) (eM:Wf b64 o)
  (hx:x[i]?=some vx) (hy:y.getD i 0=vy) (hr:Row wr .u64 119 g (o++List.replicate (x.length+1-i) 0)) (hbl:Below w0.heap.size w0 wr) (hg:w0.heap.size<=g)
  (hval:val b64 o+b64^i*cr=val b64 (x.take i)+val b64 (y.take i)):
  ∃(NS:Nat) (o':List Nat),((vx+vy+cr)/b64=NS)/\NS<=1/\o'.length=i+1/\Wf b64 o' /\
   Row (wr.setCell ⟨g,i,none⟩ (.int .u64 (((vx+vy+cr)%b64:Nat):Int))) .u64 119 g (o'++List.replicate (x.length+1-(i+1)) 0) /\
   Below w0.heap.size w0 (wr.setCell ⟨g,i,none⟩ (.int .u64 (((vx+vy+cr)%b64:Nat):Int)))/\val b64 o'+b64^(i+1)*NS=val b64 (x.take (i+1))+val b64 (y.take (i+1)):=by
 have oF:vx<b64:=wx _ (List.mem_of_getElem? hx)
 have Aq:vy<b64:=by
  rw[<-hy,List.getD_eq_getElem?_getD]
  cases h:y[i]? with
  |none=>simp[b64]
  |some z=>exact wy _ (List.mem_of_getElem? h)
 refine⟨_,o++[(vx+vy+cr)%b64],rfl,GZ oF Aq Ah,by simp[dr],eM.append (Wf.cons (Nat.mod_lt _ (by unfold b64; omega)) (Wf.nil _)),?_,hbl.setCell hg _,?_⟩
 ·have h:=hr.set i ((vx+vy+cr)%b64)
  rw[show x.length+1-i=(x.length+1-(i+1))+1 by omega,List.replicate_succ,jR dr]at h
  rw[List.append_assoc]
  exact h
 ·exact Bi dr hval (cz hx) (by rw[ez,hy]) (by have:=Nat.mod_add_div (vx+vy+cr) b64; omega)
theorem Jl (hx:oT x) (wx:Wf b64 x) (wo:Wf b64 o) (dr:o.length=x.length) (SL:2<=b64) (hval:val b64 o+b64^o.length*cr=val b64 x+val b64 y):cr=0->oT o:=by
 rintro rfl
 refine CY wo ?_
 by_cases h:o=[]
 ·exact .inl h
 ·refine .inr ?_
  have hd:=mF SL wx hx
  have hpos:0<val b64 x:=by
   rcases Nat.eq_zero_or_pos (val b64 x)with h0|h0
   ·rw[h0,bk]at hd
    rw[<-hd]at dr
    exact absurd (List.eq_nil_of_length_eq_zero dr) h
   ·exact h0
  have:=nc SL hpos
  rw[hd]at this
  rw[dr]
  simp at hval
  omega
set_option maxHeartbeats 400000 in
theorem Jk (w:World) (v1 v2:Value) (m n:Nat) (h1:bt .u64 b64 w v1 m) (h2:bt .u64 b64 w v2 n) {j k:Nat} (hj:Bd j m) (hk:Bd k n) (cM:j<=1000000000) (kX:k<=1000000000):
  Calls Tryz.prog 72 #[v1,v2] w (eR .u64 b64 w (m+n)):=by
 obtain⟨A,c,rfl,ha⟩:=h1
 obtain⟨B,d,rfl,hb⟩:=h2
 have hla:=pL hj
 have hlb:=pL hk
 have hv:val b64 (ae b64 m)+val b64 (ae b64 n)=m+n:=by rw[bj ai,bj ai]
 have wa:=bF ai m
 have wb:=bF ai n
 have ta:=kF ai m
 have tb:=kF ai n
 clear hj hk
 generalize ae b64 m=a at *
 generalize ae b64 n=b at *
 generalize m+n=s at *
 go_enter Tryz.func72,Tryz.ntmps72
 go_upto_if 14 with fail
 go_cut [0,1] (λv0 v1 w'=>w'=w/\∃X cx x Y cy y,v0=.slice X x.length cx/\v1=.slice Y y.length cy/\Rd w .u64 X cx x/\Rd w .u64 Y cy y/\Wf b64 x/\Wf b64 y/\oT x/\y.length<=x.length/\x.length<=1000000000/\val b64 x+val b64 y=s)
 case first=>
  by_cases h:a.length<b.length
  ·go_wp2
   go_meet
   case rel=>exact⟨rfl,B,d,b,A,c,a,rfl,rfl,hb,ha,wb,wa,tb,by omega,by omega,by omega⟩
  ·go_wp2
   go_meet
   case rel=>exact⟨rfl,A,c,a,B,d,b,rfl,rfl,ha,hb,wa,wb,ta,by omega,by omega,hv⟩
 case rest=>
  obtain⟨rfl,X,cx,x,Y,cy,y,rfl,rfl,hx,hy,wx,wy,tx,vQ,hx1,hs⟩:=hcut
  clear ha hb wa wb ta tb hla hlb hv
  have HS:=Lib.hid hs
  clear hs
  have Fa:=hx.len
  have Q8:=hy.len
  go_wp2_with (at_make; refine cH _ rfl _ _ _ rfl .u64 119 Tryz.underlying30 kj _ _ rfl rfl (by omega) (by omega) (by omega) ?_; intro w1 hrow cE hsz)
  go_loopw [6,25] (λs6 Pf wr=>∃(i cr:Nat) (o:List Nat),i<=x.length/\Pf=.int .i64 i/\s6=.int .u64 cr/\cr<=1/\o.length=i/\Wf b64 o/\Row wr .u64 119 wc.heap.size (o++List.replicate (x.length+1-i) 0)/\Below wc.heap.size wc wr/\val b64 o+b64^i*cr=val b64 (x.take i)+val b64 (y.take i))
   (λ_ Pf _=>x.length-(intOf Pf).toNat)
  case atStart=>exact⟨0,0,[],by omega,rfl,rfl,by omega,rfl,Wf.nil _,by simpa using hrow,cE,by simp[val]⟩
  case round=>
   obtain⟨i,cr,o,hi,rfl,rfl,Ah,dr,eM,hr,hbl,hval⟩:=hrel
   have cK:=Lib.hid hval
   have dM:=Lib.hid dr
   clear hval dr hrow cE hsz
   by_cases hlt:i<x.length
   ·obtain⟨bx,ox,vx,rfl,wS,jA⟩:=(hx.below hbl).get hlt
    obtain⟨vo,DJ,Gp⟩:=hr.get (i:=i) (by have:=dM.out; simp; omega)
    have vh:=hr.frozen i
    by_cases qz:i<y.length
    ·obtain⟨NA,oy,vy,rfl,Hy,rP⟩:=(hy.below hbl).get qz
     go_wp2_with ((with_reducible refine gQ 114 rfl rfl ?_); refine zw rfl rfl rfl (by omega) (by omega) (by omega) (by omega) ?_)
     go_roundw
     case rel=>
      rw[wm,wk]
      obtain⟨NS,o',e,r⟩:=uD (vy:=vy) dM.out hlt wx wy Ah eM jA.out (by rw[List.getD_eq_getElem?_getD,rP.out]; rfl) hr hbl (Nat.le_refl _) cK.out
      exact⟨i+1,NS,o',by omega,by go_num,by rw[e],r⟩
     case measure=>simp[intOf]; omega
    ·go_wp2_with ((with_reducible refine gQ 114 rfl rfl ?_); refine zw rfl rfl rfl (by omega) (by omega) (by omega) (by omega) ?_)
     go_roundw
     case rel=>
      rw[BG,BF]
      obtain⟨NS,o',e,r⟩:=uD (vy:=0) dM.out hlt wx wy Ah eM jA.out (by rw[List.getD_eq_getElem?_getD,List.getElem?_eq_none (by omega)]; rfl) hr hbl (Nat.le_refl _) cK.out
      exact⟨i+1,NS,o',by omega,by go_num,by rw[e],r⟩
     case measure=>simp[intOf]; omega
   ·obtain rfl:i=x.length:=by omega
    have eL:val b64 o+b64^o.length*cr=s:=by
     have:=cK.out
     rw[dM.out,this,List.take_of_length_le (Nat.le_refl _),List.take_of_length_le (by omega)]; exact HS.out
    have HF:=Lib.hid eL
    clear eL
    rw[show x.length+1-x.length=1 by omega,show List.replicate 1 0=[0]from rfl]at hr
    rcases Nat.eq_zero_or_pos cr with rfl|hc0
    ·go_wp2
     go_ret
     refine⟨_,rfl,?_,hbl⟩
     have h:=hr.rd (n:=x.length) (c:=x.length+1) (by simp; have:=dM.out; omega) (by omega) (by unfold maxLen; omega)
     rw[<-dM.out,List.take_left]at h
     have hF:=HF.out
     rw[Nat.mul_zero,Nat.add_zero]at hF
     rw[<-hF,<-dM.out]
     exact bt.of ai h rfl eM (Jl (y:=y) tx wx eM dM.out ai (by have h1:=HF.out; have h2:=HS.out; omega) rfl)
    ·have hA:=hr.keep ((Below.refl _ _).alloc (Nat.le_refl _) (.cells #[.int .u64 (cr:Int)] 119))
     obtain⟨vo,DJ,_⟩:=hA.get (i:=x.length) (by simp; have:=dM.out; omega)
     have vh:=hA.frozen x.length
     go_wp2
     go_ret
     refine⟨_,rfl,?_,(hbl.alloc hbl.size _).setCell (Nat.le_refl _) _⟩
     have hR:=hA.set x.length cr
     rw[jR dM.out]at hR
     have hF:=HF.out
     rw[<-kW]at hF
     rw[<-hF]
     have hl:(o++[cr]).length=x.length+1:=by simp[dM.out]
     exact bt.of ai (hR.eU (by omega) (by unfold maxLen; omega)) hl (eM.append (Wf.cons (by unfold b64; omega) (Wf.nil _))) (by unfold oT; simp; omega)
end Wx

namespace Wx
open Go Go.RowKit Go.Proofs
theorem aK:Ty Tryz.prog 32 true 3:=⟨λ_=>by kernel_rfl,λ_=>by kernel_rfl,by decide⟩
theorem iw:∀w,(zeroValue 32).run Tryz.prog w=.ok (.agg #[.bool false,.slice none 0 0,.slice none 0 0]) w:=λ_=>by kernel_rfl
theorem je:∀b o w,(Instr.fieldAt 32 (.pointer (some ⟨b,o,none⟩)) 0).run Tryz.prog w=.ok (.pointer (some ⟨b,o+0,none⟩)) w:=λ_ _ _=>by kernel_rfl
theorem tH:∀b o w,(Instr.fieldAt 32 (.pointer (some ⟨b,o,none⟩)) 1).run Tryz.prog w=.ok (.pointer (some ⟨b,o+1,none⟩)) w:=λ_ _ _=>by kernel_rfl
theorem tI:∀b o w,(Instr.fieldAt 32 (.pointer (some ⟨b,o,none⟩)) 2).run Tryz.prog w=.ok (.pointer (some ⟨b,o+2,none⟩)) w:=λ_ _ _=>by kernel_rfl
theorem iu:Ty Tryz.prog 43 true 6:=⟨λ_=>by kernel_rfl,λ_=>by kernel_rfl,by decide⟩
theorem vf:∀w,(zeroValue 43).run Tryz.prog w=.ok (.agg #[.bool false,.slice none 0 0,.slice none 0 0,.bool false,.slice none 0 0,.slice none 0 0]) w:=λ_=>by kernel_rfl
theorem zC:xG Tryz.prog 43 #[(0,3),(3,3)] [.bool false,.slice none 0 0,.slice none 0 0,.bool false,.slice none 0 0,.slice none 0 0]:=λ_=>by kernel_rfl
theorem lu:∀b o w,(Instr.fieldAt 43 (.pointer (some ⟨b,o,none⟩)) 0).run Tryz.prog w=.ok (.pointer (some ⟨b,o+0,none⟩)) w:=λ_ _ _=>by kernel_rfl
theorem lz:∀b o w,(Instr.fieldAt 43 (.pointer (some ⟨b,o,none⟩)) 1).run Tryz.prog w=.ok (.pointer (some ⟨b,o+3,none⟩)) w:=λ_ _ _=>by kernel_rfl
theorem gV:Ty Tryz.prog 4 false 1:=⟨λ_=>by kernel_rfl,λ_=>by kernel_rfl,by decide⟩
theorem fl:Ty Tryz.prog 38 true 3:=⟨λ_=>by kernel_rfl,λ_=>by kernel_rfl,by decide⟩
theorem Po:∀w,(zeroValue 38).run Tryz.prog w=.ok (.agg #[.bool false,.slice none 0 0,.slice none 0 0]) w:=λ_=>by kernel_rfl
theorem tG:∀b o w,(Instr.fieldAt 38 (.pointer (some ⟨b,o,none⟩)) 0).run Tryz.prog w=.ok (.pointer (some ⟨b,o+0,none⟩)) w:=λ_ _ _=>by kernel_rfl
theorem Hj:∀b o w,(Instr.fieldAt 38 (.pointer (some ⟨b,o,none⟩)) 1).run Tryz.prog w=.ok (.pointer (some ⟨b,o+1,none⟩)) w:=λ_ _ _=>by kernel_rfl
theorem LZ:Ty Tryz.prog 48 true 6:=⟨λ_=>by kernel_rfl,λ_=>by kernel_rfl,by decide⟩
theorem Sa:∀w,(zeroValue 48).run Tryz.prog w=.ok (.agg #[.bool false,.slice none 0 0,.slice none 0 0,.bool false,.slice none 0 0,.slice none 0 0]) w:=λ_=>by kernel_rfl
theorem PU:xG Tryz.prog 48 #[(0,3),(3,3)] [.bool false,.slice none 0 0,.slice none 0 0,.bool false,.slice none 0 0,.slice none 0 0]:=λ_=>by kernel_rfl
theorem BW:∀b o w,(Instr.fieldAt 48 (.pointer (some ⟨b,o,none⟩)) 0).run Tryz.prog w=.ok (.pointer (some ⟨b,o+0,none⟩)) w:=λ_ _ _=>by kernel_rfl
theorem BX:∀b o w,(Instr.fieldAt 48 (.pointer (some ⟨b,o,none⟩)) 1).run Tryz.prog w=.ok (.pointer (some ⟨b,o+3,none⟩)) w:=λ_ _ _=>by kernel_rfl
theorem qq:Ty Tryz.prog 30 false 1:=⟨λ_=>by kernel_rfl,λ_=>by kernel_rfl,by decide⟩
theorem en:mw Tryz.prog 163 32 3:=⟨by kernel_rfl,λ_=>by kernel_rfl⟩
end Wx

namespace Wx
open Go Go.RowKit Go.Proofs
def aY (n:Nat):Pred:=λw v=>bt .u64 b64 w v n
theorem eB (n:Nat):au (aY n):=λ_ _ _ hM h=>nK hM (.inl rfl) h
theorem zY (n:Nat):Fits 1 false (aY n):=by
 rintro w v ⟨A,c,rfl,_⟩
 refine⟨[_],rfl,rfl,rfl,?_⟩
 intro u hu
 simp at hu
 subst hu
 exact⟨fZ _ _ _,rfl⟩
def bH (q:Rat):List Fd:=[⟨false,1,pB (decide (q.num<0))⟩,⟨false,1,aY q.num.natAbs⟩,⟨false,1,aY (ak q.den)⟩]
theorem M9 (q:Rat):∀w v,aD q w v->pS (bH q) w v:=by
 rintro w v ⟨vn,vd,rfl,h1,h2⟩
 exact Jh (cs:=[.bool (decide (q.num<0)),vn,vd]) ⟨by simp,rfl,by simp,h1,by simp,h2,rfl⟩
theorem wN (q:Rat):Fits 3 true (pS (bH q)):=jZ (fs:=bH q) ⟨fits_bool _,zY _,zY _,trivial⟩ rfl
variable {n:Nat}
theorem Em {w:World} {e:Ending} {w':World} (h:eR .u64 b64 w n e w'):ew (aY n) w e w':=h
theorem NF (m n:Nat):∀w v1 v2,aY m w v1->aY n w v2->Calls Tryz.prog 73 #[v1,v2] w (ew (pI (bp m n)) w):=λw v1 v2 h1 h2=>(nE w v1 v2 m n h1 h2).mono λ_ _ h=>⟨_,h.1,rfl,h.2⟩
theorem NG {m j k:Nat} (hj:Bd j m) (hk:Bd k n) (cM:j<=1000000000) (kX:k<=1000000000):∀w v1 v2,aY m w v1->aY n w v2->Calls Tryz.prog 72 #[v1,v2] w (ew (aY (m+n)) w):=λw v1 v2 h1 h2=>(Jk w v1 v2 m n h1 h2 hj hk cM kX).mono λ_ _=>Em
theorem Dn {d:Nat} (hd:0<d):∀w v1,aY (ak d) w v1->Calls Tryz.prog 70 #[v1] w (ew (aY d) w):=λw v1 h1=>(gM w v1 d h1 hd).mono λ_ _=>Em
section
variable {P:Program} {ops:Array Oper} {ms:List Nat} {c:dS} {V:List Vr} {A:List Al} {G:List bf} {i:Nat} {L:Nat->Bool} {β:Nat->Nat->Prop} {a:Act} {w:World} {o:Oper}{d:Nat} {x y z:Operand} {ty:TypeId} {pos:String} {aJ:Array Edge}
end
end Wx

namespace Wx
set_option maxRecDepth 100000
open Go Go.RowKit Go.Proofs
set_option linter.unusedVariables false
theorem tr (m n:Nat):(m<n/\bp m n = -1)\/(m=n/\bp m n=0)\/(n<m/\bp m n=1):=by
 unfold bp
 rcases Nat.lt_trichotomy m n with h|h|h
 ·exact .inl ⟨h,if_pos h⟩
 ·exact .inr (.inl ⟨h,by rw[if_neg (by omega),if_neg (by omega)]⟩)
 ·exact .inr (.inr ⟨h,by rw[if_neg (by omega),if_pos h]⟩)
variable {m n:Nat}
theorem Dr (h:bp m n>=(0:Int)):n<=m:=by
 rcases tr m n with⟨h1,e⟩|⟨h1,e⟩|⟨h1,e⟩<;>omega
theorem tq (h:¬bp m n>=(0:Int)):m<=n:=by
 rcases tr m n with⟨h1,e⟩|⟨h1,e⟩|⟨h1,e⟩<;>omega
variable {x y:Rat}
theorem uA (h:x=y):∀w v,aD x w v->aD y w v:=λ_ _ k=>h▸k
variable {j k:Nat}
theorem tg (hj:Bd j m) (hk:Bd k n) (h1:j<=1000000000) (h2:k<=1000000000):∀w v1 v2,aY m w v1->aY n w v2->Calls Tryz.prog 71 #[v1,v2] w (ew (aY (m*n)) w):=λw v1 v2 a b=>gL w v1 v2 m n a b hj hk h1 h2
theorem zD (hnm:n<=m) (hj:Bd j m) (h1:j<=1000000000):∀w v1 v2,aY m w v1->aY n w v2->Calls Tryz.prog 74 #[v1,v2] w (ew (aY (m-n)) w):=λw v1 v2 a b=>FE w v1 v2 m n a b hnm hj h1
theorem om {neg:Bool} {d:Nat} (hj:Bd j n) (hk:Bd j d) (hd:0<d) (cM:j<=100000000):∀w v1 v2 v3,pB neg w v1->aY n w v2->aY d w v3->Calls Tryz.prog 67 #[v1,v2,v3] w (ew (aD (dm neg n d)) w):=λw v1 v2 v3 h1 h2 h3=>by
 have h1:v1=.bool neg:=h1
 rw[h1]
 exact jQ w neg v2 v3 n d h2 h3 hd hj hk cM
theorem NC (hx:bB j x) (hy:bB k y) (vv:j+k+j+k+1<=100000000):∀(M:Nat->Nat->Prop) (w:World) (v0 v1:Value),dz M w->aP M (λw=>(aD x) w v0) w->aP M (λw=>(aD y) w v1) w->Calls Tryz.prog 32 #[v0,v1] w (bE M (aD (x+y)) w):=by
 intro M w0 v0 v1 hM hv0 iK
 have b1:=(hx.1.mul hy.2).add (hy.1.mul hx.2)
 have b2:Bd (j+k+(k+j)+1) (x.num.natAbs*y.den-y.num.natAbs*x.den):=((hx.1.mul hy.2).mono (by omega)).le (Nat.sub_le _ _)
 have b3:Bd (j+k+(k+j)+1) (y.num.natAbs*x.den-x.num.natAbs*y.den):=((hy.1.mul hx.2).mono (by omega)).le (Nat.sub_le _ _)
 have b4:Bd (j+k+(k+j)+1) (x.den*y.den):=(hx.2.mul hy.2).mono (by omega)
 have hd:0<x.den*y.den:=Nat.mul_pos x.den_pos y.den_pos
 refine bD (N:=58) Tryz.func32 rfl rfl rfl hM (show cQ M w0 [v0,v1] [⟨none,none,0,aD x⟩,⟨none,none,1,aD y⟩]from⟨⟨rfl,_,rfl,hv0⟩,⟨rfl,_,rfl,iK⟩,trivial⟩) λa hI=>?_
 refine jv (V1:=[⟨2,2,some 0,none,.ptr,32,3,true,pv (pS (bH x)),[]⟩,⟨3,3,some 1,none,.ptr,32,3,true,pv (pS (bH y)),[]⟩,⟨4,4,some 2,none,.ptr,32,3,true,pv (aD 0),[]⟩]) (A1:=[]) (G1:=[⟨none,none,0,aD x⟩,⟨none,none,1,aD y⟩]) (V2:=[⟨2,2,none,none,.ptr,32,3,true,pv (pS (bH x)),[]⟩,⟨3,3,none,none,.ptr,32,3,true,pv (pS (bH y)),[]⟩,⟨4,4,none,none,.ptr,32,3,true,pv (aD 0),[]⟩]) (G2:=[]) hI rfl rfl rfl [0,1,3] (by kernel_rfl) (by kernel_rfl) ?_ [0,1,2] [] rfl rfl λa w hI=>?_
 ·exact⟨dQ 0 rfl rfl (by kernel_rfl) (by kernel_rfl) rfl rfl rfl (.imp (.tmp 0 rfl rfl) (M9 _)) (wN _) rfl,dQ 1 rfl rfl (by kernel_rfl) (by kernel_rfl) rfl rfl rfl (.imp (.tmp 1 rfl rfl) (M9 _)) (wN _) rfl,ct 2 rfl rfl (by kernel_rfl) (by kernel_rfl) rfl rfl rfl iw rfl rfl (by simp[gm]) rfl (λw=>cU w),trivial⟩
 refine eP (V1:=[⟨2,2,none,none,.ptr,32,3,true,pv (pS (bH x)),[]⟩,⟨3,3,none,none,.ptr,32,3,true,pv (pS (bH y)),[]⟩,⟨4,4,none,none,.ptr,32,3,true,pv (aD 0),[]⟩]) (A1:=[⟨some 0,9,2,2,True⟩,⟨some 3,12,3,2,True⟩]) (G1:=[⟨some 1,none,10,aY (ak x.den)⟩,⟨some 2,none,11,aY x.den⟩,⟨some 4,none,13,aY (ak y.den)⟩,⟨some 5,none,14,aY y.den⟩,⟨some 6,none,5,aY x.den⟩,⟨some 7,none,6,aY y.den⟩]) (V2:=[⟨2,2,none,none,.ptr,32,3,true,pv (pS (bH x)),[]⟩,⟨3,3,none,none,.ptr,32,3,true,pv (pS (bH y)),[]⟩,⟨4,4,none,none,.ptr,32,3,true,pv (aD 0),[]⟩]) (G2:=[⟨none,none,5,aY x.den⟩,⟨none,none,6,aY y.den⟩]) hI rfl rfl rfl [0,1,3,0,8,31,63,127] (by kernel_rfl) (by kernel_rfl) (by kernel_rfl) (by kernel_rfl) ?_ [0,1,2] [4,5] rfl rfl λa w hI=>?_
 ·exact⟨aX 0 rfl rfl rfl 0 rfl rfl rfl rfl (.inl ⟨rfl,rfl⟩) rfl (by kernel_rfl) (λb w=>tI b 0 w),cj 0 rfl 0 rfl rfl rfl rfl rfl trivial rfl rfl (by kernel_rfl) qq rfl rfl (fu (fs:=(bH x)) 2 (f:=⟨false,1,aY (ak x.den)⟩) rfl (off:=2) rfl) (.here 0 rfl),gB (λ_ _=>by kernel_rfl) (eB _) (.tmp 0 rfl rfl) (.here 1 rfl) (Dn (Rat.den_pos _)),aX 1 rfl rfl rfl 1 rfl rfl rfl rfl (.inl ⟨rfl,rfl⟩) rfl (by kernel_rfl) (λb w=>tI b 0 w),cj 1 rfl 1 rfl rfl rfl rfl rfl trivial rfl rfl (by kernel_rfl) qq rfl rfl (fu (fs:=(bH y)) 2 (f:=⟨false,1,aY (ak y.den)⟩) rfl (off:=2) rfl) (.here 2 rfl),gB (λ_ _=>by kernel_rfl) (eB _) (.tmp 2 rfl rfl) (.here 3 rfl) (Dn (Rat.den_pos _)),dJ (.tmp 1 rfl rfl) (.here 4 rfl),dJ (.tmp 3 rfl rfl) (.here 5 rfl),trivial⟩
 refine eP (V1:=[⟨2,2,none,none,.ptr,32,3,true,pv (pS (bH x)),[]⟩,⟨3,3,none,none,.ptr,32,3,true,pv (pS (bH y)),[]⟩,⟨4,4,none,none,.ptr,32,3,true,pv (aD 0),[]⟩]) (A1:=[⟨some 0,15,2,1,True⟩,⟨some 4,19,3,1,True⟩]) (G1:=[⟨none,none,5,aY x.den⟩,⟨none,none,6,aY y.den⟩,⟨some 1,none,16,aY x.num.natAbs⟩,⟨some 2,none,17,aY y.den⟩,⟨some 3,none,18,aY (x.num.natAbs*y.den)⟩,⟨some 5,none,20,aY y.num.natAbs⟩,⟨some 6,none,21,aY x.den⟩,⟨some 7,none,22,aY (y.num.natAbs*x.den)⟩,⟨some 8,none,7,aY (x.num.natAbs*y.den)⟩,⟨some 9,none,8,aY (y.num.natAbs*x.den)⟩]) (V2:=[⟨2,2,none,none,.ptr,32,3,true,pv (pS (bH x)),[]⟩,⟨3,3,none,none,.ptr,32,3,true,pv (pS (bH y)),[]⟩,⟨4,4,none,none,.ptr,32,3,true,pv (aD 0),[]⟩]) (G2:=[⟨none,none,5,aY x.den⟩,⟨none,none,6,aY y.den⟩,⟨none,none,7,aY (x.num.natAbs*y.den)⟩,⟨none,none,8,aY (y.num.natAbs*x.den)⟩]) hI rfl rfl rfl [0,1,0,7,0,16,0,127,255,511] (by kernel_rfl) (by kernel_rfl) (by kernel_rfl) (by kernel_rfl) ?_ [0,1,2] [0,1,8,9] rfl rfl λa w hI=>?_
 ·exact⟨aX 0 rfl rfl rfl 0 rfl rfl rfl rfl (.inl ⟨rfl,rfl⟩) rfl (by kernel_rfl) (λb w=>tH b 0 w),cj 0 rfl 0 rfl rfl rfl rfl rfl trivial rfl rfl (by kernel_rfl) qq rfl rfl (fu (fs:=(bH x)) 1 (f:=⟨false,1,aY x.num.natAbs⟩) rfl (off:=1) rfl) (.here 2 rfl),bL (.tmp 1 rfl rfl) (.here 3 rfl),cD (λ_ _=>by kernel_rfl) (eB _) (.tmp 2 rfl rfl) (.tmp 3 rfl rfl) (.here 4 rfl) (tg (hx).1 hy.2 (by omega) (by omega)),aX 1 rfl rfl rfl 1 rfl rfl rfl rfl (.inl ⟨rfl,rfl⟩) rfl (by kernel_rfl) (λb w=>tH b 0 w),cj 1 rfl 1 rfl rfl rfl rfl rfl trivial rfl rfl (by kernel_rfl) qq rfl rfl (fu (fs:=(bH y)) 1 (f:=⟨false,1,aY y.num.natAbs⟩) rfl (off:=1) rfl) (.here 5 rfl),bL (.tmp 0 rfl rfl) (.here 6 rfl),cD (λ_ _=>by kernel_rfl) (eB _) (.tmp 5 rfl rfl) (.tmp 6 rfl rfl) (.here 7 rfl) (tg (hy).1 hx.2 (by omega) (by omega)),dJ (.tmp 4 rfl rfl) (.here 8 rfl),dJ (.tmp 7 rfl rfl) (.here 9 rfl),trivial⟩
 refine jv (V1:=[⟨2,2,none,none,.ptr,32,3,true,pv (pS (bH x)),[]⟩,⟨3,3,none,none,.ptr,32,3,true,pv (pS (bH y)),[]⟩,⟨4,4,none,none,.ptr,32,3,true,pv (aD 0),[]⟩]) (A1:=[]) (G1:=[⟨none,some 3,5,aY x.den⟩,⟨none,none,6,aY y.den⟩,⟨none,none,7,aY (x.num.natAbs*y.den)⟩,⟨none,none,8,aY (y.num.natAbs*x.den)⟩,⟨some 0,none,23,aY x.den⟩,⟨some 1,none,24,aY y.den⟩,⟨some 2,none,25,aY (x.den*y.den)⟩,⟨some 3,none,5,aY (x.den*y.den)⟩]) (V2:=[⟨2,2,none,none,.ptr,32,3,true,pv (pS (bH x)),[]⟩,⟨3,3,none,none,.ptr,32,3,true,pv (pS (bH y)),[]⟩,⟨4,4,none,none,.ptr,32,3,true,pv (aD 0),[]⟩]) (G2:=[⟨none,none,7,aY (x.num.natAbs*y.den)⟩,⟨none,none,8,aY (y.num.natAbs*x.den)⟩,⟨none,none,5,aY (x.den*y.den)⟩]) hI rfl rfl rfl [0,1,3,7] (by kernel_rfl) (by kernel_rfl) ?_ [0,1,2] [1,2,6] rfl rfl λa w hI=>?_
 ·exact⟨bL (.tmp 0 rfl rfl) (.here 4 rfl),bL (.tmp 1 rfl rfl) (.here 5 rfl),cD (λ_ _=>by kernel_rfl) (eB _) (.tmp 4 rfl rfl) (.tmp 5 rfl rfl) (.here 6 rfl) (tg hx.2 hy.2 (by omega) (by omega)),dJ (.tmp 6 rfl rfl) (.here 7 rfl),trivial⟩
 refine wp_seq ?_
 refine wp_block ?_
 refine jv (V1:=[⟨2,2,none,none,.ptr,32,3,true,pv (pS (bH x)),[]⟩,⟨3,3,none,none,.ptr,32,3,true,pv (pS (bH y)),[]⟩,⟨4,4,none,none,.ptr,32,3,true,pv (aD 0),[]⟩]) (A1:=[⟨some 0,27,2,0,True⟩,⟨some 2,29,3,0,True⟩]) (G1:=[⟨none,none,7,aY (x.num.natAbs*y.den)⟩,⟨none,none,8,aY (y.num.natAbs*x.den)⟩,⟨none,none,5,aY (x.den*y.den)⟩,⟨some 1,none,28,pB (decide (x.num<0))⟩,⟨some 3,none,30,pB (decide (y.num<0))⟩,⟨some 4,none,31,pB ((decide (x.num<0))==(decide (y.num<0)))⟩,⟨some 5,none,26,pB ((decide (x.num<0))==(decide (y.num<0)))⟩]) (V2:=[⟨2,2,none,none,.ptr,32,3,true,pv (pS (bH x)),[]⟩,⟨3,3,none,none,.ptr,32,3,true,pv (pS (bH y)),[]⟩,⟨4,4,none,none,.ptr,32,3,true,pv (aD 0),[]⟩]) (G2:=[⟨none,none,7,aY (x.num.natAbs*y.den)⟩,⟨none,none,8,aY (y.num.natAbs*x.den)⟩,⟨none,none,5,aY (x.den*y.den)⟩,⟨none,none,26,pB ((decide (x.num<0))==(decide (y.num<0)))⟩]) hI rfl rfl rfl [0,1,3,7,15,31] (by kernel_rfl) (by kernel_rfl) ?_ [0,1,2] [0,1,2,6] rfl rfl λa w hI=>?_
 ·exact⟨aX 0 rfl rfl rfl 0 rfl rfl rfl rfl (.inl ⟨rfl,rfl⟩) rfl (by kernel_rfl) (λb w=>je b 0 w),cj 0 rfl 0 rfl rfl rfl rfl rfl trivial rfl rfl (by kernel_rfl) gV rfl rfl (fu (fs:=(bH x)) 0 (f:=⟨false,1,pB (decide (x.num<0))⟩) rfl (off:=0) rfl) (.here 3 rfl),aX 1 rfl rfl rfl 1 rfl rfl rfl rfl (.inl ⟨rfl,rfl⟩) rfl (by kernel_rfl) (λb w=>je b 0 w),cj 1 rfl 1 rfl rfl rfl rfl rfl trivial rfl rfl (by kernel_rfl) gV rfl rfl (fu (fs:=(bH y)) 0 (f:=⟨false,1,pB (decide (y.num<0))⟩) rfl (off:=0) rfl) (.here 4 rfl),rD (v:=.bool ((decide (x.num<0))==(decide (y.num<0)))) (.tmp 3 rfl rfl) (.tmp 4 rfl rfl) (λ_=>by kernel_rfl) (.here 5 rfl),dJ (.tmp 5 rfl rfl) (.here 6 rfl),trivial⟩
 refine gR hI 3 rfl (λht=>?_) (λht=>?_)
 ·have t1:=ht
  refine eP (V1:=[⟨2,2,none,none,.ptr,32,3,true,pv (pS (bH x)),[]⟩,⟨3,3,none,none,.ptr,32,3,true,pv (pS (bH y)),[]⟩,⟨4,4,none,none,.ptr,32,3,true,pv (aD 0),[(7,pv (aD (dm (decide (x.num<0)) ((x.num.natAbs*y.den)+(y.num.natAbs*x.den)) (x.den*y.den))))]⟩]) (A1:=[⟨some 0,32,2,0,True⟩]) (G1:=[⟨none,none,7,aY (x.num.natAbs*y.den)⟩,⟨none,none,8,aY (y.num.natAbs*x.den)⟩,⟨none,none,5,aY (x.den*y.den)⟩,⟨none,none,26,pB ((decide (x.num<0))==(decide (y.num<0)))⟩,⟨some 1,none,33,pB (decide (x.num<0))⟩,⟨some 2,none,34,aY (x.num.natAbs*y.den)⟩,⟨some 3,none,35,aY (y.num.natAbs*x.den)⟩,⟨some 4,none,36,aY ((x.num.natAbs*y.den)+(y.num.natAbs*x.den))⟩,⟨some 5,none,37,aY (x.den*y.den)⟩,⟨some 6,none,38,aD (dm (decide (x.num<0)) ((x.num.natAbs*y.den)+(y.num.natAbs*x.den)) (x.den*y.den))⟩]) (V2:=[⟨2,2,none,none,.ptr,32,3,true,pv (pS (bH x)),[]⟩,⟨3,3,none,none,.ptr,32,3,true,pv (pS (bH y)),[]⟩,⟨4,4,none,none,.ptr,32,3,true,pv (aD (dm (decide (x.num<0)) ((x.num.natAbs*y.den)+(y.num.natAbs*x.den)) (x.den*y.den))),[]⟩]) (G2:=[⟨none,none,7,aY (x.num.natAbs*y.den)⟩,⟨none,none,8,aY (y.num.natAbs*x.den)⟩,⟨none,none,5,aY (x.den*y.den)⟩]) hI rfl rfl rfl [0,1,0,0,12,0,63,127] (by kernel_rfl) (by kernel_rfl) (by kernel_rfl) (by kernel_rfl) ?_ [0,1,2] [0,1,2] rfl rfl λa w hI=>?_
  ·exact⟨aX 0 rfl rfl rfl 0 rfl rfl rfl rfl (.inl ⟨rfl,rfl⟩) rfl (by kernel_rfl) (λb w=>je b 0 w),cj 0 rfl 0 rfl rfl rfl rfl rfl trivial rfl rfl (by kernel_rfl) gV rfl rfl (fu (fs:=(bH x)) 0 (f:=⟨false,1,pB (decide (x.num<0))⟩) rfl (off:=0) rfl) (.here 4 rfl),bL (.tmp 0 rfl rfl) (.here 5 rfl),bL (.tmp 1 rfl rfl) (.here 6 rfl),cD (λ_ _=>by kernel_rfl) (eB _) (.tmp 5 rfl rfl) (.tmp 6 rfl rfl) (.here 7 rfl) (NG (((hx).1).mul hy.2) (((hy).1).mul hx.2) (by omega) (by omega)),bL (.tmp 2 rfl rfl) (.here 8 rfl),kN (λ_ _=>by kernel_rfl) (eC _) (.tmp 4 rfl rfl) (.tmp 7 rfl rfl) (.tmp 8 rfl rfl) (.here 9 rfl) (om b1 b4 hd (by omega)),bG 2 rfl rfl rfl rfl 0 rfl (by kernel_rfl) (by kernel_rfl) aK (.tmp 9 rfl rfl) (bg _),trivial⟩
  refine wp_ret ?_
  refine bT ?_
  refine aO ?_
  exact dD hI rfl (.imp (.cell 2 rfl rfl rfl rfl aK rfl) (uA (add_same x y (beq_iff_eq.1 t1)).symm))
 ·have t2:=ht
  refine jv (V1:=[⟨2,2,none,none,.ptr,32,3,true,pv (pS (bH x)),[]⟩,⟨3,3,none,none,.ptr,32,3,true,pv (pS (bH y)),[]⟩,⟨4,4,none,none,.ptr,32,3,true,pv (aD 0),[]⟩]) (A1:=[]) (G1:=[⟨none,none,7,aY (x.num.natAbs*y.den)⟩,⟨none,none,8,aY (y.num.natAbs*x.den)⟩,⟨none,none,5,aY (x.den*y.den)⟩,⟨none,none,26,pB ((decide (x.num<0))==(decide (y.num<0)))⟩,⟨some 0,none,40,aY (x.num.natAbs*y.den)⟩,⟨some 1,none,41,aY (y.num.natAbs*x.den)⟩,⟨some 2,none,42,pI (bp (x.num.natAbs*y.den) (y.num.natAbs*x.den))⟩,⟨some 3,none,43,pB (decide ((bp (x.num.natAbs*y.den) (y.num.natAbs*x.den))>=(0:Int)))⟩,⟨some 4,none,39,pB (decide ((bp (x.num.natAbs*y.den) (y.num.natAbs*x.den))>=(0:Int)))⟩]) (V2:=[⟨2,2,none,none,.ptr,32,3,true,pv (pS (bH x)),[]⟩,⟨3,3,none,none,.ptr,32,3,true,pv (pS (bH y)),[]⟩,⟨4,4,none,none,.ptr,32,3,true,pv (aD 0),[]⟩]) (G2:=[⟨none,none,7,aY (x.num.natAbs*y.den)⟩,⟨none,none,8,aY (y.num.natAbs*x.den)⟩,⟨none,none,5,aY (x.den*y.den)⟩,⟨none,none,39,pB (decide ((bp (x.num.natAbs*y.den) (y.num.natAbs*x.den))>=(0:Int)))⟩]) hI rfl rfl rfl [0,1,3,7,15] (by kernel_rfl) (by kernel_rfl) ?_ [0,1,2] [0,1,2,8] rfl rfl λa w hI=>?_
  ·exact⟨bL (.tmp 0 rfl rfl) (.here 4 rfl),bL (.tmp 1 rfl rfl) (.here 5 rfl),cD (λ_ _=>by kernel_rfl) (bu _) (.tmp 4 rfl rfl) (.tmp 5 rfl rfl) (.here 6 rfl) (NF _ _),fA (v:=.bool (decide ((bp (x.num.natAbs*y.den) (y.num.natAbs*x.den))>=(0:Int)))) (.tmp 6 rfl rfl) (.const _) (λ_=>rfl) (.here 7 rfl),dJ (.tmp 7 rfl rfl) (.here 8 rfl),trivial⟩
  refine gR hI 3 rfl (λht=>?_) (λht=>?_)
  ·have t3:=of_decide_eq_true ht
   refine eP (V1:=[⟨2,2,none,none,.ptr,32,3,true,pv (pS (bH x)),[]⟩,⟨3,3,none,none,.ptr,32,3,true,pv (pS (bH y)),[]⟩,⟨4,4,none,none,.ptr,32,3,true,pv (aD 0),[(7,pv (aD (dm (decide (x.num<0)) ((x.num.natAbs*y.den)-(y.num.natAbs*x.den)) (x.den*y.den))))]⟩]) (A1:=[⟨some 0,44,2,0,True⟩]) (G1:=[⟨none,none,7,aY (x.num.natAbs*y.den)⟩,⟨none,none,8,aY (y.num.natAbs*x.den)⟩,⟨none,none,5,aY (x.den*y.den)⟩,⟨none,none,39,pB (decide ((bp (x.num.natAbs*y.den) (y.num.natAbs*x.den))>=(0:Int)))⟩,⟨some 1,none,45,pB (decide (x.num<0))⟩,⟨some 2,none,46,aY (x.num.natAbs*y.den)⟩,⟨some 3,none,47,aY (y.num.natAbs*x.den)⟩,⟨some 4,none,48,aY ((x.num.natAbs*y.den)-(y.num.natAbs*x.den))⟩,⟨some 5,none,49,aY (x.den*y.den)⟩,⟨some 6,none,50,aD (dm (decide (x.num<0)) ((x.num.natAbs*y.den)-(y.num.natAbs*x.den)) (x.den*y.den))⟩]) (V2:=[⟨2,2,none,none,.ptr,32,3,true,pv (pS (bH x)),[]⟩,⟨3,3,none,none,.ptr,32,3,true,pv (pS (bH y)),[]⟩,⟨4,4,none,none,.ptr,32,3,true,pv (aD (dm (decide (x.num<0)) ((x.num.natAbs*y.den)-(y.num.natAbs*x.den)) (x.den*y.den))),[]⟩]) (G2:=[⟨none,none,7,aY (x.num.natAbs*y.den)⟩,⟨none,none,8,aY (y.num.natAbs*x.den)⟩,⟨none,none,5,aY (x.den*y.den)⟩]) hI rfl rfl rfl [0,1,0,0,12,0,63,127] (by kernel_rfl) (by kernel_rfl) (by kernel_rfl) (by kernel_rfl) ?_ [0,1,2] [0,1,2] rfl rfl λa w hI=>?_
   ·exact⟨aX 0 rfl rfl rfl 0 rfl rfl rfl rfl (.inl ⟨rfl,rfl⟩) rfl (by kernel_rfl) (λb w=>je b 0 w),cj 0 rfl 0 rfl rfl rfl rfl rfl trivial rfl rfl (by kernel_rfl) gV rfl rfl (fu (fs:=(bH x)) 0 (f:=⟨false,1,pB (decide (x.num<0))⟩) rfl (off:=0) rfl) (.here 4 rfl),bL (.tmp 0 rfl rfl) (.here 5 rfl),bL (.tmp 1 rfl rfl) (.here 6 rfl),cD (λ_ _=>by kernel_rfl) (eB _) (.tmp 5 rfl rfl) (.tmp 6 rfl rfl) (.here 7 rfl) (zD (Dr t3) (((hx).1).mul hy.2) (by omega)),bL (.tmp 2 rfl rfl) (.here 8 rfl),kN (λ_ _=>by kernel_rfl) (eC _) (.tmp 4 rfl rfl) (.tmp 7 rfl rfl) (.tmp 8 rfl rfl) (.here 9 rfl) (om b2 b4 hd (by omega)),bG 2 rfl rfl rfl rfl 0 rfl (by kernel_rfl) (by kernel_rfl) aK (.tmp 9 rfl rfl) (bg _),trivial⟩
   refine wp_ret ?_
   refine bT ?_
   refine aO ?_
   exact dD hI rfl (.imp (.cell 2 rfl rfl rfl rfl aK rfl) (uA (BH x y (beq_eq_false_iff_ne.1 t2) (Dr t3)).symm))
  ·have t4:=of_decide_eq_false ht
   refine wp_skip ?_
   refine bz ?_
   refine af ?_
   refine eP (V1:=[⟨2,2,none,none,.ptr,32,3,true,pv (pS (bH x)),[]⟩,⟨3,3,none,none,.ptr,32,3,true,pv (pS (bH y)),[]⟩,⟨4,4,none,none,.ptr,32,3,true,pv (aD 0),[(7,pv (aD (dm (decide (y.num<0)) ((y.num.natAbs*x.den)-(x.num.natAbs*y.den)) (x.den*y.den))))]⟩]) (A1:=[⟨some 0,51,3,0,True⟩]) (G1:=[⟨none,none,7,aY (x.num.natAbs*y.den)⟩,⟨none,none,8,aY (y.num.natAbs*x.den)⟩,⟨none,none,5,aY (x.den*y.den)⟩,⟨none,none,39,pB (decide ((bp (x.num.natAbs*y.den) (y.num.natAbs*x.den))>=(0:Int)))⟩,⟨some 1,none,52,pB (decide (y.num<0))⟩,⟨some 2,none,53,aY (y.num.natAbs*x.den)⟩,⟨some 3,none,54,aY (x.num.natAbs*y.den)⟩,⟨some 4,none,55,aY ((y.num.natAbs*x.den)-(x.num.natAbs*y.den))⟩,⟨some 5,none,56,aY (x.den*y.den)⟩,⟨some 6,none,57,aD (dm (decide (y.num<0)) ((y.num.natAbs*x.den)-(x.num.natAbs*y.den)) (x.den*y.den))⟩]) (V2:=[⟨2,2,none,none,.ptr,32,3,true,pv (pS (bH x)),[]⟩,⟨3,3,none,none,.ptr,32,3,true,pv (pS (bH y)),[]⟩,⟨4,4,none,none,.ptr,32,3,true,pv (aD (dm (decide (y.num<0)) ((y.num.natAbs*x.den)-(x.num.natAbs*y.den)) (x.den*y.den))),[]⟩]) (G2:=[]) hI rfl rfl rfl [0,1,0,0,12,0,63,127] (by kernel_rfl) (by kernel_rfl) (by kernel_rfl) (by kernel_rfl) ?_ [0,1,2] [] rfl rfl λa w hI=>?_
   ·exact⟨aX 1 rfl rfl rfl 0 rfl rfl rfl rfl (.inl ⟨rfl,rfl⟩) rfl (by kernel_rfl) (λb w=>je b 0 w),cj 1 rfl 0 rfl rfl rfl rfl rfl trivial rfl rfl (by kernel_rfl) gV rfl rfl (fu (fs:=(bH y)) 0 (f:=⟨false,1,pB (decide (y.num<0))⟩) rfl (off:=0) rfl) (.here 4 rfl),bL (.tmp 1 rfl rfl) (.here 5 rfl),bL (.tmp 0 rfl rfl) (.here 6 rfl),cD (λ_ _=>by kernel_rfl) (eB _) (.tmp 5 rfl rfl) (.tmp 6 rfl rfl) (.here 7 rfl) (zD (tq t4) (((hy).1).mul hx.2) (by omega)),bL (.tmp 2 rfl rfl) (.here 8 rfl),kN (λ_ _=>by kernel_rfl) (eC _) (.tmp 4 rfl rfl) (.tmp 7 rfl rfl) (.tmp 8 rfl rfl) (.here 9 rfl) (om b3 b4 hd (by omega)),bG 2 rfl rfl rfl rfl 0 rfl (by kernel_rfl) (by kernel_rfl) aK (.tmp 9 rfl rfl) (bg _),trivial⟩
   refine wp_ret ?_
   exact dD hI rfl (.imp (.cell 2 rfl rfl rfl rfl aK rfl) (uA (BI x y (beq_eq_false_iff_ne.1 t2) (tq t4)).symm))
theorem Kg (w:World) (vx vy:Value) (x y:Rat) (hx:cm w vx x) (hy:cm w vy y) {j k:Nat} (hj:bB j x) (hk:bB k y) (vv:j+k+j+k+1<=100000000):Calls Tryz.prog 32 #[vx,vy] w (kZ w (x+y)):=
 (NC hj hk vv (λ_ _=>False) w vx vy (kK w) (eC x _ w vx (kK w) hx) (eC y _ w vy (kK w) hy)).mono λ_ _ h=>h.ret
end Wx
