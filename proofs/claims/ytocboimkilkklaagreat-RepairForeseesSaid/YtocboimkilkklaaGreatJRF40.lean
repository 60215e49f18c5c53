import Derived.Test.YtocboimkilkklaaGreatJRF39
import Derived.Test.YtocboimkilkklaaGreatJRF38
namespace Wx
open Go Go.RowKit Go.Proofs
theorem bq.drew' {k:IntKind} {b:Nat} {w:World} {v:Value} {n:Nat} (h:bq k b w v n):bq k b w.drew v n:=h
end Wx

namespace Wx
set_option maxRecDepth 100000
open Go Go.RowKit Go.Proofs
set_option maxHeartbeats 2000000 in
theorem Jr (w:World) (vx vy:Value) (x y:Rat) (hx:cH w vx x) (hy:cH w vy y) {j k:Nat} (hj:bg j x) (hk:bg k y) (kP:j+k+j+k+1<=10000000):Calls Tryz.prog 149 #[vx,vy] w (eD w (x-y)):=by
 obtain⟨oz,oA,rfl,cw,cT⟩:=id hx
 obtain⟨aV,aX,rfl,_⟩:=id cw
 obtain⟨aW,aY,rfl,_⟩:=id cT
 obtain⟨Kj,Kk,rfl,iS,iJ⟩:=id hy
 obtain⟨dL,dN,rfl,_⟩:=id iS
 obtain⟨dM,dO,rfl,_⟩:=id iJ
 have hx0:=hx
 have hy0:=hy
 clear hx hy cw cT iS iJ
 have HB:=bx (And.intro hj hk.neg)
 have HQ:=bx (Rat.sub_eq_add_neg x y)
 clear hj hk
 go_enter Tryz.func149,Tryz.ntmps149
 go_wp2_with fail
 obtain⟨w1,e1,o1,b1,s1⟩:=dy w [.bool (decide (x.num<0)),.slice aV (ae af x.num.natAbs).length aX,.slice aW (ae af x.den).length aY] 38
 obtain⟨w2,e2,o2,b2,s2⟩:=dy w1 [.bool (decide (y.num<0)),.slice dL (ae af y.num.natAbs).length dN,.slice dM (ae af y.den).length dO] 38
 obtain⟨w3,e3,o3,b3,s3⟩:=dy w2 [.bool false,.slice none 0 0,.slice none 0 0] 38
 rw[e1,e2,e3]
 rw[s1]at o2
 rw[s2,s1]at o3
 have p1:=((o1.gone b2).gone b3)
 have p2:=(o2.gone b3)
 have p3:=o3
 have B0:=((b1.trans (b2.mono b1.size)).trans (b3.mono (b1.trans (b2.mono b1.size)).size))
 have hS:∀w',aC w (w.heap.size+2) 3 38 [(w.heap.size,[.bool (decide (x.num<0)),.slice aV (ae af x.num.natAbs).length aX,.slice aW (ae af x.den).length aY],38),(w.heap.size+1,[.bool (decide (y.num<0)),.slice dL (ae af y.num.natAbs).length dN,.slice dM (ae af y.den).length dO],38)] w'->aC w (w.heap.size+2) 3 38 [(w.heap.size,[.bool (decide (x.num<0)),.slice aV (ae af x.num.natAbs).length aX,.slice aW (ae af x.den).length aY],38),(w.heap.size+1,[.bool (decide (y.num<0)),.slice dL (ae af y.num.natAbs).length dN,.slice dM (ae af y.den).length dO],38)] w'/\w'.cell? ⟨w.heap.size,0,none⟩=some (.bool (decide (x.num<0)))/\w'.cell? ⟨w.heap.size,1,none⟩=some (.slice aV (ae af x.num.natAbs).length aX)/\w'.cell? ⟨w.heap.size,2,none⟩=some (.slice aW (ae af x.den).length aY)/\w'.cell? ⟨w.heap.size+1,0,none⟩=some (.bool (decide (y.num<0)))/\w'.cell? ⟨w.heap.size+1,1,none⟩=some (.slice dL (ae af y.num.natAbs).length dN)/\w'.cell? ⟨w.heap.size+1,2,none⟩=some (.slice dM (ae af y.den).length dO)/\w'.cell? ⟨w.heap.size+2,0,none⟩=some (cv w' ⟨w.heap.size+2,0,none⟩)/\w'.cell? ⟨w.heap.size+2,1,none⟩=some (cv w' ⟨w.heap.size+2,1,none⟩)/\w'.cell? ⟨w.heap.size+2,2,none⟩=some (cv w' ⟨w.heap.size+2,2,none⟩)/\w'.frozen? ⟨w.heap.size+2,0,none⟩=false/\w'.frozen? ⟨w.heap.size+2,1,none⟩=false/\w'.frozen? ⟨w.heap.size+2,2,none⟩=false:=λw' hh=>by
  have r1:=hh.par (p:=(w.heap.size,[.bool (decide (x.num<0)),.slice aV (ae af x.num.natAbs).length aX,.slice aW (ae af x.den).length aY],38)) (by simp)
  have r2:=hh.par (p:=(w.heap.size+1,[.bool (decide (y.num<0)),.slice dL (ae af y.num.natAbs).length dN,.slice dM (ae af y.den).length dO],38)) (by simp)
  exact⟨hh,r1.cell (i:=0) rfl,r1.cell (i:=1) rfl,r1.cell (i:=2) rfl,r2.cell (i:=0) rfl,r2.cell (i:=1) rfl,r2.cell (i:=2) rfl,hh.dH (i:=0) (by omega),hh.dH (i:=1) (by omega),hh.dH (i:=2) (by omega),hh.ou 0,hh.ou 1,hh.ou 2⟩
 have hz:aC w (w.heap.size+2) 3 38 [(w.heap.size,[.bool (decide (x.num<0)),.slice aV (ae af x.num.natAbs).length aX,.slice aW (ae af x.den).length aY],38),(w.heap.size+1,[.bool (decide (y.num<0)),.slice dL (ae af y.num.natAbs).length dN,.slice dM (ae af y.den).length dO],38)] w3:=⟨B0,by omega,by intro q hq; simp at hq; rcases hq with rfl|rfl; exact⟨by simp,p1⟩; exact⟨by simp,p2⟩,_,rfl,p3,bP⟩
 clear e1 e2 e3 o1 b1 s1 p1 o2 b2 s2 p2 o3 b3 s3 p3
 clear B0
 have hz:=hz.drew
 go_region_held3 (λw'=>aC w (w.heap.size+2) 3 38 [(w.heap.size,[.bool (decide (x.num<0)),.slice aV (ae af x.num.natAbs).length aX,.slice aW (ae af x.den).length aY],38),(w.heap.size+1,[.bool (decide (y.num<0)),.slice dL (ae af y.num.natAbs).length dN,.slice dM (ae af y.den).length dO],38)] w'/\w'.cell? ⟨w.heap.size,0,none⟩=some (.bool (decide (x.num<0)))/\w'.cell? ⟨w.heap.size,1,none⟩=some (.slice aV (ae af x.num.natAbs).length aX)/\w'.cell? ⟨w.heap.size,2,none⟩=some (.slice aW (ae af x.den).length aY)/\w'.cell? ⟨w.heap.size+1,0,none⟩=some (.bool (decide (y.num<0)))/\w'.cell? ⟨w.heap.size+1,1,none⟩=some (.slice dL (ae af y.num.natAbs).length dN)/\w'.cell? ⟨w.heap.size+1,2,none⟩=some (.slice dM (ae af y.den).length dO)/\w'.cell? ⟨w.heap.size+2,0,none⟩=some (cv w' ⟨w.heap.size+2,0,none⟩)/\w'.cell? ⟨w.heap.size+2,1,none⟩=some (cv w' ⟨w.heap.size+2,1,none⟩)/\w'.cell? ⟨w.heap.size+2,2,none⟩=some (cv w' ⟨w.heap.size+2,2,none⟩)/\w'.frozen? ⟨w.heap.size+2,0,none⟩=false/\w'.frozen? ⟨w.heap.size+2,1,none⟩=false/\w'.frozen? ⟨w.heap.size+2,2,none⟩=false)
  (first|exact hS _ hz|exact hS _ (aC.nt hz))
  (first
   |(go_at_call 129; (with_reducible refine Calls.mono (uC _ _ y (hy0.below hz.b)) ?_); rintro e wz ⟨vn,rfl,hn,hb⟩; have hz:=aC.call (And.intro hz trivial) hb)
   |(go_at_call 38; (with_reducible refine Calls.mono (AX _ _ _ x (-y) (hx0.below hz.b) hn HB.out.1 HB.out.2 kP) ?_); rintro e wz ⟨vr,rfl,hr,hb⟩; have hz:=aC.call (And.intro hz trivial) hb; rw[<-HQ.out]at hr; obtain⟨Ki,EN,rfl,uh,hrb⟩:=id hr; obtain⟨mo,my,rfl,_⟩:=id uh; obtain⟨mw,mz,rfl,_⟩:=id hrb))
 all_goals (
  go_wp2
  obtain⟨wf,HW,ho,hB,hN⟩:=hz.fin [.bool (decide ((x-y).num<0)),.slice mo (ae af (x-y).num.natAbs).length my,.slice mw (ae af (x-y).den).length mz] rfl bP
  simp only[ct,Nat.reduceAdd]at HW
  (try rw[HW])
  (try simp only[Exit.inBlock,Exit.then])
  have f0:=ho.cell (i:=0) rfl
  have f1:=ho.cell (i:=1) rfl
  have f2:=ho.cell (i:=2) rfl
  refine bodyPost_ret (by simp[results,Tryz.results149,go_sem,f0,f1,f2]; try rfl) rfl ?_
  exact⟨_,rfl,hr.into hN,hB⟩)
end Wx

namespace Wx
set_option maxRecDepth 100000
set_option maxHeartbeats 1000000
open Go Go.RowKit Go.Proofs
theorem Mm (x y:Rat):dS (x-y)=fR x y:=by rw[tg]; exact HO x y
theorem Ji (w:World) (vx vy:Value) (x y:Rat) (hx:cH w vx x) (hy:cH w vy y) {j k:Nat} (hj:bg j x) (hk:bg k y) (kP:j+k+j+k+1<=10000000):Calls Tryz.prog 119 #[vx,vy] w (dY w (.int .i64 (fR x y))):=by
 obtain⟨oz,oA,rfl,cw,cT⟩:=id hx
 obtain⟨aV,aX,rfl,_⟩:=id cw
 obtain⟨aW,aY,rfl,_⟩:=id cT
 obtain⟨Kj,Kk,rfl,iS,iJ⟩:=id hy
 obtain⟨dL,dN,rfl,_⟩:=id iS
 obtain⟨dM,dO,rfl,_⟩:=id iJ
 have hx0:=hx
 have hy0:=hy
 clear hx hy cw cT iS iJ
 have HB:=bx (And.intro hj hk)
 clear hj hk
 go_enter Tryz.func119,Tryz.ntmps119
 go_wp2_with fail
 obtain⟨w1,e1,oX,b1,s1⟩:=dy w [.bool (decide (x.num<0)),.slice aV (ae af x.num.natAbs).length aX,.slice aW (ae af x.den).length aY] 38
 rw[e1]
 clear e1
 replace hx0:=hx0.below b1
 replace hy0:=hy0.below b1
 have B:=b1
 clear b1
 obtain⟨w2,e2,oY,b2,s2⟩:=dy w1 [.bool (decide (y.num<0)),.slice dL (ae af y.num.natAbs).length dN,.slice dM (ae af y.den).length dO] 38
 rw[e2]
 rw[s1]at oY
 clear e2
 replace hx0:=hx0.below b2
 replace hy0:=hy0.below b2
 replace oX:=oX.gone b2
 replace B:=B.trans (b2.mono B.size)
 clear b2
 refine Calls.mono (Jr _ _ _ x y hx0 hy0 HB.out.1 HB.out.2 kP) ?_
 rintro e w3 ⟨vr,rfl,hr,b3⟩
 replace hx0:=hx0.below b3
 replace hy0:=hy0.below b3
 replace oX:=oX.gone b3
 replace oY:=oY.gone b3
 replace B:=B.trans (b3.mono B.size)
 clear b3
 go_wp2_with fail
 have hc:=xE _ _ (x-y) hr
 rw[Mm]at hc
 refine Calls.mono (hc) ?_
 rintro e w4 ⟨rfl,b4⟩
 replace hx0:=hx0.below b4
 replace hy0:=hy0.below b4
 replace oX:=oX.gone b4
 replace oY:=oY.gone b4
 replace hr:=hr.below b4
 replace B:=B.trans (b4.mono B.size)
 clear b4
 clear hc
 go_wp2
 go_ret
 exact⟨rfl,B⟩
end Wx

namespace Wx
set_option maxRecDepth 100000
set_option maxHeartbeats 1000000
open Go Go.RowKit Go.Proofs
theorem DM {d:Nat} (h:d<10):(⟨#[48,49,50,51,52,53,54,55,56,57]⟩:ByteArray).extract d (d+1)=strOf [d+48]:=by
 match d,h with
 |0,_=>rfl
 |1,_=>rfl
 |2,_=>rfl
 |3,_=>rfl
 |4,_=>rfl
 |5,_=>rfl
 |6,_=>rfl
 |7,_=>rfl
 |8,_=>rfl
 |9,_=>rfl
 |n+10,h=>exact absurd h (by omega)
theorem Ad {X S:List Nat} {x k r:Nat} (hk:k<9) (h:X=bZ (x*10^(9-k)+r)++S) (h0:0<x*10^(9-k)+r):
  X=bZ (x*10^(9-(k+1))+r/10)++((r%10+48)::S):=by
 obtain⟨e1,e2⟩:=Ia (A:=x) (r:=r) (k:=9-k) (by omega)
 rw[h,mH h0,e1,e2,show 9-(k+1)=9-k-1 by omega,List.append_assoc]
 rfl
theorem gG (w:World) (v:Value) (n:Nat) (h:bq .u32 af w v n) {j:Nat} (hj:Bd j n) (de:j<=100000000):Calls Tryz.prog 82 #[v] w (dY w (.string (strOf (aP n)))):=by
 rcases Nat.eq_zero_or_pos n with rfl|zy
 ·obtain⟨A,c,rfl,hr⟩:=id h
  rw[bE,vL]
  go_enter Tryz.func82,Tryz.ntmps82
  go_wp2
  go_ret
  exact⟨rfl,Below.refl _ _⟩
 ·rw[xU zy]
  obtain⟨A,c,rfl,hr⟩:=id h
  have qO:(((ae af n).length:Int)==0)=false:=beq_eq_false_iff_ne.2 (by have:=(az (n:=n) ak).2 zy; omega)
  have HL:=bx (show(bZ n).length<=100000000 from Nat.le_trans (yy hj) de)
  generalize (ae af n).length=L at *
  obtain⟨X,hX⟩:∃X,bZ n=X:=⟨_,rfl⟩
  rw[hX]at HL ⊢
  have HX:=bx hX
  have HJ:=bx hj
  clear hX hj hr
  go_enter Tryz.func82,Tryz.ntmps82
  go_wp2_with fail
  go_loopw [0,3] (λs0 s3 wr=>∃(x:Nat) (S:List Nat),bq .u32 af wr s0 x/\s3=.string (strOf S)/\Bx (X=bZ x++S)/\Bx (Bd j x)/\Below w.heap.size w wr) (λs0 _ wr=>sY wr s0)
  case atStart=>exact⟨n,[],h,rfl,bx (by rw[HX.out,List.append_nil]),HJ,Below.refl _ _⟩
  case round=>
   clear h HJ
   obtain⟨x,S,hx,rfl,HS,HJ,hb⟩:=hrel
   rcases Nat.eq_zero_or_pos x with rfl|hx0
   ·obtain⟨A,c,rfl,hr⟩:=id hx
    rw[bE]at hr ⊢
    have e:=HS.out
    rw[je,List.nil_append]at e
    have E:=bx e
    clear e
    go_wp2
    go_ret
    rw[E.out]
    exact⟨rfl,hb⟩
   ·obtain⟨A,c,rfl,hr⟩:=id hx
    have hl2:(0:Int)<((ae af x).length:Int):=by have:=(az (n:=x) ak).2 hx0; omega
    have hlen:=hr.len
    have XZ:=bx hx0
    generalize (ae af x).length=L2 at *
    clear hr hx0
    go_wp2_with fail
    refine Calls.mono (rJ wr _ x 1000000000 hx HJ.out (by omega) (by omega) (by unfold af; omega)) ?_
    rintro e w2 ⟨vq,rfl,hq,hb2⟩
    have hb3:=hb.trans (hb2.mono hb.size)
    have HR:=bx (show x%1000000000<10^9 from Nat.mod_lt _ (by omega))
    have HD:=bx (show x/1000000000*10^9+x%1000000000=x from by have:=Nat.div_add_mod x 1000000000; omega)
    have HQ:=bx (show Bd j (x/1000000000)from HJ.out.le (Nat.div_le_self _ _))
    have HM:=bx (show x/1000000000<x from Nat.div_lt_self XZ.out (by omega))
    have Wn:=bx hx
    clear hx
    generalize x/1000000000=y at *
    generalize x%1000000000=r0 at *
    obtain⟨A2,c2,rfl,hr2⟩:=id hq
    have Xa:=hr2.len
    clear hr2
    go_wp2_with fail
    obtain⟨wo,rfl⟩:∃wo:World,wo=w2:=⟨_,rfl⟩
    go_loop [3,5,6] (λs3 s5 s6=>∃(k r:Nat) (T:List Nat),k<=9/\s6=.int .i64 (k:Int)/\s5=.int .u32 (r:Int)/\s3=.string (strOf T)/\Bx (r<10^(9-k))/\Bx (X=bZ (y*10^(9-k)+r)++T)) (λ_ _ s6=>9-(RowKit.intOf s6).toNat)
    case atStart=>exact⟨0,r0,S,by omega,rfl,rfl,rfl,HR,bx (by rw[Nat.sub_zero,HD.out]; exact HS.out)⟩
    case round=>
     clear HS HR HD
     obtain⟨k,r,T,hk,rfl,rfl,rfl,HR,HT⟩:=hrel
     by_cases W9:k<9
     ·rcases Nat.eq_zero_or_pos y with rfl|hy0
      ·rw[bE]at *
       rcases Nat.eq_zero_or_pos r with rfl|Nc
       ·have RF:(k:Int)<9:=by omega
        go_wp2
        go_roundw
        case rel=>exact⟨0,T,hq,rfl,bx (by rw[HT.out]; simp),HQ,hb3⟩
        case measure=>rw[bq.nW Wn.out,bq.nW hq]; exact HM.out
       ·have Zh:(0:Int)<(r:Int):=by omega
        have hT:=Ad W9 HT.out (by omega)
        have YA:T.length<=100000000:=by have h1:=HL.out; have h2:=congrArg List.length HT.out; rw[List.length_append]at h2; omega
        have PX:=bx hT
        have hz:=bj T
        have hc:=DM (d:=r%10) (by omega)
        have HC:=bx hc
        have hap:=cO [r%10+48] T
        have Th:=bx hap
        have OS:(0:Int)<=(r:Int)%10:=by omega
        have U8:(r:Int)%10<=9:=by omega
        have pZ:(r:Int)<=4294967295:=by have h1:=HR.out; have h2:10^(9-k)<=10^9:=Nat.pow_le_pow_right (by omega) (by omega); omega
        have MC:=bx (xQ (by omega) HR.out)
        have RF:(k:Int)<9:=by omega
        clear hT hc hap
        go_wp2
        rw[HC.out,Th.out]
        go_round
        case rel=>exact⟨k+1,r/10,(r%10+48)::T,by omega,by go_num,by go_num,rfl,bx (by have:=MC.out; rwa [show 9-(k+1)=9-k-1 by omega]),PX⟩
        case measure=>simp[RowKit.intOf]; omega
      ·have hl3:(0:Int)<((ae af y).length:Int):=by have:=(az (n:=y) ak).2 hy0; omega
       generalize (ae af y).length=L3 at *
       have hT:=Ad W9 HT.out (by have:=Nat.mul_pos hy0 (Nat.pow_pos (n:=9-k) (show 0<10 by omega)); omega)
       have YA:T.length<=100000000:=by have h1:=HL.out; have h2:=congrArg List.length HT.out; rw[List.length_append]at h2; omega
       have PX:=bx hT
       have hz:=bj T
       have hc:=DM (d:=r%10) (by omega)
       have HC:=bx hc
       have hap:=cO [r%10+48] T
       have Th:=bx hap
       have OS:(0:Int)<=(r:Int)%10:=by omega
       have U8:(r:Int)%10<=9:=by omega
       have pZ:(r:Int)<=4294967295:=by have h1:=HR.out; have h2:10^(9-k)<=10^9:=Nat.pow_le_pow_right (by omega) (by omega); omega
       have MC:=bx (xQ (by omega) HR.out)
       have RF:(k:Int)<9:=by omega
       clear hT hc hap
       go_wp2
       rw[HC.out,Th.out]
       go_round
       case rel=>exact⟨k+1,r/10,(r%10+48)::T,by omega,by go_num,by go_num,rfl,bx (by have:=MC.out; rwa [show 9-(k+1)=9-k-1 by omega]),PX⟩
       case measure=>simp[RowKit.intOf]; omega
     ·obtain rfl:k=9:=by omega
      have Nc:r=0:=by have:=HR.out; simpa using this
      subst Nc
      go_wp2
      go_roundw
      case rel=>exact⟨y,T,hq,rfl,bx (by rw[HT.out]; simp),HQ,hb3⟩
      case measure=>rw[bq.nW Wn.out,bq.nW hq]; exact HM.out
end Wx

namespace Wx
set_option maxRecDepth 100000
set_option maxHeartbeats 1000000
open Go Go.RowKit Go.Proofs
theorem Jt (w:World) (v:Value) (x:Rat) (hx:cH w v x) {j:Nat} (hj:bg j x) (de:j<=100000000) (hn:¬x.num<0) (hd:¬x.den=1):Calls Tryz.prog 43 #[v] w (dY w (.string (strOf (eK x)))):=by
 obtain⟨oz,oA,rfl,cw,cT⟩:=id hx
 obtain⟨aV,aX,rfl,_⟩:=id cw
 obtain⟨aW,aY,rfl,_⟩:=id cT
 have HB:=bx hj
 have hx0:=hx
 clear hx
 have hT:eK x=aP x.num.natAbs++47::aP x.den:=by unfold eK; rw[if_neg hn,if_neg hd]; simp
 rw[hT]
 rw[decide_eq_false hn]at hx0
 try rw[decide_eq_false hn]
 have hc:bK x.den 1=1:=by unfold bK; have:=x.den_pos; rw[if_neg (by omega),if_pos (by omega)]
 have HC:=bx hc
 have qO:=dD hj.1
 have hl2:=dD hj.2
 have hz1:=bj (aP x.num.natAbs)
 have hz2:=bj (aP x.den)
 have O7:strOf (aP x.num.natAbs)++(⟨#[47]⟩:ByteArray)=strOf (aP x.num.natAbs++[47]):=cO (aP x.num.natAbs) [47]
 have Zx:(strOf (aP x.num.natAbs++[47])).size=(aP x.num.natAbs).length+1:=by rw[bj]; simp
 have O8:=cO (aP x.num.natAbs++[47]) (aP x.den)
 have OZ:(aP x.num.natAbs).length+1<=9223372036854775807:=by omega
 have RS:(aP x.num.natAbs).length+1+1<=9223372036854775807:=by omega
 have KF:(aP x.num.natAbs).length+1+(aP x.den).length<=9223372036854775807:=by omega
 have Zd:(aP x.num.natAbs).length+1+1+(aP x.den).length<=9223372036854775807:=by omega
 have TD:=bx O8
 clear O8
 clear hj hn hd hT qO hl2 hc cT
 go_enter Tryz.func43,Tryz.ntmps43
 go_wp2_with fail
 obtain⟨w1,e1,oP,b1,s1⟩:=dy w [.bool false,.slice aV (ae af x.num.natAbs).length aX,.slice aW (ae af x.den).length aY] 38
 rw[e1]
 clear e1
 replace hx0:=hx0.below b1
 replace cw:=cw.below b1
 have B:=b1
 clear b1
 refine Calls.mono (gG _ _ x.num.natAbs cw HB.out.1 de) ?_
 rintro e w2 ⟨rfl,b2⟩
 replace hx0:=hx0.below b2
 replace cw:=cw.below b2
 replace oP:=oP.gone b2
 replace B:=B.trans (b2.mono B.size)
 clear b2
 clear cw
 have k1:=oP.cell (i:=0) rfl
 have k2:=oP.cell (i:=1) rfl
 have k3:=oP.cell (i:=2) rfl
 go_wp2_with fail
 clear k1 k2 k3
 refine Calls.mono (cN _ _ x hx0) ?_
 rintro e w3 ⟨vu,rfl,hu,b3⟩
 replace hx0:=hx0.below b3
 replace oP:=oP.gone b3
 replace B:=B.trans (b3.mono B.size)
 clear b3
 go_wp2_with fail
 refine Calls.mono (dA _ 1 (by unfold b64; omega)) ?_
 rintro e w4 ⟨vo,rfl,ho,b4⟩
 replace hx0:=hx0.below b4
 replace oP:=oP.gone b4
 replace hu:=hu.below b4
 replace B:=B.trans (b4.mono B.size)
 clear b4
 go_wp2_with fail
 have hc:=fU _ _ _ x.den 1 hu ho
 rw[HC.out]at hc
 refine Calls.mono (hc) ?_
 rintro e w5 ⟨rfl,b5⟩
 replace hx0:=hx0.below b5
 replace oP:=oP.gone b5
 replace hu:=hu.below b5
 replace ho:=ho.below b5
 replace B:=B.trans (b5.mono B.size)
 clear b5
 clear hc hu ho
 have k4:=oP.cell (i:=0) rfl
 have k5:=oP.cell (i:=1) rfl
 have k6:=oP.cell (i:=2) rfl
 go_wp2_with fail
 clear k4 k5 k6
 refine Calls.mono (cN _ _ x hx0) ?_
 rintro e w6 ⟨vu,rfl,hu,b6⟩
 replace hx0:=hx0.below b6
 replace oP:=oP.gone b6
 replace B:=B.trans (b6.mono B.size)
 clear b6
 go_wp2_with fail
 refine Calls.mono (gG _ _ x.den hu HB.out.2 de) ?_
 rintro e w7 ⟨rfl,b7⟩
 replace hx0:=hx0.below b7
 replace oP:=oP.gone b7
 replace hu:=hu.below b7
 replace B:=B.trans (b7.mono B.size)
 clear b7
 go_wp2
 go_ret
 rw[TD.out]
 refine⟨?_,B⟩
 simp
theorem Ju (w:World) (v:Value) (x:Rat) (hx:cH w v x) {j:Nat} (hj:bg j x) (de:j<=100000000) (hn:¬x.num<0) (hd:x.den=1):Calls Tryz.prog 43 #[v] w (dY w (.string (strOf (eK x)))):=by
 obtain⟨oz,oA,rfl,cw,cT⟩:=id hx
 obtain⟨aV,aX,rfl,_⟩:=id cw
 obtain⟨aW,aY,rfl,_⟩:=id cT
 have HB:=bx hj
 have hx0:=hx
 clear hx
 have hT:eK x=aP x.num.natAbs:=by unfold eK; rw[if_neg hn,if_pos hd]; simp
 rw[hT]
 rw[decide_eq_false hn]at hx0
 try rw[decide_eq_false hn]
 have hc:bK x.den 1=0:=by unfold bK; have:=x.den_pos; rw[if_neg (by omega),if_neg (by omega)]
 have HC:=bx hc
 have qO:=dD hj.1
 have hl2:=dD hj.2
 have hz1:=bj (aP x.num.natAbs)
 have hz2:=bj (aP x.den)
 clear hj hn hd hT qO hl2 hc cT
 go_enter Tryz.func43,Tryz.ntmps43
 go_wp2_with fail
 obtain⟨w1,e1,oP,b1,s1⟩:=dy w [.bool false,.slice aV (ae af x.num.natAbs).length aX,.slice aW (ae af x.den).length aY] 38
 rw[e1]
 clear e1
 replace hx0:=hx0.below b1
 replace cw:=cw.below b1
 have B:=b1
 clear b1
 refine Calls.mono (gG _ _ x.num.natAbs cw HB.out.1 de) ?_
 rintro e w2 ⟨rfl,b2⟩
 replace hx0:=hx0.below b2
 replace cw:=cw.below b2
 replace oP:=oP.gone b2
 replace B:=B.trans (b2.mono B.size)
 clear b2
 clear cw
 have k1:=oP.cell (i:=0) rfl
 have k2:=oP.cell (i:=1) rfl
 have k3:=oP.cell (i:=2) rfl
 go_wp2_with fail
 clear k1 k2 k3
 refine Calls.mono (cN _ _ x hx0) ?_
 rintro e w3 ⟨vu,rfl,hu,b3⟩
 replace hx0:=hx0.below b3
 replace oP:=oP.gone b3
 replace B:=B.trans (b3.mono B.size)
 clear b3
 go_wp2_with fail
 refine Calls.mono (dA _ 1 (by unfold b64; omega)) ?_
 rintro e w4 ⟨vo,rfl,ho,b4⟩
 replace hx0:=hx0.below b4
 replace oP:=oP.gone b4
 replace hu:=hu.below b4
 replace B:=B.trans (b4.mono B.size)
 clear b4
 go_wp2_with fail
 have hc:=fU _ _ _ x.den 1 hu ho
 rw[HC.out]at hc
 refine Calls.mono (hc) ?_
 rintro e w5 ⟨rfl,b5⟩
 replace hx0:=hx0.below b5
 replace oP:=oP.gone b5
 replace hu:=hu.below b5
 replace ho:=ho.below b5
 replace B:=B.trans (b5.mono B.size)
 clear b5
 clear hc hu ho
 go_wp2
 go_ret
 exact⟨rfl,B⟩
theorem Jv (w:World) (v:Value) (x:Rat) (hx:cH w v x) {j:Nat} (hj:bg j x) (de:j<=100000000) (hn:x.num<0) (hd:¬x.den=1):Calls Tryz.prog 43 #[v] w (dY w (.string (strOf (eK x)))):=by
 obtain⟨oz,oA,rfl,cw,cT⟩:=id hx
 obtain⟨aV,aX,rfl,_⟩:=id cw
 obtain⟨aW,aY,rfl,_⟩:=id cT
 have HB:=bx hj
 have hx0:=hx
 clear hx
 have hT:eK x=45::(aP x.num.natAbs++47::aP x.den):=by unfold eK; rw[if_pos hn,if_neg hd]; simp
 rw[hT]
 rw[decide_eq_true hn]at hx0
 try rw[decide_eq_true hn]
 have hc:bK x.den 1=1:=by unfold bK; have:=x.den_pos; rw[if_neg (by omega),if_pos (by omega)]
 have HC:=bx hc
 have qO:=dD hj.1
 have hl2:=dD hj.2
 have hz1:=bj (aP x.num.natAbs)
 have hz2:=bj (aP x.den)
 have qP:=nL (aP x.num.natAbs)
 have VE:=bj (45::aP x.num.natAbs)
 have hq1:1+(aP x.num.natAbs).length<=9223372036854775807:=by omega
 have O7:strOf (45::aP x.num.natAbs)++(⟨#[47]⟩:ByteArray)=strOf (45::(aP x.num.natAbs++[47])):=cO (45::aP x.num.natAbs) [47]
 have Zx:(strOf (45::(aP x.num.natAbs++[47]))).size=(aP x.num.natAbs).length+1+1:=by rw[bj]; simp
 have O8:=cO (45::(aP x.num.natAbs++[47])) (aP x.den)
 have OZ:(aP x.num.natAbs).length+1<=9223372036854775807:=by omega
 have RS:(aP x.num.natAbs).length+1+1<=9223372036854775807:=by omega
 have KF:(aP x.num.natAbs).length+1+(aP x.den).length<=9223372036854775807:=by omega
 have Zd:(aP x.num.natAbs).length+1+1+(aP x.den).length<=9223372036854775807:=by omega
 have TD:=bx O8
 clear O8
 clear hj hn hd hT qO hl2 hc cT
 go_enter Tryz.func43,Tryz.ntmps43
 go_wp2_with fail
 obtain⟨w1,e1,oP,b1,s1⟩:=dy w [.bool true,.slice aV (ae af x.num.natAbs).length aX,.slice aW (ae af x.den).length aY] 38
 rw[e1]
 clear e1
 replace hx0:=hx0.below b1
 replace cw:=cw.below b1
 have B:=b1
 clear b1
 refine Calls.mono (gG _ _ x.num.natAbs cw HB.out.1 de) ?_
 rintro e w2 ⟨rfl,b2⟩
 replace hx0:=hx0.below b2
 replace cw:=cw.below b2
 replace oP:=oP.gone b2
 replace B:=B.trans (b2.mono B.size)
 clear b2
 clear cw
 have k1:=oP.cell (i:=0) rfl
 have k2:=oP.cell (i:=1) rfl
 have k3:=oP.cell (i:=2) rfl
 go_wp2_with fail
 clear k1 k2 k3
 refine Calls.mono (cN _ _ x hx0) ?_
 rintro e w3 ⟨vu,rfl,hu,b3⟩
 replace hx0:=hx0.below b3
 replace oP:=oP.gone b3
 replace B:=B.trans (b3.mono B.size)
 clear b3
 go_wp2_with fail
 refine Calls.mono (dA _ 1 (by unfold b64; omega)) ?_
 rintro e w4 ⟨vo,rfl,ho,b4⟩
 replace hx0:=hx0.below b4
 replace oP:=oP.gone b4
 replace hu:=hu.below b4
 replace B:=B.trans (b4.mono B.size)
 clear b4
 go_wp2_with fail
 have hc:=fU _ _ _ x.den 1 hu ho
 rw[HC.out]at hc
 refine Calls.mono (hc) ?_
 rintro e w5 ⟨rfl,b5⟩
 replace hx0:=hx0.below b5
 replace oP:=oP.gone b5
 replace hu:=hu.below b5
 replace ho:=ho.below b5
 replace B:=B.trans (b5.mono B.size)
 clear b5
 clear hc hu ho
 have k4:=oP.cell (i:=0) rfl
 have k5:=oP.cell (i:=1) rfl
 have k6:=oP.cell (i:=2) rfl
 go_wp2_with fail
 clear k4 k5 k6
 refine Calls.mono (cN _ _ x hx0) ?_
 rintro e w6 ⟨vu,rfl,hu,b6⟩
 replace hx0:=hx0.below b6
 replace oP:=oP.gone b6
 replace B:=B.trans (b6.mono B.size)
 clear b6
 go_wp2_with fail
 refine Calls.mono (gG _ _ x.den hu HB.out.2 de) ?_
 rintro e w7 ⟨rfl,b7⟩
 replace hx0:=hx0.below b7
 replace oP:=oP.gone b7
 replace hu:=hu.below b7
 replace B:=B.trans (b7.mono B.size)
 clear b7
 go_wp2
 go_ret
 rw[TD.out]
 refine⟨?_,B⟩
 simp
theorem Jw (w:World) (v:Value) (x:Rat) (hx:cH w v x) {j:Nat} (hj:bg j x) (de:j<=100000000) (hn:x.num<0) (hd:x.den=1):Calls Tryz.prog 43 #[v] w (dY w (.string (strOf (eK x)))):=by
 obtain⟨oz,oA,rfl,cw,cT⟩:=id hx
 obtain⟨aV,aX,rfl,_⟩:=id cw
 obtain⟨aW,aY,rfl,_⟩:=id cT
 have HB:=bx hj
 have hx0:=hx
 clear hx
 have hT:eK x=45::(aP x.num.natAbs):=by unfold eK; rw[if_pos hn,if_pos hd]; simp
 rw[hT]
 rw[decide_eq_true hn]at hx0
 try rw[decide_eq_true hn]
 have hc:bK x.den 1=0:=by unfold bK; have:=x.den_pos; rw[if_neg (by omega),if_neg (by omega)]
 have HC:=bx hc
 have qO:=dD hj.1
 have hl2:=dD hj.2
 have hz1:=bj (aP x.num.natAbs)
 have hz2:=bj (aP x.den)
 have qP:=nL (aP x.num.natAbs)
 have VE:=bj (45::aP x.num.natAbs)
 have hq1:1+(aP x.num.natAbs).length<=9223372036854775807:=by omega
 clear hj hn hd hT qO hl2 hc cT
 go_enter Tryz.func43,Tryz.ntmps43
 go_wp2_with fail
 obtain⟨w1,e1,oP,b1,s1⟩:=dy w [.bool true,.slice aV (ae af x.num.natAbs).length aX,.slice aW (ae af x.den).length aY] 38
 rw[e1]
 clear e1
 replace hx0:=hx0.below b1
 replace cw:=cw.below b1
 have B:=b1
 clear b1
 refine Calls.mono (gG _ _ x.num.natAbs cw HB.out.1 de) ?_
 rintro e w2 ⟨rfl,b2⟩
 replace hx0:=hx0.below b2
 replace cw:=cw.below b2
 replace oP:=oP.gone b2
 replace B:=B.trans (b2.mono B.size)
 clear b2
 clear cw
 have k1:=oP.cell (i:=0) rfl
 have k2:=oP.cell (i:=1) rfl
 have k3:=oP.cell (i:=2) rfl
 go_wp2_with fail
 clear k1 k2 k3
 refine Calls.mono (cN _ _ x hx0) ?_
 rintro e w3 ⟨vu,rfl,hu,b3⟩
 replace hx0:=hx0.below b3
 replace oP:=oP.gone b3
 replace B:=B.trans (b3.mono B.size)
 clear b3
 go_wp2_with fail
 refine Calls.mono (dA _ 1 (by unfold b64; omega)) ?_
 rintro e w4 ⟨vo,rfl,ho,b4⟩
 replace hx0:=hx0.below b4
 replace oP:=oP.gone b4
 replace hu:=hu.below b4
 replace B:=B.trans (b4.mono B.size)
 clear b4
 go_wp2_with fail
 have hc:=fU _ _ _ x.den 1 hu ho
 rw[HC.out]at hc
 refine Calls.mono (hc) ?_
 rintro e w5 ⟨rfl,b5⟩
 replace hx0:=hx0.below b5
 replace oP:=oP.gone b5
 replace hu:=hu.below b5
 replace ho:=ho.below b5
 replace B:=B.trans (b5.mono B.size)
 clear b5
 clear hc hu ho
 go_wp2
 go_ret
 exact⟨rfl,B⟩
theorem F7 (w:World) (v:Value) (x:Rat) (hx:cH w v x) {j:Nat} (hj:bg j x) (de:j<=100000000):Calls Tryz.prog 43 #[v] w (dY w (.string (strOf (eK x)))):=by
 by_cases hn:x.num<0
 ·by_cases hd:x.den=1
  ·exact Jw w v x hx hj de hn hd
  ·exact Jv w v x hx hj de hn hd
 ·by_cases hd:x.den=1
  ·exact Ju w v x hx hj de hn hd
  ·exact Jt w v x hx hj de hn hd
end Wx

namespace Wx
set_option maxRecDepth 100000
set_option maxHeartbeats 1000000
open Go Go.RowKit Go.Proofs
theorem O9 (w:World) (vx vy:Value) (x:Rat) (hx:cq w vx x) (hy:cH w vy x) {j:Nat} (hj:bg j x) (de:j<=100000000):Calls Tryz.prog 10 #[vx,vy] w (dY w (.bool true)):=by
 obtain⟨oz,oA,rfl,cw,cT⟩:=id hx
 obtain⟨aV,aX,rfl,_⟩:=id cw
 obtain⟨aW,aY,rfl,_⟩:=id cT
 obtain⟨Kj,Kk,rfl,iS,iJ⟩:=id hy
 obtain⟨dL,dN,rfl,_⟩:=id iS
 obtain⟨dM,dO,rfl,_⟩:=id iJ
 have HB:=bx hj
 have hx0:=hx
 have hy0:=hy
 clear hj hx hy
 go_enter Tryz.func10,Tryz.ntmps10
 go_wp2_with fail
 obtain⟨w1,e1,o1,b1,s1⟩:=dy w [.bool (decide (x.num<0)),.slice aV (ae b64 x.num.natAbs).length aX,.slice aW (ae b64 (ah x.den)).length aY] 32
 obtain⟨w2,e2,o2,b2,s2⟩:=dy w1 [.bool (decide (x.num<0)),.slice dL (ae af x.num.natAbs).length dN,.slice dM (ae af x.den).length dO] 38
 rw[e1,e2]
 rw[s1]at o2
 have p1:=(o1.gone b2)
 have p2:=o2
 have B0:=(b1.trans (b2.mono b1.size))
 have hS:∀w',iQ w [(w.heap.size,[.bool (decide (x.num<0)),.slice aV (ae b64 x.num.natAbs).length aX,.slice aW (ae b64 (ah x.den)).length aY],32),(w.heap.size+1,[.bool (decide (x.num<0)),.slice dL (ae af x.num.natAbs).length dN,.slice dM (ae af x.den).length dO],38)] w'->iQ w [(w.heap.size,[.bool (decide (x.num<0)),.slice aV (ae b64 x.num.natAbs).length aX,.slice aW (ae b64 (ah x.den)).length aY],32),(w.heap.size+1,[.bool (decide (x.num<0)),.slice dL (ae af x.num.natAbs).length dN,.slice dM (ae af x.den).length dO],38)] w'/\w'.cell? ⟨w.heap.size,0,none⟩=some (.bool (decide (x.num<0)))/\w'.cell? ⟨w.heap.size,1,none⟩=some (.slice aV (ae b64 x.num.natAbs).length aX)/\w'.cell? ⟨w.heap.size,2,none⟩=some (.slice aW (ae b64 (ah x.den)).length aY)/\w'.cell? ⟨w.heap.size+1,0,none⟩=some (.bool (decide (x.num<0)))/\w'.cell? ⟨w.heap.size+1,1,none⟩=some (.slice dL (ae af x.num.natAbs).length dN)/\w'.cell? ⟨w.heap.size+1,2,none⟩=some (.slice dM (ae af x.den).length dO):=λw' hh=>by
  have r1:=hh.at_ (p:=(w.heap.size,[.bool (decide (x.num<0)),.slice aV (ae b64 x.num.natAbs).length aX,.slice aW (ae b64 (ah x.den)).length aY],32)) (by simp)
  have r2:=hh.at_ (p:=(w.heap.size+1,[.bool (decide (x.num<0)),.slice dL (ae af x.num.natAbs).length dN,.slice dM (ae af x.den).length dO],38)) (by simp)
  exact⟨hh,r1.cell (i:=0) rfl,r1.cell (i:=1) rfl,r1.cell (i:=2) rfl,r2.cell (i:=0) rfl,r2.cell (i:=1) rfl,r2.cell (i:=2) rfl⟩
 have hz:iQ w [(w.heap.size,[.bool (decide (x.num<0)),.slice aV (ae b64 x.num.natAbs).length aX,.slice aW (ae b64 (ah x.den)).length aY],32),(w.heap.size+1,[.bool (decide (x.num<0)),.slice dL (ae af x.num.natAbs).length dN,.slice dM (ae af x.den).length dO],38)] w2:=⟨B0,by intro q hq; simp at hq; rcases hq with rfl|rfl; exact p1; exact p2⟩
 clear e1 e2 o1 b1 s1 p1 o2 b2 s2 p2
 clear B0
 have hz:=hz.drew
 go_region_held3 (λw'=>iQ w [(w.heap.size,[.bool (decide (x.num<0)),.slice aV (ae b64 x.num.natAbs).length aX,.slice aW (ae b64 (ah x.den)).length aY],32),(w.heap.size+1,[.bool (decide (x.num<0)),.slice dL (ae af x.num.natAbs).length dN,.slice dM (ae af x.den).length dO],38)] w'/\w'.cell? ⟨w.heap.size,0,none⟩=some (.bool (decide (x.num<0)))/\w'.cell? ⟨w.heap.size,1,none⟩=some (.slice aV (ae b64 x.num.natAbs).length aX)/\w'.cell? ⟨w.heap.size,2,none⟩=some (.slice aW (ae b64 (ah x.den)).length aY)/\w'.cell? ⟨w.heap.size+1,0,none⟩=some (.bool (decide (x.num<0)))/\w'.cell? ⟨w.heap.size+1,1,none⟩=some (.slice dL (ae af x.num.natAbs).length dN)/\w'.cell? ⟨w.heap.size+1,2,none⟩=some (.slice dM (ae af x.den).length dO))
  (exact hS _ hz)
  (first
   |(go_at_call 27; (with_reducible refine Calls.mono (xR _ _ x (hx0.below hz.b) HB.out de) ?_); rintro e wz ⟨rfl,hb⟩; have hz:=iQ.call (And.intro hz trivial) hb)
   |(go_at_call 43; (with_reducible refine Calls.mono (F7 _ _ x (hy0.below hz.b) HB.out de) ?_); rintro e wz ⟨rfl,hb⟩; have hz:=iQ.call (And.intro hz trivial) hb))
 all_goals (
  go_wp2
  go_ret
  exact⟨rfl,hz.b⟩)
end Wx

namespace Wx
open Go Go.RowKit Go.Proofs
theorem PF {w:World} {q:Rat} {n:Int} {e:Ending} {w':World} (h:G6 w q n e w'):fu (fo (aR q) (pI n)) w e w':=by
 obtain⟨v,rfl,h1,h2⟩:=h
 exact⟨_,rfl,⟨v,_,rfl,h1,rfl⟩,h2⟩
variable {x y:Rat} {j k:Nat}
theorem H6 (hx:bg j x) (hy:bg k y) (h:j+k+j+k+1<=10000000):∀w v1 v2,aR x w v1->aR y w v2->Calls Tryz.prog 38 #[v1,v2] w (fu (aR (x+y)) w):=
 λw v1 v2 h1 h2=>AX w v1 v2 x y h1 h2 hx hy h
theorem yq (hx:bg j x) (hy:bg k y) (h:j+k<=10000000):∀w v1 v2,aR x w v1->aR y w v2->Calls Tryz.prog 39 #[v1,v2] w (fu (aR (x*y)) w):=
 λw v1 v2 h1 h2=>uB w v1 v2 x y h1 h2 hx hy h
theorem wS (hx:bg j x) (hy:bg k y) (h:j+k<=10000000) (h0:y≠0):∀w v1 v2,aR x w v1->aR y w v2->Calls Tryz.prog 16 #[v1,v2] w (fu (fo (aR (x/y)) (pI 0)) w):=
 λw v1 v2 h1 h2=>(Jj w v1 v2 x y h1 h2 (λh=>h0 ((gP y).1 (by omega))) hx hy h).mono λ_ _=>PF
theorem KZ (x:Rat):∀w v1,aR x w v1->Calls Tryz.prog 14 #[v1] w (fu (pI (dS x)) w):=λw v1 h1=>(xE w v1 x h1).mono λ_ _=>pq
theorem yn (hx:bg j x) (hy:bg k y) (h:j+k+j+k+1<=10000000):∀w v1 v2,aR x w v1->aR y w v2->Calls Tryz.prog 119 #[v1,v2] w (fu (pI (fR x y)) w):=
 λw v1 v2 h1 h2=>(Ji w v1 v2 x y h1 h2 hx hy h).mono λ_ _=>pq
theorem yo (n:Int) (h1:-9223372036854775808<=n) (h2:n<=9223372036854775807):∀w v1,pI n w v1->Calls Tryz.prog 29 #[v1] w (fu (aR (n:Rat)) w):=λw v1 h=>by
 have h:v1=.int .i64 n:=h
 rw[h]
 exact A8 w n h1 h2
theorem Qw (hx:bg j x) (hj:j<=100000000) (h:x=y):∀w v1 v2,au x w v1->aR y w v2->Calls Tryz.prog 10 #[v1,v2] w (fu (pB true) w):=λw v1 v2 h1 h2=>by
 subst h
 exact(O9 w v1 v2 x h1 h2 hx hj).mono λ_ _=>pq
end Wx

namespace Wx
open Go Go.RowKit Go.Proofs
end Wx

namespace Wx
open Go Go.RowKit Go.Proofs
variable {x y:Rat} {j k:Nat}
theorem Jg (_:True):∀w v1,pN j x w v1->Calls Tryz.prog 14 #[v1] w (fu (pI (dS x)) w):=λw v1 h1=>KZ x w v1 h1.2
theorem Np {n:Int} (h:-9223372036854775808<=n/\n<=9223372036854775807):∀w v1,pI n w v1->Calls Tryz.prog 29 #[v1] w (fu (pN 64 (n:Rat)) w):=λw v1 h1=>(yo n h.1 h.2 w v1 h1).mono λ_ _=>fu.map (uQ (Dw h.1 h.2))
end Wx
