import Derived.Test.YtpiniclogfefjaaGreatJMatrices26
namespace Wx
set_option maxRecDepth 100000
open Go Go.RowKit Go.Proofs

set_option maxHeartbeats 1000000 in
theorem ntext_00 (w:World) (v:Value) (x:Rat) (hx:IsRef w v x) {j:Nat} (hj:BdR j x) (hj1:j≤100000000) (hn:¬x.num<0) (hd:¬x.den=1):Calls Tryz.prog 64 #[v] w (Z1 w (.string (Qv (Zb x)))):=by
 obtain⟨vx1,vx2,rfl,hxa,hxb⟩:=id hx
 obtain⟨Ax1,cx1,rfl,_⟩:=id hxa
 obtain⟨Ax2,cx2,rfl,_⟩:=id hxb
 have HB:=bx hj
 have hx0:=hx
 clear hx
 have hT:Zb x=Xa x.num.natAbs++47::Xa x.den:=by unfold Zb; rw[if_neg hn,if_neg hd]; simp
 rw[hT]
 rw[decide_eq_false hn]at hx0
 try rw[decide_eq_false hn]
 have hc:X3 x.den 1=1:=by unfold X3; have:=x.den_pos; rw[if_neg (by omega),if_pos (by omega)]
 have HC:=bx hc
 have hl1:=Jh hj.1
 have hl2:=Jh hj.2
 have hz1:=Xq (Xa x.num.natAbs)
 have hz2:=Xq (Xa x.den)
 have hy2:Qv (Xa x.num.natAbs)++(⟨#[47]⟩:ByteArray)=Qv (Xa x.num.natAbs++[47]):=Z6 (Xa x.num.natAbs) [47]
 have hz5:(Qv (Xa x.num.natAbs++[47])).size=(Xa x.num.natAbs).length+1:=by rw[Xq]; simp
 have hy3:=Z6 (Xa x.num.natAbs++[47]) (Xa x.den)
 have hq2:(Xa x.num.natAbs).length+1≤9223372036854775807:=by omega
 have hq3:(Xa x.num.natAbs).length+1+1≤9223372036854775807:=by omega
 have hq4:(Xa x.num.natAbs).length+1+(Xa x.den).length≤9223372036854775807:=by omega
 have hq5:(Xa x.num.natAbs).length+1+1+(Xa x.den).length≤9223372036854775807:=by omega
 have HY3:=bx hy3
 clear hy3
 clear hj hn hd hT hl1 hl2 hc hxb
 go_enter Tryz.func64,Tryz.ntmps64
 go_wp2_with fail
 obtain⟨w1,e1,oP,b1,s1⟩:=Jm w [.bool false,.slice Ax1 (digs Qe x.num.natAbs).length cx1,.slice Ax2 (digs Qe x.den).length cx2] 42
 rw[e1]
 clear e1
 replace hx0:=hx0.below b1
 replace hxa:=hxa.below b1
 have B:=b1
 clear b1
 refine Calls.mono (Vs _ _ x.num.natAbs hxa HB.out.1 hj1) ?_
 rintro e w2 ⟨rfl,b2⟩
 replace hx0:=hx0.below b2
 replace hxa:=hxa.below b2
 replace oP:=oP.gone b2
 replace B:=B.trans (b2.mono B.size)
 clear b2
 clear hxa
 have k1:=oP.cell (i:=0) rfl
 have k2:=oP.cell (i:=1) rfl
 have k3:=oP.cell (i:=2) rfl
 go_wp2_with fail
 clear k1 k2 k3
 refine Calls.mono (Kt _ _ x hx0) ?_
 rintro e w3 ⟨vu,rfl,hu,b3⟩
 replace hx0:=hx0.below b3
 replace oP:=oP.gone b3
 replace B:=B.trans (b3.mono B.size)
 clear b3
 go_wp2_with fail
 refine Calls.mono (Wm _ 1 (by unfold Qb; omega)) ?_
 rintro e w4 ⟨vo,rfl,ho,b4⟩
 replace hx0:=hx0.below b4
 replace oP:=oP.gone b4
 replace hu:=hu.below b4
 replace B:=B.trans (b4.mono B.size)
 clear b4
 go_wp2_with fail
 have hc:=Wr _ _ _ x.den 1 hu ho
 rw[HC.out]at hc
 refine Calls.mono (hc) ?_
 rintro e w5 ⟨rfl,b5⟩
 replace hx0:=hx0.below b5
 replace oP:=oP.gone b5
 replace hu:=hu.below b5
 replace ho:=ho.below b5
 replace B:=B.trans (b5.mono B.size)
 clear b5
 clear hc hu ho
 have k4:=oP.cell (i:=0) rfl
 have k5:=oP.cell (i:=1) rfl
 have k6:=oP.cell (i:=2) rfl
 go_wp2_with fail
 clear k4 k5 k6
 refine Calls.mono (Kt _ _ x hx0) ?_
 rintro e w6 ⟨vu,rfl,hu,b6⟩
 replace hx0:=hx0.below b6
 replace oP:=oP.gone b6
 replace B:=B.trans (b6.mono B.size)
 clear b6
 go_wp2_with fail
 refine Calls.mono (Vs _ _ x.den hu HB.out.2 hj1) ?_
 rintro e w7 ⟨rfl,b7⟩
 replace hx0:=hx0.below b7
 replace oP:=oP.gone b7
 replace hu:=hu.below b7
 replace B:=B.trans (b7.mono B.size)
 clear b7
 go_wp2
 go_ret
 rw[HY3.out]
 refine⟨?_,B⟩
 simp

set_option maxHeartbeats 1000000 in
theorem ntext_01 (w:World) (v:Value) (x:Rat) (hx:IsRef w v x) {j:Nat} (hj:BdR j x) (hj1:j≤100000000) (hn:¬x.num<0) (hd:x.den=1):Calls Tryz.prog 64 #[v] w (Z1 w (.string (Qv (Zb x)))):=by
 obtain⟨vx1,vx2,rfl,hxa,hxb⟩:=id hx
 obtain⟨Ax1,cx1,rfl,_⟩:=id hxa
 obtain⟨Ax2,cx2,rfl,_⟩:=id hxb
 have HB:=bx hj
 have hx0:=hx
 clear hx
 have hT:Zb x=Xa x.num.natAbs:=by unfold Zb; rw[if_neg hn,if_pos hd]; simp
 rw[hT]
 rw[decide_eq_false hn]at hx0
 try rw[decide_eq_false hn]
 have hc:X3 x.den 1=0:=by unfold X3; have:=x.den_pos; rw[if_neg (by omega),if_neg (by omega)]
 have HC:=bx hc
 have hl1:=Jh hj.1
 have hl2:=Jh hj.2
 have hz1:=Xq (Xa x.num.natAbs)
 have hz2:=Xq (Xa x.den)
 clear hj hn hd hT hl1 hl2 hc hxb
 go_enter Tryz.func64,Tryz.ntmps64
 go_wp2_with fail
 obtain⟨w1,e1,oP,b1,s1⟩:=Jm w [.bool false,.slice Ax1 (digs Qe x.num.natAbs).length cx1,.slice Ax2 (digs Qe x.den).length cx2] 42
 rw[e1]
 clear e1
 replace hx0:=hx0.below b1
 replace hxa:=hxa.below b1
 have B:=b1
 clear b1
 refine Calls.mono (Vs _ _ x.num.natAbs hxa HB.out.1 hj1) ?_
 rintro e w2 ⟨rfl,b2⟩
 replace hx0:=hx0.below b2
 replace hxa:=hxa.below b2
 replace oP:=oP.gone b2
 replace B:=B.trans (b2.mono B.size)
 clear b2
 clear hxa
 have k1:=oP.cell (i:=0) rfl
 have k2:=oP.cell (i:=1) rfl
 have k3:=oP.cell (i:=2) rfl
 go_wp2_with fail
 clear k1 k2 k3
 refine Calls.mono (Kt _ _ x hx0) ?_
 rintro e w3 ⟨vu,rfl,hu,b3⟩
 replace hx0:=hx0.below b3
 replace oP:=oP.gone b3
 replace B:=B.trans (b3.mono B.size)
 clear b3
 go_wp2_with fail
 refine Calls.mono (Wm _ 1 (by unfold Qb; omega)) ?_
 rintro e w4 ⟨vo,rfl,ho,b4⟩
 replace hx0:=hx0.below b4
 replace oP:=oP.gone b4
 replace hu:=hu.below b4
 replace B:=B.trans (b4.mono B.size)
 clear b4
 go_wp2_with fail
 have hc:=Wr _ _ _ x.den 1 hu ho
 rw[HC.out]at hc
 refine Calls.mono (hc) ?_
 rintro e w5 ⟨rfl,b5⟩
 replace hx0:=hx0.below b5
 replace oP:=oP.gone b5
 replace hu:=hu.below b5
 replace ho:=ho.below b5
 replace B:=B.trans (b5.mono B.size)
 clear b5
 clear hc hu ho
 go_wp2
 go_ret
 exact⟨rfl,B⟩

set_option maxHeartbeats 1000000 in
theorem ntext_10 (w:World) (v:Value) (x:Rat) (hx:IsRef w v x) {j:Nat} (hj:BdR j x) (hj1:j≤100000000) (hn:x.num<0) (hd:¬x.den=1):Calls Tryz.prog 64 #[v] w (Z1 w (.string (Qv (Zb x)))):=by
 obtain⟨vx1,vx2,rfl,hxa,hxb⟩:=id hx
 obtain⟨Ax1,cx1,rfl,_⟩:=id hxa
 obtain⟨Ax2,cx2,rfl,_⟩:=id hxb
 have HB:=bx hj
 have hx0:=hx
 clear hx
 have hT:Zb x=45::(Xa x.num.natAbs++47::Xa x.den):=by unfold Zb; rw[if_pos hn,if_neg hd]; simp
 rw[hT]
 rw[decide_eq_true hn]at hx0
 try rw[decide_eq_true hn]
 have hc:X3 x.den 1=1:=by unfold X3; have:=x.den_pos; rw[if_neg (by omega),if_pos (by omega)]
 have HC:=bx hc
 have hl1:=Jh hj.1
 have hl2:=Jh hj.2
 have hz1:=Xq (Xa x.num.natAbs)
 have hz2:=Xq (Xa x.den)
 have hy1:=Qdd (Xa x.num.natAbs)
 have hz4:=Xq (45::Xa x.num.natAbs)
 have hq1:1+(Xa x.num.natAbs).length≤9223372036854775807:=by omega
 have hy2:Qv (45::Xa x.num.natAbs)++(⟨#[47]⟩:ByteArray)=Qv (45::(Xa x.num.natAbs++[47])):=Z6 (45::Xa x.num.natAbs) [47]
 have hz5:(Qv (45::(Xa x.num.natAbs++[47]))).size=(Xa x.num.natAbs).length+1+1:=by rw[Xq]; simp
 have hy3:=Z6 (45::(Xa x.num.natAbs++[47])) (Xa x.den)
 have hq2:(Xa x.num.natAbs).length+1≤9223372036854775807:=by omega
 have hq3:(Xa x.num.natAbs).length+1+1≤9223372036854775807:=by omega
 have hq4:(Xa x.num.natAbs).length+1+(Xa x.den).length≤9223372036854775807:=by omega
 have hq5:(Xa x.num.natAbs).length+1+1+(Xa x.den).length≤9223372036854775807:=by omega
 have HY3:=bx hy3
 clear hy3
 clear hj hn hd hT hl1 hl2 hc hxb
 go_enter Tryz.func64,Tryz.ntmps64
 go_wp2_with fail
 obtain⟨w1,e1,oP,b1,s1⟩:=Jm w [.bool true,.slice Ax1 (digs Qe x.num.natAbs).length cx1,.slice Ax2 (digs Qe x.den).length cx2] 42
 rw[e1]
 clear e1
 replace hx0:=hx0.below b1
 replace hxa:=hxa.below b1
 have B:=b1
 clear b1
 refine Calls.mono (Vs _ _ x.num.natAbs hxa HB.out.1 hj1) ?_
 rintro e w2 ⟨rfl,b2⟩
 replace hx0:=hx0.below b2
 replace hxa:=hxa.below b2
 replace oP:=oP.gone b2
 replace B:=B.trans (b2.mono B.size)
 clear b2
 clear hxa
 have k1:=oP.cell (i:=0) rfl
 have k2:=oP.cell (i:=1) rfl
 have k3:=oP.cell (i:=2) rfl
 go_wp2_with fail
 clear k1 k2 k3
 refine Calls.mono (Kt _ _ x hx0) ?_
 rintro e w3 ⟨vu,rfl,hu,b3⟩
 replace hx0:=hx0.below b3
 replace oP:=oP.gone b3
 replace B:=B.trans (b3.mono B.size)
 clear b3
 go_wp2_with fail
 refine Calls.mono (Wm _ 1 (by unfold Qb; omega)) ?_
 rintro e w4 ⟨vo,rfl,ho,b4⟩
 replace hx0:=hx0.below b4
 replace oP:=oP.gone b4
 replace hu:=hu.below b4
 replace B:=B.trans (b4.mono B.size)
 clear b4
 go_wp2_with fail
 have hc:=Wr _ _ _ x.den 1 hu ho
 rw[HC.out]at hc
 refine Calls.mono (hc) ?_
 rintro e w5 ⟨rfl,b5⟩
 replace hx0:=hx0.below b5
 replace oP:=oP.gone b5
 replace hu:=hu.below b5
 replace ho:=ho.below b5
 replace B:=B.trans (b5.mono B.size)
 clear b5
 clear hc hu ho
 have k4:=oP.cell (i:=0) rfl
 have k5:=oP.cell (i:=1) rfl
 have k6:=oP.cell (i:=2) rfl
 go_wp2_with fail
 clear k4 k5 k6
 refine Calls.mono (Kt _ _ x hx0) ?_
 rintro e w6 ⟨vu,rfl,hu,b6⟩
 replace hx0:=hx0.below b6
 replace oP:=oP.gone b6
 replace B:=B.trans (b6.mono B.size)
 clear b6
 go_wp2_with fail
 refine Calls.mono (Vs _ _ x.den hu HB.out.2 hj1) ?_
 rintro e w7 ⟨rfl,b7⟩
 replace hx0:=hx0.below b7
 replace oP:=oP.gone b7
 replace hu:=hu.below b7
 replace B:=B.trans (b7.mono B.size)
 clear b7
 go_wp2
 go_ret
 rw[HY3.out]
 refine⟨?_,B⟩
 simp

set_option maxHeartbeats 1000000 in
theorem ntext_11 (w:World) (v:Value) (x:Rat) (hx:IsRef w v x) {j:Nat} (hj:BdR j x) (hj1:j≤100000000) (hn:x.num<0) (hd:x.den=1):Calls Tryz.prog 64 #[v] w (Z1 w (.string (Qv (Zb x)))):=by
 obtain⟨vx1,vx2,rfl,hxa,hxb⟩:=id hx
 obtain⟨Ax1,cx1,rfl,_⟩:=id hxa
 obtain⟨Ax2,cx2,rfl,_⟩:=id hxb
 have HB:=bx hj
 have hx0:=hx
 clear hx
 have hT:Zb x=45::(Xa x.num.natAbs):=by unfold Zb; rw[if_pos hn,if_pos hd]; simp
 rw[hT]
 rw[decide_eq_true hn]at hx0
 try rw[decide_eq_true hn]
 have hc:X3 x.den 1=0:=by unfold X3; have:=x.den_pos; rw[if_neg (by omega),if_neg (by omega)]
 have HC:=bx hc
 have hl1:=Jh hj.1
 have hl2:=Jh hj.2
 have hz1:=Xq (Xa x.num.natAbs)
 have hz2:=Xq (Xa x.den)
 have hy1:=Qdd (Xa x.num.natAbs)
 have hz4:=Xq (45::Xa x.num.natAbs)
 have hq1:1+(Xa x.num.natAbs).length≤9223372036854775807:=by omega
 clear hj hn hd hT hl1 hl2 hc hxb
 go_enter Tryz.func64,Tryz.ntmps64
 go_wp2_with fail
 obtain⟨w1,e1,oP,b1,s1⟩:=Jm w [.bool true,.slice Ax1 (digs Qe x.num.natAbs).length cx1,.slice Ax2 (digs Qe x.den).length cx2] 42
 rw[e1]
 clear e1
 replace hx0:=hx0.below b1
 replace hxa:=hxa.below b1
 have B:=b1
 clear b1
 refine Calls.mono (Vs _ _ x.num.natAbs hxa HB.out.1 hj1) ?_
 rintro e w2 ⟨rfl,b2⟩
 replace hx0:=hx0.below b2
 replace hxa:=hxa.below b2
 replace oP:=oP.gone b2
 replace B:=B.trans (b2.mono B.size)
 clear b2
 clear hxa
 have k1:=oP.cell (i:=0) rfl
 have k2:=oP.cell (i:=1) rfl
 have k3:=oP.cell (i:=2) rfl
 go_wp2_with fail
 clear k1 k2 k3
 refine Calls.mono (Kt _ _ x hx0) ?_
 rintro e w3 ⟨vu,rfl,hu,b3⟩
 replace hx0:=hx0.below b3
 replace oP:=oP.gone b3
 replace B:=B.trans (b3.mono B.size)
 clear b3
 go_wp2_with fail
 refine Calls.mono (Wm _ 1 (by unfold Qb; omega)) ?_
 rintro e w4 ⟨vo,rfl,ho,b4⟩
 replace hx0:=hx0.below b4
 replace oP:=oP.gone b4
 replace hu:=hu.below b4
 replace B:=B.trans (b4.mono B.size)
 clear b4
 go_wp2_with fail
 have hc:=Wr _ _ _ x.den 1 hu ho
 rw[HC.out]at hc
 refine Calls.mono (hc) ?_
 rintro e w5 ⟨rfl,b5⟩
 replace hx0:=hx0.below b5
 replace oP:=oP.gone b5
 replace hu:=hu.below b5
 replace ho:=ho.below b5
 replace B:=B.trans (b5.mono B.size)
 clear b5
 clear hc hu ho
 go_wp2
 go_ret
 exact⟨rfl,B⟩

theorem ntext_num (w:World) (v:Value) (x:Rat) (hx:IsRef w v x) {j:Nat} (hj:BdR j x) (hj1:j≤100000000):Calls Tryz.prog 64 #[v] w (Z1 w (.string (Qv (Zb x)))):=by
 by_cases hn:x.num<0
 ·by_cases hd:x.den=1
  ·exact ntext_11 w v x hx hj hj1 hn hd
  ·exact ntext_10 w v x hx hj hj1 hn hd
 ·by_cases hd:x.den=1
  ·exact ntext_01 w v x hx hj hj1 hn hd
  ·exact ntext_00 w v x hx hj hj1 hn hd
end Wx

namespace Wx
set_option maxRecDepth 100000
open Go Go.RowKit Go.Proofs

set_option maxHeartbeats 1000000 in
theorem is_yes (w:World) (vx vy:Value) (x:Rat) (hx:IsRat w vx x) (hy:IsRef w vy x) {j:Nat} (hj:BdR j x) (hj1:j≤100000000):Calls Tryz.prog 23 #[vx,vy] w (Z1 w (.bool true)):=by
 obtain⟨vx1,vx2,rfl,hxa,hxb⟩:=id hx
 obtain⟨Ax1,cx1,rfl,_⟩:=id hxa
 obtain⟨Ax2,cx2,rfl,_⟩:=id hxb
 obtain⟨vy1,vy2,rfl,hya,hyb⟩:=id hy
 obtain⟨Ay1,cy1,rfl,_⟩:=id hya
 obtain⟨Ay2,cy2,rfl,_⟩:=id hyb
 have HB:=bx hj
 have hx0:=hx
 have hy0:=hy

 clear hj hx hy
 go_enter Tryz.func23,Tryz.ntmps23
 go_wp2_with fail
 obtain⟨w1,e1,o1,b1,s1⟩:=Jm w [.bool (decide (x.num<0)),.slice Ax1 (digs Qb x.num.natAbs).length cx1,.slice Ax2 (digs Qb (Qu x.den)).length cx2] 38
 obtain⟨w2,e2,o2,b2,s2⟩:=Jm w1 [.bool (decide (x.num<0)),.slice Ay1 (digs Qe x.num.natAbs).length cy1,.slice Ay2 (digs Qe x.den).length cy2] 42
 rw[e1,e2]
 rw[s1]at o2
 have p1:=(o1.gone b2)
 have p2:=o2
 have B0:=(b1.trans (b2.mono b1.size))
 have hS:∀w',HeldQ w [(w.heap.size,[.bool (decide (x.num<0)),.slice Ax1 (digs Qb x.num.natAbs).length cx1,.slice Ax2 (digs Qb (Qu x.den)).length cx2],38),(w.heap.size+1,[.bool (decide (x.num<0)),.slice Ay1 (digs Qe x.num.natAbs).length cy1,.slice Ay2 (digs Qe x.den).length cy2],42)] w'→HeldQ w [(w.heap.size,[.bool (decide (x.num<0)),.slice Ax1 (digs Qb x.num.natAbs).length cx1,.slice Ax2 (digs Qb (Qu x.den)).length cx2],38),(w.heap.size+1,[.bool (decide (x.num<0)),.slice Ay1 (digs Qe x.num.natAbs).length cy1,.slice Ay2 (digs Qe x.den).length cy2],42)] w'∧w'.cell? ⟨w.heap.size,0,none⟩=some (.bool (decide (x.num<0)))∧w'.cell? ⟨w.heap.size,1,none⟩=some (.slice Ax1 (digs Qb x.num.natAbs).length cx1)∧w'.cell? ⟨w.heap.size,2,none⟩=some (.slice Ax2 (digs Qb (Qu x.den)).length cx2)∧w'.cell? ⟨w.heap.size+1,0,none⟩=some (.bool (decide (x.num<0)))∧w'.cell? ⟨w.heap.size+1,1,none⟩=some (.slice Ay1 (digs Qe x.num.natAbs).length cy1)∧w'.cell? ⟨w.heap.size+1,2,none⟩=some (.slice Ay2 (digs Qe x.den).length cy2):=fun w' hh=>by
  have r1:=hh.at_ (p:=(w.heap.size,[.bool (decide (x.num<0)),.slice Ax1 (digs Qb x.num.natAbs).length cx1,.slice Ax2 (digs Qb (Qu x.den)).length cx2],38)) (by simp)
  have r2:=hh.at_ (p:=(w.heap.size+1,[.bool (decide (x.num<0)),.slice Ay1 (digs Qe x.num.natAbs).length cy1,.slice Ay2 (digs Qe x.den).length cy2],42)) (by simp)
  exact⟨hh,r1.cell (i:=0) rfl,r1.cell (i:=1) rfl,r1.cell (i:=2) rfl,r2.cell (i:=0) rfl,r2.cell (i:=1) rfl,r2.cell (i:=2) rfl⟩
 have hz:HeldQ w [(w.heap.size,[.bool (decide (x.num<0)),.slice Ax1 (digs Qb x.num.natAbs).length cx1,.slice Ax2 (digs Qb (Qu x.den)).length cx2],38),(w.heap.size+1,[.bool (decide (x.num<0)),.slice Ay1 (digs Qe x.num.natAbs).length cy1,.slice Ay2 (digs Qe x.den).length cy2],42)] w2:=⟨B0,by intro q hq; simp at hq; rcases hq with rfl|rfl; exact p1; exact p2⟩
 clear e1 e2 o1 b1 s1 p1 o2 b2 s2 p2
 clear B0
 have hz:=hz.drew
 go_region_held3 (fun w'=>HeldQ w [(w.heap.size,[.bool (decide (x.num<0)),.slice Ax1 (digs Qb x.num.natAbs).length cx1,.slice Ax2 (digs Qb (Qu x.den)).length cx2],38),(w.heap.size+1,[.bool (decide (x.num<0)),.slice Ay1 (digs Qe x.num.natAbs).length cy1,.slice Ay2 (digs Qe x.den).length cy2],42)] w'∧w'.cell? ⟨w.heap.size,0,none⟩=some (.bool (decide (x.num<0)))∧w'.cell? ⟨w.heap.size,1,none⟩=some (.slice Ax1 (digs Qb x.num.natAbs).length cx1)∧w'.cell? ⟨w.heap.size,2,none⟩=some (.slice Ax2 (digs Qb (Qu x.den)).length cx2)∧w'.cell? ⟨w.heap.size+1,0,none⟩=some (.bool (decide (x.num<0)))∧w'.cell? ⟨w.heap.size+1,1,none⟩=some (.slice Ay1 (digs Qe x.num.natAbs).length cy1)∧w'.cell? ⟨w.heap.size+1,2,none⟩=some (.slice Ay2 (digs Qe x.den).length cy2))
  (exact hS _ hz)
  (first
   |(go_at_call 34; (with_reducible refine Calls.mono (Qbm _ _ x (hx0.below hz.b) HB.out hj1) ?_); rintro e wz ⟨rfl,hb⟩; have hz:=HeldQ.call (And.intro hz trivial) hb)
   |(go_at_call 64; (with_reducible refine Calls.mono (ntext_num _ _ x (hy0.below hz.b) HB.out hj1) ?_); rintro e wz ⟨rfl,hb⟩; have hz:=HeldQ.call (And.intro hz trivial) hb))
 all_goals (
  go_wp2
  go_ret
  exact⟨rfl,hz.b⟩)
end Wx
