import Derived.Test.YtpiniclogfefjaaGreatJSolves26
namespace Wx
set_option maxRecDepth 100000
open Go Go.RowKit Go.Proofs

set_option maxHeartbeats 1000000 in
theorem ntext_00 (w:World) (v:Value) (x:Rat) (hx:IsRef w v x) {j:Nat} (hj:BdR j x) (hj1:j≤100000000) (hn:¬x.num<0) (hd:¬x.den=1):Calls Tryz.prog 64 #[v] w (Jc w (.string (Qp (Y4 x)))):=by
 obtain⟨vx1,vx2,rfl,hxa,hxb⟩:=id hx
 obtain⟨Ax1,cx1,rfl,_⟩:=id hxa
 obtain⟨Ax2,cx2,rfl,_⟩:=id hxb
 have HB:=bx hj
 have hx0:=hx
 clear hx
 have hT:Y4 x=Xc x.num.natAbs++47::Xc x.den:=by unfold Y4; rw[if_neg hn,if_neg hd]; simp
 rw[hT]
 rw[decide_eq_false hn]at hx0
 try rw[decide_eq_false hn]
 have hc:X0 x.den 1=1:=by unfold X0; have:=x.den_pos; rw[if_neg (by omega),if_pos (by omega)]
 have HC:=bx hc
 have hl1:=J2 hj.1
 have hl2:=J2 hj.2
 have hz1:=Xs (Xc x.num.natAbs)
 have hz2:=Xs (Xc x.den)
 have hy2:Qp (Xc x.num.natAbs)++(⟨#[47]⟩:ByteArray)=Qp (Xc x.num.natAbs++[47]):=Jk (Xc x.num.natAbs) [47]
 have hz5:(Qp (Xc x.num.natAbs++[47])).size=(Xc x.num.natAbs).length+1:=by rw[Xs]; simp
 have hy3:=Jk (Xc x.num.natAbs++[47]) (Xc x.den)
 have hq2:(Xc x.num.natAbs).length+1≤9223372036854775807:=by omega
 have hq3:(Xc x.num.natAbs).length+1+1≤9223372036854775807:=by omega
 have hq4:(Xc x.num.natAbs).length+1+(Xc x.den).length≤9223372036854775807:=by omega
 have hq5:(Xc x.num.natAbs).length+1+1+(Xc x.den).length≤9223372036854775807:=by omega
 have HY3:=bx hy3
 clear hy3
 clear hj hn hd hT hl1 hl2 hc hxb
 go_enter Tryz.func64,Tryz.ntmps64
 go_wp2_with fail
 obtain⟨w1,e1,oP,b1,s1⟩:=Jh w [.bool false,.slice Ax1 (digs Qd x.num.natAbs).length cx1,.slice Ax2 (digs Qd x.den).length cx2] 42
 rw[e1]
 clear e1
 replace hx0:=hx0.below b1
 replace hxa:=hxa.below b1
 have B:=b1
 clear b1
 refine Calls.mono (U8 _ _ x.num.natAbs hxa HB.out.1 hj1) ?_
 rintro e w2 ⟨rfl,b2⟩
 replace hx0:=hx0.below b2
 replace hxa:=hxa.below b2
 replace oP:=oP.gone b2
 replace B:=B.trans (b2.mono B.size)
 clear b2
 clear hxa
 have k1:=oP.cell (i:=0) rfl
 have k2:=oP.cell (i:=1) rfl
 have k3:=oP.cell (i:=2) rfl
 go_wp2_with fail
 clear k1 k2 k3
 refine Calls.mono (Kt _ _ x hx0) ?_
 rintro e w3 ⟨vu,rfl,hu,b3⟩
 replace hx0:=hx0.below b3
 replace oP:=oP.gone b3
 replace B:=B.trans (b3.mono B.size)
 clear b3
 go_wp2_with fail
 refine Calls.mono (Vi _ 1 (by unfold Qa; omega)) ?_
 rintro e w4 ⟨vo,rfl,ho,b4⟩
 replace hx0:=hx0.below b4
 replace oP:=oP.gone b4
 replace hu:=hu.below b4
 replace B:=B.trans (b4.mono B.size)
 clear b4
 go_wp2_with fail
 have hc:=Vv _ _ _ x.den 1 hu ho
 rw[HC.out]at hc
 refine Calls.mono (hc) ?_
 rintro e w5 ⟨rfl,b5⟩
 replace hx0:=hx0.below b5
 replace oP:=oP.gone b5
 replace hu:=hu.below b5
 replace ho:=ho.below b5
 replace B:=B.trans (b5.mono B.size)
 clear b5
 clear hc hu ho
 have k4:=oP.cell (i:=0) rfl
 have k5:=oP.cell (i:=1) rfl
 have k6:=oP.cell (i:=2) rfl
 go_wp2_with fail
 clear k4 k5 k6
 refine Calls.mono (Kt _ _ x hx0) ?_
 rintro e w6 ⟨vu,rfl,hu,b6⟩
 replace hx0:=hx0.below b6
 replace oP:=oP.gone b6
 replace B:=B.trans (b6.mono B.size)
 clear b6
 go_wp2_with fail
 refine Calls.mono (U8 _ _ x.den hu HB.out.2 hj1) ?_
 rintro e w7 ⟨rfl,b7⟩
 replace hx0:=hx0.below b7
 replace oP:=oP.gone b7
 replace hu:=hu.below b7
 replace B:=B.trans (b7.mono B.size)
 clear b7
 go_wp2
 go_ret
 rw[HY3.out]
 refine⟨?_,B⟩
 simp

set_option maxHeartbeats 1000000 in
theorem ntext_01 (w:World) (v:Value) (x:Rat) (hx:IsRef w v x) {j:Nat} (hj:BdR j x) (hj1:j≤100000000) (hn:¬x.num<0) (hd:x.den=1):Calls Tryz.prog 64 #[v] w (Jc w (.string (Qp (Y4 x)))):=by
 obtain⟨vx1,vx2,rfl,hxa,hxb⟩:=id hx
 obtain⟨Ax1,cx1,rfl,_⟩:=id hxa
 obtain⟨Ax2,cx2,rfl,_⟩:=id hxb
 have HB:=bx hj
 have hx0:=hx
 clear hx
 have hT:Y4 x=Xc x.num.natAbs:=by unfold Y4; rw[if_neg hn,if_pos hd]; simp
 rw[hT]
 rw[decide_eq_false hn]at hx0
 try rw[decide_eq_false hn]
 have hc:X0 x.den 1=0:=by unfold X0; have:=x.den_pos; rw[if_neg (by omega),if_neg (by omega)]
 have HC:=bx hc
 have hl1:=J2 hj.1
 have hl2:=J2 hj.2
 have hz1:=Xs (Xc x.num.natAbs)
 have hz2:=Xs (Xc x.den)
 clear hj hn hd hT hl1 hl2 hc hxb
 go_enter Tryz.func64,Tryz.ntmps64
 go_wp2_with fail
 obtain⟨w1,e1,oP,b1,s1⟩:=Jh w [.bool false,.slice Ax1 (digs Qd x.num.natAbs).length cx1,.slice Ax2 (digs Qd x.den).length cx2] 42
 rw[e1]
 clear e1
 replace hx0:=hx0.below b1
 replace hxa:=hxa.below b1
 have B:=b1
 clear b1
 refine Calls.mono (U8 _ _ x.num.natAbs hxa HB.out.1 hj1) ?_
 rintro e w2 ⟨rfl,b2⟩
 replace hx0:=hx0.below b2
 replace hxa:=hxa.below b2
 replace oP:=oP.gone b2
 replace B:=B.trans (b2.mono B.size)
 clear b2
 clear hxa
 have k1:=oP.cell (i:=0) rfl
 have k2:=oP.cell (i:=1) rfl
 have k3:=oP.cell (i:=2) rfl
 go_wp2_with fail
 clear k1 k2 k3
 refine Calls.mono (Kt _ _ x hx0) ?_
 rintro e w3 ⟨vu,rfl,hu,b3⟩
 replace hx0:=hx0.below b3
 replace oP:=oP.gone b3
 replace B:=B.trans (b3.mono B.size)
 clear b3
 go_wp2_with fail
 refine Calls.mono (Vi _ 1 (by unfold Qa; omega)) ?_
 rintro e w4 ⟨vo,rfl,ho,b4⟩
 replace hx0:=hx0.below b4
 replace oP:=oP.gone b4
 replace hu:=hu.below b4
 replace B:=B.trans (b4.mono B.size)
 clear b4
 go_wp2_with fail
 have hc:=Vv _ _ _ x.den 1 hu ho
 rw[HC.out]at hc
 refine Calls.mono (hc) ?_
 rintro e w5 ⟨rfl,b5⟩
 replace hx0:=hx0.below b5
 replace oP:=oP.gone b5
 replace hu:=hu.below b5
 replace ho:=ho.below b5
 replace B:=B.trans (b5.mono B.size)
 clear b5
 clear hc hu ho
 go_wp2
 go_ret
 exact⟨rfl,B⟩

set_option maxHeartbeats 1000000 in
theorem ntext_10 (w:World) (v:Value) (x:Rat) (hx:IsRef w v x) {j:Nat} (hj:BdR j x) (hj1:j≤100000000) (hn:x.num<0) (hd:¬x.den=1):Calls Tryz.prog 64 #[v] w (Jc w (.string (Qp (Y4 x)))):=by
 obtain⟨vx1,vx2,rfl,hxa,hxb⟩:=id hx
 obtain⟨Ax1,cx1,rfl,_⟩:=id hxa
 obtain⟨Ax2,cx2,rfl,_⟩:=id hxb
 have HB:=bx hj
 have hx0:=hx
 clear hx
 have hT:Y4 x=45::(Xc x.num.natAbs++47::Xc x.den):=by unfold Y4; rw[if_pos hn,if_neg hd]; simp
 rw[hT]
 rw[decide_eq_true hn]at hx0
 try rw[decide_eq_true hn]
 have hc:X0 x.den 1=1:=by unfold X0; have:=x.den_pos; rw[if_neg (by omega),if_pos (by omega)]
 have HC:=bx hc
 have hl1:=J2 hj.1
 have hl2:=J2 hj.2
 have hz1:=Xs (Xc x.num.natAbs)
 have hz2:=Xs (Xc x.den)
 have hy1:=Qff (Xc x.num.natAbs)
 have hz4:=Xs (45::Xc x.num.natAbs)
 have hq1:1+(Xc x.num.natAbs).length≤9223372036854775807:=by omega
 have hy2:Qp (45::Xc x.num.natAbs)++(⟨#[47]⟩:ByteArray)=Qp (45::(Xc x.num.natAbs++[47])):=Jk (45::Xc x.num.natAbs) [47]
 have hz5:(Qp (45::(Xc x.num.natAbs++[47]))).size=(Xc x.num.natAbs).length+1+1:=by rw[Xs]; simp
 have hy3:=Jk (45::(Xc x.num.natAbs++[47])) (Xc x.den)
 have hq2:(Xc x.num.natAbs).length+1≤9223372036854775807:=by omega
 have hq3:(Xc x.num.natAbs).length+1+1≤9223372036854775807:=by omega
 have hq4:(Xc x.num.natAbs).length+1+(Xc x.den).length≤9223372036854775807:=by omega
 have hq5:(Xc x.num.natAbs).length+1+1+(Xc x.den).length≤9223372036854775807:=by omega
 have HY3:=bx hy3
 clear hy3
 clear hj hn hd hT hl1 hl2 hc hxb
 go_enter Tryz.func64,Tryz.ntmps64
 go_wp2_with fail
 obtain⟨w1,e1,oP,b1,s1⟩:=Jh w [.bool true,.slice Ax1 (digs Qd x.num.natAbs).length cx1,.slice Ax2 (digs Qd x.den).length cx2] 42
 rw[e1]
 clear e1
 replace hx0:=hx0.below b1
 replace hxa:=hxa.below b1
 have B:=b1
 clear b1
 refine Calls.mono (U8 _ _ x.num.natAbs hxa HB.out.1 hj1) ?_
 rintro e w2 ⟨rfl,b2⟩
 replace hx0:=hx0.below b2
 replace hxa:=hxa.below b2
 replace oP:=oP.gone b2
 replace B:=B.trans (b2.mono B.size)
 clear b2
 clear hxa
 have k1:=oP.cell (i:=0) rfl
 have k2:=oP.cell (i:=1) rfl
 have k3:=oP.cell (i:=2) rfl
 go_wp2_with fail
 clear k1 k2 k3
 refine Calls.mono (Kt _ _ x hx0) ?_
 rintro e w3 ⟨vu,rfl,hu,b3⟩
 replace hx0:=hx0.below b3
 replace oP:=oP.gone b3
 replace B:=B.trans (b3.mono B.size)
 clear b3
 go_wp2_with fail
 refine Calls.mono (Vi _ 1 (by unfold Qa; omega)) ?_
 rintro e w4 ⟨vo,rfl,ho,b4⟩
 replace hx0:=hx0.below b4
 replace oP:=oP.gone b4
 replace hu:=hu.below b4
 replace B:=B.trans (b4.mono B.size)
 clear b4
 go_wp2_with fail
 have hc:=Vv _ _ _ x.den 1 hu ho
 rw[HC.out]at hc
 refine Calls.mono (hc) ?_
 rintro e w5 ⟨rfl,b5⟩
 replace hx0:=hx0.below b5
 replace oP:=oP.gone b5
 replace hu:=hu.below b5
 replace ho:=ho.below b5
 replace B:=B.trans (b5.mono B.size)
 clear b5
 clear hc hu ho
 have k4:=oP.cell (i:=0) rfl
 have k5:=oP.cell (i:=1) rfl
 have k6:=oP.cell (i:=2) rfl
 go_wp2_with fail
 clear k4 k5 k6
 refine Calls.mono (Kt _ _ x hx0) ?_
 rintro e w6 ⟨vu,rfl,hu,b6⟩
 replace hx0:=hx0.below b6
 replace oP:=oP.gone b6
 replace B:=B.trans (b6.mono B.size)
 clear b6
 go_wp2_with fail
 refine Calls.mono (U8 _ _ x.den hu HB.out.2 hj1) ?_
 rintro e w7 ⟨rfl,b7⟩
 replace hx0:=hx0.below b7
 replace oP:=oP.gone b7
 replace hu:=hu.below b7
 replace B:=B.trans (b7.mono B.size)
 clear b7
 go_wp2
 go_ret
 rw[HY3.out]
 refine⟨?_,B⟩
 simp

set_option maxHeartbeats 1000000 in
theorem ntext_11 (w:World) (v:Value) (x:Rat) (hx:IsRef w v x) {j:Nat} (hj:BdR j x) (hj1:j≤100000000) (hn:x.num<0) (hd:x.den=1):Calls Tryz.prog 64 #[v] w (Jc w (.string (Qp (Y4 x)))):=by
 obtain⟨vx1,vx2,rfl,hxa,hxb⟩:=id hx
 obtain⟨Ax1,cx1,rfl,_⟩:=id hxa
 obtain⟨Ax2,cx2,rfl,_⟩:=id hxb
 have HB:=bx hj
 have hx0:=hx
 clear hx
 have hT:Y4 x=45::(Xc x.num.natAbs):=by unfold Y4; rw[if_pos hn,if_pos hd]; simp
 rw[hT]
 rw[decide_eq_true hn]at hx0
 try rw[decide_eq_true hn]
 have hc:X0 x.den 1=0:=by unfold X0; have:=x.den_pos; rw[if_neg (by omega),if_neg (by omega)]
 have HC:=bx hc
 have hl1:=J2 hj.1
 have hl2:=J2 hj.2
 have hz1:=Xs (Xc x.num.natAbs)
 have hz2:=Xs (Xc x.den)
 have hy1:=Qff (Xc x.num.natAbs)
 have hz4:=Xs (45::Xc x.num.natAbs)
 have hq1:1+(Xc x.num.natAbs).length≤9223372036854775807:=by omega
 clear hj hn hd hT hl1 hl2 hc hxb
 go_enter Tryz.func64,Tryz.ntmps64
 go_wp2_with fail
 obtain⟨w1,e1,oP,b1,s1⟩:=Jh w [.bool true,.slice Ax1 (digs Qd x.num.natAbs).length cx1,.slice Ax2 (digs Qd x.den).length cx2] 42
 rw[e1]
 clear e1
 replace hx0:=hx0.below b1
 replace hxa:=hxa.below b1
 have B:=b1
 clear b1
 refine Calls.mono (U8 _ _ x.num.natAbs hxa HB.out.1 hj1) ?_
 rintro e w2 ⟨rfl,b2⟩
 replace hx0:=hx0.below b2
 replace hxa:=hxa.below b2
 replace oP:=oP.gone b2
 replace B:=B.trans (b2.mono B.size)
 clear b2
 clear hxa
 have k1:=oP.cell (i:=0) rfl
 have k2:=oP.cell (i:=1) rfl
 have k3:=oP.cell (i:=2) rfl
 go_wp2_with fail
 clear k1 k2 k3
 refine Calls.mono (Kt _ _ x hx0) ?_
 rintro e w3 ⟨vu,rfl,hu,b3⟩
 replace hx0:=hx0.below b3
 replace oP:=oP.gone b3
 replace B:=B.trans (b3.mono B.size)
 clear b3
 go_wp2_with fail
 refine Calls.mono (Vi _ 1 (by unfold Qa; omega)) ?_
 rintro e w4 ⟨vo,rfl,ho,b4⟩
 replace hx0:=hx0.below b4
 replace oP:=oP.gone b4
 replace hu:=hu.below b4
 replace B:=B.trans (b4.mono B.size)
 clear b4
 go_wp2_with fail
 have hc:=Vv _ _ _ x.den 1 hu ho
 rw[HC.out]at hc
 refine Calls.mono (hc) ?_
 rintro e w5 ⟨rfl,b5⟩
 replace hx0:=hx0.below b5
 replace oP:=oP.gone b5
 replace hu:=hu.below b5
 replace ho:=ho.below b5
 replace B:=B.trans (b5.mono B.size)
 clear b5
 clear hc hu ho
 go_wp2
 go_ret
 exact⟨rfl,B⟩

theorem ntext_num (w:World) (v:Value) (x:Rat) (hx:IsRef w v x) {j:Nat} (hj:BdR j x) (hj1:j≤100000000):Calls Tryz.prog 64 #[v] w (Jc w (.string (Qp (Y4 x)))):=by
 by_cases hn:x.num<0
 ·by_cases hd:x.den=1
  ·exact ntext_11 w v x hx hj hj1 hn hd
  ·exact ntext_10 w v x hx hj hj1 hn hd
 ·by_cases hd:x.den=1
  ·exact ntext_01 w v x hx hj hj1 hn hd
  ·exact ntext_00 w v x hx hj hj1 hn hd
end Wx

namespace Wx
set_option maxRecDepth 100000
open Go Go.RowKit Go.Proofs

set_option maxHeartbeats 1000000 in
theorem is_yes (w:World) (vx vy:Value) (x:Rat) (hx:IsRat w vx x) (hy:IsRef w vy x) {j:Nat} (hj:BdR j x) (hj1:j≤100000000):Calls Tryz.prog 23 #[vx,vy] w (Jc w (.bool true)):=by
 obtain⟨vx1,vx2,rfl,hxa,hxb⟩:=id hx
 obtain⟨Ax1,cx1,rfl,_⟩:=id hxa
 obtain⟨Ax2,cx2,rfl,_⟩:=id hxb
 obtain⟨vy1,vy2,rfl,hya,hyb⟩:=id hy
 obtain⟨Ay1,cy1,rfl,_⟩:=id hya
 obtain⟨Ay2,cy2,rfl,_⟩:=id hyb
 have HB:=bx hj
 have hx0:=hx
 have hy0:=hy

 clear hj hx hy
 go_enter Tryz.func23,Tryz.ntmps23
 go_wp2_with fail
 obtain⟨w1,e1,o1,b1,s1⟩:=Jh w [.bool (decide (x.num<0)),.slice Ax1 (digs Qa x.num.natAbs).length cx1,.slice Ax2 (digs Qa (Qo x.den)).length cx2] 38
 obtain⟨w2,e2,o2,b2,s2⟩:=Jh w1 [.bool (decide (x.num<0)),.slice Ay1 (digs Qd x.num.natAbs).length cy1,.slice Ay2 (digs Qd x.den).length cy2] 42
 rw[e1,e2]
 rw[s1]at o2
 have p1:=(o1.gone b2)
 have p2:=o2
 have B0:=(b1.trans (b2.mono b1.size))
 have hS:∀w',HeldQ w [(w.heap.size,[.bool (decide (x.num<0)),.slice Ax1 (digs Qa x.num.natAbs).length cx1,.slice Ax2 (digs Qa (Qo x.den)).length cx2],38),(w.heap.size+1,[.bool (decide (x.num<0)),.slice Ay1 (digs Qd x.num.natAbs).length cy1,.slice Ay2 (digs Qd x.den).length cy2],42)] w'→HeldQ w [(w.heap.size,[.bool (decide (x.num<0)),.slice Ax1 (digs Qa x.num.natAbs).length cx1,.slice Ax2 (digs Qa (Qo x.den)).length cx2],38),(w.heap.size+1,[.bool (decide (x.num<0)),.slice Ay1 (digs Qd x.num.natAbs).length cy1,.slice Ay2 (digs Qd x.den).length cy2],42)] w'∧w'.cell? ⟨w.heap.size,0,none⟩=some (.bool (decide (x.num<0)))∧w'.cell? ⟨w.heap.size,1,none⟩=some (.slice Ax1 (digs Qa x.num.natAbs).length cx1)∧w'.cell? ⟨w.heap.size,2,none⟩=some (.slice Ax2 (digs Qa (Qo x.den)).length cx2)∧w'.cell? ⟨w.heap.size+1,0,none⟩=some (.bool (decide (x.num<0)))∧w'.cell? ⟨w.heap.size+1,1,none⟩=some (.slice Ay1 (digs Qd x.num.natAbs).length cy1)∧w'.cell? ⟨w.heap.size+1,2,none⟩=some (.slice Ay2 (digs Qd x.den).length cy2):=fun w' hh=>by
  have r1:=hh.at_ (p:=(w.heap.size,[.bool (decide (x.num<0)),.slice Ax1 (digs Qa x.num.natAbs).length cx1,.slice Ax2 (digs Qa (Qo x.den)).length cx2],38)) (by simp)
  have r2:=hh.at_ (p:=(w.heap.size+1,[.bool (decide (x.num<0)),.slice Ay1 (digs Qd x.num.natAbs).length cy1,.slice Ay2 (digs Qd x.den).length cy2],42)) (by simp)
  exact⟨hh,r1.cell (i:=0) rfl,r1.cell (i:=1) rfl,r1.cell (i:=2) rfl,r2.cell (i:=0) rfl,r2.cell (i:=1) rfl,r2.cell (i:=2) rfl⟩
 have hz:HeldQ w [(w.heap.size,[.bool (decide (x.num<0)),.slice Ax1 (digs Qa x.num.natAbs).length cx1,.slice Ax2 (digs Qa (Qo x.den)).length cx2],38),(w.heap.size+1,[.bool (decide (x.num<0)),.slice Ay1 (digs Qd x.num.natAbs).length cy1,.slice Ay2 (digs Qd x.den).length cy2],42)] w2:=⟨B0,by intro q hq; simp at hq; rcases hq with rfl|rfl; exact p1; exact p2⟩
 clear e1 e2 o1 b1 s1 p1 o2 b2 s2 p2
 clear B0
 have hz:=hz.drew
 go_region_held3 (fun w'=>HeldQ w [(w.heap.size,[.bool (decide (x.num<0)),.slice Ax1 (digs Qa x.num.natAbs).length cx1,.slice Ax2 (digs Qa (Qo x.den)).length cx2],38),(w.heap.size+1,[.bool (decide (x.num<0)),.slice Ay1 (digs Qd x.num.natAbs).length cy1,.slice Ay2 (digs Qd x.den).length cy2],42)] w'∧w'.cell? ⟨w.heap.size,0,none⟩=some (.bool (decide (x.num<0)))∧w'.cell? ⟨w.heap.size,1,none⟩=some (.slice Ax1 (digs Qa x.num.natAbs).length cx1)∧w'.cell? ⟨w.heap.size,2,none⟩=some (.slice Ax2 (digs Qa (Qo x.den)).length cx2)∧w'.cell? ⟨w.heap.size+1,0,none⟩=some (.bool (decide (x.num<0)))∧w'.cell? ⟨w.heap.size+1,1,none⟩=some (.slice Ay1 (digs Qd x.num.natAbs).length cy1)∧w'.cell? ⟨w.heap.size+1,2,none⟩=some (.slice Ay2 (digs Qd x.den).length cy2))
  (exact hS _ hz)
  (first
   |(go_at_call 34; (with_reducible refine Calls.mono (Qdm _ _ x (hx0.below hz.b) HB.out hj1) ?_); rintro e wz ⟨rfl,hb⟩; have hz:=HeldQ.call (And.intro hz trivial) hb)
   |(go_at_call 64; (with_reducible refine Calls.mono (ntext_num _ _ x (hy0.below hz.b) HB.out hj1) ?_); rintro e wz ⟨rfl,hb⟩; have hz:=HeldQ.call (And.intro hz trivial) hb))
 all_goals (
  go_wp2
  go_ret
  exact⟨rfl,hz.b⟩)
end Wx

namespace Wx
set_option maxRecDepth 100000
open Go Go.RowKit Go.Proofs

def J7 (k:Int):Nat:=(min (max k 0) 256).toNat
theorem Qfs (k:Int):min (max k 0) 256=((J7 k:Nat):Int)∧J7 k≤256:=by unfold J7; omega
def downQ (x:Rat) (k:Int):Nat:=x.num.natAbs*2^J7 k/x.den+(if x.num<0∧0<x.num.natAbs*2^J7 k%x.den then 1 else 0)
def Qav (x:Rat) (k:Int):Rat:=Yf (decide (x.num<0)) (downQ x k) (2^J7 k)
set_option maxHeartbeats 8000000 in
theorem down_a (w:World) (vx:Value) (x:Rat) (k:Int) (hx:IsRat w vx x) {j:Nat} (hj:BdR j x) (hjk:j≤10000000) (hn:x.num<0) (hr:0<x.num.natAbs*2^J7 k%x.den):Calls Tryz.prog 78 #[vx,.int .i64 k] w (RetRat w (Qav x k)):=by
 obtain⟨vx1,vx2,rfl,hxa,hxb⟩:=id hx
 obtain⟨Ax1,cx1,rfl,_⟩:=id hxa
 obtain⟨Ax2,cx2,rfl,_⟩:=id hxb
 obtain⟨hk1,hk2⟩:=Qfs k
 have hq:downQ x k=x.num.natAbs*2^J7 k/x.den+1:=by
  unfold downQ
  rw[if_pos ⟨hn,hr⟩]
 have hf:decide (x.num<0)=true:=decide_eq_true hn
 have hd:Qav x k=Yf true (x.num.natAbs*2^J7 k/x.den+1) (2^J7 k):=by unfold Qav; rw[hq,hf]
 have HDN:=bx hd
 have hdx:=x.den_pos
 generalize J7 k=K at *
 have b0:Bd 257 (2^K):=Bd.pow2 (by omega)
 have b1:Bd (j+257) (x.num.natAbs*2^K):=hj.1.mul b0
 have b2:Bd (j+257) (x.num.natAbs*2^K/x.den):=b1.le (Nat.div_le_self _ _)
 have b3:Bd (j+259) (x.num.natAbs*2^K/x.den+1):=(b2.add (show Bd 1 1 by unfold Bd; omega)).mono (by omega)
 have HB:=bx (And.intro hj (And.intro b0 (And.intro b1 (And.intro b2 b3))))
 have HK:=bx hk1
 have HK2:=bx hk2
 have hjj:j+257≤100000000:=by omega
 have hjj2:j+257≤1000000000:=by omega
 have hjj3:j+259≤100000000:=by omega
 have hj9:j≤1000000000:=by omega
 have HP:Bx (0<2^K):=bx (Nat.two_pow_pos K)
 have HR:Bx ((0:Int)<((digs Qa (x.num.natAbs*2^K%x.den)).length:Int)):=bx (by have:=(Xh (n:=x.num.natAbs*2^K%x.den) Qu).2 hr; omega)
 rw[hf]at *
 clear b0 b1 b2 b3 hk1 hk2 hd hq hj hf hn hr
 go_enter Tryz.func78,Tryz.ntmps78
 go_wp2_with fail
 rw[HK.out]
 obtain⟨w1,e1,o1,b1,s1⟩:=Js w (.bool true) (.slice Ax1 (digs Qa x.num.natAbs).length cx1) (.slice Ax2 (digs Qa (Qo x.den)).length cx2) 38
 obtain⟨w2,e2,o2,b2,s2⟩:=Js w1 (.bool false) (.slice none 0 0) (.slice none 0 0) 38
 rw[e1,e2]
 rw[s1]at o2
 have p1:=(o1.gone b2)
 have p2:=o2
 have B0:=(b1.trans (b2.mono b1.size))
 have hS:∀w',HeldR w (w.heap.size+1) 38 [(w.heap.size,.bool true,.slice Ax1 (digs Qa x.num.natAbs).length cx1,.slice Ax2 (digs Qa (Qo x.den)).length cx2)] w'→HeldR w (w.heap.size+1) 38 [(w.heap.size,.bool true,.slice Ax1 (digs Qa x.num.natAbs).length cx1,.slice Ax2 (digs Qa (Qo x.den)).length cx2)] w'∧w'.cell? ⟨w.heap.size,0,none⟩=some (.bool true)∧w'.cell? ⟨w.heap.size,1,none⟩=some (.slice Ax1 (digs Qa x.num.natAbs).length cx1)∧w'.cell? ⟨w.heap.size,2,none⟩=some (.slice Ax2 (digs Qa (Qo x.den)).length cx2)∧w'.cell? ⟨w.heap.size+1,0,none⟩=some (cv w' ⟨w.heap.size+1,0,none⟩)∧w'.cell? ⟨w.heap.size+1,1,none⟩=some (cv w' ⟨w.heap.size+1,1,none⟩)∧w'.cell? ⟨w.heap.size+1,2,none⟩=some (cv w' ⟨w.heap.size+1,2,none⟩)∧w'.frozen? ⟨w.heap.size+1,0,none⟩=false∧w'.frozen? ⟨w.heap.size+1,1,none⟩=false∧w'.frozen? ⟨w.heap.size+1,2,none⟩=false:=fun w' hh=>by
  obtain⟨f0,f1,f2,f3,f4,f5⟩:=hh.cells
  have q1:=(hh.2.2.1 (w.heap.size,.bool true,.slice Ax1 (digs Qa x.num.natAbs).length cx1,.slice Ax2 (digs Qa (Qo x.den)).length cx2) (by simp)).2
  exact⟨hh,q1.c0,q1.c1,q1.c2,f0,f1,f2,f3,f4,f5⟩
 have H0:HeldR w (w.heap.size+1) 38 [(w.heap.size,.bool true,.slice Ax1 (digs Qa x.num.natAbs).length cx1,.slice Ax2 (digs Qa (Qo x.den)).length cx2)] w2:=⟨B0,by omega,by intro p hp; simp at hp; subst hp; exact⟨by simp,p1⟩,_,_,_,p2,Y3 _,Xi _ _ _,Xi _ _ _⟩
 clear e1 e2
 have hz:=H0.drew
 go_region_held3 (fun w'=>HeldR w (w.heap.size+1) 38 [(w.heap.size,.bool true,.slice Ax1 (digs Qa x.num.natAbs).length cx1,.slice Ax2 (digs Qa (Qo x.den)).length cx2)] w'∧w'.cell? ⟨w.heap.size,0,none⟩=some (.bool true)∧w'.cell? ⟨w.heap.size,1,none⟩=some (.slice Ax1 (digs Qa x.num.natAbs).length cx1)∧w'.cell? ⟨w.heap.size,2,none⟩=some (.slice Ax2 (digs Qa (Qo x.den)).length cx2)∧w'.cell? ⟨w.heap.size+1,0,none⟩=some (cv w' ⟨w.heap.size+1,0,none⟩)∧w'.cell? ⟨w.heap.size+1,1,none⟩=some (cv w' ⟨w.heap.size+1,1,none⟩)∧w'.cell? ⟨w.heap.size+1,2,none⟩=some (cv w' ⟨w.heap.size+1,2,none⟩)∧w'.frozen? ⟨w.heap.size+1,0,none⟩=false∧w'.frozen? ⟨w.heap.size+1,1,none⟩=false∧w'.frozen? ⟨w.heap.size+1,2,none⟩=false)
  (first|exact hS _ hz|exact hS _ (HeldR.sets (by assumption) _ _ _ _ _ _ _))
  (first
   |(go_at_call 114; have hc:=Qah _ _ x.num.natAbs K (hxa.below hz.1) HB.out.1.1 hj9 (Nat.le_trans HK2.out (by omega)); (with_reducible refine Calls.mono hc ?_); clear hc; rintro e wz ⟨vl,rfl,hl,hb⟩; (try have hux:=hux.below hb); (try have hl:=hl.below hb); (try have hq:=hq.below hb); (try have hr:=hr.below hb); (try have hp:=hp.below hb); (try have ho:=ho.below hb); have hz:=HeldR.call (by assumption) hb)
   |(go_at_call 97; have hc:=Uv _ _ x.den (hxb.below hz.1) hdx; (with_reducible refine Calls.mono hc ?_); clear hc; rintro e wz ⟨vu,rfl,hux,hb⟩; (try have hux:=hux.below hb); (try have hl:=hl.below hb); (try have hq:=hq.below hb); (try have hr:=hr.below hb); (try have hp:=hp.below hb); (try have ho:=ho.below hb); have hz:=HeldR.call (by assumption) hb)
   |(go_at_call 105; have hc:=Wq _ _ _ _ _ hl hux hdx HB.out.2.2.1 hjj; (with_reducible refine Calls.mono hc ?_); clear hc; rintro e wz ⟨vq,vr,rfl,hq,hr,hb⟩; (try have hux:=hux.below hb); (try have hl:=hl.below hb); (try have hq:=hq.below hb); (try have hr:=hr.below hb); (try have hp:=hp.below hb); (try have ho:=ho.below hb); have hz:=HeldR.call (by assumption) hb))
 all_goals (
  obtain⟨Ar,cr,rfl,_⟩:=id hr
  have HL:(0:Int)<((digs Qa (x.num.natAbs*2^K%x.den)).length:Int):=HR.out
  obtain⟨_,k0,k1,k2,k3,k4,k5,_⟩:=hS _ hz
  go_wp2_with fail
  refine(Vd _ 1 (by unfold Qa; omega)).mono ?_
  rintro e wz ⟨vo,rfl,ho,hb⟩
  have hq:=hq.below hb
  have hz:=HeldR.call (And.intro hz trivial) hb
  clear k0 k1 k2 k3 k4 k5
  obtain⟨_,k0,k1,k2,k3,k4,k5,_⟩:=hS _ hz
  go_wp2_with fail
  refine(plus_num _ _ _ _ _ hq ho HB.out.2.2.2.1 (show Bd 1 1 by unfold Bd; omega) hjj2 (by omega)).mono ?_
  rintro e wz ⟨vp,rfl,hq,hb⟩
  have hz:=HeldR.call (And.intro hz trivial) hb
  clear k0 k1 k2 k3 k4 k5
  obtain⟨_,k0,k1,k2,k3,k4,k5,_⟩:=hS _ hz
  go_wp2_with fail
  clear k0 k1 k2 k3 k4 k5
  have hz:=hz.drew
  have hq:=hq.drew
  go_region_held3 (fun w'=>HeldR w (w.heap.size+1) 38 [(w.heap.size,.bool true,.slice Ax1 (digs Qa x.num.natAbs).length cx1,.slice Ax2 (digs Qa (Qo x.den)).length cx2)] w'∧w'.cell? ⟨w.heap.size,0,none⟩=some (.bool true)∧w'.cell? ⟨w.heap.size,1,none⟩=some (.slice Ax1 (digs Qa x.num.natAbs).length cx1)∧w'.cell? ⟨w.heap.size,2,none⟩=some (.slice Ax2 (digs Qa (Qo x.den)).length cx2)∧w'.cell? ⟨w.heap.size+1,0,none⟩=some (cv w' ⟨w.heap.size+1,0,none⟩)∧w'.cell? ⟨w.heap.size+1,1,none⟩=some (cv w' ⟨w.heap.size+1,1,none⟩)∧w'.cell? ⟨w.heap.size+1,2,none⟩=some (cv w' ⟨w.heap.size+1,2,none⟩)∧w'.frozen? ⟨w.heap.size+1,0,none⟩=false∧w'.frozen? ⟨w.heap.size+1,1,none⟩=false∧w'.frozen? ⟨w.heap.size+1,2,none⟩=false)
   (first|exact hS _ hz|exact hS _ (HeldR.sets (by assumption) _ _ _ _ _ _ _))
   (first
    |(go_at_call 106; refine Calls.mono (Vd _ 1 (by unfold Qa; omega)) ?_; rintro e wz ⟨vo1,rfl,ho,hb⟩; have hq:=hq.below hb; have hz:=HeldR.call (by assumption) hb)
    |(go_at_call 114; have hc:=Qah _ _ 1 K ho (show Bd 1 1 by unfold Bd; omega) (by omega) (Nat.le_trans HK2.out (by omega)); (with_reducible refine Calls.mono hc ?_); clear hc; rintro e wz ⟨vp,rfl,hp,hb⟩; (try have hux:=hux.below hb); (try have hl:=hl.below hb); (try have hq:=hq.below hb); (try have hr:=hr.below hb); (try have hp:=hp.below hb); (try have ho:=ho.below hb); have hz:=HeldR.call (by assumption) hb)
    |(go_at_call 70; have hc:=Wa _ (true) _ _ _ _ hq hp (by rw[Nat.one_mul]; exact HP.out) HB.out.2.2.2.2 (by rw[Nat.one_mul]; exact HB.out.2.1.mono (by omega)) hjj3; (with_reducible refine Calls.mono hc ?_); clear hc; rintro e wz ⟨vr2,rfl,hrr,hb⟩; rw[Nat.one_mul,← HDN.out]at hrr; obtain⟨vrn,vrd,rfl,hrn,hrd⟩:=hrr; obtain⟨Ar1,cr1,rfl,_⟩:=id hrn; obtain⟨Ar2,cr2,rfl,_⟩:=id hrd; (try have hux:=hux.below hb); (try have hl:=hl.below hb); (try have hq:=hq.below hb); (try have hr:=hr.below hb); (try have hp:=hp.below hb); (try have ho:=ho.below hb); have hz:=HeldR.call (by assumption) hb))
  all_goals (
   go_wp2
   obtain⟨wf,HW,f0,f1,f2,hfin⟩:=hz.fin rfl hrn hrd
   (try rw[HW])
   (try simp only[Exit.inBlock,Exit.then])
   refine bodyPost_ret (by simp[results,Tryz.results78,go_sem,f0,f1,f2]; try rfl) rfl ?_
   first|exact hfin|exact hfin.drew))
set_option maxHeartbeats 8000000 in
theorem down_b (w:World) (vx:Value) (x:Rat) (k:Int) (hx:IsRat w vx x) {j:Nat} (hj:BdR j x) (hjk:j≤10000000) (hn:x.num<0) (hr:¬0<x.num.natAbs*2^J7 k%x.den):Calls Tryz.prog 78 #[vx,.int .i64 k] w (RetRat w (Qav x k)):=by
 obtain⟨vx1,vx2,rfl,hxa,hxb⟩:=id hx
 obtain⟨Ax1,cx1,rfl,_⟩:=id hxa
 obtain⟨Ax2,cx2,rfl,_⟩:=id hxb
 obtain⟨hk1,hk2⟩:=Qfs k
 have hq:downQ x k=x.num.natAbs*2^J7 k/x.den:=by
  unfold downQ
  rw[if_neg (fun h=>hr h.2),Nat.add_zero]
 have hf:decide (x.num<0)=true:=decide_eq_true hn
 have hd:Qav x k=Yf true (x.num.natAbs*2^J7 k/x.den) (2^J7 k):=by unfold Qav; rw[hq,hf]
 have HDN:=bx hd
 have hdx:=x.den_pos
 generalize J7 k=K at *
 have b0:Bd 257 (2^K):=Bd.pow2 (by omega)
 have b1:Bd (j+257) (x.num.natAbs*2^K):=hj.1.mul b0
 have b2:Bd (j+257) (x.num.natAbs*2^K/x.den):=b1.le (Nat.div_le_self _ _)
 have b3:Bd (j+259) (x.num.natAbs*2^K/x.den):=b2.mono (by omega)
 have HB:=bx (And.intro hj (And.intro b0 (And.intro b1 (And.intro b2 b3))))
 have HK:=bx hk1
 have HK2:=bx hk2
 have hjj:j+257≤100000000:=by omega
 have hjj2:j+257≤1000000000:=by omega
 have hjj3:j+259≤100000000:=by omega
 have hj9:j≤1000000000:=by omega
 have HP:Bx (0<2^K):=bx (Nat.two_pow_pos K)
 have HR:Bx (x.num.natAbs*2^K%x.den=0):=bx (by omega)
 rw[hf]at *
 clear b0 b1 b2 b3 hk1 hk2 hd hq hj hf hn hr
 go_enter Tryz.func78,Tryz.ntmps78
 go_wp2_with fail
 rw[HK.out]
 obtain⟨w1,e1,o1,b1,s1⟩:=Js w (.bool true) (.slice Ax1 (digs Qa x.num.natAbs).length cx1) (.slice Ax2 (digs Qa (Qo x.den)).length cx2) 38
 obtain⟨w2,e2,o2,b2,s2⟩:=Js w1 (.bool false) (.slice none 0 0) (.slice none 0 0) 38
 rw[e1,e2]
 rw[s1]at o2
 have p1:=(o1.gone b2)
 have p2:=o2
 have B0:=(b1.trans (b2.mono b1.size))
 have hS:∀w',HeldR w (w.heap.size+1) 38 [(w.heap.size,.bool true,.slice Ax1 (digs Qa x.num.natAbs).length cx1,.slice Ax2 (digs Qa (Qo x.den)).length cx2)] w'→HeldR w (w.heap.size+1) 38 [(w.heap.size,.bool true,.slice Ax1 (digs Qa x.num.natAbs).length cx1,.slice Ax2 (digs Qa (Qo x.den)).length cx2)] w'∧w'.cell? ⟨w.heap.size,0,none⟩=some (.bool true)∧w'.cell? ⟨w.heap.size,1,none⟩=some (.slice Ax1 (digs Qa x.num.natAbs).length cx1)∧w'.cell? ⟨w.heap.size,2,none⟩=some (.slice Ax2 (digs Qa (Qo x.den)).length cx2)∧w'.cell? ⟨w.heap.size+1,0,none⟩=some (cv w' ⟨w.heap.size+1,0,none⟩)∧w'.cell? ⟨w.heap.size+1,1,none⟩=some (cv w' ⟨w.heap.size+1,1,none⟩)∧w'.cell? ⟨w.heap.size+1,2,none⟩=some (cv w' ⟨w.heap.size+1,2,none⟩)∧w'.frozen? ⟨w.heap.size+1,0,none⟩=false∧w'.frozen? ⟨w.heap.size+1,1,none⟩=false∧w'.frozen? ⟨w.heap.size+1,2,none⟩=false:=fun w' hh=>by
  obtain⟨f0,f1,f2,f3,f4,f5⟩:=hh.cells
  have q1:=(hh.2.2.1 (w.heap.size,.bool true,.slice Ax1 (digs Qa x.num.natAbs).length cx1,.slice Ax2 (digs Qa (Qo x.den)).length cx2) (by simp)).2
  exact⟨hh,q1.c0,q1.c1,q1.c2,f0,f1,f2,f3,f4,f5⟩
 have H0:HeldR w (w.heap.size+1) 38 [(w.heap.size,.bool true,.slice Ax1 (digs Qa x.num.natAbs).length cx1,.slice Ax2 (digs Qa (Qo x.den)).length cx2)] w2:=⟨B0,by omega,by intro p hp; simp at hp; subst hp; exact⟨by simp,p1⟩,_,_,_,p2,Y3 _,Xi _ _ _,Xi _ _ _⟩
 clear e1 e2
 have hz:=H0.drew
 go_region_held3 (fun w'=>HeldR w (w.heap.size+1) 38 [(w.heap.size,.bool true,.slice Ax1 (digs Qa x.num.natAbs).length cx1,.slice Ax2 (digs Qa (Qo x.den)).length cx2)] w'∧w'.cell? ⟨w.heap.size,0,none⟩=some (.bool true)∧w'.cell? ⟨w.heap.size,1,none⟩=some (.slice Ax1 (digs Qa x.num.natAbs).length cx1)∧w'.cell? ⟨w.heap.size,2,none⟩=some (.slice Ax2 (digs Qa (Qo x.den)).length cx2)∧w'.cell? ⟨w.heap.size+1,0,none⟩=some (cv w' ⟨w.heap.size+1,0,none⟩)∧w'.cell? ⟨w.heap.size+1,1,none⟩=some (cv w' ⟨w.heap.size+1,1,none⟩)∧w'.cell? ⟨w.heap.size+1,2,none⟩=some (cv w' ⟨w.heap.size+1,2,none⟩)∧w'.frozen? ⟨w.heap.size+1,0,none⟩=false∧w'.frozen? ⟨w.heap.size+1,1,none⟩=false∧w'.frozen? ⟨w.heap.size+1,2,none⟩=false)
  (first|exact hS _ hz|exact hS _ (HeldR.sets (by assumption) _ _ _ _ _ _ _))
  (first
   |(go_at_call 114; have hc:=Qah _ _ x.num.natAbs K (hxa.below hz.1) HB.out.1.1 hj9 (Nat.le_trans HK2.out (by omega)); (with_reducible refine Calls.mono hc ?_); clear hc; rintro e wz ⟨vl,rfl,hl,hb⟩; (try have hux:=hux.below hb); (try have hl:=hl.below hb); (try have hq:=hq.below hb); (try have hr:=hr.below hb); (try have hp:=hp.below hb); (try have ho:=ho.below hb); have hz:=HeldR.call (by assumption) hb)
   |(go_at_call 97; have hc:=Uv _ _ x.den (hxb.below hz.1) hdx; (with_reducible refine Calls.mono hc ?_); clear hc; rintro e wz ⟨vu,rfl,hux,hb⟩; (try have hux:=hux.below hb); (try have hl:=hl.below hb); (try have hq:=hq.below hb); (try have hr:=hr.below hb); (try have hp:=hp.below hb); (try have ho:=ho.below hb); have hz:=HeldR.call (by assumption) hb)
   |(go_at_call 105; have hc:=Wq _ _ _ _ _ hl hux hdx HB.out.2.2.1 hjj; (with_reducible refine Calls.mono hc ?_); clear hc; rintro e wz ⟨vq,vr,rfl,hq,hr,hb⟩; (try have hux:=hux.below hb); (try have hl:=hl.below hb); (try have hq:=hq.below hb); (try have hr:=hr.below hb); (try have hp:=hp.below hb); (try have ho:=ho.below hb); have hz:=HeldR.call (by assumption) hb))
 all_goals (
  obtain⟨Ar,cr,rfl,_⟩:=id hr
  have HL:(digs Qa (x.num.natAbs*2^K%x.den)).length=0:=by rw[HR.out]; rfl
  obtain⟨_,k0,k1,k2,k3,k4,k5,_⟩:=hS _ hz
  go_wp2_with fail
  clear k0 k1 k2 k3 k4 k5
  have hz:=hz.drew
  have hq:=hq.drew
  go_region_held3 (fun w'=>HeldR w (w.heap.size+1) 38 [(w.heap.size,.bool true,.slice Ax1 (digs Qa x.num.natAbs).length cx1,.slice Ax2 (digs Qa (Qo x.den)).length cx2)] w'∧w'.cell? ⟨w.heap.size,0,none⟩=some (.bool true)∧w'.cell? ⟨w.heap.size,1,none⟩=some (.slice Ax1 (digs Qa x.num.natAbs).length cx1)∧w'.cell? ⟨w.heap.size,2,none⟩=some (.slice Ax2 (digs Qa (Qo x.den)).length cx2)∧w'.cell? ⟨w.heap.size+1,0,none⟩=some (cv w' ⟨w.heap.size+1,0,none⟩)∧w'.cell? ⟨w.heap.size+1,1,none⟩=some (cv w' ⟨w.heap.size+1,1,none⟩)∧w'.cell? ⟨w.heap.size+1,2,none⟩=some (cv w' ⟨w.heap.size+1,2,none⟩)∧w'.frozen? ⟨w.heap.size+1,0,none⟩=false∧w'.frozen? ⟨w.heap.size+1,1,none⟩=false∧w'.frozen? ⟨w.heap.size+1,2,none⟩=false)
   (first|exact hS _ hz|exact hS _ (HeldR.sets (by assumption) _ _ _ _ _ _ _))
   (first
    |(go_at_call 106; refine Calls.mono (Vd _ 1 (by unfold Qa; omega)) ?_; rintro e wz ⟨vo1,rfl,ho,hb⟩; have hq:=hq.below hb; have hz:=HeldR.call (by assumption) hb)
    |(go_at_call 114; have hc:=Qah _ _ 1 K ho (show Bd 1 1 by unfold Bd; omega) (by omega) (Nat.le_trans HK2.out (by omega)); (with_reducible refine Calls.mono hc ?_); clear hc; rintro e wz ⟨vp,rfl,hp,hb⟩; (try have hux:=hux.below hb); (try have hl:=hl.below hb); (try have hq:=hq.below hb); (try have hr:=hr.below hb); (try have hp:=hp.below hb); (try have ho:=ho.below hb); have hz:=HeldR.call (by assumption) hb)
    |(go_at_call 70; have hc:=Wa _ (true) _ _ _ _ hq hp (by rw[Nat.one_mul]; exact HP.out) HB.out.2.2.2.2 (by rw[Nat.one_mul]; exact HB.out.2.1.mono (by omega)) hjj3; (with_reducible refine Calls.mono hc ?_); clear hc; rintro e wz ⟨vr2,rfl,hrr,hb⟩; rw[Nat.one_mul,← HDN.out]at hrr; obtain⟨vrn,vrd,rfl,hrn,hrd⟩:=hrr; obtain⟨Ar1,cr1,rfl,_⟩:=id hrn; obtain⟨Ar2,cr2,rfl,_⟩:=id hrd; (try have hux:=hux.below hb); (try have hl:=hl.below hb); (try have hq:=hq.below hb); (try have hr:=hr.below hb); (try have hp:=hp.below hb); (try have ho:=ho.below hb); have hz:=HeldR.call (by assumption) hb))
  all_goals (
   go_wp2
   obtain⟨wf,HW,f0,f1,f2,hfin⟩:=hz.fin rfl hrn hrd
   (try rw[HW])
   (try simp only[Exit.inBlock,Exit.then])
   refine bodyPost_ret (by simp[results,Tryz.results78,go_sem,f0,f1,f2]; try rfl) rfl ?_
   first|exact hfin|exact hfin.drew))
set_option maxHeartbeats 8000000 in
theorem down_c (w:World) (vx:Value) (x:Rat) (k:Int) (hx:IsRat w vx x) {j:Nat} (hj:BdR j x) (hjk:j≤10000000) (hn:¬x.num<0):Calls Tryz.prog 78 #[vx,.int .i64 k] w (RetRat w (Qav x k)):=by
 obtain⟨vx1,vx2,rfl,hxa,hxb⟩:=id hx
 obtain⟨Ax1,cx1,rfl,_⟩:=id hxa
 obtain⟨Ax2,cx2,rfl,_⟩:=id hxb
 obtain⟨hk1,hk2⟩:=Qfs k
 have hq:downQ x k=x.num.natAbs*2^J7 k/x.den:=by
  unfold downQ
  rw[if_neg (fun h=>hn h.1),Nat.add_zero]
 have hf:decide (x.num<0)=false:=decide_eq_false hn
 have hd:Qav x k=Yf false (x.num.natAbs*2^J7 k/x.den) (2^J7 k):=by unfold Qav; rw[hq,hf]
 have HDN:=bx hd
 have hdx:=x.den_pos
 generalize J7 k=K at *
 have b0:Bd 257 (2^K):=Bd.pow2 (by omega)
 have b1:Bd (j+257) (x.num.natAbs*2^K):=hj.1.mul b0
 have b2:Bd (j+257) (x.num.natAbs*2^K/x.den):=b1.le (Nat.div_le_self _ _)
 have b3:Bd (j+259) (x.num.natAbs*2^K/x.den):=b2.mono (by omega)
 have HB:=bx (And.intro hj (And.intro b0 (And.intro b1 (And.intro b2 b3))))
 have HK:=bx hk1
 have HK2:=bx hk2
 have hjj:j+257≤100000000:=by omega
 have hjj2:j+257≤1000000000:=by omega
 have hjj3:j+259≤100000000:=by omega
 have hj9:j≤1000000000:=by omega
 have HP:Bx (0<2^K):=bx (Nat.two_pow_pos K)
 rw[hf]at *
 clear b0 b1 b2 b3 hk1 hk2 hd hq hj hf hn
 go_enter Tryz.func78,Tryz.ntmps78
 go_wp2_with fail
 rw[HK.out]
 obtain⟨w1,e1,o1,b1,s1⟩:=Js w (.bool false) (.slice Ax1 (digs Qa x.num.natAbs).length cx1) (.slice Ax2 (digs Qa (Qo x.den)).length cx2) 38
 obtain⟨w2,e2,o2,b2,s2⟩:=Js w1 (.bool false) (.slice none 0 0) (.slice none 0 0) 38
 rw[e1,e2]
 rw[s1]at o2
 have p1:=(o1.gone b2)
 have p2:=o2
 have B0:=(b1.trans (b2.mono b1.size))
 have hS:∀w',HeldR w (w.heap.size+1) 38 [(w.heap.size,.bool false,.slice Ax1 (digs Qa x.num.natAbs).length cx1,.slice Ax2 (digs Qa (Qo x.den)).length cx2)] w'→HeldR w (w.heap.size+1) 38 [(w.heap.size,.bool false,.slice Ax1 (digs Qa x.num.natAbs).length cx1,.slice Ax2 (digs Qa (Qo x.den)).length cx2)] w'∧w'.cell? ⟨w.heap.size,0,none⟩=some (.bool false)∧w'.cell? ⟨w.heap.size,1,none⟩=some (.slice Ax1 (digs Qa x.num.natAbs).length cx1)∧w'.cell? ⟨w.heap.size,2,none⟩=some (.slice Ax2 (digs Qa (Qo x.den)).length cx2)∧w'.cell? ⟨w.heap.size+1,0,none⟩=some (cv w' ⟨w.heap.size+1,0,none⟩)∧w'.cell? ⟨w.heap.size+1,1,none⟩=some (cv w' ⟨w.heap.size+1,1,none⟩)∧w'.cell? ⟨w.heap.size+1,2,none⟩=some (cv w' ⟨w.heap.size+1,2,none⟩)∧w'.frozen? ⟨w.heap.size+1,0,none⟩=false∧w'.frozen? ⟨w.heap.size+1,1,none⟩=false∧w'.frozen? ⟨w.heap.size+1,2,none⟩=false:=fun w' hh=>by
  obtain⟨f0,f1,f2,f3,f4,f5⟩:=hh.cells
  have q1:=(hh.2.2.1 (w.heap.size,.bool false,.slice Ax1 (digs Qa x.num.natAbs).length cx1,.slice Ax2 (digs Qa (Qo x.den)).length cx2) (by simp)).2
  exact⟨hh,q1.c0,q1.c1,q1.c2,f0,f1,f2,f3,f4,f5⟩
 have H0:HeldR w (w.heap.size+1) 38 [(w.heap.size,.bool false,.slice Ax1 (digs Qa x.num.natAbs).length cx1,.slice Ax2 (digs Qa (Qo x.den)).length cx2)] w2:=⟨B0,by omega,by intro p hp; simp at hp; subst hp; exact⟨by simp,p1⟩,_,_,_,p2,Y3 _,Xi _ _ _,Xi _ _ _⟩
 clear e1 e2
 have hz:=H0.drew
 go_region_held3 (fun w'=>HeldR w (w.heap.size+1) 38 [(w.heap.size,.bool false,.slice Ax1 (digs Qa x.num.natAbs).length cx1,.slice Ax2 (digs Qa (Qo x.den)).length cx2)] w'∧w'.cell? ⟨w.heap.size,0,none⟩=some (.bool false)∧w'.cell? ⟨w.heap.size,1,none⟩=some (.slice Ax1 (digs Qa x.num.natAbs).length cx1)∧w'.cell? ⟨w.heap.size,2,none⟩=some (.slice Ax2 (digs Qa (Qo x.den)).length cx2)∧w'.cell? ⟨w.heap.size+1,0,none⟩=some (cv w' ⟨w.heap.size+1,0,none⟩)∧w'.cell? ⟨w.heap.size+1,1,none⟩=some (cv w' ⟨w.heap.size+1,1,none⟩)∧w'.cell? ⟨w.heap.size+1,2,none⟩=some (cv w' ⟨w.heap.size+1,2,none⟩)∧w'.frozen? ⟨w.heap.size+1,0,none⟩=false∧w'.frozen? ⟨w.heap.size+1,1,none⟩=false∧w'.frozen? ⟨w.heap.size+1,2,none⟩=false)
  (first|exact hS _ hz|exact hS _ (HeldR.sets (by assumption) _ _ _ _ _ _ _))
  (first
   |(go_at_call 114; have hc:=Qah _ _ x.num.natAbs K (hxa.below hz.1) HB.out.1.1 hj9 (Nat.le_trans HK2.out (by omega)); (with_reducible refine Calls.mono hc ?_); clear hc; rintro e wz ⟨vl,rfl,hl,hb⟩; (try have hux:=hux.below hb); (try have hl:=hl.below hb); (try have hq:=hq.below hb); (try have hr:=hr.below hb); (try have hp:=hp.below hb); (try have ho:=ho.below hb); have hz:=HeldR.call (by assumption) hb)
   |(go_at_call 97; have hc:=Uv _ _ x.den (hxb.below hz.1) hdx; (with_reducible refine Calls.mono hc ?_); clear hc; rintro e wz ⟨vu,rfl,hux,hb⟩; (try have hux:=hux.below hb); (try have hl:=hl.below hb); (try have hq:=hq.below hb); (try have hr:=hr.below hb); (try have hp:=hp.below hb); (try have ho:=ho.below hb); have hz:=HeldR.call (by assumption) hb)
   |(go_at_call 105; have hc:=Wq _ _ _ _ _ hl hux hdx HB.out.2.2.1 hjj; (with_reducible refine Calls.mono hc ?_); clear hc; rintro e wz ⟨vq,vr,rfl,hq,hr,hb⟩; (try have hux:=hux.below hb); (try have hl:=hl.below hb); (try have hq:=hq.below hb); (try have hr:=hr.below hb); (try have hp:=hp.below hb); (try have ho:=ho.below hb); have hz:=HeldR.call (by assumption) hb))
 all_goals (
  obtain⟨_,k0,k1,k2,k3,k4,k5,_⟩:=hS _ hz
  go_wp2_with fail
  clear k0 k1 k2 k3 k4 k5
  have hz:=hz.drew
  have hq:=hq.drew
  go_region_held3 (fun w'=>HeldR w (w.heap.size+1) 38 [(w.heap.size,.bool false,.slice Ax1 (digs Qa x.num.natAbs).length cx1,.slice Ax2 (digs Qa (Qo x.den)).length cx2)] w'∧w'.cell? ⟨w.heap.size,0,none⟩=some (.bool false)∧w'.cell? ⟨w.heap.size,1,none⟩=some (.slice Ax1 (digs Qa x.num.natAbs).length cx1)∧w'.cell? ⟨w.heap.size,2,none⟩=some (.slice Ax2 (digs Qa (Qo x.den)).length cx2)∧w'.cell? ⟨w.heap.size+1,0,none⟩=some (cv w' ⟨w.heap.size+1,0,none⟩)∧w'.cell? ⟨w.heap.size+1,1,none⟩=some (cv w' ⟨w.heap.size+1,1,none⟩)∧w'.cell? ⟨w.heap.size+1,2,none⟩=some (cv w' ⟨w.heap.size+1,2,none⟩)∧w'.frozen? ⟨w.heap.size+1,0,none⟩=false∧w'.frozen? ⟨w.heap.size+1,1,none⟩=false∧w'.frozen? ⟨w.heap.size+1,2,none⟩=false)
   (first|exact hS _ hz|exact hS _ (HeldR.sets (by assumption) _ _ _ _ _ _ _))
   (first
    |(go_at_call 106; refine Calls.mono (Vd _ 1 (by unfold Qa; omega)) ?_; rintro e wz ⟨vo1,rfl,ho,hb⟩; have hq:=hq.below hb; have hz:=HeldR.call (by assumption) hb)
    |(go_at_call 114; have hc:=Qah _ _ 1 K ho (show Bd 1 1 by unfold Bd; omega) (by omega) (Nat.le_trans HK2.out (by omega)); (with_reducible refine Calls.mono hc ?_); clear hc; rintro e wz ⟨vp,rfl,hp,hb⟩; (try have hux:=hux.below hb); (try have hl:=hl.below hb); (try have hq:=hq.below hb); (try have hr:=hr.below hb); (try have hp:=hp.below hb); (try have ho:=ho.below hb); have hz:=HeldR.call (by assumption) hb)
    |(go_at_call 70; have hc:=Wa _ (false) _ _ _ _ hq hp (by rw[Nat.one_mul]; exact HP.out) HB.out.2.2.2.2 (by rw[Nat.one_mul]; exact HB.out.2.1.mono (by omega)) hjj3; (with_reducible refine Calls.mono hc ?_); clear hc; rintro e wz ⟨vr2,rfl,hrr,hb⟩; rw[Nat.one_mul,← HDN.out]at hrr; obtain⟨vrn,vrd,rfl,hrn,hrd⟩:=hrr; obtain⟨Ar1,cr1,rfl,_⟩:=id hrn; obtain⟨Ar2,cr2,rfl,_⟩:=id hrd; (try have hux:=hux.below hb); (try have hl:=hl.below hb); (try have hq:=hq.below hb); (try have hr:=hr.below hb); (try have hp:=hp.below hb); (try have ho:=ho.below hb); have hz:=HeldR.call (by assumption) hb))
  all_goals (
   go_wp2
   obtain⟨wf,HW,f0,f1,f2,hfin⟩:=hz.fin rfl hrn hrd
   (try rw[HW])
   (try simp only[Exit.inBlock,Exit.then])
   refine bodyPost_ret (by simp[results,Tryz.results78,go_sem,f0,f1,f2]; try rfl) rfl ?_
   first|exact hfin|exact hfin.drew))
theorem down_num (w:World) (vx:Value) (x:Rat) (k:Int) (hx:IsRat w vx x) {j:Nat} (hj:BdR j x) (hjk:j≤10000000):Calls Tryz.prog 78 #[vx,.int .i64 k] w (RetRat w (Qav x k)):=by
 by_cases hn:x.num<0
 ·by_cases hr:0<x.num.natAbs*2^J7 k%x.den
  ·exact down_a w vx x k hx hj hjk hn hr
  ·exact down_b w vx x k hx hj hjk hn hr
 ·exact down_c w vx x k hx hj hjk hn
end Wx
