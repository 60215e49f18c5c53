import Derived.Test.YtadigiledciihaaGreatJRB41
namespace Wx
set_option maxRecDepth 100000
set_option maxHeartbeats 1000000
open Go Go.RowKit Go.Proofs
theorem Gg (w:World) (v:Value) (x:Rat) (hx:cG w v x) {j:Nat} (hj:cN j x) (ct:j<=100000000) (hn:¬x.num<0) (hd:¬x.den=1):Calls Tryz.prog 54 #[v] w (cP w (.string (strOf (dr x)))):=by
 obtain⟨tU,tV,rfl,cC,dm⟩:=id hx
 obtain⟨cQ,cS,rfl,_⟩:=id cC
 obtain⟨cR,cT,rfl,_⟩:=id dm
 have HB:=bx hj
 have hx0:=hx
 clear hx
 have hT:dr x=aD x.num.natAbs++47::aD x.den:=by unfold dr; rw[if_neg hn,if_neg hd]; simp
 rw[hT]
 rw[decide_eq_false hn]at hx0
 try rw[decide_eq_false hn]
 have hc:bf x.den 1=1:=by unfold bf; have:=x.den_pos; rw[if_neg (by omega),if_pos (by omega)]
 have HC:=bx hc
 have mw:=cz hj.1
 have hl2:=cz hj.2
 have hz1:=aK (aD x.num.natAbs)
 have hz2:=aK (aD x.den)
 have Mq:strOf (aD x.num.natAbs)++(⟨#[47]⟩:ByteArray)=strOf (aD x.num.natAbs++[47]):=bP (aD x.num.natAbs) [47]
 have Ww:(strOf (aD x.num.natAbs++[47])).size=(aD x.num.natAbs).length+1:=by rw[aK]; simp
 have Mr:=bP (aD x.num.natAbs++[47]) (aD x.den)
 have Mh:(aD x.num.natAbs).length+1<=9223372036854775807:=by omega
 have OV:(aD x.num.natAbs).length+1+1<=9223372036854775807:=by omega
 have H7:(aD x.num.natAbs).length+1+(aD x.den).length<=9223372036854775807:=by omega
 have Wd:(aD x.num.natAbs).length+1+1+(aD x.den).length<=9223372036854775807:=by omega
 have QI:=bx Mr
 clear Mr
 clear hj hn hd hT mw hl2 hc dm
 go_enter Tryz.func54,Tryz.ntmps54
 go_wp2_with fail
 obtain⟨w1,e1,oP,b1,s1⟩:=en w [.bool false,.slice cQ (ae ah x.num.natAbs).length cS,.slice cR (ae ah x.den).length cT] 61
 rw[e1]
 clear e1
 replace hx0:=hx0.below b1
 replace cC:=cC.below b1
 have B:=b1
 clear b1
 refine Calls.mono (fe _ _ x.num.natAbs cC HB.out.1 ct) ?_
 rintro e w2 ⟨rfl,b2⟩
 replace hx0:=hx0.below b2
 replace cC:=cC.below b2
 replace oP:=oP.gone b2
 replace B:=B.trans (b2.mono B.size)
 clear b2
 clear cC
 have k1:=oP.cell (i:=0) rfl
 have k2:=oP.cell (i:=1) rfl
 have k3:=oP.cell (i:=2) rfl
 go_wp2_with fail
 clear k1 k2 k3
 refine Calls.mono (cM _ _ x hx0) ?_
 rintro e w3 ⟨vu,rfl,hu,b3⟩
 replace hx0:=hx0.below b3
 replace oP:=oP.gone b3
 replace B:=B.trans (b3.mono B.size)
 clear b3
 go_wp2_with fail
 refine Calls.mono (eP _ 1 (by unfold b64; omega)) ?_
 rintro e w4 ⟨vo,rfl,ho,b4⟩
 replace hx0:=hx0.below b4
 replace oP:=oP.gone b4
 replace hu:=hu.below b4
 replace B:=B.trans (b4.mono B.size)
 clear b4
 go_wp2_with fail
 have hc:=er _ _ _ x.den 1 hu ho
 rw[HC.out]at hc
 refine Calls.mono (hc) ?_
 rintro e w5 ⟨rfl,b5⟩
 replace hx0:=hx0.below b5
 replace oP:=oP.gone b5
 replace hu:=hu.below b5
 replace ho:=ho.below b5
 replace B:=B.trans (b5.mono B.size)
 clear b5
 clear hc hu ho
 have k4:=oP.cell (i:=0) rfl
 have k5:=oP.cell (i:=1) rfl
 have k6:=oP.cell (i:=2) rfl
 go_wp2_with fail
 clear k4 k5 k6
 refine Calls.mono (cM _ _ x hx0) ?_
 rintro e w6 ⟨vu,rfl,hu,b6⟩
 replace hx0:=hx0.below b6
 replace oP:=oP.gone b6
 replace B:=B.trans (b6.mono B.size)
 clear b6
 go_wp2_with fail
 refine Calls.mono (fe _ _ x.den hu HB.out.2 ct) ?_
 rintro e w7 ⟨rfl,b7⟩
 replace hx0:=hx0.below b7
 replace oP:=oP.gone b7
 replace hu:=hu.below b7
 replace B:=B.trans (b7.mono B.size)
 clear b7
 go_wp2
 go_ret
 rw[QI.out]
 refine⟨?_,B⟩
 simp
theorem Gh (w:World) (v:Value) (x:Rat) (hx:cG w v x) {j:Nat} (hj:cN j x) (ct:j<=100000000) (hn:¬x.num<0) (hd:x.den=1):Calls Tryz.prog 54 #[v] w (cP w (.string (strOf (dr x)))):=by
 obtain⟨tU,tV,rfl,cC,dm⟩:=id hx
 obtain⟨cQ,cS,rfl,_⟩:=id cC
 obtain⟨cR,cT,rfl,_⟩:=id dm
 have HB:=bx hj
 have hx0:=hx
 clear hx
 have hT:dr x=aD x.num.natAbs:=by unfold dr; rw[if_neg hn,if_pos hd]; simp
 rw[hT]
 rw[decide_eq_false hn]at hx0
 try rw[decide_eq_false hn]
 have hc:bf x.den 1=0:=by unfold bf; have:=x.den_pos; rw[if_neg (by omega),if_neg (by omega)]
 have HC:=bx hc
 have mw:=cz hj.1
 have hl2:=cz hj.2
 have hz1:=aK (aD x.num.natAbs)
 have hz2:=aK (aD x.den)
 clear hj hn hd hT mw hl2 hc dm
 go_enter Tryz.func54,Tryz.ntmps54
 go_wp2_with fail
 obtain⟨w1,e1,oP,b1,s1⟩:=en w [.bool false,.slice cQ (ae ah x.num.natAbs).length cS,.slice cR (ae ah x.den).length cT] 61
 rw[e1]
 clear e1
 replace hx0:=hx0.below b1
 replace cC:=cC.below b1
 have B:=b1
 clear b1
 refine Calls.mono (fe _ _ x.num.natAbs cC HB.out.1 ct) ?_
 rintro e w2 ⟨rfl,b2⟩
 replace hx0:=hx0.below b2
 replace cC:=cC.below b2
 replace oP:=oP.gone b2
 replace B:=B.trans (b2.mono B.size)
 clear b2
 clear cC
 have k1:=oP.cell (i:=0) rfl
 have k2:=oP.cell (i:=1) rfl
 have k3:=oP.cell (i:=2) rfl
 go_wp2_with fail
 clear k1 k2 k3
 refine Calls.mono (cM _ _ x hx0) ?_
 rintro e w3 ⟨vu,rfl,hu,b3⟩
 replace hx0:=hx0.below b3
 replace oP:=oP.gone b3
 replace B:=B.trans (b3.mono B.size)
 clear b3
 go_wp2_with fail
 refine Calls.mono (eP _ 1 (by unfold b64; omega)) ?_
 rintro e w4 ⟨vo,rfl,ho,b4⟩
 replace hx0:=hx0.below b4
 replace oP:=oP.gone b4
 replace hu:=hu.below b4
 replace B:=B.trans (b4.mono B.size)
 clear b4
 go_wp2_with fail
 have hc:=er _ _ _ x.den 1 hu ho
 rw[HC.out]at hc
 refine Calls.mono (hc) ?_
 rintro e w5 ⟨rfl,b5⟩
 replace hx0:=hx0.below b5
 replace oP:=oP.gone b5
 replace hu:=hu.below b5
 replace ho:=ho.below b5
 replace B:=B.trans (b5.mono B.size)
 clear b5
 clear hc hu ho
 go_wp2
 go_ret
 exact⟨rfl,B⟩
theorem Gi (w:World) (v:Value) (x:Rat) (hx:cG w v x) {j:Nat} (hj:cN j x) (ct:j<=100000000) (hn:x.num<0) (hd:¬x.den=1):Calls Tryz.prog 54 #[v] w (cP w (.string (strOf (dr x)))):=by
 obtain⟨tU,tV,rfl,cC,dm⟩:=id hx
 obtain⟨cQ,cS,rfl,_⟩:=id cC
 obtain⟨cR,cT,rfl,_⟩:=id dm
 have HB:=bx hj
 have hx0:=hx
 clear hx
 have hT:dr x=45::(aD x.num.natAbs++47::aD x.den):=by unfold dr; rw[if_pos hn,if_neg hd]; simp
 rw[hT]
 rw[decide_eq_true hn]at hx0
 try rw[decide_eq_true hn]
 have hc:bf x.den 1=1:=by unfold bf; have:=x.den_pos; rw[if_neg (by omega),if_pos (by omega)]
 have HC:=bx hc
 have mw:=cz hj.1
 have hl2:=cz hj.2
 have hz1:=aK (aD x.num.natAbs)
 have hz2:=aK (aD x.den)
 have oQ:=mg (aD x.num.natAbs)
 have SI:=aK (45::aD x.num.natAbs)
 have hq1:1+(aD x.num.natAbs).length<=9223372036854775807:=by omega
 have Mq:strOf (45::aD x.num.natAbs)++(⟨#[47]⟩:ByteArray)=strOf (45::(aD x.num.natAbs++[47])):=bP (45::aD x.num.natAbs) [47]
 have Ww:(strOf (45::(aD x.num.natAbs++[47]))).size=(aD x.num.natAbs).length+1+1:=by rw[aK]; simp
 have Mr:=bP (45::(aD x.num.natAbs++[47])) (aD x.den)
 have Mh:(aD x.num.natAbs).length+1<=9223372036854775807:=by omega
 have OV:(aD x.num.natAbs).length+1+1<=9223372036854775807:=by omega
 have H7:(aD x.num.natAbs).length+1+(aD x.den).length<=9223372036854775807:=by omega
 have Wd:(aD x.num.natAbs).length+1+1+(aD x.den).length<=9223372036854775807:=by omega
 have QI:=bx Mr
 clear Mr
 clear hj hn hd hT mw hl2 hc dm
 go_enter Tryz.func54,Tryz.ntmps54
 go_wp2_with fail
 obtain⟨w1,e1,oP,b1,s1⟩:=en w [.bool true,.slice cQ (ae ah x.num.natAbs).length cS,.slice cR (ae ah x.den).length cT] 61
 rw[e1]
 clear e1
 replace hx0:=hx0.below b1
 replace cC:=cC.below b1
 have B:=b1
 clear b1
 refine Calls.mono (fe _ _ x.num.natAbs cC HB.out.1 ct) ?_
 rintro e w2 ⟨rfl,b2⟩
 replace hx0:=hx0.below b2
 replace cC:=cC.below b2
 replace oP:=oP.gone b2
 replace B:=B.trans (b2.mono B.size)
 clear b2
 clear cC
 have k1:=oP.cell (i:=0) rfl
 have k2:=oP.cell (i:=1) rfl
 have k3:=oP.cell (i:=2) rfl
 go_wp2_with fail
 clear k1 k2 k3
 refine Calls.mono (cM _ _ x hx0) ?_
 rintro e w3 ⟨vu,rfl,hu,b3⟩
 replace hx0:=hx0.below b3
 replace oP:=oP.gone b3
 replace B:=B.trans (b3.mono B.size)
 clear b3
 go_wp2_with fail
 refine Calls.mono (eP _ 1 (by unfold b64; omega)) ?_
 rintro e w4 ⟨vo,rfl,ho,b4⟩
 replace hx0:=hx0.below b4
 replace oP:=oP.gone b4
 replace hu:=hu.below b4
 replace B:=B.trans (b4.mono B.size)
 clear b4
 go_wp2_with fail
 have hc:=er _ _ _ x.den 1 hu ho
 rw[HC.out]at hc
 refine Calls.mono (hc) ?_
 rintro e w5 ⟨rfl,b5⟩
 replace hx0:=hx0.below b5
 replace oP:=oP.gone b5
 replace hu:=hu.below b5
 replace ho:=ho.below b5
 replace B:=B.trans (b5.mono B.size)
 clear b5
 clear hc hu ho
 have k4:=oP.cell (i:=0) rfl
 have k5:=oP.cell (i:=1) rfl
 have k6:=oP.cell (i:=2) rfl
 go_wp2_with fail
 clear k4 k5 k6
 refine Calls.mono (cM _ _ x hx0) ?_
 rintro e w6 ⟨vu,rfl,hu,b6⟩
 replace hx0:=hx0.below b6
 replace oP:=oP.gone b6
 replace B:=B.trans (b6.mono B.size)
 clear b6
 go_wp2_with fail
 refine Calls.mono (fe _ _ x.den hu HB.out.2 ct) ?_
 rintro e w7 ⟨rfl,b7⟩
 replace hx0:=hx0.below b7
 replace oP:=oP.gone b7
 replace hu:=hu.below b7
 replace B:=B.trans (b7.mono B.size)
 clear b7
 go_wp2
 go_ret
 rw[QI.out]
 refine⟨?_,B⟩
 simp
theorem Gj (w:World) (v:Value) (x:Rat) (hx:cG w v x) {j:Nat} (hj:cN j x) (ct:j<=100000000) (hn:x.num<0) (hd:x.den=1):Calls Tryz.prog 54 #[v] w (cP w (.string (strOf (dr x)))):=by
 obtain⟨tU,tV,rfl,cC,dm⟩:=id hx
 obtain⟨cQ,cS,rfl,_⟩:=id cC
 obtain⟨cR,cT,rfl,_⟩:=id dm
 have HB:=bx hj
 have hx0:=hx
 clear hx
 have hT:dr x=45::(aD x.num.natAbs):=by unfold dr; rw[if_pos hn,if_pos hd]; simp
 rw[hT]
 rw[decide_eq_true hn]at hx0
 try rw[decide_eq_true hn]
 have hc:bf x.den 1=0:=by unfold bf; have:=x.den_pos; rw[if_neg (by omega),if_neg (by omega)]
 have HC:=bx hc
 have mw:=cz hj.1
 have hl2:=cz hj.2
 have hz1:=aK (aD x.num.natAbs)
 have hz2:=aK (aD x.den)
 have oQ:=mg (aD x.num.natAbs)
 have SI:=aK (45::aD x.num.natAbs)
 have hq1:1+(aD x.num.natAbs).length<=9223372036854775807:=by omega
 clear hj hn hd hT mw hl2 hc dm
 go_enter Tryz.func54,Tryz.ntmps54
 go_wp2_with fail
 obtain⟨w1,e1,oP,b1,s1⟩:=en w [.bool true,.slice cQ (ae ah x.num.natAbs).length cS,.slice cR (ae ah x.den).length cT] 61
 rw[e1]
 clear e1
 replace hx0:=hx0.below b1
 replace cC:=cC.below b1
 have B:=b1
 clear b1
 refine Calls.mono (fe _ _ x.num.natAbs cC HB.out.1 ct) ?_
 rintro e w2 ⟨rfl,b2⟩
 replace hx0:=hx0.below b2
 replace cC:=cC.below b2
 replace oP:=oP.gone b2
 replace B:=B.trans (b2.mono B.size)
 clear b2
 clear cC
 have k1:=oP.cell (i:=0) rfl
 have k2:=oP.cell (i:=1) rfl
 have k3:=oP.cell (i:=2) rfl
 go_wp2_with fail
 clear k1 k2 k3
 refine Calls.mono (cM _ _ x hx0) ?_
 rintro e w3 ⟨vu,rfl,hu,b3⟩
 replace hx0:=hx0.below b3
 replace oP:=oP.gone b3
 replace B:=B.trans (b3.mono B.size)
 clear b3
 go_wp2_with fail
 refine Calls.mono (eP _ 1 (by unfold b64; omega)) ?_
 rintro e w4 ⟨vo,rfl,ho,b4⟩
 replace hx0:=hx0.below b4
 replace oP:=oP.gone b4
 replace hu:=hu.below b4
 replace B:=B.trans (b4.mono B.size)
 clear b4
 go_wp2_with fail
 have hc:=er _ _ _ x.den 1 hu ho
 rw[HC.out]at hc
 refine Calls.mono (hc) ?_
 rintro e w5 ⟨rfl,b5⟩
 replace hx0:=hx0.below b5
 replace oP:=oP.gone b5
 replace hu:=hu.below b5
 replace ho:=ho.below b5
 replace B:=B.trans (b5.mono B.size)
 clear b5
 clear hc hu ho
 go_wp2
 go_ret
 exact⟨rfl,B⟩
theorem DS (w:World) (v:Value) (x:Rat) (hx:cG w v x) {j:Nat} (hj:cN j x) (ct:j<=100000000):Calls Tryz.prog 54 #[v] w (cP w (.string (strOf (dr x)))):=by
 by_cases hn:x.num<0
 ·by_cases hd:x.den=1
  ·exact Gj w v x hx hj ct hn hd
  ·exact Gi w v x hx hj ct hn hd
 ·by_cases hd:x.den=1
  ·exact Gh w v x hx hj ct hn hd
  ·exact Gg w v x hx hj ct hn hd
end Wx

namespace Wx
set_option maxRecDepth 100000
set_option maxHeartbeats 1000000
open Go Go.RowKit Go.Proofs
theorem Ms (w:World) (vx vy:Value) (x:Rat) (hx:bJ w vx x) (hy:cG w vy x) {j:Nat} (hj:cN j x) (ct:j<=100000000):Calls Tryz.prog 23 #[vx,vy] w (cP w (.bool true)):=by
 obtain⟨tU,tV,rfl,cC,dm⟩:=id hx
 obtain⟨cQ,cS,rfl,_⟩:=id cC
 obtain⟨cR,cT,rfl,_⟩:=id dm
 obtain⟨Hl,Ho,rfl,gB,gw⟩:=id hy
 obtain⟨ez,eC,rfl,_⟩:=id gB
 obtain⟨eB,eD,rfl,_⟩:=id gw
 have HB:=bx hj
 have hx0:=hx
 have hy0:=hy
 clear hj hx hy
 go_enter Tryz.func23,Tryz.ntmps23
 go_wp2_with fail
 obtain⟨w1,e1,o1,b1,s1⟩:=en w [.bool (decide (x.num<0)),.slice cQ (ae b64 x.num.natAbs).length cS,.slice cR (ae b64 (ay x.den)).length cT] 54
 obtain⟨w2,e2,o2,b2,s2⟩:=en w1 [.bool (decide (x.num<0)),.slice ez (ae ah x.num.natAbs).length eC,.slice eB (ae ah x.den).length eD] 61
 rw[e1,e2]
 rw[s1]at o2
 have p1:=(o1.gone b2)
 have p2:=o2
 have B0:=(b1.trans (b2.mono b1.size))
 have hS:∀w',gF w [(w.heap.size,[.bool (decide (x.num<0)),.slice cQ (ae b64 x.num.natAbs).length cS,.slice cR (ae b64 (ay x.den)).length cT],54),(w.heap.size+1,[.bool (decide (x.num<0)),.slice ez (ae ah x.num.natAbs).length eC,.slice eB (ae ah x.den).length eD],61)] w'->gF w [(w.heap.size,[.bool (decide (x.num<0)),.slice cQ (ae b64 x.num.natAbs).length cS,.slice cR (ae b64 (ay x.den)).length cT],54),(w.heap.size+1,[.bool (decide (x.num<0)),.slice ez (ae ah x.num.natAbs).length eC,.slice eB (ae ah x.den).length eD],61)] w'/\w'.cell? ⟨w.heap.size,0,none⟩=some (.bool (decide (x.num<0)))/\w'.cell? ⟨w.heap.size,1,none⟩=some (.slice cQ (ae b64 x.num.natAbs).length cS)/\w'.cell? ⟨w.heap.size,2,none⟩=some (.slice cR (ae b64 (ay x.den)).length cT)/\w'.cell? ⟨w.heap.size+1,0,none⟩=some (.bool (decide (x.num<0)))/\w'.cell? ⟨w.heap.size+1,1,none⟩=some (.slice ez (ae ah x.num.natAbs).length eC)/\w'.cell? ⟨w.heap.size+1,2,none⟩=some (.slice eB (ae ah x.den).length eD):=λw' hh=>by
  have r1:=hh.at_ (p:=(w.heap.size,[.bool (decide (x.num<0)),.slice cQ (ae b64 x.num.natAbs).length cS,.slice cR (ae b64 (ay x.den)).length cT],54)) (by simp)
  have r2:=hh.at_ (p:=(w.heap.size+1,[.bool (decide (x.num<0)),.slice ez (ae ah x.num.natAbs).length eC,.slice eB (ae ah x.den).length eD],61)) (by simp)
  exact⟨hh,r1.cell (i:=0) rfl,r1.cell (i:=1) rfl,r1.cell (i:=2) rfl,r2.cell (i:=0) rfl,r2.cell (i:=1) rfl,r2.cell (i:=2) rfl⟩
 have hz:gF w [(w.heap.size,[.bool (decide (x.num<0)),.slice cQ (ae b64 x.num.natAbs).length cS,.slice cR (ae b64 (ay x.den)).length cT],54),(w.heap.size+1,[.bool (decide (x.num<0)),.slice ez (ae ah x.num.natAbs).length eC,.slice eB (ae ah x.den).length eD],61)] w2:=⟨B0,by intro q hq; simp at hq; rcases hq with rfl|rfl; exact p1; exact p2⟩
 clear e1 e2 o1 b1 s1 p1 o2 b2 s2 p2
 clear B0
 have hz:=hz.drew
 go_region_held3 (λw'=>gF w [(w.heap.size,[.bool (decide (x.num<0)),.slice cQ (ae b64 x.num.natAbs).length cS,.slice cR (ae b64 (ay x.den)).length cT],54),(w.heap.size+1,[.bool (decide (x.num<0)),.slice ez (ae ah x.num.natAbs).length eC,.slice eB (ae ah x.den).length eD],61)] w'/\w'.cell? ⟨w.heap.size,0,none⟩=some (.bool (decide (x.num<0)))/\w'.cell? ⟨w.heap.size,1,none⟩=some (.slice cQ (ae b64 x.num.natAbs).length cS)/\w'.cell? ⟨w.heap.size,2,none⟩=some (.slice cR (ae b64 (ay x.den)).length cT)/\w'.cell? ⟨w.heap.size+1,0,none⟩=some (.bool (decide (x.num<0)))/\w'.cell? ⟨w.heap.size+1,1,none⟩=some (.slice ez (ae ah x.num.natAbs).length eC)/\w'.cell? ⟨w.heap.size+1,2,none⟩=some (.slice eB (ae ah x.den).length eD))
  (exact hS _ hz)
  (first
   |(go_at_call 30; (with_reducible refine Calls.mono (vK _ _ x (hx0.below hz.b) HB.out ct) ?_); rintro e wz ⟨rfl,hb⟩; have hz:=gF.call (And.intro hz trivial) hb)
   |(go_at_call 54; (with_reducible refine Calls.mono (DS _ _ x (hy0.below hz.b) HB.out ct) ?_); rintro e wz ⟨rfl,hb⟩; have hz:=gF.call (And.intro hz trivial) hb))
 all_goals (
  go_wp2
  go_ret
  exact⟨rfl,hz.b⟩)
end Wx

namespace Wx
open Go Go.RowKit Go.Proofs
theorem GL {w:World} {q:Rat} {n:Int} {e:Ending} {w':World} (h:BN w q n e w'):dK (ew (bW q) (pI n)) w e w':=by
 obtain⟨v,rfl,h1,h2⟩:=h
 exact⟨_,rfl,⟨v,_,rfl,h1,rfl⟩,h2⟩
variable {x y:Rat} {j k:Nat}
theorem Lz (hx:cN j x) (hy:cN k y) (h:j+k+j+k+1<=10000000):∀w v1 v2,bW x w v1->bW y w v2->Calls Tryz.prog 51 #[v1,v2] w (dK (bW (x+y)) w):=
 λw v1 v2 h1 h2=>Ga w v1 v2 x y h1 h2 hx hy h
theorem LC (hx:cN j x) (hy:cN k y) (h:j+k<=10000000):∀w v1 v2,bW x w v1->bW y w v2->Calls Tryz.prog 39 #[v1,v2] w (dK (bW (x*y)) w):=
 λw v1 v2 h1 h2=>Gd w v1 v2 x y h1 h2 hx hy h
theorem C7 (hx:cN j x) (hy:cN k y) (h:j+k<=10000000) (h0:y≠0):∀w v1 v2,bW x w v1->bW y w v2->Calls Tryz.prog 92 #[v1,v2] w (dK (ew (bW (x/y)) (pI 0)) w):=
 λw v1 v2 h1 h2=>(Gc w v1 v2 x y h1 h2 (λh=>h0 ((gO y).1 (by omega))) hx hy h).mono λ_ _=>GL
theorem LA (hx:cN j x) (hy:cN k y) (h:j+k<=10000000):∀w v1 v2,bW x w v1->bW y w v2->Calls Tryz.prog 92 #[v1,v2] w (dK (ew (bW (x/y)) (pI (if y=0 then 3 else 0))) w):=by
 by_cases h0:y=0
 ·rw[if_pos h0,show x/y=0 by rw[h0,Rat.div_def,Rat.inv_zero,Rat.mul_zero]]
  exactλw v1 v2 h1 h2=>(DN w v1 v2 x y h1 h2 h0).mono λ_ _=>GL
 ·rw[if_neg h0]; exact C7 hx hy h h0
theorem Iq (x:Rat):∀w v1,bW x w v1->Calls Tryz.prog 52 #[v1] w (dK (pB (decide (x=0))) w):=λw v1 h1=>(gZ w v1 x h1).mono λ_ _=>nC
theorem Ip (x:Rat):∀w v1,bW x w v1->Calls Tryz.prog 50 #[v1] w (dK (pI (iI x)) w):=λw v1 h1=>(DR w v1 x h1).mono λ_ _=>nC
theorem LB (n:Int) (h1:-9223372036854775808<=n) (h2:n<=9223372036854775807):∀w v1,pI n w v1->Calls Tryz.prog 34 #[v1] w (dK (bW (n:Rat)) w):=λw v1 h=>by
 have h:v1=.int .i64 n:=h
 rw[h]
 exact sR w n h1 h2
theorem QT (hx:cN j x) (hj:j<=100000000) (h:x=y):∀w v1 v2,bg x w v1->bW y w v2->Calls Tryz.prog 23 #[v1,v2] w (dK (pB true) w):=λw v1 v2 h1 h2=>by
 subst h
 exact(Ms w v1 v2 x h1 h2 hx hj).mono λ_ _=>nC
end Wx

namespace Wx
open Go Go.RowKit Go.Proofs
end Wx

namespace Wx
open Go Go.RowKit Go.Proofs
variable {x y:Rat} {j k:Nat}
theorem Pj (h:j+k<=4000000):∀w v1 v2,pN j x w v1->pN k y w v2->Calls Tryz.prog 51 #[v1,v2] w (dK (pN (j+k+1) (x+y)) w):=λw v1 v2 h1 h2=>(Lz h1.1 h2.1 (by omega) w v1 v2 h1.2 h2.2).mono λ_ _=>dK.map (qA (h1.1.EP h2.1))
theorem KC (h:j+k<=10000000):∀w v1 v2,pN j x w v1->pN k y w v2->Calls Tryz.prog 39 #[v1,v2] w (dK (pN (j+k) (x*y)) w):=λw v1 v2 h1 h2=>(LC h1.1 h2.1 h w v1 v2 h1.2 h2.2).mono λ_ _=>dK.map (qA (h1.1.mul h2.1))
theorem Pk (h:j+k<=10000000):∀w v1 v2,pN j x w v1->pN k y w v2->Calls Tryz.prog 92 #[v1,v2] w (dK (ew (pN (j+k) (x/y)) (pI (if y=0 then 3 else 0))) w):=λw v1 v2 h1 h2=>(LA h1.1 h2.1 h w v1 v2 h1.2 h2.2).mono λ_ _=>dK.map λ_ _ ⟨a,b,e,p,q⟩=>⟨a,b,e,⟨h1.1.quo h2.1,p⟩,q⟩
theorem MA (_:True):∀w v1,pN j x w v1->Calls Tryz.prog 52 #[v1] w (dK (pB (decide (x=0))) w):=λw v1 h1=>Iq x w v1 h1.2
theorem Mz (_:True):∀w v1,pN j x w v1->Calls Tryz.prog 50 #[v1] w (dK (pI (iI x)) w):=λw v1 h1=>Ip x w v1 h1.2
theorem F9 {n:Int} (h:-9223372036854775808<=n/\n<=9223372036854775807):∀w v1,pI n w v1->Calls Tryz.prog 34 #[v1] w (dK (pN 64 (n:Rat)) w):=λw v1 h1=>(LB n h.1 h.2 w v1 h1).mono λ_ _=>dK.map (qA (BV h.1 h.2))
end Wx
