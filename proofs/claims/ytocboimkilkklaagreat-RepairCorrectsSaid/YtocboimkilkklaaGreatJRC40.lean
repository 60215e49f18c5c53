import Derived.Test.YtocboimkilkklaaGreatJRC39
namespace Wx
set_option maxRecDepth 100000
set_option maxHeartbeats 1000000
open Go Go.RowKit Go.Proofs
theorem I1 (w:World) (v:Value) (x:Rat) (hx:cB w v x) {j:Nat} (hj:bB j x) (cM:j<=100000000) (hn:¬x.num<0) (hd:¬x.den=1):Calls Tryz.prog 43 #[v] w (dA w (.string (strOf (er x)))):=by
 obtain⟨sP,sQ,rfl,cN,dH⟩:=id hx
 obtain⟨bN,bP,rfl,_⟩:=id cN
 obtain⟨bO,bQ,rfl,_⟩:=id dH
 have HB:=bx hj
 have hx0:=hx
 clear hx
 have hT:er x=aH x.num.natAbs++47::aH x.den:=by unfold er; rw[if_neg hn,if_neg hd]; simp
 rw[hT]
 rw[decide_eq_false hn]at hx0
 try rw[decide_eq_false hn]
 have hc:bp x.den 1=1:=by unfold bp; have:=x.den_pos; rw[if_neg (by omega),if_pos (by omega)]
 have HC:=bx hc
 have qy:=cS hj.1
 have hl2:=cS hj.2
 have hz1:=aR (aH x.num.natAbs)
 have hz2:=aR (aH x.den)
 have OD:strOf (aH x.num.natAbs)++(⟨#[47]⟩:ByteArray)=strOf (aH x.num.natAbs++[47]):=cw (aH x.num.natAbs) [47]
 have Zg:(strOf (aH x.num.natAbs++[47])).size=(aH x.num.natAbs).length+1:=by rw[aR]; simp
 have OE:=cw (aH x.num.natAbs++[47]) (aH x.den)
 have Ou:(aH x.num.natAbs).length+1<=9223372036854775807:=by omega
 have Rg:(aH x.num.natAbs).length+1+1<=9223372036854775807:=by omega
 have J4:(aH x.num.natAbs).length+1+(aH x.den).length<=9223372036854775807:=by omega
 have YX:(aH x.num.natAbs).length+1+1+(aH x.den).length<=9223372036854775807:=by omega
 have Tl:=bx OE
 clear OE
 clear hj hn hd hT qy hl2 hc dH
 go_enter Tryz.func43,Tryz.ntmps43
 go_wp2_with fail
 obtain⟨w1,e1,oP,b1,s1⟩:=dP w [.bool false,.slice bN (ae ah x.num.natAbs).length bP,.slice bO (ae ah x.den).length bQ] 38
 rw[e1]
 clear e1
 replace hx0:=hx0.below b1
 replace cN:=cN.below b1
 have B:=b1
 clear b1
 refine Calls.mono (fW _ _ x.num.natAbs cN HB.out.1 cM) ?_
 rintro e w2 ⟨rfl,b2⟩
 replace hx0:=hx0.below b2
 replace cN:=cN.below b2
 replace oP:=oP.gone b2
 replace B:=B.trans (b2.mono B.size)
 clear b2
 clear cN
 have k1:=oP.cell (i:=0) rfl
 have k2:=oP.cell (i:=1) rfl
 have k3:=oP.cell (i:=2) rfl
 go_wp2_with fail
 clear k1 k2 k3
 refine Calls.mono (dx _ _ x hx0) ?_
 rintro e w3 ⟨vu,rfl,hu,b3⟩
 replace hx0:=hx0.below b3
 replace oP:=oP.gone b3
 replace B:=B.trans (b3.mono B.size)
 clear b3
 go_wp2_with fail
 refine Calls.mono (fL _ 1 (by unfold b64; omega)) ?_
 rintro e w4 ⟨vo,rfl,ho,b4⟩
 replace hx0:=hx0.below b4
 replace oP:=oP.gone b4
 replace hu:=hu.below b4
 replace B:=B.trans (b4.mono B.size)
 clear b4
 go_wp2_with fail
 have hc:=fk _ _ _ x.den 1 hu ho
 rw[HC.out]at hc
 refine Calls.mono (hc) ?_
 rintro e w5 ⟨rfl,b5⟩
 replace hx0:=hx0.below b5
 replace oP:=oP.gone b5
 replace hu:=hu.below b5
 replace ho:=ho.below b5
 replace B:=B.trans (b5.mono B.size)
 clear b5
 clear hc hu ho
 have k4:=oP.cell (i:=0) rfl
 have k5:=oP.cell (i:=1) rfl
 have k6:=oP.cell (i:=2) rfl
 go_wp2_with fail
 clear k4 k5 k6
 refine Calls.mono (dx _ _ x hx0) ?_
 rintro e w6 ⟨vu,rfl,hu,b6⟩
 replace hx0:=hx0.below b6
 replace oP:=oP.gone b6
 replace B:=B.trans (b6.mono B.size)
 clear b6
 go_wp2_with fail
 refine Calls.mono (fW _ _ x.den hu HB.out.2 cM) ?_
 rintro e w7 ⟨rfl,b7⟩
 replace hx0:=hx0.below b7
 replace oP:=oP.gone b7
 replace hu:=hu.below b7
 replace B:=B.trans (b7.mono B.size)
 clear b7
 go_wp2
 go_ret
 rw[Tl.out]
 refine⟨?_,B⟩
 simp
theorem I2 (w:World) (v:Value) (x:Rat) (hx:cB w v x) {j:Nat} (hj:bB j x) (cM:j<=100000000) (hn:¬x.num<0) (hd:x.den=1):Calls Tryz.prog 43 #[v] w (dA w (.string (strOf (er x)))):=by
 obtain⟨sP,sQ,rfl,cN,dH⟩:=id hx
 obtain⟨bN,bP,rfl,_⟩:=id cN
 obtain⟨bO,bQ,rfl,_⟩:=id dH
 have HB:=bx hj
 have hx0:=hx
 clear hx
 have hT:er x=aH x.num.natAbs:=by unfold er; rw[if_neg hn,if_pos hd]; simp
 rw[hT]
 rw[decide_eq_false hn]at hx0
 try rw[decide_eq_false hn]
 have hc:bp x.den 1=0:=by unfold bp; have:=x.den_pos; rw[if_neg (by omega),if_neg (by omega)]
 have HC:=bx hc
 have qy:=cS hj.1
 have hl2:=cS hj.2
 have hz1:=aR (aH x.num.natAbs)
 have hz2:=aR (aH x.den)
 clear hj hn hd hT qy hl2 hc dH
 go_enter Tryz.func43,Tryz.ntmps43
 go_wp2_with fail
 obtain⟨w1,e1,oP,b1,s1⟩:=dP w [.bool false,.slice bN (ae ah x.num.natAbs).length bP,.slice bO (ae ah x.den).length bQ] 38
 rw[e1]
 clear e1
 replace hx0:=hx0.below b1
 replace cN:=cN.below b1
 have B:=b1
 clear b1
 refine Calls.mono (fW _ _ x.num.natAbs cN HB.out.1 cM) ?_
 rintro e w2 ⟨rfl,b2⟩
 replace hx0:=hx0.below b2
 replace cN:=cN.below b2
 replace oP:=oP.gone b2
 replace B:=B.trans (b2.mono B.size)
 clear b2
 clear cN
 have k1:=oP.cell (i:=0) rfl
 have k2:=oP.cell (i:=1) rfl
 have k3:=oP.cell (i:=2) rfl
 go_wp2_with fail
 clear k1 k2 k3
 refine Calls.mono (dx _ _ x hx0) ?_
 rintro e w3 ⟨vu,rfl,hu,b3⟩
 replace hx0:=hx0.below b3
 replace oP:=oP.gone b3
 replace B:=B.trans (b3.mono B.size)
 clear b3
 go_wp2_with fail
 refine Calls.mono (fL _ 1 (by unfold b64; omega)) ?_
 rintro e w4 ⟨vo,rfl,ho,b4⟩
 replace hx0:=hx0.below b4
 replace oP:=oP.gone b4
 replace hu:=hu.below b4
 replace B:=B.trans (b4.mono B.size)
 clear b4
 go_wp2_with fail
 have hc:=fk _ _ _ x.den 1 hu ho
 rw[HC.out]at hc
 refine Calls.mono (hc) ?_
 rintro e w5 ⟨rfl,b5⟩
 replace hx0:=hx0.below b5
 replace oP:=oP.gone b5
 replace hu:=hu.below b5
 replace ho:=ho.below b5
 replace B:=B.trans (b5.mono B.size)
 clear b5
 clear hc hu ho
 go_wp2
 go_ret
 exact⟨rfl,B⟩
theorem I3 (w:World) (v:Value) (x:Rat) (hx:cB w v x) {j:Nat} (hj:bB j x) (cM:j<=100000000) (hn:x.num<0) (hd:¬x.den=1):Calls Tryz.prog 43 #[v] w (dA w (.string (strOf (er x)))):=by
 obtain⟨sP,sQ,rfl,cN,dH⟩:=id hx
 obtain⟨bN,bP,rfl,_⟩:=id cN
 obtain⟨bO,bQ,rfl,_⟩:=id dH
 have HB:=bx hj
 have hx0:=hx
 clear hx
 have hT:er x=45::(aH x.num.natAbs++47::aH x.den):=by unfold er; rw[if_pos hn,if_neg hd]; simp
 rw[hT]
 rw[decide_eq_true hn]at hx0
 try rw[decide_eq_true hn]
 have hc:bp x.den 1=1:=by unfold bp; have:=x.den_pos; rw[if_neg (by omega),if_pos (by omega)]
 have HC:=bx hc
 have qy:=cS hj.1
 have hl2:=cS hj.2
 have hz1:=aR (aH x.num.natAbs)
 have hz2:=aR (aH x.den)
 have qz:=nD (aH x.num.natAbs)
 have Vl:=aR (45::aH x.num.natAbs)
 have hq1:1+(aH x.num.natAbs).length<=9223372036854775807:=by omega
 have OD:strOf (45::aH x.num.natAbs)++(⟨#[47]⟩:ByteArray)=strOf (45::(aH x.num.natAbs++[47])):=cw (45::aH x.num.natAbs) [47]
 have Zg:(strOf (45::(aH x.num.natAbs++[47]))).size=(aH x.num.natAbs).length+1+1:=by rw[aR]; simp
 have OE:=cw (45::(aH x.num.natAbs++[47])) (aH x.den)
 have Ou:(aH x.num.natAbs).length+1<=9223372036854775807:=by omega
 have Rg:(aH x.num.natAbs).length+1+1<=9223372036854775807:=by omega
 have J4:(aH x.num.natAbs).length+1+(aH x.den).length<=9223372036854775807:=by omega
 have YX:(aH x.num.natAbs).length+1+1+(aH x.den).length<=9223372036854775807:=by omega
 have Tl:=bx OE
 clear OE
 clear hj hn hd hT qy hl2 hc dH
 go_enter Tryz.func43,Tryz.ntmps43
 go_wp2_with fail
 obtain⟨w1,e1,oP,b1,s1⟩:=dP w [.bool true,.slice bN (ae ah x.num.natAbs).length bP,.slice bO (ae ah x.den).length bQ] 38
 rw[e1]
 clear e1
 replace hx0:=hx0.below b1
 replace cN:=cN.below b1
 have B:=b1
 clear b1
 refine Calls.mono (fW _ _ x.num.natAbs cN HB.out.1 cM) ?_
 rintro e w2 ⟨rfl,b2⟩
 replace hx0:=hx0.below b2
 replace cN:=cN.below b2
 replace oP:=oP.gone b2
 replace B:=B.trans (b2.mono B.size)
 clear b2
 clear cN
 have k1:=oP.cell (i:=0) rfl
 have k2:=oP.cell (i:=1) rfl
 have k3:=oP.cell (i:=2) rfl
 go_wp2_with fail
 clear k1 k2 k3
 refine Calls.mono (dx _ _ x hx0) ?_
 rintro e w3 ⟨vu,rfl,hu,b3⟩
 replace hx0:=hx0.below b3
 replace oP:=oP.gone b3
 replace B:=B.trans (b3.mono B.size)
 clear b3
 go_wp2_with fail
 refine Calls.mono (fL _ 1 (by unfold b64; omega)) ?_
 rintro e w4 ⟨vo,rfl,ho,b4⟩
 replace hx0:=hx0.below b4
 replace oP:=oP.gone b4
 replace hu:=hu.below b4
 replace B:=B.trans (b4.mono B.size)
 clear b4
 go_wp2_with fail
 have hc:=fk _ _ _ x.den 1 hu ho
 rw[HC.out]at hc
 refine Calls.mono (hc) ?_
 rintro e w5 ⟨rfl,b5⟩
 replace hx0:=hx0.below b5
 replace oP:=oP.gone b5
 replace hu:=hu.below b5
 replace ho:=ho.below b5
 replace B:=B.trans (b5.mono B.size)
 clear b5
 clear hc hu ho
 have k4:=oP.cell (i:=0) rfl
 have k5:=oP.cell (i:=1) rfl
 have k6:=oP.cell (i:=2) rfl
 go_wp2_with fail
 clear k4 k5 k6
 refine Calls.mono (dx _ _ x hx0) ?_
 rintro e w6 ⟨vu,rfl,hu,b6⟩
 replace hx0:=hx0.below b6
 replace oP:=oP.gone b6
 replace B:=B.trans (b6.mono B.size)
 clear b6
 go_wp2_with fail
 refine Calls.mono (fW _ _ x.den hu HB.out.2 cM) ?_
 rintro e w7 ⟨rfl,b7⟩
 replace hx0:=hx0.below b7
 replace oP:=oP.gone b7
 replace hu:=hu.below b7
 replace B:=B.trans (b7.mono B.size)
 clear b7
 go_wp2
 go_ret
 rw[Tl.out]
 refine⟨?_,B⟩
 simp
theorem I4 (w:World) (v:Value) (x:Rat) (hx:cB w v x) {j:Nat} (hj:bB j x) (cM:j<=100000000) (hn:x.num<0) (hd:x.den=1):Calls Tryz.prog 43 #[v] w (dA w (.string (strOf (er x)))):=by
 obtain⟨sP,sQ,rfl,cN,dH⟩:=id hx
 obtain⟨bN,bP,rfl,_⟩:=id cN
 obtain⟨bO,bQ,rfl,_⟩:=id dH
 have HB:=bx hj
 have hx0:=hx
 clear hx
 have hT:er x=45::(aH x.num.natAbs):=by unfold er; rw[if_pos hn,if_pos hd]; simp
 rw[hT]
 rw[decide_eq_true hn]at hx0
 try rw[decide_eq_true hn]
 have hc:bp x.den 1=0:=by unfold bp; have:=x.den_pos; rw[if_neg (by omega),if_neg (by omega)]
 have HC:=bx hc
 have qy:=cS hj.1
 have hl2:=cS hj.2
 have hz1:=aR (aH x.num.natAbs)
 have hz2:=aR (aH x.den)
 have qz:=nD (aH x.num.natAbs)
 have Vl:=aR (45::aH x.num.natAbs)
 have hq1:1+(aH x.num.natAbs).length<=9223372036854775807:=by omega
 clear hj hn hd hT qy hl2 hc dH
 go_enter Tryz.func43,Tryz.ntmps43
 go_wp2_with fail
 obtain⟨w1,e1,oP,b1,s1⟩:=dP w [.bool true,.slice bN (ae ah x.num.natAbs).length bP,.slice bO (ae ah x.den).length bQ] 38
 rw[e1]
 clear e1
 replace hx0:=hx0.below b1
 replace cN:=cN.below b1
 have B:=b1
 clear b1
 refine Calls.mono (fW _ _ x.num.natAbs cN HB.out.1 cM) ?_
 rintro e w2 ⟨rfl,b2⟩
 replace hx0:=hx0.below b2
 replace cN:=cN.below b2
 replace oP:=oP.gone b2
 replace B:=B.trans (b2.mono B.size)
 clear b2
 clear cN
 have k1:=oP.cell (i:=0) rfl
 have k2:=oP.cell (i:=1) rfl
 have k3:=oP.cell (i:=2) rfl
 go_wp2_with fail
 clear k1 k2 k3
 refine Calls.mono (dx _ _ x hx0) ?_
 rintro e w3 ⟨vu,rfl,hu,b3⟩
 replace hx0:=hx0.below b3
 replace oP:=oP.gone b3
 replace B:=B.trans (b3.mono B.size)
 clear b3
 go_wp2_with fail
 refine Calls.mono (fL _ 1 (by unfold b64; omega)) ?_
 rintro e w4 ⟨vo,rfl,ho,b4⟩
 replace hx0:=hx0.below b4
 replace oP:=oP.gone b4
 replace hu:=hu.below b4
 replace B:=B.trans (b4.mono B.size)
 clear b4
 go_wp2_with fail
 have hc:=fk _ _ _ x.den 1 hu ho
 rw[HC.out]at hc
 refine Calls.mono (hc) ?_
 rintro e w5 ⟨rfl,b5⟩
 replace hx0:=hx0.below b5
 replace oP:=oP.gone b5
 replace hu:=hu.below b5
 replace ho:=ho.below b5
 replace B:=B.trans (b5.mono B.size)
 clear b5
 clear hc hu ho
 go_wp2
 go_ret
 exact⟨rfl,B⟩
theorem FK (w:World) (v:Value) (x:Rat) (hx:cB w v x) {j:Nat} (hj:bB j x) (cM:j<=100000000):Calls Tryz.prog 43 #[v] w (dA w (.string (strOf (er x)))):=by
 by_cases hn:x.num<0
 ·by_cases hd:x.den=1
  ·exact I4 w v x hx hj cM hn hd
  ·exact I3 w v x hx hj cM hn hd
 ·by_cases hd:x.den=1
  ·exact I2 w v x hx hj cM hn hd
  ·exact I1 w v x hx hj cM hn hd
end Wx

namespace Wx
set_option maxRecDepth 100000
set_option maxHeartbeats 1000000
open Go Go.RowKit Go.Proofs
theorem OG (w:World) (vx vy:Value) (x:Rat) (hx:cm w vx x) (hy:cB w vy x) {j:Nat} (hj:bB j x) (cM:j<=100000000):Calls Tryz.prog 10 #[vx,vy] w (dA w (.bool true)):=by
 obtain⟨sP,sQ,rfl,cN,dH⟩:=id hx
 obtain⟨bN,bP,rfl,_⟩:=id cN
 obtain⟨bO,bQ,rfl,_⟩:=id dH
 obtain⟨GC,GD,rfl,gZ,gI⟩:=id hy
 obtain⟨cZ,dc,rfl,_⟩:=id gZ
 obtain⟨da,de,rfl,_⟩:=id gI
 have HB:=bx hj
 have hx0:=hx
 have hy0:=hy
 clear hj hx hy
 go_enter Tryz.func10,Tryz.ntmps10
 go_wp2_with fail
 obtain⟨w1,e1,o1,b1,s1⟩:=dP w [.bool (decide (x.num<0)),.slice bN (ae b64 x.num.natAbs).length bP,.slice bO (ae b64 (ak x.den)).length bQ] 32
 obtain⟨w2,e2,o2,b2,s2⟩:=dP w1 [.bool (decide (x.num<0)),.slice cZ (ae ah x.num.natAbs).length dc,.slice da (ae ah x.den).length de] 38
 rw[e1,e2]
 rw[s1]at o2
 have p1:=(o1.gone b2)
 have p2:=o2
 have B0:=(b1.trans (b2.mono b1.size))
 have hS:∀w',iH w [(w.heap.size,[.bool (decide (x.num<0)),.slice bN (ae b64 x.num.natAbs).length bP,.slice bO (ae b64 (ak x.den)).length bQ],32),(w.heap.size+1,[.bool (decide (x.num<0)),.slice cZ (ae ah x.num.natAbs).length dc,.slice da (ae ah x.den).length de],38)] w'->iH w [(w.heap.size,[.bool (decide (x.num<0)),.slice bN (ae b64 x.num.natAbs).length bP,.slice bO (ae b64 (ak x.den)).length bQ],32),(w.heap.size+1,[.bool (decide (x.num<0)),.slice cZ (ae ah x.num.natAbs).length dc,.slice da (ae ah x.den).length de],38)] w'/\w'.cell? ⟨w.heap.size,0,none⟩=some (.bool (decide (x.num<0)))/\w'.cell? ⟨w.heap.size,1,none⟩=some (.slice bN (ae b64 x.num.natAbs).length bP)/\w'.cell? ⟨w.heap.size,2,none⟩=some (.slice bO (ae b64 (ak x.den)).length bQ)/\w'.cell? ⟨w.heap.size+1,0,none⟩=some (.bool (decide (x.num<0)))/\w'.cell? ⟨w.heap.size+1,1,none⟩=some (.slice cZ (ae ah x.num.natAbs).length dc)/\w'.cell? ⟨w.heap.size+1,2,none⟩=some (.slice da (ae ah x.den).length de):=λw' hh=>by
  have r1:=hh.at_ (p:=(w.heap.size,[.bool (decide (x.num<0)),.slice bN (ae b64 x.num.natAbs).length bP,.slice bO (ae b64 (ak x.den)).length bQ],32)) (by simp)
  have r2:=hh.at_ (p:=(w.heap.size+1,[.bool (decide (x.num<0)),.slice cZ (ae ah x.num.natAbs).length dc,.slice da (ae ah x.den).length de],38)) (by simp)
  exact⟨hh,r1.cell (i:=0) rfl,r1.cell (i:=1) rfl,r1.cell (i:=2) rfl,r2.cell (i:=0) rfl,r2.cell (i:=1) rfl,r2.cell (i:=2) rfl⟩
 have hz:iH w [(w.heap.size,[.bool (decide (x.num<0)),.slice bN (ae b64 x.num.natAbs).length bP,.slice bO (ae b64 (ak x.den)).length bQ],32),(w.heap.size+1,[.bool (decide (x.num<0)),.slice cZ (ae ah x.num.natAbs).length dc,.slice da (ae ah x.den).length de],38)] w2:=⟨B0,by intro q hq; simp at hq; rcases hq with rfl|rfl; exact p1; exact p2⟩
 clear e1 e2 o1 b1 s1 p1 o2 b2 s2 p2
 clear B0
 have hz:=hz.drew
 go_region_held3 (λw'=>iH w [(w.heap.size,[.bool (decide (x.num<0)),.slice bN (ae b64 x.num.natAbs).length bP,.slice bO (ae b64 (ak x.den)).length bQ],32),(w.heap.size+1,[.bool (decide (x.num<0)),.slice cZ (ae ah x.num.natAbs).length dc,.slice da (ae ah x.den).length de],38)] w'/\w'.cell? ⟨w.heap.size,0,none⟩=some (.bool (decide (x.num<0)))/\w'.cell? ⟨w.heap.size,1,none⟩=some (.slice bN (ae b64 x.num.natAbs).length bP)/\w'.cell? ⟨w.heap.size,2,none⟩=some (.slice bO (ae b64 (ak x.den)).length bQ)/\w'.cell? ⟨w.heap.size+1,0,none⟩=some (.bool (decide (x.num<0)))/\w'.cell? ⟨w.heap.size+1,1,none⟩=some (.slice cZ (ae ah x.num.natAbs).length dc)/\w'.cell? ⟨w.heap.size+1,2,none⟩=some (.slice da (ae ah x.den).length de))
  (exact hS _ hz)
  (first
   |(go_at_call 27; (with_reducible refine Calls.mono (xz _ _ x (hx0.below hz.b) HB.out cM) ?_); rintro e wz ⟨rfl,hb⟩; have hz:=iH.call (And.intro hz trivial) hb)
   |(go_at_call 43; (with_reducible refine Calls.mono (FK _ _ x (hy0.below hz.b) HB.out cM) ?_); rintro e wz ⟨rfl,hb⟩; have hz:=iH.call (And.intro hz trivial) hb))
 all_goals (
  go_wp2
  go_ret
  exact⟨rfl,hz.b⟩)
end Wx

namespace Wx
open Go Go.RowKit Go.Proofs
theorem Jr {w:World} {q:Rat} {n:Int} {e:Ending} {w':World} (h:Dc w q n e w'):ew (gh (aS q) (pI n)) w e w':=by
 obtain⟨v,rfl,h1,h2⟩:=h
 exact⟨_,rfl,⟨v,_,rfl,h1,rfl⟩,h2⟩
variable {x y:Rat} {j k:Nat}
theorem NL (hx:bB j x) (hy:bB k y) (h:j+k+j+k+1<=10000000):∀w v1 v2,aS x w v1->aS y w v2->Calls Tryz.prog 38 #[v1,v2] w (ew (aS (x+y)) w):=
 λw v1 v2 h1 h2=>AI w v1 v2 x y h1 h2 hx hy h
theorem NP (hx:bB j x) (hy:bB k y) (h:j+k<=10000000):∀w v1 v2,aS x w v1->aS y w v2->Calls Tryz.prog 39 #[v1,v2] w (ew (aS (x*y)) w):=
 λw v1 v2 h1 h2=>IV w v1 v2 x y h1 h2 hx hy h
theorem EP (hx:bB j x) (hy:bB k y) (h:j+k<=10000000) (h0:y≠0):∀w v1 v2,aS x w v1->aS y w v2->Calls Tryz.prog 16 #[v1,v2] w (ew (gh (aS (x/y)) (pI 0)) w):=
 λw v1 v2 h1 h2=>(IQ w v1 v2 x y h1 h2 (λh=>h0 ((iS y).1 (by omega))) hx hy h).mono λ_ _=>Jr
theorem NM (hx:bB j x) (hy:bB k y) (h:j+k<=10000000):∀w v1 v2,aS x w v1->aS y w v2->Calls Tryz.prog 16 #[v1,v2] w (ew (gh (aS (x/y)) (pI (if y=0 then 3 else 0))) w):=by
 by_cases h0:y=0
 ·rw[if_pos h0,show x/y=0 by rw[h0,Rat.div_def,Rat.inv_zero,Rat.mul_zero]]
  exactλw v1 v2 h1 h2=>(FI w v1 v2 x y h1 h2 h0).mono λ_ _=>Jr
 ·rw[if_neg h0]; exact EP hx hy h h0
theorem Kv (x:Rat):∀w v1,aS x w v1->Calls Tryz.prog 14 #[v1] w (ew (pI (cP x)) w):=λw v1 h1=>(xd w v1 x h1).mono λ_ _=>oM
theorem G6 (hx:bB j x) (hy:bB k y) (h:j+k+j+k+1<=10000000):∀w v1 v2,aS x w v1->aS y w v2->Calls Tryz.prog 119 #[v1,v2] w (ew (pI (fD x y)) w):=
 λw v1 v2 h1 h2=>(IP w v1 v2 x y h1 h2 hx hy h).mono λ_ _=>oM
theorem NN (n:Int) (h1:-9223372036854775808<=n) (h2:n<=9223372036854775807):∀w v1,pI n w v1->Calls Tryz.prog 29 #[v1] w (ew (aS (n:Rat)) w):=λw v1 h=>by
 have h:v1=.int .i64 n:=h
 rw[h]
 exact ug w n h1 h2
theorem ND (hx:bB j x) (hj:j<=100000000) (h:x=y):∀w v1 v2,aD x w v1->aS y w v2->Calls Tryz.prog 10 #[v1,v2] w (ew (pB true) w):=λw v1 v2 h1 h2=>by
 subst h
 exact(OG w v1 v2 x h1 h2 hx hj).mono λ_ _=>oM
end Wx

namespace Wx
open Go Go.RowKit Go.Proofs
end Wx

namespace Wx
open Go Go.RowKit Go.Proofs
variable {x y:Rat} {j k:Nat}
theorem RH (h:j+k<=4000000):∀w v1 v2,pN j x w v1->pN k y w v2->Calls Tryz.prog 38 #[v1,v2] w (ew (pN (j+k+1) (x+y)) w):=λw v1 v2 h1 h2=>(NL h1.1 h2.1 (by omega) w v1 v2 h1.2 h2.2).mono λ_ _=>ew.map (rF (h1.1.Kf h2.1))
theorem MW (h:j+k<=10000000):∀w v1 v2,pN j x w v1->pN k y w v2->Calls Tryz.prog 39 #[v1,v2] w (ew (pN (j+k) (x*y)) w):=λw v1 v2 h1 h2=>(NP h1.1 h2.1 h w v1 v2 h1.2 h2.2).mono λ_ _=>ew.map (rF (h1.1.mul h2.1))
theorem MV (h:j+k<=10000000):∀w v1 v2,pN j x w v1->pN k y w v2->Calls Tryz.prog 16 #[v1,v2] w (ew (gh (pN (j+k) (x/y)) (pI (if y=0 then 3 else 0))) w):=λw v1 v2 h1 h2=>(NM h1.1 h2.1 h w v1 v2 h1.2 h2.2).mono λ_ _=>ew.map λ_ _ ⟨a,b,e,p,q⟩=>⟨a,b,e,⟨h1.1.quo h2.1,p⟩,q⟩
theorem Cp (_:True):∀w v1,pN j x w v1->Calls Tryz.prog 14 #[v1] w (ew (pI (cP x)) w):=λw v1 h1=>Kv x w v1 h1.2
theorem AH {n:Int} (h:-9223372036854775808<=n/\n<=9223372036854775807):∀w v1,pI n w v1->Calls Tryz.prog 29 #[v1] w (ew (pN 64 (n:Rat)) w):=λw v1 h1=>(NN n h.1 h.2 w v1 h1).mono λ_ _=>ew.map (rF (Di h.1 h.2))
end Wx
