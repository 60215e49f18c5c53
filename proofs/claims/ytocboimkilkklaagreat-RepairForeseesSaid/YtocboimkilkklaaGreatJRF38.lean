import Derived.Test.YtocboimkilkklaaGreatJRF37
import Derived.Test.YtocboimkilkklaaGreatJRF31
namespace Wx
set_option maxRecDepth 100000
set_option maxHeartbeats 1000000
open Go Go.RowKit Go.Proofs
set_option linter.unusedVariables false
attribute [local irreducible] OpOk
theorem I0 (h:True):K0 Tryz.prog 5 (pB true):=by
 intro M w0 hM
 refine SH (N:=91) Tryz.func5 rfl rfl rfl hM λa hI=>?_
 refine eu hI 1 [Uc 0 0 _] .z ⟨mv,trivial⟩ (.k .z) λa w hI=>?_
 refine dQ hI 7 [⟨1,1,some 5,none,.ptr,71,2,true,pv _,[(6,pv _)]⟩] [] [Uc 0 11 _,Uc 1 12 _,Uc 2 13 _,Uc 3 14 _,Uc 4 15 _] .z (.k .z) ⟨bd [.o .i,.o .i] [],bd [.o .i,.o .i] [(0,_)],bd [.o .i,.o .i] [(1,_)],TJ 68 GK [(0,gK (0,0)),(1,gK (4,0)),(2,gK (0,4))],bd [.o .n,.o .i] [(0,_),(1,_)],rA [.n,.i],nw,trivial⟩ (.s .o .z) (.lM (.dd .z)) λa w hI=>?_
 refine dQ hI 7 [⟨2,2,some 5,none,.ptr,71,2,true,pv _,[(6,pv _)]⟩] [] [Uc 0 16 _,Uc 1 17 _,Uc 2 18 _,Uc 3 19 _,Uc 4 20 _] (.k .z) (.k .z) ⟨bd [.o .i,.o .i] [(0,_),(1,_)],bd [.o .i,.o .i] [(0,_),(1,_)],bd [.o .i,.o .i] [(0,_),(1,_)],TJ 68 Ie [(0,gK (1,1)),(1,gK (5,1)),(2,gK (1,5))],bd [.o .n,.o .i] [(0,_),(1,_)],rA [.n,.i],nw,trivial⟩ (.k (.s .o .z)) (.lM (.dd .z)) λa w hI=>?_
 refine dQ hI 8 [] [] [Uc 0 22 _,Uc 1 23 _,Uc 2 24 _,Uc 3 21 _,Uc 4 25 _,Uc 5 26 _,Uc 6 3 _,Uc 7 4 _] (.k (.k .z)) (.k .z) ⟨ld,bd [.o .i,.o .i] [(0,_),(1,_)],zx (IZ (L:=GK) (d:=1) (p:=(2,2))),mv,ext,ext,mv,mv,trivial⟩ (.k (.k .z)) (.lM (.gV (.k .z))) λa w hI=>?_
 refine dQ hI 9 [⟨5,5,some 6,none,.ptr,71,2,true,pv _,[(7,pv _)]⟩] [] [Uc 0 28 _,Uc 1 29 _,Uc 2 30 _,Uc 3 27 _,Uc 4 31 _,Uc 5 32 _,Uc 8 6 _] (.k (.k .z)) (.fS .z) ⟨ld,ld,zx Mv,mv,ext,ext,rA [.n,.i],nw,mv,trivial⟩ (.k (.k (.s .o .z))) (.lN (.ek (.dk .z))) λa w hI=>?_
 refine dQ hI 8 [] [] [Uc 0 34 _,Uc 1 35 _,Uc 2 36 _,Uc 3 33 _,Uc 4 37 _,Uc 5 38 _,Uc 6 7 _,Uc 7 8 _] (.k (.k (.k .z))) (.aK .z) ⟨ld,ld,SR (Lx (K:=GK) (L:=Ie) (k:=1) (l:=2) (f:=1)),mv,ext,ext,mv,mv,trivial⟩ (.d (.d (.k .z))) (.aK (.ek (.yw .z))) λa w hI=>?_
 refine dQ hI 14 [⟨9,9,some 11,none,.ptr,78,9,true,pv _,[(12,pv _)]⟩] [] [Uc 0 40 _,Uc 1 41 _,Uc 2 42 _,Uc 3 43 _,Uc 4 44 _,Uc 5 45 _,Uc 6 46 _,Uc 7 47 _,Uc 8 39 _,Uc 9 48 _,Uc 10 49 _,Uc 13 10 _] (.k .z) (.aK (.kk .z)) ⟨E6 zI,bd [.o .r,.o .r,.o .r] [(0,_)],E6 zI,E6 zI,E6 zI,bd [.o .r,.o .r,.o .r] [(0,_),(1,_),(2,_)],SQ (p:=pV au 64 [1,0,0]) (q:=pV au 64 [1,4,2]) (zv:=.agg ([Zl.r,.r,.r].flatMap Zl.cs).toArray) 78 ([Zl.r,.r,.r].flatMap Zl.cs) (λi=>pV au 64 (SS i)) (nR (λ_=>nQ) rfl) (nR (λ_=>nQ) rfl) (h1:=(hs).imp (qL.pV (qL.c (by decide) (qL.c (by decide) (qL.c (by decide) qL.z))))) (h2:=(hs).imp (qL.pV (qL.c (by decide) (qL.c (by decide) (qL.c (by decide) qL.z))))),vY FF (hφ:=Ou),mv,ext,ext,rA [.r,.r,.r],nw,mv,trivial⟩ (.k (.s .o .z)) (.aK (.gX (.d8 (.dk .z)))) λa w hI=>?_
 refine dQ hI 42 [] [⟨some 10,60,5,1,_⟩,⟨some 15,65,5,0,_⟩,⟨some 30,80,9,3,_⟩,⟨some 36,86,9,6,_⟩] [Uc 0 50 _,Uc 1 51 _,Uc 2 52 _,Uc 3 53 _,Uc 4 54 _,Uc 5 55 _,Uc 6 56 _,Uc 7 57 _,Uc 8 58 _,Uc 9 59 _,Uc 11 61 _,Uc 12 62 _,Uc 13 63 _,Uc 14 64 _,Uc 16 66 _,Uc 17 67 _,Uc 18 68 _,Uc 19 69 _,Uc 20 70 _,Uc 21 71 _,Uc 22 72 _,Uc 23 73 _,Uc 24 74 _,Uc 25 75 _,Uc 26 76 _,Uc 27 77 _,Uc 28 78 _,Uc 29 79 _,Uc 31 81 _,Uc 32 82 _,Uc 33 83 _,Uc 34 84 _,Uc 35 85 _,Uc 37 87 _,Uc 38 88 _,Uc 39 89 _,Uc 40 90 _,Uc 41 0 _] (.k (.k .z)) (.t 41 (.aK (.kk .z))) ⟨mv,mv,mv,mv,JD hs hs hs hs (pt rfl),bn,mv,gd λh=>Fk h,pk,mv,gd λh=>Lg h,gd λh=>yF h,gd λh=>DW h,pk,mv,gd λh=>Lg h,gd λh=>yF h,gd λh=>bd [.o .i,.o .i] [] (hp:=pg h rfl),gd λh=>bd [.o .i,.o .i] [(0,_)] (hp:=pg h rfl),gd λh=>bd [.o .i,.o .i] [(0,_),(1,_)] (hp:=pg h rfl),gd λh=>bd [.o .i,.o .i] [(0,_),(1,_)] (hp:=pg h rfl),gd λh=>bd [.o .i,.o .i] [(1,_)] (hp:=pg h rfl),gd λh=>TX h 68 QO [(0,gK (0,0)),(1,gK (4,0)),(2,gK (5,1)),(3,gK (1,5)),(4,gK (0,4))],gd λh=>OA h (LD (K:=QO) (L:=QO)),pk,mv,gd λh=>Fk h,gd λh=>Yk h,pk,mv,gd λh=>Lg h,gd λh=>lV 1 (hcd:=h) (hq:=by decide) (hp:=pg h rfl),gd λh=>Le h (Dv ⟨#[50]⟩) (hφ:=⟨by kernel_rfl,by decide⟩),gd λh=>rZ (neq:=false) (m:=⟨#[50]⟩) hg hg (pg h rfl),pk,mv,gd λh=>Lg h,gd λh=>lV 2 (hcd:=h) (hq:=by decide) (hp:=pg h rfl),gd λh=>Le h (Dv ⟨#[49]⟩) (hφ:=⟨by kernel_rfl,by decide⟩),gd λh=>rZ (neq:=false) (m:=⟨#[49]⟩) hg hg (pg h rfl),pk,mv,trivial⟩ (.d (.d .z)) (.d8 (.d8 (.d8 (.d8 (.d8 (.ek (.k .z))))))) λa w hI=>?_
 refine bL ?_
 exact dx hI rfl (pC (hq:=jT (by kernel_rfl)))
end Wx

namespace Wx
set_option maxRecDepth 100000
set_option maxHeartbeats 1000000
open Go Go.RowKit Go.Proofs
theorem xE (w:World) (vx:Value) (x:Rat) (hx:cH w vx x):Calls Tryz.prog 14 #[vx] w (dY w (.int .i64 (dS x))):=by
 obtain⟨oz,oA,rfl,cw,cT⟩:=id hx
 obtain⟨aV,aX,rfl,_⟩:=id cw
 obtain⟨aW,aY,rfl,_⟩:=id cT
 have hS:dS x=if x=0 then 0 else if x.num<0 then -1 else 1:=by
  unfold dS
  by_cases h:x=0
  ·subst h; rfl
  ·rw[if_neg h,if_neg h]
 have hx0:=hx
 clear hx
 generalize dS x=z at *
 by_cases h2:x=0
 ·rw[if_pos h2]at hS
  subst hS
  have HD:=bx (decide_eq_true h2)
  clear h2
  go_enter Tryz.func14,Tryz.ntmps14
  go_wp2_with fail
  obtain⟨w1,e1,oP,b1,s1⟩:=dy w [.bool (decide (x.num<0)),.slice aV (ae af x.num.natAbs).length aX,.slice aW (ae af x.den).length aY] 38
  rw[e1]
  clear e1
  replace hx0:=hx0.below b1
  have B:=b1
  clear b1
  have hc:=lg _ _ x hx0
  rw[HD.out]at hc
  refine Calls.mono (hc) ?_
  rintro e w2 ⟨rfl,b2⟩
  replace hx0:=hx0.below b2
  replace oP:=oP.gone b2
  replace B:=B.trans (b2.mono B.size)
  clear b2
  clear hc
  have k1:=oP.cell (i:=0) rfl
  have k2:=oP.cell (i:=1) rfl
  have k3:=oP.cell (i:=2) rfl
  go_wp2
  go_ret
  exact⟨rfl,B⟩
 ·rw[if_neg h2]at hS
  have HD:=bx (decide_eq_false h2)
  clear h2
  by_cases h1:x.num<0
  ·rw[if_pos h1]at hS
   subst hS
   rw[decide_eq_true h1]at *
   go_enter Tryz.func14,Tryz.ntmps14
   go_wp2_with fail
   obtain⟨w1,e1,oP,b1,s1⟩:=dy w [.bool true,.slice aV (ae af x.num.natAbs).length aX,.slice aW (ae af x.den).length aY] 38
   rw[e1]
   clear e1
   replace hx0:=hx0.below b1
   have B:=b1
   clear b1
   have hc:=lg _ _ x hx0
   rw[HD.out]at hc
   refine Calls.mono (hc) ?_
   rintro e w2 ⟨rfl,b2⟩
   replace hx0:=hx0.below b2
   replace oP:=oP.gone b2
   replace B:=B.trans (b2.mono B.size)
   clear b2
   clear hc
   have k1:=oP.cell (i:=0) rfl
   have k2:=oP.cell (i:=1) rfl
   have k3:=oP.cell (i:=2) rfl
   go_wp2
   go_ret
   exact⟨rfl,B⟩
  ·rw[if_neg h1]at hS
   subst hS
   rw[decide_eq_false h1]at *
   go_enter Tryz.func14,Tryz.ntmps14
   go_wp2_with fail
   obtain⟨w1,e1,oP,b1,s1⟩:=dy w [.bool false,.slice aV (ae af x.num.natAbs).length aX,.slice aW (ae af x.den).length aY] 38
   rw[e1]
   clear e1
   replace hx0:=hx0.below b1
   have B:=b1
   clear b1
   have hc:=lg _ _ x hx0
   rw[HD.out]at hc
   refine Calls.mono (hc) ?_
   rintro e w2 ⟨rfl,b2⟩
   replace hx0:=hx0.below b2
   replace oP:=oP.gone b2
   replace B:=B.trans (b2.mono B.size)
   clear b2
   clear hc
   have k1:=oP.cell (i:=0) rfl
   have k2:=oP.cell (i:=1) rfl
   have k3:=oP.cell (i:=2) rfl
   go_wp2
   go_ret
   exact⟨rfl,B⟩
end Wx

namespace Wx
set_option maxRecDepth 100000
open Go Go.RowKit Go.Proofs
set_option maxHeartbeats 8000000 in
theorem uB (w:World) (vx vy:Value) (x y:Rat) (hx:cH w vx x) (hy:cH w vy y) {j k:Nat} (hj:bg j x) (hk:bg k y) (kP:j+k<=10000000):Calls Tryz.prog 39 #[vx,vy] w (eD w (x*y)):=by
 obtain⟨oz,oA,rfl,cw,cT⟩:=id hx
 obtain⟨aV,aX,rfl,_⟩:=id cw
 obtain⟨aW,aY,rfl,_⟩:=id cT
 obtain⟨Kj,Kk,rfl,iS,iJ⟩:=id hy
 obtain⟨dL,dN,rfl,_⟩:=id iS
 obtain⟨dM,dO,rfl,_⟩:=id iJ
 have rh:=x.den_pos
 have KB:=y.den_pos
 have HB:=bx (And.intro hj hk)
 have de:j<=1000000000:=by omega
 have jE:k<=1000000000:=by omega
 have hx0:=hx
 have hy0:=hy
 clear hj hk hx hy
 go_enter Tryz.func39,Tryz.ntmps39
 go_wp2_with fail
 obtain⟨w1,e1,o1,b1,s1⟩:=dy w [.bool (decide (x.num<0)),.slice aV (ae af x.num.natAbs).length aX,.slice aW (ae af x.den).length aY] 38
 obtain⟨w2,e2,o2,b2,s2⟩:=dy w1 [.bool (decide (y.num<0)),.slice dL (ae af y.num.natAbs).length dN,.slice dM (ae af y.den).length dO] 38
 obtain⟨w3,e3,o3,b3,s3⟩:=dy w2 [.bool false,.slice none 0 0,.slice none 0 0] 38
 rw[e1,e2,e3]
 rw[s1]at o2
 rw[s2,s1]at o3
 have p1:=((o1.gone b2).gone b3)
 have p2:=(o2.gone b3)
 have p3:=o3
 have B0:=((b1.trans (b2.mono b1.size)).trans (b3.mono (b1.trans (b2.mono b1.size)).size))
 have hS:∀w',aC w (w.heap.size+2) 3 38 [(w.heap.size,[.bool (decide (x.num<0)),.slice aV (ae af x.num.natAbs).length aX,.slice aW (ae af x.den).length aY],38),(w.heap.size+1,[.bool (decide (y.num<0)),.slice dL (ae af y.num.natAbs).length dN,.slice dM (ae af y.den).length dO],38)] w'->aC w (w.heap.size+2) 3 38 [(w.heap.size,[.bool (decide (x.num<0)),.slice aV (ae af x.num.natAbs).length aX,.slice aW (ae af x.den).length aY],38),(w.heap.size+1,[.bool (decide (y.num<0)),.slice dL (ae af y.num.natAbs).length dN,.slice dM (ae af y.den).length dO],38)] w'/\w'.cell? ⟨w.heap.size,0,none⟩=some (.bool (decide (x.num<0)))/\w'.cell? ⟨w.heap.size,1,none⟩=some (.slice aV (ae af x.num.natAbs).length aX)/\w'.cell? ⟨w.heap.size,2,none⟩=some (.slice aW (ae af x.den).length aY)/\w'.cell? ⟨w.heap.size+1,0,none⟩=some (.bool (decide (y.num<0)))/\w'.cell? ⟨w.heap.size+1,1,none⟩=some (.slice dL (ae af y.num.natAbs).length dN)/\w'.cell? ⟨w.heap.size+1,2,none⟩=some (.slice dM (ae af y.den).length dO)/\w'.cell? ⟨w.heap.size+2,0,none⟩=some (cv w' ⟨w.heap.size+2,0,none⟩)/\w'.cell? ⟨w.heap.size+2,1,none⟩=some (cv w' ⟨w.heap.size+2,1,none⟩)/\w'.cell? ⟨w.heap.size+2,2,none⟩=some (cv w' ⟨w.heap.size+2,2,none⟩)/\w'.frozen? ⟨w.heap.size+2,0,none⟩=false/\w'.frozen? ⟨w.heap.size+2,1,none⟩=false/\w'.frozen? ⟨w.heap.size+2,2,none⟩=false:=λw' hh=>by
  have r1:=hh.par (p:=(w.heap.size,[.bool (decide (x.num<0)),.slice aV (ae af x.num.natAbs).length aX,.slice aW (ae af x.den).length aY],38)) (by simp)
  have r2:=hh.par (p:=(w.heap.size+1,[.bool (decide (y.num<0)),.slice dL (ae af y.num.natAbs).length dN,.slice dM (ae af y.den).length dO],38)) (by simp)
  exact⟨hh,r1.cell (i:=0) rfl,r1.cell (i:=1) rfl,r1.cell (i:=2) rfl,r2.cell (i:=0) rfl,r2.cell (i:=1) rfl,r2.cell (i:=2) rfl,hh.dH (i:=0) (by omega),hh.dH (i:=1) (by omega),hh.dH (i:=2) (by omega),hh.ou 0,hh.ou 1,hh.ou 2⟩
 have hz:aC w (w.heap.size+2) 3 38 [(w.heap.size,[.bool (decide (x.num<0)),.slice aV (ae af x.num.natAbs).length aX,.slice aW (ae af x.den).length aY],38),(w.heap.size+1,[.bool (decide (y.num<0)),.slice dL (ae af y.num.natAbs).length dN,.slice dM (ae af y.den).length dO],38)] w3:=⟨B0,by omega,by intro q hq; simp at hq; rcases hq with rfl|rfl; exact⟨by simp,p1⟩; exact⟨by simp,p2⟩,_,rfl,p3,bP⟩
 clear e1 e2 e3 o1 b1 s1 p1 o2 b2 s2 p2 o3 b3 s3 p3
 clear B0
 have hz:=hz.drew
 go_region_held3 (λw'=>aC w (w.heap.size+2) 3 38 [(w.heap.size,[.bool (decide (x.num<0)),.slice aV (ae af x.num.natAbs).length aX,.slice aW (ae af x.den).length aY],38),(w.heap.size+1,[.bool (decide (y.num<0)),.slice dL (ae af y.num.natAbs).length dN,.slice dM (ae af y.den).length dO],38)] w'/\w'.cell? ⟨w.heap.size,0,none⟩=some (.bool (decide (x.num<0)))/\w'.cell? ⟨w.heap.size,1,none⟩=some (.slice aV (ae af x.num.natAbs).length aX)/\w'.cell? ⟨w.heap.size,2,none⟩=some (.slice aW (ae af x.den).length aY)/\w'.cell? ⟨w.heap.size+1,0,none⟩=some (.bool (decide (y.num<0)))/\w'.cell? ⟨w.heap.size+1,1,none⟩=some (.slice dL (ae af y.num.natAbs).length dN)/\w'.cell? ⟨w.heap.size+1,2,none⟩=some (.slice dM (ae af y.den).length dO)/\w'.cell? ⟨w.heap.size+2,0,none⟩=some (cv w' ⟨w.heap.size+2,0,none⟩)/\w'.cell? ⟨w.heap.size+2,1,none⟩=some (cv w' ⟨w.heap.size+2,1,none⟩)/\w'.cell? ⟨w.heap.size+2,2,none⟩=some (cv w' ⟨w.heap.size+2,2,none⟩)/\w'.frozen? ⟨w.heap.size+2,0,none⟩=false/\w'.frozen? ⟨w.heap.size+2,1,none⟩=false/\w'.frozen? ⟨w.heap.size+2,2,none⟩=false)
  (first|exact hS _ hz|exact hS _ (aC.nt hz))
  (first
   |(go_at_call 49; have hc:=iC _ _ _ _ _ (cw.below hz.1) (iS.below hz.1) HB.out.1.1 HB.out.2.1 (by omega) (by omega); (with_reducible refine Calls.mono hc ?_); clear hc; rintro e wz ⟨Td,rfl,fJ,hb⟩; (try have bV:=bV.below hb); (try have fK:=fK.below hb); (try have fJ:=fJ.below hb); (try have fI:=fI.below hb); (try have qa:=qa.below hb); (try have hs1:=hs1.below hb); have hz:=aC.call (And.intro hz trivial) hb)
   |(go_at_call 50; have hc:=cN _ _ x (hx0.below hz.1); (with_reducible refine Calls.mono hc ?_); clear hc; rintro e wz ⟨PR,rfl,bV,hb⟩; (try have bV:=bV.below hb); (try have fK:=fK.below hb); (try have fJ:=fJ.below hb); (try have fI:=fI.below hb); (try have qa:=qa.below hb); (try have hs1:=hs1.below hb); have hz:=aC.call (And.intro hz trivial) hb)
   |(go_at_call 50; have hc:=cN _ _ y (hy0.below hz.1); (with_reducible refine Calls.mono hc ?_); clear hc; rintro e wz ⟨Tf,rfl,fK,hb⟩; (try have bV:=bV.below hb); (try have fK:=fK.below hb); (try have fJ:=fJ.below hb); (try have fI:=fI.below hb); (try have qa:=qa.below hb); (try have hs1:=hs1.below hb); have hz:=aC.call (And.intro hz trivial) hb)
   |(go_at_call 49; have hc:=iC _ _ _ _ _ bV fK HB.out.1.2 HB.out.2.2 (by omega) (by omega); (with_reducible refine Calls.mono hc ?_); clear hc; rintro e wz ⟨Te,rfl,fI,hb⟩; (try have bV:=bV.below hb); (try have fK:=fK.below hb); (try have fJ:=fJ.below hb); (try have fI:=fI.below hb); (try have qa:=qa.below hb); (try have hs1:=hs1.below hb); have hz:=aC.call (And.intro hz trivial) hb)
   |(go_at_call 48; have hc:=iz _ (!(decide (x.num<0)==decide (y.num<0))) _ _ (x.num.natAbs*y.num.natAbs) (x.den*y.den) fJ fI (Nat.mul_pos rh KB) (HB.out.1.1.mul HB.out.2.1) (HB.out.1.2.mul HB.out.2.2) kP; (with_reducible refine Calls.mono hc ?_); clear hc; rintro e wz ⟨vr,rfl,hr,hb⟩; (try have bV:=bV.below hb); (try have fK:=fK.below hb); (try have fJ:=fJ.below hb); (try have fI:=fI.below hb); (try have qa:=qa.below hb); (try have hs1:=hs1.below hb); have hz:=aC.call (And.intro hz trivial) hb; replace hr:=AJ hr (yX x y); obtain⟨Ki,EN,rfl,uh,hrb⟩:=id hr; obtain⟨mo,my,rfl,_⟩:=id uh; obtain⟨mw,mz,rfl,_⟩:=id hrb))
 all_goals (
  go_wp2
  obtain⟨wf,HW,ho,hB,hN⟩:=hz.fin [.bool (decide ((x*y).num<0)),.slice mo (ae af (x*y).num.natAbs).length my,.slice mw (ae af (x*y).den).length mz] rfl bP
  simp only[ct,Nat.reduceAdd]at HW
  (try rw[HW])
  (try simp only[Exit.inBlock,Exit.then])
  have f0:=ho.cell (i:=0) rfl
  have f1:=ho.cell (i:=1) rfl
  have f2:=ho.cell (i:=2) rfl
  refine bodyPost_ret (by simp[results,Tryz.results39,go_sem,f0,f1,f2]; try rfl) rfl ?_
  exact⟨_,rfl,hr.into hN,hB⟩)
end Wx
