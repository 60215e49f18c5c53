import Derived.Test.YtocboimkilkklaaGreatJRF30
namespace Wx
set_option maxRecDepth 100000
set_option maxHeartbeats 1000000
open Go Go.RowKit Go.Proofs
theorem lg (w:World) (v:Value) (q:Rat) (h:cH w v q):Calls Tryz.prog 47 #[v] w (dY w (.bool (decide (q=0)))):=by
 obtain⟨vn,vd,rfl,h1,h2⟩:=h
 obtain⟨A1,c1,rfl,_⟩:=id h1
 obtain⟨A2,c2,rfl,_⟩:=id h2
 have hz:(((ae af q.num.natAbs).length:Int)==0)=decide (q=0):=by
  by_cases hq:q=0
  ·rw[hq,decide_eq_true rfl]; rfl
  ·rw[decide_eq_false hq,beq_eq_false_iff_ne]
   have:=(az (n:=q.num.natAbs) ak).2 (by have:=mt (gP q).1 hq; omega)
   omega
 generalize (ae af q.num.natAbs).length=L1 at *
 go_enter Tryz.func47,Tryz.ntmps47
 go_wp2
 go_ret
 exact⟨rfl,Below.alloc (Below.refl _ _) (Nat.le_refl _) _⟩
theorem uC (w:World) (v:Value) (q:Rat) (hx:cH w v q):Calls Tryz.prog 129 #[v] w (eD w (-q)):=by
 obtain⟨oz,oA,rfl,cw,cT⟩:=id hx
 obtain⟨aV,aX,rfl,_⟩:=id cw
 obtain⟨aW,aY,rfl,_⟩:=id cT
 have hf:=A7 q
 have hn:(-q).num.natAbs=q.num.natAbs:=by rw[Rat.neg_num,Int.natAbs_neg]
 have hd:(-q).den=q.den:=rfl
 have hx0:=hx
 clear hx
 generalize decide (q.num<0)=neg at *
 cases neg
 ·simp only[Bool.not_false,Bool.true_and]at hf
  go_enter Tryz.func129,Tryz.ntmps129
  go_wp2_with fail
  obtain⟨w1,e1,o1,b1,s1⟩:=dy w [.bool false,.slice aV (ae af q.num.natAbs).length aX,.slice aW (ae af q.den).length aY] 38
  obtain⟨w2,e2,o2,b2,s2⟩:=dy w1 [.bool false,.slice none 0 0,.slice none 0 0] 38
  rw[e1,e2]
  rw[s1]at o2
  have p1:=(o1.gone b2)
  have p2:=o2
  have B0:=(b1.trans (b2.mono b1.size))
  have hS:∀w',aC w (w.heap.size+1) 3 38 [(w.heap.size,[.bool false,.slice aV (ae af q.num.natAbs).length aX,.slice aW (ae af q.den).length aY],38)] w'->aC w (w.heap.size+1) 3 38 [(w.heap.size,[.bool false,.slice aV (ae af q.num.natAbs).length aX,.slice aW (ae af q.den).length aY],38)] w'/\w'.cell? ⟨w.heap.size,0,none⟩=some (.bool false)/\w'.cell? ⟨w.heap.size,1,none⟩=some (.slice aV (ae af q.num.natAbs).length aX)/\w'.cell? ⟨w.heap.size,2,none⟩=some (.slice aW (ae af q.den).length aY)/\w'.cell? ⟨w.heap.size+1,0,none⟩=some (cv w' ⟨w.heap.size+1,0,none⟩)/\w'.cell? ⟨w.heap.size+1,1,none⟩=some (cv w' ⟨w.heap.size+1,1,none⟩)/\w'.cell? ⟨w.heap.size+1,2,none⟩=some (cv w' ⟨w.heap.size+1,2,none⟩)/\w'.frozen? ⟨w.heap.size+1,0,none⟩=false/\w'.frozen? ⟨w.heap.size+1,1,none⟩=false/\w'.frozen? ⟨w.heap.size+1,2,none⟩=false:=λw' hh=>by
   have r1:=hh.par (p:=(w.heap.size,[.bool false,.slice aV (ae af q.num.natAbs).length aX,.slice aW (ae af q.den).length aY],38)) (by simp)
   exact⟨hh,r1.cell (i:=0) rfl,r1.cell (i:=1) rfl,r1.cell (i:=2) rfl,hh.dH (i:=0) (by omega),hh.dH (i:=1) (by omega),hh.dH (i:=2) (by omega),hh.ou 0,hh.ou 1,hh.ou 2⟩
  have hz:aC w (w.heap.size+1) 3 38 [(w.heap.size,[.bool false,.slice aV (ae af q.num.natAbs).length aX,.slice aW (ae af q.den).length aY],38)] w2:=⟨B0,by omega,by intro q hq; simp at hq; subst hq; exact⟨by simp,p1⟩,_,rfl,p2,bP⟩
  clear e1 e2 o1 b1 s1 p1 o2 b2 s2 p2
  clear B0
  have hz:=hz.drew
  go_region_held3 (λw'=>aC w (w.heap.size+1) 3 38 [(w.heap.size,[.bool false,.slice aV (ae af q.num.natAbs).length aX,.slice aW (ae af q.den).length aY],38)] w'/\w'.cell? ⟨w.heap.size,0,none⟩=some (.bool false)/\w'.cell? ⟨w.heap.size,1,none⟩=some (.slice aV (ae af q.num.natAbs).length aX)/\w'.cell? ⟨w.heap.size,2,none⟩=some (.slice aW (ae af q.den).length aY)/\w'.cell? ⟨w.heap.size+1,0,none⟩=some (cv w' ⟨w.heap.size+1,0,none⟩)/\w'.cell? ⟨w.heap.size+1,1,none⟩=some (cv w' ⟨w.heap.size+1,1,none⟩)/\w'.cell? ⟨w.heap.size+1,2,none⟩=some (cv w' ⟨w.heap.size+1,2,none⟩)/\w'.frozen? ⟨w.heap.size+1,0,none⟩=false/\w'.frozen? ⟨w.heap.size+1,1,none⟩=false/\w'.frozen? ⟨w.heap.size+1,2,none⟩=false)
   (first|exact hS _ hz|exact hS _ (aC.nt hz))
   (first
    |(go_at_call 47; have hc:=lg _ _ q (hx0.below hz.1); (with_reducible refine Calls.mono hc ?_); clear hc; rintro e wz ⟨rfl,hb⟩; have hz:=aC.call (And.intro hz trivial) hb))
  all_goals (
   go_wp2
   obtain⟨wf,HW,ho,hB,hN⟩:=hz.fin [.bool (!decide (q=0)),.slice aV (ae af q.num.natAbs).length aX,.slice aW (ae af q.den).length aY] rfl bP
   simp only[ct,Nat.reduceAdd]at HW
   (try rw[HW])
   (try simp only[Exit.inBlock,Exit.then])
   have f0:=ho.cell (i:=0) rfl
   have f1:=ho.cell (i:=1) rfl
   have f2:=ho.cell (i:=2) rfl
   refine bodyPost_ret (by simp[results,Tryz.results129,go_sem,f0,f1,f2]; try rfl) rfl ?_
   exact⟨_,rfl,⟨_,_,by rw[hf],by rw[hn]; exact hN _ _ _ _ (cw.below hz.1),by rw[hd]; exact hN _ _ _ _ (cT.below hz.1)⟩,hB⟩)
 ·simp only[Bool.not_true,Bool.false_and]at hf
  clear hx0
  go_enter Tryz.func129,Tryz.ntmps129
  go_wp2_with fail
  obtain⟨w1,e1,o1,b1,s1⟩:=dy w [.bool true,.slice aV (ae af q.num.natAbs).length aX,.slice aW (ae af q.den).length aY] 38
  obtain⟨w2,e2,o2,b2,s2⟩:=dy w1 [.bool false,.slice none 0 0,.slice none 0 0] 38
  rw[e1,e2]
  rw[s1]at o2
  have p1:=(o1.gone b2)
  have p2:=o2
  have B0:=(b1.trans (b2.mono b1.size))
  have hS:∀w',aC w (w.heap.size+1) 3 38 [(w.heap.size,[.bool true,.slice aV (ae af q.num.natAbs).length aX,.slice aW (ae af q.den).length aY],38)] w'->aC w (w.heap.size+1) 3 38 [(w.heap.size,[.bool true,.slice aV (ae af q.num.natAbs).length aX,.slice aW (ae af q.den).length aY],38)] w'/\w'.cell? ⟨w.heap.size,0,none⟩=some (.bool true)/\w'.cell? ⟨w.heap.size,1,none⟩=some (.slice aV (ae af q.num.natAbs).length aX)/\w'.cell? ⟨w.heap.size,2,none⟩=some (.slice aW (ae af q.den).length aY)/\w'.cell? ⟨w.heap.size+1,0,none⟩=some (cv w' ⟨w.heap.size+1,0,none⟩)/\w'.cell? ⟨w.heap.size+1,1,none⟩=some (cv w' ⟨w.heap.size+1,1,none⟩)/\w'.cell? ⟨w.heap.size+1,2,none⟩=some (cv w' ⟨w.heap.size+1,2,none⟩)/\w'.frozen? ⟨w.heap.size+1,0,none⟩=false/\w'.frozen? ⟨w.heap.size+1,1,none⟩=false/\w'.frozen? ⟨w.heap.size+1,2,none⟩=false:=λw' hh=>by
   have r1:=hh.par (p:=(w.heap.size,[.bool true,.slice aV (ae af q.num.natAbs).length aX,.slice aW (ae af q.den).length aY],38)) (by simp)
   exact⟨hh,r1.cell (i:=0) rfl,r1.cell (i:=1) rfl,r1.cell (i:=2) rfl,hh.dH (i:=0) (by omega),hh.dH (i:=1) (by omega),hh.dH (i:=2) (by omega),hh.ou 0,hh.ou 1,hh.ou 2⟩
  have hz:aC w (w.heap.size+1) 3 38 [(w.heap.size,[.bool true,.slice aV (ae af q.num.natAbs).length aX,.slice aW (ae af q.den).length aY],38)] w2:=⟨B0,by omega,by intro q hq; simp at hq; subst hq; exact⟨by simp,p1⟩,_,rfl,p2,bP⟩
  clear e1 e2 o1 b1 s1 p1 o2 b2 s2 p2
  clear B0
  obtain⟨_,k0,k1,k2,k3,k4,k5,k6,k7,k8⟩:=hS _ hz
  go_region
  all_goals (
   go_wp2
   obtain⟨wf,HW,ho,hB,hN⟩:=hz.fin [.bool false,.slice aV (ae af q.num.natAbs).length aX,.slice aW (ae af q.den).length aY] rfl bP
   simp only[ct,Nat.reduceAdd]at HW
   (try rw[HW])
   (try simp only[Exit.inBlock,Exit.then])
   have f0:=ho.cell (i:=0) rfl
   have f1:=ho.cell (i:=1) rfl
   have f2:=ho.cell (i:=2) rfl
   refine bodyPost_ret (by simp[results,Tryz.results129,go_sem,f0,f1,f2]; try rfl) rfl ?_
   have hR:eD w (-q) (.returned _) wf:=⟨_,rfl,⟨_,_,by rw[hf],by rw[hn]; exact hN _ _ _ _ (cw.below hz.1),by rw[hd]; exact hN _ _ _ _ (cT.below hz.1)⟩,hB⟩
   first|exact hR|(obtain⟨v,h1,h2,h3⟩:=hR; exact⟨v,h1,h2.drew,h3.drew⟩))
theorem kC (w:World) (z:Int) (h1:-9223372036854775808<=z) (h2:z<=9223372036854775807):Calls Tryz.prog 68 #[.int .i64 z] w (eW .u32 af w z.natAbs):=by
 have KJ:Bx (z.natAbs<b64):=bx (by unfold b64; omega)
 by_cases hz:z<0
 ·have e1:IntKind.u64.wrap (-IntKind.u64.wrap z)=((z.natAbs:Nat):Int):=by
   simp[IntKind.wrap,IntKind.bits,IntKind.signed]; omega
  have E1:=bx e1
  clear e1
  go_enter Tryz.func68,Tryz.ntmps68
  go_wp2_with fail
  rw[E1.out]
  refine(dA w _ KJ.out).mono ?_
  rintro e w3 ⟨vr,rfl,hr3,hb3⟩
  go_wp2
  go_ret
  exact⟨_,rfl,hr3,hb3⟩
 ·have e1:z=((z.natAbs:Nat):Int):=by omega
  have E1:=bx e1
  clear e1
  go_enter Tryz.func68,Tryz.ntmps68
  go_wp2_with fail
  have hc:=dA w _ KJ.out
  rw[<-E1.out]at hc
  refine hc.mono ?_
  rintro e w3 ⟨vr,rfl,hr3,hb3⟩
  go_wp2
  go_ret
  exact⟨_,rfl,hr3,hb3⟩
theorem IV (z:Int):cL (decide (z<0)) z.natAbs 1=(z:Rat):=by
 unfold cL
 rw[Bz,Rat.mkRat_one]
theorem A8 (w:World) (z:Int) (h1:-9223372036854775808<=z) (h2:z<=9223372036854775807):Calls Tryz.prog 29 #[.int .i64 z] w (eD w (z:Rat)):=by
 have H:=bx (And.intro h1 h2)
 have hB:Bx (Bd 64 z.natAbs):=bx (by unfold Bd; omega)
 generalize hq:(z:Rat)=q
 have HQ:=bx hq
 clear h1 h2 hq
 go_enter Tryz.func29,Tryz.ntmps29
 go_wp2_with fail
 obtain⟨w1,e1,oR,b1,s1⟩:=dy w [.bool false,.slice none 0 0,.slice none 0 0] 38
 rw[e1]
 clear e1
 have B:=b1
 clear b1
 refine Calls.mono (kC _ z H.out.1 H.out.2) ?_
 rintro e w2 ⟨v1,rfl,h1,b2⟩
 replace oR:=oR.gone b2
 replace B:=B.trans (b2.mono B.size)
 clear b2
 go_wp2_with fail
 refine Calls.mono (dA _ 1 (by unfold b64; omega)) ?_
 rintro e w3 ⟨v2,rfl,h2,b3⟩
 replace oR:=oR.gone b3
 replace h1:=h1.below b3
 replace B:=B.trans (b3.mono B.size)
 clear b3
 go_wp2_with fail
 have hc:=iz _ (decide (z<0)) _ _ z.natAbs 1 h1 h2 (by omega) hB.out (by unfold Bd; omega) (by omega)
 rw[IV,HQ.out]at hc
 clear h1 h2
 refine Calls.mono (hc) ?_
 rintro e w4 ⟨vr,rfl,hr,b4⟩
 replace oR:=oR.gone b4
 replace B:=B.trans (b4.mono B.size)
 clear b4
 clear hc
 obtain⟨Ki,EN,rfl,uh,hrb⟩:=id hr
 obtain⟨mo,my,rfl,_⟩:=id uh
 obtain⟨mw,mz,rfl,_⟩:=id hrb
 have k1:=oR.cell (i:=0) rfl
 have k2:=oR.fz 0
 have k3:=oR.cell (i:=1) rfl
 have k4:=oR.fz 1
 have k5:=oR.cell (i:=2) rfl
 have k6:=oR.fz 2
 go_wp2
 obtain⟨wf,HW,ho,_,hN,yG,_⟩:=oR.put fA [.bool (decide (q.num<0)),.slice mo (ae af q.num.natAbs).length my,.slice mw (ae af q.den).length mz] rfl bP
 simp only[ct,Nat.reduceAdd]at HW
 (try rw[HW])
 (try simp only[Exit.inBlock,Exit.then])
 have f0:=ho.cell (i:=0) rfl
 have f1:=ho.cell (i:=1) rfl
 have f2:=ho.cell (i:=2) rfl
 refine bodyPost_ret (by simp[results,Tryz.results29,go_sem,f0,f1,f2]; try rfl) rfl ?_
 have HB:=yG _ (by omega) B
 exact⟨_,rfl,hr.into hN,HB⟩
def G6 (w:World) (q:Rat) (err:Int) (e:Ending) (w':World):Prop:=∃v,e=.returned (.tuple #[v,.int .i64 err])/\cH w' v q/\Below w.heap.size w w'
theorem Jn (w:World) (n d:Int) (h1:-9223372036854775808<=n) (h2:n<=9223372036854775807) (h3:-9223372036854775808<=d) (h4:d<=9223372036854775807) (hd:d≠0):
  Calls Tryz.prog 30 #[.int .i64 n,.int .i64 d] w (G6 w (uA n d) 0):=by
 have H:=bx (And.intro (And.intro h1 h2) (And.intro h3 h4))
 have HD:=bx hd
 have GM:(d==0)=false:=beq_eq_false_iff_ne.2 hd
 have B1:Bx (Bd 64 n.natAbs):=bx (by unfold Bd; omega)
 have B2:Bx (Bd 64 d.natAbs):=bx (by unfold Bd; omega)
 clear h1 h2 h3 h4 hd
 go_enter Tryz.func30,Tryz.ntmps30
 go_wp2_with fail
 obtain⟨w1,e1,oR,b1,s1⟩:=dy w [.bool false,.slice none 0 0,.slice none 0 0] 38
 rw[e1]
 clear e1
 have B:=b1
 clear b1
 refine Calls.mono (kC _ n H.out.1.1 H.out.1.2) ?_
 rintro e w2 ⟨v1,rfl,h1,b2⟩
 replace oR:=oR.gone b2
 replace B:=B.trans (b2.mono B.size)
 clear b2
 go_wp2_with fail
 refine Calls.mono (kC _ d H.out.2.1 H.out.2.2) ?_
 rintro e w3 ⟨v2,rfl,h2,b3⟩
 replace oR:=oR.gone b3
 replace h1:=h1.below b3
 replace B:=B.trans (b3.mono B.size)
 clear b3
 go_wp2_with fail
 refine Calls.mono (iz _ _ _ _ _ _ h1 h2 (by have:=HD.out; omega) B1.out B2.out (by omega)) ?_
 rintro e w4 ⟨vr,rfl,hr,b4⟩
 replace oR:=oR.gone b4
 replace h1:=h1.below b4
 replace h2:=h2.below b4
 replace B:=B.trans (b4.mono B.size)
 clear b4
 clear h1 h2
 change cH _ vr (uA n d)at hr
 generalize uA n d=q at *
 obtain⟨Ki,EN,rfl,uh,hrb⟩:=id hr
 obtain⟨mo,my,rfl,_⟩:=id uh
 obtain⟨mw,mz,rfl,_⟩:=id hrb
 have k1:=oR.cell (i:=0) rfl
 have k2:=oR.fz 0
 have k3:=oR.cell (i:=1) rfl
 have k4:=oR.fz 1
 have k5:=oR.cell (i:=2) rfl
 have k6:=oR.fz 2
 go_wp2
 obtain⟨wf,HW,ho,_,hN,yG,_⟩:=oR.put fA [.bool (decide (q.num<0)),.slice mo (ae af q.num.natAbs).length my,.slice mw (ae af q.den).length mz] rfl bP
 simp only[ct,Nat.reduceAdd]at HW
 (try rw[HW])
 (try simp only[Exit.inBlock,Exit.then])
 have f0:=ho.cell (i:=0) rfl
 have f1:=ho.cell (i:=1) rfl
 have f2:=ho.cell (i:=2) rfl
 refine bodyPost_ret (by simp[results,Tryz.results30,go_sem,f0,f1,f2]; try rfl) rfl ?_
 have HB:=yG _ (by omega) B
 exact⟨_,rfl,hr.into hN,HB⟩
end Wx

namespace Wx
set_option maxRecDepth 100000
set_option maxHeartbeats 1000000
open Go Go.RowKit Go.Proofs
theorem Ec (w:World) (n d:Int) (h1:-9223372036854775808<=n) (h2:n<=9223372036854775807) (h4:d<=9223372036854775807):
  Calls Tryz.prog 7 #[.agg #[.int .i64 n,.int .i64 d]] w (eD w (BP n d)):=by
 have HH:=bx (And.intro h1 (And.intro h2 h4))
 by_cases hd:d<=0
 ·have hq:BP n d=(n:Rat):=if_pos hd
  rw[hq]
  generalize hg:(n:Rat)=q
  have HG:=bx hg
  clear h1 h2 h4 hq hg
  go_enter Tryz.func7,Tryz.ntmps7
  go_wp2_with fail
  obtain⟨w1,e1,oP,b1,s1⟩:=dy w [.int .i64 n,.int .i64 d] 24
  rw[e1]
  clear e1
  have B:=b1
  clear b1
  obtain⟨w2,e2,oR,b2,s2⟩:=dy w1 [.bool false,.slice none 0 0,.slice none 0 0] 38
  rw[e2]
  rw[s1]at oR
  clear e2
  replace oP:=oP.gone b2
  replace B:=B.trans (b2.mono B.size)
  clear b2
  have hc:=A8 w2 n HH.out.1 HH.out.2.1
  rw[HG.out]at hc
  refine Calls.mono (hc) ?_
  rintro e w3 ⟨vr,rfl,hr,b3⟩
  replace oP:=oP.gone b3
  replace oR:=oR.gone b3
  replace B:=B.trans (b3.mono B.size)
  clear b3
  clear hc
  obtain⟨Ki,EN,rfl,uh,hrb⟩:=id hr
  obtain⟨mo,my,rfl,_⟩:=id uh
  obtain⟨mw,mz,rfl,_⟩:=id hrb
  have k1:=oR.cell (i:=0) rfl
  have k2:=oR.fz 0
  have k3:=oR.cell (i:=1) rfl
  have k4:=oR.fz 1
  have k5:=oR.cell (i:=2) rfl
  have k6:=oR.fz 2
  go_wp2
  obtain⟨wf,HW,ho,_,hN,yG,_⟩:=oR.put fA [.bool (decide (q.num<0)),.slice mo (ae af q.num.natAbs).length my,.slice mw (ae af q.den).length mz] rfl bP
  simp only[ct,Nat.reduceAdd]at HW
  (try rw[HW])
  (try simp only[Exit.inBlock,Exit.then])
  have f0:=ho.cell (i:=0) rfl
  have f1:=ho.cell (i:=1) rfl
  have f2:=ho.cell (i:=2) rfl
  refine bodyPost_ret (by simp[results,Tryz.results7,go_sem,f0,f1,f2]; try rfl) rfl ?_
  have HB:=yG _ (by omega) B
  exact⟨_,rfl,hr.into hN,HB⟩
 ·have hq:BP n d=uA n d:=if_neg hd
  rw[hq]
  generalize hg:uA n d=q
  have HG:=bx hg
  have GM:d≠0:=by omega
  have HD:=bx (And.intro GM (show -9223372036854775808<=d by omega))
  clear h1 h2 h4 hq hg GM
  go_enter Tryz.func7,Tryz.ntmps7
  go_wp2_with fail
  obtain⟨w1,e1,oP,b1,s1⟩:=dy w [.int .i64 n,.int .i64 d] 24
  rw[e1]
  clear e1
  have B:=b1
  clear b1
  obtain⟨w2,e2,oR,b2,s2⟩:=dy w1 [.bool false,.slice none 0 0,.slice none 0 0] 38
  rw[e2]
  rw[s1]at oR
  clear e2
  replace oP:=oP.gone b2
  replace B:=B.trans (b2.mono B.size)
  clear b2
  have hc:=Jn w2 n d HH.out.1 HH.out.2.1 HD.out.2 HH.out.2.2 HD.out.1
  rw[HG.out]at hc
  refine Calls.mono (hc) ?_
  rintro e w3 ⟨vr,rfl,hr,b3⟩
  replace oP:=oP.gone b3
  replace oR:=oR.gone b3
  replace B:=B.trans (b3.mono B.size)
  clear b3
  clear hc
  obtain⟨Ki,EN,rfl,uh,hrb⟩:=id hr
  obtain⟨mo,my,rfl,_⟩:=id uh
  obtain⟨mw,mz,rfl,_⟩:=id hrb
  obtain⟨w4,e4,oV,b4,s4⟩:=dy w3 [.bool (decide (q.num<0)),.slice mo (ae af q.num.natAbs).length my,.slice mw (ae af q.den).length mz] 38
  replace oP:=oP.gone b4
  replace oR:=oR.gone b4
  replace hr:=hr.below b4
  replace B:=B.trans (b4.mono B.size)
  clear b4 s4
  have k1:=oV.cell (i:=0) rfl
  have k2:=oV.cell (i:=1) rfl
  have k3:=oV.cell (i:=2) rfl
  have k4:=oR.cell (i:=0) rfl
  have k5:=oR.fz 0
  have k6:=oR.cell (i:=1) rfl
  have k7:=oR.fz 1
  have k8:=oR.cell (i:=2) rfl
  have k9:=oR.fz 2
  go_wp2
  obtain⟨wf,HW,ho,_,hN,yG,_⟩:=oR.put fA [.bool (decide (q.num<0)),.slice mo (ae af q.num.natAbs).length my,.slice mw (ae af q.den).length mz] rfl bP
  simp only[ct,Nat.reduceAdd]at HW
  (try rw[HW])
  (try simp only[Exit.inBlock,Exit.then])
  have f0:=ho.cell (i:=0) rfl
  have f1:=ho.cell (i:=1) rfl
  have f2:=ho.cell (i:=2) rfl
  refine bodyPost_ret (by simp[results,Tryz.results7,go_sem,f0,f1,f2]; try rfl) rfl ?_
  have HB:=yG _ (by omega) B
  exact⟨_,rfl,hr.into hN,HB⟩
end Wx

namespace Wx
open Go Go.RowKit Go.Proofs
set_option linter.unusedVariables false
attribute [local irreducible] OpOk
end Wx

namespace Wx
open Go Go.RowKit Go.Proofs
set_option linter.unusedVariables false
attribute [local irreducible] OpOk
end Wx

namespace Wx
open Go Go.RowKit Go.Proofs
set_option linter.unusedVariables false
attribute [local irreducible] OpOk
def L5 (x:Int×Int):Pred:=cU x.1 x.2
def z2:Int×Int:=(0,0)
abbrev Nw (D:List (Int×Int)):Pred:=pG 2 L5 D
def wZ (x:Int×Int):Prop :=-9223372036854775808<=x.1/\x.1<=9223372036854775807/\x.2<=9223372036854775807
def xk (x:Int×Int):Rat:=BP x.1 x.2
theorem DS (x:Int×Int):Fits 2 true (L5 x):=kN _ _
variable {x:Int×Int}
theorem TH (h:wZ x):∀w v1,L5 x w v1->Calls Tryz.prog 6 #[v1] w (fu (pR 64 (xk x)) w):=λw v1 h1=>by
 rw[qv h1]
 exact(Jz w x.1 x.2 h.1 h.2.1 h.2.2).mono λe w' hr=>fu.map (uQ (tG h.1 h.2.1 h.2.2)) (show fu (au (xk x)) w e w' from hr)
theorem VM (h:wZ x):∀w v1,L5 x w v1->Calls Tryz.prog 7 #[v1] w (fu (pN 64 (xk x)) w):=λw v1 h1=>by
 rw[qv h1]
 exact(Ec w x.1 x.2 h.1 h.2.1 h.2.2).mono λe w' hr=>fu.map (uQ (tG h.1 h.2.1 h.2.2)) (show fu (aR (xk x)) w e w' from hr)
section
variable {α:Type} {z:α} {R:Nat->α} {i k:Nat}
end
section
variable {P:Program} {ops:Array Oper} {ms:List Nat} {c:eL} {V:List Vr} {A:List Al} {G:List bI} {i:Nat}{d:Nat} {x y:Operand} {ty:TypeId} {pos:String} {aZ:Array Edge}
end
end Wx

namespace Wx
open Go Go.RowKit Go.Proofs Go.ChangeShapes Go.WideShapes Go.ChangeAt
set_option linter.unusedVariables false
section
variable {H:Type} {enc:TypeId×Value->H} {w:World}
theorem za:EX enc Tryz.prog w 24 true wZ L5:=
 EX.Sg (CU (N:=2) Tryz.underlying24 (by kernel_rfl) (by kernel_rfl) (lT (n:=1) (Er Tryz.underlying2) (by kernel_rfl) (by omega) (lT (n:=1) (Er Tryz.underlying2) (by kernel_rfl) (by omega) xK))) (λa=>(a.1,a.2.1))
  (λa h=>⟨(wf_i64 h.1).1,(wf_i64 h.1).2,(wf_i64 h.2.1).2⟩) (λa w v h=>h)
theorem Ox:wZ z2:=by unfold wZ z2; decide
theorem JF:EX enc Tryz.prog w 28 true (λD=>D.length=2/\∀q,wZ (D.getD q z2)) Nw:=
 EX.Sg (Gg (N:=4) (n:=2) Tryz.underlying28 (by kernel_rfl) (by kernel_rfl) (by kernel_rfl) (lT (n:=2) za (by kernel_rfl) (by omega) (lT (n:=2) za (by kernel_rfl) (by omega) xK))) (λa=>[a.1,a.2.1])
  (λa h=>⟨rfl,λq=>match q with
   |0=>h.1
   |1=>h.2.1
   |_+2=>Ox⟩)
  (λa w v h=>h)
end
end Wx
