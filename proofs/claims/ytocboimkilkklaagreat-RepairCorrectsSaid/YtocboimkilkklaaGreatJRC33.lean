import Derived.Test.YtocboimkilkklaaGreatJRC32
namespace Wx
open Go Go.RowKit
section
variable {g n:Nat} {R:List To} {X:List (List Rat)} {H:List Bk}
end
end Wx

namespace Wx
end Wx

namespace Wx
section
variable {A B:List (List Rat)} {n k:Nat}
end
section
variable {L:List Rat} {p:Rat} {k:Nat}
end
section
variable {X:List (List Rat)} {c k:Nat}
end
section
variable {X:List (List Rat)} {m j c:Nat}
end
open Go Go.RowKit
section
variable {X:List (List Rat)} {n k:Nat}
end
end Wx

namespace Wx
open Go Go.RowKit
section
variable {L:List Int} {n f k j:Nat}
end
end Wx

namespace Wx
section
variable {b f:List Rat} {t j J K n:Nat}
end
section
variable {m x:List Rat} {r:Rat} {t:Nat}
end
end Wx

namespace Wx
set_option maxRecDepth 100000
open Go Go.RowKit Go.Proofs
def Lv (n d:Int):Rat:=if d<=0 then(n:Rat)else uf n d
variable {n d:Int}
theorem Ko (h1:-9223372036854775808<=n) (h2:n<=9223372036854775807) (h3:-9223372036854775808<=d) (h4:d<=9223372036854775807) (hd:d≠0):bB 64 (uf n d):=
 nQ (by omega) (by unfold Bd; omega) (by unfold Bd; omega)
theorem xR (h1:-9223372036854775808<=n) (h2:n<=9223372036854775807) (h4:d<=9223372036854775807):bB 64 (Lv n d):=by
 unfold Lv
 split
 ·exact⟨by unfold Bd; rw[Rat.num_intCast]; omega,by unfold Bd; rw[Rat.den_intCast]; omega⟩
 ·exact Ko h1 h2 (by omega) h4 (by omega)
theorem OV (w:World) (n d:Int) (h1:-9223372036854775808<=n) (h2:n<=9223372036854775807) (h4:d<=9223372036854775807):
  Calls Tryz.prog 6 #[.agg #[.int .i64 n,.int .i64 d]] w (kZ w (Lv n d)):=by
 have HH:=bx (And.intro h1 (And.intro h2 h4))
 by_cases hd:d<=0
 ·have hq:Lv n d=(n:Rat):=if_pos hd
  rw[hq]
  generalize hg:(n:Rat)=q
  have HG:=bx hg
  clear h1 h2 h4 hq hg
  go_enter Tryz.func6,Tryz.ntmps6
  go_wp2_with fail
  obtain⟨w1,e1,o1,b1,s1⟩:=dP w [.int .i64 n,.int .i64 d] 24
  obtain⟨w2,e2,o2,b2,s2⟩:=dP w1 [.bool false,.slice none 0 0,.slice none 0 0] 32
  rw[e1,e2]
  rw[s1]at o2
  have hz:aU w (w.heap.size+1) 3 32 [] w2:=⟨b1.trans (b2.mono b1.size),by omega,by simp,_,rfl,o2,cq⟩
  clear e1 e2 s2
  have hc:=DS w2 n HH.out.1 HH.out.2.1
  rw[HG.out]at hc
  refine Calls.mono hc ?_
  clear hc
  rintro e w3 ⟨vr,rfl,hr,hb⟩
  obtain⟨R6,R5,rfl,Am,hrd⟩:=id hr
  obtain⟨rN,rS,rfl,_⟩:=id Am
  obtain⟨rO,rT,rfl,_⟩:=id hrd
  have hz:=aU.call (And.intro hz trivial) hb
  have k0:=hz.fC (i:=0) (by omega)
  have k1:=hz.fC (i:=1) (by omega)
  have k2:=hz.fC (i:=2) (by omega)
  have k3:=hz.vH 0
  have k4:=hz.vH 1
  have k5:=hz.vH 2
  go_wp2
  obtain⟨wf,HW,ho,hB,hN⟩:=hz.fin [_,_,_] rfl (cq (b:=decide (q.num<0)) (A1:=rN) (l1:=(ae b64 q.num.natAbs).length) (c1:=rS) (A2:=rO) (l2:=(ae b64 (ak q.den)).length) (c2:=rT))
  simp only[cF,Nat.reduceAdd]at HW
  rw[HW]
  (try simp only[Exit.inBlock,Exit.then])
  have f0:=ho.cell (i:=0) rfl
  have f1:=ho.cell (i:=1) rfl
  have f2:=ho.cell (i:=2) rfl
  refine bodyPost_ret (by simp[results,Tryz.results6,go_sem,f0,f1,f2]; try rfl) rfl ?_
  exact⟨_,rfl,hr.into hN,hB⟩
 ·have hq:Lv n d=uf n d:=if_neg hd
  rw[hq]
  generalize hg:uf n d=q
  have HG:=bx hg
  have Gv:d≠0:=by omega
  have HD:=bx (And.intro Gv (show -9223372036854775808<=d by omega))
  clear h1 h2 h4 hq hg Gv
  go_enter Tryz.func6,Tryz.ntmps6
  go_wp2_with fail
  obtain⟨w1,e1,o1,b1,s1⟩:=dP w [.int .i64 n,.int .i64 d] 24
  obtain⟨w2,e2,o2,b2,s2⟩:=dP w1 [.bool false,.slice none 0 0,.slice none 0 0] 32
  rw[e1,e2]
  rw[s1]at o2
  have hz:aU w (w.heap.size+1) 3 32 [] w2:=⟨b1.trans (b2.mono b1.size),by omega,by simp,_,rfl,o2,cq⟩
  clear e1 e2 s2
  have hc:=Lm w2 n d HH.out.1 HH.out.2.1 HD.out.2 HH.out.2.2 HD.out.1
  rw[HG.out]at hc
  refine Calls.mono hc ?_
  clear hc
  rintro e w3 ⟨vr,rfl,hr,hb⟩
  obtain⟨R6,R5,rfl,Am,hrd⟩:=id hr
  obtain⟨rN,rS,rfl,_⟩:=id Am
  obtain⟨rO,rT,rfl,_⟩:=id hrd
  have hz:=aU.call (And.intro hz trivial) hb
  obtain⟨w4,e4,o4,b4,s4⟩:=dP w3 [.bool (decide (q.num<0)),.slice rN (ae b64 q.num.natAbs).length rS,.slice rO (ae b64 (ak q.den)).length rT] 32
  have hr4:=hr.below b4
  have hz:=aU.call (And.intro hz trivial) b4
  have k0:=hz.fC (i:=0) (by omega)
  have k1:=hz.fC (i:=1) (by omega)
  have k2:=hz.fC (i:=2) (by omega)
  have k3:=hz.vH 0
  have k4:=hz.vH 1
  have k5:=hz.vH 2
  have k6:=o4.cell (i:=0) rfl
  have k7:=o4.cell (i:=1) rfl
  have k8:=o4.cell (i:=2) rfl
  go_wp2
  obtain⟨wf,HW,ho,hB,hN⟩:=hz.fin [_,_,_] rfl (cq (b:=decide (q.num<0)) (A1:=rN) (l1:=(ae b64 q.num.natAbs).length) (c1:=rS) (A2:=rO) (l2:=(ae b64 (ak q.den)).length) (c2:=rT))
  simp only[cF,Nat.reduceAdd]at HW
  rw[HW]
  (try simp only[Exit.inBlock,Exit.then])
  have f0:=ho.cell (i:=0) rfl
  have f1:=ho.cell (i:=1) rfl
  have f2:=ho.cell (i:=2) rfl
  refine bodyPost_ret (by simp[results,Tryz.results6,go_sem,f0,f1,f2]; try rfl) rfl ?_
  exact⟨_,rfl,hr4.into hN,hB⟩
end Wx

namespace Wx
set_option maxRecDepth 100000
set_option maxHeartbeats 1000000
open Go Go.RowKit Go.Proofs
theorem jb (w:World) (v:Value) (q:Rat) (h:cB w v q):Calls Tryz.prog 47 #[v] w (dA w (.bool (decide (q=0)))):=by
 obtain⟨vn,vd,rfl,h1,h2⟩:=h
 obtain⟨A1,c1,rfl,_⟩:=id h1
 obtain⟨A2,c2,rfl,_⟩:=id h2
 have hz:(((ae ah q.num.natAbs).length:Int)==0)=decide (q=0):=by
  by_cases hq:q=0
  ·rw[hq,decide_eq_true rfl]; rfl
  ·rw[decide_eq_false hq,beq_eq_false_iff_ne]
   have:=(av (n:=q.num.natAbs) aj).2 (by have:=mt (iS q).1 hq; omega)
   omega
 generalize (ae ah q.num.natAbs).length=L1 at *
 go_enter Tryz.func47,Tryz.ntmps47
 go_wp2
 go_ret
 exact⟨rfl,Below.alloc (Below.refl _ _) (Nat.le_refl _) _⟩
theorem IW (w:World) (v:Value) (q:Rat) (hx:cB w v q):Calls Tryz.prog 129 #[v] w (iz w (-q)):=by
 obtain⟨sP,sQ,rfl,cN,dH⟩:=id hx
 obtain⟨bN,bP,rfl,_⟩:=id cN
 obtain⟨bO,bQ,rfl,_⟩:=id dH
 have hf:=IU q
 have hn:(-q).num.natAbs=q.num.natAbs:=by rw[Rat.neg_num,Int.natAbs_neg]
 have hd:(-q).den=q.den:=rfl
 have hx0:=hx
 clear hx
 generalize decide (q.num<0)=neg at *
 cases neg
 ·simp only[Bool.not_false,Bool.true_and]at hf
  go_enter Tryz.func129,Tryz.ntmps129
  go_wp2_with fail
  obtain⟨w1,e1,o1,b1,s1⟩:=dP w [.bool false,.slice bN (ae ah q.num.natAbs).length bP,.slice bO (ae ah q.den).length bQ] 38
  obtain⟨w2,e2,o2,b2,s2⟩:=dP w1 [.bool false,.slice none 0 0,.slice none 0 0] 38
  rw[e1,e2]
  rw[s1]at o2
  have p1:=(o1.gone b2)
  have p2:=o2
  have B0:=(b1.trans (b2.mono b1.size))
  have hS:∀w',aU w (w.heap.size+1) 3 38 [(w.heap.size,[.bool false,.slice bN (ae ah q.num.natAbs).length bP,.slice bO (ae ah q.den).length bQ],38)] w'->aU w (w.heap.size+1) 3 38 [(w.heap.size,[.bool false,.slice bN (ae ah q.num.natAbs).length bP,.slice bO (ae ah q.den).length bQ],38)] w'/\w'.cell? ⟨w.heap.size,0,none⟩=some (.bool false)/\w'.cell? ⟨w.heap.size,1,none⟩=some (.slice bN (ae ah q.num.natAbs).length bP)/\w'.cell? ⟨w.heap.size,2,none⟩=some (.slice bO (ae ah q.den).length bQ)/\w'.cell? ⟨w.heap.size+1,0,none⟩=some (cv w' ⟨w.heap.size+1,0,none⟩)/\w'.cell? ⟨w.heap.size+1,1,none⟩=some (cv w' ⟨w.heap.size+1,1,none⟩)/\w'.cell? ⟨w.heap.size+1,2,none⟩=some (cv w' ⟨w.heap.size+1,2,none⟩)/\w'.frozen? ⟨w.heap.size+1,0,none⟩=false/\w'.frozen? ⟨w.heap.size+1,1,none⟩=false/\w'.frozen? ⟨w.heap.size+1,2,none⟩=false:=λw' hh=>by
   have r1:=hh.par (p:=(w.heap.size,[.bool false,.slice bN (ae ah q.num.natAbs).length bP,.slice bO (ae ah q.den).length bQ],38)) (by simp)
   exact⟨hh,r1.cell (i:=0) rfl,r1.cell (i:=1) rfl,r1.cell (i:=2) rfl,hh.fC (i:=0) (by omega),hh.fC (i:=1) (by omega),hh.fC (i:=2) (by omega),hh.vH 0,hh.vH 1,hh.vH 2⟩
  have hz:aU w (w.heap.size+1) 3 38 [(w.heap.size,[.bool false,.slice bN (ae ah q.num.natAbs).length bP,.slice bO (ae ah q.den).length bQ],38)] w2:=⟨B0,by omega,by intro q hq; simp at hq; subst hq; exact⟨by simp,p1⟩,_,rfl,p2,cq⟩
  clear e1 e2 o1 b1 s1 p1 o2 b2 s2 p2
  clear B0
  have hz:=hz.drew
  go_region_held3 (λw'=>aU w (w.heap.size+1) 3 38 [(w.heap.size,[.bool false,.slice bN (ae ah q.num.natAbs).length bP,.slice bO (ae ah q.den).length bQ],38)] w'/\w'.cell? ⟨w.heap.size,0,none⟩=some (.bool false)/\w'.cell? ⟨w.heap.size,1,none⟩=some (.slice bN (ae ah q.num.natAbs).length bP)/\w'.cell? ⟨w.heap.size,2,none⟩=some (.slice bO (ae ah q.den).length bQ)/\w'.cell? ⟨w.heap.size+1,0,none⟩=some (cv w' ⟨w.heap.size+1,0,none⟩)/\w'.cell? ⟨w.heap.size+1,1,none⟩=some (cv w' ⟨w.heap.size+1,1,none⟩)/\w'.cell? ⟨w.heap.size+1,2,none⟩=some (cv w' ⟨w.heap.size+1,2,none⟩)/\w'.frozen? ⟨w.heap.size+1,0,none⟩=false/\w'.frozen? ⟨w.heap.size+1,1,none⟩=false/\w'.frozen? ⟨w.heap.size+1,2,none⟩=false)
   (first|exact hS _ hz|exact hS _ (aU.En hz))
   (first
    |(go_at_call 47; have hc:=jb _ _ q (hx0.below hz.1); (with_reducible refine Calls.mono hc ?_); clear hc; rintro e wz ⟨rfl,hb⟩; have hz:=aU.call (And.intro hz trivial) hb))
  all_goals (
   go_wp2
   obtain⟨wf,HW,ho,hB,hN⟩:=hz.fin [.bool (!decide (q=0)),.slice bN (ae ah q.num.natAbs).length bP,.slice bO (ae ah q.den).length bQ] rfl cq
   simp only[cF,Nat.reduceAdd]at HW
   (try rw[HW])
   (try simp only[Exit.inBlock,Exit.then])
   have f0:=ho.cell (i:=0) rfl
   have f1:=ho.cell (i:=1) rfl
   have f2:=ho.cell (i:=2) rfl
   refine bodyPost_ret (by simp[results,Tryz.results129,go_sem,f0,f1,f2]; try rfl) rfl ?_
   exact⟨_,rfl,⟨_,_,by rw[hf],by rw[hn]; exact hN _ _ _ _ (cN.below hz.1),by rw[hd]; exact hN _ _ _ _ (dH.below hz.1)⟩,hB⟩)
 ·simp only[Bool.not_true,Bool.false_and]at hf
  clear hx0
  go_enter Tryz.func129,Tryz.ntmps129
  go_wp2_with fail
  obtain⟨w1,e1,o1,b1,s1⟩:=dP w [.bool true,.slice bN (ae ah q.num.natAbs).length bP,.slice bO (ae ah q.den).length bQ] 38
  obtain⟨w2,e2,o2,b2,s2⟩:=dP w1 [.bool false,.slice none 0 0,.slice none 0 0] 38
  rw[e1,e2]
  rw[s1]at o2
  have p1:=(o1.gone b2)
  have p2:=o2
  have B0:=(b1.trans (b2.mono b1.size))
  have hS:∀w',aU w (w.heap.size+1) 3 38 [(w.heap.size,[.bool true,.slice bN (ae ah q.num.natAbs).length bP,.slice bO (ae ah q.den).length bQ],38)] w'->aU w (w.heap.size+1) 3 38 [(w.heap.size,[.bool true,.slice bN (ae ah q.num.natAbs).length bP,.slice bO (ae ah q.den).length bQ],38)] w'/\w'.cell? ⟨w.heap.size,0,none⟩=some (.bool true)/\w'.cell? ⟨w.heap.size,1,none⟩=some (.slice bN (ae ah q.num.natAbs).length bP)/\w'.cell? ⟨w.heap.size,2,none⟩=some (.slice bO (ae ah q.den).length bQ)/\w'.cell? ⟨w.heap.size+1,0,none⟩=some (cv w' ⟨w.heap.size+1,0,none⟩)/\w'.cell? ⟨w.heap.size+1,1,none⟩=some (cv w' ⟨w.heap.size+1,1,none⟩)/\w'.cell? ⟨w.heap.size+1,2,none⟩=some (cv w' ⟨w.heap.size+1,2,none⟩)/\w'.frozen? ⟨w.heap.size+1,0,none⟩=false/\w'.frozen? ⟨w.heap.size+1,1,none⟩=false/\w'.frozen? ⟨w.heap.size+1,2,none⟩=false:=λw' hh=>by
   have r1:=hh.par (p:=(w.heap.size,[.bool true,.slice bN (ae ah q.num.natAbs).length bP,.slice bO (ae ah q.den).length bQ],38)) (by simp)
   exact⟨hh,r1.cell (i:=0) rfl,r1.cell (i:=1) rfl,r1.cell (i:=2) rfl,hh.fC (i:=0) (by omega),hh.fC (i:=1) (by omega),hh.fC (i:=2) (by omega),hh.vH 0,hh.vH 1,hh.vH 2⟩
  have hz:aU w (w.heap.size+1) 3 38 [(w.heap.size,[.bool true,.slice bN (ae ah q.num.natAbs).length bP,.slice bO (ae ah q.den).length bQ],38)] w2:=⟨B0,by omega,by intro q hq; simp at hq; subst hq; exact⟨by simp,p1⟩,_,rfl,p2,cq⟩
  clear e1 e2 o1 b1 s1 p1 o2 b2 s2 p2
  clear B0
  obtain⟨_,k0,k1,k2,k3,k4,k5,k6,k7,k8⟩:=hS _ hz
  go_region
  all_goals (
   go_wp2
   obtain⟨wf,HW,ho,hB,hN⟩:=hz.fin [.bool false,.slice bN (ae ah q.num.natAbs).length bP,.slice bO (ae ah q.den).length bQ] rfl cq
   simp only[cF,Nat.reduceAdd]at HW
   (try rw[HW])
   (try simp only[Exit.inBlock,Exit.then])
   have f0:=ho.cell (i:=0) rfl
   have f1:=ho.cell (i:=1) rfl
   have f2:=ho.cell (i:=2) rfl
   refine bodyPost_ret (by simp[results,Tryz.results129,go_sem,f0,f1,f2]; try rfl) rfl ?_
   have hR:iz w (-q) (.returned _) wf:=⟨_,rfl,⟨_,_,by rw[hf],by rw[hn]; exact hN _ _ _ _ (cN.below hz.1),by rw[hd]; exact hN _ _ _ _ (dH.below hz.1)⟩,hB⟩
   first|exact hR|(obtain⟨v,h1,h2,h3⟩:=hR; exact⟨v,h1,h2.drew,h3.drew⟩))
theorem kp (w:World) (z:Int) (h1:-9223372036854775808<=z) (h2:z<=9223372036854775807):Calls Tryz.prog 68 #[.int .i64 z] w (eR .u32 ah w z.natAbs):=by
 have J8:Bx (z.natAbs<b64):=bx (by unfold b64; omega)
 by_cases hz:z<0
 ·have e1:IntKind.u64.wrap (-IntKind.u64.wrap z)=((z.natAbs:Nat):Int):=by
   simp[IntKind.wrap,IntKind.bits,IntKind.signed]; omega
  have E1:=bx e1
  clear e1
  go_enter Tryz.func68,Tryz.ntmps68
  go_wp2_with fail
  rw[E1.out]
  refine(fL w _ J8.out).mono ?_
  rintro e w3 ⟨vr,rfl,hr3,hb3⟩
  go_wp2
  go_ret
  exact⟨_,rfl,hr3,hb3⟩
 ·have e1:z=((z.natAbs:Nat):Int):=by omega
  have E1:=bx e1
  clear e1
  go_enter Tryz.func68,Tryz.ntmps68
  go_wp2_with fail
  have hc:=fL w _ J8.out
  rw[<-E1.out]at hc
  refine hc.mono ?_
  rintro e w3 ⟨vr,rfl,hr3,hb3⟩
  go_wp2
  go_ret
  exact⟨_,rfl,hr3,hb3⟩
theorem Ip (z:Int):dm (decide (z<0)) z.natAbs 1=(z:Rat):=by
 unfold dm
 rw[Bf,Rat.mkRat_one]
theorem ug (w:World) (z:Int) (h1:-9223372036854775808<=z) (h2:z<=9223372036854775807):Calls Tryz.prog 29 #[.int .i64 z] w (iz w (z:Rat)):=by
 have H:=bx (And.intro h1 h2)
 have hB:Bx (Bd 64 z.natAbs):=bx (by unfold Bd; omega)
 generalize hq:(z:Rat)=q
 have HQ:=bx hq
 clear h1 h2 hq
 go_enter Tryz.func29,Tryz.ntmps29
 go_wp2_with fail
 obtain⟨w1,e1,oR,b1,s1⟩:=dP w [.bool false,.slice none 0 0,.slice none 0 0] 38
 rw[e1]
 clear e1
 have B:=b1
 clear b1
 refine Calls.mono (kp _ z H.out.1 H.out.2) ?_
 rintro e w2 ⟨v1,rfl,h1,b2⟩
 replace oR:=oR.gone b2
 replace B:=B.trans (b2.mono B.size)
 clear b2
 go_wp2_with fail
 refine Calls.mono (fL _ 1 (by unfold b64; omega)) ?_
 rintro e w3 ⟨v2,rfl,h2,b3⟩
 replace oR:=oR.gone b3
 replace h1:=h1.below b3
 replace B:=B.trans (b3.mono B.size)
 clear b3
 go_wp2_with fail
 have hc:=mQ _ (decide (z<0)) _ _ z.natAbs 1 h1 h2 (by omega) hB.out (by unfold Bd; omega) (by omega)
 rw[Ip,HQ.out]at hc
 clear h1 h2
 refine Calls.mono (hc) ?_
 rintro e w4 ⟨vr,rfl,hr,b4⟩
 replace oR:=oR.gone b4
 replace B:=B.trans (b4.mono B.size)
 clear b4
 clear hc
 obtain⟨Pm,Pn,rfl,Cb,hrb⟩:=id hr
 obtain⟨rN,rS,rfl,_⟩:=id Cb
 obtain⟨rO,rT,rfl,_⟩:=id hrb
 have k1:=oR.cell (i:=0) rfl
 have k2:=oR.fz 0
 have k3:=oR.cell (i:=1) rfl
 have k4:=oR.fz 1
 have k5:=oR.cell (i:=2) rfl
 have k6:=oR.fz 2
 go_wp2
 obtain⟨wf,HW,ho,_,hN,B7,_⟩:=oR.put gb [.bool (decide (q.num<0)),.slice rN (ae ah q.num.natAbs).length rS,.slice rO (ae ah q.den).length rT] rfl cq
 simp only[cF,Nat.reduceAdd]at HW
 (try rw[HW])
 (try simp only[Exit.inBlock,Exit.then])
 have f0:=ho.cell (i:=0) rfl
 have f1:=ho.cell (i:=1) rfl
 have f2:=ho.cell (i:=2) rfl
 refine bodyPost_ret (by simp[results,Tryz.results29,go_sem,f0,f1,f2]; try rfl) rfl ?_
 have HB:=B7 _ (by omega) B
 exact⟨_,rfl,hr.into hN,HB⟩
def Dc (w:World) (q:Rat) (err:Int) (e:Ending) (w':World):Prop:=∃v,e=.returned (.tuple #[v,.int .i64 err])/\cB w' v q/\Below w.heap.size w w'
theorem IX (w:World) (n d:Int) (h1:-9223372036854775808<=n) (h2:n<=9223372036854775807) (h3:-9223372036854775808<=d) (h4:d<=9223372036854775807) (hd:d≠0):
  Calls Tryz.prog 30 #[.int .i64 n,.int .i64 d] w (Dc w (uf n d) 0):=by
 have H:=bx (And.intro (And.intro h1 h2) (And.intro h3 h4))
 have HD:=bx hd
 have Gv:(d==0)=false:=beq_eq_false_iff_ne.2 hd
 have B1:Bx (Bd 64 n.natAbs):=bx (by unfold Bd; omega)
 have B2:Bx (Bd 64 d.natAbs):=bx (by unfold Bd; omega)
 clear h1 h2 h3 h4 hd
 go_enter Tryz.func30,Tryz.ntmps30
 go_wp2_with fail
 obtain⟨w1,e1,oR,b1,s1⟩:=dP w [.bool false,.slice none 0 0,.slice none 0 0] 38
 rw[e1]
 clear e1
 have B:=b1
 clear b1
 refine Calls.mono (kp _ n H.out.1.1 H.out.1.2) ?_
 rintro e w2 ⟨v1,rfl,h1,b2⟩
 replace oR:=oR.gone b2
 replace B:=B.trans (b2.mono B.size)
 clear b2
 go_wp2_with fail
 refine Calls.mono (kp _ d H.out.2.1 H.out.2.2) ?_
 rintro e w3 ⟨v2,rfl,h2,b3⟩
 replace oR:=oR.gone b3
 replace h1:=h1.below b3
 replace B:=B.trans (b3.mono B.size)
 clear b3
 go_wp2_with fail
 refine Calls.mono (mQ _ _ _ _ _ _ h1 h2 (by have:=HD.out; omega) B1.out B2.out (by omega)) ?_
 rintro e w4 ⟨vr,rfl,hr,b4⟩
 replace oR:=oR.gone b4
 replace h1:=h1.below b4
 replace h2:=h2.below b4
 replace B:=B.trans (b4.mono B.size)
 clear b4
 clear h1 h2
 change cB _ vr (uf n d)at hr
 generalize uf n d=q at *
 obtain⟨Pm,Pn,rfl,Cb,hrb⟩:=id hr
 obtain⟨rN,rS,rfl,_⟩:=id Cb
 obtain⟨rO,rT,rfl,_⟩:=id hrb
 have k1:=oR.cell (i:=0) rfl
 have k2:=oR.fz 0
 have k3:=oR.cell (i:=1) rfl
 have k4:=oR.fz 1
 have k5:=oR.cell (i:=2) rfl
 have k6:=oR.fz 2
 go_wp2
 obtain⟨wf,HW,ho,_,hN,B7,_⟩:=oR.put gb [.bool (decide (q.num<0)),.slice rN (ae ah q.num.natAbs).length rS,.slice rO (ae ah q.den).length rT] rfl cq
 simp only[cF,Nat.reduceAdd]at HW
 (try rw[HW])
 (try simp only[Exit.inBlock,Exit.then])
 have f0:=ho.cell (i:=0) rfl
 have f1:=ho.cell (i:=1) rfl
 have f2:=ho.cell (i:=2) rfl
 refine bodyPost_ret (by simp[results,Tryz.results30,go_sem,f0,f1,f2]; try rfl) rfl ?_
 have HB:=B7 _ (by omega) B
 exact⟨_,rfl,hr.into hN,HB⟩
end Wx

namespace Wx
set_option maxRecDepth 100000
set_option maxHeartbeats 1000000
open Go Go.RowKit Go.Proofs
theorem Lo (w:World) (n d:Int) (h1:-9223372036854775808<=n) (h2:n<=9223372036854775807) (h4:d<=9223372036854775807):
  Calls Tryz.prog 7 #[.agg #[.int .i64 n,.int .i64 d]] w (iz w (Lv n d)):=by
 have HH:=bx (And.intro h1 (And.intro h2 h4))
 by_cases hd:d<=0
 ·have hq:Lv n d=(n:Rat):=if_pos hd
  rw[hq]
  generalize hg:(n:Rat)=q
  have HG:=bx hg
  clear h1 h2 h4 hq hg
  go_enter Tryz.func7,Tryz.ntmps7
  go_wp2_with fail
  obtain⟨w1,e1,oP,b1,s1⟩:=dP w [.int .i64 n,.int .i64 d] 24
  rw[e1]
  clear e1
  have B:=b1
  clear b1
  obtain⟨w2,e2,oR,b2,s2⟩:=dP w1 [.bool false,.slice none 0 0,.slice none 0 0] 38
  rw[e2]
  rw[s1]at oR
  clear e2
  replace oP:=oP.gone b2
  replace B:=B.trans (b2.mono B.size)
  clear b2
  have hc:=ug w2 n HH.out.1 HH.out.2.1
  rw[HG.out]at hc
  refine Calls.mono (hc) ?_
  rintro e w3 ⟨vr,rfl,hr,b3⟩
  replace oP:=oP.gone b3
  replace oR:=oR.gone b3
  replace B:=B.trans (b3.mono B.size)
  clear b3
  clear hc
  obtain⟨Pm,Pn,rfl,Cb,hrb⟩:=id hr
  obtain⟨rN,rS,rfl,_⟩:=id Cb
  obtain⟨rO,rT,rfl,_⟩:=id hrb
  have k1:=oR.cell (i:=0) rfl
  have k2:=oR.fz 0
  have k3:=oR.cell (i:=1) rfl
  have k4:=oR.fz 1
  have k5:=oR.cell (i:=2) rfl
  have k6:=oR.fz 2
  go_wp2
  obtain⟨wf,HW,ho,_,hN,B7,_⟩:=oR.put gb [.bool (decide (q.num<0)),.slice rN (ae ah q.num.natAbs).length rS,.slice rO (ae ah q.den).length rT] rfl cq
  simp only[cF,Nat.reduceAdd]at HW
  (try rw[HW])
  (try simp only[Exit.inBlock,Exit.then])
  have f0:=ho.cell (i:=0) rfl
  have f1:=ho.cell (i:=1) rfl
  have f2:=ho.cell (i:=2) rfl
  refine bodyPost_ret (by simp[results,Tryz.results7,go_sem,f0,f1,f2]; try rfl) rfl ?_
  have HB:=B7 _ (by omega) B
  exact⟨_,rfl,hr.into hN,HB⟩
 ·have hq:Lv n d=uf n d:=if_neg hd
  rw[hq]
  generalize hg:uf n d=q
  have HG:=bx hg
  have Gv:d≠0:=by omega
  have HD:=bx (And.intro Gv (show -9223372036854775808<=d by omega))
  clear h1 h2 h4 hq hg Gv
  go_enter Tryz.func7,Tryz.ntmps7
  go_wp2_with fail
  obtain⟨w1,e1,oP,b1,s1⟩:=dP w [.int .i64 n,.int .i64 d] 24
  rw[e1]
  clear e1
  have B:=b1
  clear b1
  obtain⟨w2,e2,oR,b2,s2⟩:=dP w1 [.bool false,.slice none 0 0,.slice none 0 0] 38
  rw[e2]
  rw[s1]at oR
  clear e2
  replace oP:=oP.gone b2
  replace B:=B.trans (b2.mono B.size)
  clear b2
  have hc:=IX w2 n d HH.out.1 HH.out.2.1 HD.out.2 HH.out.2.2 HD.out.1
  rw[HG.out]at hc
  refine Calls.mono (hc) ?_
  rintro e w3 ⟨vr,rfl,hr,b3⟩
  replace oP:=oP.gone b3
  replace oR:=oR.gone b3
  replace B:=B.trans (b3.mono B.size)
  clear b3
  clear hc
  obtain⟨Pm,Pn,rfl,Cb,hrb⟩:=id hr
  obtain⟨rN,rS,rfl,_⟩:=id Cb
  obtain⟨rO,rT,rfl,_⟩:=id hrb
  obtain⟨w4,e4,oV,b4,s4⟩:=dP w3 [.bool (decide (q.num<0)),.slice rN (ae ah q.num.natAbs).length rS,.slice rO (ae ah q.den).length rT] 38
  replace oP:=oP.gone b4
  replace oR:=oR.gone b4
  replace hr:=hr.below b4
  replace B:=B.trans (b4.mono B.size)
  clear b4 s4
  have k1:=oV.cell (i:=0) rfl
  have k2:=oV.cell (i:=1) rfl
  have k3:=oV.cell (i:=2) rfl
  have k4:=oR.cell (i:=0) rfl
  have k5:=oR.fz 0
  have k6:=oR.cell (i:=1) rfl
  have k7:=oR.fz 1
  have k8:=oR.cell (i:=2) rfl
  have k9:=oR.fz 2
  go_wp2
  obtain⟨wf,HW,ho,_,hN,B7,_⟩:=oR.put gb [.bool (decide (q.num<0)),.slice rN (ae ah q.num.natAbs).length rS,.slice rO (ae ah q.den).length rT] rfl cq
  simp only[cF,Nat.reduceAdd]at HW
  (try rw[HW])
  (try simp only[Exit.inBlock,Exit.then])
  have f0:=ho.cell (i:=0) rfl
  have f1:=ho.cell (i:=1) rfl
  have f2:=ho.cell (i:=2) rfl
  refine bodyPost_ret (by simp[results,Tryz.results7,go_sem,f0,f1,f2]; try rfl) rfl ?_
  have HB:=B7 _ (by omega) B
  exact⟨_,rfl,hr.into hN,HB⟩
end Wx

namespace Wx
open Go Go.RowKit Go.Proofs
set_option linter.unusedVariables false
attribute [local irreducible] OpOk
end Wx

namespace Wx
open Go Go.RowKit Go.Proofs
set_option linter.unusedVariables false
attribute [local irreducible] OpOk
end Wx

namespace Wx
open Go Go.RowKit Go.Proofs
set_option linter.unusedVariables false
attribute [local irreducible] OpOk
def O3 (x:Int×Int):Pred:=Je x.1 x.2
def z2:Int×Int:=(0,0)
abbrev Vs (D:List (Int×Int)):Pred:=pG 2 O3 D
def Gt (x:Int×Int):Prop :=-9223372036854775808<=x.1/\x.1<=9223372036854775807/\x.2<=9223372036854775807
def Hr (x:Int×Int):Rat:=Lv x.1 x.2
theorem pC (x:Int×Int):Fits 2 true (O3 x):=E4 _ _
theorem Ms {α:Type} {sz:Nat} {F:α->Pred} (hF:∀x,Fits sz true (F x)):∀l:List α,oU (l.map (JY sz F))
 |[]=>trivial
 |_::l=>⟨hF _,Ms hF l⟩
theorem Nf {α:Type} {sz:Nat} {F:α->Pred}:∀l:List α,kR (l.map (JY sz F))=l.length*sz
 |[]=>by rw[List.length_nil,Nat.zero_mul]; rfl
 |_::l=>by
  rw[List.length_cons,Nat.succ_mul,Nat.add_comm,<-Nf l]
  rfl
variable {x:Int×Int}
theorem Ke (h:Gt x):∀w v1,O3 x w v1->Calls Tryz.prog 6 #[v1] w (ew (pR 64 (Hr x)) w):=λw v1 h1=>by
 rw[AU h1]
 exact(OV w x.1 x.2 h.1 h.2.1 h.2.2).mono λe w' hr=>ew.map (rF (xR h.1 h.2.1 h.2.2)) (show ew (aD (Hr x)) w e w' from hr)
theorem IL (h:Gt x):∀w v1,O3 x w v1->Calls Tryz.prog 7 #[v1] w (ew (pN 64 (Hr x)) w):=λw v1 h1=>by
 rw[AU h1]
 exact(Lo w x.1 x.2 h.1 h.2.1 h.2.2).mono λe w' hr=>ew.map (rF (xR h.1 h.2.1 h.2.2)) (show ew (aS (Hr x)) w e w' from hr)
section
variable {α:Type} {z:α} {R:Nat->α} {i k:Nat}
end
section
variable {P:Program} {ops:Array Oper} {ms:List Nat} {c:dS} {V:List Vr} {A:List Al} {G:List bf} {i:Nat}{d:Nat} {x y:Operand} {ty:TypeId} {pos:String} {aJ:Array Edge}
theorem Wj {T:TypeId} {p:Pred} (E:TypeId) (sz:Nat) (zl:List Zl) (hf:Fits sz true p) (ht:mw P T E sz:=by exact⟨by kernel_rfl,λ_=>by kernel_rfl⟩) (Ch:∀w,(zeroValue E).run P w=.ok (.agg (zl.flatMap Zl.cs).toArray) w:=by exactλ_=>by kernel_rfl) (h1:Has ms G i x p:=by exact hs) (yC:(zl.flatMap Zl.cs).length=sz:=by kernel_rfl) (hsz:0<sz/\sz<=16777216:=by decide) (hp:Post G i (bR sz true 1 λ_=>p):=by exact pt rfl):
  OpOk P ops ms c V A G i ⟨some d,.buildSlice T 1 #[(0,x)],ty,pos,aJ,none⟩:=
 mY (agg:=true) ht Ch rfl yC hsz h1 hf hp
end
end Wx

namespace Wx
open Go Go.RowKit Go.Proofs Go.ChangeShapes Go.WideShapes Go.ChangeAt
set_option linter.unusedVariables false
section
variable {H:Type} {enc:TypeId×Value->H} {w:World}
theorem sJ:zo enc Tryz.prog w 24 true Gt O3:=
 zo.RD (CF (N:=2) Tryz.underlying24 (by kernel_rfl) (by kernel_rfl) (lN (n:=1) (Ef Tryz.underlying2) (by kernel_rfl) (by omega) (lN (n:=1) (Ef Tryz.underlying2) (by kernel_rfl) (by omega) xn))) (λa=>(a.1,a.2.1))
  (λa h=>⟨(wf_i64 h.1).1,(wf_i64 h.1).2,(wf_i64 h.2.1).2⟩) (λa w v h=>h)
theorem N5:Gt z2:=by unfold Gt z2; decide
theorem O1:zo enc Tryz.prog w 28 true (λD=>D.length=2/\∀q,Gt (D.getD q z2)) Vs:=
 zo.RD (FV (N:=4) (n:=2) Tryz.underlying28 (by kernel_rfl) (by kernel_rfl) (by kernel_rfl) (lN (n:=2) sJ (by kernel_rfl) (by omega) (lN (n:=2) sJ (by kernel_rfl) (by omega) xn))) (λa=>[a.1,a.2.1])
  (λa h=>⟨rfl,λq=>match q with
   |0=>h.1
   |1=>h.2.1
   |_+2=>N5⟩)
  (λa w v h=>h)
theorem OM {L:List (List (Int×Int))} (h:∀a∈L,a.length=2/\∀q,Gt (a.getD q z2)):∀k,k<L.length->(L.getD k []).length=2/\∀q,Gt ((L.getD k []).getD q z2):=λk hk=>by
 rw[show L.getD k []=L[k] by rw[List.getD_eq_getElem?_getD,List.getElem?_eq_getElem hk]; rfl]
 exact h _ (List.getElem_mem hk)
end
end Wx
