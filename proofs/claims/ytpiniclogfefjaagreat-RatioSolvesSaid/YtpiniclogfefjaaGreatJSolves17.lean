import Derived.Test.YtpiniclogfefjaaGreatJSolves16
import Derived.Deep.AppendSrc
import Derived.Deep.Upon
namespace Wx
set_option maxRecDepth 100000
open Go Go.RowKit Go.Proofs

set_option maxHeartbeats 1000000 in
theorem Qhm (w:World) (v:Value) (q:Rat) (h:IsRef w v q):Calls Tryz.prog 66 #[v] w (Jc w (.bool (decide (q=0)))):=by
 obtain⟨vn,vd,rfl,h1,h2⟩:=h
 obtain⟨A1,c1,rfl,_⟩:=id h1
 obtain⟨A2,c2,rfl,_⟩:=id h2
 have hz:(((digs Qd q.num.natAbs).length:Int)==0)=decide (q=0):=by
  by_cases hq:q=0
  ·rw[hq,decide_eq_true rfl]; rfl
  ·rw[decide_eq_false hq,beq_eq_false_iff_ne]
   have:=(Xh (n:=q.num.natAbs) Qz).2 (by have:=mt (Qal q).1 hq; omega)
   omega
 generalize (digs Qd q.num.natAbs).length=L1 at *
 go_enter Tryz.func66,Tryz.ntmps66
 go_wp2
 go_ret
 exact⟨rfl,Below.alloc (Below.refl _ _) (Nat.le_refl _) _⟩
set_option maxHeartbeats 1000000 in
theorem nneg_num (w:World) (v:Value) (q:Rat) (hx:IsRef w v q):Calls Tryz.prog 83 #[v] w (Qa3 w (-q)):=by
 obtain⟨vx1,vx2,rfl,hxa,hxb⟩:=id hx
 obtain⟨Ax1,cx1,rfl,_⟩:=id hxa
 obtain⟨Ax2,cx2,rfl,_⟩:=id hxb
 have hf:=neg_flag q
 have hn:(-q).num.natAbs=q.num.natAbs:=by rw[Rat.neg_num,Int.natAbs_neg]
 have hd:(-q).den=q.den:=rfl
 have hx0:=hx
 clear hx
 generalize decide (q.num<0)=neg at *
 cases neg
 ·simp only[Bool.not_false,Bool.true_and]at hf
  go_enter Tryz.func83,Tryz.ntmps83
  go_wp2_with fail
  obtain⟨w1,e1,o1,b1,s1⟩:=Jh w [.bool false,.slice Ax1 (digs Qd q.num.natAbs).length cx1,.slice Ax2 (digs Qd q.den).length cx2] 42
  obtain⟨w2,e2,o2,b2,s2⟩:=Jh w1 [.bool false,.slice none 0 0,.slice none 0 0] 42
  rw[e1,e2]
  rw[s1]at o2
  have p1:=(o1.gone b2)
  have p2:=o2
  have B0:=(b1.trans (b2.mono b1.size))
  have hS:∀w',HeldN w (w.heap.size+1) 3 42 [(w.heap.size,[.bool false,.slice Ax1 (digs Qd q.num.natAbs).length cx1,.slice Ax2 (digs Qd q.den).length cx2],42)] w'→HeldN w (w.heap.size+1) 3 42 [(w.heap.size,[.bool false,.slice Ax1 (digs Qd q.num.natAbs).length cx1,.slice Ax2 (digs Qd q.den).length cx2],42)] w'∧w'.cell? ⟨w.heap.size,0,none⟩=some (.bool false)∧w'.cell? ⟨w.heap.size,1,none⟩=some (.slice Ax1 (digs Qd q.num.natAbs).length cx1)∧w'.cell? ⟨w.heap.size,2,none⟩=some (.slice Ax2 (digs Qd q.den).length cx2)∧w'.cell? ⟨w.heap.size+1,0,none⟩=some (cv w' ⟨w.heap.size+1,0,none⟩)∧w'.cell? ⟨w.heap.size+1,1,none⟩=some (cv w' ⟨w.heap.size+1,1,none⟩)∧w'.cell? ⟨w.heap.size+1,2,none⟩=some (cv w' ⟨w.heap.size+1,2,none⟩)∧w'.frozen? ⟨w.heap.size+1,0,none⟩=false∧w'.frozen? ⟨w.heap.size+1,1,none⟩=false∧w'.frozen? ⟨w.heap.size+1,2,none⟩=false:=fun w' hh=>by
   have r1:=hh.par (p:=(w.heap.size,[.bool false,.slice Ax1 (digs Qd q.num.natAbs).length cx1,.slice Ax2 (digs Qd q.den).length cx2],42)) (by simp)
   exact⟨hh,r1.cell (i:=0) rfl,r1.cell (i:=1) rfl,r1.cell (i:=2) rfl,hh.cellR (i:=0) (by omega),hh.cellR (i:=1) (by omega),hh.cellR (i:=2) (by omega),hh.fzR 0,hh.fzR 1,hh.fzR 2⟩
  have hz:HeldN w (w.heap.size+1) 3 42 [(w.heap.size,[.bool false,.slice Ax1 (digs Qd q.num.natAbs).length cx1,.slice Ax2 (digs Qd q.den).length cx2],42)] w2:=⟨B0,by omega,by intro q hq; simp at hq; subst hq; exact⟨by simp,p1⟩,_,rfl,p2,Jf⟩
  clear e1 e2 o1 b1 s1 p1 o2 b2 s2 p2
  clear B0
  have hz:=hz.drew
  go_region_held3 (fun w'=>HeldN w (w.heap.size+1) 3 42 [(w.heap.size,[.bool false,.slice Ax1 (digs Qd q.num.natAbs).length cx1,.slice Ax2 (digs Qd q.den).length cx2],42)] w'∧w'.cell? ⟨w.heap.size,0,none⟩=some (.bool false)∧w'.cell? ⟨w.heap.size,1,none⟩=some (.slice Ax1 (digs Qd q.num.natAbs).length cx1)∧w'.cell? ⟨w.heap.size,2,none⟩=some (.slice Ax2 (digs Qd q.den).length cx2)∧w'.cell? ⟨w.heap.size+1,0,none⟩=some (cv w' ⟨w.heap.size+1,0,none⟩)∧w'.cell? ⟨w.heap.size+1,1,none⟩=some (cv w' ⟨w.heap.size+1,1,none⟩)∧w'.cell? ⟨w.heap.size+1,2,none⟩=some (cv w' ⟨w.heap.size+1,2,none⟩)∧w'.frozen? ⟨w.heap.size+1,0,none⟩=false∧w'.frozen? ⟨w.heap.size+1,1,none⟩=false∧w'.frozen? ⟨w.heap.size+1,2,none⟩=false)
   (first|exact hS _ hz|exact hS _ (HeldN.sets3 hz))
   (first
    |(go_at_call 66; have hc:=Qhm _ _ q (hx0.below hz.1); (with_reducible refine Calls.mono hc ?_); clear hc; rintro e wz ⟨rfl,hb⟩; have hz:=HeldN.call (And.intro hz trivial) hb))
  all_goals (
   go_wp2
   obtain⟨wf,HW,ho,hB,hN⟩:=hz.fin [.bool (!decide (q=0)),.slice Ax1 (digs Qd q.num.natAbs).length cx1,.slice Ax2 (digs Qd q.den).length cx2] rfl Jf
   simp only[setAll,Nat.reduceAdd]at HW
   (try rw[HW])
   (try simp only[Exit.inBlock,Exit.then])
   have f0:=ho.cell (i:=0) rfl
   have f1:=ho.cell (i:=1) rfl
   have f2:=ho.cell (i:=2) rfl
   refine bodyPost_ret (by simp[results,Tryz.results83,go_sem,f0,f1,f2]; try rfl) rfl ?_
   exact⟨_,rfl,⟨_,_,by rw[hf],by rw[hn]; exact hN _ _ _ _ (hxa.below hz.1),by rw[hd]; exact hN _ _ _ _ (hxb.below hz.1)⟩,hB⟩)
 ·simp only[Bool.not_true,Bool.false_and]at hf
  clear hx0
  go_enter Tryz.func83,Tryz.ntmps83
  go_wp2_with fail
  obtain⟨w1,e1,o1,b1,s1⟩:=Jh w [.bool true,.slice Ax1 (digs Qd q.num.natAbs).length cx1,.slice Ax2 (digs Qd q.den).length cx2] 42
  obtain⟨w2,e2,o2,b2,s2⟩:=Jh w1 [.bool false,.slice none 0 0,.slice none 0 0] 42
  rw[e1,e2]
  rw[s1]at o2
  have p1:=(o1.gone b2)
  have p2:=o2
  have B0:=(b1.trans (b2.mono b1.size))
  have hS:∀w',HeldN w (w.heap.size+1) 3 42 [(w.heap.size,[.bool true,.slice Ax1 (digs Qd q.num.natAbs).length cx1,.slice Ax2 (digs Qd q.den).length cx2],42)] w'→HeldN w (w.heap.size+1) 3 42 [(w.heap.size,[.bool true,.slice Ax1 (digs Qd q.num.natAbs).length cx1,.slice Ax2 (digs Qd q.den).length cx2],42)] w'∧w'.cell? ⟨w.heap.size,0,none⟩=some (.bool true)∧w'.cell? ⟨w.heap.size,1,none⟩=some (.slice Ax1 (digs Qd q.num.natAbs).length cx1)∧w'.cell? ⟨w.heap.size,2,none⟩=some (.slice Ax2 (digs Qd q.den).length cx2)∧w'.cell? ⟨w.heap.size+1,0,none⟩=some (cv w' ⟨w.heap.size+1,0,none⟩)∧w'.cell? ⟨w.heap.size+1,1,none⟩=some (cv w' ⟨w.heap.size+1,1,none⟩)∧w'.cell? ⟨w.heap.size+1,2,none⟩=some (cv w' ⟨w.heap.size+1,2,none⟩)∧w'.frozen? ⟨w.heap.size+1,0,none⟩=false∧w'.frozen? ⟨w.heap.size+1,1,none⟩=false∧w'.frozen? ⟨w.heap.size+1,2,none⟩=false:=fun w' hh=>by
   have r1:=hh.par (p:=(w.heap.size,[.bool true,.slice Ax1 (digs Qd q.num.natAbs).length cx1,.slice Ax2 (digs Qd q.den).length cx2],42)) (by simp)
   exact⟨hh,r1.cell (i:=0) rfl,r1.cell (i:=1) rfl,r1.cell (i:=2) rfl,hh.cellR (i:=0) (by omega),hh.cellR (i:=1) (by omega),hh.cellR (i:=2) (by omega),hh.fzR 0,hh.fzR 1,hh.fzR 2⟩
  have hz:HeldN w (w.heap.size+1) 3 42 [(w.heap.size,[.bool true,.slice Ax1 (digs Qd q.num.natAbs).length cx1,.slice Ax2 (digs Qd q.den).length cx2],42)] w2:=⟨B0,by omega,by intro q hq; simp at hq; subst hq; exact⟨by simp,p1⟩,_,rfl,p2,Jf⟩
  clear e1 e2 o1 b1 s1 p1 o2 b2 s2 p2
  clear B0
  obtain⟨_,k0,k1,k2,k3,k4,k5,k6,k7,k8⟩:=hS _ hz
  go_region
  all_goals (
   go_wp2
   obtain⟨wf,HW,ho,hB,hN⟩:=hz.fin [.bool false,.slice Ax1 (digs Qd q.num.natAbs).length cx1,.slice Ax2 (digs Qd q.den).length cx2] rfl Jf
   simp only[setAll,Nat.reduceAdd]at HW
   (try rw[HW])
   (try simp only[Exit.inBlock,Exit.then])
   have f0:=ho.cell (i:=0) rfl
   have f1:=ho.cell (i:=1) rfl
   have f2:=ho.cell (i:=2) rfl
   refine bodyPost_ret (by simp[results,Tryz.results83,go_sem,f0,f1,f2]; try rfl) rfl ?_
   have hR:Qa3 w (-q) (.returned _) wf:=⟨_,rfl,⟨_,_,by rw[hf],by rw[hn]; exact hN _ _ _ _ (hxa.below hz.1),by rw[hd]; exact hN _ _ _ _ (hxb.below hz.1)⟩,hB⟩
   first|exact hR|(obtain⟨v,h1,h2,h3⟩:=hR; exact⟨v,h1,h2.drew,h3.drew⟩))

theorem Qds (w:World) (z:Int) (h1:-9223372036854775808≤z) (h2:z≤9223372036854775807):Calls Tryz.prog 98 #[.int .i64 z] w (J6 .u32 Qd w z.natAbs):=by
 have HLT:Bx (z.natAbs<Qa):=bx (by unfold Qa; omega)
 by_cases hz:z<0
 ·have e1:IntKind.u64.wrap (-IntKind.u64.wrap z)=((z.natAbs:Nat):Int):=by
   simp[IntKind.wrap,IntKind.bits,IntKind.signed]; omega
  have E1:=bx e1
  clear e1
  go_enter Tryz.func98,Tryz.ntmps98
  go_wp2_with fail
  rw[E1.out]
  refine(Vi w _ HLT.out).mono ?_
  rintro e w3 ⟨vr,rfl,hr3,hb3⟩
  go_wp2
  go_ret
  exact⟨_,rfl,hr3,hb3⟩
 ·have e1:z=((z.natAbs:Nat):Int):=by omega
  have E1:=bx e1
  clear e1
  go_enter Tryz.func98,Tryz.ntmps98
  go_wp2_with fail
  have hc:=Vi w _ HLT.out
  rw[← E1.out]at hc
  refine hc.mono ?_
  rintro e w3 ⟨vr,rfl,hr3,hb3⟩
  go_wp2
  go_ret
  exact⟨_,rfl,hr3,hb3⟩

theorem int_redR (z:Int):Yf (decide (z<0)) z.natAbs 1=(z:Rat):=by
 unfold Yf
 rw[sg_mk,Rat.mkRat_one]
set_option maxHeartbeats 1000000 in
theorem nint_num (w:World) (z:Int) (h1:-9223372036854775808≤z) (h2:z≤9223372036854775807):Calls Tryz.prog 60 #[.int .i64 z] w (Qa3 w (z:Rat)):=by
 have H:=bx (And.intro h1 h2)
 have hB:Bx (Bd 64 z.natAbs):=bx (by unfold Bd; omega)
 generalize hq:(z:Rat)=q
 have HQ:=bx hq
 clear h1 h2 hq
 go_enter Tryz.func60,Tryz.ntmps60
 go_wp2_with fail
 obtain⟨w1,e1,oR,b1,s1⟩:=Jh w [.bool false,.slice none 0 0,.slice none 0 0] 42
 rw[e1]
 clear e1
 have B:=b1
 clear b1
 refine Calls.mono (Qds _ z H.out.1 H.out.2) ?_
 rintro e w2 ⟨v1,rfl,h1,b2⟩
 replace oR:=oR.gone b2
 replace B:=B.trans (b2.mono B.size)
 clear b2
 go_wp2_with fail
 refine Calls.mono (Vi _ 1 (by unfold Qa; omega)) ?_
 rintro e w3 ⟨v2,rfl,h2,b3⟩
 replace oR:=oR.gone b3
 replace h1:=h1.below b3
 replace B:=B.trans (b3.mono B.size)
 clear b3
 go_wp2_with fail
 have hc:=Qeu _ (decide (z<0)) _ _ z.natAbs 1 h1 h2 (by omega) hB.out (by unfold Bd; omega) (by omega)
 rw[int_redR,HQ.out]at hc
 clear h1 h2
 refine Calls.mono (hc) ?_
 rintro e w4 ⟨vr,rfl,hr,b4⟩
 replace oR:=oR.gone b4
 replace B:=B.trans (b4.mono B.size)
 clear b4
 clear hc
 obtain⟨vr1,vr2,rfl,hra,hrb⟩:=id hr
 obtain⟨Ar1,cr1,rfl,_⟩:=id hra
 obtain⟨Ar2,cr2,rfl,_⟩:=id hrb
 have k1:=oR.cell (i:=0) rfl
 have k2:=oR.fz 0
 have k3:=oR.cell (i:=1) rfl
 have k4:=oR.fz 1
 have k5:=oR.cell (i:=2) rfl
 have k6:=oR.fz 2
 go_wp2
 obtain⟨wf,HW,ho,_,hN,hBf,_⟩:=oR.put Qak [.bool (decide (q.num<0)),.slice Ar1 (digs Qd q.num.natAbs).length cr1,.slice Ar2 (digs Qd q.den).length cr2] rfl Jf
 simp only[setAll,Nat.reduceAdd]at HW
 (try rw[HW])
 (try simp only[Exit.inBlock,Exit.then])
 have f0:=ho.cell (i:=0) rfl
 have f1:=ho.cell (i:=1) rfl
 have f2:=ho.cell (i:=2) rfl
 refine bodyPost_ret (by simp[results,Tryz.results60,go_sem,f0,f1,f2]; try rfl) rfl ?_
 have HB:=hBf _ (by omega) B
 exact⟨_,rfl,hr.into hN,HB⟩

def RetFE (w:World) (q:Rat) (err:Int) (e:Ending) (w':World):Prop:=∃v,e=.returned (.tuple #[v,.int .i64 err])∧IsRef w' v q∧Below w.heap.size w w'
set_option maxHeartbeats 1000000 in
theorem nnew_num (w:World) (n d:Int) (h1:-9223372036854775808≤n) (h2:n≤9223372036854775807) (h3:-9223372036854775808≤d) (h4:d≤9223372036854775807) (hd:d≠0):
  Calls Tryz.prog 85 #[.int .i64 n,.int .i64 d] w (RetFE w (newR n d) 0):=by
 have H:=bx (And.intro (And.intro h1 h2) (And.intro h3 h4))
 have HD:=bx hd
 have hde:(d==0)=false:=beq_eq_false_iff_ne.2 hd
 have B1:Bx (Bd 64 n.natAbs):=bx (by unfold Bd; omega)
 have B2:Bx (Bd 64 d.natAbs):=bx (by unfold Bd; omega)
 clear h1 h2 h3 h4 hd
 go_enter Tryz.func85,Tryz.ntmps85
 go_wp2_with fail
 obtain⟨w1,e1,oR,b1,s1⟩:=Jh w [.bool false,.slice none 0 0,.slice none 0 0] 42
 rw[e1]
 clear e1
 have B:=b1
 clear b1
 refine Calls.mono (Qds _ n H.out.1.1 H.out.1.2) ?_
 rintro e w2 ⟨v1,rfl,h1,b2⟩
 replace oR:=oR.gone b2
 replace B:=B.trans (b2.mono B.size)
 clear b2
 go_wp2_with fail
 refine Calls.mono (Qds _ d H.out.2.1 H.out.2.2) ?_
 rintro e w3 ⟨v2,rfl,h2,b3⟩
 replace oR:=oR.gone b3
 replace h1:=h1.below b3
 replace B:=B.trans (b3.mono B.size)
 clear b3
 go_wp2_with fail
 refine Calls.mono (Qeu _ _ _ _ _ _ h1 h2 (by have:=HD.out; omega) B1.out B2.out (by omega)) ?_
 rintro e w4 ⟨vr,rfl,hr,b4⟩
 replace oR:=oR.gone b4
 replace h1:=h1.below b4
 replace h2:=h2.below b4
 replace B:=B.trans (b4.mono B.size)
 clear b4
 clear h1 h2
 change IsRef _ vr (newR n d)at hr
 generalize newR n d=q at *
 obtain⟨vr1,vr2,rfl,hra,hrb⟩:=id hr
 obtain⟨Ar1,cr1,rfl,_⟩:=id hra
 obtain⟨Ar2,cr2,rfl,_⟩:=id hrb
 have k1:=oR.cell (i:=0) rfl
 have k2:=oR.fz 0
 have k3:=oR.cell (i:=1) rfl
 have k4:=oR.fz 1
 have k5:=oR.cell (i:=2) rfl
 have k6:=oR.fz 2
 go_wp2
 obtain⟨wf,HW,ho,_,hN,hBf,_⟩:=oR.put Qak [.bool (decide (q.num<0)),.slice Ar1 (digs Qd q.num.natAbs).length cr1,.slice Ar2 (digs Qd q.den).length cr2] rfl Jf
 simp only[setAll,Nat.reduceAdd]at HW
 (try rw[HW])
 (try simp only[Exit.inBlock,Exit.then])
 have f0:=ho.cell (i:=0) rfl
 have f1:=ho.cell (i:=1) rfl
 have f2:=ho.cell (i:=2) rfl
 refine bodyPost_ret (by simp[results,Tryz.results85,go_sem,f0,f1,f2]; try rfl) rfl ?_
 have HB:=hBf _ (by omega) B
 exact⟨_,rfl,hr.into hN,HB⟩
end Wx

namespace Wx
set_option maxRecDepth 100000
open Go Go.RowKit Go.Proofs

set_option maxHeartbeats 1000000 in
theorem nof_num (w:World) (n d:Int) (h1:-9223372036854775808≤n) (h2:n≤9223372036854775807) (h4:d≤9223372036854775807):
  Calls Tryz.prog 47 #[.agg #[.int .i64 n,.int .i64 d]] w (Qa3 w (ofR n d)):=by
 have HH:=bx (And.intro h1 (And.intro h2 h4))
 by_cases hd:d≤0
 ·have hq:ofR n d=(n:Rat):=if_pos hd
  rw[hq]
  generalize hg:(n:Rat)=q
  have HG:=bx hg
  clear h1 h2 h4 hq hg
  go_enter Tryz.func47,Tryz.ntmps47
  go_wp2_with fail
  obtain⟨w1,e1,oP,b1,s1⟩:=Jh w [.int .i64 n,.int .i64 d] 82
  rw[e1]
  clear e1
  have B:=b1
  clear b1
  obtain⟨w2,e2,oR,b2,s2⟩:=Jh w1 [.bool false,.slice none 0 0,.slice none 0 0] 42
  rw[e2]
  rw[s1]at oR
  clear e2
  replace oP:=oP.gone b2
  replace B:=B.trans (b2.mono B.size)
  clear b2
  have hc:=nint_num w2 n HH.out.1 HH.out.2.1
  rw[HG.out]at hc
  refine Calls.mono (hc) ?_
  rintro e w3 ⟨vr,rfl,hr,b3⟩
  replace oP:=oP.gone b3
  replace oR:=oR.gone b3
  replace B:=B.trans (b3.mono B.size)
  clear b3
  clear hc
  obtain⟨vr1,vr2,rfl,hra,hrb⟩:=id hr
  obtain⟨Ar1,cr1,rfl,_⟩:=id hra
  obtain⟨Ar2,cr2,rfl,_⟩:=id hrb
  have k1:=oR.cell (i:=0) rfl
  have k2:=oR.fz 0
  have k3:=oR.cell (i:=1) rfl
  have k4:=oR.fz 1
  have k5:=oR.cell (i:=2) rfl
  have k6:=oR.fz 2
  go_wp2
  obtain⟨wf,HW,ho,_,hN,hBf,_⟩:=oR.put Qak [.bool (decide (q.num<0)),.slice Ar1 (digs Qd q.num.natAbs).length cr1,.slice Ar2 (digs Qd q.den).length cr2] rfl Jf
  simp only[setAll,Nat.reduceAdd]at HW
  (try rw[HW])
  (try simp only[Exit.inBlock,Exit.then])
  have f0:=ho.cell (i:=0) rfl
  have f1:=ho.cell (i:=1) rfl
  have f2:=ho.cell (i:=2) rfl
  refine bodyPost_ret (by simp[results,Tryz.results47,go_sem,f0,f1,f2]; try rfl) rfl ?_
  have HB:=hBf _ (by omega) B
  exact⟨_,rfl,hr.into hN,HB⟩
 ·have hq:ofR n d=newR n d:=if_neg hd
  rw[hq]
  generalize hg:newR n d=q
  have HG:=bx hg
  have hde:d≠0:=by omega
  have HD:=bx (And.intro hde (show -9223372036854775808≤d by omega))
  clear h1 h2 h4 hq hg hde
  go_enter Tryz.func47,Tryz.ntmps47
  go_wp2_with fail
  obtain⟨w1,e1,oP,b1,s1⟩:=Jh w [.int .i64 n,.int .i64 d] 82
  rw[e1]
  clear e1
  have B:=b1
  clear b1
  obtain⟨w2,e2,oR,b2,s2⟩:=Jh w1 [.bool false,.slice none 0 0,.slice none 0 0] 42
  rw[e2]
  rw[s1]at oR
  clear e2
  replace oP:=oP.gone b2
  replace B:=B.trans (b2.mono B.size)
  clear b2
  have hc:=nnew_num w2 n d HH.out.1 HH.out.2.1 HD.out.2 HH.out.2.2 HD.out.1
  rw[HG.out]at hc
  refine Calls.mono (hc) ?_
  rintro e w3 ⟨vr,rfl,hr,b3⟩
  replace oP:=oP.gone b3
  replace oR:=oR.gone b3
  replace B:=B.trans (b3.mono B.size)
  clear b3
  clear hc
  obtain⟨vr1,vr2,rfl,hra,hrb⟩:=id hr
  obtain⟨Ar1,cr1,rfl,_⟩:=id hra
  obtain⟨Ar2,cr2,rfl,_⟩:=id hrb
  obtain⟨w4,e4,oV,b4,s4⟩:=Jh w3 [.bool (decide (q.num<0)),.slice Ar1 (digs Qd q.num.natAbs).length cr1,.slice Ar2 (digs Qd q.den).length cr2] 42
  replace oP:=oP.gone b4
  replace oR:=oR.gone b4
  replace hr:=hr.below b4
  replace B:=B.trans (b4.mono B.size)
  clear b4 s4
  have k1:=oV.cell (i:=0) rfl
  have k2:=oV.cell (i:=1) rfl
  have k3:=oV.cell (i:=2) rfl
  have k4:=oR.cell (i:=0) rfl
  have k5:=oR.fz 0
  have k6:=oR.cell (i:=1) rfl
  have k7:=oR.fz 1
  have k8:=oR.cell (i:=2) rfl
  have k9:=oR.fz 2
  go_wp2
  obtain⟨wf,HW,ho,_,hN,hBf,_⟩:=oR.put Qak [.bool (decide (q.num<0)),.slice Ar1 (digs Qd q.num.natAbs).length cr1,.slice Ar2 (digs Qd q.den).length cr2] rfl Jf
  simp only[setAll,Nat.reduceAdd]at HW
  (try rw[HW])
  (try simp only[Exit.inBlock,Exit.then])
  have f0:=ho.cell (i:=0) rfl
  have f1:=ho.cell (i:=1) rfl
  have f2:=ho.cell (i:=2) rfl
  refine bodyPost_ret (by simp[results,Tryz.results47,go_sem,f0,f1,f2]; try rfl) rfl ?_
  have HB:=hBf _ (by omega) B
  exact⟨_,rfl,hr.into hN,HB⟩
end Wx

namespace Wx
open Go Go.RowKit

section
variable {P:Program} {ops:Array Oper} {ms:List Nat} {c:Cfg} {V:List Vr} {A:List Al} {G:List Ent} {i:Nat} {L:Nat→Bool} {β:Nat→Nat→Prop} {a:Act} {w:World} {o:Oper}
variable {d:Nat} {x y z:Operand} {ty:TypeId} {pos:String} {aft:Array Edge}
theorem InvB.remake (h:InvB c V A G L β a w) (hd:Det ms i L) (hwf:WfAt c.N ops V A G i o) {y:Vr} (hy:y∈V) (hyb:y.born=some i) (hst:Wg o.op=false) (hna:Uk o.op=false) (hal:(A.all fun p=>p.var != y.id||p.tag.any fun j=>(ms.getD j 0).testBit i)=true)
  {v':Value} {w':World} {B':Nat→Prop} (e0:w'.os=w.os∧w'.tape=w.tape∧w'.output=w.output∧w.heap.size≤w'.heap.size)
  (e1:∀k,k<c.w0.heap.size→¬c.lent k→w'.heap[k]?=w.heap[k]?)
  (e2:∀z,z∈V→live L z=true→z.dead≠some i→∀k,β z.id k→w'.heap[k]?=w.heap[k]?∧¬B' k)
  (e3:Ext (own c V L β) w w') (e4:∀z,z∈V→live L z=true→z.dead≠some i→Ext (Kr (own c V L β) (β z.id)) w w')
  (e5:∀k j,k<w.heap.size→B' k→y.lo≤j→own c V L β k j)
  (hOk:∀β',β' y.id=B'→(∀k j,k<w.heap.size→own c V (Yp L i) β' k j→own c V L β k j)→(∀k j,own c V (Yp L i) β' k j→(B' k∧y.lo≤j)∨c.M0 k j∨∃z,z∈V∧live L z=true∧z.dead≠some i∧β z.id k)→VrOk (own c V (Yp L i) β') c (Yp L i) β' (a.put o.dst v') w' y)
  (hG:∀β',β' y.id=B'→(∀k j,k<w.heap.size→own c V (Yp L i) β' k j→own c V L β k j)→(∀k j,own c V (Yp L i) β' k j→(B' k∧y.lo≤j)∨c.M0 k j∨∃z,z∈V∧live L z=true∧z.dead≠some i∧β z.id k)→∀e,e∈G→e.tag=some i→Box (own c V (Yp L i) β') (fun w=>e.p w v') w'):
  Inv c V A G (Yp L i) (a.put o.dst v') w':=by
 have hdst:=hwf.v2 y hy hyb
 have nV:∀z,z∈V→z.id≠y.id→z.born≠some i:=fun z hz hne hb=>hne (by rw[hwf.vo z y hz hy hb hyb])
 -- who lives on
 have lv:∀z,z∈V→z.id≠y.id→live (Yp L i) z=true→live L z=true∧z.dead≠some i:=by
  intro z hz hne hl
  unfold live at hl ⊢
  rw[J0 (nV z hz hne),Bool.and_eq_true]at hl
  obtain⟨h1,h2⟩:=Qcx hl.2
  exact⟨by rw[hl.1,h1]; rfl,h2⟩
 have nS:∀z,z∈V→z.id≠y.id→z.dead≠some i→o.dst≠some z.slot:=fun z hz hne hdz hd'=>(hwf.v1 z hz hd').elim (nV z hz hne) hdz
 have st_no:∀z,z∈V→∀q,q∈z.st→q.1≠i:=fun z hz q hq hqi=>by have:=hwf.vs z hz q hq hqi; rw[hst]at this; cases this
 let β':Nat→Nat→Prop:=fun s=>if s=y.id then B' else β s
 have hβ:∀z,z∈V→z.id≠y.id→β' z.id=β z.id:=fun z _ hne=>if_neg hne
 have hβy:β' y.id=B':=if_pos rfl
 have own_old:∀k j,k<w.heap.size→own c V (Yp L i) β' k j→own c V L β k j:=by
  rintro k j hk (h1|⟨z,hz,h1,h2,h3⟩)
  ·exact .inl h1
  ·by_cases hzy:z.id=y.id
   ·have:=hwf.vu z y hz hy hzy
    subst this
    rw[hβy]at h2
    exact e5 k j hk h2 h3
   ·rw[hβ z hz hzy]at h2
    exact .inr ⟨z,hz,(lv z hz hzy h1).1,h2,h3⟩
 have own2:∀k j,own c V (Yp L i) β' k j→(B' k∧y.lo≤j)∨c.M0 k j∨∃z,z∈V∧live L z=true∧z.dead≠some i∧β z.id k:=by
  rintro k j (h1|⟨z,hz,h1,h2,h3⟩)
  ·exact .inr (.inl h1)
  ·by_cases hzy:z.id=y.id
   ·have:=hwf.vu z y hz hy hzy
    subst this
    rw[hβy]at h2
    exact .inl ⟨h2,h3⟩
   ·rw[hβ z hz hzy]at h2
    obtain⟨k1,k2⟩:=lv z hz hzy h1
    exact .inr (.inr ⟨z,hz,k1,k2,h2⟩)
 have lift:∀F:World→Prop,Box (own c V L β) F w→Box (own c V (Yp L i) β') F w':=fun F hF w'' he=>by
  refine hF w'' ⟨Nat.le_trans e0.2.2.2 he.size,fun k hk hno=>?_,fun k j v hno hv=>?_⟩
  ·rw[he.block k (Nat.lt_of_lt_of_le hk e0.2.2.2) fun j h'=>hno j (own_old k j hk h')]
   exact e3.block k hk hno
  ·have hk:=World.block_lt_of_cell? w _ hv
   exact he.cell k j v (fun h'=>hno (own_old k j hk h')) (e3.cell k j v hno hv)
 have liftm:∀z,z∈V→live L z=true→z.dead≠some i→∀F:World→Prop,Box (Kr (own c V L β) (β z.id)) F w→Box (Kr (own c V (Yp L i) β') (β z.id)) F w':=fun z hz hl hdz F hF w'' he=>by
  have e:=e4 z hz hl hdz
  refine hF w'' ⟨Nat.le_trans e0.2.2.2 he.size,fun k hk hno=>?_,fun k j v hno hv=>?_⟩
  ·rw[he.block k (Nat.lt_of_lt_of_le hk e0.2.2.2) fun j h'=>hno j ⟨own_old k j hk h'.1,h'.2⟩]
   exact e.block k hk hno
  ·have hk:=World.block_lt_of_cell? w _ hv
   exact he.cell k j v (fun h'=>hno ⟨own_old k j hk h'.1,h'.2⟩) (e.cell k j v hno hv)
 refine⟨β',by rw[Qaq]; exact h.size,by rw[Vw]; exact h.defers,⟨e0.1.trans h.below.os,e0.2.1.trans h.below.tape,e0.2.2.1.trans h.below.output,Nat.le_trans h.below.size e0.2.2.2,fun k hk hn=>(e1 k hk hn).trans (h.below.block k hk hn)⟩,h.old_of e1,?_,?_,?_,?_⟩
 ·intro z hz hl
  by_cases hzy:z.id=y.id
  ·have:=hwf.vu z y hz hy hzy
   subst this
   exact hOk β' hβy own_old own2
  ·obtain⟨hl,hdz⟩:=lv z hz hzy hl
   exact(h.var z hz hl).keep (Z7 (nS z hz hzy hdz)) (hβ z hz hzy) (fun g hg=>(e2 z hz hl hdz g hg).1) e0.2.2.2 lift (liftm z hz hl hdz) (Qcs (st_no z hz))
 ·intro z z' g hz hz' h1 h2 hne
  by_cases hzy:z.id=y.id
  ·have hz'y:z'.id≠y.id:=fun e=>hne (hzy.trans e.symm)
   obtain⟨h2,hd2⟩:=lv z' hz' hz'y h2
   rw[hzy,hβy,hβ z' hz' hz'y]
   exact fun k1 k2=>(e2 z' hz' h2 hd2 g k2).2 k1
  ·obtain⟨h1,hd1⟩:=lv z hz hzy h1
   rw[hβ z hz hzy]
   by_cases hz'y:z'.id=y.id
   ·rw[hz'y,hβy]
    exact fun k1 k2=>(e2 z hz h1 hd1 g k1).2 k2
   ·rw[hβ z' hz' hz'y]
    exact h.apart z z' g hz hz' h1 (lv z' hz' hz'y h2).1 hne
 ·intro p hp hl hcd
  have hpt:p.tag≠some i:=fun e=>by have:=hwf.aa p hp e; rw[hna]at this; cases this
  rw[J0 hpt]at hl
  obtain⟨g,hg,hp1⟩:=h.al p hp hl hcd
  rw[Z7 fun e=>hpt (hwf.a1 p hp e),hp1]
  have hne:p.var≠y.id:=by
   intro e
   rw[List.all_eq_true]at hal
   have h1:=hal p hp
   rw[e]at h1
   simp only[bne_self_eq_false,Bool.false_or]at h1
   cases ht:p.tag with
   |none=>rw[ht]at h1; simp at h1
   |some j=>
    rw[ht]at h1 hl
    have:=hd.behind j (by simpa using h1)
    simp only[on,this]at hl
    cases hl
  exact⟨g,by simpa [β',hne] using hg,rfl⟩
 ·intro e he hl hf
  obtain⟨hf,hfi⟩:=Qcx hf
  by_cases ht:e.tag=some i
  ·have hd':=hwf.g2 e he ht
   rw[hd',Wn (by rw[h.size]; exact hwf.sz _ hd')]
   exact hG β' hβy own_old own2 e he ht
  ·rw[J0 ht]at hl
   rw[Z7 fun hd'=>(hwf.g1 e he hd').elim ht hfi]
   exact lift _ (h.ent e he hl hf)
end
end Wx
