import Derived.Test.YtpiniclogfefjaaGreatJSolves28
namespace Wx
open Go Go.RowKit Go.Proofs
set_option linter.unusedVariables false

def FracOk (n d:Int):Prop :=-9223372036854775808≤n∧n≤9223372036854775807∧d≤9223372036854775807
theorem c_of {n d:Int} {x:Rat} (e:x=ofR n d) (h:FracOk n d):∀w v1,Y6 n d w v1→Calls Tryz.prog 46 #[v1] w (Kb (Qv x) w):=fun w v1 h1=>by
 rw[pFrac_eq h1,e]
 exact of_num w n d h.1 h.2.1 h.2.2
theorem c_awake:∀w,Calls Tryz.prog 7 #[] w (Kb (pB true) w):=fun w=>(awake_num w).mono fun _ _=>ret_is
theorem law_true {f:FuncId} {P:Program} {args:Array Value} {W:World} (h:Calls P f args W (RetB (fun _ _=>False) (pB true) W)):Calls P f args W fun e w'=>e=.returned (.bool true)∧Below W.heap.size W w':=
 h.mono fun e w' h=>by
  obtain⟨v,rfl,hv,hb⟩:=h
  have:v=.bool true:=hv.out
  exact⟨by rw[this],hb⟩
end Wx

namespace Wx
open Go Go.RowKit Go.Proofs

theorem Jt:Ty Tryz.prog 34 false 1:=⟨fun _=>by kernel_rfl,fun _=>by kernel_rfl,by decide⟩
theorem ty_Fracs:Ty Tryz.prog 43 false 1:=⟨fun _=>by kernel_rfl,fun _=>by kernel_rfl,by decide⟩
theorem Xz:SlTy Tryz.prog 34 42 3:=⟨by kernel_rfl,fun _=>by kernel_rfl⟩
theorem Qy:SlTy Tryz.prog 26 34 1:=⟨by kernel_rfl,fun _=>by kernel_rfl⟩
theorem Va:SlTy Tryz.prog 43 82 2:=⟨by kernel_rfl,fun _=>by kernel_rfl⟩
theorem Wb:SlTy Tryz.prog 22 43 1:=⟨by kernel_rfl,fun _=>by kernel_rfl⟩
end Wx

namespace Wx
open Go Go.RowKit Go.Proofs
set_option linter.unusedVariables false

end Wx

namespace Wx
open Go Go.RowKit Go.Proofs

end Wx

namespace Wx
open Go Go.RowKit Go.Proofs

end Wx

namespace Wx
set_option maxRecDepth 100000
open Go Go.RowKit Go.Proofs

set_option maxHeartbeats 8000000 in
theorem nmul_num (w:World) (vx vy:Value) (x y:Rat) (hx:IsRef w vx x) (hy:IsRef w vy y) {j k:Nat} (hj:BdR j x) (hk:BdR k y) (hjk:j+k≤10000000):Calls Tryz.prog 52 #[vx,vy] w (Qa3 w (x*y)):=by
 obtain⟨vx1,vx2,rfl,hxa,hxb⟩:=id hx
 obtain⟨Ax1,cx1,rfl,_⟩:=id hxa
 obtain⟨Ax2,cx2,rfl,_⟩:=id hxb
 obtain⟨vy1,vy2,rfl,hya,hyb⟩:=id hy
 obtain⟨Ay1,cy1,rfl,_⟩:=id hya
 obtain⟨Ay2,cy2,rfl,_⟩:=id hyb
 have hdx:=x.den_pos
 have hdy:=y.den_pos
 have HB:=bx (And.intro hj hk)
 have hj1:j≤1000000000:=by omega
 have hk1:k≤1000000000:=by omega
 have hx0:=hx
 have hy0:=hy
 clear hj hk hx hy
 go_enter Tryz.func52,Tryz.ntmps52
 go_wp2_with fail
 obtain⟨w1,e1,o1,b1,s1⟩:=Jh w [.bool (decide (x.num<0)),.slice Ax1 (digs Qd x.num.natAbs).length cx1,.slice Ax2 (digs Qd x.den).length cx2] 42
 obtain⟨w2,e2,o2,b2,s2⟩:=Jh w1 [.bool (decide (y.num<0)),.slice Ay1 (digs Qd y.num.natAbs).length cy1,.slice Ay2 (digs Qd y.den).length cy2] 42
 obtain⟨w3,e3,o3,b3,s3⟩:=Jh w2 [.bool false,.slice none 0 0,.slice none 0 0] 42
 rw[e1,e2,e3]
 rw[s1]at o2
 rw[s2,s1]at o3
 have p1:=((o1.gone b2).gone b3)
 have p2:=(o2.gone b3)
 have p3:=o3
 have B0:=((b1.trans (b2.mono b1.size)).trans (b3.mono (b1.trans (b2.mono b1.size)).size))
 have hS:∀w',HeldN w (w.heap.size+2) 3 42 [(w.heap.size,[.bool (decide (x.num<0)),.slice Ax1 (digs Qd x.num.natAbs).length cx1,.slice Ax2 (digs Qd x.den).length cx2],42),(w.heap.size+1,[.bool (decide (y.num<0)),.slice Ay1 (digs Qd y.num.natAbs).length cy1,.slice Ay2 (digs Qd y.den).length cy2],42)] w'→HeldN w (w.heap.size+2) 3 42 [(w.heap.size,[.bool (decide (x.num<0)),.slice Ax1 (digs Qd x.num.natAbs).length cx1,.slice Ax2 (digs Qd x.den).length cx2],42),(w.heap.size+1,[.bool (decide (y.num<0)),.slice Ay1 (digs Qd y.num.natAbs).length cy1,.slice Ay2 (digs Qd y.den).length cy2],42)] w'∧w'.cell? ⟨w.heap.size,0,none⟩=some (.bool (decide (x.num<0)))∧w'.cell? ⟨w.heap.size,1,none⟩=some (.slice Ax1 (digs Qd x.num.natAbs).length cx1)∧w'.cell? ⟨w.heap.size,2,none⟩=some (.slice Ax2 (digs Qd x.den).length cx2)∧w'.cell? ⟨w.heap.size+1,0,none⟩=some (.bool (decide (y.num<0)))∧w'.cell? ⟨w.heap.size+1,1,none⟩=some (.slice Ay1 (digs Qd y.num.natAbs).length cy1)∧w'.cell? ⟨w.heap.size+1,2,none⟩=some (.slice Ay2 (digs Qd y.den).length cy2)∧w'.cell? ⟨w.heap.size+2,0,none⟩=some (cv w' ⟨w.heap.size+2,0,none⟩)∧w'.cell? ⟨w.heap.size+2,1,none⟩=some (cv w' ⟨w.heap.size+2,1,none⟩)∧w'.cell? ⟨w.heap.size+2,2,none⟩=some (cv w' ⟨w.heap.size+2,2,none⟩)∧w'.frozen? ⟨w.heap.size+2,0,none⟩=false∧w'.frozen? ⟨w.heap.size+2,1,none⟩=false∧w'.frozen? ⟨w.heap.size+2,2,none⟩=false:=fun w' hh=>by
  have r1:=hh.par (p:=(w.heap.size,[.bool (decide (x.num<0)),.slice Ax1 (digs Qd x.num.natAbs).length cx1,.slice Ax2 (digs Qd x.den).length cx2],42)) (by simp)
  have r2:=hh.par (p:=(w.heap.size+1,[.bool (decide (y.num<0)),.slice Ay1 (digs Qd y.num.natAbs).length cy1,.slice Ay2 (digs Qd y.den).length cy2],42)) (by simp)
  exact⟨hh,r1.cell (i:=0) rfl,r1.cell (i:=1) rfl,r1.cell (i:=2) rfl,r2.cell (i:=0) rfl,r2.cell (i:=1) rfl,r2.cell (i:=2) rfl,hh.cellR (i:=0) (by omega),hh.cellR (i:=1) (by omega),hh.cellR (i:=2) (by omega),hh.fzR 0,hh.fzR 1,hh.fzR 2⟩
 have hz:HeldN w (w.heap.size+2) 3 42 [(w.heap.size,[.bool (decide (x.num<0)),.slice Ax1 (digs Qd x.num.natAbs).length cx1,.slice Ax2 (digs Qd x.den).length cx2],42),(w.heap.size+1,[.bool (decide (y.num<0)),.slice Ay1 (digs Qd y.num.natAbs).length cy1,.slice Ay2 (digs Qd y.den).length cy2],42)] w3:=⟨B0,by omega,by intro q hq; simp at hq; rcases hq with rfl|rfl; exact⟨by simp,p1⟩; exact⟨by simp,p2⟩,_,rfl,p3,Jf⟩
 clear e1 e2 e3 o1 b1 s1 p1 o2 b2 s2 p2 o3 b3 s3 p3
 clear B0
 have hz:=hz.drew
 go_region_held3 (fun w'=>HeldN w (w.heap.size+2) 3 42 [(w.heap.size,[.bool (decide (x.num<0)),.slice Ax1 (digs Qd x.num.natAbs).length cx1,.slice Ax2 (digs Qd x.den).length cx2],42),(w.heap.size+1,[.bool (decide (y.num<0)),.slice Ay1 (digs Qd y.num.natAbs).length cy1,.slice Ay2 (digs Qd y.den).length cy2],42)] w'∧w'.cell? ⟨w.heap.size,0,none⟩=some (.bool (decide (x.num<0)))∧w'.cell? ⟨w.heap.size,1,none⟩=some (.slice Ax1 (digs Qd x.num.natAbs).length cx1)∧w'.cell? ⟨w.heap.size,2,none⟩=some (.slice Ax2 (digs Qd x.den).length cx2)∧w'.cell? ⟨w.heap.size+1,0,none⟩=some (.bool (decide (y.num<0)))∧w'.cell? ⟨w.heap.size+1,1,none⟩=some (.slice Ay1 (digs Qd y.num.natAbs).length cy1)∧w'.cell? ⟨w.heap.size+1,2,none⟩=some (.slice Ay2 (digs Qd y.den).length cy2)∧w'.cell? ⟨w.heap.size+2,0,none⟩=some (cv w' ⟨w.heap.size+2,0,none⟩)∧w'.cell? ⟨w.heap.size+2,1,none⟩=some (cv w' ⟨w.heap.size+2,1,none⟩)∧w'.cell? ⟨w.heap.size+2,2,none⟩=some (cv w' ⟨w.heap.size+2,2,none⟩)∧w'.frozen? ⟨w.heap.size+2,0,none⟩=false∧w'.frozen? ⟨w.heap.size+2,1,none⟩=false∧w'.frozen? ⟨w.heap.size+2,2,none⟩=false)
  (first|exact hS _ hz|exact hS _ (HeldN.sets3 hz))
  (first
   |(go_at_call 88; have hc:=Qa9 _ _ _ _ _ (hxa.below hz.1) (hya.below hz.1) HB.out.1.1 HB.out.2.1 (by omega) (by omega); (with_reducible refine Calls.mono hc ?_); clear hc; rintro e wz ⟨vt1,rfl,ht1,hb⟩; (try have hux:=hux.below hb); (try have huy:=huy.below hb); (try have ht1:=ht1.below hb); (try have ht2:=ht2.below hb); (try have htd:=htd.below hb); (try have hs1:=hs1.below hb); have hz:=HeldN.call (And.intro hz trivial) hb)
   |(go_at_call 89; have hc:=Kt _ _ x (hx0.below hz.1); (with_reducible refine Calls.mono hc ?_); clear hc; rintro e wz ⟨vux,rfl,hux,hb⟩; (try have hux:=hux.below hb); (try have huy:=huy.below hb); (try have ht1:=ht1.below hb); (try have ht2:=ht2.below hb); (try have htd:=htd.below hb); (try have hs1:=hs1.below hb); have hz:=HeldN.call (And.intro hz trivial) hb)
   |(go_at_call 89; have hc:=Kt _ _ y (hy0.below hz.1); (with_reducible refine Calls.mono hc ?_); clear hc; rintro e wz ⟨vuy,rfl,huy,hb⟩; (try have hux:=hux.below hb); (try have huy:=huy.below hb); (try have ht1:=ht1.below hb); (try have ht2:=ht2.below hb); (try have htd:=htd.below hb); (try have hs1:=hs1.below hb); have hz:=HeldN.call (And.intro hz trivial) hb)
   |(go_at_call 88; have hc:=Qa9 _ _ _ _ _ hux huy HB.out.1.2 HB.out.2.2 (by omega) (by omega); (with_reducible refine Calls.mono hc ?_); clear hc; rintro e wz ⟨vt2,rfl,ht2,hb⟩; (try have hux:=hux.below hb); (try have huy:=huy.below hb); (try have ht1:=ht1.below hb); (try have ht2:=ht2.below hb); (try have htd:=htd.below hb); (try have hs1:=hs1.below hb); have hz:=HeldN.call (And.intro hz trivial) hb)
   |(go_at_call 90; have hc:=Qeu _ (!(decide (x.num<0)==decide (y.num<0))) _ _ (x.num.natAbs*y.num.natAbs) (x.den*y.den) ht1 ht2 (Nat.mul_pos hdx hdy) (HB.out.1.1.mul HB.out.2.1) (HB.out.1.2.mul HB.out.2.2) hjk; (with_reducible refine Calls.mono hc ?_); clear hc; rintro e wz ⟨vr,rfl,hr,hb⟩; (try have hux:=hux.below hb); (try have huy:=huy.below hb); (try have ht1:=ht1.below hb); (try have ht2:=ht2.below hb); (try have htd:=htd.below hb); (try have hs1:=hs1.below hb); have hz:=HeldN.call (And.intro hz trivial) hb; replace hr:=isRef_of hr (mul_red x y); obtain⟨vr1,vr2,rfl,hra,hrb⟩:=id hr; obtain⟨Ar1,cr1,rfl,_⟩:=id hra; obtain⟨Ar2,cr2,rfl,_⟩:=id hrb))
 all_goals (
  go_wp2
  obtain⟨wf,HW,ho,hB,hN⟩:=hz.fin [.bool (decide ((x*y).num<0)),.slice Ar1 (digs Qd (x*y).num.natAbs).length cr1,.slice Ar2 (digs Qd (x*y).den).length cr2] rfl Jf
  simp only[setAll,Nat.reduceAdd]at HW
  (try rw[HW])
  (try simp only[Exit.inBlock,Exit.then])
  have f0:=ho.cell (i:=0) rfl
  have f1:=ho.cell (i:=1) rfl
  have f2:=ho.cell (i:=2) rfl
  refine bodyPost_ret (by simp[results,Tryz.results52,go_sem,f0,f1,f2]; try rfl) rfl ?_
  exact⟨_,rfl,hr.into hN,hB⟩)
end Wx

namespace Wx
set_option maxRecDepth 100000
open Go Go.RowKit Go.Proofs

set_option maxHeartbeats 8000000 in
theorem ndiv_num (w:World) (vx vy:Value) (x y:Rat) (hx:IsRef w vx x) (hy:IsRef w vy y) (hy1:y.num≠0) {j k:Nat} (hj:BdR j x) (hk:BdR k y) (hjk:j+k≤10000000):Calls Tryz.prog 67 #[vx,vy] w (RetFE w (x/y) 0):=by
 have HY:=bx hy1
 have HD:=bx (decide_eq_false (mt (Rat.num_eq_zero (q:=y)).2 hy1))
 clear hy1
 obtain⟨vx1,vx2,rfl,hxa,hxb⟩:=id hx
 obtain⟨Ax1,cx1,rfl,_⟩:=id hxa
 obtain⟨Ax2,cx2,rfl,_⟩:=id hxb
 obtain⟨vy1,vy2,rfl,hya,hyb⟩:=id hy
 obtain⟨Ay1,cy1,rfl,_⟩:=id hya
 obtain⟨Ay2,cy2,rfl,_⟩:=id hyb
 have hdx:=x.den_pos
 have hdy:=y.den_pos
 have HB:=bx (And.intro hj hk)
 have hj1:j≤1000000000:=by omega
 have hk1:k≤1000000000:=by omega
 have hx0:=hx
 have hy0:=hy
 clear hj hk hx hy
 go_enter Tryz.func67,Tryz.ntmps67
 go_wp2_with fail
 obtain⟨w1,e1,oX,b1,s1⟩:=Jh w [.bool (decide (x.num<0)),.slice Ax1 (digs Qd x.num.natAbs).length cx1,.slice Ax2 (digs Qd x.den).length cx2] 42
 rw[e1]
 clear e1
 replace hy0:=hy0.below b1
 replace hx0:=hx0.below b1
 replace hxa:=hxa.below b1
 replace hxb:=hxb.below b1
 replace hya:=hya.below b1
 replace hyb:=hyb.below b1
 have B:=b1
 clear b1
 obtain⟨w2,e2,oY,b2,s2⟩:=Jh w1 [.bool (decide (y.num<0)),.slice Ay1 (digs Qd y.num.natAbs).length cy1,.slice Ay2 (digs Qd y.den).length cy2] 42
 rw[e2]
 rw[s1]at oY
 clear e2
 replace hy0:=hy0.below b2
 replace hx0:=hx0.below b2
 replace hxa:=hxa.below b2
 replace hxb:=hxb.below b2
 replace hya:=hya.below b2
 replace hyb:=hyb.below b2
 replace oX:=oX.gone b2
 replace B:=B.trans (b2.mono B.size)
 clear b2
 obtain⟨w3,e3,oR,b3,s3⟩:=Jh w2 [.bool false,.slice none 0 0,.slice none 0 0] 42
 rw[e3]
 rw[s2,s1]at oR
 clear e3
 replace hy0:=hy0.below b3
 replace hx0:=hx0.below b3
 replace hxa:=hxa.below b3
 replace hxb:=hxb.below b3
 replace hya:=hya.below b3
 replace hyb:=hyb.below b3
 replace oX:=oX.gone b3
 replace oY:=oY.gone b3
 replace B:=B.trans (b3.mono B.size)
 clear b3
 have hc:=Qhm _ _ y hy0
 rw[HD.out]at hc
 refine Calls.mono (hc) ?_
 rintro e w4 ⟨rfl,b4⟩
 replace hy0:=hy0.below b4
 replace hx0:=hx0.below b4
 replace hxa:=hxa.below b4
 replace hxb:=hxb.below b4
 replace hya:=hya.below b4
 replace hyb:=hyb.below b4
 replace oX:=oX.gone b4
 replace oY:=oY.gone b4
 replace oR:=oR.gone b4
 replace B:=B.trans (b4.mono B.size)
 clear b4
 clear hc
 go_wp2_with fail
 have hS:∀w',HeldN w (w.heap.size+1+1) 3 42 [(w.heap.size,[.bool (decide (x.num<0)),.slice Ax1 (digs Qd x.num.natAbs).length cx1,.slice Ax2 (digs Qd x.den).length cx2],42),(w.heap.size+1,[.bool (decide (y.num<0)),.slice Ay1 (digs Qd y.num.natAbs).length cy1,.slice Ay2 (digs Qd y.den).length cy2],42)] w'→HeldN w (w.heap.size+1+1) 3 42 [(w.heap.size,[.bool (decide (x.num<0)),.slice Ax1 (digs Qd x.num.natAbs).length cx1,.slice Ax2 (digs Qd x.den).length cx2],42),(w.heap.size+1,[.bool (decide (y.num<0)),.slice Ay1 (digs Qd y.num.natAbs).length cy1,.slice Ay2 (digs Qd y.den).length cy2],42)] w'∧w'.cell? ⟨w.heap.size,0,none⟩=some (.bool (decide (x.num<0)))∧w'.cell? ⟨w.heap.size,1,none⟩=some (.slice Ax1 (digs Qd x.num.natAbs).length cx1)∧w'.cell? ⟨w.heap.size,2,none⟩=some (.slice Ax2 (digs Qd x.den).length cx2)∧w'.cell? ⟨w.heap.size+1,0,none⟩=some (.bool (decide (y.num<0)))∧w'.cell? ⟨w.heap.size+1,1,none⟩=some (.slice Ay1 (digs Qd y.num.natAbs).length cy1)∧w'.cell? ⟨w.heap.size+1,2,none⟩=some (.slice Ay2 (digs Qd y.den).length cy2)∧w'.cell? ⟨w.heap.size+1+1,0,none⟩=some (cv w' ⟨w.heap.size+1+1,0,none⟩)∧w'.cell? ⟨w.heap.size+1+1,1,none⟩=some (cv w' ⟨w.heap.size+1+1,1,none⟩)∧w'.cell? ⟨w.heap.size+1+1,2,none⟩=some (cv w' ⟨w.heap.size+1+1,2,none⟩)∧w'.frozen? ⟨w.heap.size+1+1,0,none⟩=false∧w'.frozen? ⟨w.heap.size+1+1,1,none⟩=false∧w'.frozen? ⟨w.heap.size+1+1,2,none⟩=false:=fun w' hh=>by
  have r1:=hh.par (p:=(w.heap.size,[.bool (decide (x.num<0)),.slice Ax1 (digs Qd x.num.natAbs).length cx1,.slice Ax2 (digs Qd x.den).length cx2],42)) (by simp)
  have r2:=hh.par (p:=(w.heap.size+1,[.bool (decide (y.num<0)),.slice Ay1 (digs Qd y.num.natAbs).length cy1,.slice Ay2 (digs Qd y.den).length cy2],42)) (by simp)
  exact⟨hh,r1.cell (i:=0) rfl,r1.cell (i:=1) rfl,r1.cell (i:=2) rfl,r2.cell (i:=0) rfl,r2.cell (i:=1) rfl,r2.cell (i:=2) rfl,hh.cellR (i:=0) (by omega),hh.cellR (i:=1) (by omega),hh.cellR (i:=2) (by omega),hh.fzR 0,hh.fzR 1,hh.fzR 2⟩
 have hz:HeldN w (w.heap.size+1+1) 3 42 [(w.heap.size,[.bool (decide (x.num<0)),.slice Ax1 (digs Qd x.num.natAbs).length cx1,.slice Ax2 (digs Qd x.den).length cx2],42),(w.heap.size+1,[.bool (decide (y.num<0)),.slice Ay1 (digs Qd y.num.natAbs).length cy1,.slice Ay2 (digs Qd y.den).length cy2],42)] w4:=⟨B,by omega,by intro q hq; simp at hq; rcases hq with rfl|rfl; exact⟨(by show w.heap.size≠w.heap.size+1+1; omega),oX⟩; exact⟨(by show w.heap.size+1≠w.heap.size+1+1; omega),oY⟩,_,rfl,oR,Jf⟩
 clear oX oY oR B s1 s2 s3
 have hx0:=hx0.drew
 have hy0:=hy0.drew
 have hxa:Num .u32 Qd w4.drew _ _:=hxa
 have hya:Num .u32 Qd w4.drew _ _:=hya
 have hz:=hz.drew
 go_region_held3 (fun w'=>HeldN w (w.heap.size+1+1) 3 42 [(w.heap.size,[.bool (decide (x.num<0)),.slice Ax1 (digs Qd x.num.natAbs).length cx1,.slice Ax2 (digs Qd x.den).length cx2],42),(w.heap.size+1,[.bool (decide (y.num<0)),.slice Ay1 (digs Qd y.num.natAbs).length cy1,.slice Ay2 (digs Qd y.den).length cy2],42)] w'∧w'.cell? ⟨w.heap.size,0,none⟩=some (.bool (decide (x.num<0)))∧w'.cell? ⟨w.heap.size,1,none⟩=some (.slice Ax1 (digs Qd x.num.natAbs).length cx1)∧w'.cell? ⟨w.heap.size,2,none⟩=some (.slice Ax2 (digs Qd x.den).length cx2)∧w'.cell? ⟨w.heap.size+1,0,none⟩=some (.bool (decide (y.num<0)))∧w'.cell? ⟨w.heap.size+1,1,none⟩=some (.slice Ay1 (digs Qd y.num.natAbs).length cy1)∧w'.cell? ⟨w.heap.size+1,2,none⟩=some (.slice Ay2 (digs Qd y.den).length cy2)∧w'.cell? ⟨w.heap.size+1+1,0,none⟩=some (cv w' ⟨w.heap.size+1+1,0,none⟩)∧w'.cell? ⟨w.heap.size+1+1,1,none⟩=some (cv w' ⟨w.heap.size+1+1,1,none⟩)∧w'.cell? ⟨w.heap.size+1+1,2,none⟩=some (cv w' ⟨w.heap.size+1+1,2,none⟩)∧w'.frozen? ⟨w.heap.size+1+1,0,none⟩=false∧w'.frozen? ⟨w.heap.size+1+1,1,none⟩=false∧w'.frozen? ⟨w.heap.size+1+1,2,none⟩=false)
  (first|exact hS _ hz|exact hS _ (HeldN.sets3 hz))
  (first
   |(go_at_call 89; have hc:=Kt _ _ x hx0; (with_reducible refine Calls.mono hc ?_); clear hc; rintro e wz ⟨vux,rfl,hux,hb⟩; (try have hux:=hux.below hb); (try have huy:=huy.below hb); (try have ht1:=ht1.below hb); (try have ht2:=ht2.below hb); (try have hx0:=hx0.below hb); (try have hy0:=hy0.below hb); (try have hxa:=hxa.below hb); (try have hxb:=hxb.below hb); (try have hya:=hya.below hb); (try have hyb:=hyb.below hb); have hz:=HeldN.call (And.intro hz trivial) hb)
   |(go_at_call 89; have hc:=Kt _ _ y hy0; (with_reducible refine Calls.mono hc ?_); clear hc; rintro e wz ⟨vuy,rfl,huy,hb⟩; (try have hux:=hux.below hb); (try have huy:=huy.below hb); (try have ht1:=ht1.below hb); (try have ht2:=ht2.below hb); (try have hx0:=hx0.below hb); (try have hy0:=hy0.below hb); (try have hxa:=hxa.below hb); (try have hxb:=hxb.below hb); (try have hya:=hya.below hb); (try have hyb:=hyb.below hb); have hz:=HeldN.call (And.intro hz trivial) hb)
   |(go_at_call 88; have hc:=Qa9 _ _ _ _ _ hxa huy HB.out.1.1 HB.out.2.2 (by omega) (by omega); (with_reducible refine Calls.mono hc ?_); clear hc; rintro e wz ⟨vt1,rfl,ht1,hb⟩; (try have hux:=hux.below hb); (try have huy:=huy.below hb); (try have ht1:=ht1.below hb); (try have ht2:=ht2.below hb); (try have hx0:=hx0.below hb); (try have hy0:=hy0.below hb); (try have hxa:=hxa.below hb); (try have hxb:=hxb.below hb); (try have hya:=hya.below hb); (try have hyb:=hyb.below hb); have hz:=HeldN.call (And.intro hz trivial) hb)
   |(go_at_call 88; have hc:=Qa9 _ _ _ _ _ hux hya HB.out.1.2 HB.out.2.1 (by omega) (by omega); (with_reducible refine Calls.mono hc ?_); clear hc; rintro e wz ⟨vt2,rfl,ht2,hb⟩; (try have hux:=hux.below hb); (try have huy:=huy.below hb); (try have ht1:=ht1.below hb); (try have ht2:=ht2.below hb); (try have hx0:=hx0.below hb); (try have hy0:=hy0.below hb); (try have hxa:=hxa.below hb); (try have hxb:=hxb.below hb); (try have hya:=hya.below hb); (try have hyb:=hyb.below hb); have hz:=HeldN.call (And.intro hz trivial) hb)
   |(go_at_call 90; have hc:=Qeu _ (!(decide (x.num<0)==decide (y.num<0))) _ _ (x.num.natAbs*y.den) (x.den*y.num.natAbs) ht1 ht2 (Nat.mul_pos hdx (by have:=HY.out; omega)) (HB.out.1.1.mul HB.out.2.2) (HB.out.1.2.mul HB.out.2.1) hjk; (with_reducible refine Calls.mono hc ?_); clear hc; rintro e wz ⟨vr,rfl,hr,hb⟩; (try have hux:=hux.below hb); (try have huy:=huy.below hb); (try have ht1:=ht1.below hb); (try have ht2:=ht2.below hb); (try have hx0:=hx0.below hb); (try have hy0:=hy0.below hb); (try have hxa:=hxa.below hb); (try have hxb:=hxb.below hb); (try have hya:=hya.below hb); (try have hyb:=hyb.below hb); have hz:=HeldN.call (And.intro hz trivial) hb; replace hr:=isRef_of hr (div_red x y HY.out); obtain⟨vr1,vr2,rfl,hra,hrb⟩:=id hr; obtain⟨Ar1,cr1,rfl,_⟩:=id hra; obtain⟨Ar2,cr2,rfl,_⟩:=id hrb))
 all_goals (
  go_wp2
  obtain⟨wf,HW,ho,hB,hN⟩:=hz.fin [.bool (decide ((x/y).num<0)),.slice Ar1 (digs Qd (x/y).num.natAbs).length cr1,.slice Ar2 (digs Qd (x/y).den).length cr2] rfl Jf
  simp only[setAll,Nat.reduceAdd]at HW
  (try rw[HW])
  (try simp only[Exit.inBlock,Exit.then])
  have f0:=ho.cell (i:=0) rfl
  have f1:=ho.cell (i:=1) rfl
  have f2:=ho.cell (i:=2) rfl
  refine bodyPost_ret (by simp[results,Tryz.results67,go_sem,f0,f1,f2]; try rfl) rfl ?_
  exact⟨_,rfl,hr.into hN,hB⟩)
end Wx
