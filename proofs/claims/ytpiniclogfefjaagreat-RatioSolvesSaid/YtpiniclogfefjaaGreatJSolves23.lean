import Derived.Test.YtpiniclogfefjaaGreatCSolvesSemCopy
namespace Wx
open Go Go.RowKit Go.Proofs

def Qr (q:Rat):Qg:=fun w v=>IsRef w v q
theorem X3 (q:Rat):Zg (Qr q):=by
 rintro M w v hM ⟨vn,vd,rfl,h1,h2⟩ w' he
 exact⟨vn,vd,rfl,Qec hM (.inr rfl) h1 w' he,Qec hM (.inr rfl) h2 w' he⟩
theorem Xt (q:Rat):J4 3 true (Qr q):=by
 rintro w v ⟨vn,vd,rfl,h1,h2⟩
 obtain⟨A,c,rfl,_⟩:=h1
 obtain⟨B,d,rfl,_⟩:=h2
 refine⟨[_,_,_],rfl,rfl,rfl,?_⟩
 intro u hu
 simp at hu
 rcases hu with rfl|rfl|rfl
 ·exact⟨noU_bool _,rfl⟩
 ·exact⟨Jz _ _ _,rfl⟩
 ·exact⟨Jz _ _ _,rfl⟩
def Xl (n:Nat):Qg:=fun w v=>Num .u32 Qd w v n
theorem J8 (n:Nat):Zg (Xl n):=fun _ _ _ hM h=>Qec hM (.inr rfl) h
theorem fits_natR (n:Nat):J4 1 false (Xl n):=by
 rintro w v ⟨A,c,rfl,_⟩
 refine⟨[_],rfl,rfl,rfl,?_⟩
 intro u hu
 simp at hu
 subst hu
 exact⟨Jz _ _ _,rfl⟩
def Yx (q:Rat):List Fd:=[⟨false,1,pB (decide (q.num<0))⟩,⟨false,1,Xl q.num.natAbs⟩,⟨false,1,Xl q.den⟩]
theorem ref_S (q:Rat):∀w v,Qr q w v→pS (Yx q) w v:=by
 rintro w v ⟨vn,vd,rfl,h1,h2⟩
 exact pS_of' (cs:=[.bool (decide (q.num<0)),vn,vd]) ⟨by simp,rfl,by simp,h1,by simp,h2,rfl⟩
theorem S_ref (q:Rat):∀w v,pS (Yx q) w v→Qr q w v:=by
 rintro w v ⟨cs,rfl,hc⟩
 have hl:=Qa0 hc
 match cs,hl,hc with
 |[x,y,z],_,hc=>
  obtain⟨_,h1,_,h2,_,h3,_⟩:=hc
  have e1:x=.bool (decide (q.num<0)):=h1
  subst e1
  exact⟨y,z,rfl,h2,h3⟩
theorem fits_refS (q:Rat):J4 3 true (pS (Yx q)):=fits_s (fs:=Yx q) ⟨fits_bool _,fits_natR _,fits_natR _,trivial⟩ rfl
end Wx

namespace Wx
set_option maxRecDepth 100000
open Go Go.RowKit Go.Proofs

set_option maxHeartbeats 8000000 in
theorem less_num (w:World) (vx vy:Value) (x y:Rat) (hx:IsRat w vx x) (hy:IsRat w vy y) {j k:Nat} (hj:BdR j x) (hk:BdR k y) (hjk:j+k+j+k+1≤100000000):Calls Tryz.prog 76 #[vx,vy] w (RetRat w (x-y)):=by
 obtain⟨vx1,vx2,rfl,hxa,hxb⟩:=id hx
 obtain⟨Ax1,cx1,rfl,_⟩:=id hxa
 obtain⟨Ax2,cx2,rfl,_⟩:=id hxb
 obtain⟨vy1,vy2,rfl,hya,hyb⟩:=id hy
 obtain⟨Ay1,cy1,rfl,_⟩:=id hya
 obtain⟨Ay2,cy2,rfl,_⟩:=id hyb
 have HB:=bx (And.intro hj hk)
 have HS:=bx (Rat.sub_eq_add_neg x y)
 clear hj hk
 go_enter Tryz.func76,Tryz.ntmps76
 go_wp2_with fail
 obtain⟨w1,e1,o1,b1,s1⟩:=Js w (.bool (decide (x.num<0))) (.slice Ax1 (digs Qa x.num.natAbs).length cx1) (.slice Ax2 (digs Qa (Qo x.den)).length cx2) 38
 obtain⟨w2,e2,o2,b2,s2⟩:=Js w1 (.bool (decide (y.num<0))) (.slice Ay1 (digs Qa y.num.natAbs).length cy1) (.slice Ay2 (digs Qa (Qo y.den)).length cy2) 38
 obtain⟨w3,e3,o3,b3,s3⟩:=Js w2 (.bool false) (.slice none 0 0) (.slice none 0 0) 38
 rw[e1,e2,e3]
 rw[s1]at o2
 rw[s2,s1]at o3
 have p1:=((o1.gone b2).gone b3)
 have p2:=(o2.gone b3)
 have p3:=o3
 have B0:=((b1.trans (b2.mono b1.size)).trans (b3.mono (b1.trans (b2.mono b1.size)).size))
 have hS:∀w',HeldR w (w.heap.size+2) 38 [(w.heap.size,.bool (decide (x.num<0)),.slice Ax1 (digs Qa x.num.natAbs).length cx1,.slice Ax2 (digs Qa (Qo x.den)).length cx2),(w.heap.size+1,.bool (decide (y.num<0)),.slice Ay1 (digs Qa y.num.natAbs).length cy1,.slice Ay2 (digs Qa (Qo y.den)).length cy2)] w'→HeldR w (w.heap.size+2) 38 [(w.heap.size,.bool (decide (x.num<0)),.slice Ax1 (digs Qa x.num.natAbs).length cx1,.slice Ax2 (digs Qa (Qo x.den)).length cx2),(w.heap.size+1,.bool (decide (y.num<0)),.slice Ay1 (digs Qa y.num.natAbs).length cy1,.slice Ay2 (digs Qa (Qo y.den)).length cy2)] w'∧w'.cell? ⟨w.heap.size,0,none⟩=some (.bool (decide (x.num<0)))∧w'.cell? ⟨w.heap.size,1,none⟩=some (.slice Ax1 (digs Qa x.num.natAbs).length cx1)∧w'.cell? ⟨w.heap.size,2,none⟩=some (.slice Ax2 (digs Qa (Qo x.den)).length cx2)∧w'.cell? ⟨w.heap.size+1,0,none⟩=some (.bool (decide (y.num<0)))∧w'.cell? ⟨w.heap.size+1,1,none⟩=some (.slice Ay1 (digs Qa y.num.natAbs).length cy1)∧w'.cell? ⟨w.heap.size+1,2,none⟩=some (.slice Ay2 (digs Qa (Qo y.den)).length cy2)∧w'.cell? ⟨w.heap.size+2,0,none⟩=some (cv w' ⟨w.heap.size+2,0,none⟩)∧w'.cell? ⟨w.heap.size+2,1,none⟩=some (cv w' ⟨w.heap.size+2,1,none⟩)∧w'.cell? ⟨w.heap.size+2,2,none⟩=some (cv w' ⟨w.heap.size+2,2,none⟩)∧w'.frozen? ⟨w.heap.size+2,0,none⟩=false∧w'.frozen? ⟨w.heap.size+2,1,none⟩=false∧w'.frozen? ⟨w.heap.size+2,2,none⟩=false:=fun w' hh=>by
  obtain⟨f0,f1,f2,f3,f4,f5⟩:=hh.cells
  have q1:=(hh.2.2.1 (w.heap.size,.bool (decide (x.num<0)),.slice Ax1 (digs Qa x.num.natAbs).length cx1,.slice Ax2 (digs Qa (Qo x.den)).length cx2) (by simp)).2
  have q2:=(hh.2.2.1 (w.heap.size+1,.bool (decide (y.num<0)),.slice Ay1 (digs Qa y.num.natAbs).length cy1,.slice Ay2 (digs Qa (Qo y.den)).length cy2) (by simp)).2
  exact⟨hh,q1.c0,q1.c1,q1.c2,q2.c0,q2.c1,q2.c2,f0,f1,f2,f3,f4,f5⟩
 have H0:HeldR w (w.heap.size+2) 38 [(w.heap.size,.bool (decide (x.num<0)),.slice Ax1 (digs Qa x.num.natAbs).length cx1,.slice Ax2 (digs Qa (Qo x.den)).length cx2),(w.heap.size+1,.bool (decide (y.num<0)),.slice Ay1 (digs Qa y.num.natAbs).length cy1,.slice Ay2 (digs Qa (Qo y.den)).length cy2)] w3:=⟨B0,by omega,by intro p hp; simp at hp; rcases hp with rfl|rfl; exact⟨by simp,p1⟩; exact⟨by simp,p2⟩,_,_,_,p3,Y3 _,Xi _ _ _,Xi _ _ _⟩
 clear e1 e2 e3
 have hz:=H0.drew
 go_region_held3 (fun w'=>HeldR w (w.heap.size+2) 38 [(w.heap.size,.bool (decide (x.num<0)),.slice Ax1 (digs Qa x.num.natAbs).length cx1,.slice Ax2 (digs Qa (Qo x.den)).length cx2),(w.heap.size+1,.bool (decide (y.num<0)),.slice Ay1 (digs Qa y.num.natAbs).length cy1,.slice Ay2 (digs Qa (Qo y.den)).length cy2)] w'∧w'.cell? ⟨w.heap.size,0,none⟩=some (.bool (decide (x.num<0)))∧w'.cell? ⟨w.heap.size,1,none⟩=some (.slice Ax1 (digs Qa x.num.natAbs).length cx1)∧w'.cell? ⟨w.heap.size,2,none⟩=some (.slice Ax2 (digs Qa (Qo x.den)).length cx2)∧w'.cell? ⟨w.heap.size+1,0,none⟩=some (.bool (decide (y.num<0)))∧w'.cell? ⟨w.heap.size+1,1,none⟩=some (.slice Ay1 (digs Qa y.num.natAbs).length cy1)∧w'.cell? ⟨w.heap.size+1,2,none⟩=some (.slice Ay2 (digs Qa (Qo y.den)).length cy2)∧w'.cell? ⟨w.heap.size+2,0,none⟩=some (cv w' ⟨w.heap.size+2,0,none⟩)∧w'.cell? ⟨w.heap.size+2,1,none⟩=some (cv w' ⟨w.heap.size+2,1,none⟩)∧w'.cell? ⟨w.heap.size+2,2,none⟩=some (cv w' ⟨w.heap.size+2,2,none⟩)∧w'.frozen? ⟨w.heap.size+2,0,none⟩=false∧w'.frozen? ⟨w.heap.size+2,1,none⟩=false∧w'.frozen? ⟨w.heap.size+2,2,none⟩=false)
  (first|exact hS _ hz|exact hS _ (HeldR.sets (by assumption) _ _ _ _ _ _ _))
  (first
   |(go_at_call 56; have hc:=neg_num _ _ y (hy.below hz.1); (with_reducible refine Calls.mono hc ?_); clear hc; rintro e wz ⟨vm,rfl,hm,hb⟩; have hz:=HeldR.call (by assumption) hb)
   |(go_at_call 62; have hc:=add_num _ _ _ x (-y) (hx.below hz.1) hm HB.out.1 HB.out.2.neg hjk; (with_reducible refine Calls.mono hc ?_); clear hc; rintro e wz ⟨vr,rfl,hrr,hb⟩; replace hrr:=isRat_of hrr HS.out; obtain⟨vrn,vrd,rfl,hrn,hrd⟩:=hrr; obtain⟨Ar1,cr1,rfl,_⟩:=id hrn; obtain⟨Ar2,cr2,rfl,_⟩:=id hrd; have hz:=HeldR.call (by assumption) hb))
 all_goals (
  go_wp2
  obtain⟨wf,HW,f0,f1,f2,hfin⟩:=hz.fin rfl hrn hrd
  (try rw[HW])
  (try simp only[Exit.inBlock,Exit.then])
  refine bodyPost_ret (by simp[results,Tryz.results76,go_sem,f0,f1,f2]; try rfl) rfl ?_
  first|exact hfin|exact hfin.drew)

theorem sub_num (w:World) (vx vy:Value) (x y:Rat) (hx:IsRat w vx x) (hy:IsRat w vy y) {j k:Nat} (hj:BdR j x) (hk:BdR k y) (hjk:j+k+j+k+1≤100000000):Calls Tryz.prog 33 #[vx,vy] w (RetRat w (x-y)):=by
 obtain⟨vx1,vx2,rfl,hxa,hxb⟩:=id hx
 obtain⟨Ax1,cx1,rfl,_⟩:=id hxa
 obtain⟨Ax2,cx2,rfl,_⟩:=id hxb
 obtain⟨vy1,vy2,rfl,hya,hyb⟩:=id hy
 obtain⟨Ay1,cy1,rfl,_⟩:=id hya
 obtain⟨Ay2,cy2,rfl,_⟩:=id hyb
 go_enter Tryz.func33,Tryz.ntmps33
 go_wp2_with fail
 obtain⟨w1,e1,o1,b1,s1⟩:=Js w (.bool (decide (x.num<0))) (.slice Ax1 (digs Qa x.num.natAbs).length cx1) (.slice Ax2 (digs Qa (Qo x.den)).length cx2) 38
 obtain⟨w2,e2,o2,b2,s2⟩:=Js w1 (.bool (decide (y.num<0))) (.slice Ay1 (digs Qa y.num.natAbs).length cy1) (.slice Ay2 (digs Qa (Qo y.den)).length cy2) 38
 obtain⟨w3,e3,o3,b3,s3⟩:=Js w2 (.bool false) (.slice none 0 0) (.slice none 0 0) 38
 rw[e1,e2,e3]
 rw[s1]at o2
 rw[s2,s1]at o3
 have p1:=((o1.gone b2).gone b3)
 have p2:=(o2.gone b3)
 have p3:=o3
 have B0:=((b1.trans (b2.mono b1.size)).trans (b3.mono (b1.trans (b2.mono b1.size)).size))
 have hS:∀w',HeldR w (w.heap.size+2) 38 [(w.heap.size,.bool (decide (x.num<0)),.slice Ax1 (digs Qa x.num.natAbs).length cx1,.slice Ax2 (digs Qa (Qo x.den)).length cx2),(w.heap.size+1,.bool (decide (y.num<0)),.slice Ay1 (digs Qa y.num.natAbs).length cy1,.slice Ay2 (digs Qa (Qo y.den)).length cy2)] w'→HeldR w (w.heap.size+2) 38 [(w.heap.size,.bool (decide (x.num<0)),.slice Ax1 (digs Qa x.num.natAbs).length cx1,.slice Ax2 (digs Qa (Qo x.den)).length cx2),(w.heap.size+1,.bool (decide (y.num<0)),.slice Ay1 (digs Qa y.num.natAbs).length cy1,.slice Ay2 (digs Qa (Qo y.den)).length cy2)] w'∧w'.cell? ⟨w.heap.size,0,none⟩=some (.bool (decide (x.num<0)))∧w'.cell? ⟨w.heap.size,1,none⟩=some (.slice Ax1 (digs Qa x.num.natAbs).length cx1)∧w'.cell? ⟨w.heap.size,2,none⟩=some (.slice Ax2 (digs Qa (Qo x.den)).length cx2)∧w'.cell? ⟨w.heap.size+1,0,none⟩=some (.bool (decide (y.num<0)))∧w'.cell? ⟨w.heap.size+1,1,none⟩=some (.slice Ay1 (digs Qa y.num.natAbs).length cy1)∧w'.cell? ⟨w.heap.size+1,2,none⟩=some (.slice Ay2 (digs Qa (Qo y.den)).length cy2)∧w'.cell? ⟨w.heap.size+2,0,none⟩=some (cv w' ⟨w.heap.size+2,0,none⟩)∧w'.cell? ⟨w.heap.size+2,1,none⟩=some (cv w' ⟨w.heap.size+2,1,none⟩)∧w'.cell? ⟨w.heap.size+2,2,none⟩=some (cv w' ⟨w.heap.size+2,2,none⟩)∧w'.frozen? ⟨w.heap.size+2,0,none⟩=false∧w'.frozen? ⟨w.heap.size+2,1,none⟩=false∧w'.frozen? ⟨w.heap.size+2,2,none⟩=false:=fun w' hh=>by
  obtain⟨f0,f1,f2,f3,f4,f5⟩:=hh.cells
  have q1:=(hh.2.2.1 (w.heap.size,.bool (decide (x.num<0)),.slice Ax1 (digs Qa x.num.natAbs).length cx1,.slice Ax2 (digs Qa (Qo x.den)).length cx2) (by simp)).2
  have q2:=(hh.2.2.1 (w.heap.size+1,.bool (decide (y.num<0)),.slice Ay1 (digs Qa y.num.natAbs).length cy1,.slice Ay2 (digs Qa (Qo y.den)).length cy2) (by simp)).2
  exact⟨hh,q1.c0,q1.c1,q1.c2,q2.c0,q2.c1,q2.c2,f0,f1,f2,f3,f4,f5⟩
 have H0:HeldR w (w.heap.size+2) 38 [(w.heap.size,.bool (decide (x.num<0)),.slice Ax1 (digs Qa x.num.natAbs).length cx1,.slice Ax2 (digs Qa (Qo x.den)).length cx2),(w.heap.size+1,.bool (decide (y.num<0)),.slice Ay1 (digs Qa y.num.natAbs).length cy1,.slice Ay2 (digs Qa (Qo y.den)).length cy2)] w3:=⟨B0,by omega,by intro p hp; simp at hp; rcases hp with rfl|rfl; exact⟨by simp,p1⟩; exact⟨by simp,p2⟩,_,_,_,p3,Y3 _,Xi _ _ _,Xi _ _ _⟩
 clear e1 e2 e3
 have hz:=H0
 obtain⟨_,k0,k1,k2,k3,k4,k5,_⟩:=hS _ hz
 refine(less_num _ _ _ x y (hx.below hz.1) (hy.below hz.1) hj hk hjk).mono ?_
 rintro e wz ⟨vr,rfl,hrr,hb⟩
 obtain⟨vrn,vrd,rfl,hrn,hrd⟩:=hrr
 obtain⟨Ar1,cr1,rfl,_⟩:=id hrn
 obtain⟨Ar2,cr2,rfl,_⟩:=id hrd
 have hz:=HeldR.call (And.intro hz trivial) hb
 clear k0 k1 k2 k3 k4 k5
 obtain⟨_,k0,k1,k2,k3,k4,k5,k6,k7,k8,k9,k10,k11⟩:=hS _ hz
 go_wp2
 obtain⟨wf,HW,f0,f1,f2,hfin⟩:=hz.fin rfl hrn hrd
 (try rw[HW])
 (try simp only[Exit.inBlock,Exit.then])
 refine bodyPost_ret (by simp[results,Tryz.results33,go_sem,f0,f1,f2]; try rfl) rfl ?_
 exact hfin
end Wx

namespace Wx
open Go Go.RowKit Go.Proofs

end Wx

namespace Wx
open Go Go.RowKit Go.Proofs

theorem bd_zero:BdR 1 (0:Rat):=⟨by show(0:Rat).num.natAbs<2^1; decide,by show(0:Rat).den<2^1; decide⟩
theorem BdR.sub_ {j k:Nat} {x y:Rat} (h:BdR j x) (g:BdR k y):BdR (j+k+j+k+1) (x-y):=by rw[Rat.sub_eq_add_neg]; exact h.add g.neg
theorem BdR.quo {j k:Nat} {x y:Rat} (h:BdR j x) (g:BdR k y):BdR (j+k) (x/y):=by
 by_cases hy:y=0
 ·rw[hy,Rat.div_def,Rat.inv_zero,Rat.mul_zero]
  have h2:x.den<2^j:=h.2
  have h3:=x.den_pos
  have hj:j≠0:=by rintro rfl; simp at h2; omega
  refine⟨?_,?_⟩
  ·show(0:Rat).num.natAbs<2^(j+k)
   exact Nat.two_pow_pos _
  ·show(0:Rat).den<2^(j+k)
   show 1<2^(j+k)
   exact Nat.one_lt_two_pow (by omega)
 ·exact h.div g (fun h=>hy ((Qal y).1 (by omega)))
theorem ret_is {w:World} {v:Value} {e:Ending} {w':World} (h:Jc w v e w'):Kb (Qi v) w e w':=⟨v,h.1,rfl,h.2⟩
theorem c_add {x y:Rat} {j k:Nat} (hx:BdR j x) (hy:BdR k y) (h:j+k+j+k+1≤100000000):∀w v1 v2,Qv x w v1→Qv y w v2→Calls Tryz.prog 62 #[v1,v2] w (Kb (Qv (x+y)) w):=
 fun w v1 v2 h1 h2=>add_num w v1 v2 x y h1 h2 hx hy h
theorem c_sub {x y:Rat} {j k:Nat} (hx:BdR j x) (hy:BdR k y) (h:j+k+j+k+1≤100000000):∀w v1 v2,Qv x w v1→Qv y w v2→Calls Tryz.prog 33 #[v1,v2] w (Kb (Qv (x-y)) w):=
 fun w v1 v2 h1 h2=>sub_num w v1 v2 x y h1 h2 hx hy h
theorem c_mul {x y:Rat} {j k:Nat} (hx:BdR j x) (hy:BdR k y) (h:j+k≤100000000):∀w v1 v2,Qv x w v1→Qv y w v2→Calls Tryz.prog 57 #[v1,v2] w (Kb (Qv (x*y)) w):=
 fun w v1 v2 h1 h2=>mul_num w v1 v2 x y h1 h2 hx hy h
theorem c_by {x y:Rat} {j k:Nat} (hx:BdR j x) (hy:BdR k y) (h:j+k≤100000000) (h0:y≠0):∀w v1 v2,Qv x w v1→Qv y w v2→Calls Tryz.prog 59 #[v1,v2] w (Kb (Qv (x/y)) w):=
 fun w v1 v2 h1 h2=>by_num w v1 v2 x y h1 h2 (fun h=>h0 ((Qal y).1 (by omega))) hx hy h
theorem c_zero (x:Rat):∀w v1,Qv x w v1→Calls Tryz.prog 81 #[v1] w (Kb (pB (decide (x=0))) w):=fun w v1 h1=>(zero_num w v1 x h1).mono fun _ _=>ret_is
theorem c_int (n:Int) (h1:-9223372036854775808≤n) (h2:n≤9223372036854775807):∀w v1,pI n w v1→Calls Tryz.prog 54 #[v1] w (Kb (Qv (n:Rat)) w):=fun w v1 h=>by
 have h:v1=.int .i64 n:=h
 rw[h]
 exact int_num w n h1 h2
theorem c_known1 {f:FuncId} {P:Program} {p1:Qg} {a b:Bool} (h:∀w v1,p1 w v1→Calls P f #[v1] w (Kb (pB a) w)) (e:a=b):∀w v1,p1 w v1→Calls P f #[v1] w (Kb (pB b) w):=e▸h
end Wx

namespace Wx
open Go Go.RowKit Go.Proofs

def Qk (l:List Rat):Qg:=Qc 3 true l.length fun i=>Qr (l.getD i 0)
theorem Zb (l:List Rat):J4 1 false (Qk l):=V3
theorem Qap {l:List Rat} {n:Nat} (h:l.length=n):Qk l=Qc 3 true n fun i=>Qr (l.getD i 0):=by
 subst h
 rfl
abbrev FD:=Int×Int×Unit
def Yr:FD:=(0,0,())
def qOf (p:FD):Rat:=ofR p.1 p.2.1
def Z9 (L:List FD):List Rat:=L.map qOf
def Ja (L:List (List FD)):List (List Rat):=L.map Z9
theorem Qet {L:List FD}:(Z9 L).length=L.length:=List.length_map ..
theorem W8 {L:List (List FD)}:(Ja L).length=L.length:=List.length_map ..
theorem lofs_get {L:List FD} {i:Nat} (h:i<L.length):(Z9 L).getD i 0=qOf (L.getD i Yr):=by
 unfold Z9
 rw[List.getD_eq_getElem?_getD,List.getElem?_map,List.getD_eq_getElem?_getD,List.getElem?_eq_getElem h]
 rfl
theorem Qew {L:List (List FD)} {i:Nat} (h:i<L.length):(Ja L).getD i []=Z9 (L.getD i []):=by
 unfold Ja
 rw[List.getD_eq_getElem?_getD,List.getElem?_map,List.getD_eq_getElem?_getD,List.getElem?_eq_getElem h]
 rfl
def FdOk (p:FD):Prop :=-9223372036854775808≤p.1∧p.1≤9223372036854775807∧p.2.1≤9223372036854775807
def lightE (p:FD):Bool:=!((decide (p.1>16777216)||decide (p.1 < -16777216))||decide (p.2.1>16777216))
def W6 (L:List FD):Bool:=L.all lightE
theorem bd_ofk {k:Nat} {n d:Int} (hn:n.natAbs<2^k) (hd:d<2^k) (hk:1≤k):BdR k (ofR n d):=by
 have h2:2^1≤2^k:=Nat.pow_le_pow_right (by omega) hk
 unfold ofR
 split
 ·exact⟨by unfold Bd; rw[Rat.num_intCast]; exact hn,by unfold Bd; rw[Rat.den_intCast]; omega⟩
 ·have hd':d.natAbs<2^k:=by
   have:((2^k:Nat):Int)=(2:Int)^k:=by simp
   omega
  unfold newR
  exact Un (by omega) hn hd'
theorem light_bd {p:FD} (h:lightE p=true):BdR 25 (qOf p):=by
 unfold lightE at h
 simp only[Bool.not_eq_true',Bool.or_eq_false_iff,decide_eq_false_iff_not]at h
 obtain⟨⟨h1,h2⟩,h3⟩:=h
 exact bd_ofk (by omega) (by omega) (by omega)
theorem light_bds {L:List FD} (h:W6 L=true) (k:Nat):BdR 25 ((Z9 L).getD k 0):=by
 rcases Nat.lt_or_ge k L.length with hk|hk
 ·rw[lofs_get hk]
  unfold W6 at h
  rw[List.all_eq_true]at h
  rw[List.getD_eq_getElem?_getD,List.getElem?_eq_getElem hk]
  exact light_bd (h _ (List.getElem_mem hk))
 ·rw[List.getD_eq_getElem?_getD,List.getElem?_eq_none (by rw[Qet]; exact hk)]
  exact bd_zero.mono (by omega)
def sideB (n:Nat):Bool:=((decide ((n:Int)>4)&&decide ((n:Int)≤8))||decide ((n:Int)>10))
def Qe8 (L:List FD):Bool:=!(sideB L.length||!(W6 L))
def Wo (L:List (List FD)):Bool:=!(sideB L.length)&&L.all Qe8
theorem all_true {α:Type} {L:List α} {d:α} {p:α→Bool} (h:∀i,i<L.length→p (L.getD i d)=true):L.all p=true:=by
 rw[List.all_eq_true]
 intro x hx
 obtain⟨i,hi⟩:=List.mem_iff_getElem?.1 hx
 have hlt:i<L.length:=by
  rcases Nat.lt_or_ge i L.length with h'|h'
  ·exact h'
  ·rw[List.getElem?_eq_none h']at hi; cases hi
 have:=h i hlt
 rw[List.getD_eq_getElem?_getD,hi]at this
 exact this
theorem all_false {α:Type} {L:List α} {d:α} {p:α→Bool} {i:Nat} (hi:i<L.length) (h:p (L.getD i d)=false):L.all p=false:=by
 rw[List.all_eq_false]
 refine⟨L[i],List.getElem_mem hi,?_⟩
 rw[List.getD_eq_getElem?_getD,List.getElem?_eq_getElem hi]at h
 have h:p L[i]=false:=h
 rw[h]
 simp
theorem cn_ofk {n d:Int} {x:Rat} (e:x=ofR n d) (h1:-9223372036854775808≤n) (h2:n≤9223372036854775807) (h3:d≤9223372036854775807):∀w v1,Y6 n d w v1→Calls Tryz.prog 47 #[v1] w (Kb (Qr x) w):=fun w v1 h=>by
 rw[pFrac_eq h,e]
 exact nof_num w n d h1 h2 h3
end Wx

namespace Wx
open Go Go.RowKit Go.Proofs

theorem getD_mem {α:Type} {l:List α} {i:Nat} {d:α} (h:i<l.length):l.getD i d∈l:=by
 rw[List.getD_eq_getElem?_getD,List.getElem?_eq_getElem h]
 exact List.getElem_mem h
theorem fd_ok {p:FD} (h1:(Lit.int .i64 p.1).wf=true) (h2:(Lit.int .i64 p.2.1).wf=true):FdOk p:=⟨(wf_i64 h1).1,(wf_i64 h1).2,(wf_i64 h2).2⟩
end Wx
