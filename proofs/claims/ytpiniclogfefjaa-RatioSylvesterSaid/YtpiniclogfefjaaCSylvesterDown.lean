import Derived.Test.YtpiniclogfefjaaJSylvester16
namespace Wx
set_option maxRecDepth 100000
open Go Go.RowKit Go.Proofs

def Z0 (k:Int):Nat:=(min (max k 0) 256).toNat
theorem Qcg (k:Int):min (max k 0) 256=((Z0 k:Nat):Int)∧Z0 k≤256:=by unfold Z0; omega
def downQ (x:Rat) (k:Int):Nat:=x.num.natAbs*2^Z0 k/x.den+(if x.num<0∧0<x.num.natAbs*2^Z0 k%x.den then 1 else 0)
def Vn (x:Rat) (k:Int):Rat:=Yn (decide (x.num<0)) (downQ x k) (2^Z0 k)
set_option maxHeartbeats 8000000 in
theorem down_a (w:World) (vx:Value) (x:Rat) (k:Int) (hx:IsRat w vx x) {j:Nat} (hj:BdR j x) (hjk:j≤10000000) (hn:x.num<0) (hr:0<x.num.natAbs*2^Z0 k%x.den):Calls Try.prog 58 #[vx,.int .i64 k] w (RetRat w (Vn x k)):=by
 obtain⟨vx1,vx2,rfl,hxa,hxb⟩:=id hx
 obtain⟨Ax1,cx1,rfl,_⟩:=id hxa
 obtain⟨Ax2,cx2,rfl,_⟩:=id hxb
 obtain⟨hk1,hk2⟩:=Qcg k
 have hq:downQ x k=x.num.natAbs*2^Z0 k/x.den+1:=by
  unfold downQ
  rw[if_pos ⟨hn,hr⟩]
 have hf:decide (x.num<0)=true:=decide_eq_true hn
 have hd:Vn x k=Yn true (x.num.natAbs*2^Z0 k/x.den+1) (2^Z0 k):=by unfold Vn; rw[hq,hf]
 have HDN:=bx hd
 have hdx:=x.den_pos
 generalize Z0 k=K at *
 have b0:Bd 257 (2^K):=Bd.pow2 (by omega)
 have b1:Bd (j+257) (x.num.natAbs*2^K):=hj.1.mul b0
 have b2:Bd (j+257) (x.num.natAbs*2^K/x.den):=b1.le (Nat.div_le_self _ _)
 have b3:Bd (j+259) (x.num.natAbs*2^K/x.den+1):=(b2.add (show Bd 1 1 by unfold Bd; omega)).mono (by omega)
 have HB:=bx (And.intro hj (And.intro b0 (And.intro b1 (And.intro b2 b3))))
 have HK:=bx hk1
 have HK2:=bx hk2
 have hjj:j+257≤100000000:=by omega
 have hjj2:j+257≤1000000000:=by omega
 have hjj3:j+259≤100000000:=by omega
 have hj9:j≤1000000000:=by omega
 have HP:Bx (0<2^K):=bx (Nat.two_pow_pos K)
 have HR:Bx ((0:Int)<((digs Qb (x.num.natAbs*2^K%x.den)).length:Int)):=bx (by have:=(Yb (n:=x.num.natAbs*2^K%x.den) Qv).2 hr; omega)
 rw[hf]at *
 clear b0 b1 b2 b3 hk1 hk2 hd hq hj hf hn hr
 go_enter Try.func58,Try.ntmps58
 go_wp2_with fail
 rw[HK.out]
 obtain⟨w1,e1,o1,b1,s1⟩:=Yz w (.bool true) (.slice Ax1 (digs Qb x.num.natAbs).length cx1) (.slice Ax2 (digs Qb (Qm x.den)).length cx2) 32
 obtain⟨w2,e2,o2,b2,s2⟩:=Yz w1 (.bool false) (.slice none 0 0) (.slice none 0 0) 32
 rw[e1,e2]
 rw[s1]at o2
 have p1:=(o1.gone b2)
 have p2:=o2
 have B0:=(b1.trans (b2.mono b1.size))
 have hS:∀w',HeldR w (w.heap.size+1) 32 [(w.heap.size,.bool true,.slice Ax1 (digs Qb x.num.natAbs).length cx1,.slice Ax2 (digs Qb (Qm x.den)).length cx2)] w'→HeldR w (w.heap.size+1) 32 [(w.heap.size,.bool true,.slice Ax1 (digs Qb x.num.natAbs).length cx1,.slice Ax2 (digs Qb (Qm x.den)).length cx2)] w'∧w'.cell? ⟨w.heap.size,0,none⟩=some (.bool true)∧w'.cell? ⟨w.heap.size,1,none⟩=some (.slice Ax1 (digs Qb x.num.natAbs).length cx1)∧w'.cell? ⟨w.heap.size,2,none⟩=some (.slice Ax2 (digs Qb (Qm x.den)).length cx2)∧w'.cell? ⟨w.heap.size+1,0,none⟩=some (cv w' ⟨w.heap.size+1,0,none⟩)∧w'.cell? ⟨w.heap.size+1,1,none⟩=some (cv w' ⟨w.heap.size+1,1,none⟩)∧w'.cell? ⟨w.heap.size+1,2,none⟩=some (cv w' ⟨w.heap.size+1,2,none⟩)∧w'.frozen? ⟨w.heap.size+1,0,none⟩=false∧w'.frozen? ⟨w.heap.size+1,1,none⟩=false∧w'.frozen? ⟨w.heap.size+1,2,none⟩=false:=fun w' hh=>by
  obtain⟨f0,f1,f2,f3,f4,f5⟩:=hh.cells
  have q1:=(hh.2.2.1 (w.heap.size,.bool true,.slice Ax1 (digs Qb x.num.natAbs).length cx1,.slice Ax2 (digs Qb (Qm x.den)).length cx2) (by simp)).2
  exact⟨hh,q1.c0,q1.c1,q1.c2,f0,f1,f2,f3,f4,f5⟩
 have H0:HeldR w (w.heap.size+1) 32 [(w.heap.size,.bool true,.slice Ax1 (digs Qb x.num.natAbs).length cx1,.slice Ax2 (digs Qb (Qm x.den)).length cx2)] w2:=⟨B0,by omega,by intro p hp; simp at hp; subst hp; exact⟨by simp,p1⟩,_,_,_,p2,Yw _,Q7 _ _ _,Q7 _ _ _⟩
 clear e1 e2
 have hz:=H0.drew
 go_region_held3 (fun w'=>HeldR w (w.heap.size+1) 32 [(w.heap.size,.bool true,.slice Ax1 (digs Qb x.num.natAbs).length cx1,.slice Ax2 (digs Qb (Qm x.den)).length cx2)] w'∧w'.cell? ⟨w.heap.size,0,none⟩=some (.bool true)∧w'.cell? ⟨w.heap.size,1,none⟩=some (.slice Ax1 (digs Qb x.num.natAbs).length cx1)∧w'.cell? ⟨w.heap.size,2,none⟩=some (.slice Ax2 (digs Qb (Qm x.den)).length cx2)∧w'.cell? ⟨w.heap.size+1,0,none⟩=some (cv w' ⟨w.heap.size+1,0,none⟩)∧w'.cell? ⟨w.heap.size+1,1,none⟩=some (cv w' ⟨w.heap.size+1,1,none⟩)∧w'.cell? ⟨w.heap.size+1,2,none⟩=some (cv w' ⟨w.heap.size+1,2,none⟩)∧w'.frozen? ⟨w.heap.size+1,0,none⟩=false∧w'.frozen? ⟨w.heap.size+1,1,none⟩=false∧w'.frozen? ⟨w.heap.size+1,2,none⟩=false)
  (first|exact hS _ hz|exact hS _ (HeldR.sets (by assumption) _ _ _ _ _ _ _))
  (first
   |(go_at_call 79; have hc:=W6 _ _ x.num.natAbs K (hxa.below hz.1) HB.out.1.1 hj9 (Nat.le_trans HK2.out (by omega)); (with_reducible refine Calls.mono hc ?_); clear hc; rintro e wz ⟨vl,rfl,hl,hb⟩; (try have hux:=hux.below hb); (try have hl:=hl.below hb); (try have hq:=hq.below hb); (try have hr:=hr.below hb); (try have hp:=hp.below hb); (try have ho:=ho.below hb); have hz:=HeldR.call (by assumption) hb)
   |(go_at_call 40; have hc:=Wc _ _ x.den (hxb.below hz.1) hdx; (with_reducible refine Calls.mono hc ?_); clear hc; rintro e wz ⟨vu,rfl,hux,hb⟩; (try have hux:=hux.below hb); (try have hl:=hl.below hb); (try have hq:=hq.below hb); (try have hr:=hr.below hb); (try have hp:=hp.below hb); (try have ho:=ho.below hb); have hz:=HeldR.call (by assumption) hb)
   |(go_at_call 64; have hc:=J7 _ _ _ _ _ hl hux hdx HB.out.2.2.1 hjj; (with_reducible refine Calls.mono hc ?_); clear hc; rintro e wz ⟨vq,vr,rfl,hq,hr,hb⟩; (try have hux:=hux.below hb); (try have hl:=hl.below hb); (try have hq:=hq.below hb); (try have hr:=hr.below hb); (try have hp:=hp.below hb); (try have ho:=ho.below hb); have hz:=HeldR.call (by assumption) hb))
 all_goals (
  obtain⟨Ar,cr,rfl,_⟩:=id hr
  have HL:(0:Int)<((digs Qb (x.num.natAbs*2^K%x.den)).length:Int):=HR.out
  obtain⟨_,k0,k1,k2,k3,k4,k5,_⟩:=hS _ hz
  go_wp2_with fail
  refine(Ki _ 1 (by unfold Qb; omega)).mono ?_
  rintro e wz ⟨vo,rfl,ho,hb⟩
  have hq:=hq.below hb
  have hz:=HeldR.call (And.intro hz trivial) hb
  clear k0 k1 k2 k3 k4 k5
  obtain⟨_,k0,k1,k2,k3,k4,k5,_⟩:=hS _ hz
  go_wp2_with fail
  refine(plus_num _ _ _ _ _ hq ho HB.out.2.2.2.1 (show Bd 1 1 by unfold Bd; omega) hjj2 (by omega)).mono ?_
  rintro e wz ⟨vp,rfl,hq,hb⟩
  have hz:=HeldR.call (And.intro hz trivial) hb
  clear k0 k1 k2 k3 k4 k5
  obtain⟨_,k0,k1,k2,k3,k4,k5,_⟩:=hS _ hz
  go_wp2_with fail
  clear k0 k1 k2 k3 k4 k5
  have hz:=hz.drew
  have hq:=hq.drew
  go_region_held3 (fun w'=>HeldR w (w.heap.size+1) 32 [(w.heap.size,.bool true,.slice Ax1 (digs Qb x.num.natAbs).length cx1,.slice Ax2 (digs Qb (Qm x.den)).length cx2)] w'∧w'.cell? ⟨w.heap.size,0,none⟩=some (.bool true)∧w'.cell? ⟨w.heap.size,1,none⟩=some (.slice Ax1 (digs Qb x.num.natAbs).length cx1)∧w'.cell? ⟨w.heap.size,2,none⟩=some (.slice Ax2 (digs Qb (Qm x.den)).length cx2)∧w'.cell? ⟨w.heap.size+1,0,none⟩=some (cv w' ⟨w.heap.size+1,0,none⟩)∧w'.cell? ⟨w.heap.size+1,1,none⟩=some (cv w' ⟨w.heap.size+1,1,none⟩)∧w'.cell? ⟨w.heap.size+1,2,none⟩=some (cv w' ⟨w.heap.size+1,2,none⟩)∧w'.frozen? ⟨w.heap.size+1,0,none⟩=false∧w'.frozen? ⟨w.heap.size+1,1,none⟩=false∧w'.frozen? ⟨w.heap.size+1,2,none⟩=false)
   (first|exact hS _ hz|exact hS _ (HeldR.sets (by assumption) _ _ _ _ _ _ _))
   (first
    |(go_at_call 59; refine Calls.mono (Ki _ 1 (by unfold Qb; omega)) ?_; rintro e wz ⟨vo1,rfl,ho,hb⟩; have hq:=hq.below hb; have hz:=HeldR.call (by assumption) hb)
    |(go_at_call 79; have hc:=W6 _ _ 1 K ho (show Bd 1 1 by unfold Bd; omega) (by omega) (Nat.le_trans HK2.out (by omega)); (with_reducible refine Calls.mono hc ?_); clear hc; rintro e wz ⟨vp,rfl,hp,hb⟩; (try have hux:=hux.below hb); (try have hl:=hl.below hb); (try have hq:=hq.below hb); (try have hr:=hr.below hb); (try have hp:=hp.below hb); (try have ho:=ho.below hb); have hz:=HeldR.call (by assumption) hb)
    |(go_at_call 38; have hc:=Jx _ (true) _ _ _ _ hq hp (by rw[Nat.one_mul]; exact HP.out) HB.out.2.2.2.2 (by rw[Nat.one_mul]; exact HB.out.2.1.mono (by omega)) hjj3; (with_reducible refine Calls.mono hc ?_); clear hc; rintro e wz ⟨vr2,rfl,hrr,hb⟩; rw[Nat.one_mul,← HDN.out]at hrr; obtain⟨vrn,vrd,rfl,hrn,hrd⟩:=hrr; obtain⟨Ar1,cr1,rfl,_⟩:=id hrn; obtain⟨Ar2,cr2,rfl,_⟩:=id hrd; (try have hux:=hux.below hb); (try have hl:=hl.below hb); (try have hq:=hq.below hb); (try have hr:=hr.below hb); (try have hp:=hp.below hb); (try have ho:=ho.below hb); have hz:=HeldR.call (by assumption) hb))
  all_goals (
   go_wp2
   obtain⟨wf,HW,f0,f1,f2,hfin⟩:=hz.fin rfl hrn hrd
   (try rw[HW])
   (try simp only[Exit.inBlock,Exit.then])
   refine bodyPost_ret (by simp[results,Try.results58,go_sem,f0,f1,f2]; try rfl) rfl ?_
   first|exact hfin|exact hfin.drew))
set_option maxHeartbeats 8000000 in
theorem down_b (w:World) (vx:Value) (x:Rat) (k:Int) (hx:IsRat w vx x) {j:Nat} (hj:BdR j x) (hjk:j≤10000000) (hn:x.num<0) (hr:¬0<x.num.natAbs*2^Z0 k%x.den):Calls Try.prog 58 #[vx,.int .i64 k] w (RetRat w (Vn x k)):=by
 obtain⟨vx1,vx2,rfl,hxa,hxb⟩:=id hx
 obtain⟨Ax1,cx1,rfl,_⟩:=id hxa
 obtain⟨Ax2,cx2,rfl,_⟩:=id hxb
 obtain⟨hk1,hk2⟩:=Qcg k
 have hq:downQ x k=x.num.natAbs*2^Z0 k/x.den:=by
  unfold downQ
  rw[if_neg (fun h=>hr h.2),Nat.add_zero]
 have hf:decide (x.num<0)=true:=decide_eq_true hn
 have hd:Vn x k=Yn true (x.num.natAbs*2^Z0 k/x.den) (2^Z0 k):=by unfold Vn; rw[hq,hf]
 have HDN:=bx hd
 have hdx:=x.den_pos
 generalize Z0 k=K at *
 have b0:Bd 257 (2^K):=Bd.pow2 (by omega)
 have b1:Bd (j+257) (x.num.natAbs*2^K):=hj.1.mul b0
 have b2:Bd (j+257) (x.num.natAbs*2^K/x.den):=b1.le (Nat.div_le_self _ _)
 have b3:Bd (j+259) (x.num.natAbs*2^K/x.den):=b2.mono (by omega)
 have HB:=bx (And.intro hj (And.intro b0 (And.intro b1 (And.intro b2 b3))))
 have HK:=bx hk1
 have HK2:=bx hk2
 have hjj:j+257≤100000000:=by omega
 have hjj2:j+257≤1000000000:=by omega
 have hjj3:j+259≤100000000:=by omega
 have hj9:j≤1000000000:=by omega
 have HP:Bx (0<2^K):=bx (Nat.two_pow_pos K)
 have HR:Bx (x.num.natAbs*2^K%x.den=0):=bx (by omega)
 rw[hf]at *
 clear b0 b1 b2 b3 hk1 hk2 hd hq hj hf hn hr
 go_enter Try.func58,Try.ntmps58
 go_wp2_with fail
 rw[HK.out]
 obtain⟨w1,e1,o1,b1,s1⟩:=Yz w (.bool true) (.slice Ax1 (digs Qb x.num.natAbs).length cx1) (.slice Ax2 (digs Qb (Qm x.den)).length cx2) 32
 obtain⟨w2,e2,o2,b2,s2⟩:=Yz w1 (.bool false) (.slice none 0 0) (.slice none 0 0) 32
 rw[e1,e2]
 rw[s1]at o2
 have p1:=(o1.gone b2)
 have p2:=o2
 have B0:=(b1.trans (b2.mono b1.size))
 have hS:∀w',HeldR w (w.heap.size+1) 32 [(w.heap.size,.bool true,.slice Ax1 (digs Qb x.num.natAbs).length cx1,.slice Ax2 (digs Qb (Qm x.den)).length cx2)] w'→HeldR w (w.heap.size+1) 32 [(w.heap.size,.bool true,.slice Ax1 (digs Qb x.num.natAbs).length cx1,.slice Ax2 (digs Qb (Qm x.den)).length cx2)] w'∧w'.cell? ⟨w.heap.size,0,none⟩=some (.bool true)∧w'.cell? ⟨w.heap.size,1,none⟩=some (.slice Ax1 (digs Qb x.num.natAbs).length cx1)∧w'.cell? ⟨w.heap.size,2,none⟩=some (.slice Ax2 (digs Qb (Qm x.den)).length cx2)∧w'.cell? ⟨w.heap.size+1,0,none⟩=some (cv w' ⟨w.heap.size+1,0,none⟩)∧w'.cell? ⟨w.heap.size+1,1,none⟩=some (cv w' ⟨w.heap.size+1,1,none⟩)∧w'.cell? ⟨w.heap.size+1,2,none⟩=some (cv w' ⟨w.heap.size+1,2,none⟩)∧w'.frozen? ⟨w.heap.size+1,0,none⟩=false∧w'.frozen? ⟨w.heap.size+1,1,none⟩=false∧w'.frozen? ⟨w.heap.size+1,2,none⟩=false:=fun w' hh=>by
  obtain⟨f0,f1,f2,f3,f4,f5⟩:=hh.cells
  have q1:=(hh.2.2.1 (w.heap.size,.bool true,.slice Ax1 (digs Qb x.num.natAbs).length cx1,.slice Ax2 (digs Qb (Qm x.den)).length cx2) (by simp)).2
  exact⟨hh,q1.c0,q1.c1,q1.c2,f0,f1,f2,f3,f4,f5⟩
 have H0:HeldR w (w.heap.size+1) 32 [(w.heap.size,.bool true,.slice Ax1 (digs Qb x.num.natAbs).length cx1,.slice Ax2 (digs Qb (Qm x.den)).length cx2)] w2:=⟨B0,by omega,by intro p hp; simp at hp; subst hp; exact⟨by simp,p1⟩,_,_,_,p2,Yw _,Q7 _ _ _,Q7 _ _ _⟩
 clear e1 e2
 have hz:=H0.drew
 go_region_held3 (fun w'=>HeldR w (w.heap.size+1) 32 [(w.heap.size,.bool true,.slice Ax1 (digs Qb x.num.natAbs).length cx1,.slice Ax2 (digs Qb (Qm x.den)).length cx2)] w'∧w'.cell? ⟨w.heap.size,0,none⟩=some (.bool true)∧w'.cell? ⟨w.heap.size,1,none⟩=some (.slice Ax1 (digs Qb x.num.natAbs).length cx1)∧w'.cell? ⟨w.heap.size,2,none⟩=some (.slice Ax2 (digs Qb (Qm x.den)).length cx2)∧w'.cell? ⟨w.heap.size+1,0,none⟩=some (cv w' ⟨w.heap.size+1,0,none⟩)∧w'.cell? ⟨w.heap.size+1,1,none⟩=some (cv w' ⟨w.heap.size+1,1,none⟩)∧w'.cell? ⟨w.heap.size+1,2,none⟩=some (cv w' ⟨w.heap.size+1,2,none⟩)∧w'.frozen? ⟨w.heap.size+1,0,none⟩=false∧w'.frozen? ⟨w.heap.size+1,1,none⟩=false∧w'.frozen? ⟨w.heap.size+1,2,none⟩=false)
  (first|exact hS _ hz|exact hS _ (HeldR.sets (by assumption) _ _ _ _ _ _ _))
  (first
   |(go_at_call 79; have hc:=W6 _ _ x.num.natAbs K (hxa.below hz.1) HB.out.1.1 hj9 (Nat.le_trans HK2.out (by omega)); (with_reducible refine Calls.mono hc ?_); clear hc; rintro e wz ⟨vl,rfl,hl,hb⟩; (try have hux:=hux.below hb); (try have hl:=hl.below hb); (try have hq:=hq.below hb); (try have hr:=hr.below hb); (try have hp:=hp.below hb); (try have ho:=ho.below hb); have hz:=HeldR.call (by assumption) hb)
   |(go_at_call 40; have hc:=Wc _ _ x.den (hxb.below hz.1) hdx; (with_reducible refine Calls.mono hc ?_); clear hc; rintro e wz ⟨vu,rfl,hux,hb⟩; (try have hux:=hux.below hb); (try have hl:=hl.below hb); (try have hq:=hq.below hb); (try have hr:=hr.below hb); (try have hp:=hp.below hb); (try have ho:=ho.below hb); have hz:=HeldR.call (by assumption) hb)
   |(go_at_call 64; have hc:=J7 _ _ _ _ _ hl hux hdx HB.out.2.2.1 hjj; (with_reducible refine Calls.mono hc ?_); clear hc; rintro e wz ⟨vq,vr,rfl,hq,hr,hb⟩; (try have hux:=hux.below hb); (try have hl:=hl.below hb); (try have hq:=hq.below hb); (try have hr:=hr.below hb); (try have hp:=hp.below hb); (try have ho:=ho.below hb); have hz:=HeldR.call (by assumption) hb))
 all_goals (
  obtain⟨Ar,cr,rfl,_⟩:=id hr
  have HL:(digs Qb (x.num.natAbs*2^K%x.den)).length=0:=by rw[HR.out]; rfl
  obtain⟨_,k0,k1,k2,k3,k4,k5,_⟩:=hS _ hz
  go_wp2_with fail
  clear k0 k1 k2 k3 k4 k5
  have hz:=hz.drew
  have hq:=hq.drew
  go_region_held3 (fun w'=>HeldR w (w.heap.size+1) 32 [(w.heap.size,.bool true,.slice Ax1 (digs Qb x.num.natAbs).length cx1,.slice Ax2 (digs Qb (Qm x.den)).length cx2)] w'∧w'.cell? ⟨w.heap.size,0,none⟩=some (.bool true)∧w'.cell? ⟨w.heap.size,1,none⟩=some (.slice Ax1 (digs Qb x.num.natAbs).length cx1)∧w'.cell? ⟨w.heap.size,2,none⟩=some (.slice Ax2 (digs Qb (Qm x.den)).length cx2)∧w'.cell? ⟨w.heap.size+1,0,none⟩=some (cv w' ⟨w.heap.size+1,0,none⟩)∧w'.cell? ⟨w.heap.size+1,1,none⟩=some (cv w' ⟨w.heap.size+1,1,none⟩)∧w'.cell? ⟨w.heap.size+1,2,none⟩=some (cv w' ⟨w.heap.size+1,2,none⟩)∧w'.frozen? ⟨w.heap.size+1,0,none⟩=false∧w'.frozen? ⟨w.heap.size+1,1,none⟩=false∧w'.frozen? ⟨w.heap.size+1,2,none⟩=false)
   (first|exact hS _ hz|exact hS _ (HeldR.sets (by assumption) _ _ _ _ _ _ _))
   (first
    |(go_at_call 59; refine Calls.mono (Ki _ 1 (by unfold Qb; omega)) ?_; rintro e wz ⟨vo1,rfl,ho,hb⟩; have hq:=hq.below hb; have hz:=HeldR.call (by assumption) hb)
    |(go_at_call 79; have hc:=W6 _ _ 1 K ho (show Bd 1 1 by unfold Bd; omega) (by omega) (Nat.le_trans HK2.out (by omega)); (with_reducible refine Calls.mono hc ?_); clear hc; rintro e wz ⟨vp,rfl,hp,hb⟩; (try have hux:=hux.below hb); (try have hl:=hl.below hb); (try have hq:=hq.below hb); (try have hr:=hr.below hb); (try have hp:=hp.below hb); (try have ho:=ho.below hb); have hz:=HeldR.call (by assumption) hb)
    |(go_at_call 38; have hc:=Jx _ (true) _ _ _ _ hq hp (by rw[Nat.one_mul]; exact HP.out) HB.out.2.2.2.2 (by rw[Nat.one_mul]; exact HB.out.2.1.mono (by omega)) hjj3; (with_reducible refine Calls.mono hc ?_); clear hc; rintro e wz ⟨vr2,rfl,hrr,hb⟩; rw[Nat.one_mul,← HDN.out]at hrr; obtain⟨vrn,vrd,rfl,hrn,hrd⟩:=hrr; obtain⟨Ar1,cr1,rfl,_⟩:=id hrn; obtain⟨Ar2,cr2,rfl,_⟩:=id hrd; (try have hux:=hux.below hb); (try have hl:=hl.below hb); (try have hq:=hq.below hb); (try have hr:=hr.below hb); (try have hp:=hp.below hb); (try have ho:=ho.below hb); have hz:=HeldR.call (by assumption) hb))
  all_goals (
   go_wp2
   obtain⟨wf,HW,f0,f1,f2,hfin⟩:=hz.fin rfl hrn hrd
   (try rw[HW])
   (try simp only[Exit.inBlock,Exit.then])
   refine bodyPost_ret (by simp[results,Try.results58,go_sem,f0,f1,f2]; try rfl) rfl ?_
   first|exact hfin|exact hfin.drew))
set_option maxHeartbeats 8000000 in
theorem down_c (w:World) (vx:Value) (x:Rat) (k:Int) (hx:IsRat w vx x) {j:Nat} (hj:BdR j x) (hjk:j≤10000000) (hn:¬x.num<0):Calls Try.prog 58 #[vx,.int .i64 k] w (RetRat w (Vn x k)):=by
 obtain⟨vx1,vx2,rfl,hxa,hxb⟩:=id hx
 obtain⟨Ax1,cx1,rfl,_⟩:=id hxa
 obtain⟨Ax2,cx2,rfl,_⟩:=id hxb
 obtain⟨hk1,hk2⟩:=Qcg k
 have hq:downQ x k=x.num.natAbs*2^Z0 k/x.den:=by
  unfold downQ
  rw[if_neg (fun h=>hn h.1),Nat.add_zero]
 have hf:decide (x.num<0)=false:=decide_eq_false hn
 have hd:Vn x k=Yn false (x.num.natAbs*2^Z0 k/x.den) (2^Z0 k):=by unfold Vn; rw[hq,hf]
 have HDN:=bx hd
 have hdx:=x.den_pos
 generalize Z0 k=K at *
 have b0:Bd 257 (2^K):=Bd.pow2 (by omega)
 have b1:Bd (j+257) (x.num.natAbs*2^K):=hj.1.mul b0
 have b2:Bd (j+257) (x.num.natAbs*2^K/x.den):=b1.le (Nat.div_le_self _ _)
 have b3:Bd (j+259) (x.num.natAbs*2^K/x.den):=b2.mono (by omega)
 have HB:=bx (And.intro hj (And.intro b0 (And.intro b1 (And.intro b2 b3))))
 have HK:=bx hk1
 have HK2:=bx hk2
 have hjj:j+257≤100000000:=by omega
 have hjj2:j+257≤1000000000:=by omega
 have hjj3:j+259≤100000000:=by omega
 have hj9:j≤1000000000:=by omega
 have HP:Bx (0<2^K):=bx (Nat.two_pow_pos K)
 rw[hf]at *
 clear b0 b1 b2 b3 hk1 hk2 hd hq hj hf hn
 go_enter Try.func58,Try.ntmps58
 go_wp2_with fail
 rw[HK.out]
 obtain⟨w1,e1,o1,b1,s1⟩:=Yz w (.bool false) (.slice Ax1 (digs Qb x.num.natAbs).length cx1) (.slice Ax2 (digs Qb (Qm x.den)).length cx2) 32
 obtain⟨w2,e2,o2,b2,s2⟩:=Yz w1 (.bool false) (.slice none 0 0) (.slice none 0 0) 32
 rw[e1,e2]
 rw[s1]at o2
 have p1:=(o1.gone b2)
 have p2:=o2
 have B0:=(b1.trans (b2.mono b1.size))
 have hS:∀w',HeldR w (w.heap.size+1) 32 [(w.heap.size,.bool false,.slice Ax1 (digs Qb x.num.natAbs).length cx1,.slice Ax2 (digs Qb (Qm x.den)).length cx2)] w'→HeldR w (w.heap.size+1) 32 [(w.heap.size,.bool false,.slice Ax1 (digs Qb x.num.natAbs).length cx1,.slice Ax2 (digs Qb (Qm x.den)).length cx2)] w'∧w'.cell? ⟨w.heap.size,0,none⟩=some (.bool false)∧w'.cell? ⟨w.heap.size,1,none⟩=some (.slice Ax1 (digs Qb x.num.natAbs).length cx1)∧w'.cell? ⟨w.heap.size,2,none⟩=some (.slice Ax2 (digs Qb (Qm x.den)).length cx2)∧w'.cell? ⟨w.heap.size+1,0,none⟩=some (cv w' ⟨w.heap.size+1,0,none⟩)∧w'.cell? ⟨w.heap.size+1,1,none⟩=some (cv w' ⟨w.heap.size+1,1,none⟩)∧w'.cell? ⟨w.heap.size+1,2,none⟩=some (cv w' ⟨w.heap.size+1,2,none⟩)∧w'.frozen? ⟨w.heap.size+1,0,none⟩=false∧w'.frozen? ⟨w.heap.size+1,1,none⟩=false∧w'.frozen? ⟨w.heap.size+1,2,none⟩=false:=fun w' hh=>by
  obtain⟨f0,f1,f2,f3,f4,f5⟩:=hh.cells
  have q1:=(hh.2.2.1 (w.heap.size,.bool false,.slice Ax1 (digs Qb x.num.natAbs).length cx1,.slice Ax2 (digs Qb (Qm x.den)).length cx2) (by simp)).2
  exact⟨hh,q1.c0,q1.c1,q1.c2,f0,f1,f2,f3,f4,f5⟩
 have H0:HeldR w (w.heap.size+1) 32 [(w.heap.size,.bool false,.slice Ax1 (digs Qb x.num.natAbs).length cx1,.slice Ax2 (digs Qb (Qm x.den)).length cx2)] w2:=⟨B0,by omega,by intro p hp; simp at hp; subst hp; exact⟨by simp,p1⟩,_,_,_,p2,Yw _,Q7 _ _ _,Q7 _ _ _⟩
 clear e1 e2
 have hz:=H0.drew
 go_region_held3 (fun w'=>HeldR w (w.heap.size+1) 32 [(w.heap.size,.bool false,.slice Ax1 (digs Qb x.num.natAbs).length cx1,.slice Ax2 (digs Qb (Qm x.den)).length cx2)] w'∧w'.cell? ⟨w.heap.size,0,none⟩=some (.bool false)∧w'.cell? ⟨w.heap.size,1,none⟩=some (.slice Ax1 (digs Qb x.num.natAbs).length cx1)∧w'.cell? ⟨w.heap.size,2,none⟩=some (.slice Ax2 (digs Qb (Qm x.den)).length cx2)∧w'.cell? ⟨w.heap.size+1,0,none⟩=some (cv w' ⟨w.heap.size+1,0,none⟩)∧w'.cell? ⟨w.heap.size+1,1,none⟩=some (cv w' ⟨w.heap.size+1,1,none⟩)∧w'.cell? ⟨w.heap.size+1,2,none⟩=some (cv w' ⟨w.heap.size+1,2,none⟩)∧w'.frozen? ⟨w.heap.size+1,0,none⟩=false∧w'.frozen? ⟨w.heap.size+1,1,none⟩=false∧w'.frozen? ⟨w.heap.size+1,2,none⟩=false)
  (first|exact hS _ hz|exact hS _ (HeldR.sets (by assumption) _ _ _ _ _ _ _))
  (first
   |(go_at_call 79; have hc:=W6 _ _ x.num.natAbs K (hxa.below hz.1) HB.out.1.1 hj9 (Nat.le_trans HK2.out (by omega)); (with_reducible refine Calls.mono hc ?_); clear hc; rintro e wz ⟨vl,rfl,hl,hb⟩; (try have hux:=hux.below hb); (try have hl:=hl.below hb); (try have hq:=hq.below hb); (try have hr:=hr.below hb); (try have hp:=hp.below hb); (try have ho:=ho.below hb); have hz:=HeldR.call (by assumption) hb)
   |(go_at_call 40; have hc:=Wc _ _ x.den (hxb.below hz.1) hdx; (with_reducible refine Calls.mono hc ?_); clear hc; rintro e wz ⟨vu,rfl,hux,hb⟩; (try have hux:=hux.below hb); (try have hl:=hl.below hb); (try have hq:=hq.below hb); (try have hr:=hr.below hb); (try have hp:=hp.below hb); (try have ho:=ho.below hb); have hz:=HeldR.call (by assumption) hb)
   |(go_at_call 64; have hc:=J7 _ _ _ _ _ hl hux hdx HB.out.2.2.1 hjj; (with_reducible refine Calls.mono hc ?_); clear hc; rintro e wz ⟨vq,vr,rfl,hq,hr,hb⟩; (try have hux:=hux.below hb); (try have hl:=hl.below hb); (try have hq:=hq.below hb); (try have hr:=hr.below hb); (try have hp:=hp.below hb); (try have ho:=ho.below hb); have hz:=HeldR.call (by assumption) hb))
 all_goals (
  obtain⟨_,k0,k1,k2,k3,k4,k5,_⟩:=hS _ hz
  go_wp2_with fail
  clear k0 k1 k2 k3 k4 k5
  have hz:=hz.drew
  have hq:=hq.drew
  go_region_held3 (fun w'=>HeldR w (w.heap.size+1) 32 [(w.heap.size,.bool false,.slice Ax1 (digs Qb x.num.natAbs).length cx1,.slice Ax2 (digs Qb (Qm x.den)).length cx2)] w'∧w'.cell? ⟨w.heap.size,0,none⟩=some (.bool false)∧w'.cell? ⟨w.heap.size,1,none⟩=some (.slice Ax1 (digs Qb x.num.natAbs).length cx1)∧w'.cell? ⟨w.heap.size,2,none⟩=some (.slice Ax2 (digs Qb (Qm x.den)).length cx2)∧w'.cell? ⟨w.heap.size+1,0,none⟩=some (cv w' ⟨w.heap.size+1,0,none⟩)∧w'.cell? ⟨w.heap.size+1,1,none⟩=some (cv w' ⟨w.heap.size+1,1,none⟩)∧w'.cell? ⟨w.heap.size+1,2,none⟩=some (cv w' ⟨w.heap.size+1,2,none⟩)∧w'.frozen? ⟨w.heap.size+1,0,none⟩=false∧w'.frozen? ⟨w.heap.size+1,1,none⟩=false∧w'.frozen? ⟨w.heap.size+1,2,none⟩=false)
   (first|exact hS _ hz|exact hS _ (HeldR.sets (by assumption) _ _ _ _ _ _ _))
   (first
    |(go_at_call 59; refine Calls.mono (Ki _ 1 (by unfold Qb; omega)) ?_; rintro e wz ⟨vo1,rfl,ho,hb⟩; have hq:=hq.below hb; have hz:=HeldR.call (by assumption) hb)
    |(go_at_call 79; have hc:=W6 _ _ 1 K ho (show Bd 1 1 by unfold Bd; omega) (by omega) (Nat.le_trans HK2.out (by omega)); (with_reducible refine Calls.mono hc ?_); clear hc; rintro e wz ⟨vp,rfl,hp,hb⟩; (try have hux:=hux.below hb); (try have hl:=hl.below hb); (try have hq:=hq.below hb); (try have hr:=hr.below hb); (try have hp:=hp.below hb); (try have ho:=ho.below hb); have hz:=HeldR.call (by assumption) hb)
    |(go_at_call 38; have hc:=Jx _ (false) _ _ _ _ hq hp (by rw[Nat.one_mul]; exact HP.out) HB.out.2.2.2.2 (by rw[Nat.one_mul]; exact HB.out.2.1.mono (by omega)) hjj3; (with_reducible refine Calls.mono hc ?_); clear hc; rintro e wz ⟨vr2,rfl,hrr,hb⟩; rw[Nat.one_mul,← HDN.out]at hrr; obtain⟨vrn,vrd,rfl,hrn,hrd⟩:=hrr; obtain⟨Ar1,cr1,rfl,_⟩:=id hrn; obtain⟨Ar2,cr2,rfl,_⟩:=id hrd; (try have hux:=hux.below hb); (try have hl:=hl.below hb); (try have hq:=hq.below hb); (try have hr:=hr.below hb); (try have hp:=hp.below hb); (try have ho:=ho.below hb); have hz:=HeldR.call (by assumption) hb))
  all_goals (
   go_wp2
   obtain⟨wf,HW,f0,f1,f2,hfin⟩:=hz.fin rfl hrn hrd
   (try rw[HW])
   (try simp only[Exit.inBlock,Exit.then])
   refine bodyPost_ret (by simp[results,Try.results58,go_sem,f0,f1,f2]; try rfl) rfl ?_
   first|exact hfin|exact hfin.drew))
theorem down_num (w:World) (vx:Value) (x:Rat) (k:Int) (hx:IsRat w vx x) {j:Nat} (hj:BdR j x) (hjk:j≤10000000):Calls Try.prog 58 #[vx,.int .i64 k] w (RetRat w (Vn x k)):=by
 by_cases hn:x.num<0
 ·by_cases hr:0<x.num.natAbs*2^Z0 k%x.den
  ·exact down_a w vx x k hx hj hjk hn hr
  ·exact down_b w vx x k hx hj hjk hn hr
 ·exact down_c w vx x k hx hj hjk hn
end Wx
