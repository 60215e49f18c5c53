import Derived.Test.YtocboimkilkklaaGreatJRC24
namespace Wx
set_option maxRecDepth 100000
open Go Go.RowKit Go.Proofs
theorem Au {w:World} {v:Value} {p q:Rat} (h:cm w v p) (e:q=p):cm w v q:=e▸h
set_option maxHeartbeats 8000000 in
theorem Ll (w:World) (vx vy:Value) (x y:Rat) (hx:cm w vx x) (hy:cm w vy y) {j k:Nat} (hj:bB j x) (hk:bB k y) (vv:j+k<=100000000):Calls Tryz.prog 33 #[vx,vy] w (kZ w (x*y)):=by
 obtain⟨sP,sQ,rfl,cN,dH⟩:=id hx
 obtain⟨bN,bP,rfl,_⟩:=id cN
 obtain⟨bO,bQ,rfl,_⟩:=id dH
 obtain⟨GC,GD,rfl,gZ,gI⟩:=id hy
 obtain⟨cZ,dc,rfl,_⟩:=id gZ
 obtain⟨da,de,rfl,_⟩:=id gI
 have Gw:=x.den_pos
 have J0:=y.den_pos
 have HB:=bx (And.intro hj hk)
 have cM:j<=1000000000:=by omega
 have kX:k<=1000000000:=by omega
 clear hj hk
 go_enter Tryz.func33,Tryz.ntmps33
 go_wp2_with fail
 obtain⟨w1,e1,o1,b1,s1⟩:=ia w (.bool (decide (x.num<0))) (.slice bN (ae b64 x.num.natAbs).length bP) (.slice bO (ae b64 (ak x.den)).length bQ) 32
 obtain⟨w2,e2,o2,b2,s2⟩:=ia w1 (.bool (decide (y.num<0))) (.slice cZ (ae b64 y.num.natAbs).length dc) (.slice da (ae b64 (ak y.den)).length de) 32
 obtain⟨w3,e3,o3,b3,s3⟩:=ia w2 (.bool false) (.slice none 0 0) (.slice none 0 0) 32
 rw[e1,e2,e3]
 rw[s1]at o2
 rw[s2,s1]at o3
 have p1:=((o1.gone b2).gone b3)
 have p2:=(o2.gone b3)
 have p3:=o3
 have B0:=((b1.trans (b2.mono b1.size)).trans (b3.mono (b1.trans (b2.mono b1.size)).size))
 have hS:∀w',bw w (w.heap.size+2) 32 [(w.heap.size,.bool (decide (x.num<0)),.slice bN (ae b64 x.num.natAbs).length bP,.slice bO (ae b64 (ak x.den)).length bQ),(w.heap.size+1,.bool (decide (y.num<0)),.slice cZ (ae b64 y.num.natAbs).length dc,.slice da (ae b64 (ak y.den)).length de)] w'->bw w (w.heap.size+2) 32 [(w.heap.size,.bool (decide (x.num<0)),.slice bN (ae b64 x.num.natAbs).length bP,.slice bO (ae b64 (ak x.den)).length bQ),(w.heap.size+1,.bool (decide (y.num<0)),.slice cZ (ae b64 y.num.natAbs).length dc,.slice da (ae b64 (ak y.den)).length de)] w'/\w'.cell? ⟨w.heap.size,0,none⟩=some (.bool (decide (x.num<0)))/\w'.cell? ⟨w.heap.size,1,none⟩=some (.slice bN (ae b64 x.num.natAbs).length bP)/\w'.cell? ⟨w.heap.size,2,none⟩=some (.slice bO (ae b64 (ak x.den)).length bQ)/\w'.cell? ⟨w.heap.size+1,0,none⟩=some (.bool (decide (y.num<0)))/\w'.cell? ⟨w.heap.size+1,1,none⟩=some (.slice cZ (ae b64 y.num.natAbs).length dc)/\w'.cell? ⟨w.heap.size+1,2,none⟩=some (.slice da (ae b64 (ak y.den)).length de)/\w'.cell? ⟨w.heap.size+2,0,none⟩=some (cv w' ⟨w.heap.size+2,0,none⟩)/\w'.cell? ⟨w.heap.size+2,1,none⟩=some (cv w' ⟨w.heap.size+2,1,none⟩)/\w'.cell? ⟨w.heap.size+2,2,none⟩=some (cv w' ⟨w.heap.size+2,2,none⟩)/\w'.frozen? ⟨w.heap.size+2,0,none⟩=false/\w'.frozen? ⟨w.heap.size+2,1,none⟩=false/\w'.frozen? ⟨w.heap.size+2,2,none⟩=false:=λw' hh=>by
  obtain⟨f0,f1,f2,f3,f4,f5⟩:=hh.cells
  have q1:=(hh.2.2.1 (w.heap.size,.bool (decide (x.num<0)),.slice bN (ae b64 x.num.natAbs).length bP,.slice bO (ae b64 (ak x.den)).length bQ) (by simp)).2
  have q2:=(hh.2.2.1 (w.heap.size+1,.bool (decide (y.num<0)),.slice cZ (ae b64 y.num.natAbs).length dc,.slice da (ae b64 (ak y.den)).length de) (by simp)).2
  exact⟨hh,q1.c0,q1.c1,q1.c2,q2.c0,q2.c1,q2.c2,f0,f1,f2,f3,f4,f5⟩
 have H0:bw w (w.heap.size+2) 32 [(w.heap.size,.bool (decide (x.num<0)),.slice bN (ae b64 x.num.natAbs).length bP,.slice bO (ae b64 (ak x.den)).length bQ),(w.heap.size+1,.bool (decide (y.num<0)),.slice cZ (ae b64 y.num.natAbs).length dc,.slice da (ae b64 (ak y.den)).length de)] w3:=⟨B0,by omega,by intro p hp; simp at hp; rcases hp with rfl|rfl; exact⟨by simp,p1⟩; exact⟨by simp,p2⟩,_,_,_,p3,dL _,bh _ _ _,bh _ _ _⟩
 clear e1 e2 e3
 have hz:=H0.drew
 go_region_held3 (λw'=>bw w (w.heap.size+2) 32 [(w.heap.size,.bool (decide (x.num<0)),.slice bN (ae b64 x.num.natAbs).length bP,.slice bO (ae b64 (ak x.den)).length bQ),(w.heap.size+1,.bool (decide (y.num<0)),.slice cZ (ae b64 y.num.natAbs).length dc,.slice da (ae b64 (ak y.den)).length de)] w'/\w'.cell? ⟨w.heap.size,0,none⟩=some (.bool (decide (x.num<0)))/\w'.cell? ⟨w.heap.size,1,none⟩=some (.slice bN (ae b64 x.num.natAbs).length bP)/\w'.cell? ⟨w.heap.size,2,none⟩=some (.slice bO (ae b64 (ak x.den)).length bQ)/\w'.cell? ⟨w.heap.size+1,0,none⟩=some (.bool (decide (y.num<0)))/\w'.cell? ⟨w.heap.size+1,1,none⟩=some (.slice cZ (ae b64 y.num.natAbs).length dc)/\w'.cell? ⟨w.heap.size+1,2,none⟩=some (.slice da (ae b64 (ak y.den)).length de)/\w'.cell? ⟨w.heap.size+2,0,none⟩=some (cv w' ⟨w.heap.size+2,0,none⟩)/\w'.cell? ⟨w.heap.size+2,1,none⟩=some (cv w' ⟨w.heap.size+2,1,none⟩)/\w'.cell? ⟨w.heap.size+2,2,none⟩=some (cv w' ⟨w.heap.size+2,2,none⟩)/\w'.frozen? ⟨w.heap.size+2,0,none⟩=false/\w'.frozen? ⟨w.heap.size+2,1,none⟩=false/\w'.frozen? ⟨w.heap.size+2,2,none⟩=false)
  (first|exact hS _ hz|exact hS _ (bw.sets (by assumption) _ _ _ _ _ _ _))
  (first
   |(go_at_call 70; have hc:=gM _ _ x.den (dH.below hz.1) Gw; (with_reducible refine Calls.mono hc ?_); clear hc; rintro e wz ⟨SX,rfl,eY,hb⟩; (try have eY:=eY.below hb); (try have eZ:=eZ.below hb); (try have eX:=eX.below hb); (try have eW:=eW.below hb); (try have pF:=pF.below hb); (try have hs1:=hs1.below hb); have hz:=bw.call (by assumption) hb)
   |(go_at_call 70; have hc:=gM _ _ y.den (gI.below hz.1) J0; (with_reducible refine Calls.mono hc ?_); clear hc; rintro e wz ⟨SY,rfl,eZ,hb⟩; (try have eY:=eY.below hb); (try have eZ:=eZ.below hb); (try have eX:=eX.below hb); (try have eW:=eW.below hb); (try have pF:=pF.below hb); (try have hs1:=hs1.below hb); have hz:=bw.call (by assumption) hb)
   |(go_at_call 71; have hc:=gL _ _ _ _ _ (cN.below hz.1) (gZ.below hz.1) HB.out.1.1 HB.out.2.1 cM kX; (with_reducible refine Calls.mono hc ?_); clear hc; rintro e wz ⟨SU,rfl,eX,hb⟩; (try have eY:=eY.below hb); (try have eZ:=eZ.below hb); (try have eX:=eX.below hb); (try have eW:=eW.below hb); (try have pF:=pF.below hb); (try have hs1:=hs1.below hb); have hz:=bw.call (by assumption) hb)
   |(go_at_call 71; have hc:=gL _ _ _ _ _ eY eZ HB.out.1.2 HB.out.2.2 cM kX; (with_reducible refine Calls.mono hc ?_); clear hc; rintro e wz ⟨SV,rfl,eW,hb⟩; (try have eY:=eY.below hb); (try have eZ:=eZ.below hb); (try have eX:=eX.below hb); (try have eW:=eW.below hb); (try have pF:=pF.below hb); (try have hs1:=hs1.below hb); have hz:=bw.call (by assumption) hb)
   |(go_at_call 67; have hc:=jQ _ (!(decide (x.num<0)==decide (y.num<0))) _ _ (x.num.natAbs*y.num.natAbs) (x.den*y.den) eX eW (Nat.mul_pos Gw J0) (HB.out.1.1.mul HB.out.2.1) (HB.out.1.2.mul HB.out.2.2) vv; (with_reducible refine Calls.mono hc ?_); clear hc; rintro e wz ⟨vr,rfl,DN,hb⟩; replace DN:=Au DN (yH x y); obtain⟨R6,R5,rfl,Am,hrd⟩:=DN; obtain⟨rN,rS,rfl,_⟩:=id Am; obtain⟨rO,rT,rfl,_⟩:=id hrd; (try have eY:=eY.below hb); (try have eZ:=eZ.below hb); (try have eX:=eX.below hb); (try have eW:=eW.below hb); (try have pF:=pF.below hb); (try have hs1:=hs1.below hb); have hz:=bw.call (by assumption) hb))
 all_goals (
  go_wp2
  obtain⟨wf,HW,f0,f1,f2,eL⟩:=hz.fin rfl Am hrd
  (try rw[HW])
  (try simp only[Exit.inBlock,Exit.then])
  refine bodyPost_ret (by simp[results,Tryz.results33,go_sem,f0,f1,f2]; try rfl) rfl ?_
  first|exact eL|exact eL.drew)
set_option maxHeartbeats 8000000 in
theorem NB (w:World) (vx vy:Value) (x y:Rat) (hx:cm w vx x) (hy:cm w vy y) (hy0:y.num≠0) {j k:Nat} (hj:bB j x) (hk:bB k y) (vv:j+k<=100000000):Calls Tryz.prog 86 #[vx,vy] w (kZ w (x/y)):=by
 have HY:=bx hy0
 clear hy0
 obtain⟨sP,sQ,rfl,cN,dH⟩:=id hx
 obtain⟨bN,bP,rfl,_⟩:=id cN
 obtain⟨bO,bQ,rfl,_⟩:=id dH
 obtain⟨GC,GD,rfl,gZ,gI⟩:=id hy
 obtain⟨cZ,dc,rfl,_⟩:=id gZ
 obtain⟨da,de,rfl,_⟩:=id gI
 have Gw:=x.den_pos
 have J0:=y.den_pos
 have HB:=bx (And.intro hj hk)
 have cM:j<=1000000000:=by omega
 have kX:k<=1000000000:=by omega
 clear hj hk
 go_enter Tryz.func86,Tryz.ntmps86
 go_wp2_with fail
 obtain⟨w1,e1,o1,b1,s1⟩:=ia w (.bool (decide (x.num<0))) (.slice bN (ae b64 x.num.natAbs).length bP) (.slice bO (ae b64 (ak x.den)).length bQ) 32
 obtain⟨w2,e2,o2,b2,s2⟩:=ia w1 (.bool (decide (y.num<0))) (.slice cZ (ae b64 y.num.natAbs).length dc) (.slice da (ae b64 (ak y.den)).length de) 32
 obtain⟨w3,e3,o3,b3,s3⟩:=ia w2 (.bool false) (.slice none 0 0) (.slice none 0 0) 32
 rw[e1,e2,e3]
 rw[s1]at o2
 rw[s2,s1]at o3
 have p1:=((o1.gone b2).gone b3)
 have p2:=(o2.gone b3)
 have p3:=o3
 have B0:=((b1.trans (b2.mono b1.size)).trans (b3.mono (b1.trans (b2.mono b1.size)).size))
 have hS:∀w',bw w (w.heap.size+2) 32 [(w.heap.size,.bool (decide (x.num<0)),.slice bN (ae b64 x.num.natAbs).length bP,.slice bO (ae b64 (ak x.den)).length bQ),(w.heap.size+1,.bool (decide (y.num<0)),.slice cZ (ae b64 y.num.natAbs).length dc,.slice da (ae b64 (ak y.den)).length de)] w'->bw w (w.heap.size+2) 32 [(w.heap.size,.bool (decide (x.num<0)),.slice bN (ae b64 x.num.natAbs).length bP,.slice bO (ae b64 (ak x.den)).length bQ),(w.heap.size+1,.bool (decide (y.num<0)),.slice cZ (ae b64 y.num.natAbs).length dc,.slice da (ae b64 (ak y.den)).length de)] w'/\w'.cell? ⟨w.heap.size,0,none⟩=some (.bool (decide (x.num<0)))/\w'.cell? ⟨w.heap.size,1,none⟩=some (.slice bN (ae b64 x.num.natAbs).length bP)/\w'.cell? ⟨w.heap.size,2,none⟩=some (.slice bO (ae b64 (ak x.den)).length bQ)/\w'.cell? ⟨w.heap.size+1,0,none⟩=some (.bool (decide (y.num<0)))/\w'.cell? ⟨w.heap.size+1,1,none⟩=some (.slice cZ (ae b64 y.num.natAbs).length dc)/\w'.cell? ⟨w.heap.size+1,2,none⟩=some (.slice da (ae b64 (ak y.den)).length de)/\w'.cell? ⟨w.heap.size+2,0,none⟩=some (cv w' ⟨w.heap.size+2,0,none⟩)/\w'.cell? ⟨w.heap.size+2,1,none⟩=some (cv w' ⟨w.heap.size+2,1,none⟩)/\w'.cell? ⟨w.heap.size+2,2,none⟩=some (cv w' ⟨w.heap.size+2,2,none⟩)/\w'.frozen? ⟨w.heap.size+2,0,none⟩=false/\w'.frozen? ⟨w.heap.size+2,1,none⟩=false/\w'.frozen? ⟨w.heap.size+2,2,none⟩=false:=λw' hh=>by
  obtain⟨f0,f1,f2,f3,f4,f5⟩:=hh.cells
  have q1:=(hh.2.2.1 (w.heap.size,.bool (decide (x.num<0)),.slice bN (ae b64 x.num.natAbs).length bP,.slice bO (ae b64 (ak x.den)).length bQ) (by simp)).2
  have q2:=(hh.2.2.1 (w.heap.size+1,.bool (decide (y.num<0)),.slice cZ (ae b64 y.num.natAbs).length dc,.slice da (ae b64 (ak y.den)).length de) (by simp)).2
  exact⟨hh,q1.c0,q1.c1,q1.c2,q2.c0,q2.c1,q2.c2,f0,f1,f2,f3,f4,f5⟩
 have H0:bw w (w.heap.size+2) 32 [(w.heap.size,.bool (decide (x.num<0)),.slice bN (ae b64 x.num.natAbs).length bP,.slice bO (ae b64 (ak x.den)).length bQ),(w.heap.size+1,.bool (decide (y.num<0)),.slice cZ (ae b64 y.num.natAbs).length dc,.slice da (ae b64 (ak y.den)).length de)] w3:=⟨B0,by omega,by intro p hp; simp at hp; rcases hp with rfl|rfl; exact⟨by simp,p1⟩; exact⟨by simp,p2⟩,_,_,_,p3,dL _,bh _ _ _,bh _ _ _⟩
 clear e1 e2 e3
 have hz:=H0.drew
 go_region_held3 (λw'=>bw w (w.heap.size+2) 32 [(w.heap.size,.bool (decide (x.num<0)),.slice bN (ae b64 x.num.natAbs).length bP,.slice bO (ae b64 (ak x.den)).length bQ),(w.heap.size+1,.bool (decide (y.num<0)),.slice cZ (ae b64 y.num.natAbs).length dc,.slice da (ae b64 (ak y.den)).length de)] w'/\w'.cell? ⟨w.heap.size,0,none⟩=some (.bool (decide (x.num<0)))/\w'.cell? ⟨w.heap.size,1,none⟩=some (.slice bN (ae b64 x.num.natAbs).length bP)/\w'.cell? ⟨w.heap.size,2,none⟩=some (.slice bO (ae b64 (ak x.den)).length bQ)/\w'.cell? ⟨w.heap.size+1,0,none⟩=some (.bool (decide (y.num<0)))/\w'.cell? ⟨w.heap.size+1,1,none⟩=some (.slice cZ (ae b64 y.num.natAbs).length dc)/\w'.cell? ⟨w.heap.size+1,2,none⟩=some (.slice da (ae b64 (ak y.den)).length de)/\w'.cell? ⟨w.heap.size+2,0,none⟩=some (cv w' ⟨w.heap.size+2,0,none⟩)/\w'.cell? ⟨w.heap.size+2,1,none⟩=some (cv w' ⟨w.heap.size+2,1,none⟩)/\w'.cell? ⟨w.heap.size+2,2,none⟩=some (cv w' ⟨w.heap.size+2,2,none⟩)/\w'.frozen? ⟨w.heap.size+2,0,none⟩=false/\w'.frozen? ⟨w.heap.size+2,1,none⟩=false/\w'.frozen? ⟨w.heap.size+2,2,none⟩=false)
  (first|exact hS _ hz|exact hS _ (bw.sets (by assumption) _ _ _ _ _ _ _))
  (first
   |(go_at_call 70; have hc:=gM _ _ x.den (dH.below hz.1) Gw; (with_reducible refine Calls.mono hc ?_); clear hc; rintro e wz ⟨SX,rfl,eY,hb⟩; (try have eY:=eY.below hb); (try have eZ:=eZ.below hb); (try have eX:=eX.below hb); (try have eW:=eW.below hb); (try have pF:=pF.below hb); (try have hs1:=hs1.below hb); have hz:=bw.call (by assumption) hb)
   |(go_at_call 70; have hc:=gM _ _ y.den (gI.below hz.1) J0; (with_reducible refine Calls.mono hc ?_); clear hc; rintro e wz ⟨SY,rfl,eZ,hb⟩; (try have eY:=eY.below hb); (try have eZ:=eZ.below hb); (try have eX:=eX.below hb); (try have eW:=eW.below hb); (try have pF:=pF.below hb); (try have hs1:=hs1.below hb); have hz:=bw.call (by assumption) hb)
   |(go_at_call 71; have hc:=gL _ _ _ _ _ (cN.below hz.1) eZ HB.out.1.1 HB.out.2.2 cM kX; (with_reducible refine Calls.mono hc ?_); clear hc; rintro e wz ⟨SU,rfl,eX,hb⟩; (try have eY:=eY.below hb); (try have eZ:=eZ.below hb); (try have eX:=eX.below hb); (try have eW:=eW.below hb); (try have pF:=pF.below hb); (try have hs1:=hs1.below hb); have hz:=bw.call (by assumption) hb)
   |(go_at_call 71; have hc:=gL _ _ _ _ _ eY (gZ.below hz.1) HB.out.1.2 HB.out.2.1 cM kX; (with_reducible refine Calls.mono hc ?_); clear hc; rintro e wz ⟨SV,rfl,eW,hb⟩; (try have eY:=eY.below hb); (try have eZ:=eZ.below hb); (try have eX:=eX.below hb); (try have eW:=eW.below hb); (try have pF:=pF.below hb); (try have hs1:=hs1.below hb); have hz:=bw.call (by assumption) hb)
   |(go_at_call 67; have hc:=jQ _ (!(decide (x.num<0)==decide (y.num<0))) _ _ (x.num.natAbs*y.den) (x.den*y.num.natAbs) eX eW (Nat.mul_pos Gw (by have:=HY.out; omega)) (HB.out.1.1.mul HB.out.2.2) (HB.out.1.2.mul HB.out.2.1) vv; (with_reducible refine Calls.mono hc ?_); clear hc; rintro e wz ⟨vr,rfl,DN,hb⟩; replace DN:=Au DN (yh x y HY.out); obtain⟨R6,R5,rfl,Am,hrd⟩:=DN; obtain⟨rN,rS,rfl,_⟩:=id Am; obtain⟨rO,rT,rfl,_⟩:=id hrd; (try have eY:=eY.below hb); (try have eZ:=eZ.below hb); (try have eX:=eX.below hb); (try have eW:=eW.below hb); (try have pF:=pF.below hb); (try have hs1:=hs1.below hb); have hz:=bw.call (by assumption) hb))
 all_goals (
  go_wp2
  obtain⟨wf,HW,f0,f1,f2,eL⟩:=hz.fin rfl Am hrd
  (try rw[HW])
  (try simp only[Exit.inBlock,Exit.then])
  refine bodyPost_ret (by simp[results,Tryz.results86,go_sem,f0,f1,f2]; try rfl) rfl ?_
  first|exact eL|exact eL.drew)
end Wx

namespace Wx
open Go Go.RowKit Go.Proofs
def cP (x:Rat):Int:=if x.num<0 then -1 else if x=0 then 0 else 1
theorem iq (w:World) (vx:Value) (x:Rat) (hx:cm w vx x):Calls Tryz.prog 31 #[vx] w (dA w (.int .i64 (cP x))):=by
 obtain⟨sP,sQ,rfl,cN,dH⟩:=id hx
 obtain⟨bN,bP,rfl,_⟩:=id cN
 obtain⟨bO,bQ,rfl,_⟩:=id dH
 have hS:cP x=if x.num<0 then -1 else if x=0 then 0 else 1:=rfl
 generalize cP x=z at *
 by_cases h1:x.num<0
 ·rw[if_pos h1]at hS
  subst hS
  rw[decide_eq_true h1]at *
  go_enter Tryz.func31,Tryz.ntmps31
  go_wp2
  go_ret
  exact⟨rfl,Below.alloc (Below.refl _ _) (Nat.le_refl _) _⟩
 ·rw[if_neg h1]at hS
  rw[decide_eq_false h1]at *
  by_cases h2:x=0
  ·rw[if_pos h2]at hS
   subst hS
   have HD:=bx (decide_eq_true h2)
   clear h2
   go_enter Tryz.func31,Tryz.ntmps31
   go_wp2_with fail
   obtain⟨w1,e1,o1,b1,s1⟩:=ia w (.bool false) (.slice bN (ae b64 x.num.natAbs).length bP) (.slice bO (ae b64 (ak x.den)).length bQ) 32
   rw[e1]
   have hc:=zero_num w1 _ x (hx.below b1)
   rw[HD.out]at hc
   refine hc.mono ?_
   rintro e w2 ⟨rfl,hb⟩
   go_wp2
   go_ret
   exact⟨rfl,b1.trans (hb.mono b1.size)⟩
  ·rw[if_neg h2]at hS
   subst hS
   have HD:=bx (decide_eq_false h2)
   clear h2
   go_enter Tryz.func31,Tryz.ntmps31
   go_wp2_with fail
   obtain⟨w1,e1,o1,b1,s1⟩:=ia w (.bool false) (.slice bN (ae b64 x.num.natAbs).length bP) (.slice bO (ae b64 (ak x.den)).length bQ) 32
   rw[e1]
   have hc:=zero_num w1 _ x (hx.below b1)
   rw[HD.out]at hc
   refine hc.mono ?_
   rintro e w2 ⟨rfl,hb⟩
   go_wp2
   go_ret
   exact⟨rfl,b1.trans (hb.mono b1.size)⟩
end Wx

namespace Wx
open Go Go.RowKit Go.Proofs
end Wx

namespace Wx
open Go Go.RowKit Go.Proofs
theorem uT (w:World) (z:Int) (h1:-9223372036854775808<=z) (h2:z<=9223372036854775807):Calls Tryz.prog 65 #[.int .i64 z] w (eR .u64 b64 w z.natAbs):=by
 have J8:Bx (z.natAbs<b64):=bx (by unfold b64; omega)
 by_cases hz:z<0
 ·have e1:IntKind.u64.wrap (-IntKind.u64.wrap z)=((z.natAbs:Nat):Int):=by
   simp[IntKind.wrap,IntKind.bits,IntKind.signed]; omega
  have E1:=bx e1
  clear e1
  go_enter Tryz.func65,Tryz.ntmps65
  go_wp2_with fail
  rw[E1.out]
  refine(nu w _ J8.out).mono ?_
  rintro e w3 ⟨vr,rfl,hr3,hb3⟩
  go_wp2
  go_ret
  exact⟨_,rfl,hr3,hb3⟩
 ·have e1:z=((z.natAbs:Nat):Int):=by omega
  have E1:=bx e1
  clear e1
  go_enter Tryz.func65,Tryz.ntmps65
  go_wp2_with fail
  have hc:=nu w _ J8.out
  rw[<-E1.out]at hc
  refine hc.mono ?_
  rintro e w3 ⟨vr,rfl,hr3,hb3⟩
  go_wp2
  go_ret
  exact⟨_,rfl,hr3,hb3⟩
theorem DS (w:World) (z:Int) (h1:-9223372036854775808<=z) (h2:z<=9223372036854775807):Calls Tryz.prog 25 #[.int .i64 z] w (kZ w (z:Rat)):=by
 have H:=bx (And.intro h1 h2)
 clear h1 h2
 go_enter Tryz.func25,Tryz.ntmps25
 go_wp2_with fail
 obtain⟨w1,e1,o1,b1,s1⟩:=ia w (.bool false) (.slice none 0 0) (.slice none 0 0) 32
 rw[e1]
 refine(uT w1 z H.out.1 H.out.2).mono ?_
 rintro e w2 ⟨v,rfl,hv,hb⟩
 obtain⟨A1,c1,rfl,_⟩:=id hv
 have hz:bw w w.heap.size 32 [] w2:=⟨b1.trans (hb.mono b1.size),Nat.le_refl _,by simp,_,_,_,o1.gone hb,dL _,bh _ _ _,bh _ _ _⟩
 obtain⟨k0,k1,k2,k3,k4,k5⟩:=hz.cells
 clear e1
 go_wp2
 obtain⟨wf,HW,f0,f1,f2,eL⟩:=hz.fin (q:=(z:Rat)) (A2:=none) (l2:=0) (c2:=0) rfl (by rw[Rat.num_intCast]; exact hv) (by rw[Rat.den_intCast]; exact bt.zero _ _ _)
 rw[Rat.num_intCast]at HW f0 eL
 rw[HW]
 (try simp only[Exit.inBlock,Exit.then])
 refine bodyPost_ret (by simp[results,Tryz.results25,go_sem,f0,f1,f2]; try rfl) rfl ?_
 exact eL
def oZ (w:World) (q:Rat) (err:Int) (e:Ending) (w':World):Prop:=∃v,e=.returned (.tuple #[v,.int .i64 err])/\cm w' v q/\Below w.heap.size w w'
theorem oZ.of {w:World} {q:Rat} {v:Value} {w':World} (h:kZ w q (.returned v) w') (err:Int):oZ w q err (.returned (.tuple #[v,.int .i64 err])) w':=by
 obtain⟨v',e,h1,h2⟩:=h
 injection e with e
 subst e
 exact⟨_,rfl,h1,h2⟩
def uf (n d:Int):Rat:=dm (!(decide (n<0)==decide (d<0))) n.natAbs d.natAbs
theorem Lm (w:World) (n d:Int) (h1:-9223372036854775808<=n) (h2:n<=9223372036854775807) (h3:-9223372036854775808<=d) (h4:d<=9223372036854775807) (hd:d≠0):
  Calls Tryz.prog 28 #[.int .i64 n,.int .i64 d] w (oZ w (uf n d) 0):=by
 have H:=bx (And.intro (And.intro h1 h2) (And.intro h3 h4))
 have HD:=bx hd
 have Gv:(d==0)=false:=beq_eq_false_iff_ne.2 hd
 have B1:Bx (Bd 64 n.natAbs):=bx (by unfold Bd; omega)
 have B2:Bx (Bd 64 d.natAbs):=bx (by unfold Bd; omega)
 clear h1 h2 h3 h4 hd
 go_enter Tryz.func28,Tryz.ntmps28
 go_wp2_with fail
 obtain⟨w1,e1,o1,b1,s1⟩:=ia w (.bool false) (.slice none 0 0) (.slice none 0 0) 32
 rw[e1]
 refine(uT w1 n H.out.1.1 H.out.1.2).mono ?_
 rintro e w2 ⟨vn,rfl,hn,hb⟩
 go_wp2_with fail
 refine(uT w2 d H.out.2.1 H.out.2.2).mono ?_
 rintro e w3 ⟨vd,rfl,hd,hb3⟩
 have YO:=hn.below hb3
 go_wp2_with fail
 refine(jQ w3 _ _ _ _ _ YO hd (by have:=HD.out; omega) B1.out B2.out (by omega)).mono ?_
 rintro e w4 ⟨vr,rfl,DN,hb4⟩
 change cm w4 vr (uf n d)at DN
 obtain⟨R6,R5,rfl,Am,hrd⟩:=DN
 obtain⟨rN,rS,rfl,_⟩:=id Am
 obtain⟨rO,rT,rfl,_⟩:=id hrd
 have o4:=((o1.gone hb).gone hb3).gone hb4
 have hz:bw w w.heap.size 32 [] w4:=⟨((b1.trans (hb.mono b1.size)).trans (hb3.mono (Nat.le_trans b1.size hb.size))).trans (hb4.mono (Nat.le_trans (Nat.le_trans b1.size hb.size) hb3.size)),Nat.le_refl _,by simp,_,_,_,o4,dL _,bh _ _ _,bh _ _ _⟩
 obtain⟨k0,k1,k2,k3,k4,k5⟩:=hz.cells
 clear e1
 go_wp2
 obtain⟨wf,HW,f0,f1,f2,eL⟩:=hz.fin rfl Am hrd
 rw[HW]
 (try simp only[Exit.inBlock,Exit.then])
 refine bodyPost_ret (by simp[results,Tryz.results28,go_sem,f0,f1,f2]; try rfl) rfl ?_
 exact oZ.of eL 0
end Wx

namespace Wx
open Go Go.RowKit Go.Proofs
set_option maxHeartbeats 2000000 in
theorem div_zero (w:World) (vx vy:Value) (x y:Rat) (hx:cm w vx x) (hy:cm w vy y) (hy0:y=0):Calls Tryz.prog 75 #[vx,vy] w (oZ w (0) 3):=by
 obtain⟨sP,sQ,rfl,cN,dH⟩:=id hx
 obtain⟨bN,bP,rfl,_⟩:=id cN
 obtain⟨bO,bQ,rfl,_⟩:=id dH
 obtain⟨GC,GD,rfl,gZ,gI⟩:=id hy
 obtain⟨cZ,dc,rfl,_⟩:=id gZ
 obtain⟨da,de,rfl,_⟩:=id gI
 have HY:=bx hy0
 clear hy0
 go_enter Tryz.func75,Tryz.ntmps75
 go_wp2_with fail
 obtain⟨w1,e1,o1,b1,s1⟩:=ia w (.bool (decide (x.num<0))) (.slice bN (ae b64 x.num.natAbs).length bP) (.slice bO (ae b64 (ak x.den)).length bQ) 32
 obtain⟨w2,e2,o2,b2,s2⟩:=ia w1 (.bool (decide (y.num<0))) (.slice cZ (ae b64 y.num.natAbs).length dc) (.slice da (ae b64 (ak y.den)).length de) 32
 obtain⟨w3,e3,o3,b3,s3⟩:=ia w2 (.bool false) (.slice none 0 0) (.slice none 0 0) 32
 rw[e1,e2,e3]
 rw[s1]at o2
 rw[s2,s1]at o3
 have p1:=((o1.gone b2).gone b3)
 have p2:=(o2.gone b3)
 have p3:=o3
 have B0:=((b1.trans (b2.mono b1.size)).trans (b3.mono (b1.trans (b2.mono b1.size)).size))
 have hS:∀w',bw w (w.heap.size+2) 32 [(w.heap.size,.bool (decide (x.num<0)),.slice bN (ae b64 x.num.natAbs).length bP,.slice bO (ae b64 (ak x.den)).length bQ),(w.heap.size+1,.bool (decide (y.num<0)),.slice cZ (ae b64 y.num.natAbs).length dc,.slice da (ae b64 (ak y.den)).length de)] w'->bw w (w.heap.size+2) 32 [(w.heap.size,.bool (decide (x.num<0)),.slice bN (ae b64 x.num.natAbs).length bP,.slice bO (ae b64 (ak x.den)).length bQ),(w.heap.size+1,.bool (decide (y.num<0)),.slice cZ (ae b64 y.num.natAbs).length dc,.slice da (ae b64 (ak y.den)).length de)] w'/\w'.cell? ⟨w.heap.size,0,none⟩=some (.bool (decide (x.num<0)))/\w'.cell? ⟨w.heap.size,1,none⟩=some (.slice bN (ae b64 x.num.natAbs).length bP)/\w'.cell? ⟨w.heap.size,2,none⟩=some (.slice bO (ae b64 (ak x.den)).length bQ)/\w'.cell? ⟨w.heap.size+1,0,none⟩=some (.bool (decide (y.num<0)))/\w'.cell? ⟨w.heap.size+1,1,none⟩=some (.slice cZ (ae b64 y.num.natAbs).length dc)/\w'.cell? ⟨w.heap.size+1,2,none⟩=some (.slice da (ae b64 (ak y.den)).length de)/\w'.cell? ⟨w.heap.size+2,0,none⟩=some (cv w' ⟨w.heap.size+2,0,none⟩)/\w'.cell? ⟨w.heap.size+2,1,none⟩=some (cv w' ⟨w.heap.size+2,1,none⟩)/\w'.cell? ⟨w.heap.size+2,2,none⟩=some (cv w' ⟨w.heap.size+2,2,none⟩)/\w'.frozen? ⟨w.heap.size+2,0,none⟩=false/\w'.frozen? ⟨w.heap.size+2,1,none⟩=false/\w'.frozen? ⟨w.heap.size+2,2,none⟩=false:=λw' hh=>by
  obtain⟨f0,f1,f2,f3,f4,f5⟩:=hh.cells
  have q1:=(hh.2.2.1 (w.heap.size,.bool (decide (x.num<0)),.slice bN (ae b64 x.num.natAbs).length bP,.slice bO (ae b64 (ak x.den)).length bQ) (by simp)).2
  have q2:=(hh.2.2.1 (w.heap.size+1,.bool (decide (y.num<0)),.slice cZ (ae b64 y.num.natAbs).length dc,.slice da (ae b64 (ak y.den)).length de) (by simp)).2
  exact⟨hh,q1.c0,q1.c1,q1.c2,q2.c0,q2.c1,q2.c2,f0,f1,f2,f3,f4,f5⟩
 have H0:bw w (w.heap.size+2) 32 [(w.heap.size,.bool (decide (x.num<0)),.slice bN (ae b64 x.num.natAbs).length bP,.slice bO (ae b64 (ak x.den)).length bQ),(w.heap.size+1,.bool (decide (y.num<0)),.slice cZ (ae b64 y.num.natAbs).length dc,.slice da (ae b64 (ak y.den)).length de)] w3:=⟨B0,by omega,by intro p hp; simp at hp; rcases hp with rfl|rfl; exact⟨by simp,p1⟩; exact⟨by simp,p2⟩,_,_,_,p3,dL _,bh _ _ _,bh _ _ _⟩
 clear e1 e2 e3
 have hz:=H0
 obtain⟨_,k0,k1,k2,k3,k4,k5,_⟩:=hS _ hz
 have hc:=zero_num _ _ y (hy.below hz.1)
 rw[decide_eq_true HY.out]at hc
 refine hc.mono ?_
 clear hc
 rintro e wz ⟨rfl,hb⟩
 have hz:=bw.call (And.intro hz trivial) hb
 clear k0 k1 k2 k3 k4 k5
 obtain⟨_,k0,k1,k2,k3,k4,k5,k6,k7,k8,k9,Zi,Zj⟩:=hS _ hz
 go_wp2
 obtain⟨wf,HW,f0,f1,f2,eL⟩:=hz.fin (q:=0) (A1:=none) (l1:=0) (c1:=0) (A2:=none) (l2:=0) (c2:=0) (show _=false from rfl) (bt.zero _ _ _) (bt.zero _ _ _)
 rw[HW]
 (try simp only[Exit.inBlock,Exit.then])
 refine bodyPost_ret (by simp[results,Tryz.results75,go_sem,f0,f1,f2]; try rfl) rfl ?_
 exact oZ.of eL 3
set_option maxHeartbeats 2000000 in
theorem NY (w:World) (vx vy:Value) (x y:Rat) (hx:cm w vx x) (hy:cm w vy y) {j k:Nat} (hj:bB j x) (hk:bB k y) (vv:j+k<=100000000) (hy0:y≠0):Calls Tryz.prog 75 #[vx,vy] w (oZ w (x/y) 0):=by
 obtain⟨sP,sQ,rfl,cN,dH⟩:=id hx
 obtain⟨bN,bP,rfl,_⟩:=id cN
 obtain⟨bO,bQ,rfl,_⟩:=id dH
 obtain⟨GC,GD,rfl,gZ,gI⟩:=id hy
 obtain⟨cZ,dc,rfl,_⟩:=id gZ
 obtain⟨da,de,rfl,_⟩:=id gI
 have HY:=bx hy0
 clear hy0
 go_enter Tryz.func75,Tryz.ntmps75
 go_wp2_with fail
 obtain⟨w1,e1,o1,b1,s1⟩:=ia w (.bool (decide (x.num<0))) (.slice bN (ae b64 x.num.natAbs).length bP) (.slice bO (ae b64 (ak x.den)).length bQ) 32
 obtain⟨w2,e2,o2,b2,s2⟩:=ia w1 (.bool (decide (y.num<0))) (.slice cZ (ae b64 y.num.natAbs).length dc) (.slice da (ae b64 (ak y.den)).length de) 32
 obtain⟨w3,e3,o3,b3,s3⟩:=ia w2 (.bool false) (.slice none 0 0) (.slice none 0 0) 32
 rw[e1,e2,e3]
 rw[s1]at o2
 rw[s2,s1]at o3
 have p1:=((o1.gone b2).gone b3)
 have p2:=(o2.gone b3)
 have p3:=o3
 have B0:=((b1.trans (b2.mono b1.size)).trans (b3.mono (b1.trans (b2.mono b1.size)).size))
 have hS:∀w',bw w (w.heap.size+2) 32 [(w.heap.size,.bool (decide (x.num<0)),.slice bN (ae b64 x.num.natAbs).length bP,.slice bO (ae b64 (ak x.den)).length bQ),(w.heap.size+1,.bool (decide (y.num<0)),.slice cZ (ae b64 y.num.natAbs).length dc,.slice da (ae b64 (ak y.den)).length de)] w'->bw w (w.heap.size+2) 32 [(w.heap.size,.bool (decide (x.num<0)),.slice bN (ae b64 x.num.natAbs).length bP,.slice bO (ae b64 (ak x.den)).length bQ),(w.heap.size+1,.bool (decide (y.num<0)),.slice cZ (ae b64 y.num.natAbs).length dc,.slice da (ae b64 (ak y.den)).length de)] w'/\w'.cell? ⟨w.heap.size,0,none⟩=some (.bool (decide (x.num<0)))/\w'.cell? ⟨w.heap.size,1,none⟩=some (.slice bN (ae b64 x.num.natAbs).length bP)/\w'.cell? ⟨w.heap.size,2,none⟩=some (.slice bO (ae b64 (ak x.den)).length bQ)/\w'.cell? ⟨w.heap.size+1,0,none⟩=some (.bool (decide (y.num<0)))/\w'.cell? ⟨w.heap.size+1,1,none⟩=some (.slice cZ (ae b64 y.num.natAbs).length dc)/\w'.cell? ⟨w.heap.size+1,2,none⟩=some (.slice da (ae b64 (ak y.den)).length de)/\w'.cell? ⟨w.heap.size+2,0,none⟩=some (cv w' ⟨w.heap.size+2,0,none⟩)/\w'.cell? ⟨w.heap.size+2,1,none⟩=some (cv w' ⟨w.heap.size+2,1,none⟩)/\w'.cell? ⟨w.heap.size+2,2,none⟩=some (cv w' ⟨w.heap.size+2,2,none⟩)/\w'.frozen? ⟨w.heap.size+2,0,none⟩=false/\w'.frozen? ⟨w.heap.size+2,1,none⟩=false/\w'.frozen? ⟨w.heap.size+2,2,none⟩=false:=λw' hh=>by
  obtain⟨f0,f1,f2,f3,f4,f5⟩:=hh.cells
  have q1:=(hh.2.2.1 (w.heap.size,.bool (decide (x.num<0)),.slice bN (ae b64 x.num.natAbs).length bP,.slice bO (ae b64 (ak x.den)).length bQ) (by simp)).2
  have q2:=(hh.2.2.1 (w.heap.size+1,.bool (decide (y.num<0)),.slice cZ (ae b64 y.num.natAbs).length dc,.slice da (ae b64 (ak y.den)).length de) (by simp)).2
  exact⟨hh,q1.c0,q1.c1,q1.c2,q2.c0,q2.c1,q2.c2,f0,f1,f2,f3,f4,f5⟩
 have H0:bw w (w.heap.size+2) 32 [(w.heap.size,.bool (decide (x.num<0)),.slice bN (ae b64 x.num.natAbs).length bP,.slice bO (ae b64 (ak x.den)).length bQ),(w.heap.size+1,.bool (decide (y.num<0)),.slice cZ (ae b64 y.num.natAbs).length dc,.slice da (ae b64 (ak y.den)).length de)] w3:=⟨B0,by omega,by intro p hp; simp at hp; rcases hp with rfl|rfl; exact⟨by simp,p1⟩; exact⟨by simp,p2⟩,_,_,_,p3,dL _,bh _ _ _,bh _ _ _⟩
 clear e1 e2 e3
 have hz:=H0
 obtain⟨_,k0,k1,k2,k3,k4,k5,_⟩:=hS _ hz
 have hc:=zero_num _ _ y (hy.below hz.1)
 rw[decide_eq_false HY.out]at hc
 refine hc.mono ?_
 clear hc
 rintro e wz ⟨rfl,hb⟩
 have hz:=bw.call (And.intro hz trivial) hb
 clear k0 k1 k2 k3 k4 k5
 obtain⟨_,k0,k1,k2,k3,k4,k5,_⟩:=hS _ hz
 go_wp2_with fail
 refine(NB _ _ _ x y (hx.below hz.1) (hy.below hz.1) (mt Rat.num_eq_zero.1 HY.out) hj hk vv).mono ?_
 rintro e wy ⟨vr,rfl,DN,hb⟩
 obtain⟨R6,R5,rfl,Am,hrd⟩:=DN
 obtain⟨rN,rS,rfl,_⟩:=id Am
 obtain⟨rO,rT,rfl,_⟩:=id hrd
 have hz:=bw.call (And.intro hz trivial) hb
 clear k0 k1 k2 k3 k4 k5
 obtain⟨_,k0,k1,k2,k3,k4,k5,k6,k7,k8,k9,Zi,Zj⟩:=hS _ hz
 go_wp2
 obtain⟨wf,HW,f0,f1,f2,eL⟩:=hz.fin rfl Am hrd
 rw[HW]
 (try simp only[Exit.inBlock,Exit.then])
 refine bodyPost_ret (by simp[results,Tryz.results75,go_sem,f0,f1,f2]; try rfl) rfl ?_
 exact oZ.of eL 0
end Wx

namespace Wx
open Go Go.RowKit Go.Proofs
end Wx

namespace Wx
open Go Go.RowKit Go.Proofs
theorem Dk:bB 1 (0:Rat):=⟨by show(0:Rat).num.natAbs<2^1; decide,by show(0:Rat).den<2^1; decide⟩
variable {j k:Nat} {x y:Rat}
theorem bB.quo (h:bB j x) (g:bB k y):bB (j+k) (x/y):=by
 by_cases hy:y=0
 ·rw[hy,Rat.div_def,Rat.inv_zero,Rat.mul_zero]
  have h2:x.den<2^j:=h.2
  have h3:=x.den_pos
  have hj:j≠0:=by rintro rfl; simp at h2; omega
  refine⟨?_,?_⟩
  ·show(0:Rat).num.natAbs<2^(j+k)
   exact Nat.two_pow_pos _
  ·show(0:Rat).den<2^(j+k)
   show 1<2^(j+k)
   exact Nat.one_lt_two_pow (by omega)
 ·exact h.div g (λh=>hy ((iS y).1 (by omega)))
variable {w:World} {e:Ending} {w':World}
theorem oM {v:Value} (h:dA w v e w'):ew (bY v) w e w':=⟨v,h.1,rfl,h.2⟩
theorem Js {q:Rat} {n:Int} (h:oZ w q n e w'):ew (gh (aD q) (pI n)) w e w':=by
 obtain⟨v,rfl,h1,h2⟩:=h
 exact⟨_,rfl,⟨v,_,rfl,h1,rfl⟩,h2⟩
theorem PW (hx:bB j x) (hy:bB k y) (h:j+k+j+k+1<=100000000):∀w v1 v2,aD x w v1->aD y w v2->Calls Tryz.prog 32 #[v1,v2] w (ew (aD (x+y)) w):=
 λw v1 v2 h1 h2=>Kg w v1 v2 x y h1 h2 hx hy h
theorem PZ (hx:bB j x) (hy:bB k y) (h:j+k<=100000000):∀w v1 v2,aD x w v1->aD y w v2->Calls Tryz.prog 33 #[v1,v2] w (ew (aD (x*y)) w):=
 λw v1 v2 h1 h2=>Ll w v1 v2 x y h1 h2 hx hy h
theorem NI (x:Rat):∀w v1,aD x w v1->Calls Tryz.prog 15 #[v1] w (ew (pB (decide (x=0))) w):=λw v1 h1=>(zero_num w v1 x h1).mono λ_ _=>oM
theorem NH (x:Rat):∀w v1,aD x w v1->Calls Tryz.prog 31 #[v1] w (ew (pI (cP x)) w):=λw v1 h1=>(iq w v1 x h1).mono λ_ _=>oM
theorem PY (n:Int) (h1:-9223372036854775808<=n) (h2:n<=9223372036854775807):∀w v1,pI n w v1->Calls Tryz.prog 25 #[v1] w (ew (aD (n:Rat)) w):=λw v1 h=>by
 have h:v1=.int .i64 n:=h
 rw[h]
 exact DS w n h1 h2
theorem GV (hx:bB j x) (hy:bB k y) (h:j+k<=100000000) (h0:y≠0):∀w v1 v2,aD x w v1->aD y w v2->Calls Tryz.prog 75 #[v1,v2] w (ew (gh (aD (x/y)) (pI 0)) w):=
 λw v1 v2 h1 h2=>(NY w v1 v2 x y h1 h2 hx hy h h0).mono λ_ _=>Js
theorem BK (x:Rat) {y:Rat} (h0:y=0):∀w v1 v2,aD x w v1->aD y w v2->Calls Tryz.prog 75 #[v1,v2] w (ew (gh (aD 0) (pI 3)) w):=
 λw v1 v2 h1 h2=>(div_zero w v1 v2 x y h1 h2 h0).mono λ_ _=>Js
theorem PX (hx:bB j x) (hy:bB k y) (h:j+k<=100000000):∀w v1 v2,aD x w v1->aD y w v2->Calls Tryz.prog 75 #[v1,v2] w (ew (gh (aD (x/y)) (pI (if y=0 then 3 else 0))) w):=by
 by_cases h0:y=0
 ·rw[if_pos h0,show x/y=0 by rw[h0,Rat.div_def,Rat.inv_zero,Rat.mul_zero]]; exact BK x h0
 ·rw[if_neg h0]; exact GV hx hy h h0
theorem PT {f:FuncId} {P:Program} {p1 p2 p:Pred} (hn:au p) (h:∀w v1 v2,p1 w v1->p2 w v2->Calls P f #[v1,v2] w (ew p w)):∀(M:Nat->Nat->Prop) (w:World) (v1 v2:Value),dz M w->aP M (λw=>p1 w v1) w->aP M (λw=>p2 w v2) w->Calls P f #[v1,v2] w (bE M p w):=
 λ_ w v1 v2 hM h1 h2=>(h w v1 v2 h1.out h2.out).mono λ_ _ h=>sM hn hM h
end Wx
