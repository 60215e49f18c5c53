import Derived.Test.YtocboimkilkklaaGreatJRF44
namespace Wx
set_option maxRecDepth 100000
set_option maxHeartbeats 1000000
open Go Go.RowKit Go.Proofs
theorem bg.pw (K:Nat):bg (K+1) (pw K):=by
 obtain⟨h1,h2⟩:=JQ K
 exact⟨by rw[h1,Int.natAbs_pow]; exact Bd.pow2 (by omega),by rw[h2]; unfold Bd; have:=Nat.pow_lt_pow_right (show 1<2 by omega) (show 0<K+1 by omega); omega⟩
theorem bg.yS (K:Nat):bg (K+1) (1/Wx.pw K):=by
 obtain⟨h1,h2⟩:=Wx.yS K
 exact⟨by rw[h1]; unfold Bd; have:=Nat.pow_lt_pow_right (show 1<2 by omega) (show 0<K+1 by omega); show 1<_; omega,by rw[h2]; exact Bd.pow2 (by omega)⟩
theorem bg.floor {j:Nat} {q:Rat} (h:bg j q):bg (j+2) (gB q):=by
 unfold gB
 refine jY (by omega) ?_ (by unfold Bd; have:=Nat.pow_lt_pow_right (show 1<2 by omega) (show 0<j+2 by omega); omega)
 have h1:=h.1.le (Nat.div_le_self q.num.natAbs q.den)
 exact((h1.add (show Bd 1 1 by unfold Bd; omega)).mono (by omega)).le (by split<;>omega)
theorem F8 (w:World) (K:Nat) (hK:K<=256):Calls Tryz.prog 127 #[.int .i64 (-(K:Int))] w (eD w (1/pw K)):=by
 rcases Nat.eq_zero_or_pos K with rfl|h
 ·have:=Bb w 0 (by omega)
  rw[show(1:Rat)/pw 0=pw 0 by decide +kernel]
  exact this
 ·exact Jx w _ K rfl h (by omega)
theorem Cl (x:Rat) (k:Int):gB (x*pw (bitsOf k))*(1/pw (bitsOf k))=bT x k:=by
 rw[Ib,Fh,Rat.div_def,Rat.div_def,Rat.one_mul]
set_option maxHeartbeats 4000000 in
theorem xC (w:World) (vx:Value) (x:Rat) (k:Int) (hx:cH w vx x) {j:Nat} (hj:bg j x) (kP:j<=100000):Calls Tryz.prog 90 #[vx,.int .i64 k] w (eD w (bT x k)):=by
 obtain⟨oz,oA,rfl,cw,cT⟩:=id hx
 obtain⟨aV,aX,rfl,_⟩:=id cw
 obtain⟨aW,aY,rfl,_⟩:=id cT
 have hx0:=hx
 have jE:=(gE k).2
 have HQ:=bx (Cl x k)
 have HC:=bx (λw=>CH w k)
 generalize bT x k=q at *
 generalize bitsOf k=K at *
 have HP:=bx (bg.pw K)
 have HI:=bx (bg.yS K)
 have HB:=bx hj
 have HM:=bx (hj.mul (bg.pw K))
 have HF:=bx (hj.mul (bg.pw K)).floor
 have hK0:(0:Int)<=(K:Int):=by omega
 have hK1:(K:Int)<=256:=by omega
 have hKw:IntKind.i64.wrap (-(K:Int)) = -(K:Int):=by unfold IntKind.wrap; simp[IntKind.bits,IntKind.signed]; omega
 clear hx cw cT hj
 go_enter Tryz.func90,Tryz.ntmps90
 go_wp2_with fail
 obtain⟨w1,e1,o1,b1,s1⟩:=dy w [.bool (decide (x.num<0)),.slice aV (ae af x.num.natAbs).length aX,.slice aW (ae af x.den).length aY] 38
 obtain⟨w2,e2,o2,b2,s2⟩:=dy w1 [.bool false,.slice none 0 0,.slice none 0 0] 38
 rw[e1,e2]
 rw[s1]at o2
 have p1:=(o1.gone b2)
 have p2:=o2
 have B0:=(b1.trans (b2.mono b1.size))
 have hS:∀w',aC w (w.heap.size+1) 3 38 [(w.heap.size,[.bool (decide (x.num<0)),.slice aV (ae af x.num.natAbs).length aX,.slice aW (ae af x.den).length aY],38)] w'->aC w (w.heap.size+1) 3 38 [(w.heap.size,[.bool (decide (x.num<0)),.slice aV (ae af x.num.natAbs).length aX,.slice aW (ae af x.den).length aY],38)] w'/\w'.cell? ⟨w.heap.size,0,none⟩=some (.bool (decide (x.num<0)))/\w'.cell? ⟨w.heap.size,1,none⟩=some (.slice aV (ae af x.num.natAbs).length aX)/\w'.cell? ⟨w.heap.size,2,none⟩=some (.slice aW (ae af x.den).length aY)/\w'.cell? ⟨w.heap.size+1,0,none⟩=some (cv w' ⟨w.heap.size+1,0,none⟩)/\w'.cell? ⟨w.heap.size+1,1,none⟩=some (cv w' ⟨w.heap.size+1,1,none⟩)/\w'.cell? ⟨w.heap.size+1,2,none⟩=some (cv w' ⟨w.heap.size+1,2,none⟩)/\w'.frozen? ⟨w.heap.size+1,0,none⟩=false/\w'.frozen? ⟨w.heap.size+1,1,none⟩=false/\w'.frozen? ⟨w.heap.size+1,2,none⟩=false:=λw' hh=>by
  have r1:=hh.par (p:=(w.heap.size,[.bool (decide (x.num<0)),.slice aV (ae af x.num.natAbs).length aX,.slice aW (ae af x.den).length aY],38)) (by simp)
  exact⟨hh,r1.cell (i:=0) rfl,r1.cell (i:=1) rfl,r1.cell (i:=2) rfl,hh.dH (i:=0) (by omega),hh.dH (i:=1) (by omega),hh.dH (i:=2) (by omega),hh.ou 0,hh.ou 1,hh.ou 2⟩
 have hz:aC w (w.heap.size+1) 3 38 [(w.heap.size,[.bool (decide (x.num<0)),.slice aV (ae af x.num.natAbs).length aX,.slice aW (ae af x.den).length aY],38)] w2:=⟨B0,by omega,by intro q hq; simp at hq; subst hq; exact⟨by simp,p1⟩,_,rfl,p2,bP⟩
 clear e1 e2 o1 b1 s1 p1 o2 b2 s2 p2
 clear B0
 have Xx:True:=trivial
 have hz:=hz.drew
 go_region_held3 (λw'=>aC w (w.heap.size+1) 3 38 [(w.heap.size,[.bool (decide (x.num<0)),.slice aV (ae af x.num.natAbs).length aX,.slice aW (ae af x.den).length aY],38)] w'/\w'.cell? ⟨w.heap.size,0,none⟩=some (.bool (decide (x.num<0)))/\w'.cell? ⟨w.heap.size,1,none⟩=some (.slice aV (ae af x.num.natAbs).length aX)/\w'.cell? ⟨w.heap.size,2,none⟩=some (.slice aW (ae af x.den).length aY)/\w'.cell? ⟨w.heap.size+1,0,none⟩=some (cv w' ⟨w.heap.size+1,0,none⟩)/\w'.cell? ⟨w.heap.size+1,1,none⟩=some (cv w' ⟨w.heap.size+1,1,none⟩)/\w'.cell? ⟨w.heap.size+1,2,none⟩=some (cv w' ⟨w.heap.size+1,2,none⟩)/\w'.frozen? ⟨w.heap.size+1,0,none⟩=false/\w'.frozen? ⟨w.heap.size+1,1,none⟩=false/\w'.frozen? ⟨w.heap.size+1,2,none⟩=false)
  (first|exact hS _ hz|exact hS _ (aC.nt hz))
  (first
   |(have _t:=Xx; go_at_call 128; (with_reducible refine Calls.mono (HC.out _) ?_); rintro e wz ⟨rfl,hb⟩; subst hb; clear Xx; have Xy:True:=trivial)
   |(have _t:=Xy; go_at_call 127; (with_reducible refine Calls.mono (Bb _ K (by omega)) ?_); rintro e wz ⟨vt,rfl,ht,hb⟩; have hz:=aC.call (And.intro hz trivial) hb; clear Xy; have Xz:True:=trivial)
   |(have _t:=Xz; go_at_call 39; (with_reducible refine Calls.mono (uB _ _ _ x (pw K) (hx0.below hz.b) ht HB.out HP.out (by omega)) ?_); rintro e wz ⟨vm,rfl,hm,hb⟩; have hz:=aC.call (And.intro hz trivial) hb; clear Xz; have XA:True:=trivial)
   |(have _t:=XA; go_at_call 126; (with_reducible refine Calls.mono (CK _ _ (x*pw K) hm HM.out (by omega)) ?_); rintro e wz ⟨vf,rfl,hf,hb⟩; have hz:=aC.call (And.intro hz trivial) hb; clear XA; have XB:True:=trivial)
   |(have _t:=XB; go_at_call 128; (with_reducible refine Calls.mono (HC.out _) ?_); rintro e wz ⟨rfl,hb⟩; subst hb; clear XB; have XC:True:=trivial)
   |(have _t:=XC; go_at_call 127; (with_reducible refine Calls.mono (F8 _ K (by omega)) ?_); rintro e wz ⟨vi,rfl,hi,hb⟩; have hf:=hf.below hb; have hz:=aC.call (And.intro hz trivial) hb; clear XC; have XD:True:=trivial)
   |(have _t:=XD; go_at_call 39; (with_reducible refine Calls.mono (uB _ _ _ _ _ hf hi HF.out HI.out (by omega)) ?_); rintro e wz ⟨vr,rfl,hr,hb⟩; have hz:=aC.call (And.intro hz trivial) hb; rw[HQ.out]at hr; obtain⟨Ki,EN,rfl,uh,hrb⟩:=id hr; obtain⟨mo,my,rfl,_⟩:=id uh; obtain⟨mw,mz,rfl,_⟩:=id hrb; clear XD; have tk7:True:=trivial))
 all_goals (
  go_wp2
  obtain⟨wf,HW,ho,hB,hN⟩:=hz.fin [.bool (decide (q.num<0)),.slice mo (ae af q.num.natAbs).length my,.slice mw (ae af q.den).length mz] rfl bP
  simp only[ct,Nat.reduceAdd]at HW
  (try rw[HW])
  (try simp only[Exit.inBlock,Exit.then])
  have f0:=ho.cell (i:=0) rfl
  have f1:=ho.cell (i:=1) rfl
  have f2:=ho.cell (i:=2) rfl
  refine bodyPost_ret (by simp[results,Tryz.results90,go_sem,f0,f1,f2]; try rfl) rfl ?_
  exact⟨_,rfl,hr.into hN,hB⟩)
theorem LP (w:World) (vx:Value) (x:Rat) (k:Int) (hx:cH w vx x) {j:Nat} (hj:bg j x) (kP:j<=100000):Calls Tryz.prog 91 #[vx,.int .i64 k] w (eD w (-(bT (-x) k))):=by
 obtain⟨oz,oA,rfl,cw,cT⟩:=id hx
 obtain⟨aV,aX,rfl,_⟩:=id cw
 obtain⟨aW,aY,rfl,_⟩:=id cT
 have hx0:=hx
 have HB:=bx hj
 clear hx cw cT hj
 go_enter Tryz.func91,Tryz.ntmps91
 go_wp2_with fail
 obtain⟨w1,e1,oX,b1,s1⟩:=dy w [.bool (decide (x.num<0)),.slice aV (ae af x.num.natAbs).length aX,.slice aW (ae af x.den).length aY] 38
 rw[e1]
 clear e1
 replace hx0:=hx0.below b1
 have B:=b1
 clear b1
 obtain⟨w2,e2,oR,b2,s2⟩:=dy w1 [.bool false,.slice none 0 0,.slice none 0 0] 38
 rw[e2]
 rw[s1]at oR
 clear e2
 replace hx0:=hx0.below b2
 replace oX:=oX.gone b2
 replace B:=B.trans (b2.mono B.size)
 clear b2
 refine Calls.mono (uC _ _ x hx0) ?_
 rintro e w3 ⟨vn,rfl,hn,b3⟩
 replace hx0:=hx0.below b3
 replace oX:=oX.gone b3
 replace oR:=oR.gone b3
 replace B:=B.trans (b3.mono B.size)
 clear b3
 clear hx0
 go_wp2_with fail
 refine Calls.mono (xC _ _ (-x) k hn HB.out.neg kP) ?_
 rintro e w4 ⟨vd,rfl,hd,b4⟩
 replace oX:=oX.gone b4
 replace oR:=oR.gone b4
 replace hn:=hn.below b4
 replace B:=B.trans (b4.mono B.size)
 clear b4
 clear hn
 go_wp2_with fail
 refine Calls.mono (uC _ _ (bT (-x) k) hd) ?_
 rintro e w5 ⟨vr,rfl,hr,b5⟩
 replace oX:=oX.gone b5
 replace oR:=oR.gone b5
 replace hd:=hd.below b5
 replace B:=B.trans (b5.mono B.size)
 clear b5
 clear hd
 generalize -(bT (-x) k)=q at *
 obtain⟨Ki,EN,rfl,uh,hrb⟩:=id hr
 obtain⟨mo,my,rfl,_⟩:=id uh
 obtain⟨mw,mz,rfl,_⟩:=id hrb
 have k1:=oR.cell (i:=0) rfl
 have k2:=oR.fz 0
 have k3:=oR.cell (i:=1) rfl
 have k4:=oR.fz 1
 have k5:=oR.cell (i:=2) rfl
 have k6:=oR.fz 2
 go_wp2
 obtain⟨wf,HW,ho,_,hN,yG,_⟩:=oR.put fA [.bool (decide (q.num<0)),.slice mo (ae af q.num.natAbs).length my,.slice mw (ae af q.den).length mz] rfl bP
 simp only[ct,Nat.reduceAdd]at HW
 (try rw[HW])
 (try simp only[Exit.inBlock,Exit.then])
 have f0:=ho.cell (i:=0) rfl
 have f1:=ho.cell (i:=1) rfl
 have f2:=ho.cell (i:=2) rfl
 refine bodyPost_ret (by simp[results,Tryz.results91,go_sem,f0,f1,f2]; try rfl) rfl ?_
 have HB:=yG _ (by omega) B
 exact⟨_,rfl,hr.into hN,HB⟩
end Wx

namespace Wx
open Go Go.RowKit
theorem MS (a b c d:Rat) (i:Nat) (h:i<4):[a,b,c,d].getD i 0=a\/[a,b,c,d].getD i 0=b\/[a,b,c,d].getD i 0=c\/[a,b,c,d].getD i 0=d:=by
 match i,h with
 |0,_=>exact .inl rfl
 |1,_=>exact .inr (.inl rfl)
 |2,_=>exact .inr (.inr (.inl rfl))
 |3,_=>exact .inr (.inr (.inr rfl))
theorem sV (a b c d:Rat):eZ a b c d<=a/\eZ a b c d<=b/\eZ a b c d<=c/\eZ a b c d<=d:=
 ⟨kX [a,b,c,d] 4 0 (by omega),kX [a,b,c,d] 4 1 (by omega),kX [a,b,c,d] 4 2 (by omega),kX [a,b,c,d] 4 3 (by omega)⟩
theorem sU (a b c d:Rat):a<=eY a b c d/\b<=eY a b c d/\c<=eY a b c d/\d<=eY a b c d:=
 ⟨kS [a,b,c,d] 4 0 (by omega),kS [a,b,c,d] 4 1 (by omega),kS [a,b,c,d] 4 2 (by omega),kS [a,b,c,d] 4 3 (by omega)⟩
theorem uy (a b c d:Rat):eZ a b c d=a\/eZ a b c d=b\/eZ a b c d=c\/eZ a b c d=d:=by
 obtain⟨i,_,h2,h3⟩:=xB [a,b,c,d] 4
 unfold eZ
 rw[h3]
 exact MS a b c d i (h2 (by omega))
theorem ux (a b c d:Rat):eY a b c d=a\/eY a b c d=b\/eY a b c d=c\/eY a b c d=d:=by
 obtain⟨i,_,h2,h3⟩:=xy [a,b,c,d] 4
 unfold eY
 rw[h3]
 exact MS a b c d i (h2 (by omega))
theorem MR (a b:Rat) (i:Nat) (h:i<2):[a,b].getD i 0=a\/[a,b].getD i 0=b:=by
 match i,h with
 |0,_=>exact .inl rfl
 |1,_=>exact .inr rfl
theorem ql (a b:Rat):min2 a b<=a/\min2 a b<=b:=⟨kX [a,b] 2 0 (by omega),kX [a,b] 2 1 (by omega)⟩
theorem qg (a b:Rat):a<=max2 a b/\b<=max2 a b:=⟨kS [a,b] 2 0 (by omega),kS [a,b] 2 1 (by omega)⟩
theorem kW (a b:Rat):min2 a b=a\/min2 a b=b:=by
 obtain⟨i,_,h2,h3⟩:=xB [a,b] 2
 unfold min2
 rw[h3]
 exact MR a b i (h2 (by omega))
theorem kT (a b:Rat):max2 a b=a\/max2 a b=b:=by
 obtain⟨i,_,h2,h3⟩:=xy [a,b] 2
 unfold max2
 rw[h3]
 exact MR a b i (h2 (by omega))
theorem yV (a b c d:Rat):eZ a b c d<=eY a b c d:=Rat.le_trans (sV a b c d).1 (sU a b c d).1
theorem xA (a:Rat):min2 a a=a:=by rcases kW a a with h|h<;>exact h
theorem xx (a:Rat):max2 a a=a:=by rcases kT a a with h|h<;>exact h
end Wx

namespace Wx
open Go Go.RowKit Go.Proofs
end Wx

namespace Wx
open Go Go.RowKit Go.Proofs
set_option linter.unusedVariables false
def oK (n d:Int):Prop :=-9223372036854775808<=n/\n<=9223372036854775807/\d<=9223372036854775807
variable {n d:Int}
theorem Dz (h:oK n d):bg 64 (BP n d):=tG h.1 h.2.1 h.2.2
theorem Qx {x:Rat} (e:x=BP n d) (h:oK n d):∀w v1,cU n d w v1->Calls Tryz.prog 6 #[v1] w (fu (au x) w):=λw v1 h1=>by
 rw[qv h1,e]
 exact Jz w n d h.1 h.2.1 h.2.2
theorem B9 {z:Int} (h1:-9223372036854775808<=z) (h2:z<=9223372036854775807):bg 64 (z:Rat):=⟨by unfold Bd; rw[Rat.num_intCast]; omega,by unfold Bd; rw[Rat.den_intCast]; omega⟩
end Wx
