import Derived.Test.YtocboimkilkklaaGreatJRF42
import Derived.Test.YtocboimkilkklaaGreatJRF40
namespace Wx
open Go Go.RowKit Go.Proofs
end Wx

namespace Wx
open Go Go.RowKit Go.Proofs
end Wx

namespace Wx
open Go Go.RowKit Go.Proofs
end Wx

namespace Wx
set_option maxRecDepth 100000
open Go Go.RowKit Go.Proofs
set_option maxHeartbeats 400000 in
theorem CH (w:World) (k:Int):Calls Tryz.prog 128 #[.int .i64 k] w λe w'=>e=.returned (.int .i64 ((bitsOf k:Nat):Int))/\w=w':=by
 have HB:=bx (gE k).1
 go_enter Tryz.func128,Tryz.ntmps128
 go_wp2
 rw[HB.out]
 go_ret
 exact⟨rfl,rfl⟩
theorem JQ (K:Nat):(pw K).num=2^K/\(pw K).den=1:=by
 unfold pw
 refine⟨?_,rfl⟩
 exact_mod_cast (rfl:((2^K:Nat):Rat).num=((2^K:Nat):Int))
theorem yS (K:Nat):(1/pw K).num=1/\(1/pw K).den=2^K:=by
 have e:(1:Rat)/pw K=mkRat 1 (2^K):=by rw[Rat.mkRat_eq_div]; rfl
 rw[e,Rat.num_mkRat,Rat.den_mkRat,if_neg (by have:=Nat.two_pow_pos K; omega)]
 simp
set_option maxHeartbeats 8000000 in
theorem Bb (w:World) (K:Nat) (hK:K<=1000000):Calls Tryz.prog 127 #[.int .i64 (K:Int)] w (eD w (pw K)):=by
 have hq:decide ((pw K).num<0)=false/\(pw K).num.natAbs=2^K/\(pw K).den=1:=by
  obtain⟨h1,h2⟩:=JQ K
  refine⟨decide_eq_false (by rw[h1]; have:(0:Int)<2^K:=Int.pow_pos (by omega); omega),by rw[h1,Int.natAbs_pow]; rfl,h2⟩
 have HQ:=bx hq
 clear hq
 generalize pw K=q at *
 go_enter Tryz.func127,Tryz.ntmps127
 go_wp2_with fail
 obtain⟨w1,e1,oR,b1,s1⟩:=dy w [.bool false,.slice none 0 0,.slice none 0 0] 38
 rw[e1]
 clear e1
 have B:=b1
 clear b1
 refine Calls.mono (dA _ 1 (by unfold b64; omega)) ?_
 rintro e w2 ⟨v1,rfl,h2,b2⟩
 replace oR:=oR.gone b2
 replace B:=B.trans (b2.mono B.size)
 clear b2
 go_wp2_with fail
 refine Calls.mono (sk _ _ 1 K h2 (by omega) (j:=1) (by unfold Bd; omega) (by omega) (by omega)) ?_
 rintro e w3 ⟨v3,rfl,h3,b3⟩
 replace oR:=oR.gone b3
 replace h2:=h2.below b3
 replace B:=B.trans (b3.mono B.size)
 clear b3
 go_wp2_with fail
 rw[Nat.one_mul]at h3
 clear h2
 refine Calls.mono (dA _ 1 (by unfold b64; omega)) ?_
 rintro e w4 ⟨v4,rfl,h1,b4⟩
 replace oR:=oR.gone b4
 replace h3:=h3.below b4
 replace B:=B.trans (b4.mono B.size)
 clear b4
 obtain⟨Aa,ca,rfl,_⟩:=id h3
 obtain⟨Ab,cb,rfl,_⟩:=id h1
 generalize hP:2^K=P at *
 have k1:=oR.cell (i:=0) rfl
 have k2:=oR.fz 0
 have k3:=oR.cell (i:=1) rfl
 have k4:=oR.fz 1
 have k5:=oR.cell (i:=2) rfl
 have k6:=oR.fz 2
 go_wp2
 obtain⟨wf,HW,ho,_,hN,yG,_⟩:=oR.put fA [.bool false,.slice Aa (ae af P).length ca,.slice Ab (ae af 1).length cb] rfl bP
 simp only[ct,Nat.reduceAdd]at HW
 (try rw[HW])
 (try simp only[Exit.inBlock,Exit.then])
 have f0:=ho.cell (i:=0) rfl
 have f1:=ho.cell (i:=1) rfl
 have f2:=ho.cell (i:=2) rfl
 refine bodyPost_ret (by simp[results,Tryz.results127,go_sem,f0,f1,f2]; try rfl) rfl ?_
 have HB:=yG _ (by omega) B
 exact⟨_,rfl,⟨_,_,by rw[HQ.out.1],by rw[HQ.out.2.1]; exact hN _ _ _ _ h3,by rw[HQ.out.2.2]; exact hN _ _ _ _ h1⟩,HB⟩
set_option maxHeartbeats 8000000 in
theorem Jx (w:World) (z:Int) (K:Nat) (hz:z = -(K:Int)) (h0:0<K) (hK:K<=1000000):Calls Tryz.prog 127 #[.int .i64 z] w (eD w (1/pw K)):=by
 have hq:decide ((1/pw K).num<0)=false/\(1/pw K).num.natAbs=1/\(1/pw K).den=2^K:=by
  obtain⟨h1,h2⟩:=yS K
  refine⟨decide_eq_false (by rw[h1]; omega),by rw[h1]; rfl,h2⟩
 have HQ:=bx hq
 have hlt:z<0:=by omega
 have hz1:-1000000<=z:=by omega
 have HE:=bx (show -z=(K:Int) by omega)
 clear hq hz
 generalize 1/pw K=q at *
 go_enter Tryz.func127,Tryz.ntmps127
 go_wp2_with fail
 obtain⟨w1,e1,oR,b1,s1⟩:=dy w [.bool false,.slice none 0 0,.slice none 0 0] 38
 rw[e1]
 clear e1
 have B:=b1
 clear b1
 refine Calls.mono (dA _ 1 (by unfold b64; omega)) ?_
 rintro e w2 ⟨v1,rfl,h1,b2⟩
 replace oR:=oR.gone b2
 replace B:=B.trans (b2.mono B.size)
 clear b2
 go_wp2_with fail
 refine Calls.mono (dA _ 1 (by unfold b64; omega)) ?_
 rintro e w3 ⟨v2,rfl,h2,b3⟩
 replace oR:=oR.gone b3
 replace h1:=h1.below b3
 replace B:=B.trans (b3.mono B.size)
 clear b3
 go_wp2_with fail
 rw[HE.out]
 refine Calls.mono (sk _ _ 1 K h2 (by omega) (j:=1) (by unfold Bd; omega) (by omega) (by omega)) ?_
 rintro e w4 ⟨v3,rfl,h3,b4⟩
 replace oR:=oR.gone b4
 replace h1:=h1.below b4
 replace h2:=h2.below b4
 replace B:=B.trans (b4.mono B.size)
 clear b4
 rw[Nat.one_mul]at h3
 clear h2
 obtain⟨Aa,ca,rfl,_⟩:=id h1
 obtain⟨Ab,cb,rfl,_⟩:=id h3
 generalize hP:2^K=P at *
 have k1:=oR.cell (i:=0) rfl
 have k2:=oR.fz 0
 have k3:=oR.cell (i:=1) rfl
 have k4:=oR.fz 1
 have k5:=oR.cell (i:=2) rfl
 have k6:=oR.fz 2
 go_wp2
 obtain⟨wf,HW,ho,_,hN,yG,_⟩:=oR.put fA [.bool false,.slice Aa (ae af 1).length ca,.slice Ab (ae af P).length cb] rfl bP
 simp only[ct,Nat.reduceAdd]at HW
 (try rw[HW])
 (try simp only[Exit.inBlock,Exit.then])
 have f0:=ho.cell (i:=0) rfl
 have f1:=ho.cell (i:=1) rfl
 have f2:=ho.cell (i:=2) rfl
 refine bodyPost_ret (by simp[results,Tryz.results127,go_sem,f0,f1,f2]; try rfl) rfl ?_
 have HB:=yG _ (by omega) B
 exact⟨_,rfl,⟨_,_,by rw[HQ.out.1],by rw[HQ.out.2.1]; exact hN _ _ _ _ h1,by rw[HQ.out.2.2]; exact hN _ _ _ _ h3⟩,HB⟩
set_option maxHeartbeats 4000000 in
theorem Jk (w:World) (vx:Value) (x:Rat) (hx:cH w vx x) {j:Nat} (hj:bg j x) (kP:j<=1000000) (hn:x.num<0) (hr:0<x.num.natAbs%x.den):Calls Tryz.prog 126 #[vx] w (eD w (gB x)):=by
 obtain⟨oz,oA,rfl,cw,cT⟩:=id hx
 obtain⟨aV,aX,rfl,_⟩:=id cw
 obtain⟨aW,aY,rfl,_⟩:=id cT
 have hf:decide (x.num<0)=true:=decide_eq_true hn
 have hQ:gB x=cL true (x.num.natAbs/x.den+1) 1:=by unfold gB; rw[hf,if_pos ⟨hn,hr⟩]
 have HQ:=bx hQ
 have HB:Bx (Bd j x.num.natAbs/\Bd j x.den):=bx hj
 have Qh:Bx (Bd (j+2) (x.num.natAbs/x.den+1)):=bx (by have h1:=hj.1.le (Nat.div_le_self x.num.natAbs x.den); exact(h1.add (show Bd 1 1 by unfold Bd; omega)).mono (by omega))
 have rh:=x.den_pos
 have hl:∀L:Nat,L=(ae af (x.num.natAbs%x.den)).length->(0:Int)<(L:Int):=λL h=>by have:=(az (n:=x.num.natAbs%x.den) ak).2 hr; omega
 have HL:=bx hl
 have hx0:=hx
 rw[hQ]
 rw[hf]at hx0
 try rw[hf]
 clear hx hj hQ hf hn hr hl
 go_enter Tryz.func126,Tryz.ntmps126
 go_wp2_with fail
 obtain⟨w1,e1,o1,b1,s1⟩:=dy w [.bool true,.slice aV (ae af x.num.natAbs).length aX,.slice aW (ae af x.den).length aY] 38
 obtain⟨w2,e2,o2,b2,s2⟩:=dy w1 [.bool false,.slice none 0 0,.slice none 0 0] 38
 rw[e1,e2]
 rw[s1]at o2
 have p1:=(o1.gone b2)
 have p2:=o2
 have B0:=(b1.trans (b2.mono b1.size))
 have hS:∀w',aC w (w.heap.size+1) 3 38 [(w.heap.size,[.bool true,.slice aV (ae af x.num.natAbs).length aX,.slice aW (ae af x.den).length aY],38)] w'->aC w (w.heap.size+1) 3 38 [(w.heap.size,[.bool true,.slice aV (ae af x.num.natAbs).length aX,.slice aW (ae af x.den).length aY],38)] w'/\w'.cell? ⟨w.heap.size,0,none⟩=some (.bool true)/\w'.cell? ⟨w.heap.size,1,none⟩=some (.slice aV (ae af x.num.natAbs).length aX)/\w'.cell? ⟨w.heap.size,2,none⟩=some (.slice aW (ae af x.den).length aY)/\w'.cell? ⟨w.heap.size+1,0,none⟩=some (cv w' ⟨w.heap.size+1,0,none⟩)/\w'.cell? ⟨w.heap.size+1,1,none⟩=some (cv w' ⟨w.heap.size+1,1,none⟩)/\w'.cell? ⟨w.heap.size+1,2,none⟩=some (cv w' ⟨w.heap.size+1,2,none⟩)/\w'.frozen? ⟨w.heap.size+1,0,none⟩=false/\w'.frozen? ⟨w.heap.size+1,1,none⟩=false/\w'.frozen? ⟨w.heap.size+1,2,none⟩=false:=λw' hh=>by
  have r1:=hh.par (p:=(w.heap.size,[.bool true,.slice aV (ae af x.num.natAbs).length aX,.slice aW (ae af x.den).length aY],38)) (by simp)
  exact⟨hh,r1.cell (i:=0) rfl,r1.cell (i:=1) rfl,r1.cell (i:=2) rfl,hh.dH (i:=0) (by omega),hh.dH (i:=1) (by omega),hh.dH (i:=2) (by omega),hh.ou 0,hh.ou 1,hh.ou 2⟩
 have hz:aC w (w.heap.size+1) 3 38 [(w.heap.size,[.bool true,.slice aV (ae af x.num.natAbs).length aX,.slice aW (ae af x.den).length aY],38)] w2:=⟨B0,by omega,by intro q hq; simp at hq; subst hq; exact⟨by simp,p1⟩,_,rfl,p2,bP⟩
 clear e1 e2 o1 b1 s1 p1 o2 b2 s2 p2
 clear B0
 have hz:=hz.drew
 (try have bV:=bq.drew' bV)
 (try have hq:=bq.drew' hq)
 (try have hr1:=bq.drew' hr1)
 (try have hs1:=bq.drew' hs1)
 (try have jL:=bq.drew' jL)
 go_region_held3 (λw'=>aC w (w.heap.size+1) 3 38 [(w.heap.size,[.bool true,.slice aV (ae af x.num.natAbs).length aX,.slice aW (ae af x.den).length aY],38)] w'/\w'.cell? ⟨w.heap.size,0,none⟩=some (.bool true)/\w'.cell? ⟨w.heap.size,1,none⟩=some (.slice aV (ae af x.num.natAbs).length aX)/\w'.cell? ⟨w.heap.size,2,none⟩=some (.slice aW (ae af x.den).length aY)/\w'.cell? ⟨w.heap.size+1,0,none⟩=some (cv w' ⟨w.heap.size+1,0,none⟩)/\w'.cell? ⟨w.heap.size+1,1,none⟩=some (cv w' ⟨w.heap.size+1,1,none⟩)/\w'.cell? ⟨w.heap.size+1,2,none⟩=some (cv w' ⟨w.heap.size+1,2,none⟩)/\w'.frozen? ⟨w.heap.size+1,0,none⟩=false/\w'.frozen? ⟨w.heap.size+1,1,none⟩=false/\w'.frozen? ⟨w.heap.size+1,2,none⟩=false)
  (first|exact hS _ hz|exact hS _ (aC.nt hz))
  (first
   |(go_at_call 50; (with_reducible refine Calls.mono (cN _ _ x (hx0.below hz.b)) ?_); rintro e wz ⟨PR,rfl,bV,hb⟩; (try have bV:=bV.below hb); (try have hq:=hq.below hb); (try have hr1:=hr1.below hb); (try have hs1:=hs1.below hb); (try have jL:=jL.below hb); have hz:=aC.call (And.intro hz trivial) hb)
   |(go_at_call 84; (with_reducible refine Calls.mono (fZ _ _ _ _ _ (cw.below hz.b) bV rh HB.out.1 HB.out.2 (by omega)) ?_); rintro e wz ⟨vq,vr,rfl,hq,hr1,hb⟩; (try have bV:=bV.below hb); (try have hq:=hq.below hb); (try have hr1:=hr1.below hb); (try have hs1:=hs1.below hb); (try have jL:=jL.below hb); have hz:=aC.call (And.intro hz trivial) hb))
 all_goals (
  obtain⟨_,k0,k1,k2,_⟩:=hS _ hz
  obtain⟨Wc,WA,rfl,Nc⟩:=id hr1
  have hlr:=HL.out _ rfl
  have hlen:=Nc.len
  generalize (ae af (x.num.natAbs%x.den)).length=L0 at *
  go_wp2_with fail
  clear k0 k1 k2
  refine Calls.mono (dA _ 1 (by unfold b64; omega)) ?_
  rintro e wz ⟨v1n,rfl,jL,hb⟩
  have hq:=hq.below hb
  have hz:=aC.call (And.intro hz trivial) hb
  go_wp2_with fail
  refine Calls.mono (EF _ _ _ _ 1 hq jL (HB.out.1.le (Nat.div_le_self _ _)) (k:=1) (by unfold Bd; omega) (by omega) (by omega)) ?_
  rintro e wz ⟨vs,rfl,hs1,hb⟩
  have hz:=aC.call (And.intro hz trivial) hb
  clear hq jL
  obtain⟨_,k0,k1,k2,_⟩:=hS _ hz
  go_wp2_with fail
  clear k0 k1 k2
  have hz:=hz.drew
  (try have bV:=bq.drew' bV)
  (try have hq:=bq.drew' hq)
  (try have hr1:=bq.drew' hr1)
  (try have hs1:=bq.drew' hs1)
  (try have jL:=bq.drew' jL)
  go_region_held3 (λw'=>aC w (w.heap.size+1) 3 38 [(w.heap.size,[.bool true,.slice aV (ae af x.num.natAbs).length aX,.slice aW (ae af x.den).length aY],38)] w'/\w'.cell? ⟨w.heap.size,0,none⟩=some (.bool true)/\w'.cell? ⟨w.heap.size,1,none⟩=some (.slice aV (ae af x.num.natAbs).length aX)/\w'.cell? ⟨w.heap.size,2,none⟩=some (.slice aW (ae af x.den).length aY)/\w'.cell? ⟨w.heap.size+1,0,none⟩=some (cv w' ⟨w.heap.size+1,0,none⟩)/\w'.cell? ⟨w.heap.size+1,1,none⟩=some (cv w' ⟨w.heap.size+1,1,none⟩)/\w'.cell? ⟨w.heap.size+1,2,none⟩=some (cv w' ⟨w.heap.size+1,2,none⟩)/\w'.frozen? ⟨w.heap.size+1,0,none⟩=false/\w'.frozen? ⟨w.heap.size+1,1,none⟩=false/\w'.frozen? ⟨w.heap.size+1,2,none⟩=false)
   (first|exact hS _ hz|exact hS _ (aC.nt hz))
   (first
    |(go_at_call 69; (with_reducible refine Calls.mono (dA _ 1 (by unfold b64; omega)) ?_); rintro e wz ⟨vo,rfl,jL,hb⟩; (try have bV:=bV.below hb); (try have hq:=hq.below hb); (try have hr1:=hr1.below hb); (try have hs1:=hs1.below hb); (try have jL:=jL.below hb); have hz:=aC.call (And.intro hz trivial) hb)
    |(go_at_call 48; (with_reducible refine Calls.mono (iz _ true _ _ (x.num.natAbs/x.den+1) 1 hs1 jL (by omega) Qh.out (by unfold Bd; have:=Nat.pow_lt_pow_right (show 1<2 by omega) (show 0<j+2 by omega); omega) (by omega)) ?_); rintro e wz ⟨vr,rfl,hr,hb⟩; (try have bV:=bV.below hb); (try have hq:=hq.below hb); (try have hr1:=hr1.below hb); (try have hs1:=hs1.below hb); (try have jL:=jL.below hb); have hz:=aC.call (And.intro hz trivial) hb; obtain⟨Ki,EN,rfl,uh,hrb⟩:=id hr; obtain⟨mo,my,rfl,_⟩:=id uh; obtain⟨mw,mz,rfl,_⟩:=id hrb))
  all_goals (
   generalize cL true (x.num.natAbs/x.den+1) 1=qq at *
   go_wp2
   obtain⟨wf,HW,ho,hB,hN⟩:=hz.fin [.bool (decide (qq.num<0)),.slice mo (ae af qq.num.natAbs).length my,.slice mw (ae af qq.den).length mz] rfl bP
   simp only[ct,Nat.reduceAdd]at HW
   (try rw[HW])
   (try simp only[Exit.inBlock,Exit.then])
   have f0:=ho.cell (i:=0) rfl
   have f1:=ho.cell (i:=1) rfl
   have f2:=ho.cell (i:=2) rfl
   refine bodyPost_ret (by simp[results,Tryz.results126,go_sem,f0,f1,f2]; try rfl) rfl ?_
   exact⟨_,rfl,hr.into hN,hB⟩))
set_option maxHeartbeats 4000000 in
theorem Jl (w:World) (vx:Value) (x:Rat) (hx:cH w vx x) {j:Nat} (hj:bg j x) (kP:j<=1000000) (hn:x.num<0) (hr:¬0<x.num.natAbs%x.den):Calls Tryz.prog 126 #[vx] w (eD w (gB x)):=by
 obtain⟨oz,oA,rfl,cw,cT⟩:=id hx
 obtain⟨aV,aX,rfl,_⟩:=id cw
 obtain⟨aW,aY,rfl,_⟩:=id cT
 have hf:decide (x.num<0)=true:=decide_eq_true hn
 have hQ:gB x=cL true (x.num.natAbs/x.den) 1:=by unfold gB; rw[hf,if_neg (λh=>hr h.2),Nat.add_zero]
 have HQ:=bx hQ
 have HB:Bx (Bd j x.num.natAbs/\Bd j x.den):=bx hj
 have Qh:Bx (Bd (j+2) (x.num.natAbs/x.den)):=bx (by have h1:=hj.1.le (Nat.div_le_self x.num.natAbs x.den); exact h1.mono (by omega))
 have rh:=x.den_pos
 have hl:x.num.natAbs%x.den=0:=by omega
 have HL:=bx hl
 have hx0:=hx
 rw[hQ]
 rw[hf]at hx0
 try rw[hf]
 clear hx hj hQ hf hn hr hl
 go_enter Tryz.func126,Tryz.ntmps126
 go_wp2_with fail
 obtain⟨w1,e1,o1,b1,s1⟩:=dy w [.bool true,.slice aV (ae af x.num.natAbs).length aX,.slice aW (ae af x.den).length aY] 38
 obtain⟨w2,e2,o2,b2,s2⟩:=dy w1 [.bool false,.slice none 0 0,.slice none 0 0] 38
 rw[e1,e2]
 rw[s1]at o2
 have p1:=(o1.gone b2)
 have p2:=o2
 have B0:=(b1.trans (b2.mono b1.size))
 have hS:∀w',aC w (w.heap.size+1) 3 38 [(w.heap.size,[.bool true,.slice aV (ae af x.num.natAbs).length aX,.slice aW (ae af x.den).length aY],38)] w'->aC w (w.heap.size+1) 3 38 [(w.heap.size,[.bool true,.slice aV (ae af x.num.natAbs).length aX,.slice aW (ae af x.den).length aY],38)] w'/\w'.cell? ⟨w.heap.size,0,none⟩=some (.bool true)/\w'.cell? ⟨w.heap.size,1,none⟩=some (.slice aV (ae af x.num.natAbs).length aX)/\w'.cell? ⟨w.heap.size,2,none⟩=some (.slice aW (ae af x.den).length aY)/\w'.cell? ⟨w.heap.size+1,0,none⟩=some (cv w' ⟨w.heap.size+1,0,none⟩)/\w'.cell? ⟨w.heap.size+1,1,none⟩=some (cv w' ⟨w.heap.size+1,1,none⟩)/\w'.cell? ⟨w.heap.size+1,2,none⟩=some (cv w' ⟨w.heap.size+1,2,none⟩)/\w'.frozen? ⟨w.heap.size+1,0,none⟩=false/\w'.frozen? ⟨w.heap.size+1,1,none⟩=false/\w'.frozen? ⟨w.heap.size+1,2,none⟩=false:=λw' hh=>by
  have r1:=hh.par (p:=(w.heap.size,[.bool true,.slice aV (ae af x.num.natAbs).length aX,.slice aW (ae af x.den).length aY],38)) (by simp)
  exact⟨hh,r1.cell (i:=0) rfl,r1.cell (i:=1) rfl,r1.cell (i:=2) rfl,hh.dH (i:=0) (by omega),hh.dH (i:=1) (by omega),hh.dH (i:=2) (by omega),hh.ou 0,hh.ou 1,hh.ou 2⟩
 have hz:aC w (w.heap.size+1) 3 38 [(w.heap.size,[.bool true,.slice aV (ae af x.num.natAbs).length aX,.slice aW (ae af x.den).length aY],38)] w2:=⟨B0,by omega,by intro q hq; simp at hq; subst hq; exact⟨by simp,p1⟩,_,rfl,p2,bP⟩
 clear e1 e2 o1 b1 s1 p1 o2 b2 s2 p2
 clear B0
 have hz:=hz.drew
 (try have bV:=bq.drew' bV)
 (try have hq:=bq.drew' hq)
 (try have hr1:=bq.drew' hr1)
 (try have hs1:=bq.drew' hs1)
 (try have jL:=bq.drew' jL)
 go_region_held3 (λw'=>aC w (w.heap.size+1) 3 38 [(w.heap.size,[.bool true,.slice aV (ae af x.num.natAbs).length aX,.slice aW (ae af x.den).length aY],38)] w'/\w'.cell? ⟨w.heap.size,0,none⟩=some (.bool true)/\w'.cell? ⟨w.heap.size,1,none⟩=some (.slice aV (ae af x.num.natAbs).length aX)/\w'.cell? ⟨w.heap.size,2,none⟩=some (.slice aW (ae af x.den).length aY)/\w'.cell? ⟨w.heap.size+1,0,none⟩=some (cv w' ⟨w.heap.size+1,0,none⟩)/\w'.cell? ⟨w.heap.size+1,1,none⟩=some (cv w' ⟨w.heap.size+1,1,none⟩)/\w'.cell? ⟨w.heap.size+1,2,none⟩=some (cv w' ⟨w.heap.size+1,2,none⟩)/\w'.frozen? ⟨w.heap.size+1,0,none⟩=false/\w'.frozen? ⟨w.heap.size+1,1,none⟩=false/\w'.frozen? ⟨w.heap.size+1,2,none⟩=false)
  (first|exact hS _ hz|exact hS _ (aC.nt hz))
  (first
   |(go_at_call 50; (with_reducible refine Calls.mono (cN _ _ x (hx0.below hz.b)) ?_); rintro e wz ⟨PR,rfl,bV,hb⟩; (try have bV:=bV.below hb); (try have hq:=hq.below hb); (try have hr1:=hr1.below hb); (try have hs1:=hs1.below hb); (try have jL:=jL.below hb); have hz:=aC.call (And.intro hz trivial) hb)
   |(go_at_call 84; (with_reducible refine Calls.mono (fZ _ _ _ _ _ (cw.below hz.b) bV rh HB.out.1 HB.out.2 (by omega)) ?_); rintro e wz ⟨vq,vr,rfl,hq,hr1,hb⟩; (try have bV:=bV.below hb); (try have hq:=hq.below hb); (try have hr1:=hr1.below hb); (try have hs1:=hs1.below hb); (try have jL:=jL.below hb); have hz:=aC.call (And.intro hz trivial) hb))
 all_goals (
  obtain⟨_,k0,k1,k2,_⟩:=hS _ hz
  obtain⟨Wc,WA,rfl,Nc⟩:=id hr1
  rw[HL.out,bE]
  go_wp2_with fail
  clear k0 k1 k2
  have hz:=hz.drew
  (try have bV:=bq.drew' bV)
  (try have hq:=bq.drew' hq)
  (try have hr1:=bq.drew' hr1)
  (try have hs1:=bq.drew' hs1)
  (try have jL:=bq.drew' jL)
  go_region_held3 (λw'=>aC w (w.heap.size+1) 3 38 [(w.heap.size,[.bool true,.slice aV (ae af x.num.natAbs).length aX,.slice aW (ae af x.den).length aY],38)] w'/\w'.cell? ⟨w.heap.size,0,none⟩=some (.bool true)/\w'.cell? ⟨w.heap.size,1,none⟩=some (.slice aV (ae af x.num.natAbs).length aX)/\w'.cell? ⟨w.heap.size,2,none⟩=some (.slice aW (ae af x.den).length aY)/\w'.cell? ⟨w.heap.size+1,0,none⟩=some (cv w' ⟨w.heap.size+1,0,none⟩)/\w'.cell? ⟨w.heap.size+1,1,none⟩=some (cv w' ⟨w.heap.size+1,1,none⟩)/\w'.cell? ⟨w.heap.size+1,2,none⟩=some (cv w' ⟨w.heap.size+1,2,none⟩)/\w'.frozen? ⟨w.heap.size+1,0,none⟩=false/\w'.frozen? ⟨w.heap.size+1,1,none⟩=false/\w'.frozen? ⟨w.heap.size+1,2,none⟩=false)
   (first|exact hS _ hz|exact hS _ (aC.nt hz))
   (first
    |(go_at_call 69; (with_reducible refine Calls.mono (dA _ 1 (by unfold b64; omega)) ?_); rintro e wz ⟨vo,rfl,jL,hb⟩; (try have bV:=bV.below hb); (try have hq:=hq.below hb); (try have hr1:=hr1.below hb); (try have hs1:=hs1.below hb); (try have jL:=jL.below hb); have hz:=aC.call (And.intro hz trivial) hb)
    |(go_at_call 48; (with_reducible refine Calls.mono (iz _ true _ _ (x.num.natAbs/x.den) 1 hq jL (by omega) Qh.out (by unfold Bd; have:=Nat.pow_lt_pow_right (show 1<2 by omega) (show 0<j+2 by omega); omega) (by omega)) ?_); rintro e wz ⟨vr,rfl,hr,hb⟩; (try have bV:=bV.below hb); (try have hq:=hq.below hb); (try have hr1:=hr1.below hb); (try have hs1:=hs1.below hb); (try have jL:=jL.below hb); have hz:=aC.call (And.intro hz trivial) hb; obtain⟨Ki,EN,rfl,uh,hrb⟩:=id hr; obtain⟨mo,my,rfl,_⟩:=id uh; obtain⟨mw,mz,rfl,_⟩:=id hrb))
  all_goals (
   generalize cL true (x.num.natAbs/x.den) 1=qq at *
   go_wp2
   obtain⟨wf,HW,ho,hB,hN⟩:=hz.fin [.bool (decide (qq.num<0)),.slice mo (ae af qq.num.natAbs).length my,.slice mw (ae af qq.den).length mz] rfl bP
   simp only[ct,Nat.reduceAdd]at HW
   (try rw[HW])
   (try simp only[Exit.inBlock,Exit.then])
   have f0:=ho.cell (i:=0) rfl
   have f1:=ho.cell (i:=1) rfl
   have f2:=ho.cell (i:=2) rfl
   refine bodyPost_ret (by simp[results,Tryz.results126,go_sem,f0,f1,f2]; try rfl) rfl ?_
   exact⟨_,rfl,hr.into hN,hB⟩))
set_option maxHeartbeats 4000000 in
theorem Jm (w:World) (vx:Value) (x:Rat) (hx:cH w vx x) {j:Nat} (hj:bg j x) (kP:j<=1000000) (hn:¬x.num<0):Calls Tryz.prog 126 #[vx] w (eD w (gB x)):=by
 obtain⟨oz,oA,rfl,cw,cT⟩:=id hx
 obtain⟨aV,aX,rfl,_⟩:=id cw
 obtain⟨aW,aY,rfl,_⟩:=id cT
 have hf:decide (x.num<0)=false:=decide_eq_false hn
 have hQ:gB x=cL false (x.num.natAbs/x.den) 1:=by unfold gB; rw[hf,if_neg (λh=>hn h.1),Nat.add_zero]
 have HQ:=bx hQ
 have HB:Bx (Bd j x.num.natAbs/\Bd j x.den):=bx hj
 have Qh:Bx (Bd (j+2) (x.num.natAbs/x.den)):=bx (by have h1:=hj.1.le (Nat.div_le_self x.num.natAbs x.den); exact h1.mono (by omega))
 have rh:=x.den_pos
 have hx0:=hx
 rw[hQ]
 rw[hf]at hx0
 try rw[hf]
 clear hx hj hQ hf hn
 go_enter Tryz.func126,Tryz.ntmps126
 go_wp2_with fail
 obtain⟨w1,e1,o1,b1,s1⟩:=dy w [.bool false,.slice aV (ae af x.num.natAbs).length aX,.slice aW (ae af x.den).length aY] 38
 obtain⟨w2,e2,o2,b2,s2⟩:=dy w1 [.bool false,.slice none 0 0,.slice none 0 0] 38
 rw[e1,e2]
 rw[s1]at o2
 have p1:=(o1.gone b2)
 have p2:=o2
 have B0:=(b1.trans (b2.mono b1.size))
 have hS:∀w',aC w (w.heap.size+1) 3 38 [(w.heap.size,[.bool false,.slice aV (ae af x.num.natAbs).length aX,.slice aW (ae af x.den).length aY],38)] w'->aC w (w.heap.size+1) 3 38 [(w.heap.size,[.bool false,.slice aV (ae af x.num.natAbs).length aX,.slice aW (ae af x.den).length aY],38)] w'/\w'.cell? ⟨w.heap.size,0,none⟩=some (.bool false)/\w'.cell? ⟨w.heap.size,1,none⟩=some (.slice aV (ae af x.num.natAbs).length aX)/\w'.cell? ⟨w.heap.size,2,none⟩=some (.slice aW (ae af x.den).length aY)/\w'.cell? ⟨w.heap.size+1,0,none⟩=some (cv w' ⟨w.heap.size+1,0,none⟩)/\w'.cell? ⟨w.heap.size+1,1,none⟩=some (cv w' ⟨w.heap.size+1,1,none⟩)/\w'.cell? ⟨w.heap.size+1,2,none⟩=some (cv w' ⟨w.heap.size+1,2,none⟩)/\w'.frozen? ⟨w.heap.size+1,0,none⟩=false/\w'.frozen? ⟨w.heap.size+1,1,none⟩=false/\w'.frozen? ⟨w.heap.size+1,2,none⟩=false:=λw' hh=>by
  have r1:=hh.par (p:=(w.heap.size,[.bool false,.slice aV (ae af x.num.natAbs).length aX,.slice aW (ae af x.den).length aY],38)) (by simp)
  exact⟨hh,r1.cell (i:=0) rfl,r1.cell (i:=1) rfl,r1.cell (i:=2) rfl,hh.dH (i:=0) (by omega),hh.dH (i:=1) (by omega),hh.dH (i:=2) (by omega),hh.ou 0,hh.ou 1,hh.ou 2⟩
 have hz:aC w (w.heap.size+1) 3 38 [(w.heap.size,[.bool false,.slice aV (ae af x.num.natAbs).length aX,.slice aW (ae af x.den).length aY],38)] w2:=⟨B0,by omega,by intro q hq; simp at hq; subst hq; exact⟨by simp,p1⟩,_,rfl,p2,bP⟩
 clear e1 e2 o1 b1 s1 p1 o2 b2 s2 p2
 clear B0
 have hz:=hz.drew
 (try have bV:=bq.drew' bV)
 (try have hq:=bq.drew' hq)
 (try have hr1:=bq.drew' hr1)
 (try have hs1:=bq.drew' hs1)
 (try have jL:=bq.drew' jL)
 go_region_held3 (λw'=>aC w (w.heap.size+1) 3 38 [(w.heap.size,[.bool false,.slice aV (ae af x.num.natAbs).length aX,.slice aW (ae af x.den).length aY],38)] w'/\w'.cell? ⟨w.heap.size,0,none⟩=some (.bool false)/\w'.cell? ⟨w.heap.size,1,none⟩=some (.slice aV (ae af x.num.natAbs).length aX)/\w'.cell? ⟨w.heap.size,2,none⟩=some (.slice aW (ae af x.den).length aY)/\w'.cell? ⟨w.heap.size+1,0,none⟩=some (cv w' ⟨w.heap.size+1,0,none⟩)/\w'.cell? ⟨w.heap.size+1,1,none⟩=some (cv w' ⟨w.heap.size+1,1,none⟩)/\w'.cell? ⟨w.heap.size+1,2,none⟩=some (cv w' ⟨w.heap.size+1,2,none⟩)/\w'.frozen? ⟨w.heap.size+1,0,none⟩=false/\w'.frozen? ⟨w.heap.size+1,1,none⟩=false/\w'.frozen? ⟨w.heap.size+1,2,none⟩=false)
  (first|exact hS _ hz|exact hS _ (aC.nt hz))
  (first
   |(go_at_call 50; (with_reducible refine Calls.mono (cN _ _ x (hx0.below hz.b)) ?_); rintro e wz ⟨PR,rfl,bV,hb⟩; (try have bV:=bV.below hb); (try have hq:=hq.below hb); (try have hr1:=hr1.below hb); (try have hs1:=hs1.below hb); (try have jL:=jL.below hb); have hz:=aC.call (And.intro hz trivial) hb)
   |(go_at_call 84; (with_reducible refine Calls.mono (fZ _ _ _ _ _ (cw.below hz.b) bV rh HB.out.1 HB.out.2 (by omega)) ?_); rintro e wz ⟨vq,vr,rfl,hq,hr1,hb⟩; (try have bV:=bV.below hb); (try have hq:=hq.below hb); (try have hr1:=hr1.below hb); (try have hs1:=hs1.below hb); (try have jL:=jL.below hb); have hz:=aC.call (And.intro hz trivial) hb))
 all_goals (
  obtain⟨_,k0,k1,k2,_⟩:=hS _ hz
  obtain⟨Wc,WA,rfl,Nc⟩:=id hr1
  generalize (ae af (x.num.natAbs%x.den)).length=L0 at *
  go_wp2_with fail
  clear k0 k1 k2
  have hz:=hz.drew
  (try have bV:=bq.drew' bV)
  (try have hq:=bq.drew' hq)
  (try have hr1:=bq.drew' hr1)
  (try have hs1:=bq.drew' hs1)
  (try have jL:=bq.drew' jL)
  go_region_held3 (λw'=>aC w (w.heap.size+1) 3 38 [(w.heap.size,[.bool false,.slice aV (ae af x.num.natAbs).length aX,.slice aW (ae af x.den).length aY],38)] w'/\w'.cell? ⟨w.heap.size,0,none⟩=some (.bool false)/\w'.cell? ⟨w.heap.size,1,none⟩=some (.slice aV (ae af x.num.natAbs).length aX)/\w'.cell? ⟨w.heap.size,2,none⟩=some (.slice aW (ae af x.den).length aY)/\w'.cell? ⟨w.heap.size+1,0,none⟩=some (cv w' ⟨w.heap.size+1,0,none⟩)/\w'.cell? ⟨w.heap.size+1,1,none⟩=some (cv w' ⟨w.heap.size+1,1,none⟩)/\w'.cell? ⟨w.heap.size+1,2,none⟩=some (cv w' ⟨w.heap.size+1,2,none⟩)/\w'.frozen? ⟨w.heap.size+1,0,none⟩=false/\w'.frozen? ⟨w.heap.size+1,1,none⟩=false/\w'.frozen? ⟨w.heap.size+1,2,none⟩=false)
   (first|exact hS _ hz|exact hS _ (aC.nt hz))
   (first
    |(go_at_call 69; (with_reducible refine Calls.mono (dA _ 1 (by unfold b64; omega)) ?_); rintro e wz ⟨vo,rfl,jL,hb⟩; (try have bV:=bV.below hb); (try have hq:=hq.below hb); (try have hr1:=hr1.below hb); (try have hs1:=hs1.below hb); (try have jL:=jL.below hb); have hz:=aC.call (And.intro hz trivial) hb)
    |(go_at_call 48; (with_reducible refine Calls.mono (iz _ false _ _ (x.num.natAbs/x.den) 1 hq jL (by omega) Qh.out (by unfold Bd; have:=Nat.pow_lt_pow_right (show 1<2 by omega) (show 0<j+2 by omega); omega) (by omega)) ?_); rintro e wz ⟨vr,rfl,hr,hb⟩; (try have bV:=bV.below hb); (try have hq:=hq.below hb); (try have hr1:=hr1.below hb); (try have hs1:=hs1.below hb); (try have jL:=jL.below hb); have hz:=aC.call (And.intro hz trivial) hb; obtain⟨Ki,EN,rfl,uh,hrb⟩:=id hr; obtain⟨mo,my,rfl,_⟩:=id uh; obtain⟨mw,mz,rfl,_⟩:=id hrb))
  all_goals (
   generalize cL false (x.num.natAbs/x.den) 1=qq at *
   go_wp2
   obtain⟨wf,HW,ho,hB,hN⟩:=hz.fin [.bool (decide (qq.num<0)),.slice mo (ae af qq.num.natAbs).length my,.slice mw (ae af qq.den).length mz] rfl bP
   simp only[ct,Nat.reduceAdd]at HW
   (try rw[HW])
   (try simp only[Exit.inBlock,Exit.then])
   have f0:=ho.cell (i:=0) rfl
   have f1:=ho.cell (i:=1) rfl
   have f2:=ho.cell (i:=2) rfl
   refine bodyPost_ret (by simp[results,Tryz.results126,go_sem,f0,f1,f2]; try rfl) rfl ?_
   exact⟨_,rfl,hr.into hN,hB⟩))
theorem CK (w:World) (vx:Value) (x:Rat) (hx:cH w vx x) {j:Nat} (hj:bg j x) (kP:j<=1000000):Calls Tryz.prog 126 #[vx] w (eD w (gB x)):=by
 by_cases hn:x.num<0
 ·by_cases hr:0<x.num.natAbs%x.den
  ·exact Jk w vx x hx hj kP hn hr
  ·exact Jl w vx x hx hj kP hn hr
 ·exact Jm w vx x hx hj kP hn
end Wx
