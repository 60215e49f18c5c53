import Derived.Test.YtocboimkilkklaaGreatJRF23
namespace Wx
set_option maxRecDepth 100000
open Go Go.RowKit Go.Proofs
def bitsOf (k:Int):Nat:=(min (max k 0) 256).toNat
theorem gE (k:Int):min (max k 0) 256=((bitsOf k:Nat):Int)/\bitsOf k<=256:=by unfold bitsOf; omega
def pT (x:Rat) (k:Int):Nat:=x.num.natAbs*2^bitsOf k/x.den+(if x.num<0/\0<x.num.natAbs*2^bitsOf k%x.den then 1 else 0)
def bT (x:Rat) (k:Int):Rat:=cL (decide (x.num<0)) (pT x k) (2^bitsOf k)
set_option maxHeartbeats 8000000 in
theorem Om (w:World) (vx:Value) (x:Rat) (k:Int) (hx:cq w vx x) {j:Nat} (hj:bg j x) (kP:j<=10000000) (hn:x.num<0) (hr:0<x.num.natAbs*2^bitsOf k%x.den):Calls Tryz.prog 87 #[vx,.int .i64 k] w (fD w (bT x k)):=by
 obtain⟨oz,oA,rfl,cw,cT⟩:=id hx
 obtain⟨aV,aX,rfl,_⟩:=id cw
 obtain⟨aW,aY,rfl,_⟩:=id cT
 obtain⟨jE,hk2⟩:=gE k
 have hq:pT x k=x.num.natAbs*2^bitsOf k/x.den+1:=by
  unfold pT
  rw[if_pos ⟨hn,hr⟩]
 have hf:decide (x.num<0)=true:=decide_eq_true hn
 have hd:bT x k=cL true (x.num.natAbs*2^bitsOf k/x.den+1) (2^bitsOf k):=by unfold bT; rw[hq,hf]
 have Qi:=bx hd
 have rh:=x.den_pos
 generalize bitsOf k=K at *
 have b0:Bd 257 (2^K):=Bd.pow2 (by omega)
 have b1:Bd (j+257) (x.num.natAbs*2^K):=hj.1.mul b0
 have b2:Bd (j+257) (x.num.natAbs*2^K/x.den):=b1.le (Nat.div_le_self _ _)
 have b3:Bd (j+259) (x.num.natAbs*2^K/x.den+1):=(b2.add (show Bd 1 1 by unfold Bd; omega)).mono (by omega)
 have HB:=bx (And.intro hj (And.intro b0 (And.intro b1 (And.intro b2 b3))))
 have HK:=bx jE
 have Mz:=bx hk2
 have RD:j+257<=100000000:=by omega
 have OL:j+257<=1000000000:=by omega
 have IC:j+259<=100000000:=by omega
 have RB:j<=1000000000:=by omega
 have HP:Bx (0<2^K):=bx (Nat.two_pow_pos K)
 have HR:Bx ((0:Int)<((ae b64 (x.num.natAbs*2^K%x.den)).length:Int)):=bx (by have:=(az (n:=x.num.natAbs*2^K%x.den) ai).2 hr; omega)
 rw[hf]at *
 clear b0 b1 b2 b3 jE hk2 hd hq hj hf hn hr
 go_enter Tryz.func87,Tryz.ntmps87
 go_wp2_with fail
 rw[HK.out]
 obtain⟨w1,e1,o1,b1,s1⟩:=fh w (.bool true) (.slice aV (ae b64 x.num.natAbs).length aX) (.slice aW (ae b64 (ah x.den)).length aY) 32
 obtain⟨w2,e2,o2,b2,s2⟩:=fh w1 (.bool false) (.slice none 0 0) (.slice none 0 0) 32
 rw[e1,e2]
 rw[s1]at o2
 have p1:=(o1.gone b2)
 have p2:=o2
 have B0:=(b1.trans (b2.mono b1.size))
 have hS:∀w',aD w (w.heap.size+1) 32 [(w.heap.size,.bool true,.slice aV (ae b64 x.num.natAbs).length aX,.slice aW (ae b64 (ah x.den)).length aY)] w'->aD w (w.heap.size+1) 32 [(w.heap.size,.bool true,.slice aV (ae b64 x.num.natAbs).length aX,.slice aW (ae b64 (ah x.den)).length aY)] w'/\w'.cell? ⟨w.heap.size,0,none⟩=some (.bool true)/\w'.cell? ⟨w.heap.size,1,none⟩=some (.slice aV (ae b64 x.num.natAbs).length aX)/\w'.cell? ⟨w.heap.size,2,none⟩=some (.slice aW (ae b64 (ah x.den)).length aY)/\w'.cell? ⟨w.heap.size+1,0,none⟩=some (cv w' ⟨w.heap.size+1,0,none⟩)/\w'.cell? ⟨w.heap.size+1,1,none⟩=some (cv w' ⟨w.heap.size+1,1,none⟩)/\w'.cell? ⟨w.heap.size+1,2,none⟩=some (cv w' ⟨w.heap.size+1,2,none⟩)/\w'.frozen? ⟨w.heap.size+1,0,none⟩=false/\w'.frozen? ⟨w.heap.size+1,1,none⟩=false/\w'.frozen? ⟨w.heap.size+1,2,none⟩=false:=λw' hh=>by
  obtain⟨f0,f1,f2,f3,f4,f5⟩:=hh.cells
  have q1:=(hh.2.2.1 (w.heap.size,.bool true,.slice aV (ae b64 x.num.natAbs).length aX,.slice aW (ae b64 (ah x.den)).length aY) (by simp)).2
  exact⟨hh,q1.c0,q1.c1,q1.c2,f0,f1,f2,f3,f4,f5⟩
 have H0:aD w (w.heap.size+1) 32 [(w.heap.size,.bool true,.slice aV (ae b64 x.num.natAbs).length aX,.slice aW (ae b64 (ah x.den)).length aY)] w2:=⟨B0,by omega,by intro p hp; simp at hp; subst hp; exact⟨by simp,p1⟩,_,_,_,p2,cj _,aG _ _ _,aG _ _ _⟩
 clear e1 e2
 have hz:=H0.drew
 go_region_held3 (λw'=>aD w (w.heap.size+1) 32 [(w.heap.size,.bool true,.slice aV (ae b64 x.num.natAbs).length aX,.slice aW (ae b64 (ah x.den)).length aY)] w'/\w'.cell? ⟨w.heap.size,0,none⟩=some (.bool true)/\w'.cell? ⟨w.heap.size,1,none⟩=some (.slice aV (ae b64 x.num.natAbs).length aX)/\w'.cell? ⟨w.heap.size,2,none⟩=some (.slice aW (ae b64 (ah x.den)).length aY)/\w'.cell? ⟨w.heap.size+1,0,none⟩=some (cv w' ⟨w.heap.size+1,0,none⟩)/\w'.cell? ⟨w.heap.size+1,1,none⟩=some (cv w' ⟨w.heap.size+1,1,none⟩)/\w'.cell? ⟨w.heap.size+1,2,none⟩=some (cv w' ⟨w.heap.size+1,2,none⟩)/\w'.frozen? ⟨w.heap.size+1,0,none⟩=false/\w'.frozen? ⟨w.heap.size+1,1,none⟩=false/\w'.frozen? ⟨w.heap.size+1,2,none⟩=false)
  (first|exact hS _ hz|exact hS _ (aD.sets (by assumption) _ _ _ _ _ _ _))
  (first
   |(go_at_call 124; have hc:=iy _ _ x.num.natAbs K (cw.below hz.1) HB.out.1.1 RB (Nat.le_trans Mz.out (by omega)); (with_reducible refine Calls.mono hc ?_); clear hc; rintro e wz ⟨vl,rfl,hl,hb⟩; (try have bV:=bV.below hb); (try have hl:=hl.below hb); (try have hq:=hq.below hb); (try have hr:=hr.below hb); (try have hp:=hp.below hb); (try have ho:=ho.below hb); have hz:=aD.call (by assumption) hb)
   |(go_at_call 70; have hc:=fC _ _ x.den (cT.below hz.1) rh; (with_reducible refine Calls.mono hc ?_); clear hc; rintro e wz ⟨vu,rfl,bV,hb⟩; (try have bV:=bV.below hb); (try have hl:=hl.below hb); (try have hq:=hq.below hb); (try have hr:=hr.below hb); (try have hp:=hp.below hb); (try have ho:=ho.below hb); have hz:=aD.call (by assumption) hb)
   |(go_at_call 112; have hc:=eX _ _ _ _ _ hl bV rh HB.out.2.2.1 RD; (with_reducible refine Calls.mono hc ?_); clear hc; rintro e wz ⟨vq,vr,rfl,hq,hr,hb⟩; (try have bV:=bV.below hb); (try have hl:=hl.below hb); (try have hq:=hq.below hb); (try have hr:=hr.below hb); (try have hp:=hp.below hb); (try have ho:=ho.below hb); have hz:=aD.call (by assumption) hb))
 all_goals (
  obtain⟨Ar,cr,rfl,_⟩:=id hr
  have HL:(0:Int)<((ae b64 (x.num.natAbs*2^K%x.den)).length:Int):=HR.out
  obtain⟨_,k0,k1,k2,k3,k4,k5,_⟩:=hS _ hz
  go_wp2_with fail
  refine(gR _ 1 (by unfold b64; omega)).mono ?_
  rintro e wz ⟨vo,rfl,ho,hb⟩
  have hq:=hq.below hb
  have hz:=aD.call (And.intro hz trivial) hb
  clear k0 k1 k2 k3 k4 k5
  obtain⟨_,k0,k1,k2,k3,k4,k5,_⟩:=hS _ hz
  go_wp2_with fail
  refine(Bl _ _ _ _ _ hq ho HB.out.2.2.2.1 (show Bd 1 1 by unfold Bd; omega) OL (by omega)).mono ?_
  rintro e wz ⟨vp,rfl,hq,hb⟩
  have hz:=aD.call (And.intro hz trivial) hb
  clear k0 k1 k2 k3 k4 k5
  obtain⟨_,k0,k1,k2,k3,k4,k5,_⟩:=hS _ hz
  go_wp2_with fail
  clear k0 k1 k2 k3 k4 k5
  have hz:=hz.drew
  have hq:=hq.drew
  go_region_held3 (λw'=>aD w (w.heap.size+1) 32 [(w.heap.size,.bool true,.slice aV (ae b64 x.num.natAbs).length aX,.slice aW (ae b64 (ah x.den)).length aY)] w'/\w'.cell? ⟨w.heap.size,0,none⟩=some (.bool true)/\w'.cell? ⟨w.heap.size,1,none⟩=some (.slice aV (ae b64 x.num.natAbs).length aX)/\w'.cell? ⟨w.heap.size,2,none⟩=some (.slice aW (ae b64 (ah x.den)).length aY)/\w'.cell? ⟨w.heap.size+1,0,none⟩=some (cv w' ⟨w.heap.size+1,0,none⟩)/\w'.cell? ⟨w.heap.size+1,1,none⟩=some (cv w' ⟨w.heap.size+1,1,none⟩)/\w'.cell? ⟨w.heap.size+1,2,none⟩=some (cv w' ⟨w.heap.size+1,2,none⟩)/\w'.frozen? ⟨w.heap.size+1,0,none⟩=false/\w'.frozen? ⟨w.heap.size+1,1,none⟩=false/\w'.frozen? ⟨w.heap.size+1,2,none⟩=false)
   (first|exact hS _ hz|exact hS _ (aD.sets (by assumption) _ _ _ _ _ _ _))
   (first
    |(go_at_call 104; refine Calls.mono (gR _ 1 (by unfold b64; omega)) ?_; rintro e wz ⟨XI,rfl,ho,hb⟩; have hq:=hq.below hb; have hz:=aD.call (by assumption) hb)
    |(go_at_call 124; have hc:=iy _ _ 1 K ho (show Bd 1 1 by unfold Bd; omega) (by omega) (Nat.le_trans Mz.out (by omega)); (with_reducible refine Calls.mono hc ?_); clear hc; rintro e wz ⟨vp,rfl,hp,hb⟩; (try have bV:=bV.below hb); (try have hl:=hl.below hb); (try have hq:=hq.below hb); (try have hr:=hr.below hb); (try have hp:=hp.below hb); (try have ho:=ho.below hb); have hz:=aD.call (by assumption) hb)
    |(go_at_call 67; have hc:=fO _ (true) _ _ _ _ hq hp (by rw[Nat.one_mul]; exact HP.out) HB.out.2.2.2.2 (by rw[Nat.one_mul]; exact HB.out.2.1.mono (by omega)) IC; (with_reducible refine Calls.mono hc ?_); clear hc; rintro e wz ⟨EN,rfl,pZ,hb⟩; rw[Nat.one_mul,<-Qi.out]at pZ; obtain⟨Mr,Mq,rfl,pY,hrd⟩:=pZ; obtain⟨mo,my,rfl,_⟩:=id pY; obtain⟨mw,mz,rfl,_⟩:=id hrd; (try have bV:=bV.below hb); (try have hl:=hl.below hb); (try have hq:=hq.below hb); (try have hr:=hr.below hb); (try have hp:=hp.below hb); (try have ho:=ho.below hb); have hz:=aD.call (by assumption) hb))
  all_goals (
   go_wp2
   obtain⟨wf,HW,f0,f1,f2,cW⟩:=hz.fin rfl pY hrd
   (try rw[HW])
   (try simp only[Exit.inBlock,Exit.then])
   refine bodyPost_ret (by simp[results,Tryz.results87,go_sem,f0,f1,f2]; try rfl) rfl ?_
   first|exact cW|exact cW.drew))
set_option maxHeartbeats 8000000 in
theorem On (w:World) (vx:Value) (x:Rat) (k:Int) (hx:cq w vx x) {j:Nat} (hj:bg j x) (kP:j<=10000000) (hn:x.num<0) (hr:¬0<x.num.natAbs*2^bitsOf k%x.den):Calls Tryz.prog 87 #[vx,.int .i64 k] w (fD w (bT x k)):=by
 obtain⟨oz,oA,rfl,cw,cT⟩:=id hx
 obtain⟨aV,aX,rfl,_⟩:=id cw
 obtain⟨aW,aY,rfl,_⟩:=id cT
 obtain⟨jE,hk2⟩:=gE k
 have hq:pT x k=x.num.natAbs*2^bitsOf k/x.den:=by
  unfold pT
  rw[if_neg (λh=>hr h.2),Nat.add_zero]
 have hf:decide (x.num<0)=true:=decide_eq_true hn
 have hd:bT x k=cL true (x.num.natAbs*2^bitsOf k/x.den) (2^bitsOf k):=by unfold bT; rw[hq,hf]
 have Qi:=bx hd
 have rh:=x.den_pos
 generalize bitsOf k=K at *
 have b0:Bd 257 (2^K):=Bd.pow2 (by omega)
 have b1:Bd (j+257) (x.num.natAbs*2^K):=hj.1.mul b0
 have b2:Bd (j+257) (x.num.natAbs*2^K/x.den):=b1.le (Nat.div_le_self _ _)
 have b3:Bd (j+259) (x.num.natAbs*2^K/x.den):=b2.mono (by omega)
 have HB:=bx (And.intro hj (And.intro b0 (And.intro b1 (And.intro b2 b3))))
 have HK:=bx jE
 have Mz:=bx hk2
 have RD:j+257<=100000000:=by omega
 have OL:j+257<=1000000000:=by omega
 have IC:j+259<=100000000:=by omega
 have RB:j<=1000000000:=by omega
 have HP:Bx (0<2^K):=bx (Nat.two_pow_pos K)
 have HR:Bx (x.num.natAbs*2^K%x.den=0):=bx (by omega)
 rw[hf]at *
 clear b0 b1 b2 b3 jE hk2 hd hq hj hf hn hr
 go_enter Tryz.func87,Tryz.ntmps87
 go_wp2_with fail
 rw[HK.out]
 obtain⟨w1,e1,o1,b1,s1⟩:=fh w (.bool true) (.slice aV (ae b64 x.num.natAbs).length aX) (.slice aW (ae b64 (ah x.den)).length aY) 32
 obtain⟨w2,e2,o2,b2,s2⟩:=fh w1 (.bool false) (.slice none 0 0) (.slice none 0 0) 32
 rw[e1,e2]
 rw[s1]at o2
 have p1:=(o1.gone b2)
 have p2:=o2
 have B0:=(b1.trans (b2.mono b1.size))
 have hS:∀w',aD w (w.heap.size+1) 32 [(w.heap.size,.bool true,.slice aV (ae b64 x.num.natAbs).length aX,.slice aW (ae b64 (ah x.den)).length aY)] w'->aD w (w.heap.size+1) 32 [(w.heap.size,.bool true,.slice aV (ae b64 x.num.natAbs).length aX,.slice aW (ae b64 (ah x.den)).length aY)] w'/\w'.cell? ⟨w.heap.size,0,none⟩=some (.bool true)/\w'.cell? ⟨w.heap.size,1,none⟩=some (.slice aV (ae b64 x.num.natAbs).length aX)/\w'.cell? ⟨w.heap.size,2,none⟩=some (.slice aW (ae b64 (ah x.den)).length aY)/\w'.cell? ⟨w.heap.size+1,0,none⟩=some (cv w' ⟨w.heap.size+1,0,none⟩)/\w'.cell? ⟨w.heap.size+1,1,none⟩=some (cv w' ⟨w.heap.size+1,1,none⟩)/\w'.cell? ⟨w.heap.size+1,2,none⟩=some (cv w' ⟨w.heap.size+1,2,none⟩)/\w'.frozen? ⟨w.heap.size+1,0,none⟩=false/\w'.frozen? ⟨w.heap.size+1,1,none⟩=false/\w'.frozen? ⟨w.heap.size+1,2,none⟩=false:=λw' hh=>by
  obtain⟨f0,f1,f2,f3,f4,f5⟩:=hh.cells
  have q1:=(hh.2.2.1 (w.heap.size,.bool true,.slice aV (ae b64 x.num.natAbs).length aX,.slice aW (ae b64 (ah x.den)).length aY) (by simp)).2
  exact⟨hh,q1.c0,q1.c1,q1.c2,f0,f1,f2,f3,f4,f5⟩
 have H0:aD w (w.heap.size+1) 32 [(w.heap.size,.bool true,.slice aV (ae b64 x.num.natAbs).length aX,.slice aW (ae b64 (ah x.den)).length aY)] w2:=⟨B0,by omega,by intro p hp; simp at hp; subst hp; exact⟨by simp,p1⟩,_,_,_,p2,cj _,aG _ _ _,aG _ _ _⟩
 clear e1 e2
 have hz:=H0.drew
 go_region_held3 (λw'=>aD w (w.heap.size+1) 32 [(w.heap.size,.bool true,.slice aV (ae b64 x.num.natAbs).length aX,.slice aW (ae b64 (ah x.den)).length aY)] w'/\w'.cell? ⟨w.heap.size,0,none⟩=some (.bool true)/\w'.cell? ⟨w.heap.size,1,none⟩=some (.slice aV (ae b64 x.num.natAbs).length aX)/\w'.cell? ⟨w.heap.size,2,none⟩=some (.slice aW (ae b64 (ah x.den)).length aY)/\w'.cell? ⟨w.heap.size+1,0,none⟩=some (cv w' ⟨w.heap.size+1,0,none⟩)/\w'.cell? ⟨w.heap.size+1,1,none⟩=some (cv w' ⟨w.heap.size+1,1,none⟩)/\w'.cell? ⟨w.heap.size+1,2,none⟩=some (cv w' ⟨w.heap.size+1,2,none⟩)/\w'.frozen? ⟨w.heap.size+1,0,none⟩=false/\w'.frozen? ⟨w.heap.size+1,1,none⟩=false/\w'.frozen? ⟨w.heap.size+1,2,none⟩=false)
  (first|exact hS _ hz|exact hS _ (aD.sets (by assumption) _ _ _ _ _ _ _))
  (first
   |(go_at_call 124; have hc:=iy _ _ x.num.natAbs K (cw.below hz.1) HB.out.1.1 RB (Nat.le_trans Mz.out (by omega)); (with_reducible refine Calls.mono hc ?_); clear hc; rintro e wz ⟨vl,rfl,hl,hb⟩; (try have bV:=bV.below hb); (try have hl:=hl.below hb); (try have hq:=hq.below hb); (try have hr:=hr.below hb); (try have hp:=hp.below hb); (try have ho:=ho.below hb); have hz:=aD.call (by assumption) hb)
   |(go_at_call 70; have hc:=fC _ _ x.den (cT.below hz.1) rh; (with_reducible refine Calls.mono hc ?_); clear hc; rintro e wz ⟨vu,rfl,bV,hb⟩; (try have bV:=bV.below hb); (try have hl:=hl.below hb); (try have hq:=hq.below hb); (try have hr:=hr.below hb); (try have hp:=hp.below hb); (try have ho:=ho.below hb); have hz:=aD.call (by assumption) hb)
   |(go_at_call 112; have hc:=eX _ _ _ _ _ hl bV rh HB.out.2.2.1 RD; (with_reducible refine Calls.mono hc ?_); clear hc; rintro e wz ⟨vq,vr,rfl,hq,hr,hb⟩; (try have bV:=bV.below hb); (try have hl:=hl.below hb); (try have hq:=hq.below hb); (try have hr:=hr.below hb); (try have hp:=hp.below hb); (try have ho:=ho.below hb); have hz:=aD.call (by assumption) hb))
 all_goals (
  obtain⟨Ar,cr,rfl,_⟩:=id hr
  have HL:(ae b64 (x.num.natAbs*2^K%x.den)).length=0:=by rw[HR.out]; rfl
  obtain⟨_,k0,k1,k2,k3,k4,k5,_⟩:=hS _ hz
  go_wp2_with fail
  clear k0 k1 k2 k3 k4 k5
  have hz:=hz.drew
  have hq:=hq.drew
  go_region_held3 (λw'=>aD w (w.heap.size+1) 32 [(w.heap.size,.bool true,.slice aV (ae b64 x.num.natAbs).length aX,.slice aW (ae b64 (ah x.den)).length aY)] w'/\w'.cell? ⟨w.heap.size,0,none⟩=some (.bool true)/\w'.cell? ⟨w.heap.size,1,none⟩=some (.slice aV (ae b64 x.num.natAbs).length aX)/\w'.cell? ⟨w.heap.size,2,none⟩=some (.slice aW (ae b64 (ah x.den)).length aY)/\w'.cell? ⟨w.heap.size+1,0,none⟩=some (cv w' ⟨w.heap.size+1,0,none⟩)/\w'.cell? ⟨w.heap.size+1,1,none⟩=some (cv w' ⟨w.heap.size+1,1,none⟩)/\w'.cell? ⟨w.heap.size+1,2,none⟩=some (cv w' ⟨w.heap.size+1,2,none⟩)/\w'.frozen? ⟨w.heap.size+1,0,none⟩=false/\w'.frozen? ⟨w.heap.size+1,1,none⟩=false/\w'.frozen? ⟨w.heap.size+1,2,none⟩=false)
   (first|exact hS _ hz|exact hS _ (aD.sets (by assumption) _ _ _ _ _ _ _))
   (first
    |(go_at_call 104; refine Calls.mono (gR _ 1 (by unfold b64; omega)) ?_; rintro e wz ⟨XI,rfl,ho,hb⟩; have hq:=hq.below hb; have hz:=aD.call (by assumption) hb)
    |(go_at_call 124; have hc:=iy _ _ 1 K ho (show Bd 1 1 by unfold Bd; omega) (by omega) (Nat.le_trans Mz.out (by omega)); (with_reducible refine Calls.mono hc ?_); clear hc; rintro e wz ⟨vp,rfl,hp,hb⟩; (try have bV:=bV.below hb); (try have hl:=hl.below hb); (try have hq:=hq.below hb); (try have hr:=hr.below hb); (try have hp:=hp.below hb); (try have ho:=ho.below hb); have hz:=aD.call (by assumption) hb)
    |(go_at_call 67; have hc:=fO _ (true) _ _ _ _ hq hp (by rw[Nat.one_mul]; exact HP.out) HB.out.2.2.2.2 (by rw[Nat.one_mul]; exact HB.out.2.1.mono (by omega)) IC; (with_reducible refine Calls.mono hc ?_); clear hc; rintro e wz ⟨EN,rfl,pZ,hb⟩; rw[Nat.one_mul,<-Qi.out]at pZ; obtain⟨Mr,Mq,rfl,pY,hrd⟩:=pZ; obtain⟨mo,my,rfl,_⟩:=id pY; obtain⟨mw,mz,rfl,_⟩:=id hrd; (try have bV:=bV.below hb); (try have hl:=hl.below hb); (try have hq:=hq.below hb); (try have hr:=hr.below hb); (try have hp:=hp.below hb); (try have ho:=ho.below hb); have hz:=aD.call (by assumption) hb))
  all_goals (
   go_wp2
   obtain⟨wf,HW,f0,f1,f2,cW⟩:=hz.fin rfl pY hrd
   (try rw[HW])
   (try simp only[Exit.inBlock,Exit.then])
   refine bodyPost_ret (by simp[results,Tryz.results87,go_sem,f0,f1,f2]; try rfl) rfl ?_
   first|exact cW|exact cW.drew))
set_option maxHeartbeats 8000000 in
theorem Oo (w:World) (vx:Value) (x:Rat) (k:Int) (hx:cq w vx x) {j:Nat} (hj:bg j x) (kP:j<=10000000) (hn:¬x.num<0):Calls Tryz.prog 87 #[vx,.int .i64 k] w (fD w (bT x k)):=by
 obtain⟨oz,oA,rfl,cw,cT⟩:=id hx
 obtain⟨aV,aX,rfl,_⟩:=id cw
 obtain⟨aW,aY,rfl,_⟩:=id cT
 obtain⟨jE,hk2⟩:=gE k
 have hq:pT x k=x.num.natAbs*2^bitsOf k/x.den:=by
  unfold pT
  rw[if_neg (λh=>hn h.1),Nat.add_zero]
 have hf:decide (x.num<0)=false:=decide_eq_false hn
 have hd:bT x k=cL false (x.num.natAbs*2^bitsOf k/x.den) (2^bitsOf k):=by unfold bT; rw[hq,hf]
 have Qi:=bx hd
 have rh:=x.den_pos
 generalize bitsOf k=K at *
 have b0:Bd 257 (2^K):=Bd.pow2 (by omega)
 have b1:Bd (j+257) (x.num.natAbs*2^K):=hj.1.mul b0
 have b2:Bd (j+257) (x.num.natAbs*2^K/x.den):=b1.le (Nat.div_le_self _ _)
 have b3:Bd (j+259) (x.num.natAbs*2^K/x.den):=b2.mono (by omega)
 have HB:=bx (And.intro hj (And.intro b0 (And.intro b1 (And.intro b2 b3))))
 have HK:=bx jE
 have Mz:=bx hk2
 have RD:j+257<=100000000:=by omega
 have OL:j+257<=1000000000:=by omega
 have IC:j+259<=100000000:=by omega
 have RB:j<=1000000000:=by omega
 have HP:Bx (0<2^K):=bx (Nat.two_pow_pos K)
 rw[hf]at *
 clear b0 b1 b2 b3 jE hk2 hd hq hj hf hn
 go_enter Tryz.func87,Tryz.ntmps87
 go_wp2_with fail
 rw[HK.out]
 obtain⟨w1,e1,o1,b1,s1⟩:=fh w (.bool false) (.slice aV (ae b64 x.num.natAbs).length aX) (.slice aW (ae b64 (ah x.den)).length aY) 32
 obtain⟨w2,e2,o2,b2,s2⟩:=fh w1 (.bool false) (.slice none 0 0) (.slice none 0 0) 32
 rw[e1,e2]
 rw[s1]at o2
 have p1:=(o1.gone b2)
 have p2:=o2
 have B0:=(b1.trans (b2.mono b1.size))
 have hS:∀w',aD w (w.heap.size+1) 32 [(w.heap.size,.bool false,.slice aV (ae b64 x.num.natAbs).length aX,.slice aW (ae b64 (ah x.den)).length aY)] w'->aD w (w.heap.size+1) 32 [(w.heap.size,.bool false,.slice aV (ae b64 x.num.natAbs).length aX,.slice aW (ae b64 (ah x.den)).length aY)] w'/\w'.cell? ⟨w.heap.size,0,none⟩=some (.bool false)/\w'.cell? ⟨w.heap.size,1,none⟩=some (.slice aV (ae b64 x.num.natAbs).length aX)/\w'.cell? ⟨w.heap.size,2,none⟩=some (.slice aW (ae b64 (ah x.den)).length aY)/\w'.cell? ⟨w.heap.size+1,0,none⟩=some (cv w' ⟨w.heap.size+1,0,none⟩)/\w'.cell? ⟨w.heap.size+1,1,none⟩=some (cv w' ⟨w.heap.size+1,1,none⟩)/\w'.cell? ⟨w.heap.size+1,2,none⟩=some (cv w' ⟨w.heap.size+1,2,none⟩)/\w'.frozen? ⟨w.heap.size+1,0,none⟩=false/\w'.frozen? ⟨w.heap.size+1,1,none⟩=false/\w'.frozen? ⟨w.heap.size+1,2,none⟩=false:=λw' hh=>by
  obtain⟨f0,f1,f2,f3,f4,f5⟩:=hh.cells
  have q1:=(hh.2.2.1 (w.heap.size,.bool false,.slice aV (ae b64 x.num.natAbs).length aX,.slice aW (ae b64 (ah x.den)).length aY) (by simp)).2
  exact⟨hh,q1.c0,q1.c1,q1.c2,f0,f1,f2,f3,f4,f5⟩
 have H0:aD w (w.heap.size+1) 32 [(w.heap.size,.bool false,.slice aV (ae b64 x.num.natAbs).length aX,.slice aW (ae b64 (ah x.den)).length aY)] w2:=⟨B0,by omega,by intro p hp; simp at hp; subst hp; exact⟨by simp,p1⟩,_,_,_,p2,cj _,aG _ _ _,aG _ _ _⟩
 clear e1 e2
 have hz:=H0.drew
 go_region_held3 (λw'=>aD w (w.heap.size+1) 32 [(w.heap.size,.bool false,.slice aV (ae b64 x.num.natAbs).length aX,.slice aW (ae b64 (ah x.den)).length aY)] w'/\w'.cell? ⟨w.heap.size,0,none⟩=some (.bool false)/\w'.cell? ⟨w.heap.size,1,none⟩=some (.slice aV (ae b64 x.num.natAbs).length aX)/\w'.cell? ⟨w.heap.size,2,none⟩=some (.slice aW (ae b64 (ah x.den)).length aY)/\w'.cell? ⟨w.heap.size+1,0,none⟩=some (cv w' ⟨w.heap.size+1,0,none⟩)/\w'.cell? ⟨w.heap.size+1,1,none⟩=some (cv w' ⟨w.heap.size+1,1,none⟩)/\w'.cell? ⟨w.heap.size+1,2,none⟩=some (cv w' ⟨w.heap.size+1,2,none⟩)/\w'.frozen? ⟨w.heap.size+1,0,none⟩=false/\w'.frozen? ⟨w.heap.size+1,1,none⟩=false/\w'.frozen? ⟨w.heap.size+1,2,none⟩=false)
  (first|exact hS _ hz|exact hS _ (aD.sets (by assumption) _ _ _ _ _ _ _))
  (first
   |(go_at_call 124; have hc:=iy _ _ x.num.natAbs K (cw.below hz.1) HB.out.1.1 RB (Nat.le_trans Mz.out (by omega)); (with_reducible refine Calls.mono hc ?_); clear hc; rintro e wz ⟨vl,rfl,hl,hb⟩; (try have bV:=bV.below hb); (try have hl:=hl.below hb); (try have hq:=hq.below hb); (try have hr:=hr.below hb); (try have hp:=hp.below hb); (try have ho:=ho.below hb); have hz:=aD.call (by assumption) hb)
   |(go_at_call 70; have hc:=fC _ _ x.den (cT.below hz.1) rh; (with_reducible refine Calls.mono hc ?_); clear hc; rintro e wz ⟨vu,rfl,bV,hb⟩; (try have bV:=bV.below hb); (try have hl:=hl.below hb); (try have hq:=hq.below hb); (try have hr:=hr.below hb); (try have hp:=hp.below hb); (try have ho:=ho.below hb); have hz:=aD.call (by assumption) hb)
   |(go_at_call 112; have hc:=eX _ _ _ _ _ hl bV rh HB.out.2.2.1 RD; (with_reducible refine Calls.mono hc ?_); clear hc; rintro e wz ⟨vq,vr,rfl,hq,hr,hb⟩; (try have bV:=bV.below hb); (try have hl:=hl.below hb); (try have hq:=hq.below hb); (try have hr:=hr.below hb); (try have hp:=hp.below hb); (try have ho:=ho.below hb); have hz:=aD.call (by assumption) hb))
 all_goals (
  obtain⟨_,k0,k1,k2,k3,k4,k5,_⟩:=hS _ hz
  go_wp2_with fail
  clear k0 k1 k2 k3 k4 k5
  have hz:=hz.drew
  have hq:=hq.drew
  go_region_held3 (λw'=>aD w (w.heap.size+1) 32 [(w.heap.size,.bool false,.slice aV (ae b64 x.num.natAbs).length aX,.slice aW (ae b64 (ah x.den)).length aY)] w'/\w'.cell? ⟨w.heap.size,0,none⟩=some (.bool false)/\w'.cell? ⟨w.heap.size,1,none⟩=some (.slice aV (ae b64 x.num.natAbs).length aX)/\w'.cell? ⟨w.heap.size,2,none⟩=some (.slice aW (ae b64 (ah x.den)).length aY)/\w'.cell? ⟨w.heap.size+1,0,none⟩=some (cv w' ⟨w.heap.size+1,0,none⟩)/\w'.cell? ⟨w.heap.size+1,1,none⟩=some (cv w' ⟨w.heap.size+1,1,none⟩)/\w'.cell? ⟨w.heap.size+1,2,none⟩=some (cv w' ⟨w.heap.size+1,2,none⟩)/\w'.frozen? ⟨w.heap.size+1,0,none⟩=false/\w'.frozen? ⟨w.heap.size+1,1,none⟩=false/\w'.frozen? ⟨w.heap.size+1,2,none⟩=false)
   (first|exact hS _ hz|exact hS _ (aD.sets (by assumption) _ _ _ _ _ _ _))
   (first
    |(go_at_call 104; refine Calls.mono (gR _ 1 (by unfold b64; omega)) ?_; rintro e wz ⟨XI,rfl,ho,hb⟩; have hq:=hq.below hb; have hz:=aD.call (by assumption) hb)
    |(go_at_call 124; have hc:=iy _ _ 1 K ho (show Bd 1 1 by unfold Bd; omega) (by omega) (Nat.le_trans Mz.out (by omega)); (with_reducible refine Calls.mono hc ?_); clear hc; rintro e wz ⟨vp,rfl,hp,hb⟩; (try have bV:=bV.below hb); (try have hl:=hl.below hb); (try have hq:=hq.below hb); (try have hr:=hr.below hb); (try have hp:=hp.below hb); (try have ho:=ho.below hb); have hz:=aD.call (by assumption) hb)
    |(go_at_call 67; have hc:=fO _ (false) _ _ _ _ hq hp (by rw[Nat.one_mul]; exact HP.out) HB.out.2.2.2.2 (by rw[Nat.one_mul]; exact HB.out.2.1.mono (by omega)) IC; (with_reducible refine Calls.mono hc ?_); clear hc; rintro e wz ⟨EN,rfl,pZ,hb⟩; rw[Nat.one_mul,<-Qi.out]at pZ; obtain⟨Mr,Mq,rfl,pY,hrd⟩:=pZ; obtain⟨mo,my,rfl,_⟩:=id pY; obtain⟨mw,mz,rfl,_⟩:=id hrd; (try have bV:=bV.below hb); (try have hl:=hl.below hb); (try have hq:=hq.below hb); (try have hr:=hr.below hb); (try have hp:=hp.below hb); (try have ho:=ho.below hb); have hz:=aD.call (by assumption) hb))
  all_goals (
   go_wp2
   obtain⟨wf,HW,f0,f1,f2,cW⟩:=hz.fin rfl pY hrd
   (try rw[HW])
   (try simp only[Exit.inBlock,Exit.then])
   refine bodyPost_ret (by simp[results,Tryz.results87,go_sem,f0,f1,f2]; try rfl) rfl ?_
   first|exact cW|exact cW.drew))
theorem Am (w:World) (vx:Value) (x:Rat) (k:Int) (hx:cq w vx x) {j:Nat} (hj:bg j x) (kP:j<=10000000):Calls Tryz.prog 87 #[vx,.int .i64 k] w (fD w (bT x k)):=by
 by_cases hn:x.num<0
 ·by_cases hr:0<x.num.natAbs*2^bitsOf k%x.den
  ·exact Om w vx x k hx hj kP hn hr
  ·exact On w vx x k hx hj kP hn hr
 ·exact Oo w vx x k hx hj kP hn
end Wx
