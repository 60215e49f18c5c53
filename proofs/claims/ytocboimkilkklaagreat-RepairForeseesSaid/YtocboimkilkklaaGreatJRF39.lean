import Derived.Test.YtocboimkilkklaaGreatJRF31
namespace Wx
set_option maxRecDepth 100000
open Go Go.RowKit Go.Proofs
set_option maxHeartbeats 8000000 in
theorem Jj (w:World) (vx vy:Value) (x y:Rat) (hx:cH w vx x) (hy:cH w vy y) (qP:y.num≠0) {j k:Nat} (hj:bg j x) (hk:bg k y) (kP:j+k<=10000000):Calls Tryz.prog 16 #[vx,vy] w (G6 w (x/y) 0):=by
 have HY:=bx qP
 have HD:=bx (decide_eq_false (mt (Rat.num_eq_zero (q:=y)).2 qP))
 clear qP
 obtain⟨oz,oA,rfl,cw,cT⟩:=id hx
 obtain⟨aV,aX,rfl,_⟩:=id cw
 obtain⟨aW,aY,rfl,_⟩:=id cT
 obtain⟨Kj,Kk,rfl,iS,iJ⟩:=id hy
 obtain⟨dL,dN,rfl,_⟩:=id iS
 obtain⟨dM,dO,rfl,_⟩:=id iJ
 have rh:=x.den_pos
 have KB:=y.den_pos
 have HB:=bx (And.intro hj hk)
 have de:j<=1000000000:=by omega
 have jE:k<=1000000000:=by omega
 have hx0:=hx
 have hy0:=hy
 clear hj hk hx hy
 go_enter Tryz.func16,Tryz.ntmps16
 go_wp2_with fail
 obtain⟨w1,e1,oX,b1,s1⟩:=dy w [.bool (decide (x.num<0)),.slice aV (ae af x.num.natAbs).length aX,.slice aW (ae af x.den).length aY] 38
 rw[e1]
 clear e1
 replace hy0:=hy0.below b1
 replace hx0:=hx0.below b1
 replace cw:=cw.below b1
 replace cT:=cT.below b1
 replace iS:=iS.below b1
 replace iJ:=iJ.below b1
 have B:=b1
 clear b1
 obtain⟨w2,e2,oY,b2,s2⟩:=dy w1 [.bool (decide (y.num<0)),.slice dL (ae af y.num.natAbs).length dN,.slice dM (ae af y.den).length dO] 38
 rw[e2]
 rw[s1]at oY
 clear e2
 replace hy0:=hy0.below b2
 replace hx0:=hx0.below b2
 replace cw:=cw.below b2
 replace cT:=cT.below b2
 replace iS:=iS.below b2
 replace iJ:=iJ.below b2
 replace oX:=oX.gone b2
 replace B:=B.trans (b2.mono B.size)
 clear b2
 obtain⟨w3,e3,oR,b3,s3⟩:=dy w2 [.bool false,.slice none 0 0,.slice none 0 0] 38
 rw[e3]
 rw[s2,s1]at oR
 clear e3
 replace hy0:=hy0.below b3
 replace hx0:=hx0.below b3
 replace cw:=cw.below b3
 replace cT:=cT.below b3
 replace iS:=iS.below b3
 replace iJ:=iJ.below b3
 replace oX:=oX.gone b3
 replace oY:=oY.gone b3
 replace B:=B.trans (b3.mono B.size)
 clear b3
 have hc:=lg _ _ y hy0
 rw[HD.out]at hc
 refine Calls.mono (hc) ?_
 rintro e w4 ⟨rfl,b4⟩
 replace hy0:=hy0.below b4
 replace hx0:=hx0.below b4
 replace cw:=cw.below b4
 replace cT:=cT.below b4
 replace iS:=iS.below b4
 replace iJ:=iJ.below b4
 replace oX:=oX.gone b4
 replace oY:=oY.gone b4
 replace oR:=oR.gone b4
 replace B:=B.trans (b4.mono B.size)
 clear b4
 clear hc
 go_wp2_with fail
 have hS:∀w',aC w (w.heap.size+1+1) 3 38 [(w.heap.size,[.bool (decide (x.num<0)),.slice aV (ae af x.num.natAbs).length aX,.slice aW (ae af x.den).length aY],38),(w.heap.size+1,[.bool (decide (y.num<0)),.slice dL (ae af y.num.natAbs).length dN,.slice dM (ae af y.den).length dO],38)] w'->aC w (w.heap.size+1+1) 3 38 [(w.heap.size,[.bool (decide (x.num<0)),.slice aV (ae af x.num.natAbs).length aX,.slice aW (ae af x.den).length aY],38),(w.heap.size+1,[.bool (decide (y.num<0)),.slice dL (ae af y.num.natAbs).length dN,.slice dM (ae af y.den).length dO],38)] w'/\w'.cell? ⟨w.heap.size,0,none⟩=some (.bool (decide (x.num<0)))/\w'.cell? ⟨w.heap.size,1,none⟩=some (.slice aV (ae af x.num.natAbs).length aX)/\w'.cell? ⟨w.heap.size,2,none⟩=some (.slice aW (ae af x.den).length aY)/\w'.cell? ⟨w.heap.size+1,0,none⟩=some (.bool (decide (y.num<0)))/\w'.cell? ⟨w.heap.size+1,1,none⟩=some (.slice dL (ae af y.num.natAbs).length dN)/\w'.cell? ⟨w.heap.size+1,2,none⟩=some (.slice dM (ae af y.den).length dO)/\w'.cell? ⟨w.heap.size+1+1,0,none⟩=some (cv w' ⟨w.heap.size+1+1,0,none⟩)/\w'.cell? ⟨w.heap.size+1+1,1,none⟩=some (cv w' ⟨w.heap.size+1+1,1,none⟩)/\w'.cell? ⟨w.heap.size+1+1,2,none⟩=some (cv w' ⟨w.heap.size+1+1,2,none⟩)/\w'.frozen? ⟨w.heap.size+1+1,0,none⟩=false/\w'.frozen? ⟨w.heap.size+1+1,1,none⟩=false/\w'.frozen? ⟨w.heap.size+1+1,2,none⟩=false:=λw' hh=>by
  have r1:=hh.par (p:=(w.heap.size,[.bool (decide (x.num<0)),.slice aV (ae af x.num.natAbs).length aX,.slice aW (ae af x.den).length aY],38)) (by simp)
  have r2:=hh.par (p:=(w.heap.size+1,[.bool (decide (y.num<0)),.slice dL (ae af y.num.natAbs).length dN,.slice dM (ae af y.den).length dO],38)) (by simp)
  exact⟨hh,r1.cell (i:=0) rfl,r1.cell (i:=1) rfl,r1.cell (i:=2) rfl,r2.cell (i:=0) rfl,r2.cell (i:=1) rfl,r2.cell (i:=2) rfl,hh.dH (i:=0) (by omega),hh.dH (i:=1) (by omega),hh.dH (i:=2) (by omega),hh.ou 0,hh.ou 1,hh.ou 2⟩
 have hz:aC w (w.heap.size+1+1) 3 38 [(w.heap.size,[.bool (decide (x.num<0)),.slice aV (ae af x.num.natAbs).length aX,.slice aW (ae af x.den).length aY],38),(w.heap.size+1,[.bool (decide (y.num<0)),.slice dL (ae af y.num.natAbs).length dN,.slice dM (ae af y.den).length dO],38)] w4:=⟨B,by omega,by intro q hq; simp at hq; rcases hq with rfl|rfl; exact⟨(by show w.heap.size≠w.heap.size+1+1; omega),oX⟩; exact⟨(by show w.heap.size+1≠w.heap.size+1+1; omega),oY⟩,_,rfl,oR,bP⟩
 clear oX oY oR B s1 s2 s3
 have hx0:=hx0.drew
 have hy0:=hy0.drew
 have cw:bq .u32 af w4.drew _ _:=cw
 have iS:bq .u32 af w4.drew _ _:=iS
 have hz:=hz.drew
 go_region_held3 (λw'=>aC w (w.heap.size+1+1) 3 38 [(w.heap.size,[.bool (decide (x.num<0)),.slice aV (ae af x.num.natAbs).length aX,.slice aW (ae af x.den).length aY],38),(w.heap.size+1,[.bool (decide (y.num<0)),.slice dL (ae af y.num.natAbs).length dN,.slice dM (ae af y.den).length dO],38)] w'/\w'.cell? ⟨w.heap.size,0,none⟩=some (.bool (decide (x.num<0)))/\w'.cell? ⟨w.heap.size,1,none⟩=some (.slice aV (ae af x.num.natAbs).length aX)/\w'.cell? ⟨w.heap.size,2,none⟩=some (.slice aW (ae af x.den).length aY)/\w'.cell? ⟨w.heap.size+1,0,none⟩=some (.bool (decide (y.num<0)))/\w'.cell? ⟨w.heap.size+1,1,none⟩=some (.slice dL (ae af y.num.natAbs).length dN)/\w'.cell? ⟨w.heap.size+1,2,none⟩=some (.slice dM (ae af y.den).length dO)/\w'.cell? ⟨w.heap.size+1+1,0,none⟩=some (cv w' ⟨w.heap.size+1+1,0,none⟩)/\w'.cell? ⟨w.heap.size+1+1,1,none⟩=some (cv w' ⟨w.heap.size+1+1,1,none⟩)/\w'.cell? ⟨w.heap.size+1+1,2,none⟩=some (cv w' ⟨w.heap.size+1+1,2,none⟩)/\w'.frozen? ⟨w.heap.size+1+1,0,none⟩=false/\w'.frozen? ⟨w.heap.size+1+1,1,none⟩=false/\w'.frozen? ⟨w.heap.size+1+1,2,none⟩=false)
  (first|exact hS _ hz|exact hS _ (aC.nt hz))
  (first
   |(go_at_call 50; have hc:=cN _ _ x hx0; (with_reducible refine Calls.mono hc ?_); clear hc; rintro e wz ⟨PR,rfl,bV,hb⟩; (try have bV:=bV.below hb); (try have fK:=fK.below hb); (try have fJ:=fJ.below hb); (try have fI:=fI.below hb); (try have hx0:=hx0.below hb); (try have hy0:=hy0.below hb); (try have cw:=cw.below hb); (try have cT:=cT.below hb); (try have iS:=iS.below hb); (try have iJ:=iJ.below hb); have hz:=aC.call (And.intro hz trivial) hb)
   |(go_at_call 50; have hc:=cN _ _ y hy0; (with_reducible refine Calls.mono hc ?_); clear hc; rintro e wz ⟨Tf,rfl,fK,hb⟩; (try have bV:=bV.below hb); (try have fK:=fK.below hb); (try have fJ:=fJ.below hb); (try have fI:=fI.below hb); (try have hx0:=hx0.below hb); (try have hy0:=hy0.below hb); (try have cw:=cw.below hb); (try have cT:=cT.below hb); (try have iS:=iS.below hb); (try have iJ:=iJ.below hb); have hz:=aC.call (And.intro hz trivial) hb)
   |(go_at_call 49; have hc:=iC _ _ _ _ _ cw fK HB.out.1.1 HB.out.2.2 (by omega) (by omega); (with_reducible refine Calls.mono hc ?_); clear hc; rintro e wz ⟨Td,rfl,fJ,hb⟩; (try have bV:=bV.below hb); (try have fK:=fK.below hb); (try have fJ:=fJ.below hb); (try have fI:=fI.below hb); (try have hx0:=hx0.below hb); (try have hy0:=hy0.below hb); (try have cw:=cw.below hb); (try have cT:=cT.below hb); (try have iS:=iS.below hb); (try have iJ:=iJ.below hb); have hz:=aC.call (And.intro hz trivial) hb)
   |(go_at_call 49; have hc:=iC _ _ _ _ _ bV iS HB.out.1.2 HB.out.2.1 (by omega) (by omega); (with_reducible refine Calls.mono hc ?_); clear hc; rintro e wz ⟨Te,rfl,fI,hb⟩; (try have bV:=bV.below hb); (try have fK:=fK.below hb); (try have fJ:=fJ.below hb); (try have fI:=fI.below hb); (try have hx0:=hx0.below hb); (try have hy0:=hy0.below hb); (try have cw:=cw.below hb); (try have cT:=cT.below hb); (try have iS:=iS.below hb); (try have iJ:=iJ.below hb); have hz:=aC.call (And.intro hz trivial) hb)
   |(go_at_call 48; have hc:=iz _ (!(decide (x.num<0)==decide (y.num<0))) _ _ (x.num.natAbs*y.den) (x.den*y.num.natAbs) fJ fI (Nat.mul_pos rh (by have:=HY.out; omega)) (HB.out.1.1.mul HB.out.2.2) (HB.out.1.2.mul HB.out.2.1) kP; (with_reducible refine Calls.mono hc ?_); clear hc; rintro e wz ⟨vr,rfl,hr,hb⟩; (try have bV:=bV.below hb); (try have fK:=fK.below hb); (try have fJ:=fJ.below hb); (try have fI:=fI.below hb); (try have hx0:=hx0.below hb); (try have hy0:=hy0.below hb); (try have cw:=cw.below hb); (try have cT:=cT.below hb); (try have iS:=iS.below hb); (try have iJ:=iJ.below hb); have hz:=aC.call (And.intro hz trivial) hb; replace hr:=AJ hr (yB x y HY.out); obtain⟨Ki,EN,rfl,uh,hrb⟩:=id hr; obtain⟨mo,my,rfl,_⟩:=id uh; obtain⟨mw,mz,rfl,_⟩:=id hrb))
 all_goals (
  go_wp2
  obtain⟨wf,HW,ho,hB,hN⟩:=hz.fin [.bool (decide ((x/y).num<0)),.slice mo (ae af (x/y).num.natAbs).length my,.slice mw (ae af (x/y).den).length mz] rfl bP
  simp only[ct,Nat.reduceAdd]at HW
  (try rw[HW])
  (try simp only[Exit.inBlock,Exit.then])
  have f0:=ho.cell (i:=0) rfl
  have f1:=ho.cell (i:=1) rfl
  have f2:=ho.cell (i:=2) rfl
  refine bodyPost_ret (by simp[results,Tryz.results16,go_sem,f0,f1,f2]; try rfl) rfl ?_
  exact⟨_,rfl,hr.into hN,hB⟩)
end Wx

namespace Wx
open Go Go.RowKit Go.Proofs
theorem EI:Ty Tryz.prog 36 false 1:=⟨λ_=>by kernel_rfl,λ_=>by kernel_rfl,by decide⟩
end Wx

namespace Wx
set_option maxRecDepth 100000
open Go Go.RowKit Go.Proofs
set_option linter.unusedVariables false
theorem rO (m n:Nat):(m<n/\bK m n = -1)\/(m=n/\bK m n=0)\/(n<m/\bK m n=1):=by
 unfold bK
 rcases Nat.lt_trichotomy m n with h|h|h
 ·exact .inl ⟨h,if_pos h⟩
 ·exact .inr (.inl ⟨h,by rw[if_neg (by omega),if_neg (by omega)]⟩)
 ·exact .inr (.inr ⟨h,by rw[if_neg (by omega),if_pos h]⟩)
variable {m n:Nat}
theorem zV (h:bK m n>=(0:Int)):n<=m:=by
 rcases rO m n with⟨h1,e⟩|⟨h1,e⟩|⟨h1,e⟩<;>omega
theorem rN (h:¬bK m n>=(0:Int)):m<=n:=by
 rcases rO m n with⟨h1,e⟩|⟨h1,e⟩|⟨h1,e⟩<;>omega
variable {x y:Rat}
theorem uS (h:x=y):∀w v,aR x w v->aR y w v:=λ_ _ k=>h▸k
theorem nN (x:Rat):∀w v1,aR x w v1->Calls Tryz.prog 50 #[v1] w (fu (aT x.den) w):=λw v1 h1=>cN w v1 x h1
variable {j k:Nat}
theorem qU (hj:Bd j m) (hk:Bd k n) (h1:j<=1000000000) (h2:k<=1000000000):∀w v1 v2,aT m w v1->aT n w v2->Calls Tryz.prog 49 #[v1,v2] w (fu (aT (m*n)) w):=λw v1 v2 a b=>iC w v1 v2 m n a b hj hk h1 h2
theorem H7 (hj:Bd j m) (hk:Bd k n) (h1:j<=1000000000) (h2:k<=1000000000):∀w v1 v2,aT m w v1->aT n w v2->Calls Tryz.prog 77 #[v1,v2] w (fu (aT (m+n)) w):=λw v1 v2 a b=>EF w v1 v2 m n a b hj hk h1 h2
theorem wT (hnm:n<=m) (hj:Bd j m) (h1:j<=1000000000):∀w v1 v2,aT m w v1->aT n w v2->Calls Tryz.prog 79 #[v1,v2] w (fu (aT (m-n)) w):=λw v1 v2 a b=>tR w v1 v2 m n a b hnm hj h1
theorem E8 (m n:Nat):∀w v1 v2,aT m w v1->aT n w v2->Calls Tryz.prog 78 #[v1,v2] w (fu (pI (bK m n)) w):=λw v1 v2 a b=>(fU w v1 v2 m n a b).mono λ_ _ h=>⟨_,h.1,rfl,h.2⟩
theorem tM {neg:Bool} {d:Nat} (hj:Bd j n) (hk:Bd j d) (hd:0<d) (de:j<=10000000):∀w v1 v2 v3,pB neg w v1->aT n w v2->aT d w v3->Calls Tryz.prog 48 #[v1,v2,v3] w (fu (aR (cL neg n d)) w):=λw v1 v2 v3 h1 h2 h3=>by
 have h1:v1=.bool neg:=h1
 rw[h1]
 exact iz w neg v2 v3 n d h2 h3 hd hj hk de
theorem KX (hx:bg j x) (hy:bg k y) (kP:j+k+j+k+1<=10000000):∀(M:Nat->Nat->Prop) (w:World) (v0 v1:Value),dc M w->aL M (λw=>(aR x) w v0) w->aL M (λw=>(aR y) w v1) w->Calls Tryz.prog 38 #[v0,v1] w (bu M (aR (x+y)) w):=by
 intro M w0 v0 v1 hM hv0 gb
 have b1:=(hx.1.mul hy.2).add (hy.1.mul hx.2)
 have b2:Bd (j+k+(k+j)+1) (x.num.natAbs*y.den-y.num.natAbs*x.den):=((hx.1.mul hy.2).mono (by omega)).le (Nat.sub_le _ _)
 have b3:Bd (j+k+(k+j)+1) (y.num.natAbs*x.den-x.num.natAbs*y.den):=((hy.1.mul hx.2).mono (by omega)).le (Nat.sub_le _ _)
 have b4:Bd (j+k+(k+j)+1) (x.den*y.den):=(hx.2.mul hy.2).mono (by omega)
 have hd:0<x.den*y.den:=Nat.mul_pos x.den_pos y.den_pos
 refine aQ (N:=53) Tryz.func38 rfl rfl rfl hM (show ck M w0 [v0,v1] [⟨none,none,0,aR x⟩,⟨none,none,1,aR y⟩]from⟨⟨rfl,_,rfl,hv0⟩,⟨rfl,_,rfl,gb⟩,trivial⟩) λa hI=>?_
 refine iD (V1:=[⟨2,2,some 0,none,.ptr,38,3,true,pv (pS (cA x)),[]⟩,⟨3,3,some 1,none,.ptr,38,3,true,pv (pS (cA y)),[]⟩,⟨4,4,some 2,none,.ptr,38,3,true,pv dr,[]⟩]) (A1:=[]) (G1:=[⟨none,none,0,aR x⟩,⟨none,none,1,aR y⟩]) (V2:=[⟨2,2,none,none,.ptr,38,3,true,pv (pS (cA x)),[]⟩,⟨3,3,none,none,.ptr,38,3,true,pv (pS (cA y)),[]⟩,⟨4,4,none,none,.ptr,38,3,true,pv dr,[]⟩]) (G2:=[]) hI rfl rfl rfl [0,1,3] (by kernel_rfl) (by kernel_rfl) ?_ [0,1,2] [] rfl rfl λa w hI=>?_
 ·exact⟨bQ 0 rfl rfl (by kernel_rfl) (by kernel_rfl) rfl rfl rfl (.imp (.tmp 0 rfl rfl) (Ny _)) (xg _) rfl,bQ 1 rfl rfl (by kernel_rfl) (by kernel_rfl) rfl rfl rfl (.imp (.tmp 1 rfl rfl) (Ny _)) (xg _) rfl,bp 2 rfl rfl (by kernel_rfl) (by kernel_rfl) rfl rfl rfl Kt rfl rfl (by simp[fq]) rfl (λ_=>trivial),trivial⟩
 refine eJ (V1:=[⟨2,2,none,none,.ptr,38,3,true,pv (pS (cA x)),[]⟩,⟨3,3,none,none,.ptr,38,3,true,pv (pS (cA y)),[]⟩,⟨4,4,none,none,.ptr,38,3,true,pv dr,[]⟩]) (A1:=[⟨some 0,8,2,1,True⟩,⟨some 5,13,3,1,True⟩]) (G1:=[⟨some 1,none,9,aT x.num.natAbs⟩,⟨some 2,none,10,aR y⟩,⟨some 3,none,11,aT y.den⟩,⟨some 4,none,12,aT (x.num.natAbs*y.den)⟩,⟨some 6,none,14,aT y.num.natAbs⟩,⟨some 7,none,15,aR x⟩,⟨some 8,none,16,aT x.den⟩,⟨some 9,none,17,aT (y.num.natAbs*x.den)⟩,⟨some 10,none,5,aT (x.num.natAbs*y.den)⟩,⟨some 11,none,6,aT (y.num.natAbs*x.den)⟩]) (V2:=[⟨2,2,none,none,.ptr,38,3,true,pv (pS (cA x)),[]⟩,⟨3,3,none,none,.ptr,38,3,true,pv (pS (cA y)),[]⟩,⟨4,4,none,none,.ptr,38,3,true,pv dr,[]⟩]) (G2:=[⟨none,none,5,aT (x.num.natAbs*y.den)⟩,⟨none,none,6,aT (y.num.natAbs*x.den)⟩]) hI rfl rfl rfl [0,1,0,4,15,0,32,0,159,511,1023,2047] (by kernel_rfl) (by kernel_rfl) (by kernel_rfl) (by kernel_rfl) ?_ [0,1,2] [8,9] rfl rfl λa w hI=>?_
 ·exact⟨aq 0 rfl rfl rfl 0 rfl rfl rfl rfl (.inl ⟨rfl,rfl⟩) rfl (by kernel_rfl) (λb w=>Ii b 0 w),cm 0 rfl 0 rfl rfl rfl rfl rfl trivial rfl rfl (by kernel_rfl) EI rfl rfl (fE (fs:=(cA x)) 1 (f:=⟨false,1,aT x.num.natAbs⟩) rfl (off:=1) rfl) (.here 0 rfl),bG 1 rfl rfl rfl rfl (by kernel_rfl) cR rfl (.at_ 1 _ _ rfl (Dt _)),fN (λ_ _=>by kernel_rfl) (dg _) (.tmp 1 rfl rfl) (.here 2 rfl) (nN _),dn (λ_ _=>by kernel_rfl) (dg _) (.tmp 0 rfl rfl) (.tmp 2 rfl rfl) (.here 3 rfl) (qU (hx).1 hy.2 (by omega) (by omega)),aq 1 rfl rfl rfl 1 rfl rfl rfl rfl (.inl ⟨rfl,rfl⟩) rfl (by kernel_rfl) (λb w=>Ii b 0 w),cm 1 rfl 1 rfl rfl rfl rfl rfl trivial rfl rfl (by kernel_rfl) EI rfl rfl (fE (fs:=(cA y)) 1 (f:=⟨false,1,aT y.num.natAbs⟩) rfl (off:=1) rfl) (.here 4 rfl),bG 0 rfl rfl rfl rfl (by kernel_rfl) cR rfl (.at_ 5 _ _ rfl (Dt _)),fN (λ_ _=>by kernel_rfl) (dg _) (.tmp 5 rfl rfl) (.here 6 rfl) (nN _),dn (λ_ _=>by kernel_rfl) (dg _) (.tmp 4 rfl rfl) (.tmp 6 rfl rfl) (.here 7 rfl) (qU (hy).1 hx.2 (by omega) (by omega)),ee (.tmp 3 rfl rfl) (.here 8 rfl),ee (.tmp 7 rfl rfl) (.here 9 rfl),trivial⟩
 refine eJ (V1:=[⟨2,2,none,none,.ptr,38,3,true,pv (pS (cA x)),[]⟩,⟨3,3,none,none,.ptr,38,3,true,pv (pS (cA y)),[]⟩,⟨4,4,none,none,.ptr,38,3,true,pv dr,[]⟩]) (A1:=[]) (G1:=[⟨none,none,5,aT (x.num.natAbs*y.den)⟩,⟨none,none,6,aT (y.num.natAbs*x.den)⟩,⟨some 0,none,18,aR x⟩,⟨some 1,none,19,aT x.den⟩,⟨some 2,none,20,aR y⟩,⟨some 3,none,21,aT y.den⟩,⟨some 4,none,22,aT (x.den*y.den)⟩,⟨some 5,none,7,aT (x.den*y.den)⟩]) (V2:=[⟨2,2,none,none,.ptr,38,3,true,pv (pS (cA x)),[]⟩,⟨3,3,none,none,.ptr,38,3,true,pv (pS (cA y)),[]⟩,⟨4,4,none,none,.ptr,38,3,true,pv dr,[]⟩]) (G2:=[⟨none,none,5,aT (x.num.natAbs*y.den)⟩,⟨none,none,6,aT (y.num.natAbs*x.den)⟩,⟨none,none,7,aT (x.den*y.den)⟩]) hI rfl rfl rfl [0,1,0,7,15,31] (by kernel_rfl) (by kernel_rfl) (by kernel_rfl) (by kernel_rfl) ?_ [0,1,2] [0,1,7] rfl rfl λa w hI=>?_
 ·exact⟨bG 0 rfl rfl rfl rfl (by kernel_rfl) cR rfl (.at_ 2 _ _ rfl (Dt _)),fN (λ_ _=>by kernel_rfl) (dg _) (.tmp 2 rfl rfl) (.here 3 rfl) (nN _),bG 1 rfl rfl rfl rfl (by kernel_rfl) cR rfl (.at_ 4 _ _ rfl (Dt _)),fN (λ_ _=>by kernel_rfl) (dg _) (.tmp 4 rfl rfl) (.here 5 rfl) (nN _),dn (λ_ _=>by kernel_rfl) (dg _) (.tmp 3 rfl rfl) (.tmp 5 rfl rfl) (.here 6 rfl) (qU hx.2 hy.2 (by omega) (by omega)),ee (.tmp 6 rfl rfl) (.here 7 rfl),trivial⟩
 refine wp_seq ?_
 refine iD (V1:=[⟨2,2,none,none,.ptr,38,3,true,pv (pS (cA x)),[]⟩,⟨3,3,none,none,.ptr,38,3,true,pv (pS (cA y)),[]⟩,⟨4,4,none,none,.ptr,38,3,true,pv dr,[]⟩]) (A1:=[⟨some 0,23,2,0,True⟩,⟨some 2,25,3,0,True⟩]) (G1:=[⟨none,none,5,aT (x.num.natAbs*y.den)⟩,⟨none,none,6,aT (y.num.natAbs*x.den)⟩,⟨none,none,7,aT (x.den*y.den)⟩,⟨some 1,none,24,pB (decide (x.num<0))⟩,⟨some 3,none,26,pB (decide (y.num<0))⟩,⟨some 4,none,27,pB ((decide (x.num<0))==(decide (y.num<0)))⟩]) (V2:=[⟨2,2,none,none,.ptr,38,3,true,pv (pS (cA x)),[]⟩,⟨3,3,none,none,.ptr,38,3,true,pv (pS (cA y)),[]⟩,⟨4,4,none,none,.ptr,38,3,true,pv dr,[]⟩]) (G2:=[⟨none,none,5,aT (x.num.natAbs*y.den)⟩,⟨none,none,6,aT (y.num.natAbs*x.den)⟩,⟨none,none,7,aT (x.den*y.den)⟩,⟨none,none,27,pB ((decide (x.num<0))==(decide (y.num<0)))⟩]) hI rfl rfl rfl [0,1,3,7,15] (by kernel_rfl) (by kernel_rfl) ?_ [0,1,2] [0,1,2,5] rfl rfl λa w hI=>?_
 ·exact⟨aq 0 rfl rfl rfl 0 rfl rfl rfl rfl (.inl ⟨rfl,rfl⟩) rfl (by kernel_rfl) (λb w=>tV b 0 w),cm 0 rfl 0 rfl rfl rfl rfl rfl trivial rfl rfl (by kernel_rfl) iv rfl rfl (fE (fs:=(cA x)) 0 (f:=⟨false,1,pB (decide (x.num<0))⟩) rfl (off:=0) rfl) (.here 3 rfl),aq 1 rfl rfl rfl 1 rfl rfl rfl rfl (.inl ⟨rfl,rfl⟩) rfl (by kernel_rfl) (λb w=>tV b 0 w),cm 1 rfl 1 rfl rfl rfl rfl rfl trivial rfl rfl (by kernel_rfl) iv rfl rfl (fE (fs:=(cA y)) 0 (f:=⟨false,1,pB (decide (y.num<0))⟩) rfl (off:=0) rfl) (.here 4 rfl),rY (v:=.bool ((decide (x.num<0))==(decide (y.num<0)))) (.tmp 3 rfl rfl) (.tmp 4 rfl rfl) (λ_=>by kernel_rfl) (.here 5 rfl),trivial⟩
 refine ik hI 3 rfl (λht=>?_) (λht=>?_)
 ·have t1:=ht
  refine eJ (V1:=[⟨2,2,none,none,.ptr,38,3,true,pv (pS (cA x)),[]⟩,⟨3,3,none,none,.ptr,38,3,true,pv (pS (cA y)),[]⟩,⟨4,4,none,none,.ptr,38,3,true,pv dr,[(7,pv (aR (cL (decide (x.num<0)) ((x.num.natAbs*y.den)+(y.num.natAbs*x.den)) (x.den*y.den))))]⟩]) (A1:=[⟨some 0,28,2,0,True⟩]) (G1:=[⟨none,none,5,aT (x.num.natAbs*y.den)⟩,⟨none,none,6,aT (y.num.natAbs*x.den)⟩,⟨none,none,7,aT (x.den*y.den)⟩,⟨none,none,27,pB ((decide (x.num<0))==(decide (y.num<0)))⟩,⟨some 1,none,29,pB (decide (x.num<0))⟩,⟨some 2,none,30,aT (x.num.natAbs*y.den)⟩,⟨some 3,none,31,aT (y.num.natAbs*x.den)⟩,⟨some 4,none,32,aT ((x.num.natAbs*y.den)+(y.num.natAbs*x.den))⟩,⟨some 5,none,33,aT (x.den*y.den)⟩,⟨some 6,none,34,aR (cL (decide (x.num<0)) ((x.num.natAbs*y.den)+(y.num.natAbs*x.den)) (x.den*y.den))⟩]) (V2:=[⟨2,2,none,none,.ptr,38,3,true,pv (pS (cA x)),[]⟩,⟨3,3,none,none,.ptr,38,3,true,pv (pS (cA y)),[]⟩,⟨4,4,none,none,.ptr,38,3,true,pv (aR (cL (decide (x.num<0)) ((x.num.natAbs*y.den)+(y.num.natAbs*x.den)) (x.den*y.den))),[]⟩]) (G2:=[⟨none,none,5,aT (x.num.natAbs*y.den)⟩,⟨none,none,6,aT (y.num.natAbs*x.den)⟩,⟨none,none,7,aT (x.den*y.den)⟩]) hI rfl rfl rfl [0,1,0,0,12,0,63,127] (by kernel_rfl) (by kernel_rfl) (by kernel_rfl) (by kernel_rfl) ?_ [0,1,2] [0,1,2] rfl rfl λa w hI=>?_
  ·exact⟨aq 0 rfl rfl rfl 0 rfl rfl rfl rfl (.inl ⟨rfl,rfl⟩) rfl (by kernel_rfl) (λb w=>tV b 0 w),cm 0 rfl 0 rfl rfl rfl rfl rfl trivial rfl rfl (by kernel_rfl) iv rfl rfl (fE (fs:=(cA x)) 0 (f:=⟨false,1,pB (decide (x.num<0))⟩) rfl (off:=0) rfl) (.here 4 rfl),cg (.tmp 0 rfl rfl) (.here 5 rfl),cg (.tmp 1 rfl rfl) (.here 6 rfl),dn (λ_ _=>by kernel_rfl) (dg _) (.tmp 5 rfl rfl) (.tmp 6 rfl rfl) (.here 7 rfl) (H7 (((hx).1).mul hy.2) (((hy).1).mul hx.2) (by omega) (by omega)),cg (.tmp 2 rfl rfl) (.here 8 rfl),lj (λ_ _=>by kernel_rfl) (bk _) (.tmp 4 rfl rfl) (.tmp 7 rfl rfl) (.tmp 8 rfl rfl) (.here 9 rfl) (tM b1 b4 hd (by omega)),aS 2 rfl rfl rfl rfl 0 rfl (by kernel_rfl) (by kernel_rfl) cR (.tmp 9 rfl rfl) (bJ _),trivial⟩
  refine wp_ret ?_
  refine bM ?_
  exact dx hI rfl (.imp (.cell 2 rfl rfl rfl rfl cR rfl) (uS (add_same x y (beq_iff_eq.1 t1)).symm))
 ·have t2:=ht
  refine wp_skip ?_
  refine aj ?_
  refine wp_seq ?_
  refine iD (V1:=[⟨2,2,none,none,.ptr,38,3,true,pv (pS (cA x)),[]⟩,⟨3,3,none,none,.ptr,38,3,true,pv (pS (cA y)),[]⟩,⟨4,4,none,none,.ptr,38,3,true,pv dr,[]⟩]) (A1:=[]) (G1:=[⟨none,none,5,aT (x.num.natAbs*y.den)⟩,⟨none,none,6,aT (y.num.natAbs*x.den)⟩,⟨none,none,7,aT (x.den*y.den)⟩,⟨none,none,27,pB ((decide (x.num<0))==(decide (y.num<0)))⟩,⟨some 0,none,35,aT (x.num.natAbs*y.den)⟩,⟨some 1,none,36,aT (y.num.natAbs*x.den)⟩,⟨some 2,none,37,pI (bK (x.num.natAbs*y.den) (y.num.natAbs*x.den))⟩,⟨some 3,none,38,pB (decide ((bK (x.num.natAbs*y.den) (y.num.natAbs*x.den))>=(0:Int)))⟩]) (V2:=[⟨2,2,none,none,.ptr,38,3,true,pv (pS (cA x)),[]⟩,⟨3,3,none,none,.ptr,38,3,true,pv (pS (cA y)),[]⟩,⟨4,4,none,none,.ptr,38,3,true,pv dr,[]⟩]) (G2:=[⟨none,none,5,aT (x.num.natAbs*y.den)⟩,⟨none,none,6,aT (y.num.natAbs*x.den)⟩,⟨none,none,7,aT (x.den*y.den)⟩,⟨none,none,38,pB (decide ((bK (x.num.natAbs*y.den) (y.num.natAbs*x.den))>=(0:Int)))⟩]) hI rfl rfl rfl [0,1,3,7] (by kernel_rfl) (by kernel_rfl) ?_ [0,1,2] [0,1,2,7] rfl rfl λa w hI=>?_
  ·exact⟨cg (.tmp 0 rfl rfl) (.here 4 rfl),cg (.tmp 1 rfl rfl) (.here 5 rfl),dn (λ_ _=>by kernel_rfl) (bz _) (.tmp 4 rfl rfl) (.tmp 5 rfl rfl) (.here 6 rfl) (E8 _ _),gg (v:=.bool (decide ((bK (x.num.natAbs*y.den) (y.num.natAbs*x.den))>=(0:Int)))) (.tmp 6 rfl rfl) (.const _) (λ_=>rfl) (.here 7 rfl),trivial⟩
  refine ik hI 3 rfl (λht=>?_) (λht=>?_)
  ·have t3:=of_decide_eq_true ht
   refine eJ (V1:=[⟨2,2,none,none,.ptr,38,3,true,pv (pS (cA x)),[]⟩,⟨3,3,none,none,.ptr,38,3,true,pv (pS (cA y)),[]⟩,⟨4,4,none,none,.ptr,38,3,true,pv dr,[(7,pv (aR (cL (decide (x.num<0)) ((x.num.natAbs*y.den)-(y.num.natAbs*x.den)) (x.den*y.den))))]⟩]) (A1:=[⟨some 0,39,2,0,True⟩]) (G1:=[⟨none,none,5,aT (x.num.natAbs*y.den)⟩,⟨none,none,6,aT (y.num.natAbs*x.den)⟩,⟨none,none,7,aT (x.den*y.den)⟩,⟨none,none,38,pB (decide ((bK (x.num.natAbs*y.den) (y.num.natAbs*x.den))>=(0:Int)))⟩,⟨some 1,none,40,pB (decide (x.num<0))⟩,⟨some 2,none,41,aT (x.num.natAbs*y.den)⟩,⟨some 3,none,42,aT (y.num.natAbs*x.den)⟩,⟨some 4,none,43,aT ((x.num.natAbs*y.den)-(y.num.natAbs*x.den))⟩,⟨some 5,none,44,aT (x.den*y.den)⟩,⟨some 6,none,45,aR (cL (decide (x.num<0)) ((x.num.natAbs*y.den)-(y.num.natAbs*x.den)) (x.den*y.den))⟩]) (V2:=[⟨2,2,none,none,.ptr,38,3,true,pv (pS (cA x)),[]⟩,⟨3,3,none,none,.ptr,38,3,true,pv (pS (cA y)),[]⟩,⟨4,4,none,none,.ptr,38,3,true,pv (aR (cL (decide (x.num<0)) ((x.num.natAbs*y.den)-(y.num.natAbs*x.den)) (x.den*y.den))),[]⟩]) (G2:=[⟨none,none,5,aT (x.num.natAbs*y.den)⟩,⟨none,none,6,aT (y.num.natAbs*x.den)⟩,⟨none,none,7,aT (x.den*y.den)⟩]) hI rfl rfl rfl [0,1,0,0,12,0,63,127] (by kernel_rfl) (by kernel_rfl) (by kernel_rfl) (by kernel_rfl) ?_ [0,1,2] [0,1,2] rfl rfl λa w hI=>?_
   ·exact⟨aq 0 rfl rfl rfl 0 rfl rfl rfl rfl (.inl ⟨rfl,rfl⟩) rfl (by kernel_rfl) (λb w=>tV b 0 w),cm 0 rfl 0 rfl rfl rfl rfl rfl trivial rfl rfl (by kernel_rfl) iv rfl rfl (fE (fs:=(cA x)) 0 (f:=⟨false,1,pB (decide (x.num<0))⟩) rfl (off:=0) rfl) (.here 4 rfl),cg (.tmp 0 rfl rfl) (.here 5 rfl),cg (.tmp 1 rfl rfl) (.here 6 rfl),dn (λ_ _=>by kernel_rfl) (dg _) (.tmp 5 rfl rfl) (.tmp 6 rfl rfl) (.here 7 rfl) (wT (zV t3) (((hx).1).mul hy.2) (by omega)),cg (.tmp 2 rfl rfl) (.here 8 rfl),lj (λ_ _=>by kernel_rfl) (bk _) (.tmp 4 rfl rfl) (.tmp 7 rfl rfl) (.tmp 8 rfl rfl) (.here 9 rfl) (tM b2 b4 hd (by omega)),aS 2 rfl rfl rfl rfl 0 rfl (by kernel_rfl) (by kernel_rfl) cR (.tmp 9 rfl rfl) (bJ _),trivial⟩
   refine wp_ret ?_
   refine bM ?_
   exact dx hI rfl (.imp (.cell 2 rfl rfl rfl rfl cR rfl) (uS (B7 x y (beq_eq_false_iff_ne.1 t2) (zV t3)).symm))
  ·have t4:=of_decide_eq_false ht
   refine wp_skip ?_
   refine aj ?_
   refine eJ (V1:=[⟨2,2,none,none,.ptr,38,3,true,pv (pS (cA x)),[]⟩,⟨3,3,none,none,.ptr,38,3,true,pv (pS (cA y)),[]⟩,⟨4,4,none,none,.ptr,38,3,true,pv dr,[(7,pv (aR (cL (decide (y.num<0)) ((y.num.natAbs*x.den)-(x.num.natAbs*y.den)) (x.den*y.den))))]⟩]) (A1:=[⟨some 0,46,3,0,True⟩]) (G1:=[⟨none,none,5,aT (x.num.natAbs*y.den)⟩,⟨none,none,6,aT (y.num.natAbs*x.den)⟩,⟨none,none,7,aT (x.den*y.den)⟩,⟨none,none,38,pB (decide ((bK (x.num.natAbs*y.den) (y.num.natAbs*x.den))>=(0:Int)))⟩,⟨some 1,none,47,pB (decide (y.num<0))⟩,⟨some 2,none,48,aT (y.num.natAbs*x.den)⟩,⟨some 3,none,49,aT (x.num.natAbs*y.den)⟩,⟨some 4,none,50,aT ((y.num.natAbs*x.den)-(x.num.natAbs*y.den))⟩,⟨some 5,none,51,aT (x.den*y.den)⟩,⟨some 6,none,52,aR (cL (decide (y.num<0)) ((y.num.natAbs*x.den)-(x.num.natAbs*y.den)) (x.den*y.den))⟩]) (V2:=[⟨2,2,none,none,.ptr,38,3,true,pv (pS (cA x)),[]⟩,⟨3,3,none,none,.ptr,38,3,true,pv (pS (cA y)),[]⟩,⟨4,4,none,none,.ptr,38,3,true,pv (aR (cL (decide (y.num<0)) ((y.num.natAbs*x.den)-(x.num.natAbs*y.den)) (x.den*y.den))),[]⟩]) (G2:=[]) hI rfl rfl rfl [0,1,0,0,12,0,63,127] (by kernel_rfl) (by kernel_rfl) (by kernel_rfl) (by kernel_rfl) ?_ [0,1,2] [] rfl rfl λa w hI=>?_
   ·exact⟨aq 1 rfl rfl rfl 0 rfl rfl rfl rfl (.inl ⟨rfl,rfl⟩) rfl (by kernel_rfl) (λb w=>tV b 0 w),cm 1 rfl 0 rfl rfl rfl rfl rfl trivial rfl rfl (by kernel_rfl) iv rfl rfl (fE (fs:=(cA y)) 0 (f:=⟨false,1,pB (decide (y.num<0))⟩) rfl (off:=0) rfl) (.here 4 rfl),cg (.tmp 1 rfl rfl) (.here 5 rfl),cg (.tmp 0 rfl rfl) (.here 6 rfl),dn (λ_ _=>by kernel_rfl) (dg _) (.tmp 5 rfl rfl) (.tmp 6 rfl rfl) (.here 7 rfl) (wT (rN t4) (((hy).1).mul hx.2) (by omega)),cg (.tmp 2 rfl rfl) (.here 8 rfl),lj (λ_ _=>by kernel_rfl) (bk _) (.tmp 4 rfl rfl) (.tmp 7 rfl rfl) (.tmp 8 rfl rfl) (.here 9 rfl) (tM b3 b4 hd (by omega)),aS 2 rfl rfl rfl rfl 0 rfl (by kernel_rfl) (by kernel_rfl) cR (.tmp 9 rfl rfl) (bJ _),trivial⟩
   refine wp_ret ?_
   exact dx hI rfl (.imp (.cell 2 rfl rfl rfl rfl cR rfl) (uS (B8 x y (beq_eq_false_iff_ne.1 t2) (rN t4)).symm))
theorem AX (w:World) (vx vy:Value) (x y:Rat) (hx:cH w vx x) (hy:cH w vy y) {j k:Nat} (hj:bg j x) (hk:bg k y) (kP:j+k+j+k+1<=10000000):Calls Tryz.prog 38 #[vx,vy] w (eD w (x+y)):=
 (KX hj hk kP (λ_ _=>False) w vx vy (kU w) (bk x _ w vx (kU w) hx) (bk y _ w vy (kU w) hy)).mono λ_ _ h=>h.ret
end Wx
