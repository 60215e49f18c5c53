import Derived.Test.YtpiniclogfefjaaGreatJMatrices29
import Derived.Test.YtpiniclogfefjaaGreatJMatrices33
namespace Wx
open Go Go.RowKit Go.Proofs
set_option linter.unusedVariables false

def FracOk (n d:Int):Prop :=-9223372036854775808≤n∧n≤9223372036854775807∧d≤9223372036854775807
theorem c_of {n d:Int} {x:Rat} (e:x=ofR n d) (h:FracOk n d):∀w v1,Xl n d w v1→Calls Tryz.prog 46 #[v1] w (Kj (Qq x) w):=fun w v1 h1=>by
 rw[pFrac_eq h1,e]
 exact of_num w n d h.1 h.2.1 h.2.2
theorem c_awake:∀w,Calls Tryz.prog 7 #[] w (Kj (pB true) w):=fun w=>(awake_num w).mono fun _ _=>ret_is
theorem law_true {f:FuncId} {P:Program} {args:Array Value} {W:World} (h:Calls P f args W (RetB (fun _ _=>False) (pB true) W)):Calls P f args W fun e w'=>e=.returned (.bool true)∧Below W.heap.size W w':=
 h.mono fun e w' h=>by
  obtain⟨v,rfl,hv,hb⟩:=h
  have:v=.bool true:=hv.out
  exact⟨by rw[this],hb⟩
end Wx

namespace Wx
open Go Go.RowKit Go.Proofs

theorem J5:Ty Tryz.prog 34 false 1:=⟨fun _=>by kernel_rfl,fun _=>by kernel_rfl,by decide⟩
theorem ty_Fracs:Ty Tryz.prog 43 false 1:=⟨fun _=>by kernel_rfl,fun _=>by kernel_rfl,by decide⟩
theorem Zm:SlTy Tryz.prog 34 42 3:=⟨by kernel_rfl,fun _=>by kernel_rfl⟩
theorem Xr:SlTy Tryz.prog 26 34 1:=⟨by kernel_rfl,fun _=>by kernel_rfl⟩
theorem Wb:SlTy Tryz.prog 43 82 2:=⟨by kernel_rfl,fun _=>by kernel_rfl⟩
theorem Ki:SlTy Tryz.prog 22 43 1:=⟨by kernel_rfl,fun _=>by kernel_rfl⟩
end Wx

namespace Wx
open Go Go.RowKit Go.Proofs
set_option linter.unusedVariables false

end Wx

namespace Wx
open Go Go.RowKit Go.Proofs

end Wx

namespace Wx
open Go Go.RowKit Go.Proofs

end Wx

namespace Wx
set_option maxRecDepth 100000
open Go Go.RowKit Go.Proofs

set_option maxHeartbeats 8000000 in
theorem nmul_num (w:World) (vx vy:Value) (x y:Rat) (hx:IsRef w vx x) (hy:IsRef w vy y) {j k:Nat} (hj:BdR j x) (hk:BdR k y) (hjk:j+k≤10000000):Calls Tryz.prog 52 #[vx,vy] w (Uo w (x*y)):=by
 obtain⟨vx1,vx2,rfl,hxa,hxb⟩:=id hx
 obtain⟨Ax1,cx1,rfl,_⟩:=id hxa
 obtain⟨Ax2,cx2,rfl,_⟩:=id hxb
 obtain⟨vy1,vy2,rfl,hya,hyb⟩:=id hy
 obtain⟨Ay1,cy1,rfl,_⟩:=id hya
 obtain⟨Ay2,cy2,rfl,_⟩:=id hyb
 have hdx:=x.den_pos
 have hdy:=y.den_pos
 have HB:=bx (And.intro hj hk)
 have hj1:j≤1000000000:=by omega
 have hk1:k≤1000000000:=by omega
 have hx0:=hx
 have hy0:=hy
 clear hj hk hx hy
 go_enter Tryz.func52,Tryz.ntmps52
 go_wp2_with fail
 obtain⟨w1,e1,o1,b1,s1⟩:=Jm w [.bool (decide (x.num<0)),.slice Ax1 (digs Qe x.num.natAbs).length cx1,.slice Ax2 (digs Qe x.den).length cx2] 42
 obtain⟨w2,e2,o2,b2,s2⟩:=Jm w1 [.bool (decide (y.num<0)),.slice Ay1 (digs Qe y.num.natAbs).length cy1,.slice Ay2 (digs Qe y.den).length cy2] 42
 obtain⟨w3,e3,o3,b3,s3⟩:=Jm w2 [.bool false,.slice none 0 0,.slice none 0 0] 42
 rw[e1,e2,e3]
 rw[s1]at o2
 rw[s2,s1]at o3
 have p1:=((o1.gone b2).gone b3)
 have p2:=(o2.gone b3)
 have p3:=o3
 have B0:=((b1.trans (b2.mono b1.size)).trans (b3.mono (b1.trans (b2.mono b1.size)).size))
 have hS:∀w',HeldN w (w.heap.size+2) 3 42 [(w.heap.size,[.bool (decide (x.num<0)),.slice Ax1 (digs Qe x.num.natAbs).length cx1,.slice Ax2 (digs Qe x.den).length cx2],42),(w.heap.size+1,[.bool (decide (y.num<0)),.slice Ay1 (digs Qe y.num.natAbs).length cy1,.slice Ay2 (digs Qe y.den).length cy2],42)] w'→HeldN w (w.heap.size+2) 3 42 [(w.heap.size,[.bool (decide (x.num<0)),.slice Ax1 (digs Qe x.num.natAbs).length cx1,.slice Ax2 (digs Qe x.den).length cx2],42),(w.heap.size+1,[.bool (decide (y.num<0)),.slice Ay1 (digs Qe y.num.natAbs).length cy1,.slice Ay2 (digs Qe y.den).length cy2],42)] w'∧w'.cell? ⟨w.heap.size,0,none⟩=some (.bool (decide (x.num<0)))∧w'.cell? ⟨w.heap.size,1,none⟩=some (.slice Ax1 (digs Qe x.num.natAbs).length cx1)∧w'.cell? ⟨w.heap.size,2,none⟩=some (.slice Ax2 (digs Qe x.den).length cx2)∧w'.cell? ⟨w.heap.size+1,0,none⟩=some (.bool (decide (y.num<0)))∧w'.cell? ⟨w.heap.size+1,1,none⟩=some (.slice Ay1 (digs Qe y.num.natAbs).length cy1)∧w'.cell? ⟨w.heap.size+1,2,none⟩=some (.slice Ay2 (digs Qe y.den).length cy2)∧w'.cell? ⟨w.heap.size+2,0,none⟩=some (cv w' ⟨w.heap.size+2,0,none⟩)∧w'.cell? ⟨w.heap.size+2,1,none⟩=some (cv w' ⟨w.heap.size+2,1,none⟩)∧w'.cell? ⟨w.heap.size+2,2,none⟩=some (cv w' ⟨w.heap.size+2,2,none⟩)∧w'.frozen? ⟨w.heap.size+2,0,none⟩=false∧w'.frozen? ⟨w.heap.size+2,1,none⟩=false∧w'.frozen? ⟨w.heap.size+2,2,none⟩=false:=fun w' hh=>by
  have r1:=hh.par (p:=(w.heap.size,[.bool (decide (x.num<0)),.slice Ax1 (digs Qe x.num.natAbs).length cx1,.slice Ax2 (digs Qe x.den).length cx2],42)) (by simp)
  have r2:=hh.par (p:=(w.heap.size+1,[.bool (decide (y.num<0)),.slice Ay1 (digs Qe y.num.natAbs).length cy1,.slice Ay2 (digs Qe y.den).length cy2],42)) (by simp)
  exact⟨hh,r1.cell (i:=0) rfl,r1.cell (i:=1) rfl,r1.cell (i:=2) rfl,r2.cell (i:=0) rfl,r2.cell (i:=1) rfl,r2.cell (i:=2) rfl,hh.cellR (i:=0) (by omega),hh.cellR (i:=1) (by omega),hh.cellR (i:=2) (by omega),hh.fzR 0,hh.fzR 1,hh.fzR 2⟩
 have hz:HeldN w (w.heap.size+2) 3 42 [(w.heap.size,[.bool (decide (x.num<0)),.slice Ax1 (digs Qe x.num.natAbs).length cx1,.slice Ax2 (digs Qe x.den).length cx2],42),(w.heap.size+1,[.bool (decide (y.num<0)),.slice Ay1 (digs Qe y.num.natAbs).length cy1,.slice Ay2 (digs Qe y.den).length cy2],42)] w3:=⟨B0,by omega,by intro q hq; simp at hq; rcases hq with rfl|rfl; exact⟨by simp,p1⟩; exact⟨by simp,p2⟩,_,rfl,p3,Ji⟩
 clear e1 e2 e3 o1 b1 s1 p1 o2 b2 s2 p2 o3 b3 s3 p3
 clear B0
 have hz:=hz.drew
 go_region_held3 (fun w'=>HeldN w (w.heap.size+2) 3 42 [(w.heap.size,[.bool (decide (x.num<0)),.slice Ax1 (digs Qe x.num.natAbs).length cx1,.slice Ax2 (digs Qe x.den).length cx2],42),(w.heap.size+1,[.bool (decide (y.num<0)),.slice Ay1 (digs Qe y.num.natAbs).length cy1,.slice Ay2 (digs Qe y.den).length cy2],42)] w'∧w'.cell? ⟨w.heap.size,0,none⟩=some (.bool (decide (x.num<0)))∧w'.cell? ⟨w.heap.size,1,none⟩=some (.slice Ax1 (digs Qe x.num.natAbs).length cx1)∧w'.cell? ⟨w.heap.size,2,none⟩=some (.slice Ax2 (digs Qe x.den).length cx2)∧w'.cell? ⟨w.heap.size+1,0,none⟩=some (.bool (decide (y.num<0)))∧w'.cell? ⟨w.heap.size+1,1,none⟩=some (.slice Ay1 (digs Qe y.num.natAbs).length cy1)∧w'.cell? ⟨w.heap.size+1,2,none⟩=some (.slice Ay2 (digs Qe y.den).length cy2)∧w'.cell? ⟨w.heap.size+2,0,none⟩=some (cv w' ⟨w.heap.size+2,0,none⟩)∧w'.cell? ⟨w.heap.size+2,1,none⟩=some (cv w' ⟨w.heap.size+2,1,none⟩)∧w'.cell? ⟨w.heap.size+2,2,none⟩=some (cv w' ⟨w.heap.size+2,2,none⟩)∧w'.frozen? ⟨w.heap.size+2,0,none⟩=false∧w'.frozen? ⟨w.heap.size+2,1,none⟩=false∧w'.frozen? ⟨w.heap.size+2,2,none⟩=false)
  (first|exact hS _ hz|exact hS _ (HeldN.sets3 hz))
  (first
   |(go_at_call 88; have hc:=Qdz _ _ _ _ _ (hxa.below hz.1) (hya.below hz.1) HB.out.1.1 HB.out.2.1 (by omega) (by omega); (with_reducible refine Calls.mono hc ?_); clear hc; rintro e wz ⟨vt1,rfl,ht1,hb⟩; (try have hux:=hux.below hb); (try have huy:=huy.below hb); (try have ht1:=ht1.below hb); (try have ht2:=ht2.below hb); (try have htd:=htd.below hb); (try have hs1:=hs1.below hb); have hz:=HeldN.call (And.intro hz trivial) hb)
   |(go_at_call 89; have hc:=Kt _ _ x (hx0.below hz.1); (with_reducible refine Calls.mono hc ?_); clear hc; rintro e wz ⟨vux,rfl,hux,hb⟩; (try have hux:=hux.below hb); (try have huy:=huy.below hb); (try have ht1:=ht1.below hb); (try have ht2:=ht2.below hb); (try have htd:=htd.below hb); (try have hs1:=hs1.below hb); have hz:=HeldN.call (And.intro hz trivial) hb)
   |(go_at_call 89; have hc:=Kt _ _ y (hy0.below hz.1); (with_reducible refine Calls.mono hc ?_); clear hc; rintro e wz ⟨vuy,rfl,huy,hb⟩; (try have hux:=hux.below hb); (try have huy:=huy.below hb); (try have ht1:=ht1.below hb); (try have ht2:=ht2.below hb); (try have htd:=htd.below hb); (try have hs1:=hs1.below hb); have hz:=HeldN.call (And.intro hz trivial) hb)
   |(go_at_call 88; have hc:=Qdz _ _ _ _ _ hux huy HB.out.1.2 HB.out.2.2 (by omega) (by omega); (with_reducible refine Calls.mono hc ?_); clear hc; rintro e wz ⟨vt2,rfl,ht2,hb⟩; (try have hux:=hux.below hb); (try have huy:=huy.below hb); (try have ht1:=ht1.below hb); (try have ht2:=ht2.below hb); (try have htd:=htd.below hb); (try have hs1:=hs1.below hb); have hz:=HeldN.call (And.intro hz trivial) hb)
   |(go_at_call 90; have hc:=Qek _ (!(decide (x.num<0)==decide (y.num<0))) _ _ (x.num.natAbs*y.num.natAbs) (x.den*y.den) ht1 ht2 (Nat.mul_pos hdx hdy) (HB.out.1.1.mul HB.out.2.1) (HB.out.1.2.mul HB.out.2.2) hjk; (with_reducible refine Calls.mono hc ?_); clear hc; rintro e wz ⟨vr,rfl,hr,hb⟩; (try have hux:=hux.below hb); (try have huy:=huy.below hb); (try have ht1:=ht1.below hb); (try have ht2:=ht2.below hb); (try have htd:=htd.below hb); (try have hs1:=hs1.below hb); have hz:=HeldN.call (And.intro hz trivial) hb; replace hr:=isRef_of hr (mul_red x y); obtain⟨vr1,vr2,rfl,hra,hrb⟩:=id hr; obtain⟨Ar1,cr1,rfl,_⟩:=id hra; obtain⟨Ar2,cr2,rfl,_⟩:=id hrb))
 all_goals (
  go_wp2
  obtain⟨wf,HW,ho,hB,hN⟩:=hz.fin [.bool (decide ((x*y).num<0)),.slice Ar1 (digs Qe (x*y).num.natAbs).length cr1,.slice Ar2 (digs Qe (x*y).den).length cr2] rfl Ji
  simp only[setAll,Nat.reduceAdd]at HW
  (try rw[HW])
  (try simp only[Exit.inBlock,Exit.then])
  have f0:=ho.cell (i:=0) rfl
  have f1:=ho.cell (i:=1) rfl
  have f2:=ho.cell (i:=2) rfl
  refine bodyPost_ret (by simp[results,Tryz.results52,go_sem,f0,f1,f2]; try rfl) rfl ?_
  exact⟨_,rfl,hr.into hN,hB⟩)
end Wx

namespace Wx
open Go Go.RowKit Go.Proofs

end Wx

namespace Wx
set_option maxRecDepth 100000
open Go Go.RowKit Go.Proofs
set_option linter.unusedVariables false

theorem Qfo (m n:Nat):(m<n∧X3 m n = -1)∨(m=n∧X3 m n=0)∨(n<m∧X3 m n=1):=by
 unfold X3
 rcases Nat.lt_trichotomy m n with h|h|h
 ·exact .inl ⟨h,if_pos h⟩
 ·exact .inr (.inl ⟨h,by rw[if_neg (by omega),if_neg (by omega)]⟩)
 ·exact .inr (.inr ⟨h,by rw[if_neg (by omega),if_pos h]⟩)
theorem cmpI_atR {m n:Nat} (h:X3 m n≥(0:Int)):n≤m:=by
 rcases Qfo m n with⟨h1,e⟩|⟨h1,e⟩|⟨h1,e⟩<;>omega
theorem Qfn {m n:Nat} (h:¬X3 m n≥(0:Int)):m≤n:=by
 rcases Qfo m n with⟨h1,e⟩|⟨h1,e⟩|⟨h1,e⟩<;>omega
theorem pRef_eqS {x y:Rat} (h:x=y):∀w v,Qz x w v→Qz y w v:=fun _ _ k=>h▸k
theorem Qde (x:Rat):∀w v1,Qz x w v1→Calls Tryz.prog 89 #[v1] w (Kj (Xg x.den) w):=fun w v1 h1=>Kt w v1 x h1
theorem Qe2 {m n j k:Nat} (hj:Bd j m) (hk:Bd k n) (h1:j≤1000000000) (h2:k≤1000000000):∀w v1 v2,Xg m w v1→Xg n w v2→Calls Tryz.prog 88 #[v1,v2] w (Kj (Xg (m*n)) w):=fun w v1 v2 a b=>Qdz w v1 v2 m n a b hj hk h1 h2
theorem cn_plusS {m n j k:Nat} (hj:Bd j m) (hk:Bd k n) (h1:j≤1000000000) (h2:k≤1000000000):∀w v1 v2,Xg m w v1→Xg n w v2→Calls Tryz.prog 91 #[v1,v2] w (Kj (Xg (m+n)) w):=fun w v1 v2 a b=>sum_num w v1 v2 m n a b hj hk h1 h2
theorem cn_minusS {m n j:Nat} (hnm:n≤m) (hj:Bd j m) (h1:j≤1000000000):∀w v1 v2,Xg m w v1→Xg n w v2→Calls Tryz.prog 93 #[v1,v2] w (Kj (Xg (m-n)) w):=fun w v1 v2 a b=>difference_num w v1 v2 m n a b hnm hj h1
theorem cn_orderS (m n:Nat):∀w v1 v2,Xg m w v1→Xg n w v2→Calls Tryz.prog 92 #[v1,v2] w (Kj (pI (X3 m n)) w):=fun w v1 v2 a b=>(Wr w v1 v2 m n a b).mono fun _ _ h=>⟨_,h.1,rfl,h.2⟩
theorem cn_madeS {neg:Bool} {n d j:Nat} (hj:Bd j n) (hk:Bd j d) (hd:0<d) (hj1:j≤10000000):∀w v1 v2 v3,pB neg w v1→Xg n w v2→Xg d w v3→Calls Tryz.prog 90 #[v1,v2,v3] w (Kj (Qz (Yq neg n d)) w):=fun w v1 v2 v3 h1 h2 h3=>by
 have h1:v1=.bool neg:=h1
 rw[h1]
 exact Qek w neg v2 v3 n d h2 h3 hd hj hk hj1
theorem cn_addS {x y:Rat} {j k:Nat} (hx:BdR j x) (hy:BdR k y) (hjk:j+k+j+k+1≤10000000):∀(M:Nat→Nat→Prop) (w:World) (v0 v1:Value),Mid M w→Box M (fun w=>(Qz x) w v0) w→Box M (fun w=>(Qz y) w v1) w→Calls Tryz.prog 51 #[v0,v1] w (RetB M (Qz (x+y)) w):=by
 intro M w0 v0 v1 hM hv0 hv1
 have b1:=(hx.1.mul hy.2).add (hy.1.mul hx.2)
 have b2:Bd (j+k+(k+j)+1) (x.num.natAbs*y.den-y.num.natAbs*x.den):=((hx.1.mul hy.2).mono (by omega)).le (Nat.sub_le _ _)
 have b3:Bd (j+k+(k+j)+1) (y.num.natAbs*x.den-x.num.natAbs*y.den):=((hy.1.mul hx.2).mono (by omega)).le (Nat.sub_le _ _)
 have b4:Bd (j+k+(k+j)+1) (x.den*y.den):=(hx.2.mul hy.2).mono (by omega)
 have hd:0<x.den*y.den:=Nat.mul_pos x.den_pos y.den_pos
 refine Q5 (N:=53) Tryz.func51 rfl rfl rfl hM (show EntsA M w0 [v0,v1] [⟨none,none,0,Qz x⟩,⟨none,none,1,Qz y⟩]from⟨⟨rfl,_,rfl,hv0⟩,⟨rfl,_,rfl,hv1⟩,trivial⟩) fun a hI=>?_
 refine U1 (V1:=[⟨2,2,some 0,none,.ptr,42,3,true,pv (pS (Y0 x)),[]⟩,⟨3,3,some 1,none,.ptr,42,3,true,pv (pS (Y0 y)),[]⟩,⟨4,4,some 2,none,.ptr,42,3,true,pv Xx,[]⟩]) (A1:=[]) (G1:=[⟨none,none,0,Qz x⟩,⟨none,none,1,Qz y⟩]) (V2:=[⟨2,2,none,none,.ptr,42,3,true,pv (pS (Y0 x)),[]⟩,⟨3,3,none,none,.ptr,42,3,true,pv (pS (Y0 y)),[]⟩,⟨4,4,none,none,.ptr,42,3,true,pv Xx,[]⟩]) (G2:=[]) hI rfl rfl rfl [0,1,3] (by kernel_rfl) (by kernel_rfl) ?_ [0,1,2] [] rfl rfl fun a w hI=>?_
 ·exact⟨Us 0 rfl rfl (by kernel_rfl) (by kernel_rfl) rfl rfl rfl (.imp (.tmp 0 rfl rfl) (ref_S _)) (fits_refS _) rfl,Us 1 rfl rfl (by kernel_rfl) (by kernel_rfl) rfl rfl rfl (.imp (.tmp 1 rfl rfl) (ref_S _)) (fits_refS _) rfl,Yx 2 rfl rfl (by kernel_rfl) (by kernel_rfl) rfl rfl rfl zv_R rfl rfl (by simp[Yu]) rfl (fun _=>trivial),trivial⟩
 refine K4 (V1:=[⟨2,2,none,none,.ptr,42,3,true,pv (pS (Y0 x)),[]⟩,⟨3,3,none,none,.ptr,42,3,true,pv (pS (Y0 y)),[]⟩,⟨4,4,none,none,.ptr,42,3,true,pv Xx,[]⟩]) (A1:=[⟨some 0,8,2,1,True⟩,⟨some 5,13,3,1,True⟩]) (G1:=[⟨some 1,none,9,Xg x.num.natAbs⟩,⟨some 2,none,10,Qz y⟩,⟨some 3,none,11,Xg y.den⟩,⟨some 4,none,12,Xg (x.num.natAbs*y.den)⟩,⟨some 6,none,14,Xg y.num.natAbs⟩,⟨some 7,none,15,Qz x⟩,⟨some 8,none,16,Xg x.den⟩,⟨some 9,none,17,Xg (y.num.natAbs*x.den)⟩,⟨some 10,none,5,Xg (x.num.natAbs*y.den)⟩,⟨some 11,none,6,Xg (y.num.natAbs*x.den)⟩]) (V2:=[⟨2,2,none,none,.ptr,42,3,true,pv (pS (Y0 x)),[]⟩,⟨3,3,none,none,.ptr,42,3,true,pv (pS (Y0 y)),[]⟩,⟨4,4,none,none,.ptr,42,3,true,pv Xx,[]⟩]) (G2:=[⟨none,none,5,Xg (x.num.natAbs*y.den)⟩,⟨none,none,6,Xg (y.num.natAbs*x.den)⟩]) hI rfl rfl rfl [0,1,0,4,15,0,32,0,159,511,1023,2047] (by kernel_rfl) (by kernel_rfl) (by kernel_rfl) (by kernel_rfl) ?_ [0,1,2] [8,9] rfl rfl fun a w hI=>?_
 ·exact⟨Zs 0 rfl rfl rfl 0 rfl rfl rfl rfl (.inl ⟨rfl,rfl⟩) rfl (by kernel_rfl) (fun b w=>fa_R_1 b 0 w),Zj 0 rfl 0 rfl rfl rfl rfl rfl trivial rfl rfl (by kernel_rfl) ty_u32s rfl rfl (J2 (fs:=(Y0 x)) 1 (f:=⟨false,1,Xg x.num.natAbs⟩) rfl (off:=1) rfl) (.here 0 rfl),Xp 1 rfl rfl rfl rfl (by kernel_rfl) Yz rfl (.at_ 1 _ _ rfl (S_ref _)),Zf (fun _ _=>by kernel_rfl) (Jn _) (.tmp 1 rfl rfl) (.here 2 rfl) (Qde _),Yi (fun _ _=>by kernel_rfl) (Jn _) (.tmp 0 rfl rfl) (.tmp 2 rfl rfl) (.here 3 rfl) (Qe2 (hx).1 hy.2 (by omega) (by omega)),Zs 1 rfl rfl rfl 1 rfl rfl rfl rfl (.inl ⟨rfl,rfl⟩) rfl (by kernel_rfl) (fun b w=>fa_R_1 b 0 w),Zj 1 rfl 1 rfl rfl rfl rfl rfl trivial rfl rfl (by kernel_rfl) ty_u32s rfl rfl (J2 (fs:=(Y0 y)) 1 (f:=⟨false,1,Xg y.num.natAbs⟩) rfl (off:=1) rfl) (.here 4 rfl),Xp 0 rfl rfl rfl rfl (by kernel_rfl) Yz rfl (.at_ 5 _ _ rfl (S_ref _)),Zf (fun _ _=>by kernel_rfl) (Jn _) (.tmp 5 rfl rfl) (.here 6 rfl) (Qde _),Yi (fun _ _=>by kernel_rfl) (Jn _) (.tmp 4 rfl rfl) (.tmp 6 rfl rfl) (.here 7 rfl) (Qe2 (hy).1 hx.2 (by omega) (by omega)),Qc (.tmp 3 rfl rfl) (.here 8 rfl),Qc (.tmp 7 rfl rfl) (.here 9 rfl),trivial⟩
 refine K4 (V1:=[⟨2,2,none,none,.ptr,42,3,true,pv (pS (Y0 x)),[]⟩,⟨3,3,none,none,.ptr,42,3,true,pv (pS (Y0 y)),[]⟩,⟨4,4,none,none,.ptr,42,3,true,pv Xx,[]⟩]) (A1:=[]) (G1:=[⟨none,none,5,Xg (x.num.natAbs*y.den)⟩,⟨none,none,6,Xg (y.num.natAbs*x.den)⟩,⟨some 0,none,18,Qz x⟩,⟨some 1,none,19,Xg x.den⟩,⟨some 2,none,20,Qz y⟩,⟨some 3,none,21,Xg y.den⟩,⟨some 4,none,22,Xg (x.den*y.den)⟩,⟨some 5,none,7,Xg (x.den*y.den)⟩]) (V2:=[⟨2,2,none,none,.ptr,42,3,true,pv (pS (Y0 x)),[]⟩,⟨3,3,none,none,.ptr,42,3,true,pv (pS (Y0 y)),[]⟩,⟨4,4,none,none,.ptr,42,3,true,pv Xx,[]⟩]) (G2:=[⟨none,none,5,Xg (x.num.natAbs*y.den)⟩,⟨none,none,6,Xg (y.num.natAbs*x.den)⟩,⟨none,none,7,Xg (x.den*y.den)⟩]) hI rfl rfl rfl [0,1,0,7,15,31] (by kernel_rfl) (by kernel_rfl) (by kernel_rfl) (by kernel_rfl) ?_ [0,1,2] [0,1,7] rfl rfl fun a w hI=>?_
 ·exact⟨Xp 0 rfl rfl rfl rfl (by kernel_rfl) Yz rfl (.at_ 2 _ _ rfl (S_ref _)),Zf (fun _ _=>by kernel_rfl) (Jn _) (.tmp 2 rfl rfl) (.here 3 rfl) (Qde _),Xp 1 rfl rfl rfl rfl (by kernel_rfl) Yz rfl (.at_ 4 _ _ rfl (S_ref _)),Zf (fun _ _=>by kernel_rfl) (Jn _) (.tmp 4 rfl rfl) (.here 5 rfl) (Qde _),Yi (fun _ _=>by kernel_rfl) (Jn _) (.tmp 3 rfl rfl) (.tmp 5 rfl rfl) (.here 6 rfl) (Qe2 hx.2 hy.2 (by omega) (by omega)),Qc (.tmp 6 rfl rfl) (.here 7 rfl),trivial⟩
 refine wp_seq ?_
 refine U1 (V1:=[⟨2,2,none,none,.ptr,42,3,true,pv (pS (Y0 x)),[]⟩,⟨3,3,none,none,.ptr,42,3,true,pv (pS (Y0 y)),[]⟩,⟨4,4,none,none,.ptr,42,3,true,pv Xx,[]⟩]) (A1:=[⟨some 0,23,2,0,True⟩,⟨some 2,25,3,0,True⟩]) (G1:=[⟨none,none,5,Xg (x.num.natAbs*y.den)⟩,⟨none,none,6,Xg (y.num.natAbs*x.den)⟩,⟨none,none,7,Xg (x.den*y.den)⟩,⟨some 1,none,24,pB (decide (x.num<0))⟩,⟨some 3,none,26,pB (decide (y.num<0))⟩,⟨some 4,none,27,pB ((decide (x.num<0))==(decide (y.num<0)))⟩]) (V2:=[⟨2,2,none,none,.ptr,42,3,true,pv (pS (Y0 x)),[]⟩,⟨3,3,none,none,.ptr,42,3,true,pv (pS (Y0 y)),[]⟩,⟨4,4,none,none,.ptr,42,3,true,pv Xx,[]⟩]) (G2:=[⟨none,none,5,Xg (x.num.natAbs*y.den)⟩,⟨none,none,6,Xg (y.num.natAbs*x.den)⟩,⟨none,none,7,Xg (x.den*y.den)⟩,⟨none,none,27,pB ((decide (x.num<0))==(decide (y.num<0)))⟩]) hI rfl rfl rfl [0,1,3,7,15] (by kernel_rfl) (by kernel_rfl) ?_ [0,1,2] [0,1,2,5] rfl rfl fun a w hI=>?_
 ·exact⟨Zs 0 rfl rfl rfl 0 rfl rfl rfl rfl (.inl ⟨rfl,rfl⟩) rfl (by kernel_rfl) (fun b w=>fa_R_0 b 0 w),Zj 0 rfl 0 rfl rfl rfl rfl rfl trivial rfl rfl (by kernel_rfl) Vv rfl rfl (J2 (fs:=(Y0 x)) 0 (f:=⟨false,1,pB (decide (x.num<0))⟩) rfl (off:=0) rfl) (.here 3 rfl),Zs 1 rfl rfl rfl 1 rfl rfl rfl rfl (.inl ⟨rfl,rfl⟩) rfl (by kernel_rfl) (fun b w=>fa_R_0 b 0 w),Zj 1 rfl 1 rfl rfl rfl rfl rfl trivial rfl rfl (by kernel_rfl) Vv rfl rfl (J2 (fs:=(Y0 y)) 0 (f:=⟨false,1,pB (decide (y.num<0))⟩) rfl (off:=0) rfl) (.here 4 rfl),Qf0 (v:=.bool ((decide (x.num<0))==(decide (y.num<0)))) (.tmp 3 rfl rfl) (.tmp 4 rfl rfl) (fun _=>by kernel_rfl) (.here 5 rfl),trivial⟩
 refine Xm hI 3 rfl (fun ht=>?_) (fun ht=>?_)
 ·have t1:=ht
  refine K4 (V1:=[⟨2,2,none,none,.ptr,42,3,true,pv (pS (Y0 x)),[]⟩,⟨3,3,none,none,.ptr,42,3,true,pv (pS (Y0 y)),[]⟩,⟨4,4,none,none,.ptr,42,3,true,pv Xx,[(7,pv (Qz (Yq (decide (x.num<0)) ((x.num.natAbs*y.den)+(y.num.natAbs*x.den)) (x.den*y.den))))]⟩]) (A1:=[⟨some 0,28,2,0,True⟩]) (G1:=[⟨none,none,5,Xg (x.num.natAbs*y.den)⟩,⟨none,none,6,Xg (y.num.natAbs*x.den)⟩,⟨none,none,7,Xg (x.den*y.den)⟩,⟨none,none,27,pB ((decide (x.num<0))==(decide (y.num<0)))⟩,⟨some 1,none,29,pB (decide (x.num<0))⟩,⟨some 2,none,30,Xg (x.num.natAbs*y.den)⟩,⟨some 3,none,31,Xg (y.num.natAbs*x.den)⟩,⟨some 4,none,32,Xg ((x.num.natAbs*y.den)+(y.num.natAbs*x.den))⟩,⟨some 5,none,33,Xg (x.den*y.den)⟩,⟨some 6,none,34,Qz (Yq (decide (x.num<0)) ((x.num.natAbs*y.den)+(y.num.natAbs*x.den)) (x.den*y.den))⟩]) (V2:=[⟨2,2,none,none,.ptr,42,3,true,pv (pS (Y0 x)),[]⟩,⟨3,3,none,none,.ptr,42,3,true,pv (pS (Y0 y)),[]⟩,⟨4,4,none,none,.ptr,42,3,true,pv (Qz (Yq (decide (x.num<0)) ((x.num.natAbs*y.den)+(y.num.natAbs*x.den)) (x.den*y.den))),[]⟩]) (G2:=[⟨none,none,5,Xg (x.num.natAbs*y.den)⟩,⟨none,none,6,Xg (y.num.natAbs*x.den)⟩,⟨none,none,7,Xg (x.den*y.den)⟩]) hI rfl rfl rfl [0,1,0,0,12,0,63,127] (by kernel_rfl) (by kernel_rfl) (by kernel_rfl) (by kernel_rfl) ?_ [0,1,2] [0,1,2] rfl rfl fun a w hI=>?_
  ·exact⟨Zs 0 rfl rfl rfl 0 rfl rfl rfl rfl (.inl ⟨rfl,rfl⟩) rfl (by kernel_rfl) (fun b w=>fa_R_0 b 0 w),Zj 0 rfl 0 rfl rfl rfl rfl rfl trivial rfl rfl (by kernel_rfl) Vv rfl rfl (J2 (fs:=(Y0 x)) 0 (f:=⟨false,1,pB (decide (x.num<0))⟩) rfl (off:=0) rfl) (.here 4 rfl),Qa (.tmp 0 rfl rfl) (.here 5 rfl),Qa (.tmp 1 rfl rfl) (.here 6 rfl),Yi (fun _ _=>by kernel_rfl) (Jn _) (.tmp 5 rfl rfl) (.tmp 6 rfl rfl) (.here 7 rfl) (cn_plusS (((hx).1).mul hy.2) (((hy).1).mul hx.2) (by omega) (by omega)),Qa (.tmp 2 rfl rfl) (.here 8 rfl),Qaz (fun _ _=>by kernel_rfl) (Yo _) (.tmp 4 rfl rfl) (.tmp 7 rfl rfl) (.tmp 8 rfl rfl) (.here 9 rfl) (cn_madeS b1 b4 hd (by omega)),X0 2 rfl rfl rfl rfl 0 rfl (by kernel_rfl) (by kernel_rfl) Yz (.tmp 9 rfl rfl) (Yn _),trivial⟩
  refine wp_ret ?_
  refine Xh ?_
  exact Zu hI rfl (.imp (.cell 2 rfl rfl rfl rfl Yz rfl) (pRef_eqS (Qd7 x y (beq_iff_eq.1 t1)).symm))
 ·have t2:=ht
  refine wp_skip ?_
  refine Qf ?_
  refine wp_seq ?_
  refine U1 (V1:=[⟨2,2,none,none,.ptr,42,3,true,pv (pS (Y0 x)),[]⟩,⟨3,3,none,none,.ptr,42,3,true,pv (pS (Y0 y)),[]⟩,⟨4,4,none,none,.ptr,42,3,true,pv Xx,[]⟩]) (A1:=[]) (G1:=[⟨none,none,5,Xg (x.num.natAbs*y.den)⟩,⟨none,none,6,Xg (y.num.natAbs*x.den)⟩,⟨none,none,7,Xg (x.den*y.den)⟩,⟨none,none,27,pB ((decide (x.num<0))==(decide (y.num<0)))⟩,⟨some 0,none,35,Xg (x.num.natAbs*y.den)⟩,⟨some 1,none,36,Xg (y.num.natAbs*x.den)⟩,⟨some 2,none,37,pI (X3 (x.num.natAbs*y.den) (y.num.natAbs*x.den))⟩,⟨some 3,none,38,pB (decide ((X3 (x.num.natAbs*y.den) (y.num.natAbs*x.den))≥(0:Int)))⟩]) (V2:=[⟨2,2,none,none,.ptr,42,3,true,pv (pS (Y0 x)),[]⟩,⟨3,3,none,none,.ptr,42,3,true,pv (pS (Y0 y)),[]⟩,⟨4,4,none,none,.ptr,42,3,true,pv Xx,[]⟩]) (G2:=[⟨none,none,5,Xg (x.num.natAbs*y.den)⟩,⟨none,none,6,Xg (y.num.natAbs*x.den)⟩,⟨none,none,7,Xg (x.den*y.den)⟩,⟨none,none,38,pB (decide ((X3 (x.num.natAbs*y.den) (y.num.natAbs*x.den))≥(0:Int)))⟩]) hI rfl rfl rfl [0,1,3,7] (by kernel_rfl) (by kernel_rfl) ?_ [0,1,2] [0,1,2,7] rfl rfl fun a w hI=>?_
  ·exact⟨Qa (.tmp 0 rfl rfl) (.here 4 rfl),Qa (.tmp 1 rfl rfl) (.here 5 rfl),Yi (fun _ _=>by kernel_rfl) (Zc _) (.tmp 4 rfl rfl) (.tmp 5 rfl rfl) (.here 6 rfl) (cn_orderS _ _),Qk (v:=.bool (decide ((X3 (x.num.natAbs*y.den) (y.num.natAbs*x.den))≥(0:Int)))) (.tmp 6 rfl rfl) (.const _) (fun _=>rfl) (.here 7 rfl),trivial⟩
  refine Xm hI 3 rfl (fun ht=>?_) (fun ht=>?_)
  ·have t3:=of_decide_eq_true ht
   refine K4 (V1:=[⟨2,2,none,none,.ptr,42,3,true,pv (pS (Y0 x)),[]⟩,⟨3,3,none,none,.ptr,42,3,true,pv (pS (Y0 y)),[]⟩,⟨4,4,none,none,.ptr,42,3,true,pv Xx,[(7,pv (Qz (Yq (decide (x.num<0)) ((x.num.natAbs*y.den)-(y.num.natAbs*x.den)) (x.den*y.den))))]⟩]) (A1:=[⟨some 0,39,2,0,True⟩]) (G1:=[⟨none,none,5,Xg (x.num.natAbs*y.den)⟩,⟨none,none,6,Xg (y.num.natAbs*x.den)⟩,⟨none,none,7,Xg (x.den*y.den)⟩,⟨none,none,38,pB (decide ((X3 (x.num.natAbs*y.den) (y.num.natAbs*x.den))≥(0:Int)))⟩,⟨some 1,none,40,pB (decide (x.num<0))⟩,⟨some 2,none,41,Xg (x.num.natAbs*y.den)⟩,⟨some 3,none,42,Xg (y.num.natAbs*x.den)⟩,⟨some 4,none,43,Xg ((x.num.natAbs*y.den)-(y.num.natAbs*x.den))⟩,⟨some 5,none,44,Xg (x.den*y.den)⟩,⟨some 6,none,45,Qz (Yq (decide (x.num<0)) ((x.num.natAbs*y.den)-(y.num.natAbs*x.den)) (x.den*y.den))⟩]) (V2:=[⟨2,2,none,none,.ptr,42,3,true,pv (pS (Y0 x)),[]⟩,⟨3,3,none,none,.ptr,42,3,true,pv (pS (Y0 y)),[]⟩,⟨4,4,none,none,.ptr,42,3,true,pv (Qz (Yq (decide (x.num<0)) ((x.num.natAbs*y.den)-(y.num.natAbs*x.den)) (x.den*y.den))),[]⟩]) (G2:=[⟨none,none,5,Xg (x.num.natAbs*y.den)⟩,⟨none,none,6,Xg (y.num.natAbs*x.den)⟩,⟨none,none,7,Xg (x.den*y.den)⟩]) hI rfl rfl rfl [0,1,0,0,12,0,63,127] (by kernel_rfl) (by kernel_rfl) (by kernel_rfl) (by kernel_rfl) ?_ [0,1,2] [0,1,2] rfl rfl fun a w hI=>?_
   ·exact⟨Zs 0 rfl rfl rfl 0 rfl rfl rfl rfl (.inl ⟨rfl,rfl⟩) rfl (by kernel_rfl) (fun b w=>fa_R_0 b 0 w),Zj 0 rfl 0 rfl rfl rfl rfl rfl trivial rfl rfl (by kernel_rfl) Vv rfl rfl (J2 (fs:=(Y0 x)) 0 (f:=⟨false,1,pB (decide (x.num<0))⟩) rfl (off:=0) rfl) (.here 4 rfl),Qa (.tmp 0 rfl rfl) (.here 5 rfl),Qa (.tmp 1 rfl rfl) (.here 6 rfl),Yi (fun _ _=>by kernel_rfl) (Jn _) (.tmp 5 rfl rfl) (.tmp 6 rfl rfl) (.here 7 rfl) (cn_minusS (cmpI_atR t3) (((hx).1).mul hy.2) (by omega)),Qa (.tmp 2 rfl rfl) (.here 8 rfl),Qaz (fun _ _=>by kernel_rfl) (Yo _) (.tmp 4 rfl rfl) (.tmp 7 rfl rfl) (.tmp 8 rfl rfl) (.here 9 rfl) (cn_madeS b2 b4 hd (by omega)),X0 2 rfl rfl rfl rfl 0 rfl (by kernel_rfl) (by kernel_rfl) Yz (.tmp 9 rfl rfl) (Yn _),trivial⟩
   refine wp_ret ?_
   refine Xh ?_
   exact Zu hI rfl (.imp (.cell 2 rfl rfl rfl rfl Yz rfl) (pRef_eqS (add_ge x y (beq_eq_false_iff_ne.1 t2) (cmpI_atR t3)).symm))
  ·have t4:=of_decide_eq_false ht
   refine wp_skip ?_
   refine Qf ?_
   refine K4 (V1:=[⟨2,2,none,none,.ptr,42,3,true,pv (pS (Y0 x)),[]⟩,⟨3,3,none,none,.ptr,42,3,true,pv (pS (Y0 y)),[]⟩,⟨4,4,none,none,.ptr,42,3,true,pv Xx,[(7,pv (Qz (Yq (decide (y.num<0)) ((y.num.natAbs*x.den)-(x.num.natAbs*y.den)) (x.den*y.den))))]⟩]) (A1:=[⟨some 0,46,3,0,True⟩]) (G1:=[⟨none,none,5,Xg (x.num.natAbs*y.den)⟩,⟨none,none,6,Xg (y.num.natAbs*x.den)⟩,⟨none,none,7,Xg (x.den*y.den)⟩,⟨none,none,38,pB (decide ((X3 (x.num.natAbs*y.den) (y.num.natAbs*x.den))≥(0:Int)))⟩,⟨some 1,none,47,pB (decide (y.num<0))⟩,⟨some 2,none,48,Xg (y.num.natAbs*x.den)⟩,⟨some 3,none,49,Xg (x.num.natAbs*y.den)⟩,⟨some 4,none,50,Xg ((y.num.natAbs*x.den)-(x.num.natAbs*y.den))⟩,⟨some 5,none,51,Xg (x.den*y.den)⟩,⟨some 6,none,52,Qz (Yq (decide (y.num<0)) ((y.num.natAbs*x.den)-(x.num.natAbs*y.den)) (x.den*y.den))⟩]) (V2:=[⟨2,2,none,none,.ptr,42,3,true,pv (pS (Y0 x)),[]⟩,⟨3,3,none,none,.ptr,42,3,true,pv (pS (Y0 y)),[]⟩,⟨4,4,none,none,.ptr,42,3,true,pv (Qz (Yq (decide (y.num<0)) ((y.num.natAbs*x.den)-(x.num.natAbs*y.den)) (x.den*y.den))),[]⟩]) (G2:=[]) hI rfl rfl rfl [0,1,0,0,12,0,63,127] (by kernel_rfl) (by kernel_rfl) (by kernel_rfl) (by kernel_rfl) ?_ [0,1,2] [] rfl rfl fun a w hI=>?_
   ·exact⟨Zs 1 rfl rfl rfl 0 rfl rfl rfl rfl (.inl ⟨rfl,rfl⟩) rfl (by kernel_rfl) (fun b w=>fa_R_0 b 0 w),Zj 1 rfl 0 rfl rfl rfl rfl rfl trivial rfl rfl (by kernel_rfl) Vv rfl rfl (J2 (fs:=(Y0 y)) 0 (f:=⟨false,1,pB (decide (y.num<0))⟩) rfl (off:=0) rfl) (.here 4 rfl),Qa (.tmp 1 rfl rfl) (.here 5 rfl),Qa (.tmp 0 rfl rfl) (.here 6 rfl),Yi (fun _ _=>by kernel_rfl) (Jn _) (.tmp 5 rfl rfl) (.tmp 6 rfl rfl) (.here 7 rfl) (cn_minusS (Qfn t4) (((hy).1).mul hx.2) (by omega)),Qa (.tmp 2 rfl rfl) (.here 8 rfl),Qaz (fun _ _=>by kernel_rfl) (Yo _) (.tmp 4 rfl rfl) (.tmp 7 rfl rfl) (.tmp 8 rfl rfl) (.here 9 rfl) (cn_madeS b3 b4 hd (by omega)),X0 2 rfl rfl rfl rfl 0 rfl (by kernel_rfl) (by kernel_rfl) Yz (.tmp 9 rfl rfl) (Yn _),trivial⟩
   refine wp_ret ?_
   exact Zu hI rfl (.imp (.cell 2 rfl rfl rfl rfl Yz rfl) (pRef_eqS (add_lt x y (beq_eq_false_iff_ne.1 t2) (Qfn t4)).symm))
theorem nadd_num (w:World) (vx vy:Value) (x y:Rat) (hx:IsRef w vx x) (hy:IsRef w vy y) {j k:Nat} (hj:BdR j x) (hk:BdR k y) (hjk:j+k+j+k+1≤10000000):Calls Tryz.prog 51 #[vx,vy] w (Uo w (x+y)):=
 (cn_addS hj hk hjk (fun _ _=>False) w vx vy (V5 w) (Yo x _ w vx (V5 w) hx) (Yo y _ w vy (V5 w) hy)).mono fun _ _ h=>h.ret
end Wx
