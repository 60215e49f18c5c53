import Derived.Test.YtadigiledciihaaGreatJRB39
import Derived.Laws.IdiomStrings
import Derived.Maps.AppendAt
import Derived.Lib.IndexLaws
import Derived.Lib.Strings
import Derived.WalkSpells
import Derived.Lib.Slices
import Derived.Lib.Walk
import Derived.Lib.Builder
import Derived.Lib.AppendStr
import Derived.Lib.UnsafeStr
import Derived.Lib.MakeNoZero
import Derived.Laws.IdiomCopy
namespace Wx
set_option maxRecDepth 100000
open Go Go.RowKit Go.Proofs
set_option linter.unusedVariables false
theorem qf (m n:Nat):(m<n/\bf m n = -1)\/(m=n/\bf m n=0)\/(n<m/\bf m n=1):=by
 unfold bf
 rcases Nat.lt_trichotomy m n with h|h|h
 ·exact .inl ⟨h,if_pos h⟩
 ·exact .inr (.inl ⟨h,by rw[if_neg (by omega),if_neg (by omega)]⟩)
 ·exact .inr (.inr ⟨h,by rw[if_neg (by omega),if_pos h]⟩)
variable {m n:Nat}
theorem ya (h:bf m n>=(0:Int)):n<=m:=by
 rcases qf m n with⟨h1,e⟩|⟨h1,e⟩|⟨h1,e⟩<;>omega
theorem qc (h:¬bf m n>=(0:Int)):m<=n:=by
 rcases qf m n with⟨h1,e⟩|⟨h1,e⟩|⟨h1,e⟩<;>omega
variable {x y:Rat}
theorem tn (h:x=y):∀w v,bW x w v->bW y w v:=λ_ _ k=>h▸k
theorem mh (x:Rat):∀w v1,bW x w v1->Calls Tryz.prog 80 #[v1] w (dK (aG x.den) w):=λw v1 h1=>cM w v1 x h1
variable {j k:Nat}
theorem po (hj:Bd j m) (hk:Bd k n) (h1:j<=1000000000) (h2:k<=1000000000):∀w v1 v2,aG m w v1->aG n w v2->Calls Tryz.prog 79 #[v1,v2] w (dK (aG (m*n)) w):=λw v1 v2 a b=>gn w v1 v2 m n a b hj hk h1 h2
theorem E8 (hj:Bd j m) (hk:Bd k n) (h1:j<=1000000000) (h2:k<=1000000000):∀w v1 v2,aG m w v1->aG n w v2->Calls Tryz.prog 89 #[v1,v2] w (dK (aG (m+n)) w):=λw v1 v2 a b=>JM w v1 v2 m n a b hj hk h1 h2
theorem uF (hnm:n<=m) (hj:Bd j m) (h1:j<=1000000000):∀w v1 v2,aG m w v1->aG n w v2->Calls Tryz.prog 91 #[v1,v2] w (dK (aG (m-n)) w):=λw v1 v2 a b=>rX w v1 v2 m n a b hnm hj h1
theorem C8 (m n:Nat):∀w v1 v2,aG m w v1->aG n w v2->Calls Tryz.prog 90 #[v1,v2] w (dK (pI (bf m n)) w):=λw v1 v2 a b=>(er w v1 v2 m n a b).mono λ_ _ h=>⟨_,h.1,rfl,h.2⟩
theorem rQ {neg:Bool} {d:Nat} (hj:Bd j n) (hk:Bd j d) (hd:0<d) (ct:j<=10000000):∀w v1 v2 v3,pB neg w v1->aG n w v2->aG d w v3->Calls Tryz.prog 67 #[v1,v2,v3] w (dK (bW (cI neg n d)) w):=λw v1 v2 v3 h1 h2 h3=>by
 have h1:v1=.bool neg:=h1
 rw[h1]
 exact lG w neg v2 v3 n d h2 h3 hd hj hk ct
theorem Io (hx:cN j x) (hy:cN k y) (AB:j+k+j+k+1<=10000000):∀(M:Nat->Nat->Prop) (w:World) (v0 v1:Value),dR M w->aQ M (λw=>(bW x) w v0) w->aQ M (λw=>(bW y) w v1) w->Calls Tryz.prog 51 #[v0,v1] w (cA M (bW (x+y)) w):=by
 intro M w0 v0 v1 hM hv0 mL
 have b1:=(hx.1.mul hy.2).add (hy.1.mul hx.2)
 have b2:Bd (j+k+(k+j)+1) (x.num.natAbs*y.den-y.num.natAbs*x.den):=((hx.1.mul hy.2).mono (by omega)).le (Nat.sub_le _ _)
 have b3:Bd (j+k+(k+j)+1) (y.num.natAbs*x.den-x.num.natAbs*y.den):=((hy.1.mul hx.2).mono (by omega)).le (Nat.sub_le _ _)
 have b4:Bd (j+k+(k+j)+1) (x.den*y.den):=(hx.2.mul hy.2).mono (by omega)
 have hd:0<x.den*y.den:=Nat.mul_pos x.den_pos y.den_pos
 refine kT (N:=53) Tryz.func51 rfl rfl rfl hM (show eF M w0 [v0,v1] [⟨none,none,0,bW x⟩,⟨none,none,1,bW y⟩]from⟨⟨rfl,_,rfl,hv0⟩,⟨rfl,_,rfl,mL⟩,trivial⟩) λa hI=>?_
 refine iF (V1:=[⟨2,2,some 0,none,.ptr,61,3,true,pv (pS (bF x)),[]⟩,⟨3,3,some 1,none,.ptr,61,3,true,pv (pS (bF y)),[]⟩,⟨4,4,some 2,none,.ptr,61,3,true,pv dZ,[]⟩]) (A1:=[]) (G1:=[⟨none,none,0,bW x⟩,⟨none,none,1,bW y⟩]) (V2:=[⟨2,2,none,none,.ptr,61,3,true,pv (pS (bF x)),[]⟩,⟨3,3,none,none,.ptr,61,3,true,pv (pS (bF y)),[]⟩,⟨4,4,none,none,.ptr,61,3,true,pv dZ,[]⟩]) (G2:=[]) hI rfl rfl rfl [0,1,3] (by kernel_rfl) (by kernel_rfl) ?_ [0,1,2] [] rfl rfl λa w hI=>?_
 ·exact⟨tc 0 rfl rfl (by kernel_rfl) (by kernel_rfl) rfl rfl rfl (.imp (.tmp 0 rfl rfl) (KS _)) (uP _) rfl,tc 1 rfl rfl (by kernel_rfl) (by kernel_rfl) rfl rfl rfl (.imp (.tmp 1 rfl rfl) (KS _)) (uP _) rfl,jz 2 rfl rfl (by kernel_rfl) (by kernel_rfl) rfl rfl rfl Tg rfl rfl (by simp[gR]) rfl (λ_=>trivial),trivial⟩
 refine dQ (V1:=[⟨2,2,none,none,.ptr,61,3,true,pv (pS (bF x)),[]⟩,⟨3,3,none,none,.ptr,61,3,true,pv (pS (bF y)),[]⟩,⟨4,4,none,none,.ptr,61,3,true,pv dZ,[]⟩]) (A1:=[⟨some 0,8,2,1,True⟩,⟨some 5,13,3,1,True⟩]) (G1:=[⟨some 1,none,9,aG x.num.natAbs⟩,⟨some 2,none,10,bW y⟩,⟨some 3,none,11,aG y.den⟩,⟨some 4,none,12,aG (x.num.natAbs*y.den)⟩,⟨some 6,none,14,aG y.num.natAbs⟩,⟨some 7,none,15,bW x⟩,⟨some 8,none,16,aG x.den⟩,⟨some 9,none,17,aG (y.num.natAbs*x.den)⟩,⟨some 10,none,5,aG (x.num.natAbs*y.den)⟩,⟨some 11,none,6,aG (y.num.natAbs*x.den)⟩]) (V2:=[⟨2,2,none,none,.ptr,61,3,true,pv (pS (bF x)),[]⟩,⟨3,3,none,none,.ptr,61,3,true,pv (pS (bF y)),[]⟩,⟨4,4,none,none,.ptr,61,3,true,pv dZ,[]⟩]) (G2:=[⟨none,none,5,aG (x.num.natAbs*y.den)⟩,⟨none,none,6,aG (y.num.natAbs*x.den)⟩]) hI rfl rfl rfl [0,1,0,4,15,0,32,0,159,511,1023,2047] (by kernel_rfl) (by kernel_rfl) (by kernel_rfl) (by kernel_rfl) ?_ [0,1,2] [8,9] rfl rfl λa w hI=>?_
 ·exact⟨bU 0 rfl rfl rfl 0 rfl rfl rfl rfl (.inl ⟨rfl,rfl⟩) rfl (by kernel_rfl) (λb w=>Fi b 0 w),bL 0 rfl 0 rfl rfl rfl rfl rfl trivial rfl rfl (by kernel_rfl) CO rfl rfl (eE (fs:=(bF x)) 1 (f:=⟨false,1,aG x.num.natAbs⟩) rfl (off:=1) rfl) (.here 0 rfl),ou 1 rfl rfl rfl rfl (by kernel_rfl) ur rfl (.at_ 1 _ _ rfl (BO _)),gm (λ_ _=>by kernel_rfl) (bZ _) (.tmp 1 rfl rfl) (.here 2 rfl) (mh _),cD (λ_ _=>by kernel_rfl) (bZ _) (.tmp 0 rfl rfl) (.tmp 2 rfl rfl) (.here 3 rfl) (po (hx).1 hy.2 (by omega) (by omega)),bU 1 rfl rfl rfl 1 rfl rfl rfl rfl (.inl ⟨rfl,rfl⟩) rfl (by kernel_rfl) (λb w=>Fi b 0 w),bL 1 rfl 1 rfl rfl rfl rfl rfl trivial rfl rfl (by kernel_rfl) CO rfl rfl (eE (fs:=(bF y)) 1 (f:=⟨false,1,aG y.num.natAbs⟩) rfl (off:=1) rfl) (.here 4 rfl),ou 0 rfl rfl rfl rfl (by kernel_rfl) ur rfl (.at_ 5 _ _ rfl (BO _)),gm (λ_ _=>by kernel_rfl) (bZ _) (.tmp 5 rfl rfl) (.here 6 rfl) (mh _),cD (λ_ _=>by kernel_rfl) (bZ _) (.tmp 4 rfl rfl) (.tmp 6 rfl rfl) (.here 7 rfl) (po (hy).1 hx.2 (by omega) (by omega)),cW (.tmp 3 rfl rfl) (.here 8 rfl),cW (.tmp 7 rfl rfl) (.here 9 rfl),trivial⟩
 refine dQ (V1:=[⟨2,2,none,none,.ptr,61,3,true,pv (pS (bF x)),[]⟩,⟨3,3,none,none,.ptr,61,3,true,pv (pS (bF y)),[]⟩,⟨4,4,none,none,.ptr,61,3,true,pv dZ,[]⟩]) (A1:=[]) (G1:=[⟨none,none,5,aG (x.num.natAbs*y.den)⟩,⟨none,none,6,aG (y.num.natAbs*x.den)⟩,⟨some 0,none,18,bW x⟩,⟨some 1,none,19,aG x.den⟩,⟨some 2,none,20,bW y⟩,⟨some 3,none,21,aG y.den⟩,⟨some 4,none,22,aG (x.den*y.den)⟩,⟨some 5,none,7,aG (x.den*y.den)⟩]) (V2:=[⟨2,2,none,none,.ptr,61,3,true,pv (pS (bF x)),[]⟩,⟨3,3,none,none,.ptr,61,3,true,pv (pS (bF y)),[]⟩,⟨4,4,none,none,.ptr,61,3,true,pv dZ,[]⟩]) (G2:=[⟨none,none,5,aG (x.num.natAbs*y.den)⟩,⟨none,none,6,aG (y.num.natAbs*x.den)⟩,⟨none,none,7,aG (x.den*y.den)⟩]) hI rfl rfl rfl [0,1,0,7,15,31] (by kernel_rfl) (by kernel_rfl) (by kernel_rfl) (by kernel_rfl) ?_ [0,1,2] [0,1,7] rfl rfl λa w hI=>?_
 ·exact⟨ou 0 rfl rfl rfl rfl (by kernel_rfl) ur rfl (.at_ 2 _ _ rfl (BO _)),gm (λ_ _=>by kernel_rfl) (bZ _) (.tmp 2 rfl rfl) (.here 3 rfl) (mh _),ou 1 rfl rfl rfl rfl (by kernel_rfl) ur rfl (.at_ 4 _ _ rfl (BO _)),gm (λ_ _=>by kernel_rfl) (bZ _) (.tmp 4 rfl rfl) (.here 5 rfl) (mh _),cD (λ_ _=>by kernel_rfl) (bZ _) (.tmp 3 rfl rfl) (.tmp 5 rfl rfl) (.here 6 rfl) (po hx.2 hy.2 (by omega) (by omega)),cW (.tmp 6 rfl rfl) (.here 7 rfl),trivial⟩
 refine wp_seq ?_
 refine iF (V1:=[⟨2,2,none,none,.ptr,61,3,true,pv (pS (bF x)),[]⟩,⟨3,3,none,none,.ptr,61,3,true,pv (pS (bF y)),[]⟩,⟨4,4,none,none,.ptr,61,3,true,pv dZ,[]⟩]) (A1:=[⟨some 0,23,2,0,True⟩,⟨some 2,25,3,0,True⟩]) (G1:=[⟨none,none,5,aG (x.num.natAbs*y.den)⟩,⟨none,none,6,aG (y.num.natAbs*x.den)⟩,⟨none,none,7,aG (x.den*y.den)⟩,⟨some 1,none,24,pB (decide (x.num<0))⟩,⟨some 3,none,26,pB (decide (y.num<0))⟩,⟨some 4,none,27,pB ((decide (x.num<0))==(decide (y.num<0)))⟩]) (V2:=[⟨2,2,none,none,.ptr,61,3,true,pv (pS (bF x)),[]⟩,⟨3,3,none,none,.ptr,61,3,true,pv (pS (bF y)),[]⟩,⟨4,4,none,none,.ptr,61,3,true,pv dZ,[]⟩]) (G2:=[⟨none,none,5,aG (x.num.natAbs*y.den)⟩,⟨none,none,6,aG (y.num.natAbs*x.den)⟩,⟨none,none,7,aG (x.den*y.den)⟩,⟨none,none,27,pB ((decide (x.num<0))==(decide (y.num<0)))⟩]) hI rfl rfl rfl [0,1,3,7,15] (by kernel_rfl) (by kernel_rfl) ?_ [0,1,2] [0,1,2,5] rfl rfl λa w hI=>?_
 ·exact⟨bU 0 rfl rfl rfl 0 rfl rfl rfl rfl (.inl ⟨rfl,rfl⟩) rfl (by kernel_rfl) (λb w=>sj b 0 w),bL 0 rfl 0 rfl rfl rfl rfl rfl trivial rfl rfl (by kernel_rfl) gb rfl rfl (eE (fs:=(bF x)) 0 (f:=⟨false,1,pB (decide (x.num<0))⟩) rfl (off:=0) rfl) (.here 3 rfl),bU 1 rfl rfl rfl 1 rfl rfl rfl rfl (.inl ⟨rfl,rfl⟩) rfl (by kernel_rfl) (λb w=>sj b 0 w),bL 1 rfl 1 rfl rfl rfl rfl rfl trivial rfl rfl (by kernel_rfl) gb rfl rfl (eE (fs:=(bF y)) 0 (f:=⟨false,1,pB (decide (y.num<0))⟩) rfl (off:=0) rfl) (.here 4 rfl),qy (v:=.bool ((decide (x.num<0))==(decide (y.num<0)))) (.tmp 3 rfl rfl) (.tmp 4 rfl rfl) (λ_=>by kernel_rfl) (.here 5 rfl),trivial⟩
 refine qW hI 3 rfl (λht=>?_) (λht=>?_)
 ·have t1:=ht
  refine dQ (V1:=[⟨2,2,none,none,.ptr,61,3,true,pv (pS (bF x)),[]⟩,⟨3,3,none,none,.ptr,61,3,true,pv (pS (bF y)),[]⟩,⟨4,4,none,none,.ptr,61,3,true,pv dZ,[(7,pv (bW (cI (decide (x.num<0)) ((x.num.natAbs*y.den)+(y.num.natAbs*x.den)) (x.den*y.den))))]⟩]) (A1:=[⟨some 0,28,2,0,True⟩]) (G1:=[⟨none,none,5,aG (x.num.natAbs*y.den)⟩,⟨none,none,6,aG (y.num.natAbs*x.den)⟩,⟨none,none,7,aG (x.den*y.den)⟩,⟨none,none,27,pB ((decide (x.num<0))==(decide (y.num<0)))⟩,⟨some 1,none,29,pB (decide (x.num<0))⟩,⟨some 2,none,30,aG (x.num.natAbs*y.den)⟩,⟨some 3,none,31,aG (y.num.natAbs*x.den)⟩,⟨some 4,none,32,aG ((x.num.natAbs*y.den)+(y.num.natAbs*x.den))⟩,⟨some 5,none,33,aG (x.den*y.den)⟩,⟨some 6,none,34,bW (cI (decide (x.num<0)) ((x.num.natAbs*y.den)+(y.num.natAbs*x.den)) (x.den*y.den))⟩]) (V2:=[⟨2,2,none,none,.ptr,61,3,true,pv (pS (bF x)),[]⟩,⟨3,3,none,none,.ptr,61,3,true,pv (pS (bF y)),[]⟩,⟨4,4,none,none,.ptr,61,3,true,pv (bW (cI (decide (x.num<0)) ((x.num.natAbs*y.den)+(y.num.natAbs*x.den)) (x.den*y.den))),[]⟩]) (G2:=[⟨none,none,5,aG (x.num.natAbs*y.den)⟩,⟨none,none,6,aG (y.num.natAbs*x.den)⟩,⟨none,none,7,aG (x.den*y.den)⟩]) hI rfl rfl rfl [0,1,0,0,12,0,63,127] (by kernel_rfl) (by kernel_rfl) (by kernel_rfl) (by kernel_rfl) ?_ [0,1,2] [0,1,2] rfl rfl λa w hI=>?_
  ·exact⟨bU 0 rfl rfl rfl 0 rfl rfl rfl rfl (.inl ⟨rfl,rfl⟩) rfl (by kernel_rfl) (λb w=>sj b 0 w),bL 0 rfl 0 rfl rfl rfl rfl rfl trivial rfl rfl (by kernel_rfl) gb rfl rfl (eE (fs:=(bF x)) 0 (f:=⟨false,1,pB (decide (x.num<0))⟩) rfl (off:=0) rfl) (.here 4 rfl),bA (.tmp 0 rfl rfl) (.here 5 rfl),bA (.tmp 1 rfl rfl) (.here 6 rfl),cD (λ_ _=>by kernel_rfl) (bZ _) (.tmp 5 rfl rfl) (.tmp 6 rfl rfl) (.here 7 rfl) (E8 (((hx).1).mul hy.2) (((hy).1).mul hx.2) (by omega) (by omega)),bA (.tmp 2 rfl rfl) (.here 8 rfl),jA (λ_ _=>by kernel_rfl) (dA _) (.tmp 4 rfl rfl) (.tmp 7 rfl rfl) (.tmp 8 rfl rfl) (.here 9 rfl) (rQ b1 b4 hd (by omega)),iC 2 rfl rfl rfl rfl 0 rfl (by kernel_rfl) (by kernel_rfl) ur (.tmp 9 rfl rfl) (lq _),trivial⟩
  refine wp_ret ?_
  refine aH ?_
  exact fo hI rfl (.imp (.cell 2 rfl rfl rfl rfl ur rfl) (tn (add_same x y (beq_iff_eq.1 t1)).symm))
 ·have t2:=ht
  refine wp_skip ?_
  refine ai ?_
  refine wp_seq ?_
  refine iF (V1:=[⟨2,2,none,none,.ptr,61,3,true,pv (pS (bF x)),[]⟩,⟨3,3,none,none,.ptr,61,3,true,pv (pS (bF y)),[]⟩,⟨4,4,none,none,.ptr,61,3,true,pv dZ,[]⟩]) (A1:=[]) (G1:=[⟨none,none,5,aG (x.num.natAbs*y.den)⟩,⟨none,none,6,aG (y.num.natAbs*x.den)⟩,⟨none,none,7,aG (x.den*y.den)⟩,⟨none,none,27,pB ((decide (x.num<0))==(decide (y.num<0)))⟩,⟨some 0,none,35,aG (x.num.natAbs*y.den)⟩,⟨some 1,none,36,aG (y.num.natAbs*x.den)⟩,⟨some 2,none,37,pI (bf (x.num.natAbs*y.den) (y.num.natAbs*x.den))⟩,⟨some 3,none,38,pB (decide ((bf (x.num.natAbs*y.den) (y.num.natAbs*x.den))>=(0:Int)))⟩]) (V2:=[⟨2,2,none,none,.ptr,61,3,true,pv (pS (bF x)),[]⟩,⟨3,3,none,none,.ptr,61,3,true,pv (pS (bF y)),[]⟩,⟨4,4,none,none,.ptr,61,3,true,pv dZ,[]⟩]) (G2:=[⟨none,none,5,aG (x.num.natAbs*y.den)⟩,⟨none,none,6,aG (y.num.natAbs*x.den)⟩,⟨none,none,7,aG (x.den*y.den)⟩,⟨none,none,38,pB (decide ((bf (x.num.natAbs*y.den) (y.num.natAbs*x.den))>=(0:Int)))⟩]) hI rfl rfl rfl [0,1,3,7] (by kernel_rfl) (by kernel_rfl) ?_ [0,1,2] [0,1,2,7] rfl rfl λa w hI=>?_
  ·exact⟨bA (.tmp 0 rfl rfl) (.here 4 rfl),bA (.tmp 1 rfl rfl) (.here 5 rfl),cD (λ_ _=>by kernel_rfl) (cB _) (.tmp 4 rfl rfl) (.tmp 5 rfl rfl) (.here 6 rfl) (C8 _ _),gD (v:=.bool (decide ((bf (x.num.natAbs*y.den) (y.num.natAbs*x.den))>=(0:Int)))) (.tmp 6 rfl rfl) (.const _) (λ_=>rfl) (.here 7 rfl),trivial⟩
  refine qW hI 3 rfl (λht=>?_) (λht=>?_)
  ·have t3:=of_decide_eq_true ht
   refine dQ (V1:=[⟨2,2,none,none,.ptr,61,3,true,pv (pS (bF x)),[]⟩,⟨3,3,none,none,.ptr,61,3,true,pv (pS (bF y)),[]⟩,⟨4,4,none,none,.ptr,61,3,true,pv dZ,[(7,pv (bW (cI (decide (x.num<0)) ((x.num.natAbs*y.den)-(y.num.natAbs*x.den)) (x.den*y.den))))]⟩]) (A1:=[⟨some 0,39,2,0,True⟩]) (G1:=[⟨none,none,5,aG (x.num.natAbs*y.den)⟩,⟨none,none,6,aG (y.num.natAbs*x.den)⟩,⟨none,none,7,aG (x.den*y.den)⟩,⟨none,none,38,pB (decide ((bf (x.num.natAbs*y.den) (y.num.natAbs*x.den))>=(0:Int)))⟩,⟨some 1,none,40,pB (decide (x.num<0))⟩,⟨some 2,none,41,aG (x.num.natAbs*y.den)⟩,⟨some 3,none,42,aG (y.num.natAbs*x.den)⟩,⟨some 4,none,43,aG ((x.num.natAbs*y.den)-(y.num.natAbs*x.den))⟩,⟨some 5,none,44,aG (x.den*y.den)⟩,⟨some 6,none,45,bW (cI (decide (x.num<0)) ((x.num.natAbs*y.den)-(y.num.natAbs*x.den)) (x.den*y.den))⟩]) (V2:=[⟨2,2,none,none,.ptr,61,3,true,pv (pS (bF x)),[]⟩,⟨3,3,none,none,.ptr,61,3,true,pv (pS (bF y)),[]⟩,⟨4,4,none,none,.ptr,61,3,true,pv (bW (cI (decide (x.num<0)) ((x.num.natAbs*y.den)-(y.num.natAbs*x.den)) (x.den*y.den))),[]⟩]) (G2:=[⟨none,none,5,aG (x.num.natAbs*y.den)⟩,⟨none,none,6,aG (y.num.natAbs*x.den)⟩,⟨none,none,7,aG (x.den*y.den)⟩]) hI rfl rfl rfl [0,1,0,0,12,0,63,127] (by kernel_rfl) (by kernel_rfl) (by kernel_rfl) (by kernel_rfl) ?_ [0,1,2] [0,1,2] rfl rfl λa w hI=>?_
   ·exact⟨bU 0 rfl rfl rfl 0 rfl rfl rfl rfl (.inl ⟨rfl,rfl⟩) rfl (by kernel_rfl) (λb w=>sj b 0 w),bL 0 rfl 0 rfl rfl rfl rfl rfl trivial rfl rfl (by kernel_rfl) gb rfl rfl (eE (fs:=(bF x)) 0 (f:=⟨false,1,pB (decide (x.num<0))⟩) rfl (off:=0) rfl) (.here 4 rfl),bA (.tmp 0 rfl rfl) (.here 5 rfl),bA (.tmp 1 rfl rfl) (.here 6 rfl),cD (λ_ _=>by kernel_rfl) (bZ _) (.tmp 5 rfl rfl) (.tmp 6 rfl rfl) (.here 7 rfl) (uF (ya t3) (((hx).1).mul hy.2) (by omega)),bA (.tmp 2 rfl rfl) (.here 8 rfl),jA (λ_ _=>by kernel_rfl) (dA _) (.tmp 4 rfl rfl) (.tmp 7 rfl rfl) (.tmp 8 rfl rfl) (.here 9 rfl) (rQ b2 b4 hd (by omega)),iC 2 rfl rfl rfl rfl 0 rfl (by kernel_rfl) (by kernel_rfl) ur (.tmp 9 rfl rfl) (lq _),trivial⟩
   refine wp_ret ?_
   refine aH ?_
   exact fo hI rfl (.imp (.cell 2 rfl rfl rfl rfl ur rfl) (tn (Ac x y (beq_eq_false_iff_ne.1 t2) (ya t3)).symm))
  ·have t4:=of_decide_eq_false ht
   refine wp_skip ?_
   refine ai ?_
   refine dQ (V1:=[⟨2,2,none,none,.ptr,61,3,true,pv (pS (bF x)),[]⟩,⟨3,3,none,none,.ptr,61,3,true,pv (pS (bF y)),[]⟩,⟨4,4,none,none,.ptr,61,3,true,pv dZ,[(7,pv (bW (cI (decide (y.num<0)) ((y.num.natAbs*x.den)-(x.num.natAbs*y.den)) (x.den*y.den))))]⟩]) (A1:=[⟨some 0,46,3,0,True⟩]) (G1:=[⟨none,none,5,aG (x.num.natAbs*y.den)⟩,⟨none,none,6,aG (y.num.natAbs*x.den)⟩,⟨none,none,7,aG (x.den*y.den)⟩,⟨none,none,38,pB (decide ((bf (x.num.natAbs*y.den) (y.num.natAbs*x.den))>=(0:Int)))⟩,⟨some 1,none,47,pB (decide (y.num<0))⟩,⟨some 2,none,48,aG (y.num.natAbs*x.den)⟩,⟨some 3,none,49,aG (x.num.natAbs*y.den)⟩,⟨some 4,none,50,aG ((y.num.natAbs*x.den)-(x.num.natAbs*y.den))⟩,⟨some 5,none,51,aG (x.den*y.den)⟩,⟨some 6,none,52,bW (cI (decide (y.num<0)) ((y.num.natAbs*x.den)-(x.num.natAbs*y.den)) (x.den*y.den))⟩]) (V2:=[⟨2,2,none,none,.ptr,61,3,true,pv (pS (bF x)),[]⟩,⟨3,3,none,none,.ptr,61,3,true,pv (pS (bF y)),[]⟩,⟨4,4,none,none,.ptr,61,3,true,pv (bW (cI (decide (y.num<0)) ((y.num.natAbs*x.den)-(x.num.natAbs*y.den)) (x.den*y.den))),[]⟩]) (G2:=[]) hI rfl rfl rfl [0,1,0,0,12,0,63,127] (by kernel_rfl) (by kernel_rfl) (by kernel_rfl) (by kernel_rfl) ?_ [0,1,2] [] rfl rfl λa w hI=>?_
   ·exact⟨bU 1 rfl rfl rfl 0 rfl rfl rfl rfl (.inl ⟨rfl,rfl⟩) rfl (by kernel_rfl) (λb w=>sj b 0 w),bL 1 rfl 0 rfl rfl rfl rfl rfl trivial rfl rfl (by kernel_rfl) gb rfl rfl (eE (fs:=(bF y)) 0 (f:=⟨false,1,pB (decide (y.num<0))⟩) rfl (off:=0) rfl) (.here 4 rfl),bA (.tmp 1 rfl rfl) (.here 5 rfl),bA (.tmp 0 rfl rfl) (.here 6 rfl),cD (λ_ _=>by kernel_rfl) (bZ _) (.tmp 5 rfl rfl) (.tmp 6 rfl rfl) (.here 7 rfl) (uF (qc t4) (((hy).1).mul hx.2) (by omega)),bA (.tmp 2 rfl rfl) (.here 8 rfl),jA (λ_ _=>by kernel_rfl) (dA _) (.tmp 4 rfl rfl) (.tmp 7 rfl rfl) (.tmp 8 rfl rfl) (.here 9 rfl) (rQ b3 b4 hd (by omega)),iC 2 rfl rfl rfl rfl 0 rfl (by kernel_rfl) (by kernel_rfl) ur (.tmp 9 rfl rfl) (lq _),trivial⟩
   refine wp_ret ?_
   exact fo hI rfl (.imp (.cell 2 rfl rfl rfl rfl ur rfl) (tn (Ad x y (beq_eq_false_iff_ne.1 t2) (qc t4)).symm))
theorem Ga (w:World) (vx vy:Value) (x y:Rat) (hx:cG w vx x) (hy:cG w vy y) {j k:Nat} (hj:cN j x) (hk:cN k y) (AB:j+k+j+k+1<=10000000):Calls Tryz.prog 51 #[vx,vy] w (jS w (x+y)):=
 (Io hj hk AB (λ_ _=>False) w vx vy (jw w) (dA x _ w vx (jw w) hx) (dA y _ w vy (jw w) hy)).mono λ_ _ h=>h.ret
end Wx

namespace Wx
open Go Go.RowKit Go.Proofs
end Wx

namespace Wx
open Go Go.RowKit Go.Proofs
end Wx

namespace Wx
open Go Go.RowKit Go.Proofs
end Wx

namespace Wx
set_option maxRecDepth 100000
set_option maxHeartbeats 1000000
open Go Go.RowKit Go.Proofs
def bz (n:Nat):List Nat:=((ae 10 n).map (·+48)).reverse
theorem gU:bz 0=[]:=rfl
variable {n:Nat}
theorem kX (h:0<n):bz n=bz (n/10)++[n%10+48]:=by
 unfold bz
 rw[fC (by omega) h]
 simp
theorem kW {k:Nat} (h:n<10^k):(bz n).length<=k:=by
 unfold bz
 rw[List.length_reverse,List.length_map]
 exact fB (by omega) h
theorem jU (h:0<n):0<(bz n).length:=by
 rw[kX h]; simp
def strOf (l:List Nat):ByteArray:=⟨(l.map UInt8.ofNat).toArray⟩
theorem zG {w:World} {g o c:Nat} {l:List Nat} (hw:Wf 256 l) (h:∀j,j<l.length->w.cell? ⟨g,o+j,none⟩=some (.int .u8 (l.getD j 0:Nat))) (n:Nat) (hn:n=l.length):
  (convert 133 9 (.slice (some ⟨g,o,none⟩) n c)).run Tryz.prog w=.ok (.string (strOf l)) w:=by
 subst hn
 have hl:l.length=(l.map UInt8.ofNat).length:=by simp
 rw[hl]
 refine run_convert_bytes_back w 133 9 5 ⟨g,o,none⟩ c (l.map UInt8.ofNat) Tryz.underlying133 Tryz.underlying5 Tryz.underlying9 (λj hj=>?_)
 rw[<-hl]at hj
 have h1:=h j hj
 have h2:=hw.get hj
 rw[List.getD_eq_getElem?_getD,List.getElem?_eq_getElem hj,Option.getD_some]at h1
 rw[show(⟨g,o,none⟩:Addr).add j=⟨g,o+j,none⟩ by simp[Addr.add],h1,List.getElem_map,UInt8.toNat_ofNat_of_lt' h2]
theorem yc (w:World) (n:Nat) (hn:n<b64):Calls Tryz.prog 97 #[.int .u64 (n:Int)] w (cP w (.string (strOf (bz n)))):=by
 have HL:=bx (kW (n:=n) (k:=20) (Nat.lt_of_lt_of_le hn (by unfold b64; decide)))
 have HN:=bx hn
 clear hn
 go_enter Tryz.func97,Tryz.ntmps97
 go_wp2_with fail
 have hrow:=Row.new w .u8 161 (List.replicate 20 0)
 have hb0:Below w.heap.size w (w.alloc (.cells (eK .u8 (List.replicate 20 0)).toArray 161)):=Below.alloc (Below.refl _ _) (Nat.le_refl _) _
 change (Code.wp _ _ _ _ (w.alloc (.cells (eK .u8 (List.replicate 20 0)).toArray 161)))
 generalize w.alloc (.cells (eK .u8 (List.replicate 20 0)).toArray 161)=w1 at *
 go_loopw [0,4] (λs0 s4 wr=>∃(m at_:Nat) (L:List Nat),s0=.int .u64 (m:Int)/\s4=.int .i64 (at_:Int)/\at_<=20/\Bx (L.length=20)/\Wf 256 L/\Row wr .u8 161 w.heap.size L/\Below w.heap.size w wr/\Bx (bz n=bz m++L.drop at_)/\Bx (m<b64)) (λs0 _ _=>(RowKit.intOf s0).toNat)
 case atStart=>exact⟨n,20,List.replicate 20 0,rfl,rfl,Nat.le_refl _,bx (by simp),Wf.replicate (by omega) _,hrow,hb0,bx (by simp),HN⟩
 case round=>
  clear hrow hb0
  obtain⟨m,at_,L,rfl,rfl,hat,Nf,FJ,hr,hbl,HD,HM⟩:=hrel
  rcases Nat.eq_zero_or_pos m with rfl|hm0
  ·have hai:(at_:Int)<=20:=by omega
   have Vx:(0:Int)<=(at_:Int):=by omega
   have hu:=Tryz.underlying161
   have hdn:bz n=L.drop at_:=HD.out
   have hwd:Wf 256 (bz n):=by rw[hdn]; exact FJ.drop _
   have Kn:20-at_=(bz n).length:=by rw[hdn,List.length_drop,Nf.out]
   have hcs:∀j,j<(bz n).length->wr.cell? ⟨w.heap.size,at_+j,none⟩=some (.int .u8 ((bz n).getD j 0:Nat)):=λj hj=>by
    rw[hr.cell (i:=at_+j) (by rw[Nf.out]; omega),hdn]
    simp[List.getD_eq_getElem?_getD]
   have hcv:=zG (c:=20-at_) hwd hcs _ Kn
   have UD:=bx Kn
   clear hdn hwd hcs Kn HD
   by_cases TC:at_=20
   ·subst TC
    have VM:=zG (w:=wr) (g:=w.heap.size) (o:=0) (c:=0) (Wf.nil 256) (λj hj=>absurd hj (by simp)) 0 rfl
    have hE:bz n=[]:=List.eq_nil_of_length_eq_zero (by have:=UD.out; omega)
    clear hcv
    go_wp2
    go_ret
    rw[hE]
    exact⟨rfl,hbl⟩
   ·have hne:¬20=at_:=λh=>TC h.symm
    go_wp2
    go_ret
    exact⟨rfl,hbl⟩
  ·have Vy:1<=at_:=by
    have h1:=congrArg List.length HD.out
    have h2:=jU hm0
    have h3:=HL.out
    have h4:=Nf.out
    rw[List.length_append,List.length_drop]at h1
    omega
   obtain⟨k,rfl⟩:∃k,at_=k+1:=⟨at_-1,by omega⟩
   obtain⟨vo,Cj,Es⟩:=hr.get (i:=k) (by have:=Nf.out; omega)
   have tS:=hr.frozen k
   have kN:(k:Int)<20:=by omega
   have uT:(0:Int)<=(k:Int):=by omega
   have Ko:(1:Int)<=(m:Int):=by omega
   have hw:IntKind.u64.wrap ((m:Int)/10)=((m/10:Nat):Int):=by
    have:=HM.out
    rw[wrap_u64 (by omega) (by unfold b64 at this; omega)]; omega
   have hv:48+(m:Int)%10=((m%10+48:Nat):Int):=by omega
   have HW:=bx hw
   have HV:=bx hv
   clear hw hv
   go_wp2_with fail
   rw[HW.out,HV.out]
   refine⟨⟨m/10,k,L.set k (m%10+48),rfl,rfl,by omega,bx (by rw[List.length_set]; exact Nf.out),FJ.set (by omega),hr.set k _,hbl.setCell (Nat.le_refl _) _,bx ?_,bx (Nat.lt_of_le_of_lt (Nat.div_le_self _ _) HM.out)⟩,by simp[RowKit.intOf]; omega⟩
   rw[HD.out,kX hm0,jd (by have:=Nf.out; omega),List.append_assoc]
   rfl
end Wx

namespace Wx
open Go Go.RowKit Go.Proofs
theorem aK (l:List Nat):(strOf l).size=l.length:=by simp[strOf,ByteArray.size]
end Wx

namespace Wx
open Go Go.RowKit Go.Proofs
end Wx

namespace Wx
open Go Go.RowKit Go.Proofs
end Wx

namespace Wx
set_option maxRecDepth 100000
set_option maxHeartbeats 1000000
open Go Go.RowKit Go.Proofs
theorem vN:(Tryz.prog.info? 135).map (·.size)=some 2:=by kernel_rfl
theorem liesBuilder:liesAt Tryz.prog Tryz.prog.depth 135 (2/Tryz.prog.cellsOf 135) 0 135 1=true:=by kernel_rfl
theorem infoByte:(Tryz.prog.info? 5).map (λi=>(i.zero,i.size,i.bytes))=some (some (.int .u8 0),1,1):=by kernel_rfl
theorem rS (b:Nat) (w:World) (h0:w.cell? ⟨b,0,none⟩=some (.pointer (some ⟨b,0,none⟩))):
  Calls Tryz.prog 127 #[.pointer (some ⟨b,0,none⟩)] w λe w'=>e=.returned (.tuple #[])/\w'=w:=by
 obtain⟨j,hj,_⟩:=Option.map_eq_some_iff.1 vN
 go_enter Tryz.func127,Tryz.ntmps127
 go_wp2
 rw[Lib.run_neq_ptr_same w _ Tryz.underlying132 hj]
 go_wp2
 go_end0
 exact⟨rfl,rfl⟩
theorem qG (b:Nat) (w:World) (h0:w.cell? ⟨b,0,none⟩=some (.pointer none)) (hsh:w.shape? b=some (135,2)) (hfz:w.frozen? ⟨b,0,none⟩=false):
  Calls Tryz.prog 127 #[.pointer (some ⟨b,0,none⟩)] w λe w'=>e=.returned (.tuple #[])/\w'=w.setCell ⟨b,0,none⟩ (.pointer (some ⟨b,0,none⟩)):=by
 obtain⟨j,hj,Qa⟩:=Option.map_eq_some_iff.1 vN
 go_enter Tryz.func127,Tryz.ntmps127
 go_wp2
 rw[Lib.run_to_unsafe w ⟨b,0,none⟩ Tryz.underlying132 Tryz.underlying183 hj (by rw[Qa]; decide) hsh (Nat.zero_lt_succ 1)]
 simp only[Result.andThen]
 rw[Oper.upon_value]
 go_wp2
 rw[run_callFunc_extern Tryz.func149 (by kernel_rfl) (by kernel_rfl) (by kernel_rfl) (e:=Extern.AbiNoEscape.same) (by kernel_rfl)]
 rw[Lib.run_noEscape]
 simp only[Result.andThen]
 rw[Oper.upon_value]
 go_wp2
 rw[Lib.run_from_unsafe w ⟨b,0,none⟩ Tryz.underlying183 Tryz.underlying132 hj hsh liesBuilder]
 simp only[Result.andThen]
 rw[Oper.upon_value]
 go_wp2
 go_end0
 exact⟨rfl,rfl⟩
theorem tY (B b:Nat) (bs:List Value) (w:World) (h:Lib.IsBuilder 135 5 B b bs w):
  Calls Tryz.prog 127 #[.pointer (some ⟨b,0,none⟩)] w λe w'=>e=.returned (.tuple #[])/\(Lib.BuilderAt 135 5 B b (.pointer (some ⟨b,0,none⟩)) bs w'/\Below B w w'):=by
 rcases h with h|h
 ·refine(qG b w h.cell0 h.shape h.frozen0).mono ?_
  rintro e w' ⟨rfl,rfl⟩
  exact⟨rfl,h.used _,(Below.refl B w).setCell (p:=⟨b,0,none⟩) h.1 _⟩
 ·refine(rS b w h.cell0).mono ?_
  rintro e w' ⟨rfl,rfl⟩
  exact⟨rfl,h,Below.refl B _⟩
set_option maxHeartbeats 2000000 in
theorem qN (B b:Nat) (bs:List Value) (s:ByteArray) (w:World) (h:Lib.IsBuilder 135 5 B b bs w) (hlen:bs.length+s.size<=140737488355328) (hBw:B<=w.heap.size):
  Calls Tryz.prog 99 #[.pointer (some ⟨b,0,none⟩),.string s] w λe w'=>e=.returned (.tuple #[.int .i64 s.size,.nilIface])/\(Lib.BuilderAt 135 5 B b (.pointer (some ⟨b,0,none⟩)) (bs++Lib.strCells s) w'/\Below B w w'):=by
 obtain⟨i0,hi,hz0,hz1,hz2⟩:=info_parts infoByte
 go_enter Tryz.func99,Tryz.ntmps99
 go_wp2_with (go_at_call 127; refine(tY B b bs _ h).mono ?_)
 rintro e w1 ⟨rfl,h1,hb1⟩
 obtain⟨hB,v,hbk,hown,hne⟩:=h1
 have c0:w1.cell? ⟨b,0,none⟩=some (.pointer (some ⟨b,0,none⟩)):=by rw[Lib.cell_of_heap hbk]; rfl
 have c1:w1.cell? ⟨b,1,none⟩=some v:=by rw[Lib.cell_of_heap hbk]; rfl
 go_wp2_with (at_builtin; refine Lib.wpList_append_own_string _ rfl _ _ 133 9 rfl B 5 i0 Tryz.underlying133 Tryz.underlying9 hi hz0 hz1 hz2 _ _ _ rfl hown s rfl ?c3 ?c4 ?c5 ?_)
 case c3=>unfold maxLen; omega
 case c4=>omega
 case c5=>have:=hb1.size; omega
 intro v' w2 hown' hgrow _
 have hlt:b<w1.heap.size:=by
  rcases Nat.lt_or_ge b w1.heap.size with h'|h'
  ·exact h'
  ·simp[Array.getElem?_eq_none h']at hbk
 have hb2:w2.heap[b]?=some (.cells #[.pointer (some ⟨b,0,none⟩),v] 135 (0,0)):=by
  rw[hgrow.block b hlt (λe=>hne e.symm)]
  exact hbk
 have d0:w2.cell? ⟨b,0,none⟩=some (.pointer (some ⟨b,0,none⟩)):=by rw[Lib.cell_of_heap hb2]; rfl
 have d1:w2.cell? ⟨b,1,none⟩=some v:=by rw[Lib.cell_of_heap hb2]; rfl
 have f1:w2.frozen? ⟨b,1,none⟩=false:=Lib.frozen_of_heap hb2 1
 obtain⟨ao,n',cap,rfl⟩:∃ao n' cap,v'=.slice ao n' cap:=by
  rcases hown'.2 with⟨hv,_⟩|⟨g,cap,cur,hv,_⟩
  ·exact⟨_,_,_,hv⟩
  ·exact⟨_,_,_,hv⟩
 go_wp2
 go_ret2
 refine⟨rfl,?_,?_⟩
 ·exact Lib.BuilderAt.put (T:=135) (e:=5) hB hb2 (bs':=bs++Lib.strCells s) (by simpa [Lib.strCells_length] using hown') (by decide)
 ·exact(hb1.grown hgrow (by have:=hb1.size; omega) (λk hk=>(hown.lt k hk).1)).setCell (p:=⟨b,1,none⟩) hB _
end Wx
