import Derived.Test.YtocboimkilkklaaGreatJRC45
import Derived.Test.YtocboimkilkklaaGreatJRC44
namespace Wx
open Go Go.RowKit Go.Proofs
end Wx

namespace Wx
open Go Go.RowKit Go.Proofs
end Wx

namespace Wx
open Go Go.RowKit Go.Proofs
end Wx

namespace Wx
open Go Go.RowKit Go.Proofs
end Wx

namespace Wx
open Go Go.RowKit Go.Proofs
end Wx

namespace Wx
open Go Go.RowKit
theorem Mu (a b c d:Rat) (i:Nat) (h:i<4):[a,b,c,d].getD i 0=a\/[a,b,c,d].getD i 0=b\/[a,b,c,d].getD i 0=c\/[a,b,c,d].getD i 0=d:=by
 match i,h with
 |0,_=>exact .inl rfl
 |1,_=>exact .inr (.inl rfl)
 |2,_=>exact .inr (.inr (.inl rfl))
 |3,_=>exact .inr (.inr (.inr rfl))
theorem yF (a b c d:Rat):jl a b c d<=a/\jl a b c d<=b/\jl a b c d<=c/\jl a b c d<=d:=
 ⟨kL [a,b,c,d] 4 0 (by omega),kL [a,b,c,d] 4 1 (by omega),kL [a,b,c,d] 4 2 (by omega),kL [a,b,c,d] 4 3 (by omega)⟩
theorem yD (a b c d:Rat):a<=jj a b c d/\b<=jj a b c d/\c<=jj a b c d/\d<=jj a b c d:=
 ⟨kJ [a,b,c,d] 4 0 (by omega),kJ [a,b,c,d] 4 1 (by omega),kJ [a,b,c,d] 4 2 (by omega),kJ [a,b,c,d] 4 3 (by omega)⟩
theorem IG (a b c d:Rat):jl a b c d=a\/jl a b c d=b\/jl a b c d=c\/jl a b c d=d:=by
 obtain⟨i,_,h2,h3⟩:=wZ [a,b,c,d] 4
 unfold jl
 rw[h3]
 exact Mu a b c d i (h2 (by omega))
theorem IF (a b c d:Rat):jj a b c d=a\/jj a b c d=b\/jj a b c d=c\/jj a b c d=d:=by
 obtain⟨i,_,h2,h3⟩:=wX [a,b,c,d] 4
 unfold jj
 rw[h3]
 exact Mu a b c d i (h2 (by omega))
theorem Mt (a b:Rat) (i:Nat) (h:i<2):[a,b].getD i 0=a\/[a,b].getD i 0=b:=by
 match i,h with
 |0,_=>exact .inl rfl
 |1,_=>exact .inr rfl
theorem lG (a b:Rat):min2 a b<=a/\min2 a b<=b:=⟨kL [a,b] 2 0 (by omega),kL [a,b] 2 1 (by omega)⟩
theorem lF (a b:Rat):a<=max2 a b/\b<=max2 a b:=⟨kJ [a,b] 2 0 (by omega),kJ [a,b] 2 1 (by omega)⟩
theorem jk (a b:Rat):min2 a b=a\/min2 a b=b:=by
 obtain⟨i,_,h2,h3⟩:=wZ [a,b] 2
 unfold min2
 rw[h3]
 exact Mt a b i (h2 (by omega))
theorem ji (a b:Rat):max2 a b=a\/max2 a b=b:=by
 obtain⟨i,_,h2,h3⟩:=wX [a,b] 2
 unfold max2
 rw[h3]
 exact Mt a b i (h2 (by omega))
theorem yG (a b c d:Rat):jl a b c d<=jj a b c d:=Rat.le_trans (yF a b c d).1 (yD a b c d).1
end Wx

namespace Wx
open Go Go.RowKit Go.Proofs
end Wx

namespace Wx
open Go Go.RowKit Go.Proofs
set_option linter.unusedVariables false
end Wx

namespace Wx
attribute [local irreducible] OpOk
set_option maxRecDepth 100000
open Go Go.RowKit Go.Proofs
set_option linter.unusedVariables false
variable {x y:Rat}
theorem Fv (h:fD x y<=0):x=min2 x y:=by
 have h:=sw.1 h
 have h1:=(lG x y).1
 rcases jk x y with e|e<;>grind
theorem IB (h:¬fD x y<=0):y=min2 x y:=by
 have h:¬x<=y:=λe=>h (sw.2 e)
 have h1:=(lG x y).2
 rcases jk x y with e|e<;>grind
theorem Ds:fD x y>=0↔y<=x:=by
 have:=EN x y
 rw[<-sw]
 omega
theorem IJ (h:fD x y>=0):x=max2 x y:=by
 have h:=Ds.1 h
 have h1:=(lF x y).1
 rcases ji x y with e|e<;>grind
theorem Lk (h:¬fD x y>=0):y=max2 x y:=by
 have h:¬y<=x:=λe=>h (Ds.2 e)
 have h1:=(lF x y).2
 rcases ji x y with e|e<;>grind
theorem RF (a b c d:Rat):min2 (min2 a b) (min2 c d)=jl a b c d:=by
 have h1:=lG a b
 have h2:=lG c d
 have h3:=lG (min2 a b) (min2 c d)
 have h4:=yF a b c d
 have m1:=jk a b
 have m2:=jk c d
 have m3:=jk (min2 a b) (min2 c d)
 have m4:=IG a b c d
 grind
theorem RE (a b c d:Rat):max2 (max2 a b) (max2 c d)=jj a b c d:=by
 have h1:=lF a b
 have h2:=lF c d
 have h3:=lF (max2 a b) (max2 c d)
 have h4:=yD a b c d
 have m1:=ji a b
 have m2:=ji c d
 have m3:=ji (max2 a b) (max2 c d)
 have m4:=IF a b c d
 grind
variable {j:Nat}
theorem IY (hx:bB j x) (hy:bB j y) (hj:j+j+j+j+1<=10000000):∀(M:Nat->Nat->Prop) (w:World) (v0 v1:Value),dz M w->aP M (λw=>(aS x) w v0) w->aP M (λw=>(aS y) w v1) w->Calls Tryz.prog 80 #[v0,v1] w (bE M (aS (min2 x y)) w):=by
 intro M w0 v0 v1 hM hv0 iK
 refine bD (N:=11) Tryz.func80 rfl rfl rfl hM (show cQ M w0 [v0,v1] [⟨none,none,0,aS x⟩,⟨none,none,1,aS y⟩]from⟨⟨rfl,_,rfl,hv0⟩,⟨rfl,_,rfl,iK⟩,trivial⟩) λa hI=>?_
 refine mg hI 3 [⟨2,2,some 0,none,.ptr,38,3,true,pv (aS x),[]⟩,⟨3,3,some 1,none,.ptr,38,3,true,pv (aS y),[]⟩,⟨4,4,some 2,none,.ptr,38,3,true,pv dG,[]⟩] [] [] .z (.kk .z) ⟨dQ 0 rfl rfl (by kernel_rfl) (by kernel_rfl) rfl rfl rfl (.tmp 0 rfl rfl) (cg _) rfl,dQ 1 rfl rfl (by kernel_rfl) (by kernel_rfl) rfl rfl rfl (.tmp 1 rfl rfl) (cg _) rfl,ct 2 rfl rfl (by kernel_rfl) (by kernel_rfl) rfl rfl rfl Po rfl rfl (by simp[gm]) rfl (λ_=>trivial),trivial⟩ (.k (.k (.k .z))) (.dd .z) λa w hI=>?_
 refine wp_seq ?_
 refine mg hI 4 [] [] [Uc 0 5 (aS x),Uc 1 6 (aS y),Uc 2 7 _,Uc 3 8 _] (.k (.k (.k .z))) .z ⟨bX 0 rfl rfl rfl rfl (by kernel_rfl) fl rfl (.here 0 rfl),bX 1 rfl rfl rfl rfl (by kernel_rfl) fl rfl (.here 1 rfl),P0 (bu _) (G6 hx hy (by omega)),bl,trivial⟩ (.k (.k (.k .z))) (.iB .z) λa w hI=>?_
 refine gR hI 0 rfl (λht=>?_) (λht=>?_)
 ·have t1:=of_decide_eq_true ht
  refine mg hI 2 [] [] [Uc 0 9 (aS x)] (.k (.k (.u none [(1,pv (aS x))] .z))) (.k .z) ⟨bX 0 rfl rfl rfl rfl (by kernel_rfl) fl rfl (.here 1 rfl),bG 2 rfl rfl rfl rfl 0 rfl (by kernel_rfl) (by kernel_rfl) fl (.tmp 1 rfl rfl) (cg _),trivial⟩ (.k (.k (.s .o .z))) (.dd .z) λa w hI=>?_
  refine wp_ret ?_
  refine aO ?_
  exact dD hI rfl (.imp (.cell 2 rfl rfl rfl rfl fl rfl) (sK (Fv t1)))
 ·have t2:=of_decide_eq_false ht
  refine wp_skip ?_
  refine af ?_
  refine mg hI 2 [] [] [Uc 0 10 (aS y)] (.k (.k (.u none [(1,pv (aS y))] .z))) (.k .z) ⟨bX 1 rfl rfl rfl rfl (by kernel_rfl) fl rfl (.here 1 rfl),bG 2 rfl rfl rfl rfl 0 rfl (by kernel_rfl) (by kernel_rfl) fl (.tmp 1 rfl rfl) (cg _),trivial⟩ (.k (.k (.s .o .z))) (.dd .z) λa w hI=>?_
  refine wp_ret ?_
  exact dD hI rfl (.imp (.cell 2 rfl rfl rfl rfl fl rfl) (sK (IB t2)))
theorem Ls (hx:bB j x) (hy:bB j y) (hj:j+j+j+j+1<=10000000):∀(M:Nat->Nat->Prop) (w:World) (v0 v1:Value),dz M w->aP M (λw=>(aS x) w v0) w->aP M (λw=>(aS y) w v1) w->Calls Tryz.prog 81 #[v0,v1] w (bE M (aS (max2 x y)) w):=by
 intro M w0 v0 v1 hM hv0 iK
 refine bD (N:=11) Tryz.func81 rfl rfl rfl hM (show cQ M w0 [v0,v1] [⟨none,none,0,aS x⟩,⟨none,none,1,aS y⟩]from⟨⟨rfl,_,rfl,hv0⟩,⟨rfl,_,rfl,iK⟩,trivial⟩) λa hI=>?_
 refine mg hI 3 [⟨2,2,some 0,none,.ptr,38,3,true,pv (aS x),[]⟩,⟨3,3,some 1,none,.ptr,38,3,true,pv (aS y),[]⟩,⟨4,4,some 2,none,.ptr,38,3,true,pv dG,[]⟩] [] [] .z (.kk .z) ⟨dQ 0 rfl rfl (by kernel_rfl) (by kernel_rfl) rfl rfl rfl (.tmp 0 rfl rfl) (cg _) rfl,dQ 1 rfl rfl (by kernel_rfl) (by kernel_rfl) rfl rfl rfl (.tmp 1 rfl rfl) (cg _) rfl,ct 2 rfl rfl (by kernel_rfl) (by kernel_rfl) rfl rfl rfl Po rfl rfl (by simp[gm]) rfl (λ_=>trivial),trivial⟩ (.k (.k (.k .z))) (.dd .z) λa w hI=>?_
 refine wp_seq ?_
 refine mg hI 4 [] [] [Uc 0 5 (aS x),Uc 1 6 (aS y),Uc 2 7 _,Uc 3 8 _] (.k (.k (.k .z))) .z ⟨bX 0 rfl rfl rfl rfl (by kernel_rfl) fl rfl (.here 0 rfl),bX 1 rfl rfl rfl rfl (by kernel_rfl) fl rfl (.here 1 rfl),P0 (bu _) (G6 hx hy (by omega)),bl,trivial⟩ (.k (.k (.k .z))) (.iB .z) λa w hI=>?_
 refine gR hI 0 rfl (λht=>?_) (λht=>?_)
 ·have t1:=of_decide_eq_true ht
  refine mg hI 2 [] [] [Uc 0 9 (aS x)] (.k (.k (.u none [(1,pv (aS x))] .z))) (.k .z) ⟨bX 0 rfl rfl rfl rfl (by kernel_rfl) fl rfl (.here 1 rfl),bG 2 rfl rfl rfl rfl 0 rfl (by kernel_rfl) (by kernel_rfl) fl (.tmp 1 rfl rfl) (cg _),trivial⟩ (.k (.k (.s .o .z))) (.dd .z) λa w hI=>?_
  refine wp_ret ?_
  refine aO ?_
  exact dD hI rfl (.imp (.cell 2 rfl rfl rfl rfl fl rfl) (sK (IJ t1)))
 ·have t2:=of_decide_eq_false ht
  refine wp_skip ?_
  refine af ?_
  refine mg hI 2 [] [] [Uc 0 10 (aS y)] (.k (.k (.u none [(1,pv (aS y))] .z))) (.k .z) ⟨bX 1 rfl rfl rfl rfl (by kernel_rfl) fl rfl (.here 1 rfl),bG 2 rfl rfl rfl rfl 0 rfl (by kernel_rfl) (by kernel_rfl) fl (.tmp 1 rfl rfl) (cg _),trivial⟩ (.k (.k (.s .o .z))) (.dd .z) λa w hI=>?_
  refine wp_ret ?_
  exact dD hI rfl (.imp (.cell 2 rfl rfl rfl rfl fl rfl) (sK (Lk t2)))
theorem Lt (a1:Rat):∀(M:Nat->Nat->Prop) (w:World) (v0:Value),dz M w->aP M (λw=>(aS a1) w v0) w->Calls Tryz.prog 40 #[v0] w (bE M (fB a1 a1) w):=by
 intro M w0 v0 hM hv0
 refine bD (N:=6) Tryz.func40 rfl rfl rfl hM (show cQ M w0 [v0] [⟨none,none,0,aS a1⟩]from⟨⟨rfl,_,rfl,hv0⟩,trivial⟩) λa hI=>?_
 refine mg hI 2 [⟨1,1,some 0,none,.ptr,38,3,true,pv (aS a1),[]⟩,⟨2,2,some 1,none,.ptr,48,6,true,pv dG,[]⟩] [] [] .z (.k .z) ⟨dQ 0 rfl rfl (by kernel_rfl) (by kernel_rfl) rfl rfl rfl (.tmp 0 rfl rfl) (cg _) rfl,ct 1 rfl rfl (by kernel_rfl) (by kernel_rfl) rfl rfl rfl Sa rfl rfl (by simp[gm]) rfl (λ_=>trivial),trivial⟩ (.k (.k .z)) (.d .z) λa w hI=>?_
 refine mg hI 4 [] [] [Uc 0 3 (aS a1),Uc 1 4 (aS a1),Uc 2 5 (fB a1 a1)] (.k (.u none [(3,pv (fB a1 a1))] .z)) .z ⟨bX 0 rfl rfl rfl rfl (by kernel_rfl) fl rfl (.here 0 rfl),bX 0 rfl rfl rfl rfl (by kernel_rfl) fl rfl (.here 1 rfl),pX (fs:=[⟨true,3,dG⟩,⟨true,3,dG⟩]) (ps:=[(0,aS a1),(1,aS a1)]) PU (nN (by kernel_rfl)) (th) (show cA _ _ _ _ _ _ from⟨⟨rfl,(.tmp 0 rfl rfl),_,rfl,cg _⟩,⟨rfl,(.tmp 1 rfl rfl),_,rfl,cg _⟩,trivial⟩) rfl (.here 2 rfl),bG 1 rfl rfl rfl rfl 0 rfl (by kernel_rfl) (by kernel_rfl) LZ (.tmp 2 rfl rfl) (jf _ _),trivial⟩ (.k (.s .o .z)) (.Kz .z) λa w hI=>?_
 refine wp_ret ?_
 exact dD hI rfl (.cell 1 rfl rfl rfl rfl LZ rfl)
theorem Lr {a1 a2 b1 b2:Rat} (ha:bB j a1/\bB j a2) (hb:bB j b1/\bB j b2) (hj:j+j+j+j+1<=10000000):∀(M:Nat->Nat->Prop) (w:World) (v0 v1:Value),dz M w->aP M (λw=>(fB a1 a2) w v0) w->aP M (λw=>(fB b1 b2) w v1) w->Calls Tryz.prog 42 #[v0,v1] w (bE M (fB (min2 a1 b1) (max2 a2 b2)) w):=by
 intro M w0 v0 v1 hM hv0 iK
 refine bD (N:=16) Tryz.func42 rfl rfl rfl hM (show cQ M w0 [v0,v1] [⟨none,none,0,fB a1 a2⟩,⟨none,none,1,fB b1 b2⟩]from⟨⟨rfl,_,rfl,hv0⟩,⟨rfl,_,rfl,iK⟩,trivial⟩) λa hI=>?_
 refine mg hI 3 [⟨2,2,some 0,none,.ptr,48,6,true,pv (fB a1 a2),[]⟩,⟨3,3,some 1,none,.ptr,48,6,true,pv (fB b1 b2),[]⟩,⟨4,4,some 2,none,.ptr,48,6,true,pv dG,[]⟩] [] [] .z (.kk .z) ⟨dQ 0 rfl rfl (by kernel_rfl) (by kernel_rfl) rfl rfl rfl (.tmp 0 rfl rfl) (jf _ _) rfl,dQ 1 rfl rfl (by kernel_rfl) (by kernel_rfl) rfl rfl rfl (.tmp 1 rfl rfl) (jf _ _) rfl,ct 2 rfl rfl (by kernel_rfl) (by kernel_rfl) rfl rfl rfl Sa rfl rfl (by simp[gm]) rfl (λ_=>trivial),trivial⟩ (.k (.k (.k .z))) (.dd .z) λa w hI=>?_
 refine SQ hI [0,1,0,4,15,0,32,0,128,511,1023,2047] [] [⟨some 0,5,2,0,True⟩,⟨some 2,7,3,0,True⟩,⟨some 5,10,2,3,True⟩,⟨some 7,12,3,3,True⟩] [Uc 1 6 _,Uc 3 8 _,Uc 4 9 _,Uc 6 11 _,Uc 8 13 _,Uc 9 14 _,Uc 10 15 (fB (min2 a1 b1) (max2 a2 b2))] (.k (.k (.u none [(11,pv (fB (min2 a1 b1) (max2 a2 b2)))] .z))) .z ⟨aX 0 rfl rfl rfl 0 rfl rfl rfl rfl (.inl ⟨rfl,rfl⟩) rfl (by kernel_rfl) (λb w=>BW b 0 w),Fs fl,aX 1 rfl rfl rfl 1 rfl rfl rfl rfl (.inl ⟨rfl,rfl⟩) rfl (by kernel_rfl) (λb w=>BW b 0 w),Fs fl,Sk (IY ha.1 hb.1 (by omega)),aX 0 rfl rfl rfl 2 rfl rfl rfl rfl (.inl ⟨rfl,rfl⟩) rfl (by kernel_rfl) (λb w=>BX b 0 w),Fs fl,aX 1 rfl rfl rfl 3 rfl rfl rfl rfl (.inl ⟨rfl,rfl⟩) rfl (by kernel_rfl) (λb w=>BX b 0 w),Fs fl,Sk (Ls ha.2 hb.2 (by omega)),pX (fs:=[⟨true,3,dG⟩,⟨true,3,dG⟩]) (ps:=[(0,aS (min2 a1 b1)),(1,aS (max2 a2 b2))]) PU (nN (by kernel_rfl)) (th) (show cA _ _ _ _ _ _ from⟨⟨rfl,(.tmp 2 rfl rfl),_,rfl,cg _⟩,⟨rfl,(.tmp 5 rfl rfl),_,rfl,cg _⟩,trivial⟩) rfl (.here 6 rfl),bG 2 rfl rfl rfl rfl 0 rfl (by kernel_rfl) (by kernel_rfl) LZ (.tmp 6 rfl rfl) (jf _ _),trivial⟩ (.k (.k (.s .o .z))) (.dO (.Kz .z)) λa w hI=>?_
 refine wp_ret ?_
 exact dD hI rfl (.cell 2 rfl rfl rfl rfl LZ rfl)
end Wx

namespace Wx
open Go Go.RowKit Go.Proofs
set_option linter.unusedVariables false
end Wx

namespace Wx
attribute [local irreducible] OpOk
set_option maxRecDepth 100000
open Go Go.RowKit Go.Proofs
set_option linter.unusedVariables false
theorem BM {a1 a2 c1 c2:Rat} {j:Nat} (ha:bB j a1/\bB j a2) (hj:j<=100000000) (e1:a1=c1) (e2:a2=c2):∀(M:Nat->Nat->Prop) (w:World) (v0 v1:Value),dz M w->aP M (λw=>(di a1 a2) w v0) w->aP M (λw=>(fB c1 c2) w v1) w->Calls Tryz.prog 11 #[v0,v1] w (bE M (pB true) w):=by
 intro M w0 v0 v1 hM hv0 iK
 refine bD (N:=17) Tryz.func11 rfl rfl rfl hM (show cQ M w0 [v0,v1] [⟨none,none,0,di a1 a2⟩,⟨none,none,1,fB c1 c2⟩]from⟨⟨rfl,_,rfl,hv0⟩,⟨rfl,_,rfl,iK⟩,trivial⟩) λa hI=>?_
 refine mg hI 3 [⟨2,2,some 0,none,.ptr,43,6,true,pv (di a1 a2),[]⟩,⟨3,3,some 1,none,.ptr,48,6,true,pv (fB c1 c2),[]⟩] [] [Uc 2 4 _] .z (.kk .z) ⟨dQ 0 rfl rfl (by kernel_rfl) (by kernel_rfl) rfl rfl rfl (.tmp 0 rfl rfl) (fg _ _) rfl,dQ 1 rfl rfl (by kernel_rfl) (by kernel_rfl) rfl rfl rfl (.tmp 1 rfl rfl) (jf _ _) rfl,mv,trivial⟩ (.k (.k .z)) (.ya .z) λa w hI=>?_
 refine SQ hI [0,1,0,4,15,31,63,127,63,319,1023,2047,4095] [] [⟨some 2,7,3,0,True⟩,⟨some 8,13,3,3,True⟩] [Uc 0 5 (di a1 a2),Uc 1 6 _,Uc 3 8 _,Uc 4 9 _,Uc 5 10 _,Uc 6 11 (di a1 a2),Uc 7 12 _,Uc 9 14 _,Uc 10 15 _,Uc 11 16 (pB true),Uc 12 4 _] (.k (.k .z)) (.t 12 .z) ⟨bX 0 rfl rfl rfl rfl (by kernel_rfl) iu rfl (.here 1 rfl),TA (Qa _ _),aX 1 rfl rfl rfl 0 rfl rfl rfl rfl (.inl ⟨rfl,rfl⟩) rfl (by kernel_rfl) (λb w=>BW b 0 w),Fs fl,P0 (bu _) (ND ha.1 (by omega) (e1)),mv,ye (bX 0 rfl rfl rfl rfl (by kernel_rfl) iu rfl (.here 6 rfl)),ye (TA (P9 _ _)),ye (aX 1 rfl rfl rfl 1 rfl rfl rfl rfl (.inl ⟨rfl,rfl⟩) rfl (by kernel_rfl) (λb w=>BX b 0 w)),ye (Fs fl),ye (P0 (bu _) (ND ha.2 (by omega) (e2))),yJ (b:=true) (.tmp 5 rfl rfl) (λ_=>(.tmp 9 rfl rfl)) (λh=>by cases h) (.here 10 rfl),mv,trivial⟩ (.k (.k .z)) (.d8 (.iB .z)) λa w hI=>?_
 refine wp_ret ?_
 exact dD hI rfl (.tmp 0 rfl)
end Wx

namespace Wx
open Go Go.RowKit Go.Proofs
set_option linter.unusedVariables false
section
variable {j k:Nat} {a1 a2 b1 b2 x y:Rat}{F:Rat->Pred}
theorem F0:∀{w v},pV F j [x,y] w v->pS [⟨true,3,F x⟩,⟨true,3,F y⟩] w v/\bB j x/\bB j y:=λ⟨cs,e,h1,⟨b1,h2⟩,h3,⟨b2,h4⟩,h5⟩=>⟨⟨cs,e,h1,h2,h3,h4,h5⟩,b1,b2⟩
theorem yM (h1:bB j x) (h2:bB j y):∀w v,pS [⟨true,3,F x⟩,⟨true,3,F y⟩] w v->pV F j [x,y] w v:=λw v ⟨cs,e,k1,k2,k3,k4,k5⟩=>⟨cs,e,k1,⟨h1,k2⟩,k3,⟨h2,k4⟩,k5⟩
theorem bE.to {M:Nat->Nat->Prop} {p q:Pred} {w:World} (h:∀w v,p w v->q w v):∀{e:Ending} {w':World},bE M p w e w'->bE M q w e w':=λ⟨v,e,hp,hb⟩=>⟨v,e,hp.imp λ_ h'=>h _ _ h',hb⟩
theorem OH (_:True):K1 Tryz.prog 34 (pR j x) (pV aD j [x,x]):=λM w v0 hM h0=>(Ky x M w v0 hM (h0.imp λ_ h=>h.2)).mono λ_ _=>bE.to (yM h0.out.1 h0.out.1)
theorem Iq (h:j+j<=100000000):K2 Tryz.prog 36 (pV aD j [a1,a2]) (pV aD j [b1,b2]) (pV aD j [jl a1 a2 b1 b2,jj a1 a2 b1 b2]):=λM w v0 v1 hM h0 h1=>by
 obtain⟨_,A1,A2⟩:=F0 h0.out
 obtain⟨_,B1,B2⟩:=F0 h1.out
 exact(Kw ⟨A1,A2⟩ ⟨B1,B2⟩ h M w v0 v1 hM (h0.imp λ_ h=>(F0 h).1) (h1.imp λ_ h=>(F0 h).1)).mono λ_ _=>bE.to (yM (Kn A1 A2 B1 B2) (Kl A1 A2 B1 B2))
theorem Rz (h:j+k<=100000000):K2 Tryz.prog 12 (pV aD j [a1,a2]) (pR k y) (pB (decide (a1<=y)&&decide (y<=a2))):=λM w v0 v1 hM h0 h1=>by
 obtain⟨_,A1,A2⟩:=F0 h0.out
 exact NT ⟨A1,A2⟩ h1.out.1 h M w v0 v1 hM (h0.imp λ_ h=>(F0 h).1) (h1.imp λ_ h=>h.2)
theorem DV (_:True):K1 Tryz.prog 40 (pN j x) (pV aS j [x,x]):=λM w v0 hM h0=>(Lt x M w v0 hM (h0.imp λ_ h=>h.2)).mono λ_ _=>bE.to (yM h0.out.1 h0.out.1)
theorem DU (h:j+j+j+j+1<=10000000):K2 Tryz.prog 42 (pV aS j [a1,a2]) (pV aS j [b1,b2]) (pV aS j [min2 a1 b1,max2 a2 b2]):=λM w v0 v1 hM h0 h1=>by
 obtain⟨_,A1,A2⟩:=F0 h0.out
 obtain⟨_,B1,B2⟩:=F0 h1.out
 exact(Lr ⟨A1,A2⟩ ⟨B1,B2⟩ h M w v0 v1 hM (h0.imp λ_ h=>(F0 h).1) (h1.imp λ_ h=>(F0 h).1)).mono λ_ _=>bE.to (yM (Km A1 B1) (Kk A2 B2))
theorem Fj (h:j<=100000000):K2 Tryz.prog 11 (pV aD j [x,y]) (pV aS k [x,y]) (pB true):=λM w v0 v1 hM h0 h1=>by
 obtain⟨_,A1,A2⟩:=F0 h0.out
 exact BM ⟨A1,A2⟩ h rfl rfl M w v0 v1 hM (h0.imp λ_ h=>(F0 h).1) (h1.imp λ_ h=>(F0 h).1)
variable {p q:Int×Int}
end
end Wx

namespace Wx
set_option maxRecDepth 100000
set_option maxHeartbeats 1000000
open Go Go.RowKit Go.Proofs
set_option linter.unusedVariables false
attribute [local irreducible] OpOk
section
variable {x a1 a2 b1 b2:Rat} {n:Int}
theorem LU {q:Rat} (h:¬cP q<=0):0<q:=by
 rw[sN]at h
 rcases Gm q 0 with k|k|k
 ·rw[dK k]at h; exact absurd (by decide) h
 ·rw[dV k]at h; exact absurd (by decide) h
 ·exact k
end
theorem Jz (_:True):K0 Tryz.prog 37 (pV aS 64 [((0:Int):Rat),((0:Int):Rat)]):=by
 intro M w0 hM
 refine R8 (N:=3) Tryz.func37 rfl rfl rfl hM λa hI=>?_
 refine bZ hI 1 [⟨0,0,some 0,none,.ptr,48,6,true,pv _,[]⟩] [] [] .z .z ⟨me [.f,.f],trivial⟩ (.k .z) .z λa w hI=>?_
 refine bZ hI 3 [] [] [Uc 0 1 _,Uc 1 2 _] (.u none [(2,pv _)] .z) .z ⟨su AH,Dq DV,gD,trivial⟩ (.s .o .z) (.dd .z) λa w hI=>?_
 refine aV ?_
 exact dD hI rfl rK
section
variable {x a1 a2 b1 b2:Rat} {n:Int}
end
end Wx
