import Derived.Test.YtocboimkilkklaaGreatJRF47
namespace Wx
set_option maxRecDepth 100000
set_option maxHeartbeats 1000000
open Go Go.RowKit Go.Proofs
set_option linter.unusedVariables false
attribute [local irreducible] OpOk
theorem nP (p q:Int×Int):Fits 4 true (Nw [p,q]):=iO (fs:=[Kz 2 L5 p,Kz 2 L5 q]) ⟨DS p,DS q,trivial⟩ rfl
theorem Sw (p q:Int×Int):NB p q<=NA p q:=yV _ _ _ _
variable {x:Int×Int} {n:Int}
theorem CB {p q r s:Int×Int} (h:wZ x/\(wZ p/\wZ q)/\wZ r/\wZ s):K4 Tryz.prog 4 (L5 x) (Nw [p,q]) (Nw [r,s]) (pI n) (pB true):=by
 intro M w0 v0 v1 v2 v3 hM hv0 gb hv2 hv3
 have hle:=Sw r s
 refine PT (N:=46) Tryz.func4 rfl rfl rfl hM hv0 gb hv2 hv3 λa hI=>?_
 refine dQ hI 4 [⟨4,4,some 0,none,.ptr,24,2,true,pv _,[]⟩] [] [Uc 1 5 _,Uc 2 6 _,Uc 3 8 _] .z (.aK .z) ⟨bo,EZ 4 true (hf:=nP _ _),EZ 4 true (hf:=nP _ _),mv,trivial⟩ (.k .z) (.gV (.fS .z)) λa w hI=>?_
 refine GX hI [0,1,0,7,0,31,0,127,255,511,511,0,3071,8191] [⟨9,9,some 11,none,.ptr,43,6,true,pv _,[(12,pv _)]⟩] [] [Uc 0 14 _,Uc 1 15 _,Uc 2 16 _,Uc 3 17 _,Uc 4 18 _,Uc 5 19 _,Uc 6 20 _,Uc 7 21 _,Uc 8 13 _,Uc 9 22 _,Uc 10 23 _,Uc 13 10 _] (.k .z) (.aK .z) ⟨ld,E6 TH (hφ:=h.1),jP hs (pt rfl) (by kernel_rfl) (nP _ _),vY D7 (hφ:=h.2.1),jP hs (pt rfl) (by kernel_rfl) (nP _ _),vY D7 (hφ:=h.2.2),mv,Wz FI (hφ:=hle),mv,ext,ext,rA [.r,.r],sZ rfl rfl hs rfl rfl (dX (by kernel_rfl)) (nR (λ_=>nQ) (by rw[yE])) (by kernel_rfl),mv,trivial⟩ (.k (.s .o .z)) (.aK (.d8 (.gV .z))) λa w hI=>?_
 refine GX hI [0,1,0,7,0,31,0,127,255,511,511,0,3071,8191] [⟨11,11,some 11,none,.ptr,48,6,true,pv _,[(12,pv _)]⟩] [] [Uc 0 25 _,Uc 1 26 _,Uc 2 27 _,Uc 3 28 _,Uc 4 29 _,Uc 5 30 _,Uc 6 31 _,Uc 7 32 _,Uc 8 24 _,Uc 9 33 _,Uc 10 34 _,Uc 13 12 _] (.k (.k .z)) (.aK (.k .z)) ⟨ld,E6 VM (hφ:=h.1),jP hs (pt rfl) (by kernel_rfl) (nP _ _),vY AK (hφ:=h.2.1),jP hs (pt rfl) (by kernel_rfl) (nP _ _),vY AK (hφ:=h.2.2),mv,Wz Gr (hφ:=hle),mv,ext,ext,rA [.f,.f],sZ rfl rfl hs rfl rfl (dX (by kernel_rfl)) (nR (λ_=>sQ) (by rw[yE])) (by kernel_rfl),mv,trivial⟩ (.d (.k (.s .o .z))) (.gV (.lM (.d8 (.k .z)))) λa w hI=>?_
 refine dQ hI 12 [] [] [Uc 0 35 _,Uc 1 36 _,Uc 2 37 _,Uc 3 38 _,Uc 4 39 _,Uc 5 40 _,Uc 6 41 _,Uc 7 42 _,Uc 8 43 _,Uc 9 44 _,Uc 10 45 _,Uc 11 8 _] (.k (.k .z)) (.t 11 (.kk .z)) ⟨mv,mv,bn,mv,gd λh=>yF h,gd λh=>yF h,gd λh=>OA h (FC (x:=(Co (xk x) (NB p q) (NA p q) (NB r s) (NA r s) n).getD 0 0) (y:=(Co (xk x) (NB p q) (NA p q) (NB r s) (NA r s) n).getD 1 0)) (c1:=uT DT (Nat.le_refl _)) (c2:=uT DT (Nat.le_refl _)),pk,mv,gd λh=>TY h I0,pk,mv,trivial⟩ (.d (.d .z)) (.d8 (.ek (.we .z))) λa w hI=>?_
 refine bL ?_
 exact dx hI rfl (pC (hq:=jT (by simp)))
theorem AO {D E:List (Int×Int)} (h:wZ x/\(D.length=2/\∀q,wZ (D.getD q z2))/\E.length=2/\∀q,wZ (E.getD q z2)):K4 Tryz.prog 4 (L5 x) (Nw D) (Nw E) (pI n) (pB true):=by
 obtain⟨h1,⟨h2,h3⟩,h4,h5⟩:=h
 match D,h2,h3 with
 |[p,q],_,h3=>match E,h4,h5 with
  |[r,s],_,h5=>exact CB ⟨h1,⟨h3 0,h3 1⟩,h5 0,h5 1⟩
end Wx
