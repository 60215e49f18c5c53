import Derived.Test.YtocboimkilkklaaGreatCRFNRanges
namespace Wx
set_option maxRecDepth 100000
open Go Go.RowKit Go.Proofs
set_option linter.unusedVariables false
theorem Hy {n1 d1 n2 d2:Int} {x1 x2:Rat} (e1:x1=BP n1 d1) (f1:oK n1 d1) (e2:x2=BP n2 d2) (f2:oK n2 d2) {xl xh:Rat} (el:xl=eZ x1 x1 x2 x2) (eh:xh=eY x1 x1 x2 x2):∀(M:Nat->Nat->Prop) (w:World) (v0:Value),dc M w->aL M (λw=>(pS [⟨true,2,cU n1 d1⟩,⟨true,2,cU n2 d2⟩]) w v0) w->Calls Tryz.prog 18 #[v0] w (bu M (bf xl xh) w):=by
 intro M w0 v0 hM hv0
 have B1:bg 64 x1:=e1▸Dz f1
 have B2:bg 64 x2:=e2▸Dz f2
 have B3:bg 64 (eZ x1 x1 x2 x2):=bg.mono (nK (B1) (B1) (B2) (B2)) (by omega)
 have B4:bg 64 (eY x1 x1 x2 x2):=bg.mono (nJ (B1) (B1) (B2) (B2)) (by omega)
 refine aQ (N:=12) Tryz.func18 rfl rfl rfl hM (show ck M w0 [v0] [⟨none,none,0,pS [⟨true,2,cU n1 d1⟩,⟨true,2,cU n2 d2⟩]⟩]from⟨⟨rfl,_,rfl,hv0⟩,trivial⟩) λa hI=>?_
 refine iD (V1:=[⟨1,1,some 0,none,.ptr,28,4,true,pv (pS [⟨true,2,cU n1 d1⟩,⟨true,2,cU n2 d2⟩]),[]⟩,⟨2,2,some 1,none,.ptr,43,6,true,pv (bf 0 0),[]⟩]) (A1:=[]) (G1:=[⟨none,none,0,pS [⟨true,2,cU n1 d1⟩,⟨true,2,cU n2 d2⟩]⟩]) (V2:=[⟨1,1,none,none,.ptr,28,4,true,pv (pS [⟨true,2,cU n1 d1⟩,⟨true,2,cU n2 d2⟩]),[]⟩,⟨2,2,none,none,.ptr,43,6,true,pv (bf 0 0),[]⟩]) (G2:=[]) hI rfl rfl rfl [0,1] (by kernel_rfl) (by kernel_rfl) ?_ [0,1] [] rfl rfl λa w hI=>?_
 ·exact⟨bQ 0 rfl rfl (by kernel_rfl) (by kernel_rfl) rfl rfl rfl (.tmp 0 rfl rfl) (iO (fs:=[⟨true,2,cU n1 d1⟩,⟨true,2,cU n2 d2⟩]) ⟨kN _ _,kN _ _,trivial⟩ rfl) rfl,bp 1 rfl rfl (by kernel_rfl) (by kernel_rfl) rfl rfl rfl iH rfl rfl (by simp[fq]) rfl (λw=>oG (cS w)),trivial⟩
 refine eJ (V1:=[⟨1,1,none,none,.ptr,28,4,true,pv (pS [⟨true,2,cU n1 d1⟩,⟨true,2,cU n2 d2⟩]),[]⟩,⟨2,2,none,none,.ptr,43,6,true,pv (bf 0 0),[(9,pv (bf (eZ x1 x1 x2 x2) (eY x1 x1 x2 x2)))]⟩]) (A1:=[⟨some 0,3,1,0,True⟩,⟨some 4,7,1,2,True⟩]) (G1:=[⟨some 1,none,4,cU n1 d1⟩,⟨some 2,none,5,au x1⟩,⟨some 3,none,6,bf x1 x1⟩,⟨some 5,none,8,cU n2 d2⟩,⟨some 6,none,9,au x2⟩,⟨some 7,none,10,bf x2 x2⟩,⟨some 8,none,11,bf (eZ x1 x1 x2 x2) (eY x1 x1 x2 x2)⟩]) (V2:=[⟨1,1,none,none,.ptr,28,4,true,pv (pS [⟨true,2,cU n1 d1⟩,⟨true,2,cU n2 d2⟩]),[]⟩,⟨2,2,none,none,.ptr,43,6,true,pv (bf (eZ x1 x1 x2 x2) (eY x1 x1 x2 x2)),[]⟩]) (G2:=[]) hI rfl rfl rfl [0,1,3,7,0,16,63,127,255,511] (by kernel_rfl) (by kernel_rfl) (by kernel_rfl) (by kernel_rfl) ?_ [0,1] [] rfl rfl λa w hI=>?_
 ·exact⟨qu 0 rfl rfl rfl 0 rfl rfl rfl rfl (.inl ⟨rfl,rfl⟩) rfl (by kernel_rfl) (.const _) (λ_ _=>by kernel_rfl),cm 0 rfl 0 rfl rfl rfl rfl rfl trivial rfl rfl (by kernel_rfl) tj rfl rfl (fE (fs:=[⟨true,2,cU n1 d1⟩,⟨true,2,cU n2 d2⟩]) 0 (f:=⟨true,2,cU n1 d1⟩) rfl (off:=0) rfl) (.here 0 rfl),fN (λ_ _=>by kernel_rfl) (bt _) (.tmp 0 rfl rfl) (.here 1 rfl) (Qx e1 f1),nY (λ_ _=>by kernel_rfl) (.tmp 1 rfl rfl) (.here 2 rfl) (yu _),qu 0 rfl rfl rfl 1 rfl rfl rfl rfl (.inl ⟨rfl,rfl⟩) rfl (by kernel_rfl) (.const _) (λ_ _=>by kernel_rfl),cm 0 rfl 1 rfl rfl rfl rfl rfl trivial rfl rfl (by kernel_rfl) tj rfl rfl (fE (fs:=[⟨true,2,cU n1 d1⟩,⟨true,2,cU n2 d2⟩]) 1 (f:=⟨true,2,cU n2 d2⟩) rfl (off:=2) rfl) (.here 3 rfl),fN (λ_ _=>by kernel_rfl) (bt _) (.tmp 3 rfl rfl) (.here 4 rfl) (Qx e2 f2),nY (λ_ _=>by kernel_rfl) (.tmp 4 rfl rfl) (.here 5 rfl) (yu _),nZ (λ_ _=>by kernel_rfl) (.tmp 2 rfl rfl) (.tmp 5 rfl rfl) (.here 6 rfl) (K5 (j:=64) ⟨B1,B1⟩ ⟨B2,B2⟩ (by omega)),aS 1 rfl rfl rfl rfl 0 rfl (by kernel_rfl) (by kernel_rfl) cP (.tmp 6 rfl rfl) (bU _ _),trivial⟩
 refine wp_ret ?_
 exact dx hI rfl (.imp (.cell 1 rfl rfl rfl rfl cP rfl) (by rw[el,eh]; exactλ_ _ h=>h))
end Wx

namespace Wx
attribute [local irreducible] OpOk
set_option maxRecDepth 100000
open Go Go.RowKit Go.Proofs
set_option linter.unusedVariables false
theorem Ce {a1 a2 c1 c2:Rat} {j:Nat} (ha:bg j a1/\bg j a2) (hj:j<=100000000) (e1:a1=c1) (e2:a2=c2):∀(M:Nat->Nat->Prop) (w:World) (v0 v1:Value),dc M w->aL M (λw=>(bf a1 a2) w v0) w->aL M (λw=>(aO c1 c2) w v1) w->Calls Tryz.prog 11 #[v0,v1] w (bu M (pB true) w):=by
 intro M w0 v0 v1 hM hv0 gb
 refine aQ (N:=17) Tryz.func11 rfl rfl rfl hM (show ck M w0 [v0,v1] [⟨none,none,0,bf a1 a2⟩,⟨none,none,1,aO c1 c2⟩]from⟨⟨rfl,_,rfl,hv0⟩,⟨rfl,_,rfl,gb⟩,trivial⟩) λa hI=>?_
 refine jb hI 3 [⟨2,2,some 0,none,.ptr,43,6,true,pv (bf a1 a2),[]⟩,⟨3,3,some 1,none,.ptr,48,6,true,pv (aO c1 c2),[]⟩] [] [Uc 2 4 _] .z (.kk .z) ⟨bQ 0 rfl rfl (by kernel_rfl) (by kernel_rfl) rfl rfl rfl (.tmp 0 rfl rfl) (bU _ _) rfl,bQ 1 rfl rfl (by kernel_rfl) (by kernel_rfl) rfl rfl rfl (.tmp 1 rfl rfl) (bH _ _) rfl,mv,trivial⟩ (.k (.k .z)) (.we .z) λa w hI=>?_
 refine BA hI [0,1,0,4,15,31,63,127,63,319,1023,2047,4095] [] [⟨some 2,7,3,0,True⟩,⟨some 8,13,3,3,True⟩] [Uc 0 5 (bf a1 a2),Uc 1 6 _,Uc 3 8 _,Uc 4 9 _,Uc 5 10 _,Uc 6 11 (bf a1 a2),Uc 7 12 _,Uc 9 14 _,Uc 10 15 _,Uc 11 16 (pB true),Uc 12 4 _] (.k (.k .z)) (.t 12 .z) ⟨bG 0 rfl rfl rfl rfl (by kernel_rfl) cP rfl (.here 1 rfl),Hw (MK _ _),aq 1 rfl rfl rfl 0 rfl rfl rfl rfl (.inl ⟨rfl,rfl⟩) rfl (by kernel_rfl) (λb w=>iM b 0 w),iq cR,qN (bz _) (Qw ha.1 (by omega) (e1)),mv,ye (bG 0 rfl rfl rfl rfl (by kernel_rfl) cP rfl (.here 6 rfl)),ye (Hw (QD _ _)),ye (aq 1 rfl rfl rfl 1 rfl rfl rfl rfl (.inl ⟨rfl,rfl⟩) rfl (by kernel_rfl) (λb w=>iN b 0 w)),ye (iq cR),ye (qN (bz _) (Qw ha.2 (by omega) (e2))),yZ (b:=true) (.tmp 5 rfl rfl) (λ_=>(.tmp 9 rfl rfl)) (λh=>by cases h) (.here 10 rfl),mv,trivial⟩ (.k (.k .z)) (.d8 (.gV .z)) λa w hI=>?_
 refine wp_ret ?_
 exact dx hI rfl (.tmp 0 rfl)
theorem zU {n1 d1 n2 d2:Int} {x1 x2:Rat} (e1:x1=BP n1 d1) (f1:oK n1 d1) (e2:x2=BP n2 d2) (f2:oK n2 d2) {xl xh:Rat} (el:xl=eZ x1 x1 x2 x2) (eh:xh=eY x1 x1 x2 x2):∀(M:Nat->Nat->Prop) (w:World) (v0:Value),dc M w->aL M (λw=>(pS [⟨true,2,cU n1 d1⟩,⟨true,2,cU n2 d2⟩]) w v0) w->Calls Tryz.prog 20 #[v0] w (bu M (aO xl xh) w):=by
 intro M w0 v0 hM hv0
 have B1:bg 64 x1:=e1▸Dz f1
 have B2:bg 64 x2:=e2▸Dz f2
 refine aQ (N:=12) Tryz.func20 rfl rfl rfl hM (show ck M w0 [v0] [⟨none,none,0,pS [⟨true,2,cU n1 d1⟩,⟨true,2,cU n2 d2⟩]⟩]from⟨⟨rfl,_,rfl,hv0⟩,trivial⟩) λa hI=>?_
 refine jb hI 2 [⟨1,1,some 0,none,.ptr,28,4,true,pv (pS [⟨true,2,cU n1 d1⟩,⟨true,2,cU n2 d2⟩]),[]⟩,⟨2,2,some 1,none,.ptr,48,6,true,pv dr,[]⟩] [] [] .z (.k .z) ⟨bQ 0 rfl rfl (by kernel_rfl) (by kernel_rfl) rfl rfl rfl (.tmp 0 rfl rfl) (iO (fs:=[⟨true,2,cU n1 d1⟩,⟨true,2,cU n2 d2⟩]) ⟨kN _ _,kN _ _,trivial⟩ rfl) rfl,bp 1 rfl rfl (by kernel_rfl) (by kernel_rfl) rfl rfl rfl vS rfl rfl (by simp[fq]) rfl (λ_=>trivial),trivial⟩ (.k (.k .z)) (.d .z) λa w hI=>?_
 refine BA hI [0,1,3,7,0,16,63,127,255,511] [] [⟨some 0,3,1,0,True⟩,⟨some 4,7,1,2,True⟩] [Uc 1 4 _,Uc 2 5 _,Uc 3 6 _,Uc 5 8 _,Uc 6 9 _,Uc 7 10 _,Uc 8 11 _] (.k (.u none [(9,pv (aO (min2 x1 x2) (max2 x1 x2)))] .z)) .z ⟨fa,iq tj,Qy (bk _) (MJ e1 f1),Hw (lO _),fa,iq tj,Qy (bk _) (MJ e2 f2),Hw (lO _),Hx (sX ⟨B1,B1⟩ ⟨B2,B2⟩ (by omega)),aS 1 rfl rfl rfl rfl 0 rfl (by kernel_rfl) (by kernel_rfl) jc (.tmp 6 rfl rfl) (bH _ _),trivial⟩ (.k (.s .o .z)) (.ek (.Ky .z)) λa w hI=>?_
 refine wp_ret ?_
 exact dx hI rfl (.imp (.cell 1 rfl rfl rfl rfl jc rfl) (ni (by rw[el,Jc]) (by rw[eh,Jb])))
end Wx

namespace Wx
open Go Go.RowKit Go.Proofs
set_option linter.unusedVariables false
section
variable {j k:Nat} {a1 a2 b1 b2 x y:Rat}{F:Rat->Pred}
theorem ow:∀{w v},pV F j [x,y] w v->pS [⟨true,3,F x⟩,⟨true,3,F y⟩] w v/\bg j x/\bg j y:=λ⟨cs,e,h1,⟨b1,h2⟩,h3,⟨b2,h4⟩,h5⟩=>⟨⟨cs,e,h1,h2,h3,h4,h5⟩,b1,b2⟩
theorem iP (h1:bg j x) (h2:bg j y):∀w v,pS [⟨true,3,F x⟩,⟨true,3,F y⟩] w v->pV F j [x,y] w v:=λw v ⟨cs,e,k1,k2,k3,k4,k5⟩=>⟨cs,e,k1,⟨h1,k2⟩,k3,⟨h2,k4⟩,k5⟩
variable {p q:Pred}
theorem bu.to {M:Nat->Nat->Prop} {w:World} (h:∀w v,p w v->q w v):∀{e:Ending} {w':World},bu M p w e w'->bu M q w e w':=λ⟨v,e,hp,hb⟩=>⟨v,e,hp.imp λ_ h'=>h _ _ h',hb⟩
theorem Bh {p':Pred} (h:∀w v,p w v->p' w v):∀w v,fo p q w v->fo p' q w v:=λ_ _ ⟨a,b,e,h1,h2⟩=>⟨a,b,e,h _ _ h1,h2⟩
theorem IW (_:True):K1 Tryz.prog 34 (pR j x) (pV au j [x,x]):=λM w v0 hM h0=>(yu x M w v0 hM (h0.imp λ_ h=>h.2)).mono λ_ _=>bu.to (iP h0.out.1 h0.out.1)
theorem Sc (_:True):K1 Tryz.prog 44 (pV au j [x,y]) (pR j x):=λM w v0 hM h0=>(MK x y M w v0 hM (h0.imp λ_ h=>(ow h).1)).mono λ_ _=>bu.to (uQ (ow h0.out).2.1)
theorem Nk (h:j+k+j+k+1<=100000000):K2 Tryz.prog 52 (pV au j [a1,a2]) (pV au k [b1,b2]) (pV au (j+k+1) [a1+b1,a2+b2]):=λM w v0 v1 hM h0 h1=>by
 obtain⟨_,A1,A2⟩:=ow h0.out
 obtain⟨_,B1,B2⟩:=ow h1.out
 exact(Ob ⟨A1,A2⟩ ⟨B1,B2⟩ h M w v0 v1 hM (h0.imp λ_ h=>(ow h).1) (h1.imp λ_ h=>(ow h).1)).mono λ_ _=>bu.to (iP (A1.He B1) (A2.He B2))
theorem Sd (h:j+k+(j+k)<=100000000):K2 Tryz.prog 53 (pV au j [a1,a2]) (pV au k [b1,b2]) (pV au (j+k) [eZ (a1*b1) (a1*b2) (a2*b1) (a2*b2),eY (a1*b1) (a1*b2) (a2*b1) (a2*b2)]):=λM w v0 v1 hM h0 h1=>by
 obtain⟨_,A1,A2⟩:=ow h0.out
 obtain⟨_,B1,B2⟩:=ow h1.out
 exact(Of ⟨A1,A2⟩ ⟨B1,B2⟩ h M w v0 v1 hM (h0.imp λ_ h=>(ow h).1) (h1.imp λ_ h=>(ow h).1)).mono λ_ _=>bu.to (iP (nK (A1.mul B1) (A1.mul B2) (A2.mul B1) (A2.mul B2)) (nJ (A1.mul B1) (A1.mul B2) (A2.mul B1) (A2.mul B2)))
theorem Sb (h:j+k+(j+k)<=100000000/\¬(b1<=0/\0<=b2)/\b1≠0/\b2≠0):K2 Tryz.prog 54 (pV au j [a1,a2]) (pV au k [b1,b2]) (fo (pV au (j+k) [eZ (a1/b1) (a1/b2) (a2/b1) (a2/b2),eY (a1/b1) (a1/b2) (a2/b1) (a2/b2)]) (pI 0)):=λM w v0 v1 hM h0 h1=>by
 obtain⟨_,A1,A2⟩:=ow h0.out
 obtain⟨_,B1,B2⟩:=ow h1.out
 exact(E9 ⟨A1,A2⟩ ⟨B1,B2⟩ h.1 h.2.1 h.2.2.1 h.2.2.2 M w v0 v1 hM (h0.imp λ_ h=>(ow h).1) (h1.imp λ_ h=>(ow h).1)).mono λ_ _=>bu.to (Bh (iP (nK (A1.quo B1) (A1.quo B2) (A2.quo B1) (A2.quo B2)) (nJ (A1.quo B1) (A1.quo B2) (A2.quo B1) (A2.quo B2))))
variable {n:Int}
theorem Lv (h:j<=10000000):K2 Tryz.prog 55 (pV au j [a1,a2]) (pI n) (pV au (j+300) [bT a1 n,-(bT (-a2) n)]):=λM w v0 v1 hM h0 h1=>by
 obtain⟨_,A1,A2⟩:=ow h0.out
 exact(H8 ⟨A1,A2⟩ n h M w v0 v1 hM (h0.imp λ_ h=>(ow h).1) h1).mono λ_ _=>bu.to (iP (tD A1 n) (Hg A2 n))
theorem yT (_:True):K1 Tryz.prog 40 (pN j x) (pV aR j [x,x]):=λM w v0 hM h0=>(lO x M w v0 hM (h0.imp λ_ h=>h.2)).mono λ_ _=>bu.to (iP h0.out.1 h0.out.1)
theorem IX (h:j+k+j+k+1<=10000000):K2 Tryz.prog 56 (pV aR j [a1,a2]) (pV aR k [b1,b2]) (pV aR (j+k+1) [a1+b1,a2+b2]):=λM w v0 v1 hM h0 h1=>by
 obtain⟨_,A1,A2⟩:=ow h0.out
 obtain⟨_,B1,B2⟩:=ow h1.out
 exact(Pm ⟨A1,A2⟩ ⟨B1,B2⟩ h M w v0 v1 hM (h0.imp λ_ h=>(ow h).1) (h1.imp λ_ h=>(ow h).1)).mono λ_ _=>bu.to (iP (A1.He B1) (A2.He B2))
theorem Pb (h:(j+k)+(j+k)+(j+k)+(j+k)+1<=10000000):K2 Tryz.prog 58 (pV aR j [a1,a2]) (pV aR k [b1,b2]) (pV aR (j+k) [eZ (a1*b1) (a1*b2) (a2*b1) (a2*b2),eY (a1*b1) (a1*b2) (a2*b1) (a2*b2)]):=λM w v0 v1 hM h0 h1=>by
 obtain⟨_,A1,A2⟩:=ow h0.out
 obtain⟨_,B1,B2⟩:=ow h1.out
 exact(Jp ⟨A1,A2⟩ ⟨B1,B2⟩ h M w v0 v1 hM (h0.imp λ_ h=>(ow h).1) (h1.imp λ_ h=>(ow h).1)).mono λ_ _=>bu.to (iP (nK (A1.mul B1) (A1.mul B2) (A2.mul B1) (A2.mul B2)) (nJ (A1.mul B1) (A1.mul B2) (A2.mul B1) (A2.mul B2)))
theorem Pa (h:(j+(64+k))+(j+(64+k))+(j+(64+k))+(j+(64+k))+1<=10000000/\¬(b1<=0/\0<=b2)/\b1≠0/\b2≠0):K2 Tryz.prog 57 (pV aR j [a1,a2]) (pV aR k [b1,b2]) (fo (pV aR (j+k) [eZ (a1/b1) (a1/b2) (a2/b1) (a2/b2),eY (a1/b1) (a1/b2) (a2/b1) (a2/b2)]) (pI 0)):=λM w v0 v1 hM h0 h1=>by
 obtain⟨_,A1,A2⟩:=ow h0.out
 obtain⟨_,B1,B2⟩:=ow h1.out
 exact(F6 ⟨A1,A2⟩ ⟨B1,B2⟩ h.1 h.2.1 h.2.2.1 h.2.2.2 M w v0 v1 hM (h0.imp λ_ h=>(ow h).1) (h1.imp λ_ h=>(ow h).1)).mono λ_ _=>bu.to (Bh (iP (nK (A1.quo B1) (A1.quo B2) (A2.quo B1) (A2.quo B2)) (nJ (A1.quo B1) (A1.quo B2) (A2.quo B1) (A2.quo B2))))
theorem IY (h:j<=10000):K2 Tryz.prog 59 (pV aR j [a1,a2]) (pI n) (pV aR (j+300) [bT a1 n,-(bT (-a2) n)]):=λM w v0 v1 hM h0 h1=>by
 obtain⟨_,A1,A2⟩:=ow h0.out
 exact(Jq ⟨A1,A2⟩ n h M w v0 v1 hM (h0.imp λ_ h=>(ow h).1) h1).mono λ_ _=>bu.to (iP (tD A1 n) (Hg A2 n))
theorem FC (h:j<=100000000):K2 Tryz.prog 11 (pV au j [x,y]) (pV aR k [x,y]) (pB true):=λM w v0 v1 hM h0 h1=>by
 obtain⟨_,A1,A2⟩:=ow h0.out
 exact Ce ⟨A1,A2⟩ h rfl rfl M w v0 v1 hM (h0.imp λ_ h=>(ow h).1) (h1.imp λ_ h=>(ow h).1)
def NB (p q:Int×Int):Rat:=eZ (xk p) (xk p) (xk q) (xk q)
def NA (p q:Int×Int):Rat:=eY (xk p) (xk p) (xk q) (xk q)
variable {p q:Int×Int}
theorem MF (hp:wZ p) (hq:wZ q):bg 64 (NB p q)/\bg 64 (NA p q):=by
 have b1:bg 64 (xk p):=tG hp.1 hp.2.1 hp.2.2
 have b2:bg 64 (xk q):=tG hq.1 hq.2.1 hq.2.2
 exact⟨nK b1 b1 b2 b2,nJ b1 b1 b2 b2⟩
theorem D7 (h:wZ p/\wZ q):K1 Tryz.prog 18 (Nw [p,q]) (pV au 64 [NB p q,NA p q]):=λM w v0 hM h0=>by
 have b:=MF h.1 h.2
 exact(Hy (x1:=xk p) (x2:=xk q) rfl h.1 rfl h.2 rfl rfl M w v0 hM h0).mono λ_ _=>bu.to (iP b.1 b.2)
theorem AK (h:wZ p/\wZ q):K1 Tryz.prog 20 (Nw [p,q]) (pV aR 64 [NB p q,NA p q]):=λM w v0 hM h0=>by
 have b:=MF h.1 h.2
 exact(zU (x1:=xk p) (x2:=xk q) rfl h.1 rfl h.2 rfl rfl M w v0 hM h0).mono λ_ _=>bu.to (iP b.1 b.2)
end
end Wx

namespace Wx
open Go Go.RowKit Go.Proofs
set_option linter.unusedVariables false
attribute [local irreducible] OpOk
section
variable {n:Nat} {ms:Nat->List Rat}
end
end Wx

namespace Wx
set_option maxRecDepth 100000
set_option maxHeartbeats 1000000
open Go Go.RowKit Go.Proofs
set_option linter.unusedVariables false
attribute [local irreducible] OpOk
abbrev jx:Rat:=((1:Int):Rat)
def kO (a b:Rat):Bool:=decide (dS (jx+a)<=0)||decide (dS (jx+b)<=0)
def Lc (x a1 a2:Rat):Rat:=eZ (x*(jx+a1)) (x*(jx+a2)) (x*(jx+a1)) (x*(jx+a2))
def Lb (x a1 a2:Rat):Rat:=eY (x*(jx+a1)) (x*(jx+a2)) (x*(jx+a1)) (x*(jx+a2))
def QW (x a1 a2 b1 b2:Rat):Rat:=eZ (Lc x a1 a2/(jx+b1)) (Lc x a1 a2/(jx+b2)) (Lb x a1 a2/(jx+b1)) (Lb x a1 a2/(jx+b2))
def QV (x a1 a2 b1 b2:Rat):Rat:=eY (Lc x a1 a2/(jx+b1)) (Lc x a1 a2/(jx+b2)) (Lb x a1 a2/(jx+b1)) (Lb x a1 a2/(jx+b2))
def Co (x a1 a2 b1 b2:Rat) (n:Int):List Rat:=if kO a1 b1=true then[0,0]else[bT (QW x a1 a2 b1 b2) n,-(bT (-(QV x a1 a2 b1 b2)) n)]
def P4 (a1 b1:Rat):Int:=if kO a1 b1=true then 1 else 0
section
variable {x a1 a2 b1 b2:Rat} {n:Int}
theorem QY (t:kO a1 b1=true):[0,0]=Co x a1 a2 b1 b2 n:=by unfold Co; rw[if_pos t]
theorem QZ (t:kO a1 b1=true):[((0:Int):Rat),((0:Int):Rat)]=Co x a1 a2 b1 b2 n:=by rw[Rat.intCast_zero]; exact QY t
theorem QX (t:kO a1 b1=false):[bT (QW x a1 a2 b1 b2) n,-(bT (-(QV x a1 a2 b1 b2)) n)]=Co x a1 a2 b1 b2 n:=by unfold Co; rw[if_neg (by rw[t]; exact Bool.false_ne_true)]
theorem MQ (t:kO a1 b1=true):(1:Int)=P4 a1 b1:=by unfold P4; rw[if_pos t]
theorem MP (t:kO a1 b1=false):(0:Int)=P4 a1 b1:=by unfold P4; rw[if_neg (by rw[t]; exact Bool.false_ne_true)]
theorem Ml {q:Rat} (h:¬dS q<=0):0<q:=by
 rw[tg]at h
 rcases GD q 0 with k|k|k
 ·rw[ej k]at h; exact absurd (by decide) h
 ·rw[ez k]at h; exact absurd (by decide) h
 ·exact k
theorem Q0 (hb:b1<=b2) (t:kO a1 b1=false):¬(jx+b1<=0/\0<=jx+b2)/\jx+b1≠0/\jx+b2≠0:=by
 unfold kO at t
 simp only[Bool.or_eq_false_iff,decide_eq_false_iff_not]at t
 have h:=Ml t.2
 have h2:0<jx+b2:=by grind
 exact⟨λk=>by grind,by grind,by grind⟩
end
variable {x a1 a2 b1 b2:Rat} {n:Int}
theorem FI (h:b1<=b2):K4 Tryz.prog 17 (pR 64 x) (pV au 64 [a1,a2]) (pV au 64 [b1,b2]) (pI n) (fo (pV au 622 (Co x a1 a2 b1 b2 n)) (pI (P4 a1 b1))):=by
 intro M w0 v0 v1 v2 v3 hM hv0 gb hv2 hv3
 refine PT (N:=47) Tryz.func17 rfl rfl rfl hM hv0 gb hv2 hv3 λa hI=>?_
 refine dQ hI 5 [⟨4,4,some 0,none,.ptr,32,3,true,pv _,[]⟩,⟨5,5,some 1,none,.ptr,43,6,true,pv _,[]⟩,⟨6,6,some 2,none,.ptr,43,6,true,pv _,[]⟩,⟨8,8,some 3,none,.ptr,43,6,true,pv _,[]⟩] [] [Uc 4 9 _] .z (.aK .z) ⟨bo,bo,bo,rA [.r,.r],mv,trivial⟩ (.k (.k (.k (.k .z)))) (.gV (.k .z)) λa w hI=>?_
 refine dQ hI 4 [⟨10,10,some 2,none,.ptr,43,6,true,pv _,[(3,pv _)]⟩] [] [Uc 0 15 _,Uc 1 16 _] (.k (.k (.k (.k .z)))) (.kk .z) ⟨vY Mc,vY IW,rA [.r,.r],nw,trivial⟩ (.k (.k (.k (.k (.s .o .z))))) (.gX .z) λa w hI=>?_
 refine GX hI [0,0,3,0,0,31,0,0,255,511] [⟨11,11,some 6,none,.ptr,43,6,true,pv _,[(8,pv _)]⟩,⟨12,12,some 7,none,.ptr,43,6,true,pv _,[(9,pv _)]⟩] [] [Uc 0 17 _,Uc 1 18 _,Uc 2 19 _,Uc 3 20 _,Uc 4 21 _,Uc 5 22 _] (.k (.k (.k (.k (.k .z))))) (.kk .z) ⟨ld,ld,zx Nk,ld,ld,zx Nk,rA [.r,.r],rA [.r,.r],nw,nw,trivial⟩ (.k (.d (.d (.k (.d (.s .o (.s .o .z))))))) (.gX (.ek .z)) λa w hI=>?_
 refine aU ?_
 refine dQ hI 10 [] [] [Uc 0 23 _,Uc 1 24 _,Uc 2 25 _,Uc 3 26 _,Uc 4 27 _,Uc 5 28 _,Uc 6 29 _,Uc 7 30 _,Uc 8 31 _,Uc 9 32 _] (.k (.k (.k (.k .z)))) (.kk .z) ⟨ld,vY Sc,E6 BX,bn,mv,gd λh=>yF h,gd λh=>TZ h Sc,gd λh=>Le h BX,gd λh=>DW h,pk,trivial⟩ (.k (.k (.k (.k .z)))) (.gX (.ek (.gV .z))) λa w hI=>?_
 refine Kl hI (λt1=>?_) (λt1=>?_)
 ·
  have tb:kO a1 b1=true:=t1
  refine dQ hI 3 [] [] [Uc 0 33 _,Uc 2 9 _] (.k (.u none [(1,pv _)] (.k (.k .z)))) (.k (.t 2 (.k .z))) ⟨bd [.o .r,.o .r] [],nw,mv,trivial⟩ (.k (.s .o (.k (.k .z)))) (.lM (.k .z)) λa w hI=>?_
  refine bL ?_
  refine bM ?_
  exact qY hI rfl (BQ (hq:=uT (QY tb) (by decide))) (pC (hq:=fl (MQ tb)))
 ·
  have tb:kO a1 b1=false:=t1
  have hz:=Q0 h tb
  refine bD ?_
  refine aj ?_
  refine GX hI [0,1,0,7,0,31,63,127,127,0,767,2047] [⟨13,13,some 9,none,.ptr,43,6,true,pv _,[(10,pv _)]⟩] [] [Uc 0 35 _,Uc 1 36 _,Uc 2 37 _,Uc 3 38 _,Uc 4 39 _,Uc 5 40 _,Uc 6 34 _,Uc 7 41 _,Uc 8 42 _,Uc 11 14 _] (.k (.k (.k (.k .z)))) (.fS .z) ⟨ld,vY IW,ld,zx Sd,ld,zx Sb (hφ:=⟨by omega,hz⟩),mv,ext,ext,rA [.r,.r],nw,mv,trivial⟩ (.d (.k (.d (.d (.s .o .z))))) (.gX (.d8 (.k .z))) λa w hI=>?_
  refine dQ hI 6 [] [] [Uc 0 43 _,Uc 1 44 _,Uc 2 45 _,Uc 3 46 _,Uc 5 9 _] (.u none [(4,pv _)] (.k .z)) (.k (.t 5 (.k .z))) ⟨ld,mv,zx Lv,mv,nw,mv,trivial⟩ (.s .o (.d .z)) (.ek (.gV .z)) λa w hI=>?_
  refine bL ?_
  exact qY hI rfl (BQ (hq:=uT (QX tb) (by decide))) (pC (hq:=fl (MP tb)))
theorem PK (_:True):K0 Tryz.prog 37 (pV aR 64 [((0:Int):Rat),((0:Int):Rat)]):=by
 intro M w0 hM
 refine SH (N:=3) Tryz.func37 rfl rfl rfl hM λa hI=>?_
 refine dQ hI 1 [⟨0,0,some 0,none,.ptr,48,6,true,pv _,[]⟩] [] [] .z .z ⟨rA [.f,.f],trivial⟩ (.k .z) .z λa w hI=>?_
 refine dQ hI 3 [] [] [Uc 0 1 _,Uc 1 2 _] (.u none [(2,pv _)] .z) .z ⟨E6 Np,vY yT,nw,trivial⟩ (.s .o .z) (.dd .z) λa w hI=>?_
 refine bL ?_
 exact dx hI rfl BQ
theorem Gr (h:b1<=b2):K4 Tryz.prog 19 (pN 64 x) (pV aR 64 [a1,a2]) (pV aR 64 [b1,b2]) (pI n) (fo (pV aR 622 (Co x a1 a2 b1 b2 n)) (pI (P4 a1 b1))):=by
 intro M w0 v0 v1 v2 v3 hM hv0 gb hv2 hv3
 refine PT (N:=46) Tryz.func19 rfl rfl rfl hM hv0 gb hv2 hv3 λa hI=>?_
 refine dQ hI 5 [⟨4,4,some 0,none,.ptr,38,3,true,pv _,[]⟩,⟨5,5,some 1,none,.ptr,48,6,true,pv _,[]⟩,⟨6,6,some 2,none,.ptr,48,6,true,pv _,[]⟩,⟨8,8,some 3,none,.ptr,48,6,true,pv _,[]⟩] [] [Uc 4 9 _] .z (.aK .z) ⟨bo,bo,bo,rA [.f,.f],mv,trivial⟩ (.k (.k (.k (.k .z)))) (.gV (.k .z)) λa w hI=>?_
 refine dQ hI 4 [⟨10,10,some 2,none,.ptr,48,6,true,pv _,[(3,pv _)]⟩] [] [Uc 0 15 _,Uc 1 16 _] (.k (.k (.k (.k .z)))) (.kk .z) ⟨E6 Np,vY yT,rA [.f,.f],nw,trivial⟩ (.k (.k (.k (.k (.s .o .z))))) (.gX .z) λa w hI=>?_
 refine GX hI [0,0,3,0,0,31,0,0,255,511] [⟨11,11,some 6,none,.ptr,48,6,true,pv _,[(8,pv _)]⟩,⟨12,12,some 7,none,.ptr,48,6,true,pv _,[(9,pv _)]⟩] [] [Uc 0 17 _,Uc 1 18 _,Uc 2 19 _,Uc 3 20 _,Uc 4 21 _,Uc 5 22 _] (.k (.k (.k (.k (.k .z))))) (.kk .z) ⟨ld,ld,zx IX,ld,ld,zx IX,rA [.f,.f],rA [.f,.f],nw,nw,trivial⟩ (.k (.d (.d (.k (.d (.s .o (.s .o .z))))))) (.gX (.ek .z)) λa w hI=>?_
 refine aU ?_
 refine dQ hI 10 [] [⟨some 0,23,11,0,True⟩,⟨some 5,28,12,0,_⟩] [Uc 1 24 _,Uc 2 25 _,Uc 3 26 _,Uc 4 27 _,Uc 6 29 _,Uc 7 30 _,Uc 8 31 _,Uc 9 32 _] (.k (.k (.k (.k .z)))) (.kk .z) ⟨fa,lV 0 (hq:=by exact Nat.zero_lt_succ _),E6 Jg,bn,mv,gd λh=>Lg h,gd λh=>lV 0 (hcd:=h) (hq:=by exact Nat.zero_lt_succ _) (hp:=pg h rfl),gd λh=>Le h Jg,gd λh=>DW h,pk,trivial⟩ (.k (.k (.k (.k .z)))) (.gX (.ek (.dk .z))) λa w hI=>?_
 refine Kl hI (λt1=>?_) (λt1=>?_)
 ·
  have tb:kO a1 b1=true:=t1
  refine dQ hI 3 [] [] [Uc 0 33 _,Uc 2 9 _] (.k (.u none [(1,pv _)] (.k (.k .z)))) (.k (.t 2 (.k .z))) ⟨Wy PK,nw,mv,trivial⟩ (.k (.s .o (.k (.k .z)))) (.lM (.k .z)) λa w hI=>?_
  refine bL ?_
  refine bM ?_
  exact qY hI rfl (BQ (hq:=uT (QZ tb) (by decide))) (pC (hq:=fl (MQ tb)))
 ·
  have tb:kO a1 b1=false:=t1
  have hz:=Q0 h tb
  refine bD ?_
  refine aj ?_
  refine GX hI [0,1,0,7,0,31,63,127,127,0,767,2047] [⟨13,13,some 9,none,.ptr,48,6,true,pv _,[(10,pv _)]⟩] [] [Uc 0 35 _,Uc 1 36 _,Uc 2 37 _,Uc 3 38 _,Uc 4 39 _,Uc 5 40 _,Uc 6 34 _,Uc 7 41 _,Uc 8 42 _,Uc 11 14 _] (.k (.k (.k (.k .z)))) (.fS .z) ⟨ld,vY yT,ld,zx Pb,ld,zx Pa (hφ:=⟨by omega,hz⟩),mv,ext,ext,rA [.f,.f],nw,mv,trivial⟩ (.d (.k (.d (.d (.s .o .z))))) (.gX (.d8 (.d .z))) λa w hI=>?_
  refine dQ hI 5 [] [] [Uc 0 43 _,Uc 1 44 _,Uc 2 45 _,Uc 4 9 _] (.u none [(3,pv _)] (.k .z)) (.k (.t 4 .z)) ⟨ld,mv,zx IY,nw,mv,trivial⟩ (.s .o (.d .z)) (.ek (.dk .z)) λa w hI=>?_
  refine bL ?_
  exact qY hI rfl (BQ (hq:=uT (QX tb) (by decide))) (pC (hq:=fl (MP tb)))
section
variable {x a1 a2 b1 b2:Rat} {n:Int}
theorem yE:(Co x a1 a2 b1 b2 n).length=2:=by unfold Co; split<;>rfl
theorem DT:Co x a1 a2 b1 b2 n=[(Co x a1 a2 b1 b2 n).getD 0 0,(Co x a1 a2 b1 b2 n).getD 1 0]:=by
 have h:=yE (x:=x) (a1:=a1) (a2:=a2) (b1:=b1) (b2:=b2) (n:=n)
 match Co x a1 a2 b1 b2 n,h with
 |[_,_],_=>rfl
end
end Wx
