import Derived.Test.YtocboimkilkklaaGreatJRF45
import Derived.Test.YtocboimkilkklaaGreatCRFRanges
namespace Wx
attribute [local irreducible] OpOk
set_option maxRecDepth 100000
open Go Go.RowKit Go.Proofs
set_option linter.unusedVariables false
theorem ni {a b c d:Rat} (h1:a=c) (h2:b=d):∀w v,aO a b w v->aO c d w v:=λ_ _ k=>h1▸h2▸k
variable {x y:Rat}
theorem FL (h:fR x y<=0):x=min2 x y:=by
 have h:=sM.1 h
 have h1:=(ql x y).1
 rcases kW x y with e|e<;>grind
theorem I7 (h:¬fR x y<=0):y=min2 x y:=by
 have h:¬x<=y:=λe=>h (sM.2 e)
 have h1:=(ql x y).2
 rcases kW x y with e|e<;>grind
theorem DI:fR x y>=0↔y<=x:=by
 have:=E7 x y
 rw[<-sM]
 omega
theorem Je (h:fR x y>=0):x=max2 x y:=by
 have h:=DI.1 h
 have h1:=(qg x y).1
 rcases kT x y with e|e<;>grind
theorem LJ (h:¬fR x y>=0):y=max2 x y:=by
 have h:¬y<=x:=λe=>h (DI.2 e)
 have h1:=(qg x y).2
 rcases kT x y with e|e<;>grind
theorem Nn (a b c d:Rat):min2 (min2 a b) (min2 c d)=eZ a b c d:=by
 have h1:=ql a b
 have h2:=ql c d
 have h3:=ql (min2 a b) (min2 c d)
 have h4:=sV a b c d
 have m1:=kW a b
 have m2:=kW c d
 have m3:=kW (min2 a b) (min2 c d)
 have m4:=uy a b c d
 grind
theorem Nl (a b c d:Rat):max2 (max2 a b) (max2 c d)=eY a b c d:=by
 have h1:=qg a b
 have h2:=qg c d
 have h3:=qg (max2 a b) (max2 c d)
 have h4:=sU a b c d
 have m1:=kT a b
 have m2:=kT c d
 have m3:=kT (max2 a b) (max2 c d)
 have m4:=ux a b c d
 grind
theorem FW (a b c d:Rat):eZ a b c d=eZ b a d c:=by
 have h4:=sV a b c d
 have m4:=uy a b c d
 have h5:=sV b a d c
 have m5:=uy b a d c
 grind
theorem FT (a b c d:Rat):eY a b c d=eY b a d c:=by
 have h4:=sU a b c d
 have m4:=ux a b c d
 have h5:=sU b a d c
 have m5:=ux b a d c
 grind
theorem Jc (a b:Rat):eZ a a b b=min2 a b:=by rw[<-Nn,xA,xA]
theorem Jb (a b:Rat):eY a a b b=max2 a b:=by rw[<-Nl,xx,xx]
theorem nk (x y:Rat):x*(((1:Int):Rat)/y)=x/y:=by rw[Rat.div_def,Rat.div_def,show((1:Int):Rat)=1 from rfl,Rat.one_mul]
theorem Oi (a b c d:Rat):eZ (a*(((1:Int):Rat)/d)) (a*(((1:Int):Rat)/c)) (b*(((1:Int):Rat)/d)) (b*(((1:Int):Rat)/c))=eZ (a/c) (a/d) (b/c) (b/d):=by rw[nk,nk,nk,nk,FW]
theorem Oh (a b c d:Rat):eY (a*(((1:Int):Rat)/d)) (a*(((1:Int):Rat)/c)) (b*(((1:Int):Rat)/d)) (b*(((1:Int):Rat)/c))=eY (a/c) (a/d) (b/c) (b/d):=by rw[nk,nk,nk,nk,FT]
variable {j:Nat}
theorem KY (hx:bg j x) (hj:j<=100000) (k:Int):∀w v1 v2,aR x w v1->pI k w v2->Calls Tryz.prog 90 #[v1,v2] w (fu (aR (bT x k)) w):=λw v1 v2 h1 h2=>by
 have h2:v2=.int .i64 k:=h2
 rw[h2]
 exact xC w v1 x k h1 hx hj
theorem QC (hx:bg j x) (hj:j<=100000) (k:Int):∀w v1 v2,aR x w v1->pI k w v2->Calls Tryz.prog 91 #[v1,v2] w (fu (aR (-(bT (-x) k))) w):=λw v1 v2 h1 h2=>by
 have h2:v2=.int .i64 k:=h2
 rw[h2]
 exact LP w v1 x k h1 hx hj
theorem MJ {n d:Int} (e:x=BP n d) (h:oK n d):∀w v1,cU n d w v1->Calls Tryz.prog 7 #[v1] w (fu (aR x) w):=λw v1 h1=>by
 rw[qv h1,e]
 exact Ec w n d h.1 h.2.1 h.2.2
theorem Jo (hx:bg j x) (hy:bg j y) (hj:j+j+j+j+1<=10000000):∀(M:Nat->Nat->Prop) (w:World) (v0 v1:Value),dc M w->aL M (λw=>(aR x) w v0) w->aL M (λw=>(aR y) w v1) w->Calls Tryz.prog 80 #[v0,v1] w (bu M (aR (min2 x y)) w):=by
 intro M w0 v0 v1 hM hv0 gb
 refine aQ (N:=11) Tryz.func80 rfl rfl rfl hM (show ck M w0 [v0,v1] [⟨none,none,0,aR x⟩,⟨none,none,1,aR y⟩]from⟨⟨rfl,_,rfl,hv0⟩,⟨rfl,_,rfl,gb⟩,trivial⟩) λa hI=>?_
 refine jb hI 3 [⟨2,2,some 0,none,.ptr,38,3,true,pv (aR x),[]⟩,⟨3,3,some 1,none,.ptr,38,3,true,pv (aR y),[]⟩,⟨4,4,some 2,none,.ptr,38,3,true,pv dr,[]⟩] [] [] .z (.kk .z) ⟨bQ 0 rfl rfl (by kernel_rfl) (by kernel_rfl) rfl rfl rfl (.tmp 0 rfl rfl) (bJ _) rfl,bQ 1 rfl rfl (by kernel_rfl) (by kernel_rfl) rfl rfl rfl (.tmp 1 rfl rfl) (bJ _) rfl,bp 2 rfl rfl (by kernel_rfl) (by kernel_rfl) rfl rfl rfl Kt rfl rfl (by simp[fq]) rfl (λ_=>trivial),trivial⟩ (.k (.k (.k .z))) (.dd .z) λa w hI=>?_
 refine wp_seq ?_
 refine jb hI 4 [] [] [Uc 0 5 (aR x),Uc 1 6 (aR y),Uc 2 7 _,Uc 3 8 _] (.k (.k (.k .z))) .z ⟨bG 0 rfl rfl rfl rfl (by kernel_rfl) cR rfl (.here 0 rfl),bG 1 rfl rfl rfl rfl (by kernel_rfl) cR rfl (.here 1 rfl),qN (bz _) (yn hx hy (by omega)),bl,trivial⟩ (.k (.k (.k .z))) (.gV .z) λa w hI=>?_
 refine ik hI 0 rfl (λht=>?_) (λht=>?_)
 ·have t1:=of_decide_eq_true ht
  refine jb hI 2 [] [] [Uc 0 9 (aR x)] (.k (.k (.u none [(1,pv (aR x))] .z))) (.k .z) ⟨bG 0 rfl rfl rfl rfl (by kernel_rfl) cR rfl (.here 1 rfl),aS 2 rfl rfl rfl rfl 0 rfl (by kernel_rfl) (by kernel_rfl) cR (.tmp 1 rfl rfl) (bJ _),trivial⟩ (.k (.k (.s .o .z))) (.dd .z) λa w hI=>?_
  refine wp_ret ?_
  refine bM ?_
  exact dx hI rfl (.imp (.cell 2 rfl rfl rfl rfl cR rfl) (td (FL t1)))
 ·have t2:=of_decide_eq_false ht
  refine wp_skip ?_
  refine aj ?_
  refine jb hI 2 [] [] [Uc 0 10 (aR y)] (.k (.k (.u none [(1,pv (aR y))] .z))) (.k .z) ⟨bG 1 rfl rfl rfl rfl (by kernel_rfl) cR rfl (.here 1 rfl),aS 2 rfl rfl rfl rfl 0 rfl (by kernel_rfl) (by kernel_rfl) cR (.tmp 1 rfl rfl) (bJ _),trivial⟩ (.k (.k (.s .o .z))) (.dd .z) λa w hI=>?_
  refine wp_ret ?_
  exact dx hI rfl (.imp (.cell 2 rfl rfl rfl rfl cR rfl) (td (I7 t2)))
theorem LO (hx:bg j x) (hy:bg j y) (hj:j+j+j+j+1<=10000000):∀(M:Nat->Nat->Prop) (w:World) (v0 v1:Value),dc M w->aL M (λw=>(aR x) w v0) w->aL M (λw=>(aR y) w v1) w->Calls Tryz.prog 81 #[v0,v1] w (bu M (aR (max2 x y)) w):=by
 intro M w0 v0 v1 hM hv0 gb
 refine aQ (N:=11) Tryz.func81 rfl rfl rfl hM (show ck M w0 [v0,v1] [⟨none,none,0,aR x⟩,⟨none,none,1,aR y⟩]from⟨⟨rfl,_,rfl,hv0⟩,⟨rfl,_,rfl,gb⟩,trivial⟩) λa hI=>?_
 refine jb hI 3 [⟨2,2,some 0,none,.ptr,38,3,true,pv (aR x),[]⟩,⟨3,3,some 1,none,.ptr,38,3,true,pv (aR y),[]⟩,⟨4,4,some 2,none,.ptr,38,3,true,pv dr,[]⟩] [] [] .z (.kk .z) ⟨bQ 0 rfl rfl (by kernel_rfl) (by kernel_rfl) rfl rfl rfl (.tmp 0 rfl rfl) (bJ _) rfl,bQ 1 rfl rfl (by kernel_rfl) (by kernel_rfl) rfl rfl rfl (.tmp 1 rfl rfl) (bJ _) rfl,bp 2 rfl rfl (by kernel_rfl) (by kernel_rfl) rfl rfl rfl Kt rfl rfl (by simp[fq]) rfl (λ_=>trivial),trivial⟩ (.k (.k (.k .z))) (.dd .z) λa w hI=>?_
 refine wp_seq ?_
 refine jb hI 4 [] [] [Uc 0 5 (aR x),Uc 1 6 (aR y),Uc 2 7 _,Uc 3 8 _] (.k (.k (.k .z))) .z ⟨bG 0 rfl rfl rfl rfl (by kernel_rfl) cR rfl (.here 0 rfl),bG 1 rfl rfl rfl rfl (by kernel_rfl) cR rfl (.here 1 rfl),qN (bz _) (yn hx hy (by omega)),bl,trivial⟩ (.k (.k (.k .z))) (.gV .z) λa w hI=>?_
 refine ik hI 0 rfl (λht=>?_) (λht=>?_)
 ·have t1:=of_decide_eq_true ht
  refine jb hI 2 [] [] [Uc 0 9 (aR x)] (.k (.k (.u none [(1,pv (aR x))] .z))) (.k .z) ⟨bG 0 rfl rfl rfl rfl (by kernel_rfl) cR rfl (.here 1 rfl),aS 2 rfl rfl rfl rfl 0 rfl (by kernel_rfl) (by kernel_rfl) cR (.tmp 1 rfl rfl) (bJ _),trivial⟩ (.k (.k (.s .o .z))) (.dd .z) λa w hI=>?_
  refine wp_ret ?_
  refine bM ?_
  exact dx hI rfl (.imp (.cell 2 rfl rfl rfl rfl cR rfl) (td (Je t1)))
 ·have t2:=of_decide_eq_false ht
  refine wp_skip ?_
  refine aj ?_
  refine jb hI 2 [] [] [Uc 0 10 (aR y)] (.k (.k (.u none [(1,pv (aR y))] .z))) (.k .z) ⟨bG 1 rfl rfl rfl rfl (by kernel_rfl) cR rfl (.here 1 rfl),aS 2 rfl rfl rfl rfl 0 rfl (by kernel_rfl) (by kernel_rfl) cR (.tmp 1 rfl rfl) (bJ _),trivial⟩ (.k (.k (.s .o .z))) (.dd .z) λa w hI=>?_
  refine wp_ret ?_
  exact dx hI rfl (.imp (.cell 2 rfl rfl rfl rfl cR rfl) (td (LJ t2)))
theorem lO (a1:Rat):∀(M:Nat->Nat->Prop) (w:World) (v0:Value),dc M w->aL M (λw=>(aR a1) w v0) w->Calls Tryz.prog 40 #[v0] w (bu M (aO a1 a1) w):=by
 intro M w0 v0 hM hv0
 refine aQ (N:=6) Tryz.func40 rfl rfl rfl hM (show ck M w0 [v0] [⟨none,none,0,aR a1⟩]from⟨⟨rfl,_,rfl,hv0⟩,trivial⟩) λa hI=>?_
 refine jb hI 2 [⟨1,1,some 0,none,.ptr,38,3,true,pv (aR a1),[]⟩,⟨2,2,some 1,none,.ptr,48,6,true,pv dr,[]⟩] [] [] .z (.k .z) ⟨bQ 0 rfl rfl (by kernel_rfl) (by kernel_rfl) rfl rfl rfl (.tmp 0 rfl rfl) (bJ _) rfl,bp 1 rfl rfl (by kernel_rfl) (by kernel_rfl) rfl rfl rfl vS rfl rfl (by simp[fq]) rfl (λ_=>trivial),trivial⟩ (.k (.k .z)) (.d .z) λa w hI=>?_
 refine jb hI 4 [] [] [Uc 0 3 (aR a1),Uc 1 4 (aR a1),Uc 2 5 (aO a1 a1)] (.k (.u none [(3,pv (aO a1 a1))] .z)) .z ⟨bG 0 rfl rfl rfl rfl (by kernel_rfl) cR rfl (.here 0 rfl),bG 0 rfl rfl rfl rfl (by kernel_rfl) cR rfl (.here 1 rfl),gQ (fs:=[⟨true,3,dr⟩,⟨true,3,dr⟩]) (ps:=[(0,aR a1),(1,aR a1)]) Ho (fW (by kernel_rfl)) (jj) (show bS _ _ _ _ _ _ from⟨⟨rfl,(.tmp 0 rfl rfl),_,rfl,bJ _⟩,⟨rfl,(.tmp 1 rfl rfl),_,rfl,bJ _⟩,trivial⟩) rfl (.here 2 rfl),aS 1 rfl rfl rfl rfl 0 rfl (by kernel_rfl) (by kernel_rfl) jc (.tmp 2 rfl rfl) (bH _ _),trivial⟩ (.k (.s .o .z)) (.Ky .z) λa w hI=>?_
 refine wp_ret ?_
 exact dx hI rfl (.cell 1 rfl rfl rfl rfl jc rfl)
variable {a1 a2 b1 b2:Rat}
theorem sX (ha:bg j a1/\bg j a2) (hb:bg j b1/\bg j b2) (hj:j+j+j+j+1<=10000000):∀(M:Nat->Nat->Prop) (w:World) (v0 v1:Value),dc M w->aL M (λw=>(aO a1 a2) w v0) w->aL M (λw=>(aO b1 b2) w v1) w->Calls Tryz.prog 42 #[v0,v1] w (bu M (aO (min2 a1 b1) (max2 a2 b2)) w):=by
 intro M w0 v0 v1 hM hv0 gb
 refine aQ (N:=16) Tryz.func42 rfl rfl rfl hM (show ck M w0 [v0,v1] [⟨none,none,0,aO a1 a2⟩,⟨none,none,1,aO b1 b2⟩]from⟨⟨rfl,_,rfl,hv0⟩,⟨rfl,_,rfl,gb⟩,trivial⟩) λa hI=>?_
 refine jb hI 3 [⟨2,2,some 0,none,.ptr,48,6,true,pv (aO a1 a2),[]⟩,⟨3,3,some 1,none,.ptr,48,6,true,pv (aO b1 b2),[]⟩,⟨4,4,some 2,none,.ptr,48,6,true,pv dr,[]⟩] [] [] .z (.kk .z) ⟨bQ 0 rfl rfl (by kernel_rfl) (by kernel_rfl) rfl rfl rfl (.tmp 0 rfl rfl) (bH _ _) rfl,bQ 1 rfl rfl (by kernel_rfl) (by kernel_rfl) rfl rfl rfl (.tmp 1 rfl rfl) (bH _ _) rfl,bp 2 rfl rfl (by kernel_rfl) (by kernel_rfl) rfl rfl rfl vS rfl rfl (by simp[fq]) rfl (λ_=>trivial),trivial⟩ (.k (.k (.k .z))) (.dd .z) λa w hI=>?_
 refine BA hI [0,1,0,4,15,0,32,0,128,511,1023,2047] [] [⟨some 0,5,2,0,True⟩,⟨some 2,7,3,0,True⟩,⟨some 5,10,2,3,True⟩,⟨some 7,12,3,3,True⟩] [Uc 1 6 _,Uc 3 8 _,Uc 4 9 _,Uc 6 11 _,Uc 8 13 _,Uc 9 14 _,Uc 10 15 (aO (min2 a1 b1) (max2 a2 b2))] (.k (.k (.u none [(11,pv (aO (min2 a1 b1) (max2 a2 b2)))] .z))) .z ⟨aq 0 rfl rfl rfl 0 rfl rfl rfl rfl (.inl ⟨rfl,rfl⟩) rfl (by kernel_rfl) (λb w=>iM b 0 w),iq cR,aq 1 rfl rfl rfl 1 rfl rfl rfl rfl (.inl ⟨rfl,rfl⟩) rfl (by kernel_rfl) (λb w=>iM b 0 w),iq cR,Hx (Jo ha.1 hb.1 (by omega)),aq 0 rfl rfl rfl 2 rfl rfl rfl rfl (.inl ⟨rfl,rfl⟩) rfl (by kernel_rfl) (λb w=>iN b 0 w),iq cR,aq 1 rfl rfl rfl 3 rfl rfl rfl rfl (.inl ⟨rfl,rfl⟩) rfl (by kernel_rfl) (λb w=>iN b 0 w),iq cR,Hx (LO ha.2 hb.2 (by omega)),gQ (fs:=[⟨true,3,dr⟩,⟨true,3,dr⟩]) (ps:=[(0,aR (min2 a1 b1)),(1,aR (max2 a2 b2))]) Ho (fW (by kernel_rfl)) (jj) (show bS _ _ _ _ _ _ from⟨⟨rfl,(.tmp 2 rfl rfl),_,rfl,bJ _⟩,⟨rfl,(.tmp 5 rfl rfl),_,rfl,bJ _⟩,trivial⟩) rfl (.here 6 rfl),aS 2 rfl rfl rfl rfl 0 rfl (by kernel_rfl) (by kernel_rfl) jc (.tmp 6 rfl rfl) (bH _ _),trivial⟩ (.k (.k (.s .o .z))) (.ek (.Ky .z)) λa w hI=>?_
 refine wp_ret ?_
 exact dx hI rfl (.cell 2 rfl rfl rfl rfl jc rfl)
variable {k:Nat}
theorem Pm (ha:bg j a1/\bg j a2) (hb:bg k b1/\bg k b2) (hj:j+k+j+k+1<=10000000):∀(M:Nat->Nat->Prop) (w:World) (v0 v1:Value),dc M w->aL M (λw=>(aO a1 a2) w v0) w->aL M (λw=>(aO b1 b2) w v1) w->Calls Tryz.prog 56 #[v0,v1] w (bu M (aO (a1+b1) (a2+b2)) w):=by
 intro M w0 v0 v1 hM hv0 gb
 refine aQ (N:=16) Tryz.func56 rfl rfl rfl hM (show ck M w0 [v0,v1] [⟨none,none,0,aO a1 a2⟩,⟨none,none,1,aO b1 b2⟩]from⟨⟨rfl,_,rfl,hv0⟩,⟨rfl,_,rfl,gb⟩,trivial⟩) λa hI=>?_
 refine jb hI 3 [⟨2,2,some 0,none,.ptr,48,6,true,pv (aO a1 a2),[]⟩,⟨3,3,some 1,none,.ptr,48,6,true,pv (aO b1 b2),[]⟩,⟨4,4,some 2,none,.ptr,48,6,true,pv dr,[]⟩] [] [] .z (.kk .z) ⟨bQ 0 rfl rfl (by kernel_rfl) (by kernel_rfl) rfl rfl rfl (.tmp 0 rfl rfl) (bH _ _) rfl,bQ 1 rfl rfl (by kernel_rfl) (by kernel_rfl) rfl rfl rfl (.tmp 1 rfl rfl) (bH _ _) rfl,bp 2 rfl rfl (by kernel_rfl) (by kernel_rfl) rfl rfl rfl vS rfl rfl (by simp[fq]) rfl (λ_=>trivial),trivial⟩ (.k (.k (.k .z))) (.dd .z) λa w hI=>?_
 refine BA hI [0,1,0,4,15,0,32,0,128,511,1023,2047] [] [⟨some 0,5,2,0,True⟩,⟨some 2,7,3,0,True⟩,⟨some 5,10,2,3,True⟩,⟨some 7,12,3,3,True⟩] [Uc 1 6 _,Uc 3 8 _,Uc 4 9 _,Uc 6 11 _,Uc 8 13 _,Uc 9 14 _,Uc 10 15 (aO (a1+b1) (a2+b2))] (.k (.k (.u none [(11,pv (aO (a1+b1) (a2+b2)))] .z))) .z ⟨aq 0 rfl rfl rfl 0 rfl rfl rfl rfl (.inl ⟨rfl,rfl⟩) rfl (by kernel_rfl) (λb w=>iM b 0 w),iq cR,aq 1 rfl rfl rfl 1 rfl rfl rfl rfl (.inl ⟨rfl,rfl⟩) rfl (by kernel_rfl) (λb w=>iM b 0 w),iq cR,qN (bk _) (H6 ha.1 hb.1 (by omega)),aq 0 rfl rfl rfl 2 rfl rfl rfl rfl (.inl ⟨rfl,rfl⟩) rfl (by kernel_rfl) (λb w=>iN b 0 w),iq cR,aq 1 rfl rfl rfl 3 rfl rfl rfl rfl (.inl ⟨rfl,rfl⟩) rfl (by kernel_rfl) (λb w=>iN b 0 w),iq cR,qN (bk _) (H6 ha.2 hb.2 (by omega)),gQ (fs:=[⟨true,3,dr⟩,⟨true,3,dr⟩]) (ps:=[(0,aR (a1+b1)),(1,aR (a2+b2))]) Ho (fW (by kernel_rfl)) (jj) (show bS _ _ _ _ _ _ from⟨⟨rfl,(.tmp 2 rfl rfl),_,rfl,bJ _⟩,⟨rfl,(.tmp 5 rfl rfl),_,rfl,bJ _⟩,trivial⟩) rfl (.here 6 rfl),aS 2 rfl rfl rfl rfl 0 rfl (by kernel_rfl) (by kernel_rfl) jc (.tmp 6 rfl rfl) (bH _ _),trivial⟩ (.k (.k (.s .o .z))) (.ek (.Ky .z)) λa w hI=>?_
 refine wp_ret ?_
 exact dx hI rfl (.cell 2 rfl rfl rfl rfl jc rfl)
theorem Jp (ha:bg j a1/\bg j a2) (hb:bg k b1/\bg k b2) (hj:(j+k)+(j+k)+(j+k)+(j+k)+1<=10000000):∀(M:Nat->Nat->Prop) (w:World) (v0 v1:Value),dc M w->aL M (λw=>(aO a1 a2) w v0) w->aL M (λw=>(aO b1 b2) w v1) w->Calls Tryz.prog 58 #[v0,v1] w (bu M (aO (eZ (a1*b1) (a1*b2) (a2*b1) (a2*b2)) (eY (a1*b1) (a1*b2) (a2*b1) (a2*b2))) w):=by
 intro M w0 v0 v1 hM hv0 gb
 refine aQ (N:=40) Tryz.func58 rfl rfl rfl hM (show ck M w0 [v0,v1] [⟨none,none,0,aO a1 a2⟩,⟨none,none,1,aO b1 b2⟩]from⟨⟨rfl,_,rfl,hv0⟩,⟨rfl,_,rfl,gb⟩,trivial⟩) λa hI=>?_
 refine jb hI 3 [⟨2,2,some 0,none,.ptr,48,6,true,pv (aO a1 a2),[]⟩,⟨3,3,some 1,none,.ptr,48,6,true,pv (aO b1 b2),[]⟩,⟨4,4,some 2,none,.ptr,48,6,true,pv dr,[]⟩] [] [] .z (.kk .z) ⟨bQ 0 rfl rfl (by kernel_rfl) (by kernel_rfl) rfl rfl rfl (.tmp 0 rfl rfl) (bH _ _) rfl,bQ 1 rfl rfl (by kernel_rfl) (by kernel_rfl) rfl rfl rfl (.tmp 1 rfl rfl) (bH _ _) rfl,bp 2 rfl rfl (by kernel_rfl) (by kernel_rfl) rfl rfl rfl vS rfl rfl (by simp[fq]) rfl (λ_=>trivial),trivial⟩ (.k (.k (.k .z))) (.dd .z) λa w hI=>?_
 refine BA hI [0,1,0,4,15,31,0,64,0,256,1023,2047,0,0,16383,32767] [⟨5,5,some 12,none,.ptr,48,6,true,pv dr,[(14,pv (aO (a1*b1) (a1*b1)))]⟩,⟨6,6,some 13,none,.ptr,48,6,true,pv dr,[(15,pv (aO (a1*b2) (a1*b2)))]⟩] [⟨some 0,9,2,0,True⟩,⟨some 2,11,3,0,True⟩,⟨some 6,15,2,0,True⟩,⟨some 8,17,3,3,True⟩] [Uc 1 10 _,Uc 3 12 _,Uc 4 13 _,Uc 5 14 _,Uc 7 16 _,Uc 9 18 _,Uc 10 19 _,Uc 11 20 _] (.k (.k (.k .z))) .z ⟨aq 0 rfl rfl rfl 0 rfl rfl rfl rfl (.inl ⟨rfl,rfl⟩) rfl (by kernel_rfl) (λb w=>iM b 0 w),iq cR,aq 1 rfl rfl rfl 1 rfl rfl rfl rfl (.inl ⟨rfl,rfl⟩) rfl (by kernel_rfl) (λb w=>iM b 0 w),iq cR,qN (bk _) (yq ha.1 hb.1 (by omega)),Hw (lO _),aq 0 rfl rfl rfl 2 rfl rfl rfl rfl (.inl ⟨rfl,rfl⟩) rfl (by kernel_rfl) (λb w=>iM b 0 w),iq cR,aq 1 rfl rfl rfl 3 rfl rfl rfl rfl (.inl ⟨rfl,rfl⟩) rfl (by kernel_rfl) (λb w=>iN b 0 w),iq cR,qN (bk _) (yq ha.1 hb.2 (by omega)),Hw (lO _),bp 3 rfl rfl (by kernel_rfl) (by kernel_rfl) rfl rfl rfl vS rfl rfl (by simp[fq]) rfl (λ_=>trivial),bp 4 rfl rfl (by kernel_rfl) (by kernel_rfl) rfl rfl rfl vS rfl rfl (by simp[fq]) rfl (λ_=>trivial),aS 3 rfl rfl rfl rfl 0 rfl (by kernel_rfl) (by kernel_rfl) jc (.tmp 3 rfl rfl) (bH _ _),aS 4 rfl rfl rfl rfl 0 rfl (by kernel_rfl) (by kernel_rfl) jc (.tmp 7 rfl rfl) (bH _ _),trivial⟩ (.k (.k (.k (.s .o (.s .o .z))))) (.d8 .z) λa w hI=>?_
 refine BA hI [0,1,0,4,15,31,0,64,0,256,1023,2047,0,0,16383,32767] [⟨7,7,some 12,none,.ptr,48,6,true,pv dr,[(14,pv (aO (a2*b1) (a2*b1)))]⟩,⟨8,8,some 13,none,.ptr,48,6,true,pv dr,[(15,pv (aO (a2*b2) (a2*b2)))]⟩] [⟨some 0,21,2,3,True⟩,⟨some 2,23,3,0,True⟩,⟨some 6,27,2,3,True⟩,⟨some 8,29,3,3,True⟩] [Uc 1 22 _,Uc 3 24 _,Uc 4 25 _,Uc 5 26 _,Uc 7 28 _,Uc 9 30 _,Uc 10 31 _,Uc 11 32 _] (.k (.k (.k (.k (.k .z))))) .z ⟨aq 0 rfl rfl rfl 0 rfl rfl rfl rfl (.inl ⟨rfl,rfl⟩) rfl (by kernel_rfl) (λb w=>iN b 0 w),iq cR,aq 1 rfl rfl rfl 1 rfl rfl rfl rfl (.inl ⟨rfl,rfl⟩) rfl (by kernel_rfl) (λb w=>iM b 0 w),iq cR,qN (bk _) (yq ha.2 hb.1 (by omega)),Hw (lO _),aq 0 rfl rfl rfl 2 rfl rfl rfl rfl (.inl ⟨rfl,rfl⟩) rfl (by kernel_rfl) (λb w=>iN b 0 w),iq cR,aq 1 rfl rfl rfl 3 rfl rfl rfl rfl (.inl ⟨rfl,rfl⟩) rfl (by kernel_rfl) (λb w=>iN b 0 w),iq cR,qN (bk _) (yq ha.2 hb.2 (by omega)),Hw (lO _),bp 5 rfl rfl (by kernel_rfl) (by kernel_rfl) rfl rfl rfl vS rfl rfl (by simp[fq]) rfl (λ_=>trivial),bp 6 rfl rfl (by kernel_rfl) (by kernel_rfl) rfl rfl rfl vS rfl rfl (by simp[fq]) rfl (λ_=>trivial),aS 5 rfl rfl rfl rfl 0 rfl (by kernel_rfl) (by kernel_rfl) jc (.tmp 3 rfl rfl) (bH _ _),aS 6 rfl rfl rfl rfl 0 rfl (by kernel_rfl) (by kernel_rfl) jc (.tmp 7 rfl rfl) (bH _ _),trivial⟩ (.k (.k (.k (.k (.k (.s .o (.s .o .z))))))) (.d8 .z) λa w hI=>?_
 refine BA hI [0,0,3,0,0,31,63,127] [] [] [Uc 0 33 (aO (a1*b1) (a1*b1)),Uc 1 34 (aO (a1*b2) (a1*b2)),Uc 2 35 _,Uc 3 36 (aO (a2*b1) (a2*b1)),Uc 4 37 (aO (a2*b2) (a2*b2)),Uc 5 38 _,Uc 6 39 _] (.k (.k (.u none [(7,pv (aO (min2 (min2 (a1*b1) (a1*b2)) (min2 (a2*b1) (a2*b2))) (max2 (max2 (a1*b1) (a1*b2)) (max2 (a2*b1) (a2*b2)))))] (.k (.k (.k (.k .z))))))) .z ⟨bG 3 rfl rfl rfl rfl (by kernel_rfl) jc rfl (.here 0 rfl),bG 4 rfl rfl rfl rfl (by kernel_rfl) jc rfl (.here 1 rfl),Hx (sX ⟨((ha.1).mul hb.1),((ha.1).mul hb.1)⟩ ⟨((ha.1).mul hb.2),((ha.1).mul hb.2)⟩ (by omega)),bG 5 rfl rfl rfl rfl (by kernel_rfl) jc rfl (.here 3 rfl),bG 6 rfl rfl rfl rfl (by kernel_rfl) jc rfl (.here 4 rfl),Hx (sX ⟨((ha.2).mul hb.1),((ha.2).mul hb.1)⟩ ⟨((ha.2).mul hb.2),((ha.2).mul hb.2)⟩ (by omega)),Hx (sX ⟨(Dy ((ha.1).mul hb.1) ((ha.1).mul hb.2)),(Dx ((ha.1).mul hb.1) ((ha.1).mul hb.2))⟩ ⟨(Dy ((ha.2).mul hb.1) ((ha.2).mul hb.2)),(Dx ((ha.2).mul hb.1) ((ha.2).mul hb.2))⟩ (by omega)),aS 2 rfl rfl rfl rfl 0 rfl (by kernel_rfl) (by kernel_rfl) jc (.tmp 6 rfl rfl) (bH _ _),trivial⟩ (.k (.k (.s .o (.k (.k (.k (.k .z))))))) (.ek (.Ky .z)) λa w hI=>?_
 refine wp_ret ?_
 exact dx hI rfl (.imp (.cell 2 rfl rfl rfl rfl jc rfl) (ni (Nn _ _ _ _) (Nl _ _ _ _)))
theorem Pn (ha:bg j a1/\bg j a2) (hy:bg k y) (hj:j+k+j+k+1<=10000000):∀(M:Nat->Nat->Prop) (w:World) (v0 v1:Value),dc M w->aL M (λw=>(aO a1 a2) w v0) w->aL M (λw=>(aR y) w v1) w->Calls Tryz.prog 89 #[v0,v1] w (bu M (pB (decide (a1<=y)&&decide (y<=a2))) w):=by
 intro M w0 v0 v1 hM hv0 gb
 refine aQ (N:=17) Tryz.func89 rfl rfl rfl hM (show ck M w0 [v0,v1] [⟨none,none,0,aO a1 a2⟩,⟨none,none,1,aR y⟩]from⟨⟨rfl,_,rfl,hv0⟩,⟨rfl,_,rfl,gb⟩,trivial⟩) λa hI=>?_
 refine jb hI 3 [⟨2,2,some 0,none,.ptr,48,6,true,pv (aO a1 a2),[]⟩,⟨3,3,some 1,none,.ptr,38,3,true,pv (aR y),[]⟩] [] [Uc 2 4 _] .z (.kk .z) ⟨bQ 0 rfl rfl (by kernel_rfl) (by kernel_rfl) rfl rfl rfl (.tmp 0 rfl rfl) (bH _ _) rfl,bQ 1 rfl rfl (by kernel_rfl) (by kernel_rfl) rfl rfl rfl (.tmp 1 rfl rfl) (bJ _) rfl,mv,trivial⟩ (.k (.k .z)) (.we .z) λa w hI=>?_
 refine jb hI 13 [] [⟨some 0,5,2,0,True⟩,⟨some 7,12,2,3,(decide ((fR a1 y)<=(0:Int)))=true⟩] [Uc 1 6 _,Uc 2 7 (aR y),Uc 3 8 _,Uc 4 9 _,Uc 5 10 _,Uc 6 11 (qw ((decide ((fR a1 y)<=(0:Int)))=true) (aR y)),Uc 8 13 _,Uc 9 14 _,Uc 10 15 _,Uc 11 16 _,Uc 12 4 _] (.k (.k .z)) (.t 12 .z) ⟨aq 0 rfl rfl rfl 0 rfl rfl rfl rfl (.inl ⟨rfl,rfl⟩) rfl (by kernel_rfl) (λb w=>iM b 0 w),iq cR,bG 1 rfl rfl rfl rfl (by kernel_rfl) cR rfl (.here 2 rfl),qN (bz _) (yn ha.1 hy (by omega)),bl,mv,Bf 5 rfl rfl (λhc=>bG 1 rfl rfl rfl rfl (by kernel_rfl) cR rfl (.NC hc 6 rfl)) (by kernel_rfl) (λ_=>.none (by kernel_rfl)) (λhc=>.C6 hc 6 rfl),Bf 5 rfl rfl (λhc=>aq 0 rfl rfl rfl 1 rfl rfl rfl rfl (.inl ⟨rfl,rfl⟩) rfl (by kernel_rfl) (λb w=>iN b 0 w)) (by kernel_rfl) (λhc=>.at_ 1 rfl rfl rfl hc) (λhc=>.none (by kernel_rfl)),gd λh=>Q5 h cR,gd λh=>Q4 h (bz _) (yn hy ha.2 (by omega)),gd λh=>WD h,pk,mv,trivial⟩ (.k (.k .z)) (.d8 (.gV .z)) λa w hI=>?_
 refine wp_ret ?_
 exact dx hI rfl (.imp (.tmp 0 rfl) (jT (by rw[yz,yz])))
theorem Jq (ha:bg j a1/\bg j a2) (n:Int) (hj:j<=10000):∀(M:Nat->Nat->Prop) (w:World) (v0 v1:Value),dc M w->aL M (λw=>(aO a1 a2) w v0) w->aL M (λw=>(pI n) w v1) w->Calls Tryz.prog 59 #[v0,v1] w (bu M (aO (bT a1 n) (-(bT (-a2) n))) w):=by
 intro M w0 v0 v1 hM hv0 gb
 refine aQ (N:=14) Tryz.func59 rfl rfl rfl hM (show ck M w0 [v0,v1] [⟨none,none,0,aO a1 a2⟩,⟨none,none,1,pI n⟩]from⟨⟨rfl,_,rfl,hv0⟩,⟨rfl,_,rfl,gb⟩,trivial⟩) λa hI=>?_
 refine jb hI 2 [⟨2,2,some 0,none,.ptr,48,6,true,pv (aO a1 a2),[]⟩,⟨4,4,some 1,none,.ptr,48,6,true,pv dr,[]⟩] [] [] .z (.kk .z) ⟨bQ 0 rfl rfl (by kernel_rfl) (by kernel_rfl) rfl rfl rfl (.tmp 0 rfl rfl) (bH _ _) rfl,bp 1 rfl rfl (by kernel_rfl) (by kernel_rfl) rfl rfl rfl vS rfl rfl (by simp[fq]) rfl (λ_=>trivial),trivial⟩ (.k (.k .z)) (.dk .z) λa w hI=>?_
 refine BA hI [0,1,0,7,0,16,0,127,255,511] [] [⟨some 0,5,2,0,True⟩,⟨some 4,9,2,3,True⟩] [Uc 1 6 _,Uc 2 7 _,Uc 3 8 _,Uc 5 10 _,Uc 6 11 _,Uc 7 12 _,Uc 8 13 (aO (bT a1 n) (-(bT (-a2) n)))] (.k (.u none [(9,pv (aO (bT a1 n) (-(bT (-a2) n))))] .z)) (.k .z) ⟨aq 0 rfl rfl rfl 0 rfl rfl rfl rfl (.inl ⟨rfl,rfl⟩) rfl (by kernel_rfl) (λb w=>iM b 0 w),iq cR,mv,qN (bk _) (KY ha.1 (by omega) _),aq 0 rfl rfl rfl 1 rfl rfl rfl rfl (.inl ⟨rfl,rfl⟩) rfl (by kernel_rfl) (λb w=>iN b 0 w),iq cR,mv,qN (bk _) (QC ha.2 (by omega) _),gQ (fs:=[⟨true,3,dr⟩,⟨true,3,dr⟩]) (ps:=[(0,aR (bT a1 n)),(1,aR (-(bT (-a2) n)))]) Ho (fW (by kernel_rfl)) (jj) (show bS _ _ _ _ _ _ from⟨⟨rfl,(.tmp 3 rfl rfl),_,rfl,bJ _⟩,⟨rfl,(.tmp 6 rfl rfl),_,rfl,bJ _⟩,trivial⟩) rfl (.here 7 rfl),aS 1 rfl rfl rfl rfl 0 rfl (by kernel_rfl) (by kernel_rfl) jc (.tmp 7 rfl rfl) (bH _ _),trivial⟩ (.k (.s .o .z)) (.d8 .z) λa w hI=>?_
 refine wp_ret ?_
 exact dx hI rfl (.cell 1 rfl rfl rfl rfl jc rfl)
theorem F6 (ha:bg j a1/\bg j a2) (hb:bg k b1/\bg k b2) (hj:(j+(64+k))+(j+(64+k))+(j+(64+k))+(j+(64+k))+1<=10000000) (hz:¬(b1<=0/\0<=b2)) (h1:b1≠0) (h2:b2≠0):∀(M:Nat->Nat->Prop) (w:World) (v0 v1:Value),dc M w->aL M (λw=>(aO a1 a2) w v0) w->aL M (λw=>(aO b1 b2) w v1) w->Calls Tryz.prog 57 #[v0,v1] w (bu M (fo (aO (eZ (a1/b1) (a1/b2) (a2/b1) (a2/b2)) (eY (a1/b1) (a1/b2) (a2/b1) (a2/b2))) (pI 0)) w):=by
 intro M w0 v0 v1 hM hv0 gb
 have B1:bg 64 ((0:Int):Rat):=bg.mono (B9 (by omega) (by omega)) (by omega)
 have B2:bg 64 ((1:Int):Rat):=bg.mono (B9 (by omega) (by omega)) (by omega)
 have B3:bg 64 ((1:Int):Rat):=bg.mono (B9 (by omega) (by omega)) (by omega)
 refine aQ (N:=34) Tryz.func57 rfl rfl rfl hM (show ck M w0 [v0,v1] [⟨none,none,0,aO a1 a2⟩,⟨none,none,1,aO b1 b2⟩]from⟨⟨rfl,_,rfl,hv0⟩,⟨rfl,_,rfl,gb⟩,trivial⟩) λa hI=>?_
 refine jb hI 4 [⟨2,2,some 0,none,.ptr,48,6,true,pv (aO a1 a2),[]⟩,⟨3,3,some 1,none,.ptr,48,6,true,pv (aO b1 b2),[]⟩,⟨4,4,some 2,none,.ptr,48,6,true,pv dr,[]⟩] [] [Uc 3 5 _] .z (.kk .z) ⟨bQ 0 rfl rfl (by kernel_rfl) (by kernel_rfl) rfl rfl rfl (.tmp 0 rfl rfl) (bH _ _) rfl,bQ 1 rfl rfl (by kernel_rfl) (by kernel_rfl) rfl rfl rfl (.tmp 1 rfl rfl) (bH _ _) rfl,bp 2 rfl rfl (by kernel_rfl) (by kernel_rfl) rfl rfl rfl vS rfl rfl (by simp[fq]) rfl (λ_=>trivial),mv,trivial⟩ (.k (.k (.k .z))) (.we .z) λa w hI=>?_
 refine wp_seq ?_
 refine BA hI [0,0,3] [] [] [Uc 0 10 (aO b1 b2),Uc 1 11 _,Uc 2 12 _] (.k (.k (.k .z))) (.k .z) ⟨bG 1 rfl rfl rfl rfl (by kernel_rfl) jc rfl (.here 1 rfl),Qy (bk _) (yo 0 (by omega) (by omega)),Hx (wQ (b:=false) (Pn (j:=k) (k:=64) ⟨hb.1,hb.2⟩ B1 (by omega)) (by rw[<-Bool.decide_and]; exact decide_eq_false hz)) (look rfl) (look rfl),trivial⟩ (.k (.k (.k .z))) (.CA .z) λa w hI=>?_
 refine sN hI 1 rfl ?_
 refine wp_skip ?_
 refine aj ?_
 refine BA hI [0,0,2,7,15,31,31,0,191,511] [⟨6,6,some 7,none,.ptr,38,3,true,pv dr,[(8,pv (aR (((1:Int):Rat)/b2)))]⟩] [⟨some 1,17,3,3,True⟩] [Uc 0 16 _,Uc 2 18 _,Uc 3 19 _,Uc 4 15 _,Uc 5 20 _,Uc 6 21 _,Uc 9 7 _] (.k (.k (.k .z))) (.kk .z) ⟨Qy (bk _) (yo 1 (by omega) (by omega)),aq 1 rfl rfl rfl 0 rfl rfl rfl rfl (.inl ⟨rfl,rfl⟩) rfl (by kernel_rfl) (λb w=>iN b 0 w),iq cR,qN (fT (bk _) (bz _)) (wS B2 hb.2 (by omega) h2),mv,ext,ext,bp 3 rfl rfl (by kernel_rfl) (by kernel_rfl) rfl rfl rfl Kt rfl rfl (by simp[fq]) rfl (λ_=>trivial),aS 3 rfl rfl rfl rfl 0 rfl (by kernel_rfl) (by kernel_rfl) cR (.tmp 6 rfl rfl) (bJ _),mv,trivial⟩ (.k (.k (.k (.s .o .z)))) (.lM (.ek (.d .z))) λa w hI=>?_
 refine BA hI [0,0,2,7,15,31,31,0,191,511] [⟨8,8,some 7,none,.ptr,38,3,true,pv dr,[(8,pv (aR (((1:Int):Rat)/b1)))]⟩] [⟨some 1,24,3,0,True⟩] [Uc 0 23 _,Uc 2 25 _,Uc 3 26 _,Uc 4 22 _,Uc 5 27 _,Uc 6 28 _,Uc 9 9 _] (.k (.k (.k (.k .z)))) (.k .z) ⟨Qy (bk _) (yo 1 (by omega) (by omega)),aq 1 rfl rfl rfl 0 rfl rfl rfl rfl (.inl ⟨rfl,rfl⟩) rfl (by kernel_rfl) (λb w=>iM b 0 w),iq cR,qN (fT (bk _) (bz _)) (wS B3 hb.1 (by omega) h1),mv,ext,ext,bp 4 rfl rfl (by kernel_rfl) (by kernel_rfl) rfl rfl rfl Kt rfl rfl (by simp[fq]) rfl (λ_=>trivial),aS 4 rfl rfl rfl rfl 0 rfl (by kernel_rfl) (by kernel_rfl) cR (.tmp 5 rfl rfl) (bJ _),mv,trivial⟩ (.k (.k (.k (.k (.s .o .z))))) (.lM (.ek .z)) λa w hI=>?_
 refine jb hI 7 [] [] [Uc 0 29 (aO a1 a2),Uc 1 30 (aR (((1:Int):Rat)/b2)),Uc 2 31 (aR (((1:Int):Rat)/b1)),Uc 3 32 (aO (((1:Int):Rat)/b2) (((1:Int):Rat)/b1)),Uc 4 33 _,Uc 6 5 _] (.k (.k (.u none [(5,pv (aO (eZ (a1*(((1:Int):Rat)/b2)) (a1*(((1:Int):Rat)/b1)) (a2*(((1:Int):Rat)/b2)) (a2*(((1:Int):Rat)/b1))) (eY (a1*(((1:Int):Rat)/b2)) (a1*(((1:Int):Rat)/b1)) (a2*(((1:Int):Rat)/b2)) (a2*(((1:Int):Rat)/b1)))))] (.k (.k .z))))) (.t 6 .z) ⟨bG 0 rfl rfl rfl rfl (by kernel_rfl) jc rfl (.here 1 rfl),bG 3 rfl rfl rfl rfl (by kernel_rfl) cR rfl (.here 2 rfl),bG 4 rfl rfl rfl rfl (by kernel_rfl) cR rfl (.here 3 rfl),gQ (fs:=[⟨true,3,dr⟩,⟨true,3,dr⟩]) (ps:=[(0,aR (((1:Int):Rat)/b2)),(1,aR (((1:Int):Rat)/b1))]) Ho (fW (by kernel_rfl)) (jj) (show bS _ _ _ _ _ _ from⟨⟨rfl,(.tmp 2 rfl rfl),_,rfl,bJ _⟩,⟨rfl,(.tmp 3 rfl rfl),_,rfl,bJ _⟩,trivial⟩) rfl (.here 4 rfl),Hx (Jp ⟨ha.1,ha.2⟩ ⟨((B2).quo hb.2),((B3).quo hb.1)⟩ (by omega)),aS 2 rfl rfl rfl rfl 0 rfl (by kernel_rfl) (by kernel_rfl) jc (.tmp 5 rfl rfl) (bH _ _),mv,trivial⟩ (.k (.k (.s .o (.k (.k .z))))) (.ek (.we .z)) λa w hI=>?_
 refine wp_ret ?_
 exact qY hI rfl (.imp (.cell 2 rfl rfl rfl rfl jc rfl) (ni (Oi _ _ _ _) (Oh _ _ _ _))) (.tmp 0 rfl)
end Wx
