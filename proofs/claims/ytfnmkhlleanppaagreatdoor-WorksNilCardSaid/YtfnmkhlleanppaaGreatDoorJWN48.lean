import Derived.Test.YtfnmkhlleanppaaGreatDoorJWN47
namespace Wx
open Go Go.RowKit Go.Proofs
set_option linter.unusedVariables false
def cB:ByteArray:=⟨#[98,97,116,99,104,32,114,49,32,54,48]⟩
def cA:ByteArray:=⟨#[97,103,101,32,114,49,32,53,48]⟩
def cL:ByteArray:=⟨#[108,105,102,101,32,114,49]⟩
def cN:ByteArray:=⟨#[97,103,101,32,114,50,32,49]⟩
def bB:eN:=(⟨#[114,49]⟩,60,false)
def bA:eN:=(⟨#[114,49]⟩,10,false)
def okB:ByteArray:=⟨#[111,107]⟩
theorem eT:aA cB=[⟨#[98,97,116,99,104]⟩,⟨#[114,49]⟩,⟨#[54,48]⟩]:=by decide +kernel
theorem eR:aA cA=[⟨#[97,103,101]⟩,⟨#[114,49]⟩,⟨#[53,48]⟩]:=by decide +kernel
theorem mc:aA cL=[⟨#[108,105,102,101]⟩,⟨#[114,49]⟩]:=by decide +kernel
theorem eU:aA cN=[⟨#[97,103,101]⟩,⟨#[114,50]⟩,⟨#[49]⟩]:=by decide +kernel
theorem wT:((jG cB 0,eM (jG cB 1),false):eN)=bB:=by decide +kernel
theorem wS:((bB.1,om (bB.2.1-eM (jG cA 1)) 0,bB.2.2):eN)=bA:=by decide +kernel
theorem C9 {Λ:Type} {P:Program} {f:FuncId} {H0:List Bk} {p0 p1:Pred} {C C':Λ->Prop} {E:Λ->Ending} {H:Λ->List Bk} (h:L2 P f H0 p0 p1 C E H) (hC:∀l,C l->C' l):L2 P f H0 p0 p1 C' E H:=λM B w v0 v1 hM hB hH hG h0 h1=>(h M B w v0 v1 hM hB hH hG h0 h1).mono λe w' ⟨l,B',k1,k⟩=>⟨l,B',hC l k1,k⟩
abbrev A4 (b:Nat):Pred:=aE (.pointer (some ⟨b,0,none⟩))
theorem uE:cM ((aA cB).getD 0 ⟨#[]⟩) comms=some (cw (aK 1 false 2 λk=>[az,dF].getD k aG) (aE (.func (.func 90) #[] #[]))):=by rw[eT]; kernel_rfl
theorem Ad:cM ((aA cA).getD 0 ⟨#[]⟩) comms=some (cw (aK 1 false 2 λk=>[az,dF].getD k aG) (aE (.func (.func 91) #[] #[]))):=by rw[eR]; kernel_rfl
theorem xJ:cM ((aA cN).getD 0 ⟨#[]⟩) comms=some (cw (aK 1 false 2 λk=>[az,dF].getD k aG) (aE (.func (.func 91) #[] #[]))):=by rw[eU]; kernel_rfl
theorem yy:cM ((aA cL).getD 0 ⟨#[]⟩) iz=some (cw (aK 1 false 1 λk=>[az].getD k aG) (aE (.func (.func 125) #[] #[]))):=by rw[mc]; kernel_rfl
theorem yz {s:ByteArray} {k:ByteArray} {r:List ByteArray} (h:aA s=k::r) (hk:(iz.all λx=>decide (x.1≠k))=true):cM ((aA s).getD 0 ⟨#[]⟩) iz=none:=by rw[h]; exact fW hk
variable {l:HL} {b:Nat}
theorem tW (hl:eA l [] []/\l.hb=b):L2 Tryz.prog 24 (aR 0 l [] []) (A4 b) (pT cB) (λl':HL=>eA l' [bB] [cB]/\l'.hb=b) (λ_=>.returned (.string okB)) (λl'=>aR 300 l' [bB] [cB]):=by
 obtain⟨hl,rfl⟩:=hl
 have h1:=ql (q:=0) (l:=l) (cs:=[]) (n:=(aA cB).length-1) (g:=jG cB) hl ⟨by decide +kernel,by rw[eT]; decide,by decide +kernel⟩
 rw[wT]at h1
 have h2:=Ae (s:=cB) hl ⟨Nat.zero_le _,Nat.zero_le _,by decide +kernel⟩ ⟨by decide +kernel,uE,by decide +kernel,by rw[eT]; decide⟩ (λ_ _=>by kernel_rfl) h1
 have h3:=jg (l:=l) ⟨by decide +kernel,by rw[eT]; decide⟩ (yz eT (by decide +kernel)) h2
 exact gJ (l:=l) ⟨Int.le_refl _,by decide⟩ h3
theorem ze (hl:eA l [bB] [cB]/\l.hb=b):L2 Tryz.prog 24 (aR 300 l [bB] [cB]) (A4 b) (pT cA) (λl':HL=>eA l' [bA] [cB,cA]/\l'.hb=b) (λ_=>.returned (.string okB)) (λl'=>aR 600 l' [bA] [cB,cA]):=by
 obtain⟨hl,rfl⟩:=hl
 have h1:=uH (q:=300) (l:=l) (x:=bB) (cs:=[cB]) (n:=(aA cA).length-1) (g:=jG cA) hl ⟨by decide +kernel,by decide +kernel,by rw[eR]; decide,by decide,by decide +kernel⟩
 rw[wS]at h1
 have h2:=Ae (s:=cA) hl ⟨by decide,by decide,by decide +kernel⟩ ⟨by decide +kernel,Ad,by decide +kernel,by rw[eR]; decide⟩ (λ_ _=>by kernel_rfl) (C9 h1 λl h=>⟨h.1,h.2.1⟩)
 have h3:=jg (l:=l) ⟨by decide +kernel,by rw[eR]; decide⟩ (yz eR (by decide +kernel)) h2
 exact gJ (l:=l) ⟨Int.le_refl _,by decide⟩ h3
theorem wI (hl:eA l [bA] [cB,cA]/\l.hb=b):L2 Tryz.prog 24 (aR 600 l [bA] [cB,cA]) (A4 b) (pT cL) (λl':HL=>l'=l) (λ_=>.returned (.string ⟨#[49,48]⟩)) (λl'=>aR 600 l' [bA] [cB,cA]):=by
 obtain⟨hl,rfl⟩:=hl
 have h3:=qj (q:=600) (s:=cL) hl ⟨by decide +kernel,by rw[mc]; decide⟩ yy ⟨by decide +kernel,by decide +kernel,by decide⟩
 have h4:=gJ (l:=l) ⟨Int.le_refl _,by decide⟩ h3
 rw[show kA (Ac bA.2.1) 0=⟨#[49,48]⟩ by decide +kernel]at h4
 exact h4
theorem Bh (hl:eA l [bA] [cB,cA]/\l.hb=b):L2 Tryz.prog 24 (aR 600 l [bA] [cB,cA]) (A4 b) (pT cN) (λl':HL=>eA l' [bA] [cB,cA]/\l'.hb=b) (λ_=>.returned (.string ⟨#[101,114,114,111,114,32,53]⟩)) (λl'=>aR 600 l' [bA] [cB,cA]):=by
 obtain⟨hl,rfl⟩:=hl
 have h1:=sr (q:=600) (l:=l) (bs:=[bA]) (cs:=[cB,cA]) (n:=(aA cN).length-1) (g:=jG cN) hl ⟨by decide,by decide +kernel,by rw[eU]; decide⟩
 have h2:=Af (s:=cN) hl ⟨by decide,by decide,by decide +kernel⟩ ⟨by decide +kernel,xJ,by decide +kernel,by rw[eU]; decide⟩ (λ_ _=>by kernel_rfl) h1
 have h3:=jg (l:=l) ⟨by decide +kernel,by rw[eU]; decide⟩ (yz eU (by decide +kernel)) h2
 have h4:=gJ (l:=l) ⟨by decide,by decide⟩ h3
 rw[show kA ⟨#[111,107]⟩ 5=⟨#[101,114,114,111,114,32,53]⟩ by decide +kernel]at h4
 exact h4
end Wx

namespace Wx
set_option maxRecDepth 100000
set_option maxHeartbeats 1000000
open Go Go.RowKit Go.Proofs
set_option linter.unusedVariables false
attribute [local irreducible] OpOk
theorem yI:AL 0 ⟨#[97]⟩=3014:=by decide +kernel
theorem yM {m n:Int} (h:m=n):∀w v,iw m w v->iw n w v:=by subst h; exactλ_ _ h=>h
theorem uG (_:True):J0 Tryz.prog 7 (pB true):=by
 intro M w0 hM hG
 have hG:=fU hG
 refine vr (N:=29) Tryz.func7 rfl rfl rfl hM λa hI=>?_
 refine ai hI 1 [Uc 0 0 _] .z ⟨mv,trivial⟩ (.k .z) λa w hI=>?_
 refine lM hI 2 0 [] [] [] .z (.k .z) trivial .z (.k .z) (⟨_,Dl,⟨_,lR λl hl=>aY [] [] [Uc 0 1 _] (.k .z) (.kk .z) (mv) (.k .z) (.ru .z),rfl⟩⟩) λa w hI=>?_
 obtain⟨l,hl,hI⟩:=hI
 refine lM hI 6 0 [] [] [] (.k .z) (.kk .z) trivial (.k .z) (.kk .z) (⟨_,aY [] [] [Uc 0 5 _] (.k .z) (.kk .z) (mv) (.k .z) (.aU .z),⟨_,wV hG (tW ⟨hl,rfl⟩),⟨_,lR λz hz=>aY [] [] [Uc 0 7 _] (.k .z) (.af .z) (mv) (.k .z) (.bT (.k .z)),⟨_,Dp λz hz=>wV hG (ze hz),⟨_,lR λz hz=>aY [] [] [Uc 0 2 _] (.k .z) (.af (.k .z)) (mv) (.k .z) (.qi (.dk .z)),⟨_,lR λz hz=>aY [] [] [Uc 0 3 _] (.k .z) (.af .z) (mv) (.k .z) (.xb (.k .z)),rfl⟩⟩⟩⟩⟩⟩) λa w hI=>?_
 obtain⟨z,hz,hI⟩:=hI
 refine lM hI 21 0 [] [] [] (.k .z) (.af .z) trivial (.k .z) (.af .z) (⟨_,aY [] [] [Uc 0 9 _] (.k .z) (.af .z) (iB (vS (h:=0) (s:=⟨#[97]⟩)) (hφ:=by decide)) (.k .z) (.xb (.k .z)),⟨_,aY [] [] [Uc 0 10 _] (.k .z) (.af .z) (bZ (m:=3014) (n:=3014) (v:=.bool true) ((hs).imp (yM yI)) hs (λ_=>by kernel_rfl) (pt rfl)) (.k .z) (.bT (.k .z)),⟨_,aY [] [] [Uc 0 11 _] (.k .z) (.af .z) (mv) (.k .z) (.bT (.k .z)),⟨_,tS 2 rfl rfl rfl (aY [] [] [Uc 0 12 _] (.k .z) (.af .z) (mv) (.k .z) (.qi (.k .z))),⟨_,tS 2 rfl rfl rfl (aY [] [] [Uc 0 13 _] (.k .z) (.af .z) (nw (s:=okB) rfl) (.k .z) (.bT (.k .z))),⟨_,aY [] [] [Uc 0 14 _] (.k .z) (.af .z) (AF) (.k .z) (.bJ (.k .z)),⟨_,aY [] [] [Uc 0 15 _] (.k .z) (.aU .z) (mv) (.k .z) (.bz .z),⟨_,tS 6 rfl rfl rfl (aY [] [] [Uc 0 16 _] (.k .z) (.aU .z) (mv) (.k .z) (.qi .z)),⟨_,tS 6 rfl rfl rfl (aY [] [] [Uc 0 17 _] (.k .z) (.aU .z) (nw (s:=okB) rfl) (.k .z) (.bz .z)),⟨_,aY [] [] [Uc 0 18 _] (.k .z) (.aU .z) (AF) (.k .z) (.fK .z),⟨_,aY [] [] [Uc 0 19 _] (.k .z) (.kk .z) (mv) (.k .z) (.lg .z),⟨_,tS 10 rfl rfl rfl (aY [] [] [Uc 0 20 _] (.k .z) (.kk .z) (mv) (.k .z) (.aU .z)),⟨_,tS 10 rfl rfl rfl (Dr (wV hG (wI hz))),⟨_,tS 10 rfl rfl rfl (aY [] [] [Uc 0 22 _] (.k .z) (.af .z) (nw rfl) (.k .z) (.nP (.k .z))),⟨_,aY [] [] [Uc 0 23 _] (.k .z) (.aU .z) (AF) (.k .z) (.fK .z),⟨_,aY [] [] [Uc 0 24 _] (.k .z) (.kk .z) (mv) (.k .z) (.lg .z),⟨_,tS 15 rfl rfl rfl (aY [] [] [Uc 0 25 _] (.k .z) (.kk .z) (mv) (.k .z) (.ru .z)),⟨_,tS 15 rfl rfl rfl (wV hG (Bh hz)),⟨_,lR λy hy=>tS 15 rfl rfl rfl (aY [] [] [Uc 0 27 _] (.k .z) (.aU .z) (nw rfl) (.k .z) (.wZ .z)),⟨_,lR λy hy=>aY [] [] [Uc 0 28 _] (.k .z) (.kk .z) (AF) (.k .z) (.gj .z),⟨_,lR λy hy=>aY [] [] [Uc 0 0 _] (.k .z) (.k .z) (mv) (.k .z) (.dk .z),rfl⟩⟩⟩⟩⟩⟩⟩⟩⟩⟩⟩⟩⟩⟩⟩⟩⟩⟩⟩⟩⟩) λa w hI=>?_
 obtain⟨y,hy,hI⟩:=hI
 refine ay ?_
 exact bP hI rfl cP
end Wx
