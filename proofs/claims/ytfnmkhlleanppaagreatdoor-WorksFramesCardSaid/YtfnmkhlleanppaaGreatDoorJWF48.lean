import Derived.Test.YtfnmkhlleanppaaGreatDoorJWF47
namespace Wx
open Go Go.RowKit Go.Proofs
set_option linter.unusedVariables false
def cB:ByteArray:=⟨#[98,97,116,99,104,32,114,49,32,54,48]⟩
def cA:ByteArray:=⟨#[97,103,101,32,114,49,32,53,48]⟩
def cL:ByteArray:=⟨#[108,105,102,101,32,114,49]⟩
def cN:ByteArray:=⟨#[97,103,101,32,114,50,32,49]⟩
def bB:fW:=(⟨#[114,49]⟩,60,false)
def bA:fW:=(⟨#[114,49]⟩,10,false)
def okB:ByteArray:=⟨#[111,107]⟩
theorem gg:ak cB=[⟨#[98,97,116,99,104]⟩,⟨#[114,49]⟩,⟨#[54,48]⟩]:=by decide +kernel
theorem gb:ak cA=[⟨#[97,103,101]⟩,⟨#[114,49]⟩,⟨#[53,48]⟩]:=by decide +kernel
theorem nK:ak cL=[⟨#[108,105,102,101]⟩,⟨#[114,49]⟩]:=by decide +kernel
theorem gh:ak cN=[⟨#[97,103,101]⟩,⟨#[114,50]⟩,⟨#[49]⟩]:=by decide +kernel
theorem zB:((kY cB 0,fV (kY cB 1),false):fW)=bB:=by decide +kernel
theorem zA:((bB.1,qc (bB.2.1-fV (kY cA 1)) 0,bB.2.2):fW)=bA:=by decide +kernel
theorem Fm {Λ:Type} {P:Program} {f:FuncId} {H0:List Bk} {p0 p1:Pred} {C C':Λ->Prop} {E:Λ->Ending} {H:Λ->List Bk} (h:L2 P f H0 p0 p1 C E H) (hC:∀l,C l->C' l):L2 P f H0 p0 p1 C' E H:=λM B w v0 v1 hM hB hH hG h0 h1=>(h M B w v0 v1 hM hB hH hG h0 h1).mono λe w' ⟨l,B',k1,k⟩=>⟨l,B',hC l k1,k⟩
abbrev C7 (b:Nat):Pred:=aL (.pointer (some ⟨b,0,none⟩))
theorem wW:di ((ak cB).getD 0 ⟨#[]⟩) comms=some (cO (az 1 false 2 λk=>[aD,eB].getD k ay) (aL (.func (.func 90) #[] #[]))):=by rw[gg]; kernel_rfl
theorem Ct:di ((ak cA).getD 0 ⟨#[]⟩) comms=some (cO (az 1 false 2 λk=>[aD,eB].getD k ay) (aL (.func (.func 91) #[] #[]))):=by rw[gb]; kernel_rfl
theorem Ah:di ((ak cN).getD 0 ⟨#[]⟩) comms=some (cO (az 1 false 2 λk=>[aD,eB].getD k ay) (aL (.func (.func 91) #[] #[]))):=by rw[gh]; kernel_rfl
theorem AW:di ((ak cL).getD 0 ⟨#[]⟩) jk=some (cO (az 1 false 1 λk=>[aD].getD k ay) (aL (.func (.func 125) #[] #[]))):=by rw[nK]; kernel_rfl
theorem AX {s:ByteArray} {k:ByteArray} {r:List ByteArray} (h:ak s=k::r) (hk:(jk.all λx=>decide (x.1≠k))=true):di ((ak s).getD 0 ⟨#[]⟩) jk=none:=by rw[h]; exact gU hk
variable {l:HL} {b:Nat}
theorem vW (hl:fC l [] []/\l.hb=b):L2 Tryz.prog 24 (aY 0 l [] []) (C7 b) (pT cB) (λl':HL=>fC l' [bB] [cB]/\l'.hb=b) (λ_=>.returned (.string okB)) (λl'=>aY 300 l' [bB] [cB]):=by
 obtain⟨hl,rfl⟩:=hl
 have h1:=sx (q:=0) (l:=l) (cs:=[]) (n:=(ak cB).length-1) (g:=kY cB) hl ⟨by decide +kernel,by rw[gg]; decide,by decide +kernel⟩
 rw[zB]at h1
 have h2:=Cu (s:=cB) hl ⟨Nat.zero_le _,Nat.zero_le _,by decide +kernel⟩ ⟨by decide +kernel,wW,by decide +kernel,by rw[gg]; decide⟩ (λ_ _=>by kernel_rfl) h1
 have h3:=kf (l:=l) ⟨by decide +kernel,by rw[gg]; decide⟩ (AX gg (by decide +kernel)) h2
 exact iJ (l:=l) ⟨Int.le_refl _,by decide⟩ h3
theorem BF (hl:fC l [bB] [cB]/\l.hb=b):L2 Tryz.prog 24 (aY 300 l [bB] [cB]) (C7 b) (pT cA) (λl':HL=>fC l' [bA] [cB,cA]/\l'.hb=b) (λ_=>.returned (.string okB)) (λl'=>aY 600 l' [bA] [cB,cA]):=by
 obtain⟨hl,rfl⟩:=hl
 have h1:=wZ (q:=300) (l:=l) (x:=bB) (cs:=[cB]) (n:=(ak cA).length-1) (g:=kY cA) hl ⟨by decide +kernel,by decide +kernel,by rw[gb]; decide,by decide,by decide +kernel⟩
 rw[zA]at h1
 have h2:=Cu (s:=cA) hl ⟨by decide,by decide,by decide +kernel⟩ ⟨by decide +kernel,Ct,by decide +kernel,by rw[gb]; decide⟩ (λ_ _=>by kernel_rfl) (Fm h1 λl h=>⟨h.1,h.2.1⟩)
 have h3:=kf (l:=l) ⟨by decide +kernel,by rw[gb]; decide⟩ (AX gb (by decide +kernel)) h2
 exact iJ (l:=l) ⟨Int.le_refl _,by decide⟩ h3
theorem zm (hl:fC l [bA] [cB,cA]/\l.hb=b):L2 Tryz.prog 24 (aY 600 l [bA] [cB,cA]) (C7 b) (pT cL) (λl':HL=>l'=l) (λ_=>.returned (.string ⟨#[49,48]⟩)) (λl'=>aY 600 l' [bA] [cB,cA]):=by
 obtain⟨hl,rfl⟩:=hl
 have h3:=sw (q:=600) (s:=cL) hl ⟨by decide +kernel,by rw[nK]; decide⟩ AW ⟨by decide +kernel,by decide +kernel,by decide⟩
 have h4:=iJ (l:=l) ⟨Int.le_refl _,by decide⟩ h3
 rw[show me (Cs bA.2.1) 0=⟨#[49,48]⟩ by decide +kernel]at h4
 exact h4
theorem Dl (hl:fC l [bA] [cB,cA]/\l.hb=b):L2 Tryz.prog 24 (aY 600 l [bA] [cB,cA]) (C7 b) (pT cN) (λl':HL=>fC l' [bA] [cB,cA]/\l'.hb=b) (λ_=>.returned (.string ⟨#[101,114,114,111,114,32,53]⟩)) (λl'=>aY 600 l' [bA] [cB,cA]):=by
 obtain⟨hl,rfl⟩:=hl
 have h1:=uB (q:=600) (l:=l) (bs:=[bA]) (cs:=[cB,cA]) (n:=(ak cN).length-1) (g:=kY cN) hl ⟨by decide,by decide +kernel,by rw[gh]; decide⟩
 have h2:=Cv (s:=cN) hl ⟨by decide,by decide,by decide +kernel⟩ ⟨by decide +kernel,Ah,by decide +kernel,by rw[gh]; decide⟩ (λ_ _=>by kernel_rfl) h1
 have h3:=kf (l:=l) ⟨by decide +kernel,by rw[gh]; decide⟩ (AX gh (by decide +kernel)) h2
 have h4:=iJ (l:=l) ⟨by decide,by decide⟩ h3
 rw[show me ⟨#[111,107]⟩ 5=⟨#[101,114,114,111,114,32,53]⟩ by decide +kernel]at h4
 exact h4
end Wx

namespace Wx
set_option maxRecDepth 100000
open Go Go.RowKit Go.Proofs
set_option linter.unusedVariables false
section
variable {P:Program} {ops:Array Oper} {ms:List Nat} {c:bO} {V:List Vr} {A:List Al} {G:List aK} {i d:Nat} {x y z:Operand} {ty t u:TypeId} {pos:String} {ax:Array Edge} {a:Act} {w:World}{K:Act->World->Prop}
theorem vR {oj:Oper} {s:Nat} {dst:Option Nat} {op:Op} (j':Nat) (hj:ops[j']?=some oj) (fj:oj.dst=some s) (hk:eE s G=some (pB true)) (h:∀a w,Inv c V [] G none_ a w->aU P ops ⟨dst,op,ty,pos,ax,none⟩ a w K):∀a w,Inv c V [] G none_ a w->aU P ops ⟨dst,op,ty,pos,ax,some (j',true)⟩ a w K:=λa w hI=>by
 have h1:=h a w hI
 have hv:sl a s=.bool true:=ek hI hk
 have hy:yielded ops a.tmps j'=some true:=by
  unfold yielded
  rw[hj]
  show(match (oj.dst.bind λx=>a.tmps[x]?)with|some (.bool b)=>some b|_=>none)=_
  rw[fj]
  show(match a.tmps[s]? with|some (.bool b)=>some b|_=>none)=_
  unfold sl at hv
  rw[Array.getD_eq_getD_getElem?]at hv
  cases hs:a.tmps[s]? with
  |none=>rw[hs]at hv; cases hv
  |some v=>
   rw[hs]at hv
   have hv:v=.bool true:=hv
   rw[hv]
 unfold aU at h1 ⊢
 rw[if_pos (by simp[Region.wanted])]at h1
 rw[if_pos (by simp[Region.wanted,hy])]
 exact h1
variable {α:Type} {o:Oper}
theorem FD {β:Type} {C:α->Prop} {D:β->Prop} {K:α->Act->World->Prop} {K1:β->Act->World->Prop} (h:∀x,C x->∀a w,K x a w->aU P ops o a w (λa w=>∃y,D y/\K1 y a w)):∀a w,(∃x,C x/\K x a w)->aU P ops o a w (λa w=>∃y,D y/\K1 y a w):=λa w ⟨x,hc,hx⟩=>h x hc a w hx
theorem FF {l:α} {K1:α->Act->World->Prop} (h:∀a w,K a w->aU P ops o a w (λa w=>∃y,y=l/\K1 y a w)):∀a w,K a w->aU P ops o a w (K1 l):=λa w hk=>(h a w hk).mono λa w ⟨y,e,hy⟩=>e▸hy
theorem xG {s r:ByteArray} (e:s=r) (h1:Has ms G i x (pT s):=by exact hs) (h2:Has ms G i y (pT r):=by exact hs) (ht:isStr P t=true:=by kernel_rfl) (hp:Post G i (pB true):=by exact pt rfl):OpOk P ops ms c V A G i ⟨some d,.binOp .eql t x y u,ty,pos,ax,none⟩:=by
 subst e
 exact uP h1 h2 (Post.down hp (eL (by simp)))
theorem Di {q:Pred} (h:Has ms G i x (pB true):=by exact hs) (h2:Has ms G i y q:=by exact hs) (hp:Post G i q:=by exact pt rfl):OpOk P ops ms c V A G i ⟨some d,.pick x y z,ty,pos,ax,none⟩:=ni h (λ_=>h2) (λh=>by cases h) hp
end
theorem FA {c:bO} {V:List Vr} {G:List aK} {ops:Array Oper} {d:Nat} {ty:TypeId} {pos:String} {ax:Array Edge} {ts:Array TypeId} (hf:aC Tryz.prog 29:=by exactλ_ _=>by kernel_rfl) (hd':decide (d<c.N)=true:=by kernel_rfl) (hV:(V.all λy=>(y.slot != d&&y.id != d)&&(y.born.isNone&&y.dead.isNone))=true:=by kernel_rfl) (hG:(G.all λe=>e.slot != d)=true:=by kernel_rfl):∀a w,Inv c V [] G none_ a w ->
  aU Tryz.prog ops ⟨some d,.call ⟨.value (.func 29),#[],ts⟩,ty,pos,ax,none⟩ a w (λa w=>∃l:HL,fC l [] []/\Inv c (aQ d d (aY 0 l [] [])::V) [] (⟨none,none,d,aL (.pointer (some ⟨l.hb,0,none⟩))⟩::G) none_ a w):=λa w h=>
 qy (C:=λl:HL=>fC l [] []) (hd:=λl=>.pointer (some ⟨l.hb,0,none⟩)) (H:=λl=>aY 0 l [] []) hf h (λβ hI=>by
  rw[show(#[]:Array Operand).map a.eval=#[] by simp]
  exact Cw w) hd' hV hG
end Wx

namespace Wx
set_option maxRecDepth 100000
set_option maxHeartbeats 1000000
open Go Go.RowKit Go.Proofs
set_option linter.unusedVariables false
attribute [local irreducible] OpOk
theorem Ba:lD 0 ⟨#[97]⟩=3014:=by decide +kernel
theorem Bf {m n:Int} (h:m=n):∀w v,dn m w v->dn n w v:=by subst h; exactλ_ _ h=>h
theorem wY (_:True):J0 Tryz.prog 7 (pB true):=by
 intro M w0 hM hG
 have hG:=eP hG
 refine xZ (N:=29) Tryz.func7 rfl rfl rfl hM λa hI=>?_
 refine au hI 1 [Uc 0 0 _] .z ⟨mv,trivial⟩ (.k .z) λa w hI=>?_
 refine jn hI 2 0 [] [] [] .z (.k .z) trivial .z (.k .z) (⟨_,FA,⟨_,nA λl hl=>bj [] [] [Uc 0 1 _] (.k .z) (.kk .z) (mv) (.k .z) (.td .z),rfl⟩⟩) λa w hI=>?_
 obtain⟨l,hl,hI⟩:=hI
 refine jn hI 6 0 [] [] [] (.k .z) (.kk .z) trivial (.k .z) (.kk .z) (⟨_,bj [] [] [Uc 0 5 _] (.k .z) (.kk .z) (mv) (.k .z) (.aP .z),⟨_,zD hG (vW ⟨hl,rfl⟩),⟨_,nA λz hz=>bj [] [] [Uc 0 7 _] (.k .z) (.ae .z) (mv) (.k .z) (.bq (.k .z)),⟨_,FD λz hz=>zD hG (BF hz),⟨_,nA λz hz=>bj [] [] [Uc 0 2 _] (.k .z) (.ae (.k .z)) (mv) (.k .z) (.oo (.dk .z)),⟨_,nA λz hz=>bj [] [] [Uc 0 3 _] (.k .z) (.ae .z) (mv) (.k .z) (.rX (.k .z)),rfl⟩⟩⟩⟩⟩⟩) λa w hI=>?_
 obtain⟨z,hz,hI⟩:=hI
 refine jn hI 21 0 [] [] [] (.k .z) (.ae .z) trivial (.k .z) (.ae .z) (⟨_,bj [] [] [Uc 0 9 _] (.k .z) (.ae .z) (mH (qX (h:=0) (s:=⟨#[97]⟩)) (hφ:=by decide)) (.k .z) (.rX (.k .z)),⟨_,bj [] [] [Uc 0 10 _] (.k .z) (.ae .z) (cj (m:=3014) (n:=3014) (v:=.bool true) ((hs).imp (Bf Ba)) hs (λ_=>by kernel_rfl) (pt rfl)) (.k .z) (.bq (.k .z)),⟨_,bj [] [] [Uc 0 11 _] (.k .z) (.ae .z) (mv) (.k .z) (.bq (.k .z)),⟨_,vR 2 rfl rfl rfl (bj [] [] [Uc 0 12 _] (.k .z) (.ae .z) (mv) (.k .z) (.oo (.k .z))),⟨_,vR 2 rfl rfl rfl (bj [] [] [Uc 0 13 _] (.k .z) (.ae .z) (xG (s:=okB) rfl) (.k .z) (.bq (.k .z))),⟨_,bj [] [] [Uc 0 14 _] (.k .z) (.ae .z) (Di) (.k .z) (.cg (.k .z)),⟨_,bj [] [] [Uc 0 15 _] (.k .z) (.aP .z) (mv) (.k .z) (.bQ .z),⟨_,vR 6 rfl rfl rfl (bj [] [] [Uc 0 16 _] (.k .z) (.aP .z) (mv) (.k .z) (.oo .z)),⟨_,vR 6 rfl rfl rfl (bj [] [] [Uc 0 17 _] (.k .z) (.aP .z) (xG (s:=okB) rfl) (.k .z) (.bQ .z)),⟨_,bj [] [] [Uc 0 18 _] (.k .z) (.aP .z) (Di) (.k .z) (.gT .z),⟨_,bj [] [] [Uc 0 19 _] (.k .z) (.kk .z) (mv) (.k .z) (.kU .z),⟨_,vR 10 rfl rfl rfl (bj [] [] [Uc 0 20 _] (.k .z) (.kk .z) (mv) (.k .z) (.aP .z)),⟨_,vR 10 rfl rfl rfl (FF (zD hG (zm hz))),⟨_,vR 10 rfl rfl rfl (bj [] [] [Uc 0 22 _] (.k .z) (.ae .z) (xG rfl) (.k .z) (.mJ (.k .z))),⟨_,bj [] [] [Uc 0 23 _] (.k .z) (.aP .z) (Di) (.k .z) (.gT .z),⟨_,bj [] [] [Uc 0 24 _] (.k .z) (.kk .z) (mv) (.k .z) (.kU .z),⟨_,vR 15 rfl rfl rfl (bj [] [] [Uc 0 25 _] (.k .z) (.kk .z) (mv) (.k .z) (.td .z)),⟨_,vR 15 rfl rfl rfl (zD hG (Dl hz)),⟨_,nA λy hy=>vR 15 rfl rfl rfl (bj [] [] [Uc 0 27 _] (.k .z) (.aP .z) (xG rfl) (.k .z) (.zG .z)),⟨_,nA λy hy=>bj [] [] [Uc 0 28 _] (.k .z) (.kk .z) (Di) (.k .z) (.fh .z),⟨_,nA λy hy=>bj [] [] [Uc 0 0 _] (.k .z) (.k .z) (mv) (.k .z) (.dk .z),rfl⟩⟩⟩⟩⟩⟩⟩⟩⟩⟩⟩⟩⟩⟩⟩⟩⟩⟩⟩⟩⟩) λa w hI=>?_
 obtain⟨y,hy,hI⟩:=hI
 refine aA ?_
 exact cu hI rfl cC
end Wx
