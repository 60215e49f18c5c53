import Derived.Test.YtfnmkhlleanppaaGreatDoorJWB47
namespace Wx
open Go Go.RowKit Go.Proofs
set_option linter.unusedVariables false
def cB:ByteArray:=⟨#[98,97,116,99,104,32,114,49,32,54,48]⟩
def cA:ByteArray:=⟨#[97,103,101,32,114,49,32,53,48]⟩
def cL:ByteArray:=⟨#[108,105,102,101,32,114,49]⟩
def cN:ByteArray:=⟨#[97,103,101,32,114,50,32,49]⟩
def bB:fZ:=(⟨#[114,49]⟩,60,false)
def bA:fZ:=(⟨#[114,49]⟩,10,false)
def okB:ByteArray:=⟨#[111,107]⟩
theorem gm:aD cB=[⟨#[98,97,116,99,104]⟩,⟨#[114,49]⟩,⟨#[54,48]⟩]:=by decide +kernel
theorem gl:aD cA=[⟨#[97,103,101]⟩,⟨#[114,49]⟩,⟨#[53,48]⟩]:=by decide +kernel
theorem nW:aD cL=[⟨#[108,105,102,101]⟩,⟨#[114,49]⟩]:=by decide +kernel
theorem gp:aD cN=[⟨#[97,103,101]⟩,⟨#[114,50]⟩,⟨#[49]⟩]:=by decide +kernel
theorem zD:((lp cB 0,fX (lp cB 1),false):fZ)=bB:=by decide +kernel
theorem zC:((bB.1,ql (bB.2.1-fX (lp cA 1)) 0,bB.2.2):fZ)=bA:=by decide +kernel
theorem Fp {Λ:Type} {P:Program} {f:FuncId} {H0:List Bk} {p0 p1:Pred} {C C':Λ->Prop} {E:Λ->Ending} {H:Λ->List Bk} (h:L2 P f H0 p0 p1 C E H) (hC:∀l,C l->C' l):L2 P f H0 p0 p1 C' E H:=λM B w v0 v1 hM hB hH hG h0 h1=>(h M B w v0 v1 hM hB hH hG h0 h1).mono λe w' ⟨l,B',k1,k⟩=>⟨l,B',hC l k1,k⟩
abbrev Dc (b:Nat):Pred:=aJ (.pointer (some ⟨b,0,none⟩))
theorem xj:dy ((aD cB).getD 0 ⟨#[]⟩) comms=some (cP (ax 1 false 2 λk=>[aC,eK].getD k az) (aJ (.func (.func 90) #[] #[]))):=by rw[gm]; kernel_rfl
theorem Cz:dy ((aD cA).getD 0 ⟨#[]⟩) comms=some (cP (ax 1 false 2 λk=>[aC,eK].getD k az) (aJ (.func (.func 91) #[] #[]))):=by rw[gl]; kernel_rfl
theorem Ak:dy ((aD cN).getD 0 ⟨#[]⟩) comms=some (cP (ax 1 false 2 λk=>[aC,eK].getD k az) (aJ (.func (.func 91) #[] #[]))):=by rw[gp]; kernel_rfl
theorem AZ:dy ((aD cL).getD 0 ⟨#[]⟩) jq=some (cP (ax 1 false 1 λk=>[aC].getD k az) (aJ (.func (.func 125) #[] #[]))):=by rw[nW]; kernel_rfl
theorem A3 {s:ByteArray} {k:ByteArray} {r:List ByteArray} (h:aD s=k::r) (hk:(jq.all λx=>decide (x.1≠k))=true):dy ((aD s).getD 0 ⟨#[]⟩) jq=none:=by rw[h]; exact gX hk
variable {l:HL} {b:Nat}
theorem wh (hl:fG l [] []/\l.hb=b):L2 Tryz.prog 24 (aV 0 l [] []) (Dc b) (pT cB) (λl':HL=>fG l' [bB] [cB]/\l'.hb=b) (λ_=>.returned (.string okB)) (λl'=>aV 300 l' [bB] [cB]):=by
 obtain⟨hl,rfl⟩:=hl
 have h1:=sL (q:=0) (l:=l) (cs:=[]) (n:=(aD cB).length-1) (g:=lp cB) hl ⟨by decide +kernel,by rw[gm]; decide,by decide +kernel⟩
 rw[zD]at h1
 have h2:=CA (s:=cB) hl ⟨Nat.zero_le _,Nat.zero_le _,by decide +kernel⟩ ⟨by decide +kernel,xj,by decide +kernel,by rw[gm]; decide⟩ (λ_ _=>by kernel_rfl) h1
 have h3:=kq (l:=l) ⟨by decide +kernel,by rw[gm]; decide⟩ (A3 gm (by decide +kernel)) h2
 exact iK (l:=l) ⟨Int.le_refl _,by decide⟩ h3
theorem BG (hl:fG l [bB] [cB]/\l.hb=b):L2 Tryz.prog 24 (aV 300 l [bB] [cB]) (Dc b) (pT cA) (λl':HL=>fG l' [bA] [cB,cA]/\l'.hb=b) (λ_=>.returned (.string okB)) (λl'=>aV 600 l' [bA] [cB,cA]):=by
 obtain⟨hl,rfl⟩:=hl
 have h1:=xm (q:=300) (l:=l) (x:=bB) (cs:=[cB]) (n:=(aD cA).length-1) (g:=lp cA) hl ⟨by decide +kernel,by decide +kernel,by rw[gl]; decide,by decide,by decide +kernel⟩
 rw[zC]at h1
 have h2:=CA (s:=cA) hl ⟨by decide,by decide,by decide +kernel⟩ ⟨by decide +kernel,Cz,by decide +kernel,by rw[gl]; decide⟩ (λ_ _=>by kernel_rfl) (Fp h1 λl h=>⟨h.1,h.2.1⟩)
 have h3:=kq (l:=l) ⟨by decide +kernel,by rw[gl]; decide⟩ (A3 gl (by decide +kernel)) h2
 exact iK (l:=l) ⟨Int.le_refl _,by decide⟩ h3
theorem zn (hl:fG l [bA] [cB,cA]/\l.hb=b):L2 Tryz.prog 24 (aV 600 l [bA] [cB,cA]) (Dc b) (pT cL) (λl':HL=>l'=l) (λ_=>.returned (.string ⟨#[49,48]⟩)) (λl'=>aV 600 l' [bA] [cB,cA]):=by
 obtain⟨hl,rfl⟩:=hl
 have h3:=sK (q:=600) (s:=cL) hl ⟨by decide +kernel,by rw[nW]; decide⟩ AZ ⟨by decide +kernel,by decide +kernel,by decide⟩
 have h4:=iK (l:=l) ⟨Int.le_refl _,by decide⟩ h3
 rw[show mq (Cy bA.2.1) 0=⟨#[49,48]⟩ by decide +kernel]at h4
 exact h4
theorem Dq (hl:fG l [bA] [cB,cA]/\l.hb=b):L2 Tryz.prog 24 (aV 600 l [bA] [cB,cA]) (Dc b) (pT cN) (λl':HL=>fG l' [bA] [cB,cA]/\l'.hb=b) (λ_=>.returned (.string ⟨#[101,114,114,111,114,32,53]⟩)) (λl'=>aV 600 l' [bA] [cB,cA]):=by
 obtain⟨hl,rfl⟩:=hl
 have h1:=uM (q:=600) (l:=l) (bs:=[bA]) (cs:=[cB,cA]) (n:=(aD cN).length-1) (g:=lp cN) hl ⟨by decide,by decide +kernel,by rw[gp]; decide⟩
 have h2:=CB (s:=cN) hl ⟨by decide,by decide,by decide +kernel⟩ ⟨by decide +kernel,Ak,by decide +kernel,by rw[gp]; decide⟩ (λ_ _=>by kernel_rfl) h1
 have h3:=kq (l:=l) ⟨by decide +kernel,by rw[gp]; decide⟩ (A3 gp (by decide +kernel)) h2
 have h4:=iK (l:=l) ⟨by decide,by decide⟩ h3
 rw[show mq ⟨#[111,107]⟩ 5=⟨#[101,114,114,111,114,32,53]⟩ by decide +kernel]at h4
 exact h4
end Wx

namespace Wx
set_option maxRecDepth 100000
open Go Go.RowKit Go.Proofs
set_option linter.unusedVariables false
section
variable {P:Program} {ops:Array Oper} {ms:List Nat} {c:bJ} {V:List Vr} {A:List Al} {G:List aI} {i d:Nat} {x y z:Operand} {ty t u:TypeId} {pos:String} {au:Array Edge} {a:Act} {w:World}{K:Act->World->Prop}
theorem vX {oj:Oper} {s:Nat} {dst:Option Nat} {op:Op} (j':Nat) (hj:ops[j']?=some oj) (fo:oj.dst=some s) (hk:eO s G=some (pB true)) (h:∀a w,Inv c V [] G none_ a w->aU P ops ⟨dst,op,ty,pos,au,none⟩ a w K):∀a w,Inv c V [] G none_ a w->aU P ops ⟨dst,op,ty,pos,au,some (j',true)⟩ a w K:=λa w hI=>by
 have h1:=h a w hI
 have hv:sl a s=.bool true:=eH hI hk
 have hy:yielded ops a.tmps j'=some true:=by
  unfold yielded
  rw[hj]
  show(match (oj.dst.bind λx=>a.tmps[x]?)with|some (.bool b)=>some b|_=>none)=_
  rw[fo]
  show(match a.tmps[s]? with|some (.bool b)=>some b|_=>none)=_
  unfold sl at hv
  rw[Array.getD_eq_getD_getElem?]at hv
  cases hs:a.tmps[s]? with
  |none=>rw[hs]at hv; cases hv
  |some v=>
   rw[hs]at hv
   have hv:v=.bool true:=hv
   rw[hv]
 unfold aU at h1 ⊢
 rw[if_pos (by simp[Region.wanted])]at h1
 rw[if_pos (by simp[Region.wanted,hy])]
 exact h1
variable {α:Type} {o:Oper}
theorem FJ {β:Type} {C:α->Prop} {D:β->Prop} {K:α->Act->World->Prop} {K1:β->Act->World->Prop} (h:∀x,C x->∀a w,K x a w->aU P ops o a w (λa w=>∃y,D y/\K1 y a w)):∀a w,(∃x,C x/\K x a w)->aU P ops o a w (λa w=>∃y,D y/\K1 y a w):=λa w ⟨x,hc,hx⟩=>h x hc a w hx
theorem FL {l:α} {K1:α->Act->World->Prop} (h:∀a w,K a w->aU P ops o a w (λa w=>∃y,y=l/\K1 y a w)):∀a w,K a w->aU P ops o a w (K1 l):=λa w hk=>(h a w hk).mono λa w ⟨y,e,hy⟩=>e▸hy
theorem xQ {s r:ByteArray} (e:s=r) (h1:Has ms G i x (pT s):=by exact hs) (h2:Has ms G i y (pT r):=by exact hs) (ht:isStr P t=true:=by kernel_rfl) (hp:Post G i (pB true):=by exact pt rfl):OpOk P ops ms c V A G i ⟨some d,.binOp .eql t x y u,ty,pos,au,none⟩:=by
 subst e
 exact vc h1 h2 (Post.down hp (ee (by simp)))
theorem Dm {q:Pred} (h:Has ms G i x (pB true):=by exact hs) (h2:Has ms G i y q:=by exact hs) (hp:Post G i q:=by exact pt rfl):OpOk P ops ms c V A G i ⟨some d,.pick x y z,ty,pos,au,none⟩:=nA h (λ_=>h2) (λh=>by cases h) hp
end
theorem FF {c:bJ} {V:List Vr} {G:List aI} {ops:Array Oper} {d:Nat} {ty:TypeId} {pos:String} {au:Array Edge} {ts:Array TypeId} (hf:aA Tryz.prog 29:=by exactλ_ _=>by kernel_rfl) (hd':decide (d<c.N)=true:=by kernel_rfl) (hV:(V.all λy=>(y.slot != d&&y.id != d)&&(y.born.isNone&&y.dead.isNone))=true:=by kernel_rfl) (hG:(G.all λe=>e.slot != d)=true:=by kernel_rfl):∀a w,Inv c V [] G none_ a w ->
  aU Tryz.prog ops ⟨some d,.call ⟨.value (.func 29),#[],ts⟩,ty,pos,au,none⟩ a w (λa w=>∃l:HL,fG l [] []/\Inv c (aP d d (aV 0 l [] [])::V) [] (⟨none,none,d,aJ (.pointer (some ⟨l.hb,0,none⟩))⟩::G) none_ a w):=λa w h=>
 qE (C:=λl:HL=>fG l [] []) (hd:=λl=>.pointer (some ⟨l.hb,0,none⟩)) (H:=λl=>aV 0 l [] []) hf h (λβ hI=>by
  rw[show(#[]:Array Operand).map a.eval=#[] by simp]
  exact CC w) hd' hV hG
end Wx

namespace Wx
set_option maxRecDepth 100000
set_option maxHeartbeats 1000000
open Go Go.RowKit Go.Proofs
set_option linter.unusedVariables false
attribute [local irreducible] OpOk
theorem Bc:lK 0 ⟨#[97]⟩=3014:=by decide +kernel
theorem Bh {m n:Int} (h:m=n):∀w v,gD m w v->gD n w v:=by subst h; exactλ_ _ h=>h
theorem xk (_:True):J0 Tryz.prog 7 (pB true):=by
 intro M w0 hM hG
 have hG:=eY hG
 refine ye (N:=29) Tryz.func7 rfl rfl rfl hM λa hI=>?_
 refine aq hI 1 [Uc 0 0 _] .z ⟨mv,trivial⟩ (.k .z) λa w hI=>?_
 refine lM hI 2 0 [] [] [] .z (.k .z) trivial .z (.k .z) (⟨_,FF,⟨_,nI λl hl=>bh [] [] [Uc 0 1 _] (.k .z) (.kk .z) (mv) (.k .z) (.tC .z),rfl⟩⟩) λa w hI=>?_
 obtain⟨l,hl,hI⟩:=hI
 refine lM hI 6 0 [] [] [] (.k .z) (.kk .z) trivial (.k .z) (.kk .z) (⟨_,bh [] [] [Uc 0 5 _] (.k .z) (.kk .z) (mv) (.k .z) (.aR .z),⟨_,zF hG (wh ⟨hl,rfl⟩),⟨_,nI λz hz=>bh [] [] [Uc 0 7 _] (.k .z) (.ae .z) (mv) (.k .z) (.bC (.k .z)),⟨_,FJ λz hz=>zF hG (BG hz),⟨_,nI λz hz=>bh [] [] [Uc 0 2 _] (.k .z) (.ae (.k .z)) (mv) (.k .z) (.oB (.dk .z)),⟨_,nI λz hz=>bh [] [] [Uc 0 3 _] (.k .z) (.ae .z) (mv) (.k .z) (.tV (.k .z)),rfl⟩⟩⟩⟩⟩⟩) λa w hI=>?_
 obtain⟨z,hz,hI⟩:=hI
 refine lM hI 21 0 [] [] [] (.k .z) (.ae .z) trivial (.k .z) (.ae .z) (⟨_,bh [] [] [Uc 0 9 _] (.k .z) (.ae .z) (mN (oF (h:=0) (s:=⟨#[97]⟩)) (hφ:=by decide)) (.k .z) (.tV (.k .z)),⟨_,bh [] [] [Uc 0 10 _] (.k .z) (.ae .z) (cm (m:=3014) (n:=3014) (v:=.bool true) ((hs).imp (Bh Bc)) hs (λ_=>by kernel_rfl) (pt rfl)) (.k .z) (.bC (.k .z)),⟨_,bh [] [] [Uc 0 11 _] (.k .z) (.ae .z) (mv) (.k .z) (.bC (.k .z)),⟨_,vX 2 rfl rfl rfl (bh [] [] [Uc 0 12 _] (.k .z) (.ae .z) (mv) (.k .z) (.oB (.k .z))),⟨_,vX 2 rfl rfl rfl (bh [] [] [Uc 0 13 _] (.k .z) (.ae .z) (xQ (s:=okB) rfl) (.k .z) (.bC (.k .z))),⟨_,bh [] [] [Uc 0 14 _] (.k .z) (.ae .z) (Dm) (.k .z) (.cj (.k .z)),⟨_,bh [] [] [Uc 0 15 _] (.k .z) (.aR .z) (mv) (.k .z) (.bM .z),⟨_,vX 6 rfl rfl rfl (bh [] [] [Uc 0 16 _] (.k .z) (.aR .z) (mv) (.k .z) (.oB .z)),⟨_,vX 6 rfl rfl rfl (bh [] [] [Uc 0 17 _] (.k .z) (.aR .z) (xQ (s:=okB) rfl) (.k .z) (.bM .z)),⟨_,bh [] [] [Uc 0 18 _] (.k .z) (.aR .z) (Dm) (.k .z) (.jK .z),⟨_,bh [] [] [Uc 0 19 _] (.k .z) (.kk .z) (mv) (.k .z) (.lf .z),⟨_,vX 10 rfl rfl rfl (bh [] [] [Uc 0 20 _] (.k .z) (.kk .z) (mv) (.k .z) (.aR .z)),⟨_,vX 10 rfl rfl rfl (FL (zF hG (zn hz))),⟨_,vX 10 rfl rfl rfl (bh [] [] [Uc 0 22 _] (.k .z) (.ae .z) (xQ rfl) (.k .z) (.mQ (.k .z))),⟨_,bh [] [] [Uc 0 23 _] (.k .z) (.aR .z) (Dm) (.k .z) (.jK .z),⟨_,bh [] [] [Uc 0 24 _] (.k .z) (.kk .z) (mv) (.k .z) (.lf .z),⟨_,vX 15 rfl rfl rfl (bh [] [] [Uc 0 25 _] (.k .z) (.kk .z) (mv) (.k .z) (.tC .z)),⟨_,vX 15 rfl rfl rfl (zF hG (Dq hz)),⟨_,nI λy hy=>vX 15 rfl rfl rfl (bh [] [] [Uc 0 27 _] (.k .z) (.aR .z) (xQ rfl) (.k .z) (.zI .z)),⟨_,nI λy hy=>bh [] [] [Uc 0 28 _] (.k .z) (.kk .z) (Dm) (.k .z) (.fJ .z),⟨_,nI λy hy=>bh [] [] [Uc 0 0 _] (.k .z) (.k .z) (mv) (.k .z) (.dk .z),rfl⟩⟩⟩⟩⟩⟩⟩⟩⟩⟩⟩⟩⟩⟩⟩⟩⟩⟩⟩⟩⟩) λa w hI=>?_
 obtain⟨y,hy,hI⟩:=hI
 refine ay ?_
 exact cn hI rfl cU
end Wx
