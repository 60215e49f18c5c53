import Derived.Lib.ItoaNum
import Derived.Test.YtfnmkhlleanppaaGreatDoorJWN35
namespace Wx
set_option maxRecDepth 100000
set_option maxHeartbeats 1000000
open Go Go.RowKit Go.Proofs
set_option linter.unusedVariables false
attribute [local irreducible] OpOk
def Ac (n:Int):ByteArray:=⟨(Lib.decDigits n.toNat).toArray⟩
variable {n:Int}
theorem rX (h:n<100):(Ac n).size<=2:=by
 show(Lib.decDigits n.toNat).toArray.size<=2
 rw[List.size_toArray]
 by_cases h1:n.toNat<10
 ·rw[Lib.decDigits_one h1]; simp
 ·rw[Lib.decDigits_two h1 (by omega)]; simp
theorem rZ (h:0<=n/\n<100):K1 Tryz.prog 51 (pI n) (pT (Ac n)):=λM w v0 hM h0=>by
 have e:v0=.int .i64 n:=h0.out
 rw[e,show n=((n.toNat:Nat):Int) by omega]
 refine(Tryz.strconv_Itoa_small n.toNat (by omega) w).mono ?_
 rintro en w' ⟨rfl,rfl⟩
 exact⟨_,rfl,λ_ _=>rfl,Below.refl _ _⟩
section
variable {P:Program} {ops:Array Oper} {ms:List Nat} {c:bD} {V:List Vr} {A:List Al} {G:List aD} {i d:Nat} {x y:Operand} {ty t u:TypeId} {pos:String} {aj:Array Edge}
theorem Bo {sz:Nat} {ag:Bool} {q:Pred} (h:Has ms G i x (cH sz ag q):=by exact hs) (h2:Has ms G i y (aE (.pointer none)):=by exact hs) (hr:∀b o w,(do eqGuard .eql t x y (.pointer (some ⟨b,o,none⟩)) (.pointer none); Go.binOp .eql t (.pointer (some ⟨b,o,none⟩)) (.pointer none):Sem Value).run P w=.ok (.bool false) w:=by exactλ_ _ _=>by kernel_rfl) (hp:Post G i (pB false):=by exact pt rfl):OpOk P ops ms c V A G i ⟨some d,.binOp .eql t x y u,ty,pos,aj,none⟩:=
 bu rfl rfl rfl (.inl rfl) hp λL β a w hI hd=>by
  obtain⟨b,o,cs,e,_⟩:=(h.spec hI hd).out
  have e2:a.eval y=.pointer none:=(h2.spec hI hd).out
  refine⟨.bool false,w,?_,Below.refl _ _,λ_ _=>rfl⟩
  show(do pure (Next.value (<-(do eqGuard .eql t x y (a.eval x) (a.eval y); Go.binOp .eql t (a.eval x) (a.eval y))))).run P w=_
  rw[e,e2,Sem.run_bind,hr]
  rfl
end
variable {l:HL} {x:eN}
theorem sw {s:ByteArray} (hi:fT (λk=>[x].getD k ee) 1 s=0):K2 Tryz.prog 128 (ym l [x]) (pT s) (aE (.pointer (some ⟨l.bb,0,none⟩))):=by
 intro M w0 v0 v1 hM hv0 ck
 refine dM (N:=13) Tryz.func128 rfl rfl rfl hM hv0 ck λa hI=>?_
 refine ai hI 1 [Uc 0 4 _] (.kk .z) ⟨mv,trivial⟩ (.aU .z) λa w hI=>?_
 refine ai hI 4 [Uc 0 6 _,Uc 1 7 _,Uc 2 8 _,Uc 3 5 _] (.aU .z) ⟨mv,mv,iB (sj (l:=l) (x:=x) (s:=s)) (hφ:=hi),mv,trivial⟩ (.nN (.gj .z)) λa w hI=>?_
 refine ai hI 3 [Uc 0 9 _,Uc 1 10 _,Uc 2 11 _] (.kk .z) ⟨mv,eL false,iB (gL (e:=5)),trivial⟩ (.bJ (.d .z)) λa w hI=>?_
 refine ai hI 2 [Uc 0 12 _,Uc 1 4 _] (.t 1 (.k .z)) ⟨mv,mv,trivial⟩ (.ct .z) λa w hI=>?_
 refine ay ?_
 exact bP hI rfl cP
theorem xQ {n:Nat} {g:Nat->ByteArray} (hi:fT (λk=>[x].getD k ee) 1 (g 0)=0/\(0<=x.2.1/\x.2.1<100)/\1<=n):K2 Tryz.prog 125 (ym l [x]) (aK 1 false n λk=>pT (g k)) (cG (pT (Ac x.2.1)) (pI 0)):=by
 intro M w0 v0 v1 hM hv0 ck
 refine dM (N:=19) Tryz.func125 rfl rfl rfl hM hv0 ck λa hI=>?_
 refine ai hI 2 [Uc 0 4 _,Uc 1 5 _] (.kk .z) ⟨mv,mv,trivial⟩ (.af .z) λa w hI=>?_
 refine ai hI 6 [Uc 0 7 _,Uc 1 8 _,Uc 2 9 _,Uc 3 10 _,Uc 4 11 _,Uc 5 6 _] (.af .z) ⟨mv,mv,aV 0 hs hs rfl (pt rfl) (by omega) (by kernel_rfl) (by kernel_rfl),aI hs (pt rfl) (by kernel_rfl) (bh _),iB (sk (l:=l) (x:=x) (s:=g 0)) (hφ:=hi.1),mv,trivial⟩ (.wX (.bY (.dk .z))) λa w hI=>?_
 refine aq ?_
 refine ai hI 2 [Uc 0 12 _,Uc 1 13 _] (.aU .z) ⟨mv,Bo,trivial⟩ (.bT (.k .z)) λa w hI=>?_
 refine lO hI (rfl) ?_
 refine aN ?_
 refine au ?_
 refine ai hI 7 [Uc 0 14 _,Uc 1 15 _,Uc 2 16 _,Uc 3 17 _,Uc 4 18 _,Uc 5 4 _,Uc 6 5 _] (.t 5 (.t 6 (.kk .z))) ⟨mv,yV,fP (fs:=[⟨false,1,pT x.1⟩,⟨false,1,pI x.2.1⟩,⟨false,1,pB x.2.2⟩]) 1 1 false,aI hs (pt rfl) (by kernel_rfl) (fits_int _),qO (rZ (n:=x.2.1)) (hφ:=hi.2.1),mv,mv,trivial⟩ (.d8 (.ru .z)) λa w hI=>?_
 refine ay ?_
 exact mj hI rfl cP cP
end Wx

namespace Wx
set_option maxRecDepth 100000
open Go Go.RowKit Go.Proofs
set_option linter.unusedVariables false
section
variable {P:Program} {ops:Array Oper} {ms:List Nat} {c:bD} {V:List Vr} {A:List Al} {G:List aD} {i d:Nat} {x y z:Operand} {ty t u:TypeId} {pos:String} {aj:Array Edge} {a:Act} {w:World}{K:Act->World->Prop}
theorem tS {oj:Oper} {s:Nat} {dst:Option Nat} {op:Op} (j':Nat) (hj:ops[j']?=some oj) (mB:oj.dst=some s) (hk:dL s G=some (pB true)) (h:∀a w,Inv c V [] G none_ a w->aQ P ops ⟨dst,op,ty,pos,aj,none⟩ a w K):∀a w,Inv c V [] G none_ a w->aQ P ops ⟨dst,op,ty,pos,aj,some (j',true)⟩ a w K:=λa w hI=>by
 have h1:=h a w hI
 have hv:sl a s=.bool true:=dB hI hk
 have hy:yielded ops a.tmps j'=some true:=by
  unfold yielded
  rw[hj]
  show(match (oj.dst.bind λx=>a.tmps[x]?)with|some (.bool b)=>some b|_=>none)=_
  rw[mB]
  show(match a.tmps[s]? with|some (.bool b)=>some b|_=>none)=_
  unfold sl at hv
  rw[Array.getD_eq_getD_getElem?]at hv
  cases hs:a.tmps[s]? with
  |none=>rw[hs]at hv; cases hv
  |some v=>
   rw[hs]at hv
   have hv:v=.bool true:=hv
   rw[hv]
 unfold aQ at h1 ⊢
 rw[if_pos (by simp[Region.wanted])]at h1
 rw[if_pos (by simp[Region.wanted,hy])]
 exact h1
variable {α:Type} {o:Oper}
theorem Dp {β:Type} {C:α->Prop} {D:β->Prop} {K:α->Act->World->Prop} {K1:β->Act->World->Prop} (h:∀x,C x->∀a w,K x a w->aQ P ops o a w (λa w=>∃y,D y/\K1 y a w)):∀a w,(∃x,C x/\K x a w)->aQ P ops o a w (λa w=>∃y,D y/\K1 y a w):=λa w ⟨x,hc,hx⟩=>h x hc a w hx
theorem Dr {l:α} {K1:α->Act->World->Prop} (h:∀a w,K a w->aQ P ops o a w (λa w=>∃y,y=l/\K1 y a w)):∀a w,K a w->aQ P ops o a w (K1 l):=λa w hk=>(h a w hk).mono λa w ⟨y,e,hy⟩=>e▸hy
theorem nw {s r:ByteArray} (e:s=r) (h1:Has ms G i x (pT s):=by exact hs) (h2:Has ms G i y (pT r):=by exact hs) (ht:isStr P t=true:=by kernel_rfl) (hp:Post G i (pB true):=by exact pt rfl):OpOk P ops ms c V A G i ⟨some d,.binOp .eql t x y u,ty,pos,aj,none⟩:=by
 subst e
 exact sL h1 h2 (Post.down hp (fQ (by simp)))
theorem AF {q:Pred} (h:Has ms G i x (pB true):=by exact hs) (h2:Has ms G i y q:=by exact hs) (hp:Post G i q:=by exact pt rfl):OpOk P ops ms c V A G i ⟨some d,.pick x y z,ty,pos,aj,none⟩:=lF h (λ_=>h2) (λh=>by cases h) hp
end
theorem Dl {c:bD} {V:List Vr} {G:List aD} {ops:Array Oper} {d:Nat} {ty:TypeId} {pos:String} {aj:Array Edge} {ts:Array TypeId} (hf:ax Tryz.prog 29:=by exactλ_ _=>by kernel_rfl) (hd':decide (d<c.N)=true:=by kernel_rfl) (hV:(V.all λy=>(y.slot != d&&y.id != d)&&(y.born.isNone&&y.dead.isNone))=true:=by kernel_rfl) (hG:(G.all λe=>e.slot != d)=true:=by kernel_rfl):∀a w,Inv c V [] G none_ a w ->
  aQ Tryz.prog ops ⟨some d,.call ⟨.value (.func 29),#[],ts⟩,ty,pos,aj,none⟩ a w (λa w=>∃l:HL,eA l [] []/\Inv c (aM d d (aR 0 l [] [])::V) [] (⟨none,none,d,aE (.pointer (some ⟨l.hb,0,none⟩))⟩::G) none_ a w):=λa w h=>
 oG (C:=λl:HL=>eA l [] []) (hd:=λl=>.pointer (some ⟨l.hb,0,none⟩)) (H:=λl=>aR 0 l [] []) hf h (λβ hI=>by
  rw[show(#[]:Array Operand).map a.eval=#[] by simp]
  exact Ag w) hd' hV hG
end Wx
