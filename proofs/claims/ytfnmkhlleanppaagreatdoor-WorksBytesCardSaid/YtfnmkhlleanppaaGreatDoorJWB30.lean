import Derived.Test.YtfnmkhlleanppaaGreatDoorJWB29
import Derived.Lib.IndexLaws
import Derived.Lib.CountLaws
import Derived.Lib.SplitLaws
namespace Wx
set_option maxRecDepth 100000
set_option maxHeartbeats 1000000
open Go Go.RowKit Go.Proofs
set_option linter.unusedVariables false
attribute [local irreducible] OpOk
def eP (b:ByteArray) (o:Nat):Nat:=6+(bO b (o+1)).toNat
def er (b:ByteArray) (o:Nat):ByteArray:=b.extract (o+2) (o+2+(bO b (o+1)).toNat)
def ek (b:ByteArray) (o:Nat):Bool:=decide (o+2<=b.size/\bO b o=165/\o+eP b o<=b.size/\dr (er b o)=0/\fV (er b o)=b.extract o (o+eP b o))
theorem kY (b:ByteArray) (o:Nat):(eP b o:Int)=2+bO b (o+1)+4:=by
 have:=jc b (o+1)
 unfold eP
 omega
variable {b:ByteArray}
theorem zj (h:(b.size:Int)<2):ek b 0=false:=decide_eq_false λk=>by omega
theorem zk (h:(decide (bO b 0≠165)||decide ((b.size:Int)<2+bO b 1+4))=true):ek b 0=false:=decide_eq_false λk=>by
 simp only[Bool.or_eq_true,decide_eq_true_eq]at h
 have:=kY b 0
 rcases h with h|h
 ·exact h k.2.1
 ·have:=k.2.2.1
  simp only[Nat.zero_add]at *
  omega
theorem zl (h:(decide (dr (er b 0)≠0)||decide (fV (er b 0)≠b.extract 0 (eP b 0)))=true):ek b 0=false:=decide_eq_false λk=>by
 simp only[Bool.or_eq_true,decide_eq_true_eq]at h
 rcases h with h|h
 ·exact h k.2.2.2.1
 ·exact h (by have:=k.2.2.2.2; rwa [Nat.zero_add]at this)
theorem zm (h0:¬(b.size:Int)<2) (h1:(decide (bO b 0≠165)||decide ((b.size:Int)<2+bO b 1+4))=false) (h2:(decide (dr (er b 0)≠0)||decide (fV (er b 0)≠b.extract 0 (eP b 0)))=false):ek b 0=true:=by
 simp only[Bool.or_eq_false_iff,decide_eq_false_iff_not,Decidable.not_not]at h1 h2
 have:=kY b 0
 refine decide_eq_true ⟨by omega,h1.1,?_,h2.1,by rw[Nat.zero_add]; exact h2.2⟩
 have:=h1.2
 simp only[Nat.zero_add]at *
 omega
variable {s:ByteArray}
theorem rH {r:ByteArray} (h:s=r):∀w v,pT s w v->pT r w v:=by subst h; exactλ_ _ h=>h
theorem xw (hz:b.size<=1000000):J1 Tryz.prog 32 (fY b) (dB (pT (if ek b 0=true then er b 0 else⟨#[]⟩)) (pI (if ek b 0=true then(eP b 0:Int)else 0))):=by
 intro M w0 v0 hM hG hv0
 have hG:=eY hG
 have hN:=kY b 0
 simp only[Nat.zero_add]at hN
 have hb1:=jc b 1
 have hsz:(er b 0).size<=1000000:=by unfold er; rw[ByteArray.size_extract]; omega
 refine ie (N:=50) Tryz.func32 rfl rfl rfl hM hv0 λa hI=>?_
 refine aq hI 2 [Uc 0 2 _,Uc 1 3 _] (.k .z) ⟨mv,mv,trivial⟩ (.aR .z) λa w hI=>?_
 refine ai ?_
 refine aq hI 3 [Uc 0 8 _,Uc 1 9 _,Uc 2 10 _] (.aR .z) ⟨mv,ln,bn,trivial⟩ (.bC (.dk .z)) λa w hI=>?_
 refine jF hI (λt1=>?_) (λt1=>?_)
 ·
  refine aq hI 2 [Uc 0 2 _,Uc 1 3 _] (.k (.t 0 (.t 1 (.k .z)))) ⟨mv,mv,trivial⟩ (.fg (.kk .z)) λa w hI=>?_
  refine ay ?_
  refine aB ?_
  exact ki hI rfl (cU (hq:=rH (by rw[if_neg (by rw[zj t1]; exact Bool.false_ne_true)]))) (cU (hq:=bV (by rw[if_neg (by rw[zj t1]; exact Bool.false_ne_true)])))
 ·
  refine av ?_
  refine af ?_
  refine aq hI 7 [Uc 0 11 _,Uc 1 12 _,Uc 2 13 _,Uc 3 14 _,Uc 4 15 _,Uc 5 16 _,Uc 6 4 _] (.ae .z) ⟨mv,E8 1,aE hs (pt rfl) (by kernel_rfl) (aX (cX _) rfl rfl),DG,bn,bn,mv,trivial⟩ (.bC (.bR (.fJ .z))) λa w hI=>?_
  refine ai ?_
  refine aq hI 10 [Uc 0 17 _,Uc 1 18 _,Uc 2 19 _,Uc 3 20 _,Uc 4 21 _,Uc 5 22 _,Uc 6 23 _,Uc 7 24 _,Uc 8 25 _,Uc 9 26 _] (.ae .z) ⟨mv,E8 0,aE hs (pt rfl) (by kernel_rfl) (aX (cX _) rfl rfl),bn,mv,gd λh=>gr h,gd λh=>DU h,gd λh=>gr h,gd λh=>nJ h,pk,trivial⟩ (.ae (.d8 (.dk .z))) λa w hI=>?_
  refine xY hI (λt2=>?_) (λt2=>?_)
  ·
   refine aq hI 2 [Uc 0 2 _,Uc 1 3 _] (.k (.t 0 (.t 1 (.kk .z)))) ⟨mv,mv,trivial⟩ (.jK (.tC .z)) λa w hI=>?_
   refine ay ?_
   refine aB ?_
   exact ki hI rfl (cU (hq:=rH (by rw[if_neg (by rw[zk t2]; exact Bool.false_ne_true)]))) (cU (hq:=bV (by rw[if_neg (by rw[zk t2]; exact Bool.false_ne_true)])))
  ·
   refine av ?_
   refine af ?_
   have hle:(eP b 0:Int)<=b.size:=by
    simp only[Bool.or_eq_false_iff,decide_eq_false_iff_not]at t2
    omega
   refine aq hI 6 [Uc 0 27 _,Uc 1 28 _,Uc 2 29 _,Uc 3 30 _,Uc 4 31 _,Uc 5 5 _] (.ae (.k .z)) ⟨mv,mv,bn,FA 2 (2+(bO b 1).toNat),C9 (s:=er b 0),mv,trivial⟩ (.ae (.bR (.fJ .z))) λa w hI=>?_
   refine aq hI 7 [Uc 0 33 _,Uc 1 34 _,Uc 2 32 _,Uc 3 35 _,Uc 4 36 _,Uc 5 6 _,Uc 6 7 _] (.ae (.k .z)) ⟨mv,wv hG (rq (s:=er b 0)) (hφ:=hsz),mv,ext,ext,mv,mv,trivial⟩ (.ae (.fg (.sn .z))) λa w hI=>?_
   refine ai ?_
   refine Bl hI [0,1,3,7,15,7,7,103,231,511,1023] [Uc 0 37 _,Uc 1 38 _,Uc 2 39 _,Uc 3 40 _,Uc 4 41 _,Uc 5 42 _,Uc 6 43 _,Uc 7 44 _,Uc 8 45 _,Uc 9 46 _,Uc 10 47 _] (.ae (.aR .z)) ⟨mv,bn,mv,gd λh=>gr h,gd λh=>C9 (h:=hg) (hp:=pg h rfl),gd λh=>gr h,gd λh=>gr h,gd λh=>bH (eP b 0) (hr:=hg) (hy:=(Wx.hg).imp (bV (by omega))) (hp:=pg h rfl),gd λh=>C9 (h:=hg) (hp:=pg h rfl),gd λh=>EU h,pk,trivial⟩ (.tV (.fg (.d8 (.dk .z)))) λa w hI=>?_
   refine xY hI (λt3=>?_) (λt3=>?_)
   ·
    refine aq hI 2 [Uc 0 2 _,Uc 1 3 _] (.t 0 (.t 1 (.aR .z))) ⟨mv,mv,trivial⟩ (.sn (.tC .z)) λa w hI=>?_
    refine ay ?_
    refine aB ?_
    exact ki hI rfl (cU (hq:=rH (by rw[if_neg (by rw[zl t3]; exact Bool.false_ne_true)]))) (cU (hq:=bV (by rw[if_neg (by rw[zl t3]; exact Bool.false_ne_true)])))
   ·
    refine av ?_
    refine af ?_
    refine aq hI 4 [Uc 0 48 _,Uc 1 49 _,Uc 2 2 _,Uc 3 3 _] (.t 2 (.t 3 (.aR .z))) ⟨mv,mv,mv,mv,trivial⟩ (.bR (.cx (.k .z))) λa w hI=>?_
    refine ay ?_
    exact ki hI rfl (cU (hq:=rH (by rw[if_pos (zm t1 t2 t3)]))) (cU (hq:=bV (by rw[if_pos (zm t1 t2 t3)]; omega)))
variable {k:Nat}
theorem nU (h:s.size<=k):bO s k=0:=by
 unfold bO
 rw[List.getD_eq_getElem?_getD,List.getElem?_eq_none (by rw[Array.length_toList]; exact h)]
 rfl
theorem jY (b:ByteArray) (o k:Nat):bO (b.extract o b.size) k=bO b (o+k):=by
 by_cases h:o+k<b.size
 ·exact cD h (Nat.le_refl _)
 ·rw[nU (by rw[ByteArray.size_extract]; omega),nU (by omega)]
theorem iu {a e:Nat} (h:k<(s.extract a e).size):bO (s.extract a e) k=bO s (a+k):=by
 rw[ew h,ew (s:=s) (by rw[ByteArray.size_extract]at h; omega),ByteArray.getElem_extract]
theorem oa (b:ByteArray) {o e f:Nat}:(b.extract o b.size).extract e f=b.extract (o+e) (o+f):=by
 rw[ByteArray.extract_extract]
 have hs:(b.extract (o+e) (min (o+f) b.size)).size=(b.extract (o+e) (o+f)).size:=by simp only[ByteArray.size_extract]; omega
 exact jM hs λk hk=>by rw[iu hk,iu (hs▸hk)]
theorem mE (b:ByteArray) (o:Nat):eP (b.extract o b.size) 0=eP b o:=by unfold eP; rw[jY,Nat.zero_add]
theorem mD (b:ByteArray) (o:Nat):er (b.extract o b.size) 0=er b o:=by
 unfold er
 rw[jY,oa,Nat.zero_add,Nat.zero_add]
 congr 1
 omega
variable {o:Nat}
theorem tw (h:o<=b.size):ek (b.extract o b.size) 0=ek b o:=by
 unfold ek
 rw[mD,mE,jY,oa,ByteArray.size_extract,Nat.zero_add,Nat.zero_add,Nat.add_zero]
 congr 1
 exact propext ⟨λ⟨h1,h2,h3,h4⟩=>⟨by omega,h2,by omega,h4⟩,λ⟨h1,h2,h3,h4⟩=>⟨by omega,h2,by omega,h4⟩⟩
theorem sM (h:o<=b.size/\b.size<=1000000):J1 Tryz.prog 32 (fY (b.extract o b.size)) (dB (pT (if ek b o=true then er b o else⟨#[]⟩)) (pI (if ek b o=true then(eP b o:Int)else 0))):=by
 have k:=xw (b:=b.extract o b.size) (by rw[ByteArray.size_extract]; omega)
 rw[tw h.1,mD,mE]at k
 exact k
def cK (b:ByteArray):Nat->Nat
 |0=>0
 |k+1=>cK b k+eP b (cK b k)
def wz (b:ByteArray):Nat->Nat->Nat
 |0,q=>q
 |f+1,q=>if ek b (cK b q)=true then wz b f (q+1)else q
def pY (b:ByteArray):Nat:=wz b b.size 0
theorem wA (h:∀j,j<k->ek b (cK b j)=true) (hn:ek b (cK b k)=false):∀f q,q<=k->k<=q+f->wz b f q=k:=by
 intro f
 induction f with
 |zero=>intro q h1 h2; show q=k; omega
 |succ f ih=>
  intro q h1 h2
  unfold wz
  by_cases e:q=k
  ·rw[e,hn]; exact if_neg Bool.false_ne_true
  ·rw[if_pos (h q (by omega))]
   exact ih _ (by omega) (by omega)
theorem qP (h:∀j,j<k->ek b (cK b j)=true) (hn:ek b (cK b k)=false) (hk:k<=b.size):pY b=k:=wA h hn _ _ (Nat.zero_le _) (by omega)
theorem Bj (h:ek b o=true):o+eP b o<=b.size:=(of_decide_eq_true h).2.2.1
theorem rT (b:ByteArray) (o:Nat):6<=eP b o:=Nat.le_add_right _ _
abbrev AU (b:ByteArray):Pred:=ax 1 false (pY b) λq=>pT (er b (cK b q))
theorem xP {n m:Nat} {f:Nat->Pred} (h:n=m):∀w v,ax 1 false n f w v->ax 1 false m f w v:=by subst h; exactλ_ _ h=>h
theorem Ao (hz:b.size<=1000000):J1 Tryz.prog 10 (fY b) (dB (AU b) (pI (cK b (pY b)))):=by
 intro M w0 v0 hM hG hv0
 have hG:=eY hG
 refine ie (N:=26) Tryz.func10 rfl rfl rfl hM hv0 λa hI=>?_
 refine aq hI 2 [Uc 0 2 _,Uc 1 3 _] (.k .z) ⟨mv,mv,trivial⟩ (.aR .z) λa w hI=>?_
 refine cQ hI 1 [⟨4,4,some 0,none,.grow (0) 1,9,3,true,pv az,[]⟩] [] [Uc 0 4 _] .z (.aR .z) ⟨AI (f:=λq=>pT (er b (cK b q))),trivial⟩ (.k .z) (.ae .z) λa w hI=>?_
 refine cQ hI 1 [] [] [Uc 0 5 _] (.k .z) (.ae .z) ⟨mv,trivial⟩ (.k .z) (.ae (.k .z)) λa w hI=>?_
 refine aN ?_
 refine tA [] [Uz 0 _] (λ(k:Nat)=>[Gz 4 4 k 1 9]) (λ(k:Nat)=>[Uz 4 (ax 1 false k λq=>pT (er b (cK b q))),Uz 5 (pI (cK b (k):Int))]) (λ(k:Nat)=>(∀j,j<k->ek b (cK b j)=true)/\cK b (k)<=b.size/\6*(k)<=cK b (k)) (λ(k:Nat)=>b.size-k) (0) ⟨λ_ h=>absurd h (Nat.not_lt_zero _),Nat.zero_le _,Nat.le_refl _⟩ hI ⟨vG,trivial⟩ ⟨gi,gc,gc,trivial⟩ ?_
 intro k a w hk hI
 refine aN ?_
 refine cQ hI 9 [] [] [Uc 0 9 _,Uc 1 10 _,Uc 2 11 _,Uc 3 12 _,Uc 4 8 _,Uc 5 13 _,Uc 6 14 _,Uc 7 6 _,Uc 8 7 _] (.k .z) (.aR .z) ⟨mv,mv,bL (cK b k) (hl:=hk.2.1),wv hG (sM (o:=cK b k)) (hφ:=⟨hk.2.1,hz⟩),mv,ext,ext,mv,mv,trivial⟩ (.k .z) (.bC (.bR (.sn .z))) λa w hI=>?_
 refine ai ?_
 refine cQ hI 2 [] [] [Uc 0 15 _,Uc 1 16 _] (.k .z) (.ae (.k .z)) ⟨mv,bn,trivial⟩ (.k .z) (.ae (.lf .z)) λa w hI=>?_
 refine jF hI (λt1=>?_) (λt1=>?_)
 ·
  have hw:ek b (cK b k)=false:=by
   cases hx:ek b (cK b k)
   ·rfl
   ·rw[if_pos hx]at t1; have:=rT b (cK b k); omega
  have hK:=qP hk.1 hw (by omega)
  refine cQ hI 4 [⟨17,17,some 0,some 2,.grow (k) 1,9,3,true,pv az,[]⟩,⟨2,2,some 2,none,.grow (k) 1,9,3,true,pv az,[]⟩] [] [Uc 0 17 _,Uc 1 18 _,Uc 2 2 _,Uc 3 3 _] (.u (some 0) [] .z) (.ae (.kk .z)) ⟨Bw,mv,zz,mv,trivial⟩ (.d (.d (.k .z))) (.ae (.fg (.kk .z))) λa w hI=>?_
  refine ay ?_
  refine aB ?_
  refine bp ?_
  refine aB ?_
  refine bp ?_
  exact ki hI rfl (cU (hq:=xP hK.symm)) (cU (hq:=bV (by rw[hK])))
 ·
  refine av ?_
  refine af ?_
  have hw:ek b (cK b k)=true:=by
   cases hx:ek b (cK b k)
   ·rw[if_neg (by rw[hx]; exact Bool.false_ne_true)]at t1; exact absurd rfl t1
   ·rfl
  rw[if_pos hw,if_pos hw]at hI
  have hle:=Bj hw
  have hge:=rT b (cK b k)
  have yF:cK b (k+1)=cK b k+eP b (cK b k):=rfl
  refine Dn hI 9 7 [⟨19,19,some 0,some 3,.grow (k) 1,9,3,true,pv az,[]⟩,⟨22,22,some 3,none,.grow (k+1) 1,9,3,true,pv az,[]⟩] [] [Uc 0 19 _,Uc 1 20 _,Uc 2 21 _,Uc 3 22 _,Uc 4 23 _,Uc 5 24 _,Uc 6 25 _] (.u (some 0) [] .z) (.ae (.kk .z)) ⟨Bw,mv,BM 9,EM (f:=λq=>pT (er b (cK b q))) (λ_=>aW _) (aW _) (λ_ _ h=>h),mv,mv,bn,trivial⟩ (.d (.d (.k .z))) (.fg (.bR (.qb (.k .z)))) (⟨_,bh [⟨4,4,some 0,none,.grow (k+1) 1,9,3,true,pv az,[]⟩] [] [Uc 0 4 _] (.u (some 0) [] .z) (.aR .z) (zz) (.d (.k .z)) (.oB .z),⟨_,bh [] [] [Uc 0 5 _] (.k .z) (.aR .z) (mv) (.k .z) (.oB .z),rfl⟩⟩) λa w hI=>?_
  refine bG ?_
  refine af ?_
  exact ry (k+1) ⟨λj hj=>if e:j=k then by rw[e]; exact hw else hk.1 j (by omega),by rw[yF]; exact hle,by omega⟩ hI ⟨vG,trivial⟩ ⟨gc,gc,gc,trivial⟩ (by omega)
end Wx

namespace Wx
open Go Go.RowKit Go.Proofs
theorem zx {φ:Int->Bool} {s:ByteArray} (h:gP φ s=true) {k:Nat} (hk:k<s.size):φ (bO s k)=true:=by
 unfold gP at h
 simp only[Bool.and_eq_true,decide_eq_true_eq]at h
 exact h.1 k hk
end Wx

namespace Wx
open Go Go.RowKit Go.Proofs
set_option linter.unusedVariables false
section
variable {P:Program} {c:bJ} {V:List Vr} {G:List aI} {a:Act} {w:World} {d:Nat} {x y:Operand} {ty:TypeId} {pos:String} {au:Array Edge}
end
end Wx

namespace Wx
open Go Go.RowKit Go.Proofs
set_option linter.unusedVariables false
attribute [local irreducible] OpOk
variable {s:ByteArray} {k:Nat}
theorem uk {m:Nat} (hm:m=2) (hk:k<m):bO (sB s) k=[165,we s.size].getD k 0:=by
 subst hm
 unfold sB
 rw[dn,if_pos (by rw[ByteArray.size_append,(dD s).1]; omega),dn,if_pos (by rw[(dD s).1]; exact hk)]
 match k,hk with
 |0,_=>exact(dD s).2.1
 |1,_=>exact(dD s).2.2
theorem wJ (hk:k<s.size):bO (sB s) (2+k)=bO s k:=by
 unfold sB
 rw[dn,if_pos (by rw[ByteArray.size_append,(dD s).1]; omega),dn,if_neg (by rw[(dD s).1]; omega),(dD s).1,show 2+k-2=k by omega]
end Wx

namespace Wx
set_option maxRecDepth 100000
set_option maxHeartbeats 1000000
open Go Go.RowKit Go.Proofs
set_option linter.unusedVariables false
attribute [local irreducible] OpOk
def jD (n m:Nat) (f g:Nat->ByteArray):Bool:=decide (n=m)&&decide (∀k,k<n->f k=g k)
variable {n m:Nat} {f g:Nat->ByteArray}
theorem vK (h:(n:Int)≠m):false=jD n m f g:=by unfold jD; rw[decide_eq_false (by omega)]; rfl
theorem xR {i:Nat} (hi:i<n) (h:f i≠g i):false=jD n m f g:=by
 unfold jD
 rw[decide_eq_false (p:=∀k,k<n->f k=g k) (λk=>h (k i hi)),Bool.and_false]
theorem pq (hn:¬(n:Int)≠m) (h:∀k,k<n->f k=g k):true=jD n m f g:=by
 unfold jD
 rw[decide_eq_true (show n=m by omega),decide_eq_true h]; rfl
theorem AA (h:n<=1000000000):K2 Tryz.prog 14 (ax 1 false n λk=>pT (f k)) (ax 1 false m λk=>pT (g k)) (pB (jD n m f g)):=by
 intro M w0 v0 v1 hM hv0 dH
 refine iY (N:=26) Tryz.func14 rfl rfl rfl hM hv0 dH λa hI=>?_
 refine aq hI 1 [Uc 0 4 _] (.kk .z) ⟨mv,trivial⟩ (.aR .z) λa w hI=>?_
 refine ai ?_
 refine aq hI 5 [Uc 0 6 _,Uc 1 7 _,Uc 2 8 _,Uc 3 9 _,Uc 4 10 _] (.aR .z) ⟨mv,ln,mv,ln,bn,trivial⟩ (.bC (.cx .z)) λa w hI=>?_
 refine jF hI (λt1=>?_) (λt1=>?_)
 ·
  refine aq hI 1 [Uc 0 4 _] (.kk (.t 0 (.k .z))) ⟨mv,trivial⟩ (.cj (.k .z)) λa w hI=>?_
  refine ay ?_
  refine aB ?_
  exact cn hI rfl (cU (hq:=ee (vK t1)))
 ·
  refine av ?_
  refine af ?_
  refine ai ?_
  refine aq hI 3 [Uc 0 11 _,Uc 1 12 _,Uc 2 13 _] (.ae .z) ⟨mv,ln,mv,trivial⟩ (.bC (.tC .z)) λa w hI=>?_
  refine aN ?_
  refine tA [] [Uz 0 _,Uz 1 _,Uz 12 _] (λ(i:Nat)=>[]) (λ(i:Nat)=>[Uz 13 (pI (i:Int))]) (λ(i:Nat)=>i<=n/\∀k,k<i->f k=g k) (λ(i:Nat)=>n-i) (0) ⟨Nat.zero_le _,λ_ h=>absurd h (Nat.not_lt_zero _)⟩ hI trivial ⟨gi,gi,gi,gc,trivial⟩ ?_
  intro i a w hp hI
  refine aq hI 1 [Uc 0 14 _] (.ae .z) ⟨bn,trivial⟩ (.ae (.k .z)) λa w hI=>?_
  refine ai ?_
  refine jF hI (λt2=>?_) (λt2=>?_)
  ·
   refine av ?_
   refine af ?_
   refine ai ?_
   refine aN ?_
   refine aq hI 2 [Uc 0 15 _,Uc 1 5 _] (.ae (.k .z)) ⟨mv,mv,trivial⟩ (.ae (.fJ .z)) λa w hI=>?_
   refine Bl hI [0,0,3,7,0,0,48,112,255] [Uc 0 16 _,Uc 1 17 _,Uc 2 18 _,Uc 3 19 _,Uc 4 20 _,Uc 5 21 _,Uc 6 22 _,Uc 7 23 _,Uc 8 24 _] (.ae (.k .z)) ⟨mv,mv,ix,aE hs (pt rfl) (by kernel_rfl) (aW _),mv,mv,ix,aE hs (pt rfl) (by kernel_rfl) (aW _),bU,trivial⟩ (.ae (.d8 (.dk .z))) λa w hI=>?_
   refine jF hI (λt3=>?_) (λt3=>?_)
   ·
    refine aq hI 1 [Uc 0 4 _] (.ae (.k .z)) ⟨mv,trivial⟩ (.ae (.dk .z)) λa w hI=>?_
    refine ay ?_
    refine bp ?_
    refine aB ?_
    refine aB ?_
    refine bp ?_
    refine aB ?_
    exact cn hI rfl (cU (hq:=ee (xR (i:=i) (by omega) t3)))
   ·
    refine av ?_
    refine bG ?_
    refine af ?_
    refine kZ hI 2 [Uc 0 25 _,Uc 1 13 _] (.aR (.t 1 (.k .z))) ⟨bn,mv,trivial⟩ (.bC (.fJ .z)) λa w hI=>?_
    refine af ?_
    have hst:f i=g i:=Decidable.not_not.1 t3
    exact ry (i+1) ⟨by omega,λk hk=>if e:k=i then by rw[e]; exact hst else hp.2 k (by omega)⟩ hI trivial ⟨gc,gc,gc,gc,trivial⟩ (by omega)
  ·
   refine cV ?_
   refine aM ?_
   refine aM ?_
   refine bF ?_
   refine af ?_
   refine aq hI 1 [Uc 0 4 _] (.ae (.k .z)) ⟨mv,trivial⟩ (.bR (.dk .z)) λa w hI=>?_
   refine ay ?_
   exact cn hI rfl (cU (hq:=ee (pq t1 λk hk=>hp.2 k (by omega))))
end Wx
