import Derived.Test.YtfnmkhlleanppaaGreatDoorJWN26
namespace Wx
set_option maxRecDepth 100000
set_option maxHeartbeats 1000000
open Go Go.RowKit Go.Proofs
set_option linter.unusedVariables false
attribute [local irreducible] OpOk
variable {φ:Int->Bool} {s:ByteArray}
theorem qY (h:∀k,k<s.size->φ (kO s k)=true):decide (s≠⟨#[]⟩)=fH φ s:=by unfold fH; rw[decide_eq_true h,Bool.true_and]
theorem tY {i:Nat} (hi:i<s.size) (h:φ (kO s i)=false):false=fH φ s:=by
 unfold fH
 rw[decide_eq_false λk=>by rw[k i hi]at h; cases h]
 rfl
def eC (s:ByteArray):Bool:=decide (∀w,w∈aA s->fH jj w=true)
def gH (s:ByteArray):Bool:=decide ((s.size:Int)<=24)&&fH sF s
def eD (s:ByteArray):Bool:=(decide ((s.size:Int)<=8)&&fH rq s)&&(decide (s=⟨#[48]⟩)||decide (kO s 0≠48))
theorem jT (h:fH φ s=true):0<s.size:=by
 unfold fH at h
 simp only[Bool.and_eq_true,decide_eq_true_eq]at h
 rcases Nat.eq_zero_or_pos s.size with e|e
 ·exact absurd (ByteArray.ext (Array.eq_empty_of_size_eq_zero e)) h.2
 ·exact e
theorem jB {w:ByteArray} (h:w∈aA s):w.size<=s.size:=by
 have key:∀(k:Nat) (s w:ByteArray),w∈Lib.splitB nI 0 k s->w.size<=s.size:=by
  intro k
  induction k with
  |zero=>intro s w h; rw[Lib.splitB_zero]at h; rw[List.mem_singleton.1 h]; exact Nat.le_refl _
  |succ k ih=>
   intro s w h
   unfold Lib.splitB at h
   split at h
   ·rw[List.mem_singleton.1 h]; exact Nat.le_refl _
   ·rcases List.mem_cons.1 h with h|h
    ·rw[h,ByteArray.size_extract]; omega
    ·have:=ih _ _ h
     rw[ByteArray.size_extract]at this
     omega
 exact key _ _ _ h
theorem sC (h:∀k,k<(aA s).length->fH jj ((aA s).getD k ⟨#[]⟩)=true):true=eC s:=by
 refine(decide_eq_true λw hw=>?_).symm
 obtain⟨k,hk,rfl⟩:=List.mem_iff_getElem.1 hw
 have:=h k hk
 rw[List.getD_eq_getElem?_getD,List.getElem?_eq_getElem hk]at this
 exact this
variable {k:Nat}
theorem jm {L:List ByteArray} (hk:k<L.length):L.getD k ⟨#[]⟩∈L:=by
 rw[List.getD_eq_getElem?_getD,List.getElem?_eq_getElem hk]
 exact List.getElem_mem hk
theorem uM (hk:k<(aA s).length) (h:fH jj ((aA s).getD k ⟨#[]⟩)=false):false=eC s:=by
 refine(decide_eq_false λg=>?_).symm
 rw[g _ (jm hk)]at h
 cases h
theorem eu (h:s.size<=1000000):(aA s).length<=1000001:=by
 rw[cE]
 have:=Lib.countB_le nI (by decide) s.size s (Nat.le_refl _)
 omega
theorem si (hz:s.size<=1000000):K2 Tryz.prog 38 (pT s) (qy Tryz.prog (zc Tryz.prog φ)) (pB (fH φ s)):=by
 intro M w0 v0 v1 hM hv0 ck
 refine dM (N:=21) Tryz.func38 rfl rfl rfl hM hv0 ck λa hI=>?_
 refine ai hI 1 [Uc 0 4 _] (.kk .z) ⟨mv,trivial⟩ (.aU .z) λa w hI=>?_
 refine aq ?_
 refine ai hI 4 [Uc 0 7 _,Uc 1 8 _,Uc 2 9 _,Uc 3 10 _] (.aU .z) ⟨mv,CH,ln,mv,trivial⟩ (.bT (.aU .z)) λa w hI=>?_
 refine bp ?_
 refine yN [] [Uz 0 _,Uz 1 _,Uz 8 _,Uz 9 _] (λ(i:Nat)=>[]) (λ(i:Nat)=>[Uz 10 (pI (i:Int))]) (λ(i:Nat)=>i<=s.size/\∀k,k<i->φ (kO s k)=true) (λ(i:Nat)=>s.size-i) (0) ⟨Nat.zero_le _,λ_ h=>absurd h (Nat.not_lt_zero _)⟩ hI trivial ⟨gi,gi,gi,gi,gc,trivial⟩ ?_
 intro i a w hp hI
 refine ai hI 1 [Uc 0 11 _] (.af (.k .z)) ⟨bn,trivial⟩ (.af (.kk .z)) λa w hI=>?_
 refine aq ?_
 refine qV hI (λt1=>?_) (λt1=>?_)
 ·
  refine aN ?_
  refine au ?_
  refine aq ?_
  refine bp ?_
  refine ai hI 3 [Uc 0 12 _,Uc 1 13 _,Uc 2 6 _] (.af (.kk .z)) ⟨ix,aI hs (pt rfl) (by kernel_rfl) (bG (lC _) rfl rfl),mv,trivial⟩ (.af (.jO (.k .z))) λa w hI=>?_
  refine ai hI 4 [Uc 0 14 _,Uc 1 15 _,Uc 2 16 _,Uc 3 17 _] (.af (.kk .z)) ⟨mv,mv,Dk,nt,trivial⟩ (.af (.jO (.dk .z))) λa w hI=>?_
  refine Bf hI (λt2=>?_) (λt2=>?_)
  ·
   refine ai hI 1 [Uc 0 4 _] (.af (.kk .z)) ⟨mv,trivial⟩ (.af (.lg .z)) λa w hI=>?_
   refine ay ?_
   refine bW ?_
   refine aJ ?_
   refine aJ ?_
   refine bW ?_
   refine aJ ?_
   exact bP hI rfl (cP (hq:=fQ (tY (i:=i) (by omega) (by simpa using t2))))
  ·
   refine aN ?_
   refine cJ ?_
   refine au ?_
   refine lQ hI 2 [Uc 0 18 _,Uc 1 10 _] (.af (.t 1 (.k .z))) ⟨bn,mv,trivial⟩ (.af (.ct .z)) λa w hI=>?_
   refine au ?_
   have hst:φ (kO s i)=true:=by simpa using t2
   exact xU (i+1) ⟨by omega,λk hk=>if e:k=i then by rw[e]; exact hst else hp.2 k (by omega)⟩ hI trivial ⟨gc,gc,gc,gc,gc,trivial⟩ (by omega)
 ·
  refine eJ ?_
  refine bt ?_
  refine bt ?_
  refine cC ?_
  refine au ?_
  refine ai hI 3 [Uc 0 19 _,Uc 1 20 _,Uc 2 4 _] (.af (.kk .z)) ⟨mv,bU,mv,trivial⟩ (.d8 (.k .z)) λa w hI=>?_
  refine ay ?_
  exact bP hI rfl (cP (hq:=fQ (qY λk hk=>hp.2 k (by omega))))
theorem mK (hz:s.size<=1000000):J1 Tryz.prog 30 (pT s) (pB (eC s)):=by
 intro M w0 v0 hM hG hv0
 have hG:=fU hG
 have yS:=eu hz
 refine fL (N:=16) Tryz.func30 rfl rfl rfl hM hv0 λa hI=>?_
 refine ai hI 1 [Uc 0 2 _] (.k .z) ⟨mv,trivial⟩ (.kk .z) λa w hI=>?_
 refine aq ?_
 refine ai hI 4 [Uc 0 5 _,Uc 1 6 _,Uc 2 7 _,Uc 3 8 _] (.kk .z) ⟨mv,wU hG gK,ln,mv,trivial⟩ (.wZ (.kk .z)) λa w hI=>?_
 refine bp ?_
 refine yN [] [Uz 6 _,Uz 7 _] (λ(i:Nat)=>[]) (λ(i:Nat)=>[Uz 8 (pI (i:Int))]) (λ(i:Nat)=>i<=(aA s).length/\∀k,k<i->fH jj ((aA s).getD k ⟨#[]⟩)=true) (λ(i:Nat)=>(aA s).length-i) (0) ⟨Nat.zero_le _,λ_ h=>absurd h (Nat.not_lt_zero _)⟩ hI trivial ⟨gi,gi,gc,trivial⟩ ?_
 intro i a w hp hI
 refine ai hI 1 [Uc 0 9 _] (.aU .z) ⟨bn,trivial⟩ (.af .z) λa w hI=>?_
 refine aq ?_
 refine qV hI (λt1=>?_) (λt1=>?_)
 ·
  refine aN ?_
  refine au ?_
  refine aq ?_
  refine bp ?_
  refine ai hI 3 [Uc 0 10 _,Uc 1 11 _,Uc 2 4 _] (.af .z) ⟨ix,aI hs (pt rfl) (by kernel_rfl) (bh _),mv,trivial⟩ (.bT (.gj .z)) λa w hI=>?_
  refine ai hI 3 [Uc 0 12 _,Uc 1 13 _,Uc 2 14 _] (.af .z) ⟨mv,iB (si (φ:=jj)) (c2:=jv λ_ _=>uJ trivial) (hφ:=Nat.le_trans (jB (jm (by omega))) hz),nt,trivial⟩ (.bT (.gj .z)) λa w hI=>?_
  refine Bf hI (λt2=>?_) (λt2=>?_)
  ·
   refine ai hI 1 [Uc 0 2 _] (.af .z) ⟨mv,trivial⟩ (.bT (.k .z)) λa w hI=>?_
   refine ay ?_
   refine bW ?_
   refine aJ ?_
   refine aJ ?_
   refine bW ?_
   refine aJ ?_
   exact bP hI rfl (cP (hq:=fQ (uM (k:=i) (by omega) (by simpa using t2))))
  ·
   refine aN ?_
   refine cJ ?_
   refine au ?_
   refine lQ hI 2 [Uc 0 15 _,Uc 1 8 _] (.kk (.t 1 (.k .z))) ⟨bn,mv,trivial⟩ (.bJ (.dk .z)) λa w hI=>?_
   refine au ?_
   have hst:fH jj ((aA s).getD i ⟨#[]⟩)=true:=by simpa using t2
   exact xU (i+1) ⟨by omega,λk hk=>if e:k=i then by rw[e]; exact hst else hp.2 k (by omega)⟩ hI trivial ⟨gc,gc,gc,trivial⟩ (by omega)
 ·
  refine eJ ?_
  refine bt ?_
  refine bt ?_
  refine cC ?_
  refine au ?_
  refine ai hI 1 [Uc 0 2 _] (.af .z) ⟨mv,trivial⟩ (.bY (.k .z)) λa w hI=>?_
  refine ay ?_
  exact bP hI rfl (cP (hq:=fQ (sC λk hk=>hp.2 k (by omega))))
theorem su (hz:s.size<=1000000):K1 Tryz.prog 68 (pT s) (pB (gH s)):=by
 intro M w0 v0 hM hv0
 refine fL (N:=10) Tryz.func68 rfl rfl rfl hM hv0 λa hI=>?_
 refine ai hI 1 [Uc 0 2 _] (.k .z) ⟨mv,trivial⟩ (.kk .z) λa w hI=>?_
 refine ai hI 8 [Uc 0 3 _,Uc 1 4 _,Uc 2 5 _,Uc 3 6 _,Uc 4 7 _,Uc 5 8 _,Uc 6 9 _,Uc 7 2 _] (.k (.t 7 .z)) ⟨mv,xT,bn,mv,gd λh=>fu h,gd λh=>nR h (si (φ:=sF)) (c2:=jv λ_ _=>uK trivial),pk,mv,trivial⟩ (.d8 (.dk .z)) λa w hI=>?_
 refine ay ?_
 exact bP hI rfl cP
theorem uI (hz:s.size<=1000000):K1 Tryz.prog 71 (pT s) (pB (eD s)):=by
 intro M w0 v0 hM hv0
 refine fL (N:=19) Tryz.func71 rfl rfl rfl hM hv0 λa hI=>?_
 refine ai hI 1 [Uc 0 2 _] (.k .z) ⟨mv,trivial⟩ (.kk .z) λa w hI=>?_
 refine ai hI 17 [Uc 0 3 _,Uc 1 4 _,Uc 2 5 _,Uc 3 6 _,Uc 4 7 _,Uc 5 8 _,Uc 6 9 _,Uc 7 10 _,Uc 8 11 _,Uc 9 12 _,Uc 10 13 _,Uc 11 14 _,Uc 12 15 _,Uc 13 16 _,Uc 14 17 _,Uc 15 18 _,Uc 16 2 _] (.k (.t 16 .z)) ⟨mv,xT,bn,mv,gd λh=>fu h,gd λh=>nR h (si (φ:=rq)) (c2:=jv λ_ _=>sn trivial),pk,mv,gd λh=>fu h,gd λh=>Ds h,gd λh=>fu h,BG λh=>fu h,BG λh=>(λ_=>D8 0 (h:=hg) (hy:=.const _) (hk:=jT (by simp only[Bool.and_eq_true]at h; exact h.1.2)) (hp:=pg h rfl)) h,BG λh=>lS h,gd λh=>Dt h,pk,mv,trivial⟩ (.d8 (.d8 (.gj .z))) λa w hI=>?_
 refine ay ?_
 exact bP hI rfl cP
end Wx

namespace Wx
set_option maxRecDepth 100000
set_option maxHeartbeats 1000000
open Go Go.RowKit Go.Proofs
set_option linter.unusedVariables false
attribute [local irreducible] OpOk
abbrev eN:Type:=ByteArray×Int×Bool
def fX (x:eN):Pred:=pS [⟨false,1,pT x.1⟩,⟨false,1,pI x.2.1⟩,⟨false,1,pB x.2.2⟩]
theorem gA (x:eN):Fits 3 true (fX x):=kW (fs:=[⟨false,1,pT x.1⟩,⟨false,1,pI x.2.1⟩,⟨false,1,pB x.2.2⟩]) ⟨bh _,fits_int _,fits_bool _,trivial⟩ rfl
variable {s:ByteArray}
theorem xM {x:eN} (_:True):K2 Tryz.prog 79 (fX x) (cH 1 false (pT s)) (pB (decide (x.1=s))):=by
 intro M w0 v0 v1 hM hv0 ck
 refine dM (N:=8) Tryz.func79 rfl rfl rfl hM hv0 ck λa hI=>?_
 refine ai hI 2 [Uc 0 2 _,Uc 1 3 _] (.kk .z) ⟨CF 3 true (hf:=gA x),mv,trivial⟩ (.xb .z) λa w hI=>?_
 refine ai hI 5 [Uc 0 4 _,Uc 1 5 _,Uc 2 6 _,Uc 3 7 _,Uc 4 3 _] (.kk (.t 4 .z)) ⟨fP (fs:=[⟨false,1,pT x.1⟩,⟨false,1,pI x.2.1⟩,⟨false,1,pB x.2.2⟩]) 0 1 false,aI hs (pt rfl) (by kernel_rfl) (bh _),aI hs (pt rfl) (by kernel_rfl) (bh _),bU,mv,trivial⟩ (.bY (.ct .z)) λa w hI=>?_
 refine ay ?_
 exact bP hI rfl cP
def qh (φ:Nat->Bool):Nat->Nat->Int
 |0,_ => -1
 |f+1,k=>if φ k=true then(k:Int)else qh φ f (k+1)
def xH (φ:Nat->Bool) (n:Nat):Int:=qh φ n 0
variable {φ:Nat->Bool} {i:Nat}
theorem uy (hi:φ i=true) (h:∀q,q<i->φ q=false):∀f k,k<=i->i<k+f->qh φ f k=i:=by
 intro f
 induction f with
 |zero=>intro k h1 h2; omega
 |succ f ih=>
  intro k h1 h2
  unfold qh
  by_cases e:k=i
  ·rw[e,if_pos hi]
  ·rw[if_neg (by rw[h k (by omega)]; exact Bool.false_ne_true)]
   exact ih _ (by omega) (by omega)
theorem uz:∀f k,(∀q,k<=q->q<k+f->φ q=false)->qh φ f k = -1:=by
 intro f
 induction f with
 |zero=>intro k _; rfl
 |succ f ih=>
  intro k h
  unfold qh
  rw[if_neg (by rw[h k (Nat.le_refl _) (by omega)]; exact Bool.false_ne_true)]
  exact ih _ λq h1 h2=>h q (by omega) (by omega)
variable {n:Nat}
theorem uA (hi:φ i=true) (h:∀q,q<i->φ q=false) (hn:i<n):xH φ n=i:=uy hi h _ _ (Nat.zero_le _) (by omega)
theorem uB (h:∀q,q<n->φ q=false):xH φ n = -1:=uz _ _ λq _ h2=>h q (by omega)
def fT (B:Nat->eN) (n:Nat) (s:ByteArray):Int:=xH (λk=>decide ((B k).1=s)) n
theorem lj {B:Nat->eN} (h:n<=1000000):K2 Tryz.prog 78 (aK 3 true n λk=>fX (B k)) (sX 79 1 false (pT s)) (pI (fT B n s)):=by
 intro M w0 v0 v1 hM hv0 ck
 refine dM (N:=19) Tryz.func78 rfl rfl rfl hM hv0 ck λa hI=>?_
 refine ai hI 1 [Uc 0 4 _] (.kk .z) ⟨mv,trivial⟩ (.aU .z) λa w hI=>?_
 refine aq ?_
 refine ai hI 3 [Uc 0 6 _,Uc 1 7 _,Uc 2 8 _] (.aU .z) ⟨mv,ln,mv,trivial⟩ (.bT (.kk .z)) λa w hI=>?_
 refine bp ?_
 refine yN [] [Uz 0 _,Uz 1 _,Uz 7 _] (λ(i:Nat)=>[]) (λ(i:Nat)=>[Uz 8 (pI (i:Int))]) (λ(i:Nat)=>i<=n/\∀q,q<i->decide ((B q).1=s)=false) (λ(i:Nat)=>n-i) (0) ⟨Nat.zero_le _,λ_ h=>absurd h (Nat.not_lt_zero _)⟩ hI trivial ⟨gi,gi,gi,gc,trivial⟩ ?_
 intro i a w hi hI
 refine ai hI 1 [Uc 0 9 _] (.af .z) ⟨bn,trivial⟩ (.af (.k .z)) λa w hI=>?_
 refine aq ?_
 refine qV hI (λt1=>?_) (λt1=>?_)
 ·
  refine aN ?_
  refine au ?_
  refine aq ?_
  refine bp ?_
  refine ai hI 2 [Uc 0 10 _,Uc 1 5 _] (.af (.k .z)) ⟨mv,mv,trivial⟩ (.af (.gj .z)) λa w hI=>?_
  refine ai hI 6 [Uc 0 11 _,Uc 1 12 _,Uc 2 13 _,Uc 3 14 _,Uc 4 15 _,Uc 5 16 _] (.af (.k .z)) ⟨mv,mv,mv,ix,aI hs (pt rfl) (by kernel_rfl) (gA _),Dj (λ_ _=>by kernel_rfl) (xM trivial),trivial⟩ (.af (.jO (.gj .z))) λa w hI=>?_
  refine Bf hI (λt2=>?_) (λt2=>?_)
  ·
   refine ai hI 2 [Uc 0 17 _,Uc 1 4 _] (.af (.kk .z)) ⟨mv,mv,trivial⟩ (.af (.ct .z)) λa w hI=>?_
   refine ay ?_
   refine bW ?_
   refine aJ ?_
   refine aJ ?_
   refine bW ?_
   refine aJ ?_
   exact bP hI rfl (cP (hq:=fh (uA t2 hi.2 (by omega)).symm))
  ·
   refine aN ?_
   refine cJ ?_
   refine au ?_
   refine lQ hI 2 [Uc 0 18 _,Uc 1 8 _] (.aU (.t 1 (.kk .z))) ⟨bn,mv,trivial⟩ (.bT (.ct .z)) λa w hI=>?_
   refine au ?_
   exact xU (i+1) ⟨by omega,λq hq=>if e:q=i then by rw[e]; exact t2 else hi.2 q (by omega)⟩ hI trivial ⟨gc,gc,gc,gc,trivial⟩ (by omega)
 ·
  refine eJ ?_
  refine bt ?_
  refine bt ?_
  refine cC ?_
  refine au ?_
  refine ai hI 1 [Uc 0 4 _] (.af (.k .z)) ⟨mv,trivial⟩ (.bY (.dk .z)) λa w hI=>?_
  refine ay ?_
  exact bP hI rfl (cP (hq:=fh (uB λq hq=>hi.2 q (by omega)).symm))
end Wx
