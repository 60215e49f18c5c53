import Derived.Test.YtfnmkhlleanppaaGreatDoorJWN33
import Derived.Lib.IndexLaws
import Derived.Lib.CountLaws
import Derived.Lib.SplitLaws
import Derived.Test.YtfnmkhlleanppaaGreatDoorCWNWk6
namespace Wx
open Go Go.RowKit Go.Proofs
set_option linter.unusedVariables false
attribute [local irreducible] OpOk
end Wx

namespace Wx
open Go Go.RowKit Go.Proofs
theorem wO {φ:Int->Bool} {s:ByteArray} (h:fH φ s=true) {k:Nat} (hk:k<s.size):φ (kO s k)=true:=by
 unfold fH at h
 simp only[Bool.and_eq_true,decide_eq_true_eq]at h
 exact h.1 k hk
end Wx

namespace Wx
set_option maxRecDepth 100000
set_option maxHeartbeats 1000000
open Go Go.RowKit Go.Proofs
set_option linter.unusedVariables false
attribute [local irreducible] OpOk
def dN (n m:Nat) (g:Nat->ByteArray) (φ:Nat->ByteArray->Bool):Bool:=decide (n=m)&&decide (∀k,k<m->φ k (g k)=true)
variable {n m:Nat} {g:Nat->ByteArray} {φ:Nat->ByteArray->Bool}
theorem rD (h:(n:Int)≠m):false=dN n m g φ:=by unfold dN; rw[decide_eq_false (by omega)]; rfl
theorem uf {i:Nat} (hi:i<m) (h:φ i (g i)=false):false=dN n m g φ:=by
 unfold dN
 rw[decide_eq_false (p:=∀k,k<m->φ k (g k)=true) (λk=>by rw[k i hi]at h; cases h),Bool.and_false]
theorem rF (hn:¬(n:Int)≠m) (h:∀k,k<m->φ k (g k)=true):true=dN n m g φ:=by
 unfold dN
 rw[decide_eq_true (show n=m by omega),decide_eq_true h]; rfl
theorem lp (h:n<=1000000/\m<=1000000/\∀k,k<n->(g k).size<=1000000):K2 Tryz.prog 58 (aK 1 false n λk=>pT (g k)) (aK 1 false m λk=>qy Tryz.prog (lV Tryz.prog (φ k))) (pB (dN n m g φ)):=by
 intro M w0 v0 v1 hM hv0 ck
 have hz:=h.1
 have hz2:=h.2.1
 refine dM (N:=27) Tryz.func58 rfl rfl rfl hM hv0 ck λa hI=>?_
 refine ai hI 1 [Uc 0 4 _] (.kk .z) ⟨mv,trivial⟩ (.aU .z) λa w hI=>?_
 refine aq ?_
 refine ai hI 5 [Uc 0 7 _,Uc 1 8 _,Uc 2 9 _,Uc 3 10 _,Uc 4 11 _] (.aU .z) ⟨mv,ln,mv,ln,bn,trivial⟩ (.bT (.ct .z)) λa w hI=>?_
 refine qV hI (λt1=>?_) (λt1=>?_)
 ·
  refine ai hI 1 [Uc 0 4 _] (.kk (.t 0 (.k .z))) ⟨mv,trivial⟩ (.bJ (.k .z)) λa w hI=>?_
  refine ay ?_
  refine aJ ?_
  exact bP hI rfl (cP (hq:=fQ (rD t1)))
 ·
  refine aN ?_
  refine au ?_
  refine aq ?_
  refine ai hI 3 [Uc 0 12 _,Uc 1 13 _,Uc 2 14 _] (.af .z) ⟨mv,ln,mv,trivial⟩ (.uF (.aU .z)) λa w hI=>?_
  refine bp ?_
  refine yN [] [Uz 0 _,Uz 12 _,Uz 13 _] (λ(i:Nat)=>[]) (λ(i:Nat)=>[Uz 14 (pI (i:Int))]) (λ(i:Nat)=>i<=m/\∀k,k<i->φ k (g k)=true) (λ(i:Nat)=>m-i) (0) ⟨Nat.zero_le _,λ_ h=>absurd h (Nat.not_lt_zero _)⟩ hI trivial ⟨gi,gi,gi,gc,trivial⟩ ?_
  intro i a w hp hI
  refine ai hI 1 [Uc 0 15 _] (.af .z) ⟨bn,trivial⟩ (.af (.k .z)) λa w hI=>?_
  refine aq ?_
  refine qV hI (λt2=>?_) (λt2=>?_)
  ·
   refine aN ?_
   refine au ?_
   refine aq ?_
   refine bp ?_
   refine ai hI 5 [Uc 0 16 _,Uc 1 17 _,Uc 2 18 _,Uc 3 5 _,Uc 4 6 _] (.af (.k .z)) ⟨mv,ix,aI hs (pt rfl) (by kernel_rfl) aH,mv,mv,trivial⟩ (.af (.bY (.kk .z))) λa w hI=>?_
   refine ai hI 7 [Uc 0 19 _,Uc 1 20 _,Uc 2 21 _,Uc 3 22 _,Uc 4 23 _,Uc 5 24 _,Uc 6 25 _] (.af (.kk .z)) ⟨mv,mv,mv,ix,aI hs (pt rfl) (by kernel_rfl) (bh _),Dm (φ:=φ i) (hm:=h.2.2 i (by omega)),nt,trivial⟩ (.af (.d8 (.k .z))) λa w hI=>?_
   refine Bf hI (λt3=>?_) (λt3=>?_)
   ·
    refine ai hI 1 [Uc 0 4 _] (.af (.k .z)) ⟨mv,trivial⟩ (.af (.dk .z)) λa w hI=>?_
    refine ay ?_
    refine bW ?_
    refine aJ ?_
    refine aJ ?_
    refine bW ?_
    refine aJ ?_
    exact bP hI rfl (cP (hq:=fQ (uf (i:=i) (by omega) (by simpa using t3))))
   ·
    refine aN ?_
    refine cJ ?_
    refine au ?_
    refine lQ hI 2 [Uc 0 26 _,Uc 1 14 _] (.aU (.t 1 (.k .z))) ⟨bn,mv,trivial⟩ (.bT (.gj .z)) λa w hI=>?_
    refine au ?_
    have hst:φ i (g i)=true:=by simpa using t3
    exact xU (i+1) ⟨by omega,λk hk=>if e:k=i then by rw[e]; exact hst else hp.2 k (by omega)⟩ hI trivial ⟨gc,gc,gc,gc,trivial⟩ (by omega)
  ·
   refine eJ ?_
   refine bt ?_
   refine bt ?_
   refine cC ?_
   refine au ?_
   refine ai hI 1 [Uc 0 4 _] (.af (.k .z)) ⟨mv,trivial⟩ (.bY (.dk .z)) λa w hI=>?_
   refine ay ?_
   exact bP hI rfl (cP (hq:=fQ (rF t1 λk hk=>hp.2 k (by omega))))
def eM (s:ByteArray):Int:=(Lib.atoi s.data.toList).getD 0
theorem mh:∀{l:List UInt8} {acc:Nat},(∀b,b∈l->48<=b.toNat/\b.toNat<=57)->∃m,Lib.decFrom acc l=some m
 |[],acc,_=>⟨acc,rfl⟩
 |b::r,acc,h=>by
  unfold Lib.decFrom Lib.digitVal
  rw[if_pos (h b List.mem_cons_self)]
  exact mh λc hc=>h c (List.mem_cons_of_mem _ hc)
variable {s:ByteArray}
theorem sJ (h:eD s=true):s.size<=8/\Lib.atoi s.data.toList=some (eM s):=by
 unfold eD at h
 simp only[Bool.and_eq_true,decide_eq_true_eq]at h
 obtain⟨⟨h1,h2⟩,_⟩:=h
 have hpos:=jT h2
 have hd:∀b,b∈s.data.toList->48<=b.toNat/\b.toNat<=57:=λb hb=>by
  obtain⟨k,hk,rfl⟩:=List.mem_iff_getElem.1 hb
  have hk':k<s.size:=by rw[Array.length_toList]at hk; exact hk
  have:=wO h2 hk'
  unfold rq at this
  simp only[Bool.and_eq_true,decide_eq_true_eq]at this
  have e:kO s k=((s.data.toList[k]).toNat:Int):=by rw[oP hk',Array.getElem_toList]; rfl
  rw[e]at this
  omega
 refine⟨by omega,?_⟩
 have key:∃n,Lib.atoi s.data.toList=some n:=by
  cases hl:s.data.toList with
  |nil=>
   have:s.data.toList.length=0:=by rw[hl]; rfl
   rw[Array.length_toList]at this
   have:s.size=0:=this
   omega
  |cons b r=>
   rw[hl]at hd
   have hb:=hd b List.mem_cons_self
   simp only[Lib.atoi]
   rw[if_neg (λe=>by have e:=eq_of_beq e; rw[e]at hb; revert hb; decide),if_neg (λe=>by have e:=eq_of_beq e; rw[e]at hb; revert hb; decide)]
   obtain⟨m,hm⟩:=mh (acc:=0) hd
   exact⟨m,by unfold Lib.decNat; rw[if_neg (by simp),hm]; rfl⟩
 obtain⟨n,hn⟩:=key
 unfold eM
 rw[hn]
 rfl
theorem xK (h:eD s=true):K1 Tryz.prog 109 (pT s) (cG (pI (eM s)) (aE .nilIface)):=λM w v0 hM h0=>by
 obtain rfl:v0=.string s:=h0.out
 obtain⟨h1,h2⟩:=sJ h
 refine(Tryz.strconv_Atoi s (eM s) (by omega) h2 w).mono ?_
 rintro e w' ⟨rfl,t,rfl⟩
 exact⟨_,rfl,λ_ _=>⟨_,_,rfl,rfl,rfl⟩,⟨rfl,rfl,rfl,by rw[Lib.bytesWorld_size]; omega,λk hk=>Lib.bytesWorld_at_old w _ t k hk⟩⟩
theorem ji (h:eD s=true):K1 Tryz.prog 72 (pT s) (pI (eM s)):=by
 intro M w0 v0 hM hv0
 refine fL (N:=11) Tryz.func72 rfl rfl rfl hM hv0 λa hI=>?_
 refine ai hI 1 [Uc 0 2 _] (.k .z) ⟨mv,trivial⟩ (.kk .z) λa w hI=>?_
 refine ai hI 7 [Uc 0 6 _,Uc 1 7 _,Uc 2 5 _,Uc 3 8 _,Uc 4 9 _,Uc 5 3 _,Uc 6 4 _] (.kk .z) ⟨mv,qO (λh=>xK h) (hφ:=h),mv,ext,ext,mv,mv,trivial⟩ (.nO (.ct (.d .z))) λa w hI=>?_
 refine ai hI 2 [Uc 0 10 _,Uc 1 2 _] (.t 1 (.k .z)) ⟨mv,mv,trivial⟩ (.ct .z) λa w hI=>?_
 refine ay ?_
 exact bP hI rfl cP
end Wx

namespace Wx
set_option maxRecDepth 100000
set_option maxHeartbeats 1000000
open Go Go.RowKit Go.Proofs
set_option linter.unusedVariables false
attribute [local irreducible] OpOk
variable {l:HL} {s:ByteArray}
theorem mJ {bs:List eN} (hi:fT (λk=>bs.getD k ee) bs.length s = -1/\bs.length<=1000000):K2 Tryz.prog 48 (ym l bs) (pT s) (aE (.pointer none)):=by
 intro M w0 v0 v1 hM hv0 ck
 have hn:=hi.2
 have hc:fT (λk=>bs.getD k ee) bs.length s<0:=by rw[hi.1]; decide
 refine dM (N:=20) Tryz.func48 rfl rfl rfl hM hv0 ck λa hI=>?_
 refine da hI 2 [⟨3,3,some 0,none,.ptr,9,1,false,pv _,[]⟩] [] [Uc 1 4 _] .z (.kk .z) ⟨bo,mv,trivial⟩ (.k .z) (.lg .z) λa w hI=>?_
 have hI:=gb hI 0 rfl (by kernel_rfl)
 dsimp only[List.eraseIdx]at hI
 refine ai hI 7 [Uc 0 6 _,Uc 1 7 _,Uc 2 8 _,Uc 3 9 _,Uc 4 10 _,Uc 5 11 _,Uc 6 5 _] (.aU .z) ⟨mv,yV,fP 2 1 false,aI hs (pt rfl) (by kernel_rfl) (gB _ _),A9,iB (lj (B:=λk=>bs.getD k ee) (s:=s)) (c1:=kN (bs:=bs)) (hφ:=hn),mv,trivial⟩ (.nP (.bY (.dk .z))) λa w hI=>?_
 refine aq ?_
 refine ai hI 2 [Uc 0 12 _,Uc 1 13 _] (.aU .z) ⟨mv,bn,trivial⟩ (.bT (.k .z)) λa w hI=>?_
 refine pK hI (decide_eq_true hc) ?_
 refine ai hI 1 [Uc 0 4 _] (.k (.t 0 (.kk .z))) ⟨mv,trivial⟩ (.uF (.k .z)) λa w hI=>?_
 refine ay ?_
 refine aJ ?_
 exact bP hI rfl cP
variable {x:eN}
theorem sj (hi:fT (λk=>[x].getD k ee) 1 s=0):K2 Tryz.prog 48 (ym l [x]) (pT s) (aE (.pointer (some ⟨l.bb,0,none⟩))):=by
 intro M w0 v0 v1 hM hv0 ck
 have hn:[x].length<=1000000:=by show 1<=1000000; omega
 have hc:¬fT (λk=>[x].getD k ee) [x].length s<0:=by rw[show fT (λk=>[x].getD k ee) [x].length s=0 from hi]; decide
 refine dM (N:=20) Tryz.func48 rfl rfl rfl hM hv0 ck λa hI=>?_
 refine da hI 2 [⟨3,3,some 0,none,.ptr,9,1,false,pv _,[]⟩] [] [Uc 1 4 _] .z (.kk .z) ⟨bo,mv,trivial⟩ (.k .z) (.lg .z) λa w hI=>?_
 have hI:=gb hI 0 rfl (by kernel_rfl)
 dsimp only[List.eraseIdx]at hI
 refine ai hI 7 [Uc 0 6 _,Uc 1 7 _,Uc 2 8 _,Uc 3 9 _,Uc 4 10 _,Uc 5 11 _,Uc 6 5 _] (.aU .z) ⟨mv,yV,fP 2 1 false,aI hs (pt rfl) (by kernel_rfl) (gB _ _),A9,iB (lj (B:=λk=>[x].getD k ee) (s:=s)) (c1:=kN (bs:=[x])) (hφ:=hn),mv,trivial⟩ (.nP (.bY (.dk .z))) λa w hI=>?_
 refine aq ?_
 refine ai hI 2 [Uc 0 12 _,Uc 1 13 _] (.aU .z) ⟨mv,bn,trivial⟩ (.bT (.k .z)) λa w hI=>?_
 refine lO hI (decide_eq_false hc) ?_
 refine aN ?_
 refine au ?_
 refine ai hI 7 [Uc 0 14 _,Uc 1 15 _,Uc 2 16 _,Uc 3 17 _,Uc 4 18 _,Uc 5 19 _,Uc 6 4 _] (.k (.t 6 (.kk .z))) ⟨mv,yV,fP 2 1 false,aI hs (pt rfl) (by kernel_rfl) (gB _ _),mv,D7 (E:=131) 3 0 hs ua ((Wx.hs).imp (fh hi)) ⟨by kernel_rfl,λ_=>by kernel_rfl⟩ (by decide) (by show(0:Int)<((1:Nat):Int); omega),mv,trivial⟩ (.d8 (.gj .z)) λa w hI=>?_
 refine ay ?_
 exact bP hI rfl cP
theorem sk (hi:fT (λk=>[x].getD k ee) 1 s=0):K2 Tryz.prog 48 (ym l [x]) (pT s) (cH 3 true (fX x)):=by
 intro M w0 v0 v1 hM hv0 ck
 have hn:[x].length<=1000000:=by show 1<=1000000; omega
 have hc:¬fT (λk=>[x].getD k ee) [x].length s<0:=by rw[show fT (λk=>[x].getD k ee) [x].length s=0 from hi]; decide
 refine dM (N:=20) Tryz.func48 rfl rfl rfl hM hv0 ck λa hI=>?_
 refine da hI 2 [⟨3,3,some 0,none,.ptr,9,1,false,pv _,[]⟩] [] [Uc 1 4 _] .z (.kk .z) ⟨bo,mv,trivial⟩ (.k .z) (.lg .z) λa w hI=>?_
 have hI:=gb hI 0 rfl (by kernel_rfl)
 dsimp only[List.eraseIdx]at hI
 refine ai hI 7 [Uc 0 6 _,Uc 1 7 _,Uc 2 8 _,Uc 3 9 _,Uc 4 10 _,Uc 5 11 _,Uc 6 5 _] (.aU .z) ⟨mv,yV,fP 2 1 false,aI hs (pt rfl) (by kernel_rfl) (gB _ _),A9,iB (lj (B:=λk=>[x].getD k ee) (s:=s)) (c1:=kN (bs:=[x])) (hφ:=hn),mv,trivial⟩ (.nP (.bY (.dk .z))) λa w hI=>?_
 refine aq ?_
 refine ai hI 2 [Uc 0 12 _,Uc 1 13 _] (.aU .z) ⟨mv,bn,trivial⟩ (.bT (.k .z)) λa w hI=>?_
 refine lO hI (decide_eq_false hc) ?_
 refine aN ?_
 refine au ?_
 refine ai hI 7 [Uc 0 14 _,Uc 1 15 _,Uc 2 16 _,Uc 3 17 _,Uc 4 18 _,Uc 5 19 _,Uc 6 4 _] (.k (.t 6 (.kk .z))) ⟨mv,yV,fP 2 1 false,aI hs (pt rfl) (by kernel_rfl) (gB _ _),mv,aV 0 ((hs).imp (kN (bs:=[x]))) ((Wx.hs).imp (fh hi)) rfl (pt rfl) Nat.zero_lt_one (by kernel_rfl) (by kernel_rfl),mv,trivial⟩ (.d8 (.gj .z)) λa w hI=>?_
 refine ay ?_
 exact bP hI rfl cP
end Wx
