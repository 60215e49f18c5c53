import Derived.Test.YtfnmkhlleanppaaGreatDoorCWBWk6
import Derived.Test.YtfnmkhlleanppaaGreatDoorJWB30
import Derived.Test.YtfnmkhlleanppaaGreatDoorJWB37
import Derived.Lib.ItoaNum
namespace Wx
set_option maxRecDepth 100000
set_option maxHeartbeats 1000000
open Go Go.RowKit Go.Proofs
set_option linter.unusedVariables false
attribute [local irreducible] OpOk
def eR (n m:Nat) (g:Nat->ByteArray) (φ:Nat->ByteArray->Bool):Bool:=decide (n=m)&&decide (∀k,k<m->φ k (g k)=true)
variable {n m:Nat} {g:Nat->ByteArray} {φ:Nat->ByteArray->Bool}
theorem ud (h:(n:Int)≠m):false=eR n m g φ:=by unfold eR; rw[decide_eq_false (by omega)]; rfl
theorem wE {i:Nat} (hi:i<m) (h:φ i (g i)=false):false=eR n m g φ:=by
 unfold eR
 rw[decide_eq_false (p:=∀k,k<m->φ k (g k)=true) (λk=>by rw[k i hi]at h; cases h),Bool.and_false]
theorem uf (hn:¬(n:Int)≠m) (h:∀k,k<m->φ k (g k)=true):true=eR n m g φ:=by
 unfold eR
 rw[decide_eq_true (show n=m by omega),decide_eq_true h]; rfl
theorem nj (h:n<=1000000/\m<=1000000/\∀k,k<n->(g k).size<=1000000):K2 Tryz.prog 58 (ax 1 false n λk=>pT (g k)) (ax 1 false m λk=>sW Tryz.prog (nN Tryz.prog (φ k))) (pB (eR n m g φ)):=by
 intro M w0 v0 v1 hM hv0 dH
 have hz:=h.1
 have hz2:=h.2.1
 refine iY (N:=27) Tryz.func58 rfl rfl rfl hM hv0 dH λa hI=>?_
 refine aq hI 1 [Uc 0 4 _] (.kk .z) ⟨mv,trivial⟩ (.aR .z) λa w hI=>?_
 refine ai ?_
 refine aq hI 5 [Uc 0 7 _,Uc 1 8 _,Uc 2 9 _,Uc 3 10 _,Uc 4 11 _] (.aR .z) ⟨mv,ln,mv,ln,bn,trivial⟩ (.bC (.cx .z)) λa w hI=>?_
 refine jF hI (λt1=>?_) (λt1=>?_)
 ·
  refine aq hI 1 [Uc 0 4 _] (.kk (.t 0 (.k .z))) ⟨mv,trivial⟩ (.cj (.k .z)) λa w hI=>?_
  refine ay ?_
  refine aB ?_
  exact cn hI rfl (cU (hq:=ee (ud t1)))
 ·
  refine av ?_
  refine af ?_
  refine ai ?_
  refine aq hI 3 [Uc 0 12 _,Uc 1 13 _,Uc 2 14 _] (.ae .z) ⟨mv,ln,mv,trivial⟩ (.sJ (.aR .z)) λa w hI=>?_
  refine aN ?_
  refine tA [] [Uz 0 _,Uz 12 _,Uz 13 _] (λ(i:Nat)=>[]) (λ(i:Nat)=>[Uz 14 (pI (i:Int))]) (λ(i:Nat)=>i<=m/\∀k,k<i->φ k (g k)=true) (λ(i:Nat)=>m-i) (0) ⟨Nat.zero_le _,λ_ h=>absurd h (Nat.not_lt_zero _)⟩ hI trivial ⟨gi,gi,gi,gc,trivial⟩ ?_
  intro i a w hp hI
  refine aq hI 1 [Uc 0 15 _] (.ae .z) ⟨bn,trivial⟩ (.ae (.k .z)) λa w hI=>?_
  refine ai ?_
  refine jF hI (λt2=>?_) (λt2=>?_)
  ·
   refine av ?_
   refine af ?_
   refine ai ?_
   refine aN ?_
   refine aq hI 5 [Uc 0 16 _,Uc 1 17 _,Uc 2 18 _,Uc 3 5 _,Uc 4 6 _] (.ae (.k .z)) ⟨mv,ix,aE hs (pt rfl) (by kernel_rfl) aO,mv,mv,trivial⟩ (.ae (.bR (.kk .z))) λa w hI=>?_
   refine aq hI 7 [Uc 0 19 _,Uc 1 20 _,Uc 2 21 _,Uc 3 22 _,Uc 4 23 _,Uc 5 24 _,Uc 6 25 _] (.ae (.kk .z)) ⟨mv,mv,mv,ix,aE hs (pt rfl) (by kernel_rfl) (aW _),FH (φ:=φ i) (hm:=h.2.2 i (by omega)),nt,trivial⟩ (.ae (.d8 (.k .z))) λa w hI=>?_
   refine xY hI (λt3=>?_) (λt3=>?_)
   ·
    refine aq hI 1 [Uc 0 4 _] (.ae (.k .z)) ⟨mv,trivial⟩ (.ae (.dk .z)) λa w hI=>?_
    refine ay ?_
    refine bp ?_
    refine aB ?_
    refine aB ?_
    refine bp ?_
    refine aB ?_
    exact cn hI rfl (cU (hq:=ee (wE (i:=i) (by omega) (by simpa using t3))))
   ·
    refine av ?_
    refine bG ?_
    refine af ?_
    refine kZ hI 2 [Uc 0 26 _,Uc 1 14 _] (.aR (.t 1 (.k .z))) ⟨bn,mv,trivial⟩ (.bC (.fJ .z)) λa w hI=>?_
    refine af ?_
    have hst:φ i (g i)=true:=by simpa using t3
    exact ry (i+1) ⟨by omega,λk hk=>if e:k=i then by rw[e]; exact hst else hp.2 k (by omega)⟩ hI trivial ⟨gc,gc,gc,gc,trivial⟩ (by omega)
  ·
   refine cV ?_
   refine aM ?_
   refine aM ?_
   refine bF ?_
   refine af ?_
   refine aq hI 1 [Uc 0 4 _] (.ae (.k .z)) ⟨mv,trivial⟩ (.bR (.dk .z)) λa w hI=>?_
   refine ay ?_
   exact cn hI rfl (cU (hq:=ee (uf t1 λk hk=>hp.2 k (by omega))))
def fX (s:ByteArray):Int:=(Lib.atoi s.data.toList).getD 0
theorem nZ:∀{l:List UInt8} {acc:Nat},(∀b,b∈l->48<=b.toNat/\b.toNat<=57)->∃m,Lib.decFrom acc l=some m
 |[],acc,_=>⟨acc,rfl⟩
 |b::r,acc,h=>by
  unfold Lib.decFrom Lib.digitVal
  rw[if_pos (h b List.mem_cons_self)]
  exact nZ λc hc=>h c (List.mem_cons_of_mem _ hc)
variable {s:ByteArray}
theorem uY (h:fK s=true):s.size<=8/\Lib.atoi s.data.toList=some (fX s):=by
 unfold fK at h
 simp only[Bool.and_eq_true,decide_eq_true_eq]at h
 obtain⟨⟨h1,h2⟩,_⟩:=h
 have hpos:=jb h2
 have hd:∀b,b∈s.data.toList->48<=b.toNat/\b.toNat<=57:=λb hb=>by
  obtain⟨k,hk,rfl⟩:=List.mem_iff_getElem.1 hb
  have hk':k<s.size:=by rw[Array.length_toList]at hk; exact hk
  have:=zx h2 hk'
  unfold tU at this
  simp only[Bool.and_eq_true,decide_eq_true_eq]at this
  have e:bO s k=((s.data.toList[k]).toNat:Int):=by rw[ew hk',Array.getElem_toList]; rfl
  rw[e]at this
  omega
 refine⟨by omega,?_⟩
 have key:∃n,Lib.atoi s.data.toList=some n:=by
  cases hl:s.data.toList with
  |nil=>
   have:s.data.toList.length=0:=by rw[hl]; rfl
   rw[Array.length_toList]at this
   have:s.size=0:=this
   omega
  |cons b r=>
   rw[hl]at hd
   have hb:=hd b List.mem_cons_self
   simp only[Lib.atoi]
   rw[if_neg (λe=>by have e:=eq_of_beq e; rw[e]at hb; revert hb; decide),if_neg (λe=>by have e:=eq_of_beq e; rw[e]at hb; revert hb; decide)]
   obtain⟨m,hm⟩:=nZ (acc:=0) hd
   exact⟨m,by unfold Lib.decNat; rw[if_neg (by simp),hm]; rfl⟩
 obtain⟨n,hn⟩:=key
 unfold fX
 rw[hn]
 rfl
theorem Am (h:fK s=true):K1 Tryz.prog 109 (pT s) (dB (pI (fX s)) (aJ .nilIface)):=λM w v0 hM h0=>by
 obtain rfl:v0=.string s:=h0.out
 obtain⟨h1,h2⟩:=uY h
 refine(Tryz.strconv_Atoi s (fX s) (by omega) h2 w).mono ?_
 rintro e w' ⟨rfl,t,rfl⟩
 exact⟨_,rfl,λ_ _=>⟨_,_,rfl,rfl,rfl⟩,⟨rfl,rfl,rfl,by rw[Lib.bytesWorld_size]; omega,λk hk=>Lib.bytesWorld_at_old w _ t k hk⟩⟩
theorem kx (h:fK s=true):K1 Tryz.prog 72 (pT s) (pI (fX s)):=by
 intro M w0 v0 hM hv0
 refine ie (N:=11) Tryz.func72 rfl rfl rfl hM hv0 λa hI=>?_
 refine aq hI 1 [Uc 0 2 _] (.k .z) ⟨mv,trivial⟩ (.kk .z) λa w hI=>?_
 refine aq hI 7 [Uc 0 6 _,Uc 1 7 _,Uc 2 5 _,Uc 3 8 _,Uc 4 9 _,Uc 5 3 _,Uc 6 4 _] (.kk .z) ⟨mv,tB (λh=>Am h) (hφ:=h),mv,ext,ext,mv,mv,trivial⟩ (.qb (.cx (.d .z))) λa w hI=>?_
 refine aq hI 2 [Uc 0 10 _,Uc 1 2 _] (.t 1 (.k .z)) ⟨mv,mv,trivial⟩ (.cx .z) λa w hI=>?_
 refine ay ?_
 exact cn hI rfl cU
end Wx

namespace Wx
set_option maxRecDepth 100000
set_option maxHeartbeats 1000000
open Go Go.RowKit Go.Proofs
set_option linter.unusedVariables false
attribute [local irreducible] OpOk
variable {l:HL} {s:ByteArray}
theorem oG {bs:List fZ} (hi:gV (λk=>bs.getD k fl) bs.length s = -1/\bs.length<=1000000):K2 Tryz.prog 48 (AR l bs) (pT s) (aJ (.pointer none)):=by
 intro M w0 v0 v1 hM hv0 dH
 have hn:=hi.2
 have hc:gV (λk=>bs.getD k fl) bs.length s<0:=by rw[hi.1]; decide
 refine iY (N:=20) Tryz.func48 rfl rfl rfl hM hv0 dH λa hI=>?_
 refine cQ hI 2 [⟨3,3,some 0,none,.ptr,9,1,false,pv _,[]⟩] [] [Uc 1 4 _] .z (.kk .z) ⟨bo,mv,trivial⟩ (.k .z) (.lf .z) λa w hI=>?_
 have hI:=ic hI 0 rfl (by kernel_rfl)
 dsimp only[List.eraseIdx]at hI
 refine aq hI 7 [Uc 0 6 _,Uc 1 7 _,Uc 2 8 _,Uc 3 9 _,Uc 4 10 _,Uc 5 11 _,Uc 6 5 _] (.aR .z) ⟨mv,By,fP 2 1 false,aE hs (pt rfl) (by kernel_rfl) (iC _ _),Dj,mN (ni (B:=λk=>bs.getD k fl) (s:=s)) (c1:=mM (bs:=bs)) (hφ:=hn),mv,trivial⟩ (.mQ (.bR (.dk .z))) λa w hI=>?_
 refine ai ?_
 refine aq hI 2 [Uc 0 12 _,Uc 1 13 _] (.aR .z) ⟨mv,bn,trivial⟩ (.bC (.k .z)) λa w hI=>?_
 refine EH hI (decide_eq_true hc) ?_
 refine aq hI 1 [Uc 0 4 _] (.k (.t 0 (.kk .z))) ⟨mv,trivial⟩ (.sJ (.k .z)) λa w hI=>?_
 refine ay ?_
 refine aB ?_
 exact cn hI rfl cU
variable {x:fZ}
theorem uJ (hi:gV (λk=>[x].getD k fl) 1 s=0):K2 Tryz.prog 48 (AR l [x]) (pT s) (aJ (.pointer (some ⟨l.bb,0,none⟩))):=by
 intro M w0 v0 v1 hM hv0 dH
 have hn:[x].length<=1000000:=by show 1<=1000000; omega
 have hc:¬gV (λk=>[x].getD k fl) [x].length s<0:=by rw[show gV (λk=>[x].getD k fl) [x].length s=0 from hi]; decide
 refine iY (N:=20) Tryz.func48 rfl rfl rfl hM hv0 dH λa hI=>?_
 refine cQ hI 2 [⟨3,3,some 0,none,.ptr,9,1,false,pv _,[]⟩] [] [Uc 1 4 _] .z (.kk .z) ⟨bo,mv,trivial⟩ (.k .z) (.lf .z) λa w hI=>?_
 have hI:=ic hI 0 rfl (by kernel_rfl)
 dsimp only[List.eraseIdx]at hI
 refine aq hI 7 [Uc 0 6 _,Uc 1 7 _,Uc 2 8 _,Uc 3 9 _,Uc 4 10 _,Uc 5 11 _,Uc 6 5 _] (.aR .z) ⟨mv,By,fP 2 1 false,aE hs (pt rfl) (by kernel_rfl) (iC _ _),Dj,mN (ni (B:=λk=>[x].getD k fl) (s:=s)) (c1:=mM (bs:=[x])) (hφ:=hn),mv,trivial⟩ (.mQ (.bR (.dk .z))) λa w hI=>?_
 refine ai ?_
 refine aq hI 2 [Uc 0 12 _,Uc 1 13 _] (.aR .z) ⟨mv,bn,trivial⟩ (.bC (.k .z)) λa w hI=>?_
 refine mB hI (decide_eq_false hc) ?_
 refine av ?_
 refine af ?_
 refine aq hI 7 [Uc 0 14 _,Uc 1 15 _,Uc 2 16 _,Uc 3 17 _,Uc 4 18 _,Uc 5 19 _,Uc 6 4 _] (.k (.t 6 (.kk .z))) ⟨mv,By,fP 2 1 false,aE hs (pt rfl) (by kernel_rfl) (iC _ _),mv,Gr (E:=131) 3 0 hs wq ((Wx.hs).imp (bV hi)) ⟨by kernel_rfl,λ_=>by kernel_rfl⟩ (by decide) (by show(0:Int)<((1:Nat):Int); omega),mv,trivial⟩ (.d8 (.fJ .z)) λa w hI=>?_
 refine ay ?_
 exact cn hI rfl cU
theorem uK (hi:gV (λk=>[x].getD k fl) 1 s=0):K2 Tryz.prog 48 (AR l [x]) (pT s) (cZ 3 true (gY x)):=by
 intro M w0 v0 v1 hM hv0 dH
 have hn:[x].length<=1000000:=by show 1<=1000000; omega
 have hc:¬gV (λk=>[x].getD k fl) [x].length s<0:=by rw[show gV (λk=>[x].getD k fl) [x].length s=0 from hi]; decide
 refine iY (N:=20) Tryz.func48 rfl rfl rfl hM hv0 dH λa hI=>?_
 refine cQ hI 2 [⟨3,3,some 0,none,.ptr,9,1,false,pv _,[]⟩] [] [Uc 1 4 _] .z (.kk .z) ⟨bo,mv,trivial⟩ (.k .z) (.lf .z) λa w hI=>?_
 have hI:=ic hI 0 rfl (by kernel_rfl)
 dsimp only[List.eraseIdx]at hI
 refine aq hI 7 [Uc 0 6 _,Uc 1 7 _,Uc 2 8 _,Uc 3 9 _,Uc 4 10 _,Uc 5 11 _,Uc 6 5 _] (.aR .z) ⟨mv,By,fP 2 1 false,aE hs (pt rfl) (by kernel_rfl) (iC _ _),Dj,mN (ni (B:=λk=>[x].getD k fl) (s:=s)) (c1:=mM (bs:=[x])) (hφ:=hn),mv,trivial⟩ (.mQ (.bR (.dk .z))) λa w hI=>?_
 refine ai ?_
 refine aq hI 2 [Uc 0 12 _,Uc 1 13 _] (.aR .z) ⟨mv,bn,trivial⟩ (.bC (.k .z)) λa w hI=>?_
 refine mB hI (decide_eq_false hc) ?_
 refine av ?_
 refine af ?_
 refine aq hI 7 [Uc 0 14 _,Uc 1 15 _,Uc 2 16 _,Uc 3 17 _,Uc 4 18 _,Uc 5 19 _,Uc 6 4 _] (.k (.t 6 (.kk .z))) ⟨mv,By,fP 2 1 false,aE hs (pt rfl) (by kernel_rfl) (iC _ _),mv,aZ 0 ((hs).imp (mM (bs:=[x]))) ((Wx.hs).imp (bV hi)) rfl (pt rfl) Nat.zero_lt_one (by kernel_rfl) (by kernel_rfl),mv,trivial⟩ (.d8 (.fJ .z)) λa w hI=>?_
 refine ay ?_
 exact cn hI rfl cU
end Wx

namespace Wx
set_option maxRecDepth 100000
set_option maxHeartbeats 1000000
open Go Go.RowKit Go.Proofs
set_option linter.unusedVariables false
attribute [local irreducible] OpOk
def Cy (n:Int):ByteArray:=⟨(Lib.decDigits n.toNat).toArray⟩
variable {n:Int}
theorem uF (h:n<100):(Cy n).size<=2:=by
 show(Lib.decDigits n.toNat).toArray.size<=2
 rw[List.size_toArray]
 by_cases h1:n.toNat<10
 ·rw[Lib.decDigits_one h1]; simp
 ·rw[Lib.decDigits_two h1 (by omega)]; simp
theorem uH (h:0<=n/\n<100):K1 Tryz.prog 51 (pI n) (pT (Cy n)):=λM w v0 hM h0=>by
 have e:v0=.int .i64 n:=h0.out
 rw[e,show n=((n.toNat:Nat):Int) by omega]
 refine(Tryz.strconv_Itoa_small n.toNat (by omega) w).mono ?_
 rintro en w' ⟨rfl,rfl⟩
 exact⟨_,rfl,λ_ _=>rfl,Below.refl _ _⟩
section
variable {P:Program} {ops:Array Oper} {ms:List Nat} {c:bJ} {V:List Vr} {A:List Al} {G:List aI} {i d:Nat} {x y:Operand} {ty t u:TypeId} {pos:String} {au:Array Edge}
theorem Dv {sz:Nat} {ag:Bool} {q:Pred} (h:Has ms G i x (cZ sz ag q):=by exact hs) (h2:Has ms G i y (aJ (.pointer none)):=by exact hs) (hr:∀b o w,(do eqGuard .eql t x y (.pointer (some ⟨b,o,none⟩)) (.pointer none); Go.binOp .eql t (.pointer (some ⟨b,o,none⟩)) (.pointer none):Sem Value).run P w=.ok (.bool false) w:=by exactλ_ _ _=>by kernel_rfl) (hp:Post G i (pB false):=by exact pt rfl):OpOk P ops ms c V A G i ⟨some d,.binOp .eql t x y u,ty,pos,au,none⟩:=
 bk rfl rfl rfl (.inl rfl) hp λL β a w hI hd=>by
  obtain⟨b,o,cs,e,_⟩:=(h.spec hI hd).out
  have e2:a.eval y=.pointer none:=(h2.spec hI hd).out
  refine⟨.bool false,w,?_,Below.refl _ _,λ_ _=>rfl⟩
  show(do pure (Next.value (<-(do eqGuard .eql t x y (a.eval x) (a.eval y); Go.binOp .eql t (a.eval x) (a.eval y))))).run P w=_
  rw[e,e2,Sem.run_bind,hr]
  rfl
end
variable {l:HL} {x:fZ}
theorem uO {s:ByteArray} (hi:gV (λk=>[x].getD k fl) 1 s=0):K2 Tryz.prog 128 (AR l [x]) (pT s) (aJ (.pointer (some ⟨l.bb,0,none⟩))):=by
 intro M w0 v0 v1 hM hv0 dH
 refine iY (N:=13) Tryz.func128 rfl rfl rfl hM hv0 dH λa hI=>?_
 refine aq hI 1 [Uc 0 4 _] (.kk .z) ⟨mv,trivial⟩ (.aR .z) λa w hI=>?_
 refine aq hI 4 [Uc 0 6 _,Uc 1 7 _,Uc 2 8 _,Uc 3 5 _] (.aR .z) ⟨mv,mv,mN (uJ (l:=l) (x:=x) (s:=s)) (hφ:=hi),mv,trivial⟩ (.sk (.fJ .z)) λa w hI=>?_
 refine aq hI 3 [Uc 0 9 _,Uc 1 10 _,Uc 2 11 _] (.kk .z) ⟨mv,rW false,mN (iM (e:=5)),trivial⟩ (.cj (.d .z)) λa w hI=>?_
 refine aq hI 2 [Uc 0 12 _,Uc 1 4 _] (.t 1 (.k .z)) ⟨mv,mv,trivial⟩ (.cx .z) λa w hI=>?_
 refine ay ?_
 exact cn hI rfl cU
theorem Av {n:Nat} {g:Nat->ByteArray} (hi:gV (λk=>[x].getD k fl) 1 (g 0)=0/\(0<=x.2.1/\x.2.1<100)/\1<=n):K2 Tryz.prog 125 (AR l [x]) (ax 1 false n λk=>pT (g k)) (dB (pT (Cy x.2.1)) (pI 0)):=by
 intro M w0 v0 v1 hM hv0 dH
 refine iY (N:=19) Tryz.func125 rfl rfl rfl hM hv0 dH λa hI=>?_
 refine aq hI 2 [Uc 0 4 _,Uc 1 5 _] (.kk .z) ⟨mv,mv,trivial⟩ (.ae .z) λa w hI=>?_
 refine aq hI 6 [Uc 0 7 _,Uc 1 8 _,Uc 2 9 _,Uc 3 10 _,Uc 4 11 _,Uc 5 6 _] (.ae .z) ⟨mv,mv,aZ 0 hs hs rfl (pt rfl) (by omega) (by kernel_rfl) (by kernel_rfl),aE hs (pt rfl) (by kernel_rfl) (aW _),mN (uK (l:=l) (x:=x) (s:=g 0)) (hφ:=hi.1),mv,trivial⟩ (.sn (.bR (.dk .z))) λa w hI=>?_
 refine ai ?_
 refine aq hI 2 [Uc 0 12 _,Uc 1 13 _] (.aR .z) ⟨mv,Dv,trivial⟩ (.bC (.k .z)) λa w hI=>?_
 refine mB hI (rfl) ?_
 refine av ?_
 refine af ?_
 refine aq hI 7 [Uc 0 14 _,Uc 1 15 _,Uc 2 16 _,Uc 3 17 _,Uc 4 18 _,Uc 5 4 _,Uc 6 5 _] (.t 5 (.t 6 (.kk .z))) ⟨mv,By,fP (fs:=[⟨false,1,pT x.1⟩,⟨false,1,pI x.2.1⟩,⟨false,1,pB x.2.2⟩]) 1 1 false,aE hs (pt rfl) (by kernel_rfl) (fits_int _),tB (uH (n:=x.2.1)) (hφ:=hi.2.1),mv,mv,trivial⟩ (.d8 (.tC .z)) λa w hI=>?_
 refine ay ?_
 exact ki hI rfl cU cU
end Wx
