import Derived.Test.YtfnmkhlleanppaaGreatDoorJWF29
namespace Wx
set_option maxRecDepth 100000
set_option maxHeartbeats 1000000
open Go Go.RowKit Go.Proofs
set_option linter.unusedVariables false
attribute [local irreducible] OpOk
def eY (b:ByteArray) (o:Nat):Nat:=6+(bE b (o+1)).toNat
def cZ (b:ByteArray) (o:Nat):ByteArray:=b.extract (o+2) (o+2+(bE b (o+1)).toNat)
def dJ (b:ByteArray) (o:Nat):Bool:=decide (o+2<=b.size/\bE b o=165/\o+eY b o<=b.size/\gS (cZ b o)=0/\mN (cZ b o)=b.extract o (o+eY b o))
theorem fu (b:ByteArray) (o:Nat):(eY b o:Int)=2+bE b (o+1)+4:=by
 have:=jV b (o+1)
 unfold eY
 omega
variable {b:ByteArray}
theorem zf (h:(b.size:Int)<2):dJ b 0=false:=decide_eq_false λk=>by omega
theorem zg (h:(decide (bE b 0≠165)||decide ((b.size:Int)<2+bE b 1+4))=true):dJ b 0=false:=decide_eq_false λk=>by
 simp only[Bool.or_eq_true,decide_eq_true_eq]at h
 have:=fu b 0
 rcases h with h|h
 ·exact h k.2.1
 ·have:=k.2.2.1
  simp only[Nat.zero_add]at *
  omega
theorem zh (h:(decide (gS (cZ b 0)≠0)||decide (mN (cZ b 0)≠b.extract 0 (eY b 0)))=true):dJ b 0=false:=decide_eq_false λk=>by
 simp only[Bool.or_eq_true,decide_eq_true_eq]at h
 rcases h with h|h
 ·exact h k.2.2.2.1
 ·exact h (by have:=k.2.2.2.2; rwa [Nat.zero_add]at this)
theorem zi (h0:¬(b.size:Int)<2) (h1:(decide (bE b 0≠165)||decide ((b.size:Int)<2+bE b 1+4))=false) (h2:(decide (gS (cZ b 0)≠0)||decide (mN (cZ b 0)≠b.extract 0 (eY b 0)))=false):dJ b 0=true:=by
 simp only[Bool.or_eq_false_iff,decide_eq_false_iff_not,Decidable.not_not]at h1 h2
 have:=fu b 0
 refine decide_eq_true ⟨by omega,h1.1,?_,h2.1,by rw[Nat.zero_add]; exact h2.2⟩
 have:=h1.2
 simp only[Nat.zero_add]at *
 omega
variable {s:ByteArray}
theorem oL {r:ByteArray} (h:s=r):∀w v,pT s w v->pT r w v:=by subst h; exactλ_ _ h=>h
theorem xh (hz:b.size<=1000000):J1 Tryz.prog 32 (fl b) (cS (pT (if dJ b 0=true then cZ b 0 else⟨#[]⟩)) (pI (if dJ b 0=true then(eY b 0:Int)else 0))):=by
 intro M w0 v0 hM hG hv0
 have hG:=eP hG
 have hN:=fu b 0
 simp only[Nat.zero_add]at hN
 have hb1:=jV b 1
 have hsz:(cZ b 0).size<=1000000:=by unfold cZ; rw[ByteArray.size_extract]; omega
 refine gE (N:=50) Tryz.func32 rfl rfl rfl hM hv0 λa hI=>?_
 refine au hI 2 [Uc 0 2 _,Uc 1 3 _] (.k .z) ⟨mv,mv,trivial⟩ (.aP .z) λa w hI=>?_
 refine ah ?_
 refine au hI 3 [Uc 0 8 _,Uc 1 9 _,Uc 2 10 _] (.aP .z) ⟨mv,ln,bn,trivial⟩ (.bq (.dk .z)) λa w hI=>?_
 refine jy hI (λt1=>?_) (λt1=>?_)
 ·
  refine au hI 2 [Uc 0 2 _,Uc 1 3 _] (.k (.t 0 (.t 1 (.k .z)))) ⟨mv,mv,trivial⟩ (.eF (.kk .z)) λa w hI=>?_
  refine aA ?_
  refine aE ?_
  exact gq hI rfl (cC (hq:=oL (by rw[if_neg (by rw[zf t1]; exact Bool.false_ne_true)]))) (cC (hq:=bM (by rw[if_neg (by rw[zf t1]; exact Bool.false_ne_true)])))
 ·
  refine av ?_
  refine af ?_
  refine au hI 7 [Uc 0 11 _,Uc 1 12 _,Uc 2 13 _,Uc 3 14 _,Uc 4 15 _,Uc 5 16 _,Uc 6 4 _] (.ae .z) ⟨mv,De 1,aH hs (pt rfl) (by kernel_rfl) (aZ (cF _) rfl rfl),BO,bn,bn,mv,trivial⟩ (.bq (.bN (.fh .z))) λa w hI=>?_
  refine ah ?_
  refine au hI 10 [Uc 0 17 _,Uc 1 18 _,Uc 2 19 _,Uc 3 20 _,Uc 4 21 _,Uc 5 22 _,Uc 6 23 _,Uc 7 24 _,Uc 8 25 _,Uc 9 26 _] (.ae .z) ⟨mv,De 0,aH hs (pt rfl) (by kernel_rfl) (aZ (cF _) rfl rfl),bn,mv,gd λh=>er h,gd λh=>EW h,gd λh=>er h,gd λh=>lM h,pk,trivial⟩ (.ae (.d8 (.dk .z))) λa w hI=>?_
  refine tu hI (λt2=>?_) (λt2=>?_)
  ·
   refine au hI 2 [Uc 0 2 _,Uc 1 3 _] (.k (.t 0 (.t 1 (.kk .z)))) ⟨mv,mv,trivial⟩ (.gT (.td .z)) λa w hI=>?_
   refine aA ?_
   refine aE ?_
   exact gq hI rfl (cC (hq:=oL (by rw[if_neg (by rw[zg t2]; exact Bool.false_ne_true)]))) (cC (hq:=bM (by rw[if_neg (by rw[zg t2]; exact Bool.false_ne_true)])))
  ·
   refine av ?_
   refine af ?_
   have hle:(eY b 0:Int)<=b.size:=by
    simp only[Bool.or_eq_false_iff,decide_eq_false_iff_not]at t2
    omega
   refine au hI 6 [Uc 0 27 _,Uc 1 28 _,Uc 2 29 _,Uc 3 30 _,Uc 4 31 _,Uc 5 5 _] (.ae (.k .z)) ⟨mv,mv,bn,Du 2 (2+(bE b 1).toNat),yg (s:=cZ b 0),mv,trivial⟩ (.ae (.bN (.fh .z))) λa w hI=>?_
   refine au hI 7 [Uc 0 33 _,Uc 1 34 _,Uc 2 32 _,Uc 3 35 _,Uc 4 36 _,Uc 5 6 _,Uc 6 7 _] (.ae (.k .z)) ⟨mv,wq hG (qW (s:=cZ b 0)) (hφ:=hsz),mv,ext,ext,mv,mv,trivial⟩ (.ae (.eF (.pO .z))) λa w hI=>?_
   refine ah ?_
   refine CY hI [0,1,3,7,15,7,7,103,231,511,1023] [Uc 0 37 _,Uc 1 38 _,Uc 2 39 _,Uc 3 40 _,Uc 4 41 _,Uc 5 42 _,Uc 6 43 _,Uc 7 44 _,Uc 8 45 _,Uc 9 46 _,Uc 10 47 _] (.ae (.aP .z)) ⟨mv,bn,mv,gd λh=>er h,gd λh=>yg (h:=hg) (hp:=pg h rfl),gd λh=>er h,gd λh=>er h,gd λh=>bH (eY b 0) (hr:=hg) (hy:=(Wx.hg).imp (bM (by omega))) (hp:=pg h rfl),gd λh=>yg (h:=hg) (hp:=pg h rfl),gd λh=>C5 h,pk,trivial⟩ (.rX (.eF (.d8 (.dk .z)))) λa w hI=>?_
   refine tu hI (λt3=>?_) (λt3=>?_)
   ·
    refine au hI 2 [Uc 0 2 _,Uc 1 3 _] (.t 0 (.t 1 (.aP .z))) ⟨mv,mv,trivial⟩ (.pO (.td .z)) λa w hI=>?_
    refine aA ?_
    refine aE ?_
    exact gq hI rfl (cC (hq:=oL (by rw[if_neg (by rw[zh t3]; exact Bool.false_ne_true)]))) (cC (hq:=bM (by rw[if_neg (by rw[zh t3]; exact Bool.false_ne_true)])))
   ·
    refine av ?_
    refine af ?_
    refine au hI 4 [Uc 0 48 _,Uc 1 49 _,Uc 2 2 _,Uc 3 3 _] (.t 2 (.t 3 (.aP .z))) ⟨mv,mv,mv,mv,trivial⟩ (.bN (.bV (.k .z))) λa w hI=>?_
    refine aA ?_
    exact gq hI rfl (cC (hq:=oL (by rw[if_pos (zi t1 t2 t3)]))) (cC (hq:=bM (by rw[if_pos (zi t1 t2 t3)]; omega)))
variable {k:Nat}
theorem nJ (h:s.size<=k):bE s k=0:=by
 unfold bE
 rw[List.getD_eq_getElem?_getD,List.getElem?_eq_none (by rw[Array.length_toList]; exact h)]
 rfl
theorem eZ (b:ByteArray) (o k:Nat):bE (b.extract o b.size) k=bE b (o+k):=by
 by_cases h:o+k<b.size
 ·exact eG h (Nat.le_refl _)
 ·rw[nJ (by rw[ByteArray.size_extract]; omega),nJ (by omega)]
theorem ir {a e:Nat} (h:k<(s.extract a e).size):bE (s.extract a e) k=bE s (a+k):=by
 rw[dK h,dK (s:=s) (by rw[ByteArray.size_extract]at h; omega),ByteArray.getElem_extract]
theorem gp (b:ByteArray) {o e f:Nat}:(b.extract o b.size).extract e f=b.extract (o+e) (o+f):=by
 rw[ByteArray.extract_extract]
 have hs:(b.extract (o+e) (min (o+f) b.size)).size=(b.extract (o+e) (o+f)).size:=by simp only[ByteArray.size_extract]; omega
 exact wo hs λk hk=>by rw[ir hk,ir (hs▸hk)]
theorem mq (b:ByteArray) (o:Nat):eY (b.extract o b.size) 0=eY b o:=by unfold eY; rw[eZ,Nat.zero_add]
theorem mo (b:ByteArray) (o:Nat):cZ (b.extract o b.size) 0=cZ b o:=by
 unfold cZ
 rw[eZ,gp,Nat.zero_add,Nat.zero_add]
 congr 1
 omega
variable {o:Nat}
theorem sZ (h:o<=b.size):dJ (b.extract o b.size) 0=dJ b o:=by
 unfold dJ
 rw[mo,mq,eZ,gp,ByteArray.size_extract,Nat.zero_add,Nat.zero_add,Nat.add_zero]
 congr 1
 exact propext ⟨λ⟨h1,h2,h3,h4⟩=>⟨by omega,h2,by omega,h4⟩,λ⟨h1,h2,h3,h4⟩=>⟨by omega,h2,by omega,h4⟩⟩
theorem sy (h:o<=b.size/\b.size<=1000000):J1 Tryz.prog 32 (fl (b.extract o b.size)) (cS (pT (if dJ b o=true then cZ b o else⟨#[]⟩)) (pI (if dJ b o=true then(eY b o:Int)else 0))):=by
 have k:=xh (b:=b.extract o b.size) (by rw[ByteArray.size_extract]; omega)
 rw[sZ h.1,mo,mq]at k
 exact k
def bG (b:ByteArray):Nat->Nat
 |0=>0
 |k+1=>bG b k+eY b (bG b k)
def rT (b:ByteArray):Nat->Nat->Nat
 |0,q=>q
 |f+1,q=>if dJ b (bG b q)=true then rT b f (q+1)else q
def rU (b:ByteArray):Nat:=rT b b.size 0
theorem wu (h:∀j,j<k->dJ b (bG b j)=true) (hn:dJ b (bG b k)=false):∀f q,q<=k->k<=q+f->rT b f q=k:=by
 intro f
 induction f with
 |zero=>intro q h1 h2; show q=k; omega
 |succ f ih=>
  intro q h1 h2
  unfold rT
  by_cases e:q=k
  ·rw[e,hn]; exact if_neg Bool.false_ne_true
  ·rw[if_pos (h q (by omega))]
   exact ih _ (by omega) (by omega)
theorem jF (h:∀j,j<k->dJ b (bG b j)=true) (hn:dJ b (bG b k)=false) (hk:k<=b.size):rU b=k:=wu h hn _ _ (Nat.zero_le _) (by omega)
theorem vJ (h:dJ b o=true):o+eY b o<=b.size:=(of_decide_eq_true h).2.2.1
theorem rJ (b:ByteArray) (o:Nat):6<=eY b o:=Nat.le_add_right _ _
abbrev vh (b:ByteArray):Pred:=az 1 false (rU b) λq=>pT (cZ b (bG b q))
theorem jN {n m:Nat} {f:Nat->Pred} (h:n=m):∀w v,az 1 false n f w v->az 1 false m f w v:=by subst h; exactλ_ _ h=>h
theorem Aj (hz:b.size<=1000000):J1 Tryz.prog 10 (fl b) (cS (vh b) (pI (bG b (rU b)))):=by
 intro M w0 v0 hM hG hv0
 have hG:=eP hG
 refine gE (N:=26) Tryz.func10 rfl rfl rfl hM hv0 λa hI=>?_
 refine au hI 2 [Uc 0 2 _,Uc 1 3 _] (.k .z) ⟨mv,mv,trivial⟩ (.aP .z) λa w hI=>?_
 refine cD hI 1 [⟨4,4,some 0,none,.grow (0) 1,9,3,true,pv ay,[]⟩] [] [Uc 0 4 _] .z (.aP .z) ⟨AF (f:=λq=>pT (cZ b (bG b q))),trivial⟩ (.k .z) (.ae .z) λa w hI=>?_
 refine cD hI 1 [] [] [Uc 0 5 _] (.k .z) (.ae .z) ⟨mv,trivial⟩ (.k .z) (.ae (.k .z)) λa w hI=>?_
 refine aI ?_
 refine qF [] [Uz 0 _] (λ(k:Nat)=>[Gz 4 4 k 1 9]) (λ(k:Nat)=>[Uz 4 (az 1 false k λq=>pT (cZ b (bG b q))),Uz 5 (pI (bG b (k):Int))]) (λ(k:Nat)=>(∀j,j<k->dJ b (bG b j)=true)/\bG b (k)<=b.size/\6*(k)<=bG b (k)) (λ(k:Nat)=>b.size-k) (0) ⟨λ_ h=>absurd h (Nat.not_lt_zero _),Nat.zero_le _,Nat.le_refl _⟩ hI ⟨vG,trivial⟩ ⟨gi,gc,gc,trivial⟩ ?_
 intro k a w hk hI
 refine aI ?_
 refine cD hI 9 [] [] [Uc 0 9 _,Uc 1 10 _,Uc 2 11 _,Uc 3 12 _,Uc 4 8 _,Uc 5 13 _,Uc 6 14 _,Uc 7 6 _,Uc 8 7 _] (.k .z) (.aP .z) ⟨mv,mv,bL (bG b k) (hl:=hk.2.1),wq hG (sy (o:=bG b k)) (hφ:=⟨hk.2.1,hz⟩),mv,ext,ext,mv,mv,trivial⟩ (.k .z) (.bq (.bN (.pO .z))) λa w hI=>?_
 refine ah ?_
 refine cD hI 2 [] [] [Uc 0 15 _,Uc 1 16 _] (.k .z) (.ae (.k .z)) ⟨mv,bn,trivial⟩ (.k .z) (.ae (.kU .z)) λa w hI=>?_
 refine jy hI (λt1=>?_) (λt1=>?_)
 ·
  have hw:dJ b (bG b k)=false:=by
   cases hx:dJ b (bG b k)
   ·rfl
   ·rw[if_pos hx]at t1; have:=rJ b (bG b k); omega
  have hK:=jF hk.1 hw (by omega)
  refine cD hI 4 [⟨17,17,some 0,some 2,.grow (k) 1,9,3,true,pv ay,[]⟩,⟨2,2,some 2,none,.grow (k) 1,9,3,true,pv ay,[]⟩] [] [Uc 0 17 _,Uc 1 18 _,Uc 2 2 _,Uc 3 3 _] (.u (some 0) [] .z) (.ae (.kk .z)) ⟨sB,mv,pD,mv,trivial⟩ (.d (.d (.k .z))) (.ae (.eF (.kk .z))) λa w hI=>?_
  refine aA ?_
  refine aE ?_
  refine bJ ?_
  refine aE ?_
  refine bJ ?_
  exact gq hI rfl (cC (hq:=jN hK.symm)) (cC (hq:=bM (by rw[hK])))
 ·
  refine av ?_
  refine af ?_
  have hw:dJ b (bG b k)=true:=by
   cases hx:dJ b (bG b k)
   ·rw[if_neg (by rw[hx]; exact Bool.false_ne_true)]at t1; exact absurd rfl t1
   ·rfl
  rw[if_pos hw,if_pos hw]at hI
  have hle:=vJ hw
  have hge:=rJ b (bG b k)
  have vU:bG b (k+1)=bG b k+eY b (bG b k):=rfl
  refine Dj hI 9 7 [⟨19,19,some 0,some 3,.grow (k) 1,9,3,true,pv ay,[]⟩,⟨22,22,some 3,none,.grow (k+1) 1,9,3,true,pv ay,[]⟩] [] [Uc 0 19 _,Uc 1 20 _,Uc 2 21 _,Uc 3 22 _,Uc 4 23 _,Uc 5 24 _,Uc 6 25 _] (.u (some 0) [] .z) (.ae (.kk .z)) ⟨sB,mv,wj 9,Dr (f:=λq=>pT (cZ b (bG b q))) (λ_=>aT _) (aT _) (λ_ _ h=>h),mv,mv,bn,trivial⟩ (.d (.d (.k .z))) (.eF (.bN (.nP (.k .z)))) (⟨_,bj [⟨4,4,some 0,none,.grow (k+1) 1,9,3,true,pv ay,[]⟩] [] [Uc 0 4 _] (.u (some 0) [] .z) (.aP .z) (pD) (.d (.k .z)) (.oo .z),⟨_,bj [] [] [Uc 0 5 _] (.k .z) (.aP .z) (mv) (.k .z) (.oo .z),rfl⟩⟩) λa w hI=>?_
  refine bF ?_
  refine af ?_
  exact pq (k+1) ⟨λj hj=>if e:j=k then by rw[e]; exact hw else hk.1 j (by omega),by rw[vU]; exact hle,by omega⟩ hI ⟨vG,trivial⟩ ⟨gc,gc,gc,trivial⟩ (by omega)
end Wx
