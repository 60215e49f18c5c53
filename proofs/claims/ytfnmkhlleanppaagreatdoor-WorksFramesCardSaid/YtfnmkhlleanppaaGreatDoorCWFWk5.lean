import Derived.Test.YtfnmkhlleanppaaGreatDoorJWF31
namespace Wx
set_option maxRecDepth 100000
set_option maxHeartbeats 1000000
open Go Go.RowKit Go.Proofs
set_option linter.unusedVariables false
attribute [local irreducible] OpOk
variable {L:List ByteArray}
theorem uM (hr:L=[]):∀w v,aL (.slice none 0 0) w v->ry L w v:=by
 subst hr
 rintro w v rfl
 exact⟨none,0,rfl,Nat.le_refl _,by decide,λh=>absurd h (Nat.lt_irrefl _)⟩
theorem xL {K:List ByteArray} {n:Nat} (h:K=L) (hn:n=L.length):∀w v,az 1 false n (λq=>pT (L.getD q ⟨#[]⟩)) w v->ry K w v:=by
 subst h hn
 exactλ_ _ h=>h
variable {s:ByteArray}
theorem xH (hz:s.size<=1000000):K1 Tryz.prog 31 (pT s) (ry (hU s)):=by
 intro M w0 v0 hM hv0
 refine gE (N:=53) Tryz.func31 rfl rfl rfl hM hv0 λa hI=>?_
 refine au hI 1 [Uc 0 2 _] (.k .z) ⟨mv,trivial⟩ (.kk .z) λa w hI=>?_
 refine cD hI 1 [⟨3,3,some 0,none,.grow (0) 1,9,3,true,pv ay,[]⟩] [] [Uc 0 3 _] .z (.kk .z) ⟨AF (f:=λq=>pT ((ak s).getD q ⟨#[]⟩)),trivial⟩ (.k .z) (.aP .z) λa w hI=>?_
 refine cD hI 1 [] [] [Uc 0 4 _] (.k .z) (.aP .z) ⟨mv,trivial⟩ (.k .z) (.ae .z) λa w hI=>?_
 refine ah ?_
 refine cD hI 1 [] [] [Uc 0 5 _] (.k .z) (.ae .z) ⟨mv,trivial⟩ (.k .z) (.ae (.k .z)) λa w hI=>?_
 refine aI ?_
 refine qF [] [Uz 0 _] (λ(k:Nat×Nat×Nat)=>[Gz 3 3 k.2.1 1 9]) (λ(k:Nat×Nat×Nat)=>[Uz 3 (az 1 false k.2.1 λq=>pT ((ak s).getD q ⟨#[]⟩)),Uz 4 (pI (k.2.2:Int)),Uz 5 (pI (k.1:Int))]) (λ(k:Nat×Nat×Nat)=>jS s k.1 k.2.1 k.2.2) (λ(k:Nat×Nat×Nat)=>s.size+1-k.1) ((0,0,0)) (Bg s) hI ⟨vG,trivial⟩ ⟨gi,gc,gc,gc,trivial⟩ ?_
 intro k a w hk hI
 refine ah ?_
 refine cD hI 4 [] [] [Uc 0 6 _,Uc 1 7 _,Uc 2 8 _,Uc 3 9 _] (.k .z) (.ae .z) ⟨mv,mv,oz,bn,trivial⟩ (.k .z) (.ae (.bV .z)) λa w hI=>?_
 refine jy hI (λt1=>?_) (λt1=>?_)
 ·
  have hi:k.1<=s.size:=by omega
  have je:=hk.mid hi
  have FX:=hk.DM
  refine av ?_
  refine af ?_
  refine ah ?_
  refine aI ?_
  refine ah ?_
  refine cD hI 16 [] [] [Uc 0 12 _,Uc 1 13 _,Uc 2 14 _,Uc 3 15 _,Uc 4 16 _,Uc 5 17 _,Uc 6 18 _,Uc 7 19 _,Uc 8 20 _,Uc 9 21 _,Uc 10 22 _,Uc 11 23 _,Uc 12 24 _,Uc 13 25 _,Uc 14 26 _,Uc 15 27 _] (.k .z) (.ae (.k .z)) ⟨mv,mv,oz,bn,mv,gd λh=>er h,gd λh=>er h,gd λh=>Bv k.1 (h:=hg) (hy:=hg) (hk:=by simp only[decide_eq_true_eq]at h; omega) (hp:=pg h rfl),gd λh=>lM h,pk,mv,gd λh=>er h,gd λh=>er h,gd λh=>Bv k.1 (h:=hg) (hy:=hg) (hk:=by simp only[Bool.and_eq_true,decide_eq_true_eq]at h; omega) (hp:=pg h rfl),gd λh=>lM h,pk,trivial⟩ (.k .z) (.ae (.d8 (.d8 (.k .z)))) λa w hI=>?_
  refine tu hI (λt2=>?_) (λt2=>?_)
  ·
   have hgo:=xW t2
   refine bZ ?_
   refine aB ?_
   refine aW ?_
   refine af ?_
   refine tv hI 3 [] [] [Uc 0 10 _,Uc 1 11 _,Uc 2 5 _] (.k .z) (.aP (.t 2 (.k .z))) ⟨mv,bn,mv,trivial⟩ (.k .z) (.bq (.bV .z)) λa w hI=>?_
   refine af ?_
   exact pq ((k.1+1,k.2.1,k.2.2)) (xU hk hgo.1 hgo.2) hI ⟨vG,trivial⟩ ⟨gc,gc,gc,gc,trivial⟩ (by(show s.size+1-(k.1+1)<s.size+1-k.1); omega)
  ·
   refine av ?_
   refine af ?_
   refine ah ?_
   refine cD hI 15 [] [] [Uc 0 28 _,Uc 1 29 _,Uc 2 30 _,Uc 3 31 _,Uc 4 32 _,Uc 5 33 _,Uc 6 34 _,Uc 7 35 _,Uc 8 36 _,Uc 9 37 _,Uc 10 38 _,Uc 11 39 _,Uc 12 40 _,Uc 13 41 _,Uc 14 42 _] (.k .z) (.ae (.k .z)) ⟨mv,mv,oz,bn,mv,gd λh=>er h,gd λh=>er h,gd λh=>Bv k.1 (h:=hg) (hy:=hg) (hk:=by simp only[decide_eq_true_eq]at h; omega) (hp:=pg h rfl),gd λh=>lM h,pk,mv,gd λh=>er h,gd λh=>er h,gd λh=>lM h,pk,trivial⟩ (.k .z) (.ae (.d8 (.bN (.bV .z)))) λa w hI=>?_
   refine tu hI (λt3=>?_) (λt3=>?_)
   ·
    have hno:=xX hk hi t2 t3
    refine cD hI 1 [] [] [Uc 0 2 _] (.k .z) (.ae (.k .z)) ⟨mv,trivial⟩ (.k .z) (.ae (.dk .z)) λa w hI=>?_
    refine aA ?_
    refine aE ?_
    refine bJ ?_
    refine aE ?_
    refine aE ?_
    refine bJ ?_
    refine aE ?_
    exact cu hI rfl (cC (hq:=uM (tc hno)))
   ·
    refine av ?_
    refine af ?_
    have hcut:=vM hk hi t3
    refine jn hI 8 7 [⟨43,43,some 0,some 6,.grow (k.2.1) 1,9,3,true,pv ay,[]⟩,⟨49,49,some 6,none,.grow (k.2.1+1) 1,9,3,true,pv ay,[]⟩] [] [Uc 0 43 _,Uc 1 44 _,Uc 2 45 _,Uc 3 46 _,Uc 4 47 _,Uc 5 48 _,Uc 6 49 _] (.u (some 0) [] .z) (.ae (.k .z)) ⟨sB,mv,mv,mv,EC k.2.2 k.1 (hj:=je.1),wj 9,Dr (f:=λq=>pT ((ak s).getD q ⟨#[]⟩)) (λ_=>aT _) (aT _) (oL hcut.2.symm),trivial⟩ (.d (.d (.k .z))) (.gT (.bN (.bV .z))) (⟨_,bj [⟨3,3,some 0,none,.grow (k.2.1+1) 1,9,3,true,pv ay,[]⟩] [] [Uc 0 3 _] (.u (some 0) [] .z) (.aP .z) (pD) (.d (.k .z)) (.bQ .z),rfl⟩) λa w hI=>?_
    refine tv hI 3 [] [] [Uc 0 50 _,Uc 1 51 _,Uc 2 4 _] (.k .z) (.aP .z) ⟨mv,bn,mv,trivial⟩ (.k .z) (.bq (.dk .z)) λa w hI=>?_
    refine bF ?_
    refine af ?_
    refine tv hI 3 [] [] [Uc 0 10 _,Uc 1 11 _,Uc 2 5 _] (.k .z) (.k (.t 2 (.kk .z))) ⟨mv,bn,mv,trivial⟩ (.k .z) (.oo (.fh .z)) λa w hI=>?_
    refine af ?_
    exact pq ((k.1+1,k.2.1+1,k.1+1)) hcut.1 hI ⟨vG,trivial⟩ ⟨gc,gc,gc,gc,trivial⟩ (by(show s.size+1-(k.1+1)<s.size+1-k.1); omega)
 ·
  have hend:=vL hk (by have:=hk.le; omega)
  refine bZ ?_
  refine aB ?_
  refine aB ?_
  refine aW ?_
  refine af ?_
  refine cD hI 2 [⟨52,52,some 0,some 1,.grow (k.2.1) 1,9,3,true,pv ay,[]⟩,⟨2,2,some 1,none,.grow (k.2.1) 1,9,3,true,pv ay,[]⟩] [] [Uc 0 52 _,Uc 1 2 _] (.u (some 0) [] .z) (.ae (.k .z)) ⟨sB,pD,trivial⟩ (.d (.d (.k .z))) (.bN (.fh .z)) λa w hI=>?_
  refine aA ?_
  exact cu hI rfl (cC (hq:=xL (qG hend.1) hend.2))
variable {k:Nat}
theorem tX {m:Nat} (hm:m=2) (hk:k<m):bE (pe s) k=[165,xR s.size].getD k 0:=by
 subst hm
 unfold pe
 rw[fG,if_pos (by rw[ByteArray.size_append,(dr s).1]; omega),fG,if_pos (by rw[(dr s).1]; exact hk)]
 match k,hk with
 |0,_=>exact(dr s).2.1
 |1,_=>exact(dr s).2.2
theorem wD (hk:k<s.size):bE (pe s) (2+k)=bE s k:=by
 unfold pe
 rw[fG,if_pos (by rw[ByteArray.size_append,(dr s).1]; omega),fG,if_neg (by rw[(dr s).1]; omega),(dr s).1,show 2+k-2=k by omega]
theorem sj (hk:k<4):bE (pe s) (2+s.size+k)=xR (lD 0 s/2^(8*k)%256):=by
 rw[nX hk,qC,qC]
 omega
variable {m:Int}
theorem rz {n:Int} (h:m=n):∀w v,dn m w v->dn n w v:=by subst h; exactλ_ _ h=>h
theorem BS (m:Int):m=m/2^(8*0):=by rw[show(2:Int)^(8*0)=1 from rfl,Int.ediv_one]
theorem BU (m:Int) (j:Nat):m/2^(8*j)/256=m/2^(8*(j+1)):=by
 rw[Int.ediv_ediv_of_nonneg (Int.le_of_lt (Int.pow_pos (by decide))),show 8*(j+1)=8*j+8 by omega,Int.pow_add]
 rfl
theorem tK (h:0<=m/\m<=4294967295) (j:Nat):0<=m/2^j/\m/2^j<=4294967295:=by
 have hp:(0:Int)<2^j:=Int.pow_pos (by decide)
 exact⟨Int.ediv_nonneg h.1 (Int.le_of_lt hp),Int.le_trans (Int.ediv_le_self _ h.1) h.2⟩
theorem rK (h:((hU s).length:Int)=0):bg s=false:=(my s).1 (by omega)
theorem xY (h:¬((hU s).length:Int)=0):bg s=true:=by
 cases e:bg s
 ·exact absurd (by rw[(my s).2 e]; rfl) h
 ·rfl
theorem rC (hz:s.size<=1000000):K1 Tryz.prog 9 (pT s) (cS (fl (mN s)) (pI (gS s))):=by
 intro M w0 v0 hM hv0
 refine gE (N:=46) Tryz.func9 rfl rfl rfl hM hv0 λa hI=>?_
 refine au hI 2 [Uc 0 2 _,Uc 1 3 _] (.k .z) ⟨mv,mv,trivial⟩ (.aP .z) λa w hI=>?_
 refine ah ?_
 refine au hI 3 [Uc 0 8 _,Uc 1 9 _,Uc 2 10 _] (.aP .z) ⟨mv,oz,bn,trivial⟩ (.bq (.dk .z)) λa w hI=>?_
 refine jy hI (λt1=>?_) (λt1=>?_)
 ·
  refine au hI 2 [Uc 0 2 _,Uc 1 3 _] (.k (.t 0 (.t 1 (.k .z)))) ⟨mv,mv,trivial⟩ (.eF (.kk .z)) λa w hI=>?_
  refine aA ?_
  refine aE ?_
  exact gq hI rfl (cC (hq:=jK (jH (by rw[iD t1]; decide)))) (cC (hq:=bM (iD t1).symm))
 ·
  refine av ?_
  refine af ?_
  refine ah ?_
  refine au hI 4 [Uc 0 11 _,Uc 1 12 _,Uc 2 13 _,Uc 3 14 _] (.ae .z) ⟨mv,oZ xH,ln,bn,trivial⟩ (.bq (.bV .z)) λa w hI=>?_
  refine jy hI (λt2=>?_) (λt2=>?_)
  ·
   refine au hI 2 [Uc 0 2 _,Uc 1 3 _] (.k (.t 0 (.t 1 (.k .z)))) ⟨mv,mv,trivial⟩ (.eF (.kk .z)) λa w hI=>?_
   refine aA ?_
   refine aE ?_
   exact gq hI rfl (cC (hq:=jK (jH (by rw[jI t1 (rK t2)]; decide)))) (cC (hq:=bM (jI t1 (rK t2)).symm))
  ·
   refine av ?_
   refine af ?_
   have Cf:=xY t2
   have hpos:=oy Cf
   have he:=nW t1 Cf
   refine jn hI 5 3 [] [] [Uc 0 15 _,Uc 1 16 _,Uc 2 17 _] .z (.ae .z) ⟨mv,oz,BP,trivial⟩ .z (.bq (.fh .z)) (⟨_,Dz 5,⟨_,bj [⟨4,4,some 0,none,.grow (2) 1,5,3,true,pv ay,[]⟩] [] [Uc 0 4 _] (.u (some 0) [] .z) (.ae (.k .z)) (pD) (.d (.k .z)) (.rX (.dk .z)),rfl⟩⟩) λa w hI=>?_
   refine ah ?_
   refine cD hI 1 [] [] [Uc 0 5 _] (.k .z) (.ae .z) ⟨mv,trivial⟩ (.k .z) (.ae (.k .z)) λa w hI=>?_
   refine aI ?_
   refine qF [] [Uz 0 _,Uz 2 _,Uz 3 _] (λ(i:Nat)=>[Gz 4 4 (2+i) 1 5]) (λ(i:Nat)=>[Uz 5 (pI (i:Int)),Uz 4 (az 1 false (2+i) λk=>fO (bE (pe s) k))]) (λ(i:Nat)=>i<=s.size) (λ(i:Nat)=>s.size-i) (0) (Nat.zero_le _) hI ⟨vG,trivial⟩ ⟨gi,gi,gi,gc,gC (dS λk hk w v h=>by rw[tX rfl hk]; exact h),trivial⟩ ?_
   intro i a w hp hI
   refine ah ?_
   refine cD hI 4 [] [] [Uc 0 19 _,Uc 1 20 _,Uc 2 21 _,Uc 3 22 _] (.k .z) (.ae (.k .z)) ⟨mv,mv,oz,bn,trivial⟩ (.k .z) (.ae (.eF (.k .z))) λa w hI=>?_
   refine jy hI (λt3=>?_) (λt3=>?_)
   ·
    refine av ?_
    refine af ?_
    refine ah ?_
    refine aI ?_
    refine Dj hI 7 6 [⟨25,25,some 0,some 5,.grow (2+i) 1,5,3,true,pv ay,[]⟩,⟨30,30,some 5,none,.grow (2+i+1) 1,5,3,true,pv ay,[]⟩] [] [Uc 0 25 _,Uc 1 26 _,Uc 2 27 _,Uc 3 28 _,Uc 4 29 _,Uc 5 30 _] (.u (some 0) [] .z) (.ae (.kk .z)) ⟨sB,mv,mv,Bv i,zx 5,Dp (wD (s:=s) (k:=i) (by omega)),trivial⟩ (.d (.d (.k .z))) (.ae (.bN (.bV .z))) (⟨_,bj [⟨4,4,some 0,none,.grow (2+i+1) 1,5,3,true,pv ay,[]⟩] [] [Uc 0 4 _] (.u (some 0) [] .z) (.ae (.k .z)) (pD) (.d (.k .z)) (.ae (.dk .z)),rfl⟩) λa w hI=>?_
    refine bF ?_
    refine af ?_
    refine tv hI 3 [] [] [Uc 0 23 _,Uc 1 24 _,Uc 2 5 _] (.k .z) (.aP (.t 2 (.k .z))) ⟨mv,bn,mv,trivial⟩ (.k .z) (.bq (.gT .z)) λa w hI=>?_
    refine af ?_
    exact pq (i+1) (by omega) hI ⟨vG,trivial⟩ ⟨gc,gc,gc,gc,gc,trivial⟩ (by omega)
   ·
    obtain rfl:i=s.size:=by omega
    refine bZ ?_
    refine aB ?_
    refine aB ?_
    refine aW ?_
    refine af ?_
    refine cD hI 3 [] [] [Uc 0 31 _,Uc 1 32 _,Uc 2 6 _] (.k .z) (.ae (.kk .z)) ⟨mv,mH (yY (h:=0)),mv,trivial⟩ (.k .z) (.mJ (.eF (.k .z))) λa w hI=>?_
    refine ah ?_
    refine cD hI 1 [] [] [Uc 0 7 _] (.k .z) (.ae .z) ⟨mv,trivial⟩ (.k .z) (.ae (.k .z)) λa w hI=>?_
    refine aI ?_
    refine qF [] [Uz 2 _,Uz 3 _] (λ(j:Nat)=>[Gz 4 4 (2+s.size+j) 1 5]) (λ(j:Nat)=>[Uz 7 (pI (j:Int)),Uz 6 (dn (lD 0 s/2^(8*(j)))),Uz 4 (az 1 false (2+s.size+j) λk=>fO (bE (pe s) k))]) (λ(j:Nat)=>j<=4) (λ(j:Nat)=>4-j) (0) (Nat.zero_le _) hI ⟨vG,trivial⟩ ⟨gi,gi,gc,gC (rz (BS _)),gc,trivial⟩ ?_
    intro j a w hj hI
    refine ah ?_
    refine cD hI 2 [] [] [Uc 0 33 _,Uc 1 34 _] (.k .z) (.ae (.k .z)) ⟨mv,bn,trivial⟩ (.k .z) (.ae (.kU .z)) λa w hI=>?_
    refine jy hI (λt4=>?_) (λt4=>?_)
    ·
     refine av ?_
     refine af ?_
     refine ah ?_
     refine aI ?_
     refine jn hI 7 6 [⟨37,37,some 0,some 5,.grow (2+s.size+j) 1,5,3,true,pv ay,[]⟩,⟨42,42,some 5,none,.grow (2+s.size+j+1) 1,5,3,true,pv ay,[]⟩] [] [Uc 0 37 _,Uc 1 38 _,Uc 2 39 _,Uc 3 40 _,Uc 4 41 _,Uc 5 42 _] (.u (some 0) [] .z) (.ae (.kk .z)) ⟨sB,mv,Ex (hm:=tK (rI s) _),ye,zx 5,Dp (sj (s:=s) (k:=j) (by omega)),trivial⟩ (.d (.d (.k .z))) (.ae (.bN (.bV .z))) (⟨_,bj [⟨4,4,some 0,none,.grow (2+s.size+j+1) 1,5,3,true,pv ay,[]⟩] [] [Uc 0 4 _] (.u (some 0) [] .z) (.ae (.k .z)) (pD) (.d (.k .z)) (.ae (.dk .z)),rfl⟩) λa w hI=>?_
     refine tv hI 3 [] [] [Uc 0 43 _,Uc 1 44 _,Uc 2 6 _] (.k .z) (.aP (.t 2 (.k .z))) ⟨mv,Er (hm:=tK (rI s) _),mv,trivial⟩ (.k .z) (.bq (.gT .z)) λa w hI=>?_
     refine bF ?_
     refine af ?_
     refine tv hI 3 [] [] [Uc 0 35 _,Uc 1 36 _,Uc 2 7 _] (.k .z) (.kk (.t 2 (.kk .z))) ⟨mv,bn,mv,trivial⟩ (.k .z) (.bQ (.gT .z)) λa w hI=>?_
     refine af ?_
     exact pq (j+1) (by omega) hI ⟨vG,trivial⟩ ⟨gc,gc,gc,gC (rz (BU _ _)),gc,trivial⟩ (by omega)
    ·
     refine bZ ?_
     refine aB ?_
     refine aB ?_
     refine aW ?_
     refine af ?_
     refine cD hI 3 [⟨45,45,some 0,some 1,.grow (2+s.size+j) 1,5,3,true,pv ay,[]⟩,⟨2,2,some 1,none,.grow (2+s.size+j) 1,5,3,true,pv ay,[]⟩] [] [Uc 0 45 _,Uc 1 2 _,Uc 2 3 _] (.u (some 0) [] .z) (.t 1 (.t 2 (.ae .z))) ⟨sB,pD,mv,trivial⟩ (.d (.d (.k .z))) (.bN (.bV (.k .z))) λa w hI=>?_
     refine aA ?_
     exact gq hI rfl (cC (hq:=λw v h=>by rw[nU he]; exact qN (by omega) w v h)) (cC (hq:=bM he.symm))
variable {b:ByteArray} {o:Nat}
theorem Es (h:(decide ((o:Int)+1<b.size)&&decide (bE b o=165))=false):dJ b o=false:=decide_eq_false λk=>by
 simp only[Bool.and_eq_false_iff,decide_eq_false_iff_not]at h
 rcases h with h|h
 ·exact h (by have:=k.1; omega)
 ·exact h k.2.1
theorem Et (h:(o:Int)+6+bE b (o+1)>b.size):dJ b o=false:=decide_eq_false λk=>by
 have:=fu b o
 have:=k.2.2.1
 omega
theorem Eu (h:(decide (gS (cZ b o)≠0)||decide (mN (cZ b o)≠b.extract o (o+eY b o)))=true):dJ b o=false:=decide_eq_false λk=>by
 simp only[Bool.or_eq_true,decide_eq_true_eq]at h
 rcases h with h|h
 ·exact h k.2.2.2.1
 ·exact h k.2.2.2.2
theorem Ev (h0:(decide ((o:Int)+1<b.size)&&decide (bE b o=165))=true) (h1:¬(o:Int)+6+bE b (o+1)>b.size) (h2:(decide (gS (cZ b o)≠0)||decide (mN (cZ b o)≠b.extract o (o+eY b o)))=false):dJ b o=true:=by
 simp only[Bool.or_eq_false_iff,decide_eq_false_iff_not,Decidable.not_not]at h2
 simp only[Bool.and_eq_true,decide_eq_true_eq]at h0
 have:=fu b o
 exact decide_eq_true ⟨by omega,h0.2,by omega,h2.1,h2.2⟩
theorem A5 (hz:b.size<=1000000):K1 Tryz.prog 11 (fl b) (cS (vh b) (pI (bG b (rU b)))):=by
 intro M w0 v0 hM hv0
 refine gE (N:=74) Tryz.func11 rfl rfl rfl hM hv0 λa hI=>?_
 refine au hI 2 [Uc 0 2 _,Uc 1 3 _] (.k .z) ⟨mv,mv,trivial⟩ (.aP .z) λa w hI=>?_
 refine cD hI 1 [⟨4,4,some 0,none,.grow (0) 1,9,3,true,pv ay,[]⟩] [] [Uc 0 4 _] .z (.aP .z) ⟨AF (f:=λq=>pT (cZ b (bG b q))),trivial⟩ (.k .z) (.ae .z) λa w hI=>?_
 refine cD hI 1 [] [] [Uc 0 5 _] (.k .z) (.ae .z) ⟨mv,trivial⟩ (.k .z) (.ae (.k .z)) λa w hI=>?_
 refine ah ?_
 refine aI ?_
 refine qF [] [Uz 0 _,Uz 2 _,Uz 3 _] (λ(k:Nat)=>[Gz 4 4 k 1 9]) (λ(k:Nat)=>[Uz 4 (az 1 false k λq=>pT (cZ b (bG b q))),Uz 5 (pI (bG b (k):Int))]) (λ(k:Nat)=>(∀j,j<k->dJ b (bG b j)=true)/\bG b (k)<=b.size/\6*(k)<=bG b (k)) (λ(k:Nat)=>b.size-k) (0) ⟨λ_ h=>absurd h (Nat.not_lt_zero _),Nat.zero_le _,Nat.le_refl _⟩ hI ⟨vG,trivial⟩ ⟨gi,gi,gi,gc,gc,trivial⟩ ?_
 intro k a w hk hI
 have hN:=fu b (bG b k)
 have hb1:=jV b (bG b k+1)
 have hsz:(cZ b (bG b k)).size<=1000000:=by unfold cZ; rw[ByteArray.size_extract]; omega
 refine ah ?_
 refine cD hI 12 [] [] [Uc 0 10 _,Uc 1 11 _,Uc 2 12 _,Uc 3 13 _,Uc 4 14 _,Uc 5 15 _,Uc 6 16 _,Uc 7 17 _,Uc 8 18 _,Uc 9 19 _,Uc 10 20 _,Uc 11 21 _] (.k .z) (.ae (.k .z)) ⟨mv,bn,mv,ln,bn,mv,gd λh=>er h,gd λh=>er h,gd λh=>De (bG b k) (h:=hg) (hy:=hg) (hk:=by simp only[decide_eq_true_eq]at h; omega) (hp:=pg h rfl),gd λh=>aH hg (pg h rfl) (by kernel_rfl) (aZ (cF _) rfl rfl),gd λh=>lM h,pk,trivial⟩ (.k .z) (.ae (.eF (.d8 (.k .z)))) λa w hI=>?_
 refine tu hI (λt1=>?_) (λt1=>?_)
 ·
  refine av ?_
  refine af ?_
  refine aI ?_
  have Br:bG b k+1<b.size:=by
   simp only[Bool.and_eq_true,decide_eq_true_eq]at t1
   omega
  refine cD hI 7 [] [] [Uc 0 22 _,Uc 1 23 _,Uc 2 24 _,Uc 3 25 _,Uc 4 26 _,Uc 5 27 _,Uc 6 6 _] (.k .z) (.ae (.kk .z)) ⟨mv,mv,bn,De (bG b k+1),aH hs (pt rfl) (by kernel_rfl) (aZ (cF _) rfl rfl),BO,mv,trivial⟩ (.k .z) (.ae (.eF (.bN (.k .z)))) λa w hI=>?_
  refine ah ?_
  refine cD hI 7 [] [] [Uc 0 28 _,Uc 1 29 _,Uc 2 30 _,Uc 3 31 _,Uc 4 32 _,Uc 5 33 _,Uc 6 34 _] (.k .z) (.ae (.kk .z)) ⟨mv,bn,mv,bn,mv,ln,bn,trivial⟩ (.k .z) (.ae (.cg (.bN (.k .z)))) λa w hI=>?_
  refine jy hI (λt2=>?_) (λt2=>?_)
  ·
   have hw:=Et t2
   have hK:=jF hk.1 hw (by omega)
   refine bZ ?_
   refine aB ?_
   refine gO (by decide) ?_
   refine aB ?_
   refine aW ?_
   refine af ?_
   refine cD hI 4 [⟨72,72,some 0,some 2,.grow (k) 1,9,3,true,pv ay,[]⟩,⟨2,2,some 2,none,.grow (k) 1,9,3,true,pv ay,[]⟩] [] [Uc 0 72 _,Uc 1 73 _,Uc 2 2 _,Uc 3 3 _] (.u (some 0) [] .z) (.k (.t 2 (.t 3 (.ae .z)))) ⟨sB,mv,pD,mv,trivial⟩ (.d (.d (.k .z))) (.d8 (.td .z)) λa w hI=>?_
   refine aA ?_
   exact gq hI rfl (cC (hq:=jN hK.symm)) (cC (hq:=bM (by rw[hK])))
  ·
   refine av ?_
   refine af ?_
   refine cD hI 10 [] [] [Uc 0 35 _,Uc 1 36 _,Uc 2 37 _,Uc 3 38 _,Uc 4 39 _,Uc 5 40 _,Uc 6 41 _,Uc 7 42 _,Uc 8 43 _,Uc 9 7 _] (.k .z) (.ae (.aP .z)) ⟨mv,mv,bn,mv,bn,mv,bn,Du (bG b k+2) (bG b k+2+(bE b (bG b k+1)).toNat),yg (s:=cZ b (bG b k)),mv,trivial⟩ (.k .z) (.ae (.cg (.d8 (.k .z)))) λa w hI=>?_
   refine cD hI 7 [] [] [Uc 0 45 _,Uc 1 46 _,Uc 2 44 _,Uc 3 47 _,Uc 4 48 _,Uc 5 8 _,Uc 6 9 _] (.k .z) (.ae (.aP .z)) ⟨mv,oZ (rC (s:=cZ b (bG b k))) (hφ:=hsz),mv,ext,ext,mv,mv,trivial⟩ (.k .z) (.ae (.bq (.bN (.kk .z)))) λa w hI=>?_
   refine ah ?_
   refine vV hI [0,1,3,7,15,7,7,7,135,7,903,2023,4071,8191,16383] [] [] [Uc 0 49 _,Uc 1 50 _,Uc 2 51 _,Uc 3 52 _,Uc 4 53 _,Uc 5 54 _,Uc 6 55 _,Uc 7 56 _,Uc 8 57 _,Uc 9 58 _,Uc 10 59 _,Uc 11 60 _,Uc 12 61 _,Uc 13 62 _,Uc 14 63 _] (.k .z) (.k8 (.k .z)) ⟨mv,bn,mv,gd λh=>er h,gd λh=>yg (h:=hg) (hp:=pg h rfl),gd λh=>er h,gd λh=>er h,gd λh=>er h,gd λh=>lM h,gd λh=>er h,gd λh=>lM h,gd λh=>Du (bG b k) (bG b k+eY b (bG b k)) (hr:=hg) (hy:=hg) (hz:=(Wx.hg).imp (bM (by omega))) (hp:=pg h rfl),gd λh=>yg (h:=hg) (hp:=pg h rfl),gd λh=>C5 h,pk,trivial⟩ (.k .z) (.ae (.bq (.d8 (.bN (.bV .z))))) λa w hI=>?_
   refine tu hI (λt3=>?_) (λt3=>?_)
   ·
    have hw:=Eu t3
    have hK:=jF hk.1 hw (by omega)
    refine bZ ?_
    refine aB ?_
    refine gO (by decide) ?_
    refine aB ?_
    refine aW ?_
    refine af ?_
    refine cD hI 4 [⟨72,72,some 0,some 2,.grow (k) 1,9,3,true,pv ay,[]⟩,⟨2,2,some 2,none,.grow (k) 1,9,3,true,pv ay,[]⟩] [] [Uc 0 72 _,Uc 1 73 _,Uc 2 2 _,Uc 3 3 _] (.u (some 0) [] .z) (.k (.t 2 (.t 3 (.ae (.k .z))))) ⟨sB,mv,pD,mv,trivial⟩ (.d (.d (.k .z))) (.d8 (.pO .z)) λa w hI=>?_
    refine aA ?_
    exact gq hI rfl (cC (hq:=jN hK.symm)) (cC (hq:=bM (by rw[hK])))
   ·
    have hw:=Ev t1 t2 t3
    have hle:=vJ hw
    have vU:bG b (k+1)=bG b k+eY b (bG b k):=rfl
    refine av ?_
    refine af ?_
    refine jn hI 5 4 [⟨64,64,some 0,some 3,.grow (k) 1,9,3,true,pv ay,[]⟩,⟨67,67,some 3,none,.grow (k+1) 1,9,3,true,pv ay,[]⟩] [] [Uc 0 64 _,Uc 1 65 _,Uc 2 66 _,Uc 3 67 _] (.u (some 0) [] .z) (.k8 .z) ⟨sB,mv,wj 9,Dr (f:=λq=>pT (cZ b (bG b q))) (λ_=>aT _) (aT _) (λ_ _ h=>h),trivial⟩ (.d (.d (.k .z))) (.bq (.cg (.bV .z))) (⟨_,bj [⟨4,4,some 0,none,.grow (k+1) 1,9,3,true,pv ay,[]⟩] [] [Uc 0 4 _] (.u (some 0) [] .z) (.ae (.kk .z)) (pD) (.d (.k .z)) (.ae (.kU .z)),rfl⟩) λa w hI=>?_
    refine tv hI 5 [] [] [Uc 0 68 _,Uc 1 69 _,Uc 2 70 _,Uc 3 71 _,Uc 4 5 _] (.k .z) (.aP (.t 4 (.kk .z))) ⟨mv,bn,mv,bn,mv,trivial⟩ (.k .z) (.bq (.nP (.fh .z))) λa w hI=>?_
    refine bF ?_
    refine af ?_
    exact pq (k+1) ⟨λj hj=>if e:j=k then by rw[e]; exact hw else hk.1 j (by omega),by rw[vU]; exact hle,by omega⟩ hI ⟨vG,trivial⟩ ⟨gc,gc,gc,gc,gc,trivial⟩ (by omega)
 ·
  have hw:=Es t1
  have hK:=jF hk.1 hw (by omega)
  refine bZ ?_
  refine aB ?_
  refine aB ?_
  refine aW ?_
  refine af ?_
  refine cD hI 4 [⟨72,72,some 0,some 2,.grow (k) 1,9,3,true,pv ay,[]⟩,⟨2,2,some 2,none,.grow (k) 1,9,3,true,pv ay,[]⟩] [] [Uc 0 72 _,Uc 1 73 _,Uc 2 2 _,Uc 3 3 _] (.u (some 0) [] .z) (.k (.t 2 (.t 3 (.aP .z)))) ⟨sB,mv,pD,mv,trivial⟩ (.d (.d (.k .z))) (.d8 (.kk .z)) λa w hI=>?_
  refine aA ?_
  exact gq hI rfl (cC (hq:=jN hK.symm)) (cC (hq:=bM (by rw[hK])))
end Wx
