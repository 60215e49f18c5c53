import Derived.Test.YtfnmkhlleanppaaGreatDoorJWF25
import Derived.Test.YtfnmkhlleanppaaGreatDoorJWF28
namespace Wx
set_option maxRecDepth 100000
set_option maxHeartbeats 1000000
open Go Go.RowKit Go.Proofs
set_option linter.unusedVariables false
attribute [local irreducible] OpOk
variable {φ:Int->Bool} {s:ByteArray}
theorem tB (h:∀k,k<s.size->φ (bE s k)=true):decide (s≠⟨#[]⟩)=fU φ s:=by unfold fU; rw[decide_eq_true h,Bool.true_and]
theorem we {i:Nat} (hi:i<s.size) (h:φ (bE s i)=false):false=fU φ s:=by
 unfold fU
 rw[decide_eq_false λk=>by rw[k i hi]at h; cases h]
 rfl
def bg (s:ByteArray):Bool:=decide (∀w,w∈ak s->fU dh w=true)
def iH (s:ByteArray):Bool:=decide ((s.size:Int)<=24)&&fU uJ s
def fI (s:ByteArray):Bool:=(decide ((s.size:Int)<=8)&&fU tJ s)&&(decide (s=⟨#[48]⟩)||decide (bE s 0≠48))
theorem gF (h:fU φ s=true):0<s.size:=by
 unfold fU at h
 simp only[Bool.and_eq_true,decide_eq_true_eq]at h
 rcases Nat.eq_zero_or_pos s.size with e|e
 ·exact absurd (ByteArray.ext (Array.eq_empty_of_size_eq_zero e)) h.2
 ·exact e
theorem gX {w:ByteArray} (h:w∈ak s):w.size<=s.size:=by
 have key:∀(k:Nat) (s w:ByteArray),w∈Lib.splitB kX 0 k s->w.size<=s.size:=by
  intro k
  induction k with
  |zero=>intro s w h; rw[Lib.splitB_zero]at h; rw[List.mem_singleton.1 h]; exact Nat.le_refl _
  |succ k ih=>
   intro s w h
   unfold Lib.splitB at h
   split at h
   ·rw[List.mem_singleton.1 h]; exact Nat.le_refl _
   ·rcases List.mem_cons.1 h with h|h
    ·rw[h,ByteArray.size_extract]; omega
    ·have:=ih _ _ h
     rw[ByteArray.size_extract]at this
     omega
 exact key _ _ _ h
theorem uH (h:∀k,k<(ak s).length->fU dh ((ak s).getD k ⟨#[]⟩)=true):true=bg s:=by
 refine(decide_eq_true λw hw=>?_).symm
 obtain⟨k,hk,rfl⟩:=List.mem_iff_getElem.1 hw
 have:=h k hk
 rw[List.getD_eq_getElem?_getD,List.getElem?_eq_getElem hk]at this
 exact this
variable {k:Nat}
theorem kq {L:List ByteArray} (hk:k<L.length):L.getD k ⟨#[]⟩∈L:=by
 rw[List.getD_eq_getElem?_getD,List.getElem?_eq_getElem hk]
 exact List.getElem_mem hk
theorem xj (hk:k<(ak s).length) (h:fU dh ((ak s).getD k ⟨#[]⟩)=false):false=bg s:=by
 refine(decide_eq_false λg=>?_).symm
 rw[g _ (kq hk)]at h
 cases h
theorem fq (h:s.size<=1000000):(ak s).length<=1000001:=by
 rw[cx]
 have:=Lib.countB_le kX (by decide) s.size s (Nat.le_refl _)
 omega
theorem ux (hz:s.size<=1000000):K2 Tryz.prog 38 (pT s) (sI Tryz.prog (BD Tryz.prog φ)) (pB (fU φ s)):=by
 intro M w0 v0 v1 hM hv0 dc
 refine ia (N:=21) Tryz.func38 rfl rfl rfl hM hv0 dc λa hI=>?_
 refine au hI 1 [Uc 0 4 _] (.kk .z) ⟨mv,trivial⟩ (.aP .z) λa w hI=>?_
 refine ah ?_
 refine au hI 4 [Uc 0 7 _,Uc 1 8 _,Uc 2 9 _,Uc 3 10 _] (.aP .z) ⟨mv,ET,ln,mv,trivial⟩ (.bq (.aP .z)) λa w hI=>?_
 refine aI ?_
 refine qF [] [Uz 0 _,Uz 1 _,Uz 8 _,Uz 9 _] (λ(i:Nat)=>[]) (λ(i:Nat)=>[Uz 10 (pI (i:Int))]) (λ(i:Nat)=>i<=s.size/\∀k,k<i->φ (bE s k)=true) (λ(i:Nat)=>s.size-i) (0) ⟨Nat.zero_le _,λ_ h=>absurd h (Nat.not_lt_zero _)⟩ hI trivial ⟨gi,gi,gi,gi,gc,trivial⟩ ?_
 intro i a w hp hI
 refine au hI 1 [Uc 0 11 _] (.ae (.k .z)) ⟨bn,trivial⟩ (.ae (.kk .z)) λa w hI=>?_
 refine ah ?_
 refine jy hI (λt1=>?_) (λt1=>?_)
 ·
  refine av ?_
  refine af ?_
  refine ah ?_
  refine aI ?_
  refine au hI 3 [Uc 0 12 _,Uc 1 13 _,Uc 2 6 _] (.ae (.kk .z)) ⟨ix,aH hs (pt rfl) (by kernel_rfl) (aZ (cF _) rfl rfl),mv,trivial⟩ (.ae (.eF (.k .z))) λa w hI=>?_
  refine au hI 4 [Uc 0 14 _,Uc 1 15 _,Uc 2 16 _,Uc 3 17 _] (.ae (.kk .z)) ⟨mv,mv,Fz,nt,trivial⟩ (.ae (.eF (.dk .z))) λa w hI=>?_
  refine tu hI (λt2=>?_) (λt2=>?_)
  ·
   refine au hI 1 [Uc 0 4 _] (.ae (.kk .z)) ⟨mv,trivial⟩ (.ae (.kU .z)) λa w hI=>?_
   refine aA ?_
   refine bJ ?_
   refine aE ?_
   refine aE ?_
   refine bJ ?_
   refine aE ?_
   exact cu hI rfl (cC (hq:=eL (we (i:=i) (by omega) (by simpa using t2))))
  ·
   refine av ?_
   refine bF ?_
   refine af ?_
   refine jD hI 2 [Uc 0 18 _,Uc 1 10 _] (.ae (.t 1 (.k .z))) ⟨bn,mv,trivial⟩ (.ae (.bV .z)) λa w hI=>?_
   refine af ?_
   have hst:φ (bE s i)=true:=by simpa using t2
   exact pq (i+1) ⟨by omega,λk hk=>if e:k=i then by rw[e]; exact hst else hp.2 k (by omega)⟩ hI trivial ⟨gc,gc,gc,gc,gc,trivial⟩ (by omega)
 ·
  refine bZ ?_
  refine aB ?_
  refine aB ?_
  refine aW ?_
  refine af ?_
  refine au hI 3 [Uc 0 19 _,Uc 1 20 _,Uc 2 4 _] (.ae (.kk .z)) ⟨mv,bU,mv,trivial⟩ (.d8 (.k .z)) λa w hI=>?_
  refine aA ?_
  exact cu hI rfl (cC (hq:=eL (tB λk hk=>hp.2 k (by omega))))
theorem kj (hz:s.size<=1000000):J1 Tryz.prog 30 (pT s) (pB (bg s)):=by
 intro M w0 v0 hM hG hv0
 have hG:=eP hG
 have kT:=fq hz
 refine gE (N:=16) Tryz.func30 rfl rfl rfl hM hv0 λa hI=>?_
 refine au hI 1 [Uc 0 2 _] (.k .z) ⟨mv,trivial⟩ (.kk .z) λa w hI=>?_
 refine ah ?_
 refine au hI 4 [Uc 0 5 _,Uc 1 6 _,Uc 2 7 _,Uc 3 8 _] (.kk .z) ⟨mv,zC hG iK,ln,mv,trivial⟩ (.zG (.kk .z)) λa w hI=>?_
 refine aI ?_
 refine qF [] [Uz 6 _,Uz 7 _] (λ(i:Nat)=>[]) (λ(i:Nat)=>[Uz 8 (pI (i:Int))]) (λ(i:Nat)=>i<=(ak s).length/\∀k,k<i->fU dh ((ak s).getD k ⟨#[]⟩)=true) (λ(i:Nat)=>(ak s).length-i) (0) ⟨Nat.zero_le _,λ_ h=>absurd h (Nat.not_lt_zero _)⟩ hI trivial ⟨gi,gi,gc,trivial⟩ ?_
 intro i a w hp hI
 refine au hI 1 [Uc 0 9 _] (.aP .z) ⟨bn,trivial⟩ (.ae .z) λa w hI=>?_
 refine ah ?_
 refine jy hI (λt1=>?_) (λt1=>?_)
 ·
  refine av ?_
  refine af ?_
  refine ah ?_
  refine aI ?_
  refine au hI 3 [Uc 0 10 _,Uc 1 11 _,Uc 2 4 _] (.ae .z) ⟨ix,aH hs (pt rfl) (by kernel_rfl) (aT _),mv,trivial⟩ (.bq (.fh .z)) λa w hI=>?_
  refine au hI 3 [Uc 0 12 _,Uc 1 13 _,Uc 2 14 _] (.ae .z) ⟨mv,mH (ux (φ:=dh)) (c2:=kD λ_ _=>xd trivial) (hφ:=Nat.le_trans (gX (kq (by omega))) hz),nt,trivial⟩ (.bq (.fh .z)) λa w hI=>?_
  refine tu hI (λt2=>?_) (λt2=>?_)
  ·
   refine au hI 1 [Uc 0 2 _] (.ae .z) ⟨mv,trivial⟩ (.bq (.k .z)) λa w hI=>?_
   refine aA ?_
   refine bJ ?_
   refine aE ?_
   refine aE ?_
   refine bJ ?_
   refine aE ?_
   exact cu hI rfl (cC (hq:=eL (xj (k:=i) (by omega) (by simpa using t2))))
  ·
   refine av ?_
   refine bF ?_
   refine af ?_
   refine jD hI 2 [Uc 0 15 _,Uc 1 8 _] (.kk (.t 1 (.k .z))) ⟨bn,mv,trivial⟩ (.cg (.dk .z)) λa w hI=>?_
   refine af ?_
   have hst:fU dh ((ak s).getD i ⟨#[]⟩)=true:=by simpa using t2
   exact pq (i+1) ⟨by omega,λk hk=>if e:k=i then by rw[e]; exact hst else hp.2 k (by omega)⟩ hI trivial ⟨gc,gc,gc,trivial⟩ (by omega)
 ·
  refine bZ ?_
  refine aB ?_
  refine aB ?_
  refine aW ?_
  refine af ?_
  refine au hI 1 [Uc 0 2 _] (.ae .z) ⟨mv,trivial⟩ (.bN (.k .z)) λa w hI=>?_
  refine aA ?_
  exact cu hI rfl (cC (hq:=eL (uH λk hk=>hp.2 k (by omega))))
theorem uC (hz:s.size<=1000000):K1 Tryz.prog 68 (pT s) (pB (iH s)):=by
 intro M w0 v0 hM hv0
 refine gE (N:=10) Tryz.func68 rfl rfl rfl hM hv0 λa hI=>?_
 refine au hI 1 [Uc 0 2 _] (.k .z) ⟨mv,trivial⟩ (.kk .z) λa w hI=>?_
 refine au hI 8 [Uc 0 3 _,Uc 1 4 _,Uc 2 5 _,Uc 3 6 _,Uc 4 7 _,Uc 5 8 _,Uc 6 9 _,Uc 7 2 _] (.k (.t 7 .z)) ⟨mv,oz,bn,mv,gd λh=>er h,gd λh=>pU h (ux (φ:=uJ)) (c2:=kD λ_ _=>xe trivial),pk,mv,trivial⟩ (.d8 (.dk .z)) λa w hI=>?_
 refine aA ?_
 exact cu hI rfl cC
theorem xb (hz:s.size<=1000000):K1 Tryz.prog 71 (pT s) (pB (fI s)):=by
 intro M w0 v0 hM hv0
 refine gE (N:=19) Tryz.func71 rfl rfl rfl hM hv0 λa hI=>?_
 refine au hI 1 [Uc 0 2 _] (.k .z) ⟨mv,trivial⟩ (.kk .z) λa w hI=>?_
 refine au hI 17 [Uc 0 3 _,Uc 1 4 _,Uc 2 5 _,Uc 3 6 _,Uc 4 7 _,Uc 5 8 _,Uc 6 9 _,Uc 7 10 _,Uc 8 11 _,Uc 9 12 _,Uc 10 13 _,Uc 11 14 _,Uc 12 15 _,Uc 13 16 _,Uc 14 17 _,Uc 15 18 _,Uc 16 2 _] (.k (.t 16 .z)) ⟨mv,oz,bn,mv,gd λh=>er h,gd λh=>pU h (ux (φ:=tJ)) (c2:=kD λ_ _=>uA trivial),pk,mv,gd λh=>er h,gd λh=>C5 h,gd λh=>er h,DR λh=>er h,DR λh=>(λ_=>Bv 0 (h:=hg) (hy:=.const _) (hk:=gF (by simp only[Bool.and_eq_true]at h; exact h.1.2)) (hp:=pg h rfl)) h,DR λh=>lM h,gd λh=>FH h,pk,mv,trivial⟩ (.d8 (.d8 (.fh .z))) λa w hI=>?_
 refine aA ?_
 exact cu hI rfl cC
end Wx

namespace Wx
set_option maxRecDepth 100000
set_option maxHeartbeats 1000000
open Go Go.RowKit Go.Proofs
set_option linter.unusedVariables false
attribute [local irreducible] OpOk
def gS (s:ByteArray):Int:=if(s.size:Int)>200 then 4 else if bg s=true then 0 else 2
def mN (s:ByteArray):ByteArray:=if gS s=0 then pe s else⟨#[]⟩
theorem jK {r:ByteArray} (hr:r=⟨#[]⟩):∀w v,aL (.slice none 0 0) w v->fl r w v:=by
 subst hr
 rintro w v rfl
 exact⟨none,0,rfl,Nat.le_refl _,by decide,λh=>absurd h (Nat.lt_irrefl _)⟩
variable {s:ByteArray}
theorem iD (h:(s.size:Int)>200):gS s=4:=if_pos h
theorem jI (h:¬(s.size:Int)>200) (h2:bg s=false):gS s=2:=by unfold gS; rw[if_neg h,h2]; rfl
theorem nW (h:¬(s.size:Int)>200) (h2:bg s=true):gS s=0:=by unfold gS; rw[if_neg h,if_pos h2]
theorem jH (h:gS s≠0):mN s=⟨#[]⟩:=if_neg h
theorem nU (h:gS s=0):mN s=pe s:=if_pos h
theorem oy (h:bg s=true):0<s.size:=by
 unfold bg at h
 rw[decide_eq_true_eq]at h
 have h0:0<(ak s).length:=by rw[cx]; exact Nat.succ_pos _
 have h1:=h _ (List.getElem_mem h0)
 have h2:=gX (List.getElem_mem h0)
 have:=gF h1
 omega
theorem qN {n:Nat} (hn:n=6+s.size):∀w v,az 1 false n (λk=>fO (bE (pe s) k)) w v->fl (pe s) w v:=vw (hn.trans (tY s).symm) λ_ _ _ _ h=>h
theorem qW (hz:s.size<=1000000):J1 Tryz.prog 8 (pT s) (cS (fl (mN s)) (pI (gS s))):=by
 intro M w0 v0 hM hG hv0
 have hG:=eP hG
 refine gE (N:=34) Tryz.func8 rfl rfl rfl hM hv0 λa hI=>?_
 refine au hI 2 [Uc 0 2 _,Uc 1 3 _] (.k .z) ⟨mv,mv,trivial⟩ (.aP .z) λa w hI=>?_
 refine ah ?_
 refine au hI 3 [Uc 0 7 _,Uc 1 8 _,Uc 2 9 _] (.aP .z) ⟨mv,oz,bn,trivial⟩ (.bq (.dk .z)) λa w hI=>?_
 refine jy hI (λt1=>?_) (λt1=>?_)
 ·
  refine au hI 2 [Uc 0 2 _,Uc 1 3 _] (.k (.t 0 (.t 1 (.k .z)))) ⟨mv,mv,trivial⟩ (.eF (.kk .z)) λa w hI=>?_
  refine aA ?_
  refine aE ?_
  exact gq hI rfl (cC (hq:=jK (jH (by rw[iD t1]; decide)))) (cC (hq:=bM (iD t1).symm))
 ·
  refine av ?_
  refine af ?_
  refine ah ?_
  refine au hI 3 [Uc 0 10 _,Uc 1 11 _,Uc 2 12 _] (.ae .z) ⟨mv,wq hG kj,nt,trivial⟩ (.bq (.fh .z)) λa w hI=>?_
  refine tu hI (λt2=>?_) (λt2=>?_)
  ·
   refine au hI 2 [Uc 0 2 _,Uc 1 3 _] (.k (.t 0 (.t 1 (.k .z)))) ⟨mv,mv,trivial⟩ (.eF (.kk .z)) λa w hI=>?_
   refine aA ?_
   refine aE ?_
   exact gq hI rfl (cC (hq:=jK (jH (by rw[jI t1 (by simpa using t2)]; decide)))) (cC (hq:=bM (jI t1 (by simpa using t2)).symm))
  ·
   refine av ?_
   refine af ?_
   have Cf:bg s=true:=by simpa using t2
   have hpos:=oy Cf
   have he:=nW t1 Cf
   refine cD hI 7 [⟨18,18,some 5,some 6,.grow (2+s.size) 1,5,3,true,pv ay,[]⟩,⟨4,4,some 6,none,.grow (2+s.size) 1,5,3,true,pv ay,[]⟩] [] [Uc 0 13 _,Uc 1 14 _,Uc 2 15 _,Uc 3 16 _,Uc 4 17 _,Uc 5 18 _,Uc 6 4 _] .z (.ae .z) ⟨mv,oz,BP,Dx 5,mv,Fv (vD (lD 0 s)) (dr s),pD,trivial⟩ (.d (.k .z)) (.bq (.bN (.fh .z))) λa w hI=>?_
   refine ah ?_
   refine cD hI 4 [] [] [Uc 0 19 _,Uc 1 20 _,Uc 2 5 _,Uc 3 6 _] (.k .z) (.ae .z) ⟨mv,mH (qX (h:=0)),mv,mv,trivial⟩ (.k .z) (.rX (.pO .z)) λa w hI=>?_
   refine aI ?_
   refine qF [] [Uz 2 _,Uz 3 _,Uz 5 _] (λ(i:Nat)=>[Gz 4 4 (2+s.size+i) 1 5]) (λ(i:Nat)=>[Uz 6 (pI (i:Int)),Uz 4 (az 1 false (2+s.size+i) λk=>fO (bE (pe s) k))]) (λ(i:Nat)=>i<=4) (λ(i:Nat)=>4-i) (0) (Nat.zero_le _) hI ⟨vG,trivial⟩ ⟨gi,gi,gi,gc,gc,trivial⟩ ?_
   intro i a w hp hI
   refine ah ?_
   refine cD hI 2 [] [] [Uc 0 21 _,Uc 1 22 _] (.k .z) (.ae (.k .z)) ⟨mv,bn,trivial⟩ (.k .z) (.ae (.kU .z)) λa w hI=>?_
   refine jy hI (λt3=>?_) (λt3=>?_)
   ·
    refine av ?_
    refine af ?_
    refine ah ?_
    refine aI ?_
    refine Dj hI 9 8 [⟨25,25,some 0,some 7,.grow (2+s.size+i) 1,5,3,true,pv ay,[]⟩,⟨32,32,some 7,none,.grow (2+s.size+i+1) 1,5,3,true,pv ay,[]⟩] [] [Uc 0 25 _,Uc 1 26 _,Uc 2 27 _,Uc 3 28 _,Uc 4 29 _,Uc 5 30 _,Uc 6 31 _,Uc 7 32 _] (.u (some 0) [] .z) (.ae (.kk .z)) ⟨sB,mv,mv,bn,Ez (s:=8*i),ye,zx 5,Dp (nX (k:=i) (by omega)),trivial⟩ (.d (.d (.k .z))) (.ae (.d8 (.dk .z))) (⟨_,bj [⟨4,4,some 0,none,.grow (2+s.size+i+1) 1,5,3,true,pv ay,[]⟩] [] [Uc 0 4 _] (.u (some 0) [] .z) (.ae (.k .z)) (pD) (.d (.k .z)) (.ae (.dk .z)),rfl⟩) λa w hI=>?_
    refine bF ?_
    refine af ?_
    refine tv hI 3 [] [] [Uc 0 23 _,Uc 1 24 _,Uc 2 6 _] (.k .z) (.aP (.t 2 (.k .z))) ⟨mv,bn,mv,trivial⟩ (.k .z) (.bq (.gT .z)) λa w hI=>?_
    refine af ?_
    exact pq (i+1) (by omega) hI ⟨vG,trivial⟩ ⟨gc,gc,gc,gc,gc,trivial⟩ (by omega)
   ·
    refine bZ ?_
    refine aB ?_
    refine aB ?_
    refine aW ?_
    refine af ?_
    refine cD hI 3 [⟨33,33,some 0,some 1,.grow (2+s.size+i) 1,5,3,true,pv ay,[]⟩,⟨2,2,some 1,none,.grow (2+s.size+i) 1,5,3,true,pv ay,[]⟩] [] [Uc 0 33 _,Uc 1 2 _,Uc 2 3 _] (.u (some 0) [] .z) (.t 1 (.t 2 (.ae .z))) ⟨sB,pD,mv,trivial⟩ (.d (.d (.k .z))) (.bN (.bV (.k .z))) λa w hI=>?_
    refine aA ?_
    exact gq hI rfl (cC (hq:=λw v h=>by rw[nU he]; exact qN (by omega) w v h)) (cC (hq:=bM he.symm))
end Wx
