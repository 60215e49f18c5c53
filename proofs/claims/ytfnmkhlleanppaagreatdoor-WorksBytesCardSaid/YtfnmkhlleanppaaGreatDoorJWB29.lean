import Derived.Test.YtfnmkhlleanppaaGreatDoorJWB25
import Derived.Test.YtfnmkhlleanppaaGreatDoorJWB28
namespace Wx
set_option maxRecDepth 100000
set_option maxHeartbeats 1000000
open Go Go.RowKit Go.Proofs
set_option linter.unusedVariables false
attribute [local irreducible] OpOk
variable {φ:Int->Bool} {s:ByteArray}
theorem tM (h:∀k,k<s.size->φ (bO s k)=true):decide (s≠⟨#[]⟩)=gP φ s:=by unfold gP; rw[decide_eq_true h,Bool.true_and]
theorem wk {i:Nat} (hi:i<s.size) (h:φ (bO s i)=false):false=gP φ s:=by
 unfold gP
 rw[decide_eq_false λk=>by rw[k i hi]at h; cases h]
 rfl
def cJ (s:ByteArray):Bool:=decide (∀w,w∈aD s->gP kz w=true)
def iI (s:ByteArray):Bool:=decide ((s.size:Int)<=24)&&gP uV s
def fK (s:ByteArray):Bool:=(decide ((s.size:Int)<=8)&&gP tU s)&&(decide (s=⟨#[48]⟩)||decide (bO s 0≠48))
theorem jb (h:gP φ s=true):0<s.size:=by
 unfold gP at h
 simp only[Bool.and_eq_true,decide_eq_true_eq]at h
 rcases Nat.eq_zero_or_pos s.size with e|e
 ·exact absurd (ByteArray.ext (Array.eq_empty_of_size_eq_zero e)) h.2
 ·exact e
theorem hU {w:ByteArray} (h:w∈aD s):w.size<=s.size:=by
 have key:∀(k:Nat) (s w:ByteArray),w∈Lib.splitB pK 0 k s->w.size<=s.size:=by
  intro k
  induction k with
  |zero=>intro s w h; rw[Lib.splitB_zero]at h; rw[List.mem_singleton.1 h]; exact Nat.le_refl _
  |succ k ih=>
   intro s w h
   unfold Lib.splitB at h
   split at h
   ·rw[List.mem_singleton.1 h]; exact Nat.le_refl _
   ·rcases List.mem_cons.1 h with h|h
    ·rw[h,ByteArray.size_extract]; omega
    ·have:=ih _ _ h
     rw[ByteArray.size_extract]at this
     omega
 exact key _ _ _ h
theorem uS (h:∀k,k<(aD s).length->gP kz ((aD s).getD k ⟨#[]⟩)=true):true=cJ s:=by
 refine(decide_eq_true λw hw=>?_).symm
 obtain⟨k,hk,rfl⟩:=List.mem_iff_getElem.1 hw
 have:=h k hk
 rw[List.getD_eq_getElem?_getD,List.getElem?_eq_getElem hk]at this
 exact this
variable {k:Nat}
theorem kC {L:List ByteArray} (hk:k<L.length):L.getD k ⟨#[]⟩∈L:=by
 rw[List.getD_eq_getElem?_getD,List.getElem?_eq_getElem hk]
 exact List.getElem_mem hk
theorem xx (hk:k<(aD s).length) (h:gP kz ((aD s).getD k ⟨#[]⟩)=false):false=cJ s:=by
 refine(decide_eq_false λg=>?_).symm
 rw[g _ (kC hk)]at h
 cases h
theorem fC (h:s.size<=1000000):(aD s).length<=1000001:=by
 rw[cG]
 have:=Lib.countB_le pK (by decide) s.size s (Nat.le_refl _)
 omega
theorem uI (hz:s.size<=1000000):K2 Tryz.prog 38 (pT s) (sW Tryz.prog (BF Tryz.prog φ)) (pB (gP φ s)):=by
 intro M w0 v0 v1 hM hv0 dH
 refine iY (N:=21) Tryz.func38 rfl rfl rfl hM hv0 dH λa hI=>?_
 refine aq hI 1 [Uc 0 4 _] (.kk .z) ⟨mv,trivial⟩ (.aR .z) λa w hI=>?_
 refine ai ?_
 refine aq hI 4 [Uc 0 7 _,Uc 1 8 _,Uc 2 9 _,Uc 3 10 _] (.aR .z) ⟨mv,ER,ln,mv,trivial⟩ (.bC (.aR .z)) λa w hI=>?_
 refine aN ?_
 refine tA [] [Uz 0 _,Uz 1 _,Uz 8 _,Uz 9 _] (λ(i:Nat)=>[]) (λ(i:Nat)=>[Uz 10 (pI (i:Int))]) (λ(i:Nat)=>i<=s.size/\∀k,k<i->φ (bO s k)=true) (λ(i:Nat)=>s.size-i) (0) ⟨Nat.zero_le _,λ_ h=>absurd h (Nat.not_lt_zero _)⟩ hI trivial ⟨gi,gi,gi,gi,gc,trivial⟩ ?_
 intro i a w hp hI
 refine aq hI 1 [Uc 0 11 _] (.ae (.k .z)) ⟨bn,trivial⟩ (.ae (.kk .z)) λa w hI=>?_
 refine ai ?_
 refine jF hI (λt1=>?_) (λt1=>?_)
 ·
  refine av ?_
  refine af ?_
  refine ai ?_
  refine aN ?_
  refine aq hI 3 [Uc 0 12 _,Uc 1 13 _,Uc 2 6 _] (.ae (.kk .z)) ⟨ix,aE hs (pt rfl) (by kernel_rfl) (aX (cX _) rfl rfl),mv,trivial⟩ (.ae (.fg (.k .z))) λa w hI=>?_
  refine aq hI 4 [Uc 0 14 _,Uc 1 15 _,Uc 2 16 _,Uc 3 17 _] (.ae (.kk .z)) ⟨mv,mv,FE,nt,trivial⟩ (.ae (.fg (.dk .z))) λa w hI=>?_
  refine xY hI (λt2=>?_) (λt2=>?_)
  ·
   refine aq hI 1 [Uc 0 4 _] (.ae (.kk .z)) ⟨mv,trivial⟩ (.ae (.lf .z)) λa w hI=>?_
   refine ay ?_
   refine bp ?_
   refine aB ?_
   refine aB ?_
   refine bp ?_
   refine aB ?_
   exact cn hI rfl (cU (hq:=ee (wk (i:=i) (by omega) (by simpa using t2))))
  ·
   refine av ?_
   refine bG ?_
   refine af ?_
   refine kZ hI 2 [Uc 0 18 _,Uc 1 10 _] (.ae (.t 1 (.k .z))) ⟨bn,mv,trivial⟩ (.ae (.cx .z)) λa w hI=>?_
   refine af ?_
   have hst:φ (bO s i)=true:=by simpa using t2
   exact ry (i+1) ⟨by omega,λk hk=>if e:k=i then by rw[e]; exact hst else hp.2 k (by omega)⟩ hI trivial ⟨gc,gc,gc,gc,gc,trivial⟩ (by omega)
 ·
  refine cV ?_
  refine aM ?_
  refine aM ?_
  refine bF ?_
  refine af ?_
  refine aq hI 3 [Uc 0 19 _,Uc 1 20 _,Uc 2 4 _] (.ae (.kk .z)) ⟨mv,bU,mv,trivial⟩ (.d8 (.k .z)) λa w hI=>?_
  refine ay ?_
  exact cn hI rfl (cU (hq:=ee (tM λk hk=>hp.2 k (by omega))))
theorem ku (hz:s.size<=1000000):J1 Tryz.prog 30 (pT s) (pB (cJ s)):=by
 intro M w0 v0 hM hG hv0
 have hG:=eY hG
 have jx:=fC hz
 refine ie (N:=16) Tryz.func30 rfl rfl rfl hM hv0 λa hI=>?_
 refine aq hI 1 [Uc 0 2 _] (.k .z) ⟨mv,trivial⟩ (.kk .z) λa w hI=>?_
 refine ai ?_
 refine aq hI 4 [Uc 0 5 _,Uc 1 6 _,Uc 2 7 _,Uc 3 8 _] (.kk .z) ⟨mv,zE hG iL,ln,mv,trivial⟩ (.zI (.kk .z)) λa w hI=>?_
 refine aN ?_
 refine tA [] [Uz 6 _,Uz 7 _] (λ(i:Nat)=>[]) (λ(i:Nat)=>[Uz 8 (pI (i:Int))]) (λ(i:Nat)=>i<=(aD s).length/\∀k,k<i->gP kz ((aD s).getD k ⟨#[]⟩)=true) (λ(i:Nat)=>(aD s).length-i) (0) ⟨Nat.zero_le _,λ_ h=>absurd h (Nat.not_lt_zero _)⟩ hI trivial ⟨gi,gi,gc,trivial⟩ ?_
 intro i a w hp hI
 refine aq hI 1 [Uc 0 9 _] (.aR .z) ⟨bn,trivial⟩ (.ae .z) λa w hI=>?_
 refine ai ?_
 refine jF hI (λt1=>?_) (λt1=>?_)
 ·
  refine av ?_
  refine af ?_
  refine ai ?_
  refine aN ?_
  refine aq hI 3 [Uc 0 10 _,Uc 1 11 _,Uc 2 4 _] (.ae .z) ⟨ix,aE hs (pt rfl) (by kernel_rfl) (aW _),mv,trivial⟩ (.bC (.fJ .z)) λa w hI=>?_
  refine aq hI 3 [Uc 0 12 _,Uc 1 13 _,Uc 2 14 _] (.ae .z) ⟨mv,mN (uI (φ:=kz)) (c2:=kM λ_ _=>xp trivial) (hφ:=Nat.le_trans (hU (kC (by omega))) hz),nt,trivial⟩ (.bC (.fJ .z)) λa w hI=>?_
  refine xY hI (λt2=>?_) (λt2=>?_)
  ·
   refine aq hI 1 [Uc 0 2 _] (.ae .z) ⟨mv,trivial⟩ (.bC (.k .z)) λa w hI=>?_
   refine ay ?_
   refine bp ?_
   refine aB ?_
   refine aB ?_
   refine bp ?_
   refine aB ?_
   exact cn hI rfl (cU (hq:=ee (xx (k:=i) (by omega) (by simpa using t2))))
  ·
   refine av ?_
   refine bG ?_
   refine af ?_
   refine kZ hI 2 [Uc 0 15 _,Uc 1 8 _] (.kk (.t 1 (.k .z))) ⟨bn,mv,trivial⟩ (.cj (.dk .z)) λa w hI=>?_
   refine af ?_
   have hst:gP kz ((aD s).getD i ⟨#[]⟩)=true:=by simpa using t2
   exact ry (i+1) ⟨by omega,λk hk=>if e:k=i then by rw[e]; exact hst else hp.2 k (by omega)⟩ hI trivial ⟨gc,gc,gc,trivial⟩ (by omega)
 ·
  refine cV ?_
  refine aM ?_
  refine aM ?_
  refine bF ?_
  refine af ?_
  refine aq hI 1 [Uc 0 2 _] (.ae .z) ⟨mv,trivial⟩ (.bR (.k .z)) λa w hI=>?_
  refine ay ?_
  exact cn hI rfl (cU (hq:=ee (uS λk hk=>hp.2 k (by omega))))
theorem uN (hz:s.size<=1000000):K1 Tryz.prog 68 (pT s) (pB (iI s)):=by
 intro M w0 v0 hM hv0
 refine ie (N:=10) Tryz.func68 rfl rfl rfl hM hv0 λa hI=>?_
 refine aq hI 1 [Uc 0 2 _] (.k .z) ⟨mv,trivial⟩ (.kk .z) λa w hI=>?_
 refine aq hI 8 [Uc 0 3 _,Uc 1 4 _,Uc 2 5 _,Uc 3 6 _,Uc 4 7 _,Uc 5 8 _,Uc 6 9 _,Uc 7 2 _] (.k (.t 7 .z)) ⟨mv,sN,bn,mv,gd λh=>gr h,gd λh=>sC h (uI (φ:=uV)) (c2:=kM λ_ _=>xq trivial),pk,mv,trivial⟩ (.d8 (.dk .z)) λa w hI=>?_
 refine ay ?_
 exact cn hI rfl cU
theorem xo (hz:s.size<=1000000):K1 Tryz.prog 71 (pT s) (pB (fK s)):=by
 intro M w0 v0 hM hv0
 refine ie (N:=19) Tryz.func71 rfl rfl rfl hM hv0 λa hI=>?_
 refine aq hI 1 [Uc 0 2 _] (.k .z) ⟨mv,trivial⟩ (.kk .z) λa w hI=>?_
 refine aq hI 17 [Uc 0 3 _,Uc 1 4 _,Uc 2 5 _,Uc 3 6 _,Uc 4 7 _,Uc 5 8 _,Uc 6 9 _,Uc 7 10 _,Uc 8 11 _,Uc 9 12 _,Uc 10 13 _,Uc 11 14 _,Uc 12 15 _,Uc 13 16 _,Uc 14 17 _,Uc 15 18 _,Uc 16 2 _] (.k (.t 16 .z)) ⟨mv,sN,bn,mv,gd λh=>gr h,gd λh=>sC h (uI (φ:=tU)) (c2:=kM λ_ _=>uL trivial),pk,mv,gd λh=>gr h,gd λh=>EU h,gd λh=>gr h,tD λh=>gr h,tD λh=>(λ_=>Gs 0 (h:=hg) (hy:=.const _) (hk:=jb (by simp only[Bool.and_eq_true]at h; exact h.1.2)) (hp:=pg h rfl)) h,tD λh=>nJ h,gd λh=>DW h,pk,mv,trivial⟩ (.d8 (.d8 (.fJ .z))) λa w hI=>?_
 refine ay ?_
 exact cn hI rfl cU
end Wx

namespace Wx
set_option maxRecDepth 100000
set_option maxHeartbeats 1000000
open Go Go.RowKit Go.Proofs
set_option linter.unusedVariables false
attribute [local irreducible] OpOk
def dr (s:ByteArray):Int:=if(s.size:Int)>200 then 4 else if cJ s=true then 0 else 2
def fV (s:ByteArray):ByteArray:=if dr s=0 then sB s else⟨#[]⟩
theorem rz {r:ByteArray} (hr:r=⟨#[]⟩):∀w v,aJ (.slice none 0 0) w v->fY r w v:=by
 subst hr
 rintro w v rfl
 exact⟨none,0,rfl,Nat.le_refl _,by decide,λh=>absurd h (Nat.lt_irrefl _)⟩
variable {s:ByteArray}
theorem om (h:(s.size:Int)>200):dr s=4:=if_pos h
theorem qX (h:¬(s.size:Int)>200) (h2:cJ s=false):dr s=2:=by unfold dr; rw[if_neg h,h2]; rfl
theorem uj (h:¬(s.size:Int)>200) (h2:cJ s=true):dr s=0:=by unfold dr; rw[if_neg h,if_pos h2]
theorem mV (h:dr s≠0):fV s=⟨#[]⟩:=if_neg h
theorem iF (h:dr s=0):fV s=sB s:=if_pos h
theorem oJ (h:cJ s=true):0<s.size:=by
 unfold cJ at h
 rw[decide_eq_true_eq]at h
 have h0:0<(aD s).length:=by rw[cG]; exact Nat.succ_pos _
 have h1:=h _ (List.getElem_mem h0)
 have h2:=hU (List.getElem_mem h0)
 have:=jb h1
 omega
theorem wK {n:Nat} (hn:n=6+s.size):∀w v,ax 1 false n (λk=>fD (bO (sB s) k)) w v->fY (sB s) w v:=vH (hn.trans (oo s).symm) λ_ _ _ _ h=>h
theorem rq (hz:s.size<=1000000):J1 Tryz.prog 8 (pT s) (dB (fY (fV s)) (pI (dr s))):=by
 intro M w0 v0 hM hG hv0
 have hG:=eY hG
 refine ie (N:=34) Tryz.func8 rfl rfl rfl hM hv0 λa hI=>?_
 refine aq hI 2 [Uc 0 2 _,Uc 1 3 _] (.k .z) ⟨mv,mv,trivial⟩ (.aR .z) λa w hI=>?_
 refine ai ?_
 refine aq hI 3 [Uc 0 7 _,Uc 1 8 _,Uc 2 9 _] (.aR .z) ⟨mv,sN,bn,trivial⟩ (.bC (.dk .z)) λa w hI=>?_
 refine jF hI (λt1=>?_) (λt1=>?_)
 ·
  refine aq hI 2 [Uc 0 2 _,Uc 1 3 _] (.k (.t 0 (.t 1 (.k .z)))) ⟨mv,mv,trivial⟩ (.fg (.kk .z)) λa w hI=>?_
  refine ay ?_
  refine aB ?_
  exact ki hI rfl (cU (hq:=rz (mV (by rw[om t1]; decide)))) (cU (hq:=bV (om t1).symm))
 ·
  refine av ?_
  refine af ?_
  refine ai ?_
  refine aq hI 3 [Uc 0 10 _,Uc 1 11 _,Uc 2 12 _] (.ae .z) ⟨mv,wv hG ku,nt,trivial⟩ (.bC (.fJ .z)) λa w hI=>?_
  refine xY hI (λt2=>?_) (λt2=>?_)
  ·
   refine aq hI 2 [Uc 0 2 _,Uc 1 3 _] (.k (.t 0 (.t 1 (.k .z)))) ⟨mv,mv,trivial⟩ (.fg (.kk .z)) λa w hI=>?_
   refine ay ?_
   refine aB ?_
   exact ki hI rfl (cU (hq:=rz (mV (by rw[qX t1 (by simpa using t2)]; decide)))) (cU (hq:=bV (qX t1 (by simpa using t2)).symm))
  ·
   refine av ?_
   refine af ?_
   have E0:cJ s=true:=by simpa using t2
   have hpos:=oJ E0
   have he:=uj t1 E0
   refine cQ hI 7 [⟨18,18,some 5,some 6,.grow (2+s.size) 1,5,3,true,pv az,[]⟩,⟨4,4,some 6,none,.grow (2+s.size) 1,5,3,true,pv az,[]⟩] [] [Uc 0 13 _,Uc 1 14 _,Uc 2 15 _,Uc 3 16 _,Uc 4 17 _,Uc 5 18 _,Uc 6 4 _] .z (.ae .z) ⟨mv,sN,DI,Dz 5,mv,Fy (vP (lK 0 s)) (dD s),zz,trivial⟩ (.d (.k .z)) (.bC (.bR (.fJ .z))) λa w hI=>?_
   refine ai ?_
   refine cQ hI 4 [] [] [Uc 0 19 _,Uc 1 20 _,Uc 2 5 _,Uc 3 6 _] (.k .z) (.ae .z) ⟨mv,mN (oF (h:=0)),mv,mv,trivial⟩ (.k .z) (.tV (.sn .z)) λa w hI=>?_
   refine aN ?_
   refine tA [] [Uz 2 _,Uz 3 _,Uz 5 _] (λ(i:Nat)=>[Gz 4 4 (2+s.size+i) 1 5]) (λ(i:Nat)=>[Uz 6 (pI (i:Int)),Uz 4 (ax 1 false (2+s.size+i) λk=>fD (bO (sB s) k))]) (λ(i:Nat)=>i<=4) (λ(i:Nat)=>4-i) (0) (Nat.zero_le _) hI ⟨vG,trivial⟩ ⟨gi,gi,gi,gc,gc,trivial⟩ ?_
   intro i a w hp hI
   refine ai ?_
   refine cQ hI 2 [] [] [Uc 0 21 _,Uc 1 22 _] (.k .z) (.ae (.k .z)) ⟨mv,bn,trivial⟩ (.k .z) (.ae (.lf .z)) λa w hI=>?_
   refine jF hI (λt3=>?_) (λt3=>?_)
   ·
    refine av ?_
    refine af ?_
    refine ai ?_
    refine aN ?_
    refine Dn hI 9 8 [⟨25,25,some 0,some 7,.grow (2+s.size+i) 1,5,3,true,pv az,[]⟩,⟨32,32,some 7,none,.grow (2+s.size+i+1) 1,5,3,true,pv az,[]⟩] [] [Uc 0 25 _,Uc 1 26 _,Uc 2 27 _,Uc 3 28 _,Uc 4 29 _,Uc 5 30 _,Uc 6 31 _,Uc 7 32 _] (.u (some 0) [] .z) (.ae (.kk .z)) ⟨Bw,mv,mv,bn,Ex (s:=8*i),BS,BL 5,Fw (um (k:=i) (by omega)),trivial⟩ (.d (.d (.k .z))) (.ae (.d8 (.dk .z))) (⟨_,bh [⟨4,4,some 0,none,.grow (2+s.size+i+1) 1,5,3,true,pv az,[]⟩] [] [Uc 0 4 _] (.u (some 0) [] .z) (.ae (.k .z)) (zz) (.d (.k .z)) (.ae (.dk .z)),rfl⟩) λa w hI=>?_
    refine bG ?_
    refine af ?_
    refine yc hI 3 [] [] [Uc 0 23 _,Uc 1 24 _,Uc 2 6 _] (.k .z) (.aR (.t 2 (.k .z))) ⟨mv,bn,mv,trivial⟩ (.k .z) (.bC (.jK .z)) λa w hI=>?_
    refine af ?_
    exact ry (i+1) (by omega) hI ⟨vG,trivial⟩ ⟨gc,gc,gc,gc,gc,trivial⟩ (by omega)
   ·
    refine cV ?_
    refine aM ?_
    refine aM ?_
    refine bF ?_
    refine af ?_
    refine cQ hI 3 [⟨33,33,some 0,some 1,.grow (2+s.size+i) 1,5,3,true,pv az,[]⟩,⟨2,2,some 1,none,.grow (2+s.size+i) 1,5,3,true,pv az,[]⟩] [] [Uc 0 33 _,Uc 1 2 _,Uc 2 3 _] (.u (some 0) [] .z) (.t 1 (.t 2 (.ae .z))) ⟨Bw,zz,mv,trivial⟩ (.d (.d (.k .z))) (.bR (.cx (.k .z))) λa w hI=>?_
    refine ay ?_
    exact ki hI rfl (cU (hq:=λw v h=>by rw[iF he]; exact wK (by omega) w v h)) (cU (hq:=bV he.symm))
end Wx
