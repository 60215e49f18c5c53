import Derived.Test.YtfnmkhlleanppaaGreatDoorJWC24
import Derived.Lib.IndexLaws
import Derived.Lib.CountLaws
import Derived.Lib.SplitLaws
namespace Wx
open Go Go.RowKit Go.Proofs
set_option linter.unusedVariables false
attribute [local irreducible] OpOk
end Wx

namespace Wx
open Go Go.RowKit Go.Proofs
set_option linter.unusedVariables false
attribute [local irreducible] OpOk
variable {s:ByteArray}
theorem lB {r:ByteArray} (h:s=r):∀w v,pT s w v->pT r w v:=by subst h; exactλ_ _ h=>h
variable {k:Nat}
theorem qM (h:s.size<=k):bz s k=0:=by
 unfold bz
 rw[List.getD_eq_getElem?_getD,List.getElem?_eq_none (by rw[Array.length_toList]; exact h)]
 rfl
theorem eT (b:ByteArray) (o k:Nat):bz (b.extract o b.size) k=bz b (o+k):=by
 by_cases h:o+k<b.size
 ·exact qL h (Nat.le_refl _)
 ·rw[qM (by rw[ByteArray.size_extract]; omega),qM (by omega)]
theorem cJ {a e:Nat} (h:k<(s.extract a e).size):bz (s.extract a e) k=bz s (a+k):=by
 rw[cG h,cG (s:=s) (by rw[ByteArray.size_extract]at h; omega),ByteArray.getElem_extract]
theorem jH (b:ByteArray) {o e f:Nat}:(b.extract o b.size).extract e f=b.extract (o+e) (o+f):=by
 rw[ByteArray.extract_extract]
 have hs:(b.extract (o+e) (min (o+f) b.size)).size=(b.extract (o+e) (o+f)).size:=by simp only[ByteArray.size_extract]; omega
 exact dN hs λk hk=>by rw[cJ hk,cJ (hs▸hk)]
theorem B9 {n m:Nat} {f:Nat->Pred} (h:n=m):∀w v,aI 1 false n f w v->aI 1 false m f w v:=by subst h; exactλ_ _ h=>h
end Wx

namespace Wx
open Go Go.RowKit Go.Proofs
theorem zi (s:ByteArray) (j:Nat):Lib.occAt s.data.toList nC.data.toList j=true↔j<s.size/\bz s j=32:=by
 show List.isPrefixOf [32] (s.data.toList.drop j)=true↔_
 by_cases h:j<s.size
 ·have h':j<s.data.toList.length:=by rw[Array.length_toList]; exact h
  rw[List.drop_eq_getElem_cons h',cG h,show s[j]=s.data.toList[j]from rfl]
  generalize s.data.toList[j]=u
  show((32:UInt8)==u&&true)=true↔_
  rw[Bool.and_true,beq_iff_eq]
  constructor
  ·rintro rfl; exact⟨h,rfl⟩
  ·rintro⟨_,e⟩
   refine UInt8.toNat_inj.1 ?_
   have e:((u.toNat:Nat):Int)=32:=e
   show 32=u.toNat
   omega
 ·rw[List.drop_eq_nil_of_le (by rw[Array.length_toList]; exact Nat.not_lt.1 h)]
  exact⟨λk=>(by cases k),λk=>absurd k.1 h⟩
variable {s:ByteArray} {j:Nat}
theorem occ_no (h:bz s j≠32):Lib.occAt s.data.toList nC.data.toList j=false:=by
 cases e:Lib.occAt s.data.toList nC.data.toList j
 ·rfl
 ·exact absurd ((zi s j).1 e).2 h
theorem jr (hj:j<s.size) (h:bz s j=32) (hn:∀k,k<j->bz s k≠32):ay s=s.extract 0 j::ay (s.extract (j+1) s.size):=by
 have hi:Lib.indexB s nC=j:=Lib.index_hit (λk hk=>occ_no (hn k hk)) (by rw[Array.length_toList]; exact Nat.le_of_lt hj) ((zi s j).2 ⟨hj,h⟩)
 unfold ay
 rw[Lib.countB_hit s nC j (by decide) hi,Nat.add_comm,Lib.splitB_hit _ _ _ _ j hi]
 rfl
theorem js (hn:∀k,k<s.size->bz s k≠32):ay s=[s]:=by
 have hi:Lib.indexB s nC = -1:=Lib.index_past (i:=s.size) (by decide) (λk hk=>occ_no (hn k hk)) (by rw[Array.length_toList]; exact Nat.lt_succ_self _)
 unfold ay
 exact Lib.splitB_miss _ _ _ _ hi
theorem tR (s:ByteArray):∃j,j<=s.size/\(∀k,k<j->bz s k≠32)/\(j<s.size->bz s j=32)/\s.extract 0 j∈ay s:=by
 by_cases hx:∃j,j<s.size/\bz s j=32
 ·have key:∀n,(∃j,j<n/\j<s.size/\bz s j=32)->∃j,j<s.size/\bz s j=32/\∀k,k<j->bz s k≠32:=by
   intro n
   induction n with
   |zero=>rintro⟨j,h,_⟩; omega
   |succ n ih=>
    rintro⟨j,h1,h2,h3⟩
    by_cases e:∃j,j<n/\j<s.size/\bz s j=32
    ·exact ih e
    ·exact⟨j,h2,h3,λk hk hk2=>e ⟨k,by omega,by omega,hk2⟩⟩
  obtain⟨j,h1⟩:=hx
  obtain⟨j,h1,h2,h3⟩:=key s.size ⟨j,h1.1,h1⟩
  exact⟨j,Nat.le_of_lt h1,h3,λ_=>h2,by rw[jr h1 h2 h3]; exact List.mem_cons_self⟩
 ·have hn:∀k,k<s.size->bz s k≠32:=λk h1 h2=>hx ⟨k,h1,h2⟩
  refine⟨s.size,Nat.le_refl _,hn,λh=>absurd h (Nat.lt_irrefl _),?_⟩
  rw[js hn,ByteArray.extract_zero_size]
  exact List.mem_singleton.2 rfl
theorem mq {φ:Int->Bool} (h:dx φ s=true) {k:Nat} (hk:k<s.size):φ (bz s k)=true:=by
 unfold dx at h
 simp only[Bool.and_eq_true,decide_eq_true_eq]at h
 exact h.1 k hk
structure mj (s:ByteArray) (i m o:Nat):Prop where
 le:i<=s.size+1
 words:∀q,q<m->dx cP ((ay s).getD q ⟨#[]⟩)=true
 DY:m<=i
 mid:i<=s.size->o<=i/\(ay s).drop m=ay (s.extract o s.size)/\∀k,o<=k->k<i->cP (bz s k)=true
 fin:i=s.size+1->m=(ay s).length
theorem FN (s:ByteArray):mj s 0 0 0:=⟨Nat.zero_le _,λ_ h=>absurd h (Nat.not_lt_zero _),Nat.le_refl _,λ_=>⟨Nat.le_refl _,by rw[ByteArray.extract_zero_size]; rfl,λ_ _ h=>absurd h (Nat.not_lt_zero _)⟩,λh=>by omega⟩
variable {i m o:Nat}
theorem Cq (h:mj s i m o) (hi:i<s.size) (hc:cP (bz s i)=true):mj s (i+1) m o:=by
 obtain⟨h1,h2,h3⟩:=h.mid (Nat.le_of_lt hi)
 refine⟨by omega,h.words,by have:=h.DY; omega,λ_=>⟨by omega,h2,λk h4 h5=>?_⟩,λe=>by omega⟩
 by_cases e:k=i
 ·rw[e]; exact hc
 ·exact h3 k h4 (by omega)
theorem uF {x:Int} (h:cP x=true):x≠32:=by
 rintro rfl
 cases h
theorem Cr (h:mj s i m o) (hi:i<=s.size) (hc:(i<s.size/\bz s i≠32/\cP (bz s i)=false)\/(i=o/\(i<s.size->cP (bz s i)=false))):bt s=false:=by
 obtain⟨h1,h2,h3⟩:=h.mid hi
 cases hl:bt s
 ·rfl
 ·exfalso
  obtain⟨j,k1,k2,k3,k4⟩:=tR (s.extract o s.size)
  have hmem:(s.extract o s.size).extract 0 j∈ay s:=List.mem_of_mem_drop (by rw[h2]; exact k4)
  unfold bt at hl
  rw[decide_eq_true_eq]at hl
  have hw:=hl _ hmem
  rw[jH,Nat.add_zero]at hw
  have hp:=gv hw
  rw[ByteArray.size_extract]at hp k1 k3
  have hat:∀r,r<j->cP (bz s (o+r))=true:=λr hr=>by
   have hr2:r<(s.extract o (o+j)).size:=by rw[ByteArray.size_extract]; omega
   have:=mq hw hr2
   rwa [cJ hr2]at this
  have hj:¬i-o<j:=λhr=>by
   have e:=hat _ hr
   rw[show o+(i-o)=i by omega]at e
   rcases hc with⟨c1,c2,c3⟩|⟨c1,c2⟩
   ·rw[c3]at e; cases e
   ·rw[c2 (by omega)]at e; cases e
  have hb:=k3 (by omega)
  rw[eT]at hb
  rcases Nat.lt_or_ge (o+j) i with e|e
  ·exact uF (h3 _ (by omega) e) hb
  ·rcases hc with⟨c1,c2,c3⟩|⟨c1,c2⟩
   ·exact c2 (by rw[show i=o+j by omega]; exact hb)
   ·omega
theorem zZ (h:mj s i m o) (hi:i<=s.size) (hc:i<s.size->bz s i=32) (ho:i≠o):mj s (i+1) (m+1) (i+1)/\(ay s).getD m ⟨#[]⟩=s.extract o i:=by
 obtain⟨h1,h2,h3⟩:=h.mid hi
 have hsz:(s.extract o s.size).size=s.size-o:=by rw[ByteArray.size_extract]; omega
 have hno:∀k,k<i-o->bz (s.extract o s.size) k≠32:=λk hk=>by
  rw[eT]
  exact uF (h3 _ (by omega) (by omega))
 have JL:∃r,(ay s).drop m=s.extract o i::r/\(i<s.size->r=ay (s.extract (i+1) s.size))/\(i=s.size->r=[]):=by
  rcases Nat.lt_or_ge i s.size with e|e
  ·refine⟨_,?_,λ_=>rfl,λe'=>by omega⟩
   rw[h2,jr (j:=i-o) (by omega) (by rw[eT,show o+(i-o)=i by omega]; exact hc e) hno,jH,hsz,jH,Nat.add_zero,show o+(i-o)=i by omega,show o+(i-o+1)=i+1 by omega,show o+(s.size-o)=s.size by omega]
  ·refine⟨[],?_,λe'=>by omega,λ_=>rfl⟩
   rw[h2,js (λk hk=>hno k (by omega)),show i=s.size by omega]
 obtain⟨r,hr,hr1,hr2⟩:=JL
 have xZ:(ay s).getD m ⟨#[]⟩=s.extract o i:=by
  have:=congrArg (λl:List ByteArray=>l[0]?) hr
  simp only[List.getElem?_drop,Nat.add_zero,List.getElem?_cons_zero]at this
  rw[List.getD_eq_getElem?_getD,this]
  rfl
 have CS:(ay s).drop (m+1)=r:=by
  rw[<-List.drop_drop,hr]
  rfl
 refine⟨⟨by omega,λq hq=>?_,by have:=h.DY; omega,λhi2=>⟨Nat.le_refl _,by rw[CS,hr1 (by omega)],λk a b=>by omega⟩,λe=>?_⟩,xZ⟩
 ·by_cases e:q=m
  ·rw[e,xZ]
   unfold dx
   rw[Bool.and_eq_true,decide_eq_true_eq,decide_eq_true_eq]
   refine⟨λk hk=>?_,λe=>?_⟩
   ·rw[cJ hk]
    rw[ByteArray.size_extract]at hk
    exact h3 _ (by omega) (by omega)
   ·have:=congrArg ByteArray.size e
    rw[ByteArray.size_extract]at this
    have h0:(⟨#[]⟩:ByteArray).size=0:=rfl
    omega
  ·exact h.words q (by omega)
 ·have h5:=hr2 (by omega)
  have h6:=congrArg List.length CS
  have h7:=congrArg List.length hr
  rw[h5]at h6 h7
  rw[List.length_drop]at h6 h7
  simp only[List.length_cons,List.length_nil]at h6 h7
  omega
theorem Aa (h:mj s i m o) (hi:i=s.size+1):bt s=true/\m=(ay s).length:=by
 have hm:=h.fin hi
 refine⟨?_,hm⟩
 unfold bt
 rw[decide_eq_true_eq]
 intro w hw
 obtain⟨k,hk,rfl⟩:=List.mem_iff_getElem.1 hw
 have:=h.words k (by omega)
 rwa [List.getD_eq_getElem?_getD,List.getElem?_eq_getElem hk]at this
def cV (s:ByteArray):List ByteArray:=if bt s=true then ay s else[]
theorem Cs (h:((decide ((i:Int)<s.size)&&decide (bz s i>=33))&&decide (bz s i<=126))=true):i<s.size/\cP (bz s i)=true:=by
 simp only[Bool.and_eq_true,decide_eq_true_eq]at h
 refine⟨by omega,?_⟩
 unfold cP
 simp only[Bool.and_eq_true,decide_eq_true_eq]
 omega
theorem oN (h:((decide ((i:Int)<s.size)&&decide (bz s i>=33))&&decide (bz s i<=126))=false) (hi:i<s.size):cP (bz s i)=false:=by
 cases e:cP (bz s i)
 ·rfl
 ·exfalso
  unfold cP at e
  simp only[Bool.and_eq_true,decide_eq_true_eq]at e
  rw[decide_eq_true (show(i:Int)<s.size by omega),decide_eq_true (show bz s i>=33 by omega),decide_eq_true (show bz s i<=126 by omega)]at h
  cases h
theorem Ct (hk:mj s i m o) (hi:i<=s.size) (h2:((decide ((i:Int)<s.size)&&decide (bz s i>=33))&&decide (bz s i<=126))=false) (h3:((decide ((i:Int)<s.size)&&decide (bz s i≠32))||decide ((i:Int)=o))=true):bt s=false:=by
 refine Cr hk hi ?_
 simp only[Bool.or_eq_true,Bool.and_eq_true,decide_eq_true_eq]at h3
 rcases h3 with h3|h3
 ·exact .inl ⟨by omega,h3.2,oN h2 (by omega)⟩
 ·exact .inr ⟨by omega,oN h2⟩
theorem Ab (hk:mj s i m o) (hi:i<=s.size) (h3:((decide ((i:Int)<s.size)&&decide (bz s i≠32))||decide ((i:Int)=o))=false):mj s (i+1) (m+1) (i+1)/\(ay s).getD m ⟨#[]⟩=s.extract o i:=by
 simp only[Bool.or_eq_false_iff,Bool.and_eq_false_iff,decide_eq_false_iff_not,Decidable.not_not]at h3
 exact zZ hk hi (λh=>by rcases h3.1 with h4|h4<;>omega) (by omega)
theorem dR (h:bt s=true):cV s=ay s:=if_pos h
theorem iW (h:bt s=false):cV s=[]:=if_neg (by rw[h]; exact Bool.false_ne_true)
end Wx

namespace Wx
set_option maxRecDepth 100000
set_option maxHeartbeats 1000000
open Go Go.RowKit Go.Proofs
set_option linter.unusedVariables false
attribute [local irreducible] OpOk
variable {L:List ByteArray}
theorem yY (hr:L=[]):∀w v,aG (.slice none 0 0) w v->uQ L w v:=by
 subst hr
 rintro w v rfl
 exact⟨none,0,rfl,Nat.le_refl _,by decide,λh=>absurd h (Nat.lt_irrefl _)⟩
theorem Cj {K:List ByteArray} {n:Nat} (h:K=L) (hn:n=L.length):∀w v,aI 1 false n (λq=>pT (L.getD q ⟨#[]⟩)) w v->uQ K w v:=by
 subst h hn
 exactλ_ _ h=>h
theorem uT {s:ByteArray} (hz:s.size<=1000000):K1 Tryz.prog 31 (pT s) (uQ (cV s)):=by
 intro M w0 v0 hM hv0
 refine fR (N:=53) Tryz.func31 rfl rfl rfl hM hv0 λa hI=>?_
 refine au hI 1 [Uc 0 2 _] (.k .z) ⟨mv,trivial⟩ (.kk .z) λa w hI=>?_
 refine bO hI 1 [⟨3,3,some 0,none,.grow (0) 1,9,3,true,pv aT,[]⟩] [] [Uc 0 3 _] .z (.kk .z) ⟨HN (f:=λq=>pT ((ay s).getD q ⟨#[]⟩)),trivial⟩ (.k .z) (.aU .z) λa w hI=>?_
 refine bO hI 1 [] [] [Uc 0 4 _] (.k .z) (.aU .z) ⟨mv,trivial⟩ (.k .z) (.af .z) λa w hI=>?_
 refine ah ?_
 refine bO hI 1 [] [] [Uc 0 5 _] (.k .z) (.af .z) ⟨mv,trivial⟩ (.k .z) (.af (.k .z)) λa w hI=>?_
 refine aD ?_
 refine qz [] [Uz 0 _] (λ(k:Nat×Nat×Nat)=>[Gz 3 3 k.2.1 1 9]) (λ(k:Nat×Nat×Nat)=>[Uz 3 (aI 1 false k.2.1 λq=>pT ((ay s).getD q ⟨#[]⟩)),Uz 4 (pI (k.2.2:Int)),Uz 5 (pI (k.1:Int))]) (λ(k:Nat×Nat×Nat)=>mj s k.1 k.2.1 k.2.2) (λ(k:Nat×Nat×Nat)=>s.size+1-k.1) ((0,0,0)) (FN s) hI ⟨vG,trivial⟩ ⟨gi,gc,gc,gc,trivial⟩ ?_
 intro k a w hk hI
 refine ah ?_
 refine bO hI 4 [] [] [Uc 0 6 _,Uc 1 7 _,Uc 2 8 _,Uc 3 9 _] (.k .z) (.af .z) ⟨mv,mv,gF,bn,trivial⟩ (.k .z) (.af (.cf .z)) λa w hI=>?_
 refine jv hI (λt1=>?_) (λt1=>?_)
 ·
  have hi:k.1<=s.size:=by omega
  have fg:=hk.mid hi
  have JJ:=hk.DY
  refine ak ?_
  refine ae ?_
  refine ah ?_
  refine aD ?_
  refine ah ?_
  refine bO hI 16 [] [] [Uc 0 12 _,Uc 1 13 _,Uc 2 14 _,Uc 3 15 _,Uc 4 16 _,Uc 5 17 _,Uc 6 18 _,Uc 7 19 _,Uc 8 20 _,Uc 9 21 _,Uc 10 22 _,Uc 11 23 _,Uc 12 24 _,Uc 13 25 _,Uc 14 26 _,Uc 15 27 _] (.k .z) (.af (.k .z)) ⟨mv,mv,gF,bn,mv,gd λh=>cy h,gd λh=>cy h,gd λh=>lJ k.1 (h:=hg) (hy:=hg) (hk:=by simp only[decide_eq_true_eq]at h; omega) (hp:=pg h rfl),gd λh=>fS h,pk,mv,gd λh=>cy h,gd λh=>cy h,gd λh=>lJ k.1 (h:=hg) (hy:=hg) (hk:=by simp only[Bool.and_eq_true,decide_eq_true_eq]at h; omega) (hp:=pg h rfl),gd λh=>fS h,pk,trivial⟩ (.k .z) (.af (.d8 (.d8 (.k .z)))) λa w hI=>?_
  refine nX hI (λt2=>?_) (λt2=>?_)
  ·
   have hgo:=Cs t2
   refine cj ?_
   refine aC ?_
   refine bf ?_
   refine ae ?_
   refine sG hI 3 [] [] [Uc 0 10 _,Uc 1 11 _,Uc 2 5 _] (.k .z) (.aU (.t 2 (.k .z))) ⟨mv,bn,mv,trivial⟩ (.k .z) (.bj (.cf .z)) λa w hI=>?_
   refine ae ?_
   exact nQ ((k.1+1,k.2.1,k.2.2)) (Cq hk hgo.1 hgo.2) hI ⟨vG,trivial⟩ ⟨gc,gc,gc,gc,trivial⟩ (by(show s.size+1-(k.1+1)<s.size+1-k.1); omega)
  ·
   refine ak ?_
   refine ae ?_
   refine ah ?_
   refine bO hI 15 [] [] [Uc 0 28 _,Uc 1 29 _,Uc 2 30 _,Uc 3 31 _,Uc 4 32 _,Uc 5 33 _,Uc 6 34 _,Uc 7 35 _,Uc 8 36 _,Uc 9 37 _,Uc 10 38 _,Uc 11 39 _,Uc 12 40 _,Uc 13 41 _,Uc 14 42 _] (.k .z) (.af (.k .z)) ⟨mv,mv,gF,bn,mv,gd λh=>cy h,gd λh=>cy h,gd λh=>lJ k.1 (h:=hg) (hy:=hg) (hk:=by simp only[decide_eq_true_eq]at h; omega) (hp:=pg h rfl),gd λh=>fS h,pk,mv,gd λh=>cy h,gd λh=>cy h,gd λh=>fS h,pk,trivial⟩ (.k .z) (.af (.d8 (.bp (.cf .z)))) λa w hI=>?_
   refine nX hI (λt3=>?_) (λt3=>?_)
   ·
    have hno:=Ct hk hi t2 t3
    refine bO hI 1 [] [] [Uc 0 2 _] (.k .z) (.af (.k .z)) ⟨mv,trivial⟩ (.k .z) (.af (.dk .z)) λa w hI=>?_
    refine av ?_
    refine aj ?_
    refine aS ?_
    refine aj ?_
    refine aj ?_
    refine aS ?_
    refine aj ?_
    exact bW hI rfl (cm (hq:=yY (iW hno)))
   ·
    refine ak ?_
    refine ae ?_
    have hcut:=Ab hk hi t3
    refine ju hI 8 7 [⟨43,43,some 0,some 6,.grow (k.2.1) 1,9,3,true,pv aT,[]⟩,⟨49,49,some 6,none,.grow (k.2.1+1) 1,9,3,true,pv aT,[]⟩] [] [Uc 0 43 _,Uc 1 44 _,Uc 2 45 _,Uc 3 46 _,Uc 4 47 _,Uc 5 48 _,Uc 6 49 _] (.u (some 0) [] .z) (.af (.k .z)) ⟨IY,mv,mv,mv,Im k.2.2 k.1 (hj:=fg.1),vq 9,KP (f:=λq=>pT ((ay s).getD q ⟨#[]⟩)) (λ_=>aE _) (aE _) (lB hcut.2.symm),trivial⟩ (.d (.d (.k .z))) (.gS (.bp (.cf .z))) (⟨_,bF [⟨3,3,some 0,none,.grow (k.2.1+1) 1,9,3,true,pv aT,[]⟩] [] [Uc 0 3 _] (.u (some 0) [] .z) (.aU .z) (IB) (.d (.k .z)) (.bS .z),rfl⟩) λa w hI=>?_
    refine sG hI 3 [] [] [Uc 0 50 _,Uc 1 51 _,Uc 2 4 _] (.k .z) (.aU .z) ⟨mv,bn,mv,trivial⟩ (.k .z) (.bj (.dk .z)) λa w hI=>?_
    refine bk ?_
    refine ae ?_
    refine sG hI 3 [] [] [Uc 0 10 _,Uc 1 11 _,Uc 2 5 _] (.k .z) (.k (.t 2 (.kk .z))) ⟨mv,bn,mv,trivial⟩ (.k .z) (.mI (.eC .z)) λa w hI=>?_
    refine ae ?_
    exact nQ ((k.1+1,k.2.1+1,k.1+1)) hcut.1 hI ⟨vG,trivial⟩ ⟨gc,gc,gc,gc,trivial⟩ (by(show s.size+1-(k.1+1)<s.size+1-k.1); omega)
 ·
  have hend:=Aa hk (by have:=hk.le; omega)
  refine cj ?_
  refine aC ?_
  refine aC ?_
  refine bf ?_
  refine ae ?_
  refine bO hI 2 [⟨52,52,some 0,some 1,.grow (k.2.1) 1,9,3,true,pv aT,[]⟩,⟨2,2,some 1,none,.grow (k.2.1) 1,9,3,true,pv aT,[]⟩] [] [Uc 0 52 _,Uc 1 2 _] (.u (some 0) [] .z) (.af (.k .z)) ⟨IY,IB,trivial⟩ (.d (.d (.k .z))) (.bp (.eC .z)) λa w hI=>?_
  refine av ?_
  exact bW hI rfl (cm (hq:=Cj (dR hend.1) hend.2))
end Wx
