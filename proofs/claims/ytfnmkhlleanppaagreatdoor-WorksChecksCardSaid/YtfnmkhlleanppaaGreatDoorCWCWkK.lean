import Derived.Test.YtfnmkhlleanppaaGreatDoorJWC36
namespace Wx
open Go Go.RowKit Go.Proofs
variable {φ:Int->Bool}
theorem qI {ψ:Int->Bool} (h:∀x,φ x=true->ψ x=true) {s:ByteArray} (hs:dx φ s=true):dx ψ s=true:=by
 unfold dx at *
 simp only[Bool.and_eq_true,decide_eq_true_eq]at *
 exact⟨λk hk=>h _ (hs.1 k hk),hs.2⟩
theorem xz (x:Int) (h:gA x=true):cP x=true:=by
 unfold gA at h; unfold cP
 simp only[Bool.and_eq_true,decide_eq_true_eq]at *
 omega
theorem wg (x:Int) (h:gG x=true):cP x=true:=by
 unfold gG gA at h; unfold cP
 simp only[Bool.and_eq_true,Bool.or_eq_true,decide_eq_true_eq]at *
 omega
variable {s:ByteArray}
theorem AA (h:s.size=1) (h0:φ (bz s 0)=true):dx φ s=true:=by
 unfold dx
 simp only[Bool.and_eq_true,decide_eq_true_eq]
 refine⟨λk hk=>by rw[show k=0 by omega]; exact h0,λe=>by rw[e]at h; cases h⟩
abbrev si:ByteArray:=⟨#[112,97,114,116]⟩
abbrev lM:ByteArray:=⟨#[115,117,109,32]⟩
theorem wC:dx cP si=true:=by
 unfold dx
 simp only[Bool.and_eq_true,decide_eq_true_eq]
 refine⟨λk hk=>?_,λe=>by have:=congrArg ByteArray.size e; cases this⟩
 match k,hk with
 |0,_=>exact by decide
 |1,_=>exact by decide
 |2,_=>exact by decide
 |3,_=>exact by decide
def Ee (L:List ByteArray):Bool:=decide (L.length=3/\L.getD 0 ⟨#[]⟩=si/\cC (L.getD 1 ⟨#[]⟩)=true/\(L.getD 2 ⟨#[]⟩).size=1/\48<=bz (L.getD 2 ⟨#[]⟩) 0/\bz (L.getD 2 ⟨#[]⟩) 0<=56)
def xV (s:ByteArray):Bool:=Ee (ay s)
def vI (s:ByteArray):ByteArray:=if xV s=true then(ay s).getD 1 ⟨#[]⟩else⟨#[]⟩
def Ap (s:ByteArray):Int:=if xV s=true then bz ((ay s).getD 2 ⟨#[]⟩) 0-48 else 0
theorem uv (h:xV s=true):bt s=true:=by
 obtain⟨h1,h2,h3,h4,h5,h6⟩:=of_decide_eq_true h
 refine(rK λk hk=>?_).symm
 rw[h1]at hk
 match k,hk with
 |0,_=>rw[h2]; exact wC
 |1,_=>
  unfold cC at h3
  rw[Bool.and_eq_true]at h3
  exact qI wg h3.2
 |2,_=>
  refine AA h4 ?_
  unfold cP
  simp only[Bool.and_eq_true,decide_eq_true_eq]
  omega
theorem mE (s:ByteArray):Ee (cV s)=xV s:=by
 cases h:bt s
 ·rw[iW h]
  cases h2:xV s
  ·exact decide_eq_false λh=>by cases h.1
  ·rw[uv h2]at h; cases h
 ·rw[dR h]; rfl
theorem vK (h:Ee (cV s)=true):cV s=ay s:=dR (uv (by rw[<-mE]; exact h))
def C9 (s:ByteArray):Bool:=decide (iz 32 s=true/\bJ (eU 32 s)=true/\(fA 32 s).size<=200/\bt (fA 32 s)=true)
def qd (s:ByteArray):Int:=if C9 s=true then dW (eU 32 s)else 0
theorem iU (h:iz 32 s=true):ay s=eU 32 s::ay (fA 32 s):=by
 have h:=of_decide_eq_true h
 exact jr h (tj h) λk hk=>pO hk
theorem sA (h:iz 32 s=false):ay s=[s]:=by
 have h:=of_decide_eq_false h
 exact js λk hk=>pO (c:=32) (by omega)
theorem mM (h:iz 32 s=true):bt s=true↔(dx cP (eU 32 s)=true/\bt (fA 32 s)=true):=by
 unfold bt
 rw[iU h,decide_eq_true_eq,decide_eq_true_eq]
 exact List.forall_mem_cons
theorem rS (h:bJ s=true):dx cP s=true:=by
 unfold bJ at h
 simp only[Bool.and_eq_true]at h
 exact qI xz h.1.2
variable {a:Int}
theorem tD (ha:0<=a):a<qd s↔(2<=(cV s).length/\bJ ((cV s).getD 0 ⟨#[]⟩)=true/\a<dW ((cV s).getD 0 ⟨#[]⟩)/\(s.size:Int)-((cV s).getD 0 ⟨#[]⟩).size-1<=200):=by
 constructor
 ·intro h
  cases hn:C9 s
  ·unfold qd at h; rw[hn,if_neg Bool.false_ne_true]at h; omega
  ·unfold qd at h; rw[hn,if_pos rfl]at h
   obtain⟨h1,h2,h3,h4⟩:=of_decide_eq_true hn
   have hl:=(mM h1).2 ⟨rS h2,h4⟩
   rw[dR hl,iU h1]
   refine⟨?_,h2,h,?_⟩
   ·rw[List.length_cons,dw]; omega
   ·show(s.size:Int)-(eU 32 s).size-1<=200
    have h1:=of_decide_eq_true h1
    unfold fA at h3
    unfold eU
    rw[ByteArray.size_extract]at *
    omega
 ·rintro⟨h1,h2,h3,h4⟩
  cases hl:bt s
  ·rw[iW hl]at h1; simp at h1
  ·rw[dR hl]at *
   cases hc:iz 32 s
   ·rw[sA hc]at h1; simp at h1
   ·rw[iU hc]at h2 h3 h4
    have h2:bJ (eU 32 s)=true:=h2
    have h3:a<dW (eU 32 s):=h3
    have h4:(s.size:Int)-(eU 32 s).size-1<=200:=h4
    have hb:C9 s=true:=decide_eq_true ⟨hc,h2,by
     have hc:=of_decide_eq_true hc
     unfold eU at h4
     unfold fA
     rw[ByteArray.size_extract]at *
     omega,((mM hc).1 hl).2⟩
    unfold qd
    rw[hb,if_pos rfl]
    exact h3
theorem E3 (ha:0<=a) (h:a<qd s):dW ((cV s).getD 0 ⟨#[]⟩)=qd s:=by
 cases hn:C9 s
 ·unfold qd at h; rw[hn,if_neg Bool.false_ne_true]at h; omega
 ·obtain⟨h1,h2,h3,h4⟩:=of_decide_eq_true hn
  rw[dR ((mM h1).2 ⟨rS h2,h4⟩),iU h1]
  unfold qd
  rw[hn,if_pos rfl]
  rfl
def mU (s:ByteArray):Nat->Int
 |0=>0
 |k+1=>10*mU s k+(bz s k-48)
theorem qg {s:ByteArray}:∀{k:Nat},k<=s.size->(∀j,j<k->gA (bz s j)=true)->0<=mU s k/\mU s k<((10^k:Nat):Int)
 |0,_,_=>⟨Int.le_refl _,by show(0:Int)<((1:Nat):Int); decide⟩
 |k+1,hk,h=>by
  have ih:=qg (s:=s) (k:=k) (by omega) λj hj=>h j (by omega)
  have hd:=h k (by omega)
  unfold gA at hd
  simp only[Bool.and_eq_true,decide_eq_true_eq]at hd
  show 0<=10*mU s k+(bz s k-48)/\10*mU s k+(bz s k-48)<_
  rw[Nat.pow_succ]
  omega
theorem E7 {k:Nat} (hk:k<=s.size) (h8:k<=8) (h:∀j,j<k->gA (bz s j)=true):0<=mU s k/\mU s k<100000000:=by
 have h1:=qg hk h
 have h2:10^k<=10^8:=Nat.pow_le_pow_right (by decide) h8
 have e:(10:Nat)^8=100000000:=by decide
 omega
theorem qT:∀(l:List UInt8) (acc:Nat),(∀b,b∈l->48<=b.toNat/\b.toNat<=57)->Lib.decFrom acc l=some (l.foldl (λa b=>a*10+(b.toNat-48)) acc)
 |[],_,_=>rfl
 |b::r,acc,h=>by
  unfold Lib.decFrom Lib.digitVal
  rw[if_pos (h b List.mem_cons_self)]
  exact qT r _ λc hc=>h c (List.mem_cons_of_mem _ hc)
theorem qZ {s:ByteArray}:∀{k:Nat},k<=s.size->(∀j,j<k->gA (bz s j)=true)->(((s.data.toList.take k).foldl (λa (b:UInt8)=>a*10+(b.toNat-48)) 0:Nat):Int)=mU s k
 |0,_,_=>rfl
 |k+1,hk,h=>by
  have ih:=qZ (s:=s) (k:=k) (by omega) λj hj=>h j (by omega)
  have hd:=h k (by omega)
  unfold gA at hd
  simp only[Bool.and_eq_true,decide_eq_true_eq]at hd
  have hk':k<s.data.toList.length:=by rw[Array.length_toList]; exact hk
  rw[List.take_add_one,List.getElem?_eq_getElem hk',List.foldl_append]
  have e:bz s k=((s.data.toList[k]).toNat:Int):=by rw[cG (show k<s.size from hk),Array.getElem_toList]; rfl
  show((((s.data.toList.take k).foldl (λa (b:UInt8)=>a*10+(b.toNat-48)) 0)*10+((s.data.toList[k]).toNat-48):Nat):Int)=10*mU s k+(bz s k-48)
  omega
theorem uK (h:bJ s=true):dW s=mU s s.size:=by
 have h0:=h
 unfold bJ at h
 simp only[Bool.and_eq_true,decide_eq_true_eq]at h
 obtain⟨⟨h1,h2⟩,_⟩:=h
 have hpos:=gv h2
 have hd:∀b,b∈s.data.toList->48<=b.toNat/\b.toNat<=57:=λb hb=>by
  obtain⟨k,hk,rfl⟩:=List.mem_iff_getElem.1 hb
  have hk':k<s.size:=by rw[Array.length_toList]at hk; exact hk
  have:=mq h2 hk'
  unfold gA at this
  simp only[Bool.and_eq_true,decide_eq_true_eq]at this
  have e:bz s k=((s.data.toList[k]).toNat:Int):=by rw[cG hk',Array.getElem_toList]; rfl
  rw[e]at this
  omega
 have hf:=qZ (s:=s) (Nat.le_refl _) λj hj=>mq h2 hj
 rw[List.take_of_length_le (by rw[Array.length_toList]; exact Nat.le_refl _)]at hf
 rw[<-hf]
 unfold dW
 cases hl:s.data.toList with
 |nil=>
  have:s.data.toList.length=0:=by rw[hl]; rfl
  rw[Array.length_toList]at this
  have:s.size=0:=this
  omega
 |cons b r=>
  rw[hl]at hd
  have hb:=hd b List.mem_cons_self
  simp only[Lib.atoi]
  rw[if_neg (λe=>by have e:=eq_of_beq e; rw[e]at hb; revert hb; decide),if_neg (λe=>by have e:=eq_of_beq e; rw[e]at hb; revert hb; decide)]
  unfold Lib.decNat
  rw[if_neg (by simp),qT _ _ hd]
  rfl
theorem jT:bJ s=decide ((1<=s.size/\s.size<=8)/\¬(1<s.size/\bz s 0=48)/\∀k,k<s.size->gA (bz s k)=true):=by
 unfold bJ dx
 rw[Bool.eq_iff_iff]
 simp only[Bool.and_eq_true,Bool.or_eq_true,decide_eq_true_eq]
 have one:s=⟨#[48]⟩↔s.size=1/\bz s 0=48:=by
  constructor
  ·rintro rfl; exact⟨rfl,rfl⟩
  ·rintro⟨h1,h2⟩
   refine dN h1 λk hk=>?_
   rw[show k=0 by omega,h2]
   rfl
 have none:s=⟨#[]⟩↔s.size=0:=⟨λe=>by rw[e]; rfl,λe=>dN e λk hk=>by omega⟩
 rw[Ne,none,one]
 constructor
 ·rintro⟨⟨h1,h2,h3⟩,h4⟩
  exact⟨⟨by omega,by omega⟩,λh=>by omega,h2⟩
 ·rintro⟨⟨h1,h2⟩,h3,h4⟩
  refine⟨⟨by omega,h4,by omega⟩,?_⟩
  by_cases e:bz s 0=48
  ·exact .inl ⟨by omega,e⟩
  ·exact .inr e
def tv (s:ByteArray):Bool:=decide (s.size=12/\s.extract 0 4=lM/\dx kN (s.extract 4 12)=true)
def qB (t:ByteArray) (q:Nat):Int:=if q=0 then 0 else qd (cZ t q)
def okF (t:ByteArray):Bool:=decide (dK t (aL t)=t.size)
def uS (t:ByteArray):Bool:=decide (∀q,q<aL t-2->qB t q<qB t (q+1))
def D1 (t:ByteArray):Bool:=decide ((okF t=true/\3<=aL t)/\xV (cZ t 0)=true/\tv (cZ t (aL t-1))=true/\uS t=true)
def KC (t:ByteArray):Bool:=decide (gR (lK 0 (t.extract 0 (dK t (aL t-1)))) 8=(cZ t (aL t-1)).extract 4 12)
def eu (t:ByteArray):Int:=if D1 t=true then if KC t=true then 0 else 102 else 2
def AG (t:ByteArray):ByteArray:=if eu t=0 then vI (cZ t 0)else⟨#[]⟩
def AH (t:ByteArray):Int:=if eu t=0 then Ap (cZ t 0)else 0
def qQ (t:ByteArray):Nat:=if eu t=0 then aL t-2 else 0
variable {t:ByteArray}
theorem jF (h:D1 t=false):eu t=2:=by unfold eu; rw[h]; rfl
theorem um (h:D1 t=true) (h2:KC t=false):eu t=102:=by unfold eu; rw[h,h2]; rfl
theorem CE (h:D1 t=true) (h2:KC t=true):eu t=0:=by unfold eu; rw[h,h2]; rfl
theorem DO (h:eu t≠0):AG t=⟨#[]⟩/\AH t=0/\qQ t=0:=⟨if_neg h,if_neg h,if_neg h⟩
theorem AI (h:eu t=0):AG t=vI (cZ t 0)/\AH t=Ap (cZ t 0)/\qQ t=aL t-2:=⟨if_pos h,if_pos h,if_pos h⟩
theorem jO (h:¬((okF t=true/\3<=aL t)/\xV (cZ t 0)=true/\tv (cZ t (aL t-1))=true/\uS t=true)):D1 t=false:=decide_eq_false h
theorem rO (t:ByteArray) (q:Nat):(cZ t q).size=fI 10 (ie t q):=by
 have:=mF 10 (ie t q)
 unfold cZ eU
 rw[ByteArray.size_extract]
 omega
theorem mN (t:ByteArray) (q:Nat):dK t (q+1)=dK t q+(cZ t q).size+1:=by rw[rO,fM]
theorem qa (t:ByteArray):dK t (aL t)<=t.size:=by
 rcases Nat.eq_zero_or_pos (aL t)with e|e
 ·rw[e]; exact Nat.zero_le _
 ·have:=pZ ((jG t).1 (aL t-1) (by omega))
  rwa [show aL t-1+1=aL t by omega]at this
theorem yQ (t:ByteArray) (q:Nat):(cZ t q).size<=t.size:=by
 have h1:=mF 10 (ie t q)
 have h2:=yO t q
 rw[rO]
 omega
def sy (t:ByteArray):Bool:=decide (0<t.size/\bz t (t.size-1)=10)
theorem zP (h:0<aL t):sy t=okF t:=by
 have he:=qa t
 obtain⟨c1,c2⟩:=jG t
 unfold sy okF
 rw[Bool.eq_iff_iff,decide_eq_true_eq,decide_eq_true_eq]
 constructor
 ·rintro⟨h1,h2⟩
  rcases Nat.lt_or_ge (dK t (aL t)) t.size with g|g
  ·exfalso
   have c2:=of_decide_eq_false c2
   have hz:=eW t (aL t)
   refine pO (c:=10) (s:=ie t (aL t)) (k:=t.size-1-dK t (aL t)) (by omega) ?_
   unfold ie
   rw[eT,show dK t (aL t)+(t.size-1-dK t (aL t))=t.size-1 by omega]
   exact h2
  ·omega
 ·intro h1
  have h3:=c1 (aL t-1) (by omega)
  have h4:=of_decide_eq_true h3
  have h5:=tj h4
  have h6:=fM t (aL t-1)
  rw[show aL t-1+1=aL t by omega]at h6
  unfold ie at h5
  rw[eT]at h5
  refine⟨by omega,?_⟩
  rw[show t.size-1=dK t (aL t-1)+fI 10 (ie t (aL t-1)) by omega]
  exact h5
def Av (s:ByteArray):Bool:=decide (4<=s.size/\s.extract 0 4=lM)
def wV (s:ByteArray):ByteArray:=if Av s=true then s.extract 4 s.size else s
theorem mO:tv s=true↔(Av s=true/\(wV s).size=8/\dx kN (wV s)=true):=by
 unfold tv
 rw[decide_eq_true_eq]
 constructor
 ·rintro⟨h1,h2,h3⟩
  have hp:Av s=true:=decide_eq_true ⟨by omega,h2⟩
  unfold wV
  rw[if_pos hp,ByteArray.size_extract,h1]
  exact⟨hp,by omega,h3⟩
 ·rintro⟨hp,h2,h3⟩
  obtain⟨k1,k2⟩:=of_decide_eq_true hp
  unfold wV at h2 h3
  rw[if_pos hp]at h2 h3
  rw[ByteArray.size_extract]at h2
  have e:s.size=12:=by omega
  rw[e]at h3
  exact⟨e,k2,h3⟩
theorem xy (h:tv s=true):wV s=s.extract 4 12:=by
 have hp:=(mO.1 h).1
 have h1:=(of_decide_eq_true h).1
 unfold wV
 rw[if_pos hp,h1]
theorem Gq (s:ByteArray):(wV s).size<=s.size:=by
 unfold wV
 split
 ·rw[ByteArray.size_extract]; omega
 ·exact Nat.le_refl _
structure qD (t:ByteArray) (i m:Nat):Prop where
 le:i<=t.size
 DY:m<=i
 Gh:dK t m<=i
 all:∀j,j<m->rM t j=true
 no:∀k,dK t m<=k->k<i->bz t k≠10
theorem EP (t:ByteArray):qD t 0 0:=⟨Nat.zero_le _,Nat.le_refl _,Nat.le_refl _,λ_ h=>absurd h (Nat.not_lt_zero _),λ_ _ h=>absurd h (Nat.not_lt_zero _)⟩
variable {i m:Nat}
theorem BD (h:qD t i m) (hi:i<t.size) (hc:bz t i≠10):qD t (i+1) m:=⟨hi,by have:=h.DY; omega,by have:=h.Gh; omega,h.all,λk h1 h2=>by
 by_cases e:k=i
 ·rw[e]; exact hc
 ·exact h.no k h1 (by omega)⟩
theorem rL (h:qD t i m) (ha:i<t.size->bz t i=10):fI 10 (ie t m)=i-dK t m:=by
 have hz:=eW t m
 have h1:=h.Gh
 have h2:=h.le
 refine idx_eq (by omega) (λj hj=>?_) λhj=>?_
 ·unfold ie; rw[eT]; exact h.no _ (by omega) (by omega)
 ·unfold ie; rw[eT,show dK t m+(i-dK t m)=i by omega]; exact ha (by omega)
theorem yM (h:qD t i m) (hi:i<t.size) (hc:bz t i=10):qD t (i+1) (m+1)/\dK t (m+1)=i+1/\cZ t m=t.extract (dK t m) i:=by
 have hx:=rL h λ_=>hc
 have h1:=h.Gh
 have hz:=eW t m
 have ho:dK t (m+1)=i+1:=by rw[fM,hx]; omega
 have hb:rM t m=true:=decide_eq_true (by rw[hx,hz]; omega)
 refine⟨⟨hi,by have:=h.DY; omega,by omega,λj hj=>?_,λk h2 h3=>by omega⟩,ho,?_⟩
 ·by_cases e:j=m
  ·rw[e]; exact hb
  ·exact h.all j (by omega)
 ·rw[BF,hx,show dK t m+(i-dK t m)=i by omega]
theorem yN (h:qD t i m) (hi:i=t.size):aL t=m:=by
 have hx:=rL h λh'=>by omega
 refine AJ h.all (decide_eq_false ?_)
 have h1:=h.Gh
 rw[hx,eW]
 omega
theorem xY (hz:s.size=16) (hd:∀k:Nat,k<16->bz s k=pH k) {n:Int} {k d:Nat} (e:(d:Int)=n/16^k%16):s.extract d (d+1)++gR n k=gR n (k+1):=by
 have JC:d<16:=by have:=Int.emod_lt_of_pos (n/16^k) (show(0:Int)<16 by decide); omega
 have hs:(s.extract d (d+1)).size=1:=by rw[ByteArray.size_extract]; omega
 refine dN (by rw[ByteArray.size_append,hs,cY,cY]; omega) λj hj=>?_
 rw[ByteArray.size_append,hs,cY]at hj
 rw[uk,jQ (n:=n) (k:=k+1) (j:=j) (by omega),hs]
 by_cases G4:j<1
 ·rw[if_pos G4,cJ (by rw[hs]; exact G4),show j=0 by omega,Nat.add_zero,hd d JC,e]
  rfl
 ·rw[if_neg G4,jQ (by omega)]
  congr 1
  omega
end Wx
