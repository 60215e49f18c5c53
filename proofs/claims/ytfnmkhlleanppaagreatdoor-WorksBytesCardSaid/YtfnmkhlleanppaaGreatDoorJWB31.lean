import Derived.Laws.Concat
import Derived.Test.YtfnmkhlleanppaaGreatDoorJWB30
namespace Wx
set_option maxRecDepth 100000
set_option maxHeartbeats 1000000
open Go Go.RowKit Go.Proofs
set_option linter.unusedVariables false
attribute [local irreducible] OpOk
section
variable {P:Program} {ops:Array Oper} {ms:List Nat} {c:bJ} {V:List Vr} {A:List Al} {G:List aI} {i d:Nat} {x y:Operand} {ty t u:TypeId} {pos:String} {au:Array Edge} {s r:ByteArray} {m n:Int}
theorem C7 (h1:Has ms G i x (pT s):=by exact hs) (h2:Has ms G i y (pT r):=by exact hs) (hz:s.size+r.size<=9223372036854775807:=by omega) (hp:Post G i (pT (s++r)):=by exact pt rfl):OpOk P ops ms c V A G i ⟨some d,.binOp .add t x y u,ty,pos,au,none⟩:=
 dz rfl rfl rfl rfl h1 h2 hp λρ w h1 h2=>⟨.string (s++r),by
  have h1:ρ x=.string s:=h1
  have h2:ρ y=.string r:=h2
  show(do pure (Next.value (<-(do eqGuard .add t x y (ρ x) (ρ y); Go.binOp .add t (ρ x) (ρ y))))).run P w=_
  rw[h1,h2]
  have hgd:eqGuard .add t x y (.string s) (.string r)=pure ():=by unfold eqGuard; rfl
  have hb:Go.binOp .add t (.string s) (.string r)=Op.stringOp .add s r:=rfl
  rw[hgd,hb,pure_bind,Sem.run_bind,run_string_add_sum w s r hz]
  rfl,λ_ _ _=>rfl⟩
abbrev dP (n:Int):Pred:=aJ (.int .u64 n)
theorem GC (h1:Has ms G i x (dP m):=by exact hs) (h2:Has ms G i y (dP 10):=by exact hs) (hm:0<=m:=by omega) (hp:Post G i (dP (m%10)):=by exact pt rfl):OpOk P ops ms c V A G i ⟨some d,.binOp .rem t x y u,ty,pos,au,none⟩:=
 cm h1 h2 (λw=>by
  show Result.ok (Value.int .u64 (m.tmod 10)) w=_
  rw[Int.tmod_eq_emod_of_nonneg hm]) hp
theorem GB (h1:Has ms G i x (dP m):=by exact hs) (h2:Has ms G i y (dP 10):=by exact hs) (hm:0<=m/\m<=9223372036854775807:=by omega) (hp:Post G i (dP (m/10)):=by exact pt rfl):OpOk P ops ms c V A G i ⟨some d,.binOp .quo t x y u,ty,pos,au,none⟩:=
 cm h1 h2 (λw=>by
  show Result.ok (Value.int .u64 (IntKind.u64.wrap (m.tdiv 10))) w=_
  rw[Int.tdiv_eq_ediv_of_nonneg hm.1,show IntKind.u64.wrap (m/10)=(m/10)%18446744073709551616 from rfl,Int.emod_eq_of_lt (by omega) (by omega)]) hp
theorem Fq (h1:Has ms G i x (dP m):=by exact hs) (h2:Has ms G i y (dP n):=by exact hs) (hm:0<=m+n/\m+n<=9223372036854775807:=by omega) (hp:Post G i (dP (m+n)):=by exact pt rfl):OpOk P ops ms c V A G i ⟨some d,.binOp .add t x y u,ty,pos,au,none⟩:=
 cm h1 h2 (λw=>by
  show Result.ok (Value.int .u64 (IntKind.u64.wrap (m+n))) w=_
  rw[show IntKind.u64.wrap (m+n)=(m+n)%18446744073709551616 from rfl,Int.emod_eq_of_lt (by omega) (by omega)]) hp
theorem DJ {S D:TypeId} (h:Has ms G i x (pI m):=by exact hs) (hm:0<=m/\m<=9223372036854775807:=by omega) (hr:∀w,(Go.convert S D (.int .i64 m)).run P w=.ok (.int .u64 (IntKind.u64.wrap m)) w:=by exactλ_=>by kernel_rfl) (hp:Post G i (dP m):=by exact pt rfl):OpOk P ops ms c V A G i ⟨some d,.convert S D x,ty,pos,au,none⟩:=
 dU h (λw=>by rw[hr w,show IntKind.u64.wrap m=m%18446744073709551616 from rfl,Int.emod_eq_of_lt (by omega) (by omega)]) hp
end
variable {r:Int}
theorem A6 (h:48<=r/\r<=57):∀w,(Go.convert 160 21 (.int .u64 r)).run Tryz.prog w=.ok (.int .i32 r) w:=λw=>by
 have:r=48\/r=49\/r=50\/r=51\/r=52\/r=53\/r=54\/r=55\/r=56\/r=57:=by omega
 rcases this with rfl|rfl|rfl|rfl|rfl|rfl|rfl|rfl|rfl|rfl<;>(refine Eq.trans (b:=_) ?_ rfl; kernel_rfl)
theorem A7 (h:48<=r/\r<=57):∀w,(Go.convert 21 9 (.int .i32 r)).run Tryz.prog w=.ok (.string ⟨#[byteOf r]⟩) w:=λw=>by
 have:r=48\/r=49\/r=50\/r=51\/r=52\/r=53\/r=54\/r=55\/r=56\/r=57:=by omega
 rcases this with rfl|rfl|rfl|rfl|rfl|rfl|rfl|rfl|rfl|rfl<;>(refine Eq.trans (b:=_) ?_ rfl; kernel_rfl)
variable {s:ByteArray}
theorem vz {r:ByteArray} (h:s=r):∀w v,pT s w v->pT r w v:=by subst h; exactλ_ _ h=>h
def DK (n:Int):Nat->Int
 |0=>n
 |_+1=>n/10
def zJ (n:Int):Nat->ByteArray
 |0=>⟨#[]⟩
 |_+1=>⟨#[byteOf (48+n%10)]⟩++⟨#[]⟩
variable {n:Int} {i:Nat}
theorem DL (h:1<=n/\n<=9) (hi:i<=1) (hd:DK n i>0):i=0:=by
 match i,hi,hd with
 |0,_,_=>rfl
 |1,_,hd=>have hd:n/10>0:=hd; omega
theorem DM (h:1<=n/\n<=9) (hi:i<=1) (hd:¬DK n i>0):i=1:=by
 match i,hi,hd with
 |0,_,hd=>have hd:¬n>0:=hd; omega
 |1,_,_=>rfl
theorem CD (h:1<=n/\n<=9):K1 Tryz.prog 85 (pI n) (pT (zJ n 1)):=by
 intro M w0 v0 hM hv0
 refine ie (N:=31) Tryz.func85 rfl rfl rfl hM hv0 λa hI=>?_
 refine aq hI 1 [Uc 0 2 _] (.k .z) ⟨mv,trivial⟩ (.kk .z) λa w hI=>?_
 refine aq hI 2 [Uc 0 6 _,Uc 1 3 _] (.kk .z) ⟨mv,mv,trivial⟩ (.zI .z) λa w hI=>?_
 refine ai ?_
 refine aq hI 2 [Uc 0 7 _,Uc 1 8 _] (.kk .z) ⟨mv,bn,trivial⟩ (.bM .z) λa w hI=>?_
 refine jF hI (λt1=>?_) (λt1=>?_)
 ·exfalso; omega
 refine av ?_
 refine af ?_
 refine aq hI 4 [Uc 0 9 _,Uc 1 10 _,Uc 2 4 _,Uc 3 5 _] (.aR .z) ⟨mv,DJ,mv,mv,trivial⟩ (.cj (.tC .z)) λa w hI=>?_
 refine ai ?_
 refine aq hI 2 [Uc 0 11 _,Uc 1 12 _] (.ae .z) ⟨mv,bn,trivial⟩ (.ae (.dk .z)) λa w hI=>?_
 refine jF hI (λt2=>?_) (λt2=>?_)
 ·exfalso; omega
 refine av ?_
 refine af ?_
 refine ai ?_
 refine aN ?_
 refine tA [] [Uz 2 _,Uz 3 _] (λ(i:Nat)=>[]) (λ(i:Nat)=>[Uz 5 (dP (DK n (i))),Uz 4 (pT (zJ n (i)))]) (λ(i:Nat)=>i<=1) (λ(i:Nat)=>1-i) (0) (Nat.zero_le _) hI trivial ⟨gi,gi,gc,gc,trivial⟩ ?_
 intro i a w hp hI
 refine ai ?_
 refine aq hI 2 [Uc 0 15 _,Uc 1 16 _] (.ae .z) ⟨mv,bn,trivial⟩ (.ae (.dk .z)) λa w hI=>?_
 refine jF hI (λt3=>?_) (λt3=>?_)
 ·
  refine av ?_
  refine af ?_
  refine ai ?_
  refine aN ?_
  obtain rfl:=DL h hp (by assumption)
  refine kZ hI 8 [Uc 0 19 _,Uc 1 20 _,Uc 2 21 _,Uc 3 22 _,Uc 4 23 _,Uc 5 24 _,Uc 6 25 _,Uc 7 4 _] (.aR (.t 7 (.k .z))) ⟨mv,GC (m:=n),Fq (n:=n%10),dU (v:=.int .u64 (48+n%10)) hs (A6 (by omega)) (pt rfl),dU (v:=.int .i32 (48+n%10)) hs (A7 (by omega)) (pt rfl),mv,C7 (hz:=by show 1+0<=9223372036854775807; omega),mv,trivial⟩ (.bC (.d8 (.k .z))) λa w hI=>?_
  refine bG ?_
  refine af ?_
  refine kZ hI 3 [Uc 0 17 _,Uc 1 18 _,Uc 2 5 _] (.kk (.t 2 (.k .z))) ⟨mv,GB (m:=n),mv,trivial⟩ (.bM (.fJ .z)) λa w hI=>?_
  refine af ?_
  exact ry (0+1) (by omega) hI trivial ⟨gc,gc,gc,gc,trivial⟩ (by omega)
 ·
  refine cV ?_
  refine aM ?_
  refine aM ?_
  refine bF ?_
  refine af ?_
  refine ai ?_
  obtain rfl:=DM h hp (by assumption)
  refine aq hI 2 [Uc 0 26 _,Uc 1 27 _] (.ae (.k .z)) ⟨mv,bn,trivial⟩ (.jK (.fJ .z)) λa w hI=>?_
  refine jF hI (λt4=>?_) (λt4=>?_)
  ·exfalso; omega
  refine av ?_
  refine af ?_
  refine aq hI 2 [Uc 0 30 _,Uc 1 2 _] (.t 1 (.kk .z)) ⟨mv,mv,trivial⟩ (.bR (.k .z)) λa w hI=>?_
  refine ay ?_
  exact cn hI rfl cU
def mq (s:ByteArray) (e:Int):ByteArray:=if e≠0 then⟨#[101,114,114,111,114,32]⟩++zJ e 1 else s
theorem Az {e:Int} (h:0<=e/\e<=9):K2 Tryz.prog 56 (pT s) (pI e) (pT (mq s e)):=by
 intro M w0 v0 v1 hM hv0 dH
 refine iY (N:=11) Tryz.func56 rfl rfl rfl hM hv0 dH λa hI=>?_
 refine aq hI 1 [Uc 0 4 _] (.kk .z) ⟨mv,trivial⟩ (.aR .z) λa w hI=>?_
 refine ai ?_
 refine aq hI 2 [Uc 0 5 _,Uc 1 6 _] (.aR .z) ⟨mv,bn,trivial⟩ (.bC (.k .z)) λa w hI=>?_
 refine jF hI (λt1=>?_) (λt1=>?_)
 ·
  refine aq hI 4 [Uc 0 7 _,Uc 1 8 _,Uc 2 9 _,Uc 3 4 _] (.kk (.t 3 (.k .z))) ⟨mv,tB CD (hφ:=⟨by omega,h.2⟩),C7 (hz:=by show 6+(1+0)<=9223372036854775807; omega),mv,trivial⟩ (.fg (.cx .z)) λa w hI=>?_
  refine ay ?_
  refine aB ?_
  exact cn hI rfl (cU (hq:=vz (by unfold mq; rw[if_pos t1])))
 ·
  refine av ?_
  refine af ?_
  refine aq hI 2 [Uc 0 10 _,Uc 1 4 _] (.kk (.t 1 (.k .z))) ⟨mv,mv,trivial⟩ (.bR (.dk .z)) λa w hI=>?_
  refine ay ?_
  exact cn hI rfl (cU (hq:=vz (by unfold mq; rw[if_neg t1])))
end Wx

namespace Wx
open Go Go.RowKit Go.Proofs
set_option linter.unusedVariables false
theorem iU (h x:Int):iT h x=(31*(h+x)+7)%4294967296:=by
 unfold iT
 have e:∀n,nE n=n%4294967296:=λ_=>rfl
 simp only[e]
 omega
theorem rP (h x:Int):0<=iT h x/\iT h x<4294967296:=by
 rw[iU]; omega
def gG (s:ByteArray) (i:Nat) (y:Int):ByteArray:=(s.extract 0 i++⟨#[byteOf y]⟩)++s.extract (i+1) s.size
variable {s:ByteArray} {i:Nat} {y:Int}
theorem js (hi:i<s.size):(gG s i y).size=s.size:=by
 unfold gG
 rw[ByteArray.size_append,ByteArray.size_append,ByteArray.size_extract,ByteArray.size_extract]
 show min i s.size-0+1+(min s.size s.size-(i+1))=s.size
 omega
theorem qN (b:UInt8):bO ⟨#[b]⟩ 0=(b.toNat:Int):=rfl
theorem rR {k:Nat} (hy:0<=y/\y<=255) (hi:i<s.size) (hk:k<s.size):bO (gG s i y) k=if k=i then y else bO s k:=by
 have h0:(s.extract 0 i).size=i:=by rw[ByteArray.size_extract]; omega
 have h1:(s.extract 0 i++(⟨#[byteOf y]⟩:ByteArray)).size=i+1:=by rw[ByteArray.size_append,h0]; rfl
 unfold gG
 rw[dn,h1,dn,h0]
 by_cases h:k<i
 ·rw[if_pos (by omega),if_pos h,if_neg (by omega),cD (by omega) (by omega),Nat.zero_add]
 ·by_cases e:k=i
  ·rw[if_pos (by omega),if_neg h,if_pos e,e,Nat.sub_self,qN,cW,nF]
   omega
  ·rw[if_neg (by omega),if_neg e,cD (by omega) (Nat.le_refl _)]
   congr 1
   omega
theorem my {h:Int} {s t:ByteArray}:∀k,(∀j,j<k->bO s j=bO t j)->gS h s k=gS h t k
 |0,_=>rfl
 |k+1,hk=>by
  show iT _ _=iT _ _
  rw[my k λj hj=>hk j (by omega),hk k (by omega)]
theorem rQ {h:Int} {s t:ByteArray} {i:Nat} (hd:bO s i≠bO t i):∀k,(∀j,j<i+1+k->j≠i->bO s j=bO t j)->gS h s (i+1+k)≠gS h t (i+1+k)
 |0,hk=>by
  have e:=my (h:=h) i λj hj=>hk j (by omega) (by omega)
  show iT _ _≠iT _ _
  rw[e,iU,iU]
  have:=jc s i
  have:=jc t i
  omega
 |k+1,hk=>by
  have ih:=rQ (h:=h) hd k λj hj=>hk j (by omega)
  have a1:0<=gS h s (i+1+k)/\gS h s (i+1+k)<4294967296:=by
   rw[show i+1+k=(i+k)+1 by omega]; exact rP _ _
  have a2:0<=gS h t (i+1+k)/\gS h t (i+1+k)<4294967296:=by
   rw[show i+1+k=(i+k)+1 by omega]; exact rP _ _
  show iT (gS h s (i+1+k)) (bO s (i+1+k))≠iT (gS h t (i+1+k)) (bO t (i+1+k))
  rw[hk (i+1+k) (by omega) (by omega),iU,iU]
  omega
variable {h:Int}
theorem vN (hy:0<=y/\y<=255) (hi:i<s.size):(lK h s=lK h (gG s i y))↔s=gG s i y:=by
 constructor
 ·intro e
  by_cases hd:bO s i=bO (gG s i y) i
  ·refine jM (js hi).symm λk hk=>?_
   by_cases ow:k=i
   ·rw[ow]; exact hd
   ·rw[rR hy hi hk,if_neg ow]
  ·exfalso
   have:=rQ (h:=h) hd (s.size-(i+1)) λj hj Ch=>by rw[rR hy hi (by omega),if_neg Ch]
   rw[show i+1+(s.size-(i+1))=s.size by omega]at this
   unfold lK at e
   rw[js hi]at e
   exact this e
 ·intro e
  rw[<-e]
theorem tu (hy:0<=y/\y<=255) (hi:i<s.size):(decide (lK h s=lK h (gG s i y)) != decide (s=gG s i y))=false:=by
 have k:=vN (h:=h) hy hi
 by_cases e:s=gG s i y
 ·rw[decide_eq_true e,decide_eq_true (k.2 e)]; rfl
 ·rw[decide_eq_false e,decide_eq_false λh=>e (k.1 h)]; rfl
def bS (f:Nat->ByteArray):Nat->ByteArray
 |0=>⟨#[]⟩
 |q+1=>bS f q++fV (f q)
def bf (f:Nat->ByteArray) (q:Nat):Nat:=(bS f q).size
theorem bY (f:Nat->ByteArray) (q:Nat):bf f (q+1)=bf f q+(fV (f q)).size:=ByteArray.size_append ..
theorem cI (h:dr s=0):(fV s).size=6+s.size:=by rw[iF h,oo]
theorem gL (h:dr s=0):s.size<=200/\0<s.size:=by
 unfold dr at h
 split at h
 ·cases h
 ·split at h
  ·rename_i h1 h2; exact⟨by omega,oJ h2⟩
  ·cases h
theorem wI (s:ByteArray):dr s=0\/dr s=2\/dr s=4:=by
 unfold dr
 split
 ·exact .inr (.inr rfl)
 ·split
  ·exact .inl rfl
  ·exact .inr (.inl rfl)
theorem qU {f:Nat->ByteArray} {q:Nat} (h:∀j,j<q->dr (f j)=0):bf f q<=206*q:=by
 induction q with
 |zero=>exact Nat.le_refl _
 |succ q ih=>
  have h1:=ih λj hj=>h j (by omega)
  have hE:=h q (by omega)
  have h2:=gL hE
  rw[bY,cI hE]
  omega
theorem lS (f:Nat->ByteArray) {p q:Nat} (h:p<=q):bf f p<=bf f q:=by
 induction q with
 |zero=>rw[show p=0 by omega]; exact Nat.le_refl _
 |succ q ih=>
  by_cases e:p=q+1
  ·rw[e]; exact Nat.le_refl _
  ·exact Nat.le_trans (ih (by omega)) (by rw[bY]; omega)
theorem wL (f:Nat->ByteArray) {p q k:Nat} (h:p<=q) (hk:k<bf f p):bO (bS f q) k=bO (bS f p) k:=by
 induction q with
 |zero=>rw[show p=0 by omega]
 |succ q ih=>
  by_cases e:p=q+1
  ·rw[e]
  ·have h1:=lS f (show p<=q by omega)
   show bO (bS f q++fV (f q)) k=_
   rw[dn,if_pos (show k<(bS f q).size from Nat.lt_of_lt_of_le hk h1),ih (by omega)]
theorem mW (f:Nat->ByteArray) {p q k:Nat} (h:p<q) (hk:k<(fV (f p)).size):bO (bS f q) (bf f p+k)=bO (fV (f p)) k:=by
 rw[wL f (show p+1<=q from h) (by rw[bY]; omega)]
 show bO (bS f p++fV (f p)) _=_
 rw[dn,if_neg (by unfold bf; omega),show bf f p+k-(bS f p).size=k by unfold bf; omega]
section
variable {f:Nat->ByteArray} {n k:Nat}
theorem iw (hk:k<=bf f n):((bS f n).extract 0 k).size=k:=by
 rw[ByteArray.size_extract]
 unfold bf at hk
 omega
theorem qa {j:Nat} (hk:k<=bf f n) (hj:j<k):bO ((bS f n).extract 0 k) j=bO (bS f n) j:=by
 rw[cD (by omega) (by unfold bf at hk; omega),Nat.zero_add]
variable (he:∀j,j<n->dr (f j)=0)
include he
variable {j:Nat}
theorem ke (hk:k<=bf f n) (hj:j<n) (h2:bf f j+2<=k):bO ((bS f n).extract 0 k) (bf f j)=165/\eP ((bS f n).extract 0 k) (bf f j)=6+(f j).size:=by
 have hE:=he j hj
 have hs:=gL hE
 have e1:∀x,x<2->bO ((bS f n).extract 0 k) (bf f j+x)=[165,we (f j).size].getD x 0:=λx hx=>by
  rw[qa hk (by omega),mW f hj (by rw[cI hE]; omega),iF hE,uk (m:=2) rfl hx]
 refine⟨e1 0 (by omega),?_⟩
 unfold eP
 rw[e1 1 (by omega)]
 show 6+(we (f j).size).toNat=_
 rw[nF]
 omega
theorem qR (hk:k<=bf f n) (hj:j<n) (h2:bf f (j+1)<=k):ek ((bS f n).extract 0 k) (bf f j)=true/\er ((bS f n).extract 0 k) (bf f j)=f j:=by
 have hE:=he j hj
 have hs:=gL hE
 have hz:=cI hE
 rw[bY,hz]at h2
 obtain⟨a1,a2⟩:=ke he hk hj (by omega)
 have hb:=iw (f:=f) hk
 have eF:((bS f n).extract 0 k).extract (bf f j) (bf f j+(6+(f j).size))=fV (f j):=by
  have hsz:(((bS f n).extract 0 k).extract (bf f j) (bf f j+(6+(f j).size))).size=6+(f j).size:=by rw[ByteArray.size_extract,hb]; omega
  refine jM (by rw[hsz,hz]) λx hx=>?_
  rw[iu hx,qa hk (by omega),mW f hj (by omega)]
 have eL:er ((bS f n).extract 0 k) (bf f j)=f j:=by
  have e6:bf f j+2+(bO ((bS f n).extract 0 k) (bf f j+1)).toNat=bf f j+2+(f j).size:=by
   have:eP ((bS f n).extract 0 k) (bf f j)=6+(f j).size:=a2
   unfold eP at this
   omega
  unfold er
  rw[e6]
  have hsz:(((bS f n).extract 0 k).extract (bf f j+2) (bf f j+2+(f j).size)).size=(f j).size:=by rw[ByteArray.size_extract,hb]; omega
  refine jM hsz λx hx=>?_
  rw[iu hx,qa hk (by omega),show bf f j+2+x=bf f j+(2+x) by omega,mW f hj (by omega),iF hE,wJ (by omega)]
 refine⟨decide_eq_true ⟨by omega,a1,by omega,by rw[eL]; exact hE,?_⟩,eL⟩
 rw[eL,a2,eF]
theorem zH (hk:k<=bf f n) (hj:j<=n) (h2:j<n->k<bf f (j+1)):ek ((bS f n).extract 0 k) (bf f j)=false:=by
 cases h:ek ((bS f n).extract 0 k) (bf f j)with
 |false=>rfl
 |true=>
  exfalso
  have hw:=of_decide_eq_true h
  have hb:=iw (f:=f) hk
  rw[hb]at hw
  by_cases e:j=n
  ·rw[e]at hw; omega
  ·have hE:=he j (by omega)
   have:=(ke he hk (show j<n by omega) hw.1).2
   have h3:=h2 (by omega)
   rw[bY,cI hE]at h3
   omega
theorem mO {W:Nat} (hk:k<=bf f n) (hW:W<=n) (h1:∀j,j<W->bf f (j+1)<=k):∀j,j<=W->cK ((bS f n).extract 0 k) j=bf f j
 |0,_=>rfl
 |j+1,hj=>by
  have ih:=mO hk hW h1 j (by omega)
  have hE:=he j (by omega)
  have:=h1 j (by omega)
  rw[bY,cI hE]at this
  show cK ((bS f n).extract 0 k) j+eP ((bS f n).extract 0 k) (cK ((bS f n).extract 0 k) j)=_
  have hs:=gL hE
  rw[ih,(ke he hk (show j<n by omega) (by omega)).2,bY,cI hE]
theorem wB {W:Nat} (hk:k<=bf f n) (hW:W<=n) (h1:∀j,j<W->bf f (j+1)<=k) (h2:W<n->k<bf f (W+1)):pY ((bS f n).extract 0 k)=W:=by
 have ho:=mO he hk hW h1
 refine qP (λj hj=>?_) ?_ ?_
 ·rw[ho j (by omega)]; exact(qR he hk (by omega) (h1 j hj)).1
 ·rw[ho W (Nat.le_refl _)]; exact zH he hk hW h2
 ·rw[iw hk]
  clear h2
  induction W with
  |zero=>exact Nat.zero_le _
  |succ W ih=>
   have g1:=h1 W (by omega)
   have hE:=he W (by omega)
   rw[bY,cI hE]at g1
   have g2:W<=bf f W:=by
    clear ih g1 hE h1 ho
    induction W with
    |zero=>exact Nat.zero_le _
    |succ W ih=>
     have hE:=he W (by omega)
     have:=ih (by omega)
     rw[bY,cI hE]
     omega
   omega
omit he
def lj (f:Nat->ByteArray) (k:Nat):Nat->Nat
 |0=>0
 |q+1=>if bf f (q+1)<=k then q+1 else lj f k q
theorem jt (f:Nat->ByteArray) (k:Nat):∀q,lj f k q<=q
 |0=>Nat.le_refl _
 |q+1=>by
  unfold lj
  split
  ·exact Nat.le_refl _
  ·exact Nat.le_succ_of_le (jt f k q)
theorem rS (f:Nat->ByteArray) (k:Nat):∀q j,j<lj f k q->bf f (j+1)<=k
 |0,j,h=>absurd h (Nat.not_lt_zero _)
 |q+1,j,h=>by
  unfold lj at h
  split at h
  ·rename_i e; exact Nat.le_trans (lS f (show j+1<=q+1 from h)) e
  ·exact rS f k q j h
theorem zi (f:Nat->ByteArray) (k:Nat):∀q,lj f k q<q->k<bf f (lj f k q+1)
 |0,h=>absurd h (Nat.not_lt_zero _)
 |q+1,h=>by
  unfold lj at h ⊢
  split
  ·rename_i e; rw[if_pos e]at h; omega
  ·rename_i e
   rw[if_neg e]at h
   by_cases g:lj f k q=q
   ·rw[g]; omega
   ·exact zi f k q (by have:=jt f k q; omega)
theorem Bi (he:∀j,j<n->dr (f j)=0) (hk:k<=bf f n):pY ((bS f n).extract 0 k)=lj f k n:=wB he hk (jt f k n) (rS f k n) (zi f k n)
theorem vT (he:∀j,j<n->dr (f j)=0) (hk:k<=bf f n) {j:Nat} (hj:j<=lj f k n):cK ((bS f n).extract 0 k) j=bf f j:=mO he hk (jt f k n) (rS f k n) j hj
theorem ya (he:∀j,j<n->dr (f j)=0) (hk:k<=bf f n) {j:Nat} (hj:j<lj f k n):er ((bS f n).extract 0 k) (cK ((bS f n).extract 0 k) j)=f j:=by
 rw[vT he hk (by omega)]
 exact(qR he hk (by have:=jt f k n; omega) (rS f k n j hj)).2
end
end Wx
