import Derived.Test.YtfnmkhlleanppaaGreatDoorCWCWk6
import Derived.Test.YtfnmkhlleanppaaGreatDoorJWC25
import Derived.Laws.Concat
namespace Wx
set_option maxRecDepth 100000
set_option maxHeartbeats 1000000
open Go Go.RowKit Go.Proofs
set_option linter.unusedVariables false
attribute [local irreducible] OpOk
def fW (n m:Nat) (g:Nat->ByteArray) (φ:Nat->ByteArray->Bool):Bool:=decide (n=m)&&decide (∀k,k<m->φ k (g k)=true)
variable {n m:Nat} {g:Nat->ByteArray} {φ:Nat->ByteArray->Bool}
theorem xJ (h:(n:Int)≠m):false=fW n m g φ:=by unfold fW; rw[decide_eq_false (by omega)]; rfl
theorem AQ {i:Nat} (hi:i<m) (h:φ i (g i)=false):false=fW n m g φ:=by
 unfold fW
 rw[decide_eq_false (p:=∀k,k<m->φ k (g k)=true) (λk=>by rw[k i hi]at h; cases h),Bool.and_false]
theorem xM (hn:¬(n:Int)≠m) (h:∀k,k<m->φ k (g k)=true):true=fW n m g φ:=by
 unfold fW
 rw[decide_eq_true (show n=m by omega),decide_eq_true h]; rfl
theorem pW (h:n<=1000000/\m<=1000000/\∀k,k<n->(g k).size<=1000000):K2 Tryz.prog 58 (aI 1 false n λk=>pT (g k)) (aI 1 false m λk=>wA Tryz.prog (qE Tryz.prog (φ k))) (pB (fW n m g φ)):=by
 intro M w0 v0 v1 hM hv0 da
 have hz:=h.1
 have hz2:=h.2.1
 refine fT (N:=27) Tryz.func58 rfl rfl rfl hM hv0 da λa hI=>?_
 refine au hI 1 [Uc 0 4 _] (.kk .z) ⟨mv,trivial⟩ (.aU .z) λa w hI=>?_
 refine ah ?_
 refine au hI 5 [Uc 0 7 _,Uc 1 8 _,Uc 2 9 _,Uc 3 10 _,Uc 4 11 _] (.aU .z) ⟨mv,ln,mv,ln,bn,trivial⟩ (.bj (.cf .z)) λa w hI=>?_
 refine jv hI (λt1=>?_) (λt1=>?_)
 ·
  refine au hI 1 [Uc 0 4 _] (.kk (.t 0 (.k .z))) ⟨mv,trivial⟩ (.bK (.k .z)) λa w hI=>?_
  refine av ?_
  refine aj ?_
  exact bW hI rfl (cm (hq:=cQ (xJ t1)))
 ·
  refine ak ?_
  refine ae ?_
  refine ah ?_
  refine au hI 3 [Uc 0 12 _,Uc 1 13 _,Uc 2 14 _] (.af .z) ⟨mv,ln,mv,trivial⟩ (.pP (.aU .z)) λa w hI=>?_
  refine aD ?_
  refine qz [] [Uz 0 _,Uz 12 _,Uz 13 _] (λ(i:Nat)=>[]) (λ(i:Nat)=>[Uz 14 (pI (i:Int))]) (λ(i:Nat)=>i<=m/\∀k,k<i->φ k (g k)=true) (λ(i:Nat)=>m-i) (0) ⟨Nat.zero_le _,λ_ h=>absurd h (Nat.not_lt_zero _)⟩ hI trivial ⟨gi,gi,gi,gc,trivial⟩ ?_
  intro i a w hp hI
  refine au hI 1 [Uc 0 15 _] (.af .z) ⟨bn,trivial⟩ (.af (.k .z)) λa w hI=>?_
  refine ah ?_
  refine jv hI (λt2=>?_) (λt2=>?_)
  ·
   refine ak ?_
   refine ae ?_
   refine ah ?_
   refine aD ?_
   refine au hI 5 [Uc 0 16 _,Uc 1 17 _,Uc 2 18 _,Uc 3 5 _,Uc 4 6 _] (.af (.k .z)) ⟨mv,ix,ax hs (pt rfl) (by kernel_rfl) aX,mv,mv,trivial⟩ (.af (.bp (.kk .z))) λa w hI=>?_
   refine au hI 7 [Uc 0 19 _,Uc 1 20 _,Uc 2 21 _,Uc 3 22 _,Uc 4 23 _,Uc 5 24 _,Uc 6 25 _] (.af (.kk .z)) ⟨mv,mv,mv,ix,ax hs (pt rfl) (by kernel_rfl) (aE _),LS (φ:=φ i) (hm:=h.2.2 i (by omega)),nt,trivial⟩ (.af (.d8 (.k .z))) λa w hI=>?_
   refine nX hI (λt3=>?_) (λt3=>?_)
   ·
    refine au hI 1 [Uc 0 4 _] (.af (.k .z)) ⟨mv,trivial⟩ (.af (.dk .z)) λa w hI=>?_
    refine av ?_
    refine aS ?_
    refine aj ?_
    refine aj ?_
    refine aS ?_
    refine aj ?_
    exact bW hI rfl (cm (hq:=cQ (AQ (i:=i) (by omega) (by simpa using t3))))
   ·
    refine ak ?_
    refine bk ?_
    refine ae ?_
    refine iP hI 2 [Uc 0 26 _,Uc 1 14 _] (.aU (.t 1 (.k .z))) ⟨bn,mv,trivial⟩ (.bj (.eC .z)) λa w hI=>?_
    refine ae ?_
    have hst:φ i (g i)=true:=by simpa using t3
    exact nQ (i+1) ⟨by omega,λk hk=>if e:k=i then by rw[e]; exact hst else hp.2 k (by omega)⟩ hI trivial ⟨gc,gc,gc,gc,trivial⟩ (by omega)
  ·
   refine cj ?_
   refine aC ?_
   refine aC ?_
   refine bf ?_
   refine ae ?_
   refine au hI 1 [Uc 0 4 _] (.af (.k .z)) ⟨mv,trivial⟩ (.bp (.dk .z)) λa w hI=>?_
   refine av ?_
   exact bW hI rfl (cm (hq:=cQ (xM t1 λk hk=>hp.2 k (by omega))))
def dW (s:ByteArray):Int:=(Lib.atoi s.data.toList).getD 0
theorem qU:∀{l:List UInt8} {acc:Nat},(∀b,b∈l->48<=b.toNat/\b.toNat<=57)->∃m,Lib.decFrom acc l=some m
 |[],acc,_=>⟨acc,rfl⟩
 |b::r,acc,h=>by
  unfold Lib.decFrom Lib.digitVal
  rw[if_pos (h b List.mem_cons_self)]
  exact qU λc hc=>h c (List.mem_cons_of_mem _ hc)
variable {s:ByteArray}
theorem ze (h:bJ s=true):s.size<=8/\Lib.atoi s.data.toList=some (dW s):=by
 unfold bJ at h
 simp only[Bool.and_eq_true,decide_eq_true_eq]at h
 obtain⟨⟨h1,h2⟩,_⟩:=h
 have hpos:=gv h2
 have hd:∀b,b∈s.data.toList->48<=b.toNat/\b.toNat<=57:=λb hb=>by
  obtain⟨k,hk,rfl⟩:=List.mem_iff_getElem.1 hb
  have hk':k<s.size:=by rw[Array.length_toList]at hk; exact hk
  have:=mq h2 hk'
  unfold gA at this
  simp only[Bool.and_eq_true,decide_eq_true_eq]at this
  have e:bz s k=((s.data.toList[k]).toNat:Int):=by rw[cG hk',Array.getElem_toList]; rfl
  rw[e]at this
  omega
 refine⟨by omega,?_⟩
 have key:∃n,Lib.atoi s.data.toList=some n:=by
  cases hl:s.data.toList with
  |nil=>
   have:s.data.toList.length=0:=by rw[hl]; rfl
   rw[Array.length_toList]at this
   have:s.size=0:=this
   omega
  |cons b r=>
   rw[hl]at hd
   have hb:=hd b List.mem_cons_self
   simp only[Lib.atoi]
   rw[if_neg (λe=>by have e:=eq_of_beq e; rw[e]at hb; revert hb; decide),if_neg (λe=>by have e:=eq_of_beq e; rw[e]at hb; revert hb; decide)]
   obtain⟨m,hm⟩:=qU (acc:=0) hd
   exact⟨m,by unfold Lib.decNat; rw[if_neg (by simp),hm]; rfl⟩
 obtain⟨n,hn⟩:=key
 unfold dW
 rw[hn]
 rfl
theorem EB (h:bJ s=true):K1 Tryz.prog 109 (pT s) (dF (pI (dW s)) (aG .nilIface)):=λM w v0 hM h0=>by
 obtain rfl:v0=.string s:=h0.out
 obtain⟨h1,h2⟩:=ze h
 refine(Tryz.strconv_Atoi s (dW s) (by omega) h2 w).mono ?_
 rintro e w' ⟨rfl,t,rfl⟩
 exact⟨_,rfl,λ_ _=>⟨_,_,rfl,rfl,rfl⟩,⟨rfl,rfl,rfl,by rw[Lib.bytesWorld_size]; omega,λk hk=>Lib.bytesWorld_at_old w _ t k hk⟩⟩
theorem jX (h:bJ s=true):K1 Tryz.prog 72 (pT s) (pI (dW s)):=by
 intro M w0 v0 hM hv0
 refine fR (N:=11) Tryz.func72 rfl rfl rfl hM hv0 λa hI=>?_
 refine au hI 1 [Uc 0 2 _] (.k .z) ⟨mv,trivial⟩ (.kk .z) λa w hI=>?_
 refine au hI 7 [Uc 0 6 _,Uc 1 7 _,Uc 2 5 _,Uc 3 8 _,Uc 4 9 _,Uc 5 3 _,Uc 6 4 _] (.kk .z) ⟨mv,nH (λh=>EB h) (hφ:=h),mv,ext,ext,mv,mv,trivial⟩ (.lG (.cf (.d .z))) λa w hI=>?_
 refine au hI 2 [Uc 0 10 _,Uc 1 2 _] (.t 1 (.k .z)) ⟨mv,mv,trivial⟩ (.cf .z) λa w hI=>?_
 refine av ?_
 exact bW hI rfl cm
end Wx

namespace Wx
set_option maxRecDepth 100000
set_option maxHeartbeats 1000000
open Go Go.RowKit Go.Proofs
set_option linter.unusedVariables false
attribute [local irreducible] OpOk
def kq (n m:Nat) (f g:Nat->ByteArray):Bool:=decide (n=m)&&decide (∀k,k<n->f k=g k)
theorem wJ (n:Nat) (f:Nat->ByteArray):kq n n f f=true:=by
 unfold kq
 rw[decide_eq_true rfl,decide_eq_true λ_ _=>rfl]; rfl
variable {n m:Nat} {f g:Nat->ByteArray}
theorem zM (h:(n:Int)≠m):false=kq n m f g:=by unfold kq; rw[decide_eq_false (by omega)]; rfl
theorem Ce {i:Nat} (hi:i<n) (h:f i≠g i):false=kq n m f g:=by
 unfold kq
 rw[decide_eq_false (p:=∀k,k<n->f k=g k) (λk=>h (k i hi)),Bool.and_false]
theorem zO (hn:¬(n:Int)≠m) (h:∀k,k<n->f k=g k):true=kq n m f g:=by
 unfold kq
 rw[decide_eq_true (show n=m by omega),decide_eq_true h]; rfl
theorem EO (h:n<=1000000000):K2 Tryz.prog 14 (aI 1 false n λk=>pT (f k)) (aI 1 false m λk=>pT (g k)) (pB (kq n m f g)):=by
 intro M w0 v0 v1 hM hv0 da
 refine fT (N:=26) Tryz.func14 rfl rfl rfl hM hv0 da λa hI=>?_
 refine au hI 1 [Uc 0 4 _] (.kk .z) ⟨mv,trivial⟩ (.aU .z) λa w hI=>?_
 refine ah ?_
 refine au hI 5 [Uc 0 6 _,Uc 1 7 _,Uc 2 8 _,Uc 3 9 _,Uc 4 10 _] (.aU .z) ⟨mv,ln,mv,ln,bn,trivial⟩ (.bj (.cf .z)) λa w hI=>?_
 refine jv hI (λt1=>?_) (λt1=>?_)
 ·
  refine au hI 1 [Uc 0 4 _] (.kk (.t 0 (.k .z))) ⟨mv,trivial⟩ (.bK (.k .z)) λa w hI=>?_
  refine av ?_
  refine aj ?_
  exact bW hI rfl (cm (hq:=cQ (zM t1)))
 ·
  refine ak ?_
  refine ae ?_
  refine ah ?_
  refine au hI 3 [Uc 0 11 _,Uc 1 12 _,Uc 2 13 _] (.af .z) ⟨mv,ln,mv,trivial⟩ (.bj (.xA .z)) λa w hI=>?_
  refine aD ?_
  refine qz [] [Uz 0 _,Uz 1 _,Uz 12 _] (λ(i:Nat)=>[]) (λ(i:Nat)=>[Uz 13 (pI (i:Int))]) (λ(i:Nat)=>i<=n/\∀k,k<i->f k=g k) (λ(i:Nat)=>n-i) (0) ⟨Nat.zero_le _,λ_ h=>absurd h (Nat.not_lt_zero _)⟩ hI trivial ⟨gi,gi,gi,gc,trivial⟩ ?_
  intro i a w hp hI
  refine au hI 1 [Uc 0 14 _] (.af .z) ⟨bn,trivial⟩ (.af (.k .z)) λa w hI=>?_
  refine ah ?_
  refine jv hI (λt2=>?_) (λt2=>?_)
  ·
   refine ak ?_
   refine ae ?_
   refine ah ?_
   refine aD ?_
   refine au hI 2 [Uc 0 15 _,Uc 1 5 _] (.af (.k .z)) ⟨mv,mv,trivial⟩ (.af (.eC .z)) λa w hI=>?_
   refine Iu hI [0,0,3,7,0,0,48,112,255] [Uc 0 16 _,Uc 1 17 _,Uc 2 18 _,Uc 3 19 _,Uc 4 20 _,Uc 5 21 _,Uc 6 22 _,Uc 7 23 _,Uc 8 24 _] (.af (.k .z)) ⟨mv,mv,ix,ax hs (pt rfl) (by kernel_rfl) (aE _),mv,mv,ix,ax hs (pt rfl) (by kernel_rfl) (aE _),bU,trivial⟩ (.af (.d8 (.dk .z))) λa w hI=>?_
   refine jv hI (λt3=>?_) (λt3=>?_)
   ·
    refine au hI 1 [Uc 0 4 _] (.af (.k .z)) ⟨mv,trivial⟩ (.af (.dk .z)) λa w hI=>?_
    refine av ?_
    refine aS ?_
    refine aj ?_
    refine aj ?_
    refine aS ?_
    refine aj ?_
    exact bW hI rfl (cm (hq:=cQ (Ce (i:=i) (by omega) t3)))
   ·
    refine ak ?_
    refine bk ?_
    refine ae ?_
    refine iP hI 2 [Uc 0 25 _,Uc 1 13 _] (.aU (.t 1 (.k .z))) ⟨bn,mv,trivial⟩ (.bj (.eC .z)) λa w hI=>?_
    refine ae ?_
    have hst:f i=g i:=Decidable.not_not.1 t3
    exact nQ (i+1) ⟨by omega,λk hk=>if e:k=i then by rw[e]; exact hst else hp.2 k (by omega)⟩ hI trivial ⟨gc,gc,gc,gc,trivial⟩ (by omega)
  ·
   refine cj ?_
   refine aC ?_
   refine aC ?_
   refine bf ?_
   refine ae ?_
   refine au hI 1 [Uc 0 4 _] (.af (.k .z)) ⟨mv,trivial⟩ (.bp (.dk .z)) λa w hI=>?_
   refine av ?_
   exact bW hI rfl (cm (hq:=cQ (zO t1 λk hk=>hp.2 k (by omega))))
end Wx

namespace Wx
set_option maxRecDepth 100000
set_option maxHeartbeats 1000000
open Go Go.RowKit Go.Proofs
set_option linter.unusedVariables false
attribute [local irreducible] OpOk
section
variable {P:Program} {ops:Array Oper} {ms:List Nat} {c:bQ} {V:List Vr} {A:List Al} {G:List aN} {i d:Nat} {x y:Operand} {ty t u:TypeId} {pos:String} {aft:Array Edge} {s r:ByteArray} {m n:Int}
theorem Iz (h1:Has ms G i x (pT s):=by exact hs) (h2:Has ms G i y (pT r):=by exact hs) (hz:s.size+r.size<=9223372036854775807:=by omega) (hp:Post G i (pT (s++r)):=by exact pt rfl):OpOk P ops ms c V A G i ⟨some d,.binOp .add t x y u,ty,pos,aft,none⟩:=
 eM rfl rfl rfl rfl h1 h2 hp λρ w h1 h2=>⟨.string (s++r),by
  have h1:ρ x=.string s:=h1
  have h2:ρ y=.string r:=h2
  show(do pure (Next.value (<-(do eqGuard .add t x y (ρ x) (ρ y); Go.binOp .add t (ρ x) (ρ y))))).run P w=_
  rw[h1,h2]
  have hgd:eqGuard .add t x y (.string s) (.string r)=pure ():=by unfold eqGuard; rfl
  have hb:Go.binOp .add t (.string s) (.string r)=Op.stringOp .add s r:=rfl
  rw[hgd,hb,pure_bind,Sem.run_bind,run_string_add_sum w s r hz]
  rfl,λ_ _ _=>rfl⟩
abbrev dn (n:Int):Pred:=aG (.int .u64 n)
theorem M7 (h1:Has ms G i x (dn m):=by exact hs) (h2:Has ms G i y (dn 10):=by exact hs) (hm:0<=m:=by omega) (hp:Post G i (dn (m%10)):=by exact pt rfl):OpOk P ops ms c V A G i ⟨some d,.binOp .rem t x y u,ty,pos,aft,none⟩:=
 cD h1 h2 (λw=>by
  show Result.ok (Value.int .u64 (m.tmod 10)) w=_
  rw[Int.tmod_eq_emod_of_nonneg hm]) hp
theorem M6 (h1:Has ms G i x (dn m):=by exact hs) (h2:Has ms G i y (dn 10):=by exact hs) (hm:0<=m/\m<=9223372036854775807:=by omega) (hp:Post G i (dn (m/10)):=by exact pt rfl):OpOk P ops ms c V A G i ⟨some d,.binOp .quo t x y u,ty,pos,aft,none⟩:=
 cD h1 h2 (λw=>by
  show Result.ok (Value.int .u64 (IntKind.u64.wrap (m.tdiv 10))) w=_
  rw[Int.tdiv_eq_ediv_of_nonneg hm.1,show IntKind.u64.wrap (m/10)=(m/10)%18446744073709551616 from rfl,Int.emod_eq_of_lt (by omega) (by omega)]) hp
theorem LH (h1:Has ms G i x (dn m):=by exact hs) (h2:Has ms G i y (dn n):=by exact hs) (hm:0<=m+n/\m+n<=9223372036854775807:=by omega) (hp:Post G i (dn (m+n)):=by exact pt rfl):OpOk P ops ms c V A G i ⟨some d,.binOp .add t x y u,ty,pos,aft,none⟩:=
 cD h1 h2 (λw=>by
  show Result.ok (Value.int .u64 (IntKind.u64.wrap (m+n))) w=_
  rw[show IntKind.u64.wrap (m+n)=(m+n)%18446744073709551616 from rfl,Int.emod_eq_of_lt (by omega) (by omega)]) hp
theorem Ji {S D:TypeId} (h:Has ms G i x (pI m):=by exact hs) (hm:0<=m/\m<=9223372036854775807:=by omega) (hr:∀w,(Go.convert S D (.int .i64 m)).run P w=.ok (.int .u64 (IntKind.u64.wrap m)) w:=by exactλ_=>by kernel_rfl) (hp:Post G i (dn m):=by exact pt rfl):OpOk P ops ms c V A G i ⟨some d,.convert S D x,ty,pos,aft,none⟩:=
 fY h (λw=>by rw[hr w,show IntKind.u64.wrap m=m%18446744073709551616 from rfl,Int.emod_eq_of_lt (by omega) (by omega)]) hp
end
variable {r:Int}
theorem FC (h:48<=r/\r<=57):∀w,(Go.convert 160 21 (.int .u64 r)).run Tryz.prog w=.ok (.int .i32 r) w:=λw=>by
 have:r=48\/r=49\/r=50\/r=51\/r=52\/r=53\/r=54\/r=55\/r=56\/r=57:=by omega
 rcases this with rfl|rfl|rfl|rfl|rfl|rfl|rfl|rfl|rfl|rfl<;>(refine Eq.trans (b:=_) ?_ rfl; kernel_rfl)
theorem FD (h:48<=r/\r<=57):∀w,(Go.convert 21 9 (.int .i32 r)).run Tryz.prog w=.ok (.string ⟨#[byteOf r]⟩) w:=λw=>by
 have:r=48\/r=49\/r=50\/r=51\/r=52\/r=53\/r=54\/r=55\/r=56\/r=57:=by omega
 rcases this with rfl|rfl|rfl|rfl|rfl|rfl|rfl|rfl|rfl|rfl<;>(refine Eq.trans (b:=_) ?_ rfl; kernel_rfl)
variable {s:ByteArray}
theorem zB {r:ByteArray} (h:s=r):∀w v,pT s w v->pT r w v:=by subst h; exactλ_ _ h=>h
def Jk (n:Int):Nat->Int
 |0=>n
 |_+1=>n/10
def DW (n:Int):Nat->ByteArray
 |0=>⟨#[]⟩
 |_+1=>⟨#[byteOf (48+n%10)]⟩++⟨#[]⟩
variable {n:Int} {i:Nat}
theorem Jl (h:1<=n/\n<=9) (hi:i<=1) (hd:Jk n i>0):i=0:=by
 match i,hi,hd with
 |0,_,_=>rfl
 |1,_,hd=>have hd:n/10>0:=hd; omega
theorem Jm (h:1<=n/\n<=9) (hi:i<=1) (hd:¬Jk n i>0):i=1:=by
 match i,hi,hd with
 |0,_,hd=>have hd:¬n>0:=hd; omega
 |1,_,_=>rfl
theorem HD (h:1<=n/\n<=9):K1 Tryz.prog 85 (pI n) (pT (DW n 1)):=by
 intro M w0 v0 hM hv0
 refine fR (N:=31) Tryz.func85 rfl rfl rfl hM hv0 λa hI=>?_
 refine au hI 1 [Uc 0 2 _] (.k .z) ⟨mv,trivial⟩ (.kk .z) λa w hI=>?_
 refine au hI 2 [Uc 0 6 _,Uc 1 3 _] (.kk .z) ⟨mv,mv,trivial⟩ (.vD .z) λa w hI=>?_
 refine ah ?_
 refine au hI 2 [Uc 0 7 _,Uc 1 8 _] (.kk .z) ⟨mv,bn,trivial⟩ (.bS .z) λa w hI=>?_
 refine jv hI (λt1=>?_) (λt1=>?_)
 ·exfalso; omega
 refine ak ?_
 refine ae ?_
 refine au hI 4 [Uc 0 9 _,Uc 1 10 _,Uc 2 4 _,Uc 3 5 _] (.aU .z) ⟨mv,Ji,mv,mv,trivial⟩ (.bK (.xA .z)) λa w hI=>?_
 refine ah ?_
 refine au hI 2 [Uc 0 11 _,Uc 1 12 _] (.af .z) ⟨mv,bn,trivial⟩ (.af (.dk .z)) λa w hI=>?_
 refine jv hI (λt2=>?_) (λt2=>?_)
 ·exfalso; omega
 refine ak ?_
 refine ae ?_
 refine ah ?_
 refine aD ?_
 refine qz [] [Uz 2 _,Uz 3 _] (λ(i:Nat)=>[]) (λ(i:Nat)=>[Uz 5 (dn (Jk n (i))),Uz 4 (pT (DW n (i)))]) (λ(i:Nat)=>i<=1) (λ(i:Nat)=>1-i) (0) (Nat.zero_le _) hI trivial ⟨gi,gi,gc,gc,trivial⟩ ?_
 intro i a w hp hI
 refine ah ?_
 refine au hI 2 [Uc 0 15 _,Uc 1 16 _] (.af .z) ⟨mv,bn,trivial⟩ (.af (.dk .z)) λa w hI=>?_
 refine jv hI (λt3=>?_) (λt3=>?_)
 ·
  refine ak ?_
  refine ae ?_
  refine ah ?_
  refine aD ?_
  obtain rfl:=Jl h hp (by assumption)
  refine iP hI 8 [Uc 0 19 _,Uc 1 20 _,Uc 2 21 _,Uc 3 22 _,Uc 4 23 _,Uc 5 24 _,Uc 6 25 _,Uc 7 4 _] (.aU (.t 7 (.k .z))) ⟨mv,M7 (m:=n),LH (n:=n%10),fY (v:=.int .u64 (48+n%10)) hs (FC (by omega)) (pt rfl),fY (v:=.int .i32 (48+n%10)) hs (FD (by omega)) (pt rfl),mv,Iz (hz:=by show 1+0<=9223372036854775807; omega),mv,trivial⟩ (.bj (.d8 (.k .z))) λa w hI=>?_
  refine bk ?_
  refine ae ?_
  refine iP hI 3 [Uc 0 17 _,Uc 1 18 _,Uc 2 5 _] (.kk (.t 2 (.k .z))) ⟨mv,M6 (m:=n),mv,trivial⟩ (.bS (.eC .z)) λa w hI=>?_
  refine ae ?_
  exact nQ (0+1) (by omega) hI trivial ⟨gc,gc,gc,gc,trivial⟩ (by omega)
 ·
  refine cj ?_
  refine aC ?_
  refine aC ?_
  refine bf ?_
  refine ae ?_
  refine ah ?_
  obtain rfl:=Jm h hp (by assumption)
  refine au hI 2 [Uc 0 26 _,Uc 1 27 _] (.af (.k .z)) ⟨mv,bn,trivial⟩ (.gS (.eC .z)) λa w hI=>?_
  refine jv hI (λt4=>?_) (λt4=>?_)
  ·exfalso; omega
  refine ak ?_
  refine ae ?_
  refine au hI 2 [Uc 0 30 _,Uc 1 2 _] (.t 1 (.kk .z)) ⟨mv,mv,trivial⟩ (.bp (.k .z)) λa w hI=>?_
  refine av ?_
  exact bW hI rfl cm
def oK (s:ByteArray) (e:Int):ByteArray:=if e≠0 then⟨#[101,114,114,111,114,32]⟩++DW e 1 else s
theorem EN {e:Int} (h:0<=e/\e<=9):K2 Tryz.prog 56 (pT s) (pI e) (pT (oK s e)):=by
 intro M w0 v0 v1 hM hv0 da
 refine fT (N:=11) Tryz.func56 rfl rfl rfl hM hv0 da λa hI=>?_
 refine au hI 1 [Uc 0 4 _] (.kk .z) ⟨mv,trivial⟩ (.aU .z) λa w hI=>?_
 refine ah ?_
 refine au hI 2 [Uc 0 5 _,Uc 1 6 _] (.aU .z) ⟨mv,bn,trivial⟩ (.bj (.k .z)) λa w hI=>?_
 refine jv hI (λt1=>?_) (λt1=>?_)
 ·
  refine au hI 4 [Uc 0 7 _,Uc 1 8 _,Uc 2 9 _,Uc 3 4 _] (.kk (.t 3 (.k .z))) ⟨mv,nH HD (hφ:=⟨by omega,h.2⟩),Iz (hz:=by show 6+(1+0)<=9223372036854775807; omega),mv,trivial⟩ (.gE (.cf .z)) λa w hI=>?_
  refine av ?_
  refine aj ?_
  exact bW hI rfl (cm (hq:=zB (by unfold oK; rw[if_pos t1])))
 ·
  refine ak ?_
  refine ae ?_
  refine au hI 2 [Uc 0 10 _,Uc 1 4 _] (.kk (.t 1 (.k .z))) ⟨mv,mv,trivial⟩ (.bp (.dk .z)) λa w hI=>?_
  refine av ?_
  exact bW hI rfl (cm (hq:=zB (by unfold oK; rw[if_neg t1])))
end Wx
