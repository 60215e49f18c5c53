import Derived.Test.YtfnmkhlleanppaaGreatDoorJWF27
import Derived.Test.YtfnmkhlleanppaaGreatDoorCWFWkC
namespace Wx
set_option maxRecDepth 100000
set_option maxHeartbeats 1000000
open Go Go.RowKit Go.Proofs
set_option linter.unusedVariables false
attribute [local irreducible] OpOk
def xO (h x:Int):Int:=kQ (kQ (31*kQ (h+kQ x))+7)
def nu (h:Int) (s:ByteArray):Nat->Int
 |0=>h
 |k+1=>xO (nu h s k) (bE s k)
def lD (h:Int) (s:ByteArray):Int:=nu h s s.size
def fU (φ:Int->Bool) (s:ByteArray):Bool:=decide (∀k,k<s.size->φ (bE s k)=true)&&decide (s≠⟨#[]⟩)
def dh (x:Int):Bool:=decide (x>32)&&decide (x<127)
def tJ (x:Int):Bool:=decide (x>=48)&&decide (x<=57)
def uJ (x:Int):Bool:=((decide (x>=97)&&decide (x<=122))||tJ x)||decide (x=45)
variable {h:Int} {s:ByteArray}
theorem qX (hz:s.size<=1000000):K2 Tryz.prog 12 (dn h) (pT s) (dn (lD h s)):=by
 intro M w0 v0 v1 hM hv0 dc
 refine ia (N:=22) Tryz.func12 rfl rfl rfl hM hv0 dc λa hI=>?_
 refine au hI 1 [Uc 0 4 _] (.kk .z) ⟨mv,trivial⟩ (.aP .z) λa w hI=>?_
 refine ah ?_
 refine au hI 4 [Uc 0 7 _,Uc 1 8 _,Uc 2 9 _,Uc 3 10 _] (.aP .z) ⟨mv,ET,ln,mv,trivial⟩ (.wX (.aP .z)) λa w hI=>?_
 refine aI ?_
 refine qF [] [Uz 4 _,Uz 8 _,Uz 9 _] (λ(i:Nat)=>[]) (λ(i:Nat)=>[Uz 10 (pI (i:Int)),Uz 0 (dn (nu h s i))]) (λ(i:Nat)=>i<=s.size) (λ(i:Nat)=>s.size-i) (0) (Nat.zero_le _) hI trivial ⟨gi,gi,gi,gc,gc,trivial⟩ ?_
 intro i a w hp hI
 refine au hI 1 [Uc 0 11 _] (.ae (.k .z)) ⟨bn,trivial⟩ (.ae (.kk .z)) λa w hI=>?_
 refine ah ?_
 refine jy hI (λt1=>?_) (λt1=>?_)
 ·
  refine av ?_
  refine af ?_
  refine ah ?_
  refine aI ?_
  refine au hI 3 [Uc 0 12 _,Uc 1 13 _,Uc 2 6 _] (.ae (.kk .z)) ⟨ix,aH hs (pt rfl) (by kernel_rfl) (aZ (cF _) rfl rfl),mv,trivial⟩ (.ae (.eF (.k .z))) λa w hI=>?_
  refine jD hI 7 [Uc 0 14 _,Uc 1 15 _,Uc 2 16 _,Uc 3 17 _,Uc 4 18 _,Uc 5 19 _,Uc 6 0 _] (.ae (.t 6 (.k .z))) ⟨mv,mv,yf,vX,CB,vX,mv,trivial⟩ (.ae (.d8 (.k .z))) λa w hI=>?_
  refine bF ?_
  refine af ?_
  refine jD hI 2 [Uc 0 20 _,Uc 1 10 _] (.aP (.t 1 (.k .z))) ⟨bn,mv,trivial⟩ (.bq (.kU .z)) λa w hI=>?_
  refine af ?_
  exact pq (i+1) (by omega) hI trivial ⟨gc,gc,gc,gc,gc,trivial⟩ (by omega)
 ·
  refine bZ ?_
  refine aB ?_
  refine aB ?_
  refine aW ?_
  refine af ?_
  obtain rfl:i=s.size:=by omega
  refine au hI 2 [Uc 0 21 _,Uc 1 4 _] (.t 1 (.ae (.k .z))) ⟨mv,mv,trivial⟩ (.bN (.bV .z)) λa w hI=>?_
  refine aA ?_
  exact cu hI rfl cC
theorem yY (hz:s.size<=1000000):K2 Tryz.prog 13 (dn h) (pT s) (dn (lD h s)):=by
 intro M w0 v0 v1 hM hv0 dc
 refine ia (N:=23) Tryz.func13 rfl rfl rfl hM hv0 dc λa hI=>?_
 refine au hI 1 [Uc 0 4 _] (.kk .z) ⟨mv,trivial⟩ (.aP .z) λa w hI=>?_
 refine au hI 2 [Uc 0 7 _,Uc 1 5 _] (.aP .z) ⟨mv,mv,trivial⟩ (.mJ (.k .z)) λa w hI=>?_
 refine ah ?_
 refine au hI 1 [Uc 0 6 _] (.aP .z) ⟨mv,trivial⟩ (.ae .z) λa w hI=>?_
 refine aI ?_
 refine qF [] [Uz 1 _,Uz 4 _] (λ(i:Nat)=>[]) (λ(i:Nat)=>[Uz 6 (pI (i:Int)),Uz 5 (dn (nu h s i))]) (λ(i:Nat)=>i<=s.size) (λ(i:Nat)=>s.size-i) (0) (Nat.zero_le _) hI trivial ⟨gi,gi,gc,gc,trivial⟩ ?_
 intro i a w hp hI
 refine ah ?_
 refine au hI 4 [Uc 0 8 _,Uc 1 9 _,Uc 2 10 _,Uc 3 11 _] (.ae .z) ⟨mv,mv,oz,bn,trivial⟩ (.ae (.bV .z)) λa w hI=>?_
 refine jy hI (λt1=>?_) (λt1=>?_)
 ·
  refine av ?_
  refine af ?_
  refine ah ?_
  refine aI ?_
  refine jD hI 9 [Uc 0 14 _,Uc 1 15 _,Uc 2 16 _,Uc 3 17 _,Uc 4 18 _,Uc 5 19 _,Uc 6 20 _,Uc 7 21 _,Uc 8 5 _] (.aP (.t 8 (.k .z))) ⟨mv,mv,mv,Bv i,yf,vX,CB,vX,mv,trivial⟩ (.bq (.d8 (.dk .z))) λa w hI=>?_
  refine bF ?_
  refine af ?_
  refine jD hI 3 [Uc 0 12 _,Uc 1 13 _,Uc 2 6 _] (.kk (.t 2 (.k .z))) ⟨mv,bn,mv,trivial⟩ (.bQ (.fh .z)) λa w hI=>?_
  refine af ?_
  exact pq (i+1) (by omega) hI trivial ⟨gc,gc,gc,gc,trivial⟩ (by omega)
 ·
  refine bZ ?_
  refine aB ?_
  refine aB ?_
  refine aW ?_
  refine af ?_
  obtain rfl:i=s.size:=by omega
  refine au hI 2 [Uc 0 22 _,Uc 1 4 _] (.k (.t 1 (.aP .z))) ⟨mv,mv,trivial⟩ (.bN (.fh .z)) λa w hI=>?_
  refine aA ?_
  exact cu hI rfl cC
variable {x:Int}
theorem xd (_:True):K1 Tryz.prog 63 (fO x) (pB (dh x)):=by
 intro M w0 v0 hM hv0
 refine gE (N:=9) Tryz.func63 rfl rfl rfl hM hv0 λa hI=>?_
 refine au hI 1 [Uc 0 2 _] (.k .z) ⟨mv,trivial⟩ (.kk .z) λa w hI=>?_
 refine au hI 7 [Uc 0 3 _,Uc 1 4 _,Uc 2 5 _,Uc 3 6 _,Uc 4 7 _,Uc 5 8 _,Uc 6 2 _] (.k (.t 6 .z)) ⟨mv,bn,mv,gd λh=>er h,gd λh=>lM h,pk,mv,trivial⟩ (.d8 (.k .z)) λa w hI=>?_
 refine aA ?_
 exact cu hI rfl cC
theorem uA (_:True):K1 Tryz.prog 70 (fO x) (pB (tJ x)):=by
 intro M w0 v0 hM hv0
 refine gE (N:=9) Tryz.func70 rfl rfl rfl hM hv0 λa hI=>?_
 refine au hI 1 [Uc 0 2 _] (.k .z) ⟨mv,trivial⟩ (.kk .z) λa w hI=>?_
 refine au hI 7 [Uc 0 3 _,Uc 1 4 _,Uc 2 5 _,Uc 3 6 _,Uc 4 7 _,Uc 5 8 _,Uc 6 2 _] (.k (.t 6 .z)) ⟨mv,bn,mv,gd λh=>er h,gd λh=>lM h,pk,mv,trivial⟩ (.d8 (.k .z)) λa w hI=>?_
 refine aA ?_
 exact cu hI rfl cC
theorem xe (_:True):K1 Tryz.prog 107 (fO x) (pB (uJ x)):=by
 intro M w0 v0 hM hv0
 refine gE (N:=17) Tryz.func107 rfl rfl rfl hM hv0 λa hI=>?_
 refine au hI 1 [Uc 0 2 _] (.k .z) ⟨mv,trivial⟩ (.kk .z) λa w hI=>?_
 refine au hI 15 [Uc 0 3 _,Uc 1 4 _,Uc 2 5 _,Uc 3 6 _,Uc 4 7 _,Uc 5 8 _,Uc 6 9 _,Uc 7 10 _,Uc 8 11 _,Uc 9 12 _,Uc 10 13 _,Uc 11 14 _,Uc 12 15 _,Uc 13 16 _,Uc 14 2 _] (.k (.t 14 .z)) ⟨mv,bn,mv,gd λh=>er h,gd λh=>lM h,pk,mv,gd λh=>er h,gd λh=>DO h uA,pk,mv,gd λh=>er h,gd λh=>lM h,pk,mv,trivial⟩ (.d8 (.d8 (.k .z))) λa w hI=>?_
 refine aA ?_
 exact cu hI rfl cC
end Wx

namespace Wx
open Go Go.RowKit Go.Proofs
set_option linter.unusedVariables false
def xR (n:Int):Int:=IntKind.u8.wrap n
theorem qC (n:Int):xR n=n%256:=rfl
def byteOf (n:Int):UInt8:=UInt8.ofNat (n%256).toNat
theorem ej (n:Int):((byteOf n).toNat:Int)=xR n:=by
 unfold byteOf
 rw[UInt8.toNat_ofNat',qC]
 omega
def xD (s:ByteArray):ByteArray:=⟨#[165,byteOf s.size]⟩
def vD (n:Int):ByteArray:=⟨#[byteOf n,byteOf (n/2^8),byteOf (n/2^16),byteOf (n/2^24)]⟩
def pe (s:ByteArray):ByteArray:=(xD s++s)++vD (lD 0 s)
theorem dr (s:ByteArray):(xD s).size=2/\bE (xD s) 0=165/\bE (xD s) 1=xR s.size:=⟨rfl,rfl,ej _⟩
theorem vE (n:Int) {k:Nat} (hk:k<4):bE (vD n) k=xR (n/2^(8*k)):=by
 match k,hk with
 |0,_=>exact(ej n).trans (by rw[show(2:Int)^(8*0)=1 from rfl,Int.ediv_one])
 |1,_=>exact ej _
 |2,_=>exact ej _
 |3,_=>exact ej _
theorem tY (s:ByteArray):(pe s).size=6+s.size:=by
 unfold pe
 rw[ByteArray.size_append,ByteArray.size_append,(dr s).1]
 show 2+s.size+4=_
 omega
theorem nX {s:ByteArray} {k:Nat} (hk:k<4):bE (pe s) (2+s.size+k)=xR (lD 0 s/2^(8*k)):=by
 unfold pe
 rw[fG,if_neg (by rw[ByteArray.size_append,(dr s).1]; omega),ByteArray.size_append,(dr s).1,show 2+s.size+k-(2+s.size)=k by omega,vE _ hk]
theorem xQ (n:Int):0<=kQ n/\kQ n<=4294967295:=by
 have e:kQ n=n%4294967296:=rfl
 omega
theorem xN (s:ByteArray):∀k,0<=nu 0 s k/\nu 0 s k<=4294967295
 |0=>by show(0:Int)<=0/\(0:Int)<=4294967295; omega
 |k+1=>xQ _
theorem rI (s:ByteArray):0<=lD 0 s/\lD 0 s<=4294967295:=xN s _
section
variable {P:Program} {ops:Array Oper} {ms:List Nat} {c:bO} {V:List Vr} {A:List Al} {G:List aK} {i d:Nat} {x y z:Operand} {ty t u:TypeId} {pos:String} {ax:Array Edge} {m n:Int}{f:Nat->Pred} {yv:Vr}
theorem AF (hv:qE i V=some yv:=by exact rfl) (hp:Post G i (az 1 false 0 f):=by exact pt rfl) (cK:yv.kd=.grow 0 1:=by exact rfl) (hal:(A.all λp=>p.var != yv.id||p.tag.any λj=>(ms.getD j 0).testBit i)=true:=by kernel_rfl):
  OpOk P ops ms c V A G i ⟨some d,.assign (.const (.slice none 0 0)),ty,pos,ax,none⟩:=by
 obtain⟨⟨k,hk⟩,hb⟩:=dN hv
 exact xA k hk hb cK hal hp
variable {T tx:TypeId} {s:Nat} {xv:Vr}
theorem Dp {m:Nat} {x:Int} {R:ByteArray} (he:bE R m=x) (hx:ze ms i s V=some xv:=by exact rfl) (hv:qE i V=some yv:=by exact rfl) (h1:Has ms G i (.tmp s) (az 1 false m λk=>fO (bE R k)):=by exact hs) (h2:Has ms G i y (az 1 false 1 λ_=>fO x):=by exact hs) (hp:Post G i (az 1 false (m+1) λk=>fO (bE R k)):=by exact pt rfl) (cn:xv.kd=.grow m 1:=by exact rfl) (dP:xv.dead=some i:=by exact rfl) (cK:yv.kd=.grow (m+1) 1:=by exact rfl) (hT:xv.T=yv.T:=by exact rfl) (hmax:m+1<=1073741824:=by first|decide|omega)
  (ht:wg P T tx yv.T 1=true:=by kernel_rfl) (dU:(V.all λz=>z.dead != some i||z.id==xv.id)=true:=by kernel_rfl) (hal:(A.all λp=>p.var != yv.id||p.tag.any λj=>(ms.getD j 0).testBit i)=true:=by kernel_rfl):OpOk P ops ms c V A G i ⟨some d,.call ⟨.builtin .append,#[.tmp s,y],#[T,tx]⟩,ty,pos,ax,none⟩:=by
 obtain⟨⟨k,hk⟩,hb⟩:=dN hv
 obtain⟨⟨k1,tj⟩,kT,ho⟩:=iV hx
 refine lV k1 tj kT ho cn dP k hk hb cK hT rfl dU hal h1 h2 (iq ht) (λ_=>rfl) (λ_ _=>aZ (cF _) rfl rfl) (λ_ _=>aZ (cF _) rfl rfl) hmax (hp.down (dS λk hk w v h=>?_))
 by_cases hkm:k<m
 ·rwa [if_pos hkm]at h
 ·rw[if_neg hkm]at h
  rw[show k=m by omega,he]
  exact h
theorem zx (E:TypeId) (ht:eO P T E 1:=by exact⟨by kernel_rfl,λ_=>by kernel_rfl⟩) (jC:∀w,(zeroValue E).run P w=.ok (.int .u8 0) w:=by exactλ_=>by kernel_rfl) (h1:Has ms G i x (fO m):=by exact hs) (hp:Post G i (az 1 false 1 λ_=>fO m):=by exact pt rfl):
  OpOk P ops ms c V A G i ⟨some d,.buildSlice T 1 #[(0,x)],ty,pos,ax,none⟩:=zy E (.int .u8 0) ht jC rfl (aZ (cF _) rfl rfl) h1 hp
theorem wj {s:ByteArray} (E:TypeId) (ht:eO P T E 1:=by exact⟨by kernel_rfl,λ_=>by kernel_rfl⟩) (jC:∀w,(zeroValue E).run P w=.ok (.string ⟨#[]⟩) w:=by exactλ_=>by kernel_rfl) (h1:Has ms G i x (pT s):=by exact hs) (hp:Post G i (az 1 false 1 λ_=>pT s):=by exact pt rfl):
  OpOk P ops ms c V A G i ⟨some d,.buildSlice T 1 #[(0,x)],ty,pos,ax,none⟩:=zy E (.string ⟨#[]⟩) ht jC rfl (aZ (fK _) rfl rfl) h1 hp
theorem Ez (h1:Has ms G i x (dn m):=by exact hs) (h2:Has ms G i y (pI n):=by exact hs) (hn:n=(s:Int):=by omega) (hs':s<=32:=by omega) (hp:Post G i (dn (m/2^s)):=by exact pt rfl):OpOk P ops ms c V A G i ⟨some d,.binOp .shr t x y u,ty,pos,ax,none⟩:=by
 subst hn
 refine cj h1 h2 (λw=>?_) hp
 show(Op.shift .shr .u32 m .i64 (s:Int)).run P w=_
 rw[shift_shr_any _ _ _ _ (by omega)]
 have e:min ((s:Int)).toNat IntKind.u32.bits=s:=by show min ((s:Int)).toNat 32=s; omega
 rw[e]
 rfl
variable {S D:TypeId}
theorem ye (h:Has ms G i x (dn m):=by exact hs) (hr:∀w,(Go.convert S D (.int .u32 m)).run P w=.ok (.int .u8 (IntKind.u8.wrap m)) w:=by exactλ_=>by kernel_rfl) (hp:Post G i (fO (xR m)):=by exact pt rfl):OpOk P ops ms c V A G i ⟨some d,.convert S D x,ty,pos,ax,none⟩:=dX h hr hp
theorem BP (h:Has ms G i x (pI m):=by exact hs) (hr:∀w,(Go.convert S D (.int .i64 m)).run P w=.ok (.int .u8 (IntKind.u8.wrap m)) w:=by exactλ_=>by kernel_rfl) (hp:Post G i (fO (xR m)):=by exact pt rfl):OpOk P ops ms c V A G i ⟨some d,.convert S D x,ty,pos,ax,none⟩:=dX h hr hp
theorem BO (h:Has ms G i x (fO m):=by exact hs) (hm:0<=m/\m<=255:=by first|exact jV _ _|omega) (hr:∀w,(Go.convert S D (.int .u8 m)).run P w=.ok (.int .i64 (IntKind.i64.wrap m)) w:=by exactλ_=>by kernel_rfl) (hp:Post G i (pI m):=by exact pt rfl):OpOk P ops ms c V A G i ⟨some d,.convert S D x,ty,pos,ax,none⟩:=
 dX h (λw=>by rw[hr w,IntWalk.i64_in _ (by omega)]) hp
theorem Ex (h1:Has ms G i x (dn m):=by exact hs) (h2:Has ms G i y (dn 256):=by exact hs) (hm:0<=m/\m<=4294967295:=by omega) (hp:Post G i (dn (m%256)):=by exact pt rfl):OpOk P ops ms c V A G i ⟨some d,.binOp .rem t x y u,ty,pos,ax,none⟩:=
 cj h1 h2 (λw=>by
  show Result.ok (Value.int .u32 (m.tmod 256)) w=_
  rw[Int.tmod_eq_emod_of_nonneg hm.1]) hp
theorem Er (h1:Has ms G i x (dn m):=by exact hs) (h2:Has ms G i y (dn 256):=by exact hs) (hm:0<=m/\m<=4294967295:=by omega) (hp:Post G i (dn (m/256)):=by exact pt rfl):OpOk P ops ms c V A G i ⟨some d,.binOp .quo t x y u,ty,pos,ax,none⟩:=
 cj h1 h2 (λw=>by
  show Result.ok (Value.int .u32 (IntKind.u32.wrap (m.tdiv 256))) w=_
  rw[Int.tdiv_eq_ediv_of_nonneg hm.1,show IntKind.u32.wrap (m/256)=(m/256)%4294967296 from rfl,Int.emod_eq_of_lt (by omega) (by omega)]) hp
theorem Dr {m:Nat} {p:Pred} (hf:∀k,Fits 1 false (f k)) (FY:Fits 1 false p) (he:∀w v,p w v->f m w v) (hx:ze ms i s V=some xv:=by exact rfl) (hv:qE i V=some yv:=by exact rfl) (h1:Has ms G i (.tmp s) (az 1 false m f):=by exact hs) (h2:Has ms G i y (az 1 false 1 λ_=>p):=by exact hs) (hp:Post G i (az 1 false (m+1) f):=by exact pt rfl) (cn:xv.kd=.grow m 1:=by exact rfl) (dP:xv.dead=some i:=by exact rfl) (cK:yv.kd=.grow (m+1) 1:=by exact rfl) (hT:xv.T=yv.T:=by exact rfl) (hmax:m+1<=1073741824:=by first|decide|omega)
  (ht:wg P T tx yv.T 1=true:=by kernel_rfl) (dU:(V.all λz=>z.dead != some i||z.id==xv.id)=true:=by kernel_rfl) (hal:(A.all λp=>p.var != yv.id||p.tag.any λj=>(ms.getD j 0).testBit i)=true:=by kernel_rfl):OpOk P ops ms c V A G i ⟨some d,.call ⟨.builtin .append,#[.tmp s,y],#[T,tx]⟩,ty,pos,ax,none⟩:=by
 obtain⟨⟨k,hk⟩,hb⟩:=dN hv
 obtain⟨⟨k1,tj⟩,kT,ho⟩:=iV hx
 refine lV k1 tj kT ho cn dP k hk hb cK hT rfl dU hal h1 h2 (iq ht) (λ_=>rfl) (λ_ _=>hf _) (λ_ _=>FY) hmax (hp.down (dS λk hk w v h=>?_))
 by_cases hkm:k<m
 ·rwa [if_pos hkm]at h
 ·rw[if_neg hkm]at h
  rw[show k=m by omega]
  exact he w v h
theorem De {s:ByteArray} (k:Nat) (h:Has ms G i x (fl s):=by exact hs) (hy:Has ms G i y (pI (k:Int)):=by exact(Wx.hs).imp (bM (by omega))) (hk:k<s.size:=by omega) (ht:za P T 1=true:=by kernel_rfl) (hA:(A.all λq=>q.tag != some i)=true:=by kernel_rfl) (hp:Post G i (cV 1 false (fO (bE s k))):=by exact pt rfl):
  OpOk P ops ms c V A G i ⟨some d,.indexAddr T x y,ty,pos,ax,none⟩:=by
 obtain⟨E,hE⟩:=jm ht
 exact ju h hy hE (by omega) (by omega) hA hp
end
end Wx
