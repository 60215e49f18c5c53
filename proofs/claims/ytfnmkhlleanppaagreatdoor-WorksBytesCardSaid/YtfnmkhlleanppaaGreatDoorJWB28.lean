import Derived.Test.YtfnmkhlleanppaaGreatDoorJWB27
import Derived.Test.YtfnmkhlleanppaaGreatDoorCWBWkC
namespace Wx
set_option maxRecDepth 100000
set_option maxHeartbeats 1000000
open Go Go.RowKit Go.Proofs
set_option linter.unusedVariables false
attribute [local irreducible] OpOk
def iT (h x:Int):Int:=nE (nE (31*nE (h+nE x))+7)
def gS (h:Int) (s:ByteArray):Nat->Int
 |0=>h
 |k+1=>iT (gS h s k) (bO s k)
def lK (h:Int) (s:ByteArray):Int:=gS h s s.size
def gP (φ:Int->Bool) (s:ByteArray):Bool:=decide (∀k,k<s.size->φ (bO s k)=true)&&decide (s≠⟨#[]⟩)
def kz (x:Int):Bool:=decide (x>32)&&decide (x<127)
def tU (x:Int):Bool:=decide (x>=48)&&decide (x<=57)
def uV (x:Int):Bool:=((decide (x>=97)&&decide (x<=122))||tU x)||decide (x=45)
theorem oF {h:Int} {s:ByteArray} (hz:s.size<=1000000):K2 Tryz.prog 12 (gD h) (pT s) (gD (lK h s)):=by
 intro M w0 v0 v1 hM hv0 dH
 refine iY (N:=22) Tryz.func12 rfl rfl rfl hM hv0 dH λa hI=>?_
 refine aq hI 1 [Uc 0 4 _] (.kk .z) ⟨mv,trivial⟩ (.aR .z) λa w hI=>?_
 refine ai ?_
 refine aq hI 4 [Uc 0 7 _,Uc 1 8 _,Uc 2 9 _,Uc 3 10 _] (.aR .z) ⟨mv,ER,ln,mv,trivial⟩ (.sJ (.aR .z)) λa w hI=>?_
 refine aN ?_
 refine tA [] [Uz 4 _,Uz 8 _,Uz 9 _] (λ(i:Nat)=>[]) (λ(i:Nat)=>[Uz 10 (pI (i:Int)),Uz 0 (gD (gS h s i))]) (λ(i:Nat)=>i<=s.size) (λ(i:Nat)=>s.size-i) (0) (Nat.zero_le _) hI trivial ⟨gi,gi,gi,gc,gc,trivial⟩ ?_
 intro i a w hp hI
 refine aq hI 1 [Uc 0 11 _] (.ae (.k .z)) ⟨bn,trivial⟩ (.ae (.kk .z)) λa w hI=>?_
 refine ai ?_
 refine jF hI (λt1=>?_) (λt1=>?_)
 ·
  refine av ?_
  refine af ?_
  refine ai ?_
  refine aN ?_
  refine aq hI 3 [Uc 0 12 _,Uc 1 13 _,Uc 2 6 _] (.ae (.kk .z)) ⟨ix,aE hs (pt rfl) (by kernel_rfl) (aX (cX _) rfl rfl),mv,trivial⟩ (.ae (.fg (.k .z))) λa w hI=>?_
  refine kZ hI 7 [Uc 0 14 _,Uc 1 15 _,Uc 2 16 _,Uc 3 17 _,Uc 4 18 _,Uc 5 19 _,Uc 6 0 _] (.ae (.t 6 (.k .z))) ⟨mv,mv,BU,BH,Er,BH,mv,trivial⟩ (.ae (.d8 (.k .z))) λa w hI=>?_
  refine bG ?_
  refine af ?_
  refine kZ hI 2 [Uc 0 20 _,Uc 1 10 _] (.aR (.t 1 (.k .z))) ⟨bn,mv,trivial⟩ (.bC (.lf .z)) λa w hI=>?_
  refine af ?_
  exact ry (i+1) (by omega) hI trivial ⟨gc,gc,gc,gc,gc,trivial⟩ (by omega)
 ·
  refine cV ?_
  refine aM ?_
  refine aM ?_
  refine bF ?_
  refine af ?_
  obtain rfl:i=s.size:=by omega
  refine aq hI 2 [Uc 0 21 _,Uc 1 4 _] (.t 1 (.ae (.k .z))) ⟨mv,mv,trivial⟩ (.bR (.cx .z)) λa w hI=>?_
  refine ay ?_
  exact cn hI rfl cU
variable {x:Int}
theorem xp (_:True):K1 Tryz.prog 63 (fD x) (pB (kz x)):=by
 intro M w0 v0 hM hv0
 refine ie (N:=9) Tryz.func63 rfl rfl rfl hM hv0 λa hI=>?_
 refine aq hI 1 [Uc 0 2 _] (.k .z) ⟨mv,trivial⟩ (.kk .z) λa w hI=>?_
 refine aq hI 7 [Uc 0 3 _,Uc 1 4 _,Uc 2 5 _,Uc 3 6 _,Uc 4 7 _,Uc 5 8 _,Uc 6 2 _] (.k (.t 6 .z)) ⟨mv,bn,mv,gd λh=>gr h,gd λh=>nJ h,pk,mv,trivial⟩ (.d8 (.k .z)) λa w hI=>?_
 refine ay ?_
 exact cn hI rfl cU
theorem uL (_:True):K1 Tryz.prog 70 (fD x) (pB (tU x)):=by
 intro M w0 v0 hM hv0
 refine ie (N:=9) Tryz.func70 rfl rfl rfl hM hv0 λa hI=>?_
 refine aq hI 1 [Uc 0 2 _] (.k .z) ⟨mv,trivial⟩ (.kk .z) λa w hI=>?_
 refine aq hI 7 [Uc 0 3 _,Uc 1 4 _,Uc 2 5 _,Uc 3 6 _,Uc 4 7 _,Uc 5 8 _,Uc 6 2 _] (.k (.t 6 .z)) ⟨mv,bn,mv,gd λh=>gr h,gd λh=>nJ h,pk,mv,trivial⟩ (.d8 (.k .z)) λa w hI=>?_
 refine ay ?_
 exact cn hI rfl cU
theorem xq (_:True):K1 Tryz.prog 107 (fD x) (pB (uV x)):=by
 intro M w0 v0 hM hv0
 refine ie (N:=17) Tryz.func107 rfl rfl rfl hM hv0 λa hI=>?_
 refine aq hI 1 [Uc 0 2 _] (.k .z) ⟨mv,trivial⟩ (.kk .z) λa w hI=>?_
 refine aq hI 15 [Uc 0 3 _,Uc 1 4 _,Uc 2 5 _,Uc 3 6 _,Uc 4 7 _,Uc 5 8 _,Uc 6 9 _,Uc 7 10 _,Uc 8 11 _,Uc 9 12 _,Uc 10 13 _,Uc 11 14 _,Uc 12 15 _,Uc 13 16 _,Uc 14 2 _] (.k (.t 14 .z)) ⟨mv,bn,mv,gd λh=>gr h,gd λh=>nJ h,pk,mv,gd λh=>gr h,gd λh=>Ca h uL,pk,mv,gd λh=>gr h,gd λh=>nJ h,pk,mv,trivial⟩ (.d8 (.d8 (.k .z))) λa w hI=>?_
 refine ay ?_
 exact cn hI rfl cU
end Wx

namespace Wx
open Go Go.RowKit Go.Proofs
set_option linter.unusedVariables false
def we (n:Int):Int:=IntKind.u8.wrap n
theorem nF (n:Int):we n=n%256:=rfl
def byteOf (n:Int):UInt8:=UInt8.ofNat (n%256).toNat
theorem cW (n:Int):((byteOf n).toNat:Int)=we n:=by
 unfold byteOf
 rw[UInt8.toNat_ofNat',nF]
 omega
def xM (s:ByteArray):ByteArray:=⟨#[165,byteOf s.size]⟩
def vP (n:Int):ByteArray:=⟨#[byteOf n,byteOf (n/2^8),byteOf (n/2^16),byteOf (n/2^24)]⟩
def sB (s:ByteArray):ByteArray:=(xM s++s)++vP (lK 0 s)
theorem dD (s:ByteArray):(xM s).size=2/\bO (xM s) 0=165/\bO (xM s) 1=we s.size:=⟨rfl,rfl,cW _⟩
theorem vQ (n:Int) {k:Nat} (hk:k<4):bO (vP n) k=we (n/2^(8*k)):=by
 match k,hk with
 |0,_=>exact(cW n).trans (by rw[show(2:Int)^(8*0)=1 from rfl,Int.ediv_one])
 |1,_=>exact cW _
 |2,_=>exact cW _
 |3,_=>exact cW _
theorem oo (s:ByteArray):(sB s).size=6+s.size:=by
 unfold sB
 rw[ByteArray.size_append,ByteArray.size_append,(dD s).1]
 show 2+s.size+4=_
 omega
theorem um {s:ByteArray} {k:Nat} (hk:k<4):bO (sB s) (2+s.size+k)=we (lK 0 s/2^(8*k)):=by
 unfold sB
 rw[dn,if_neg (by rw[ByteArray.size_append,(dD s).1]; omega),ByteArray.size_append,(dD s).1,show 2+s.size+k-(2+s.size)=k by omega,vQ _ hk]
section
variable {P:Program} {ops:Array Oper} {ms:List Nat} {c:bJ} {V:List Vr} {A:List Al} {G:List aI} {i d:Nat} {x y z:Operand} {ty t u:TypeId} {pos:String} {au:Array Edge} {m n:Int}{f:Nat->Pred} {yv:Vr}
theorem AI (hv:pL i V=some yv:=by exact rfl) (hp:Post G i (ax 1 false 0 f):=by exact pt rfl) (cE:yv.kd=.grow 0 1:=by exact rfl) (hal:(A.all λp=>p.var != yv.id||p.tag.any λj=>(ms.getD j 0).testBit i)=true:=by kernel_rfl):
  OpOk P ops ms c V A G i ⟨some d,.assign (.const (.slice none 0 0)),ty,pos,au,none⟩:=by
 obtain⟨⟨k,hk⟩,hb⟩:=dF hv
 exact xL k hk hb cE hal hp
variable {T tx:TypeId} {s:Nat} {xv:Vr}
theorem Fw {m:Nat} {x:Int} {R:ByteArray} (he:bO R m=x) (hx:wg ms i s V=some xv:=by exact rfl) (hv:pL i V=some yv:=by exact rfl) (h1:Has ms G i (.tmp s) (ax 1 false m λk=>fD (bO R k)):=by exact hs) (h2:Has ms G i y (ax 1 false 1 λ_=>fD x):=by exact hs) (hp:Post G i (ax 1 false (m+1) λk=>fD (bO R k)):=by exact pt rfl) (bT:xv.kd=.grow m 1:=by exact rfl) (dw:xv.dead=some i:=by exact rfl) (cE:yv.kd=.grow (m+1) 1:=by exact rfl) (hT:xv.T=yv.T:=by exact rfl) (hmax:m+1<=1073741824:=by first|decide|omega)
  (ht:tN P T tx yv.T 1=true:=by kernel_rfl) (dL:(V.all λz=>z.dead != some i||z.id==xv.id)=true:=by kernel_rfl) (hal:(A.all λp=>p.var != yv.id||p.tag.any λj=>(ms.getD j 0).testBit i)=true:=by kernel_rfl):OpOk P ops ms c V A G i ⟨some d,.call ⟨.builtin .append,#[.tmp s,y],#[T,tx]⟩,ty,pos,au,none⟩:=by
 obtain⟨⟨k,hk⟩,hb⟩:=dF hv
 obtain⟨⟨k1,sE⟩,jx,ho⟩:=fS hx
 refine jl k1 sE jx ho bT dw k hk hb cE hT rfl dL hal h1 h2 (gj ht) (λ_=>rfl) (λ_ _=>aX (cX _) rfl rfl) (λ_ _=>aX (cX _) rfl rfl) hmax (hp.down (ej λk hk w v h=>?_))
 by_cases hkm:k<m
 ·rwa [if_pos hkm]at h
 ·rw[if_neg hkm]at h
  rw[show k=m by omega,he]
  exact h
theorem BL (E:TypeId) (ht:eX P T E 1:=by exact⟨by kernel_rfl,λ_=>by kernel_rfl⟩) (jJ:∀w,(zeroValue E).run P w=.ok (.int .u8 0) w:=by exactλ_=>by kernel_rfl) (h1:Has ms G i x (fD m):=by exact hs) (hp:Post G i (ax 1 false 1 λ_=>fD m):=by exact pt rfl):
  OpOk P ops ms c V A G i ⟨some d,.buildSlice T 1 #[(0,x)],ty,pos,au,none⟩:=wo E (.int .u8 0) ht jJ rfl (aX (cX _) rfl rfl) h1 hp
theorem BM {s:ByteArray} (E:TypeId) (ht:eX P T E 1:=by exact⟨by kernel_rfl,λ_=>by kernel_rfl⟩) (jJ:∀w,(zeroValue E).run P w=.ok (.string ⟨#[]⟩) w:=by exactλ_=>by kernel_rfl) (h1:Has ms G i x (pT s):=by exact hs) (hp:Post G i (ax 1 false 1 λ_=>pT s):=by exact pt rfl):
  OpOk P ops ms c V A G i ⟨some d,.buildSlice T 1 #[(0,x)],ty,pos,au,none⟩:=wo E (.string ⟨#[]⟩) ht jJ rfl (aX (fM _) rfl rfl) h1 hp
theorem Ex (h1:Has ms G i x (gD m):=by exact hs) (h2:Has ms G i y (pI n):=by exact hs) (hn:n=(s:Int):=by omega) (hs':s<=32:=by omega) (hp:Post G i (gD (m/2^s)):=by exact pt rfl):OpOk P ops ms c V A G i ⟨some d,.binOp .shr t x y u,ty,pos,au,none⟩:=by
 subst hn
 refine cm h1 h2 (λw=>?_) hp
 show(Op.shift .shr .u32 m .i64 (s:Int)).run P w=_
 rw[shift_shr_any _ _ _ _ (by omega)]
 have e:min ((s:Int)).toNat IntKind.u32.bits=s:=by show min ((s:Int)).toNat 32=s; omega
 rw[e]
 rfl
variable {S D:TypeId}
theorem BS (h:Has ms G i x (gD m):=by exact hs) (hr:∀w,(Go.convert S D (.int .u32 m)).run P w=.ok (.int .u8 (IntKind.u8.wrap m)) w:=by exactλ_=>by kernel_rfl) (hp:Post G i (fD (we m)):=by exact pt rfl):OpOk P ops ms c V A G i ⟨some d,.convert S D x,ty,pos,au,none⟩:=dU h hr hp
theorem DI (h:Has ms G i x (pI m):=by exact hs) (hr:∀w,(Go.convert S D (.int .i64 m)).run P w=.ok (.int .u8 (IntKind.u8.wrap m)) w:=by exactλ_=>by kernel_rfl) (hp:Post G i (fD (we m)):=by exact pt rfl):OpOk P ops ms c V A G i ⟨some d,.convert S D x,ty,pos,au,none⟩:=dU h hr hp
theorem DG (h:Has ms G i x (fD m):=by exact hs) (hm:0<=m/\m<=255:=by first|exact jc _ _|omega) (hr:∀w,(Go.convert S D (.int .u8 m)).run P w=.ok (.int .i64 (IntKind.i64.wrap m)) w:=by exactλ_=>by kernel_rfl) (hp:Post G i (pI m):=by exact pt rfl):OpOk P ops ms c V A G i ⟨some d,.convert S D x,ty,pos,au,none⟩:=
 dU h (λw=>by rw[hr w,IntWalk.i64_in _ (by omega)]) hp
theorem EM {m:Nat} {p:Pred} (hf:∀k,Fits 1 false (f k)) (F2:Fits 1 false p) (he:∀w v,p w v->f m w v) (hx:wg ms i s V=some xv:=by exact rfl) (hv:pL i V=some yv:=by exact rfl) (h1:Has ms G i (.tmp s) (ax 1 false m f):=by exact hs) (h2:Has ms G i y (ax 1 false 1 λ_=>p):=by exact hs) (hp:Post G i (ax 1 false (m+1) f):=by exact pt rfl) (bT:xv.kd=.grow m 1:=by exact rfl) (dw:xv.dead=some i:=by exact rfl) (cE:yv.kd=.grow (m+1) 1:=by exact rfl) (hT:xv.T=yv.T:=by exact rfl) (hmax:m+1<=1073741824:=by first|decide|omega)
  (ht:tN P T tx yv.T 1=true:=by kernel_rfl) (dL:(V.all λz=>z.dead != some i||z.id==xv.id)=true:=by kernel_rfl) (hal:(A.all λp=>p.var != yv.id||p.tag.any λj=>(ms.getD j 0).testBit i)=true:=by kernel_rfl):OpOk P ops ms c V A G i ⟨some d,.call ⟨.builtin .append,#[.tmp s,y],#[T,tx]⟩,ty,pos,au,none⟩:=by
 obtain⟨⟨k,hk⟩,hb⟩:=dF hv
 obtain⟨⟨k1,sE⟩,jx,ho⟩:=fS hx
 refine jl k1 sE jx ho bT dw k hk hb cE hT rfl dL hal h1 h2 (gj ht) (λ_=>rfl) (λ_ _=>hf _) (λ_ _=>F2) hmax (hp.down (ej λk hk w v h=>?_))
 by_cases hkm:k<m
 ·rwa [if_pos hkm]at h
 ·rw[if_neg hkm]at h
  rw[show k=m by omega]
  exact he w v h
theorem E8 {s:ByteArray} (k:Nat) (h:Has ms G i x (fY s):=by exact hs) (hy:Has ms G i y (pI (k:Int)):=by exact(Wx.hs).imp (bV (by omega))) (hk:k<s.size:=by omega) (ht:xU P T 1=true:=by kernel_rfl) (hA:(A.all λq=>q.tag != some i)=true:=by kernel_rfl) (hp:Post G i (cZ 1 false (fD (bO s k))):=by exact pt rfl):
  OpOk P ops ms c V A G i ⟨some d,.indexAddr T x y,ty,pos,au,none⟩:=by
 obtain⟨E,hE⟩:=gZ ht
 exact jA h hy hE (by omega) (by omega) hA hp
end
end Wx
