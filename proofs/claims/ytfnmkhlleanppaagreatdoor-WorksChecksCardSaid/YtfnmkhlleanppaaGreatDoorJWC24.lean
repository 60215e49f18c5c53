import Derived.Test.YtfnmkhlleanppaaGreatDoorJWC23
namespace Wx
open Go Go.RowKit Go.Proofs
set_option linter.unusedVariables false
def byteOf (n:Int):UInt8:=UInt8.ofNat (n%256).toNat
theorem Cn (n:Int):0<=kY n/\kY n<=4294967295:=by
 have e:kY n=n%4294967296:=rfl
 omega
theorem Ck (s:ByteArray):∀k,0<=qw 0 s k/\qw 0 s k<=4294967295
 |0=>by show(0:Int)<=0/\(0:Int)<=4294967295; omega
 |k+1=>Cn _
theorem lY (s:ByteArray):0<=lK 0 s/\lK 0 s<=4294967295:=Ck s _
section
variable {P:Program} {ops:Array Oper} {ms:List Nat} {c:bQ} {V:List Vr} {A:List Al} {G:List aN} {i d:Nat} {x y z:Operand} {ty t u:TypeId} {pos:String} {aft:Array Edge} {m n:Int}{f:Nat->Pred} {yv:Vr}
theorem HN (hv:sN i V=some yv:=by exact rfl) (hp:Post G i (aI 1 false 0 f):=by exact pt rfl) (eD:yv.kd=.grow 0 1:=by exact rfl) (hal:(A.all λp=>p.var != yv.id||p.tag.any λj=>(ms.getD j 0).testBit i)=true:=by kernel_rfl):
  OpOk P ops ms c V A G i ⟨some d,.assign (.const (.slice none 0 0)),ty,pos,aft,none⟩:=by
 obtain⟨⟨k,hk⟩,hb⟩:=eP hv
 exact BX k hk hb eD hal hp
variable {T:TypeId}
theorem vq {s:ByteArray} (E:TypeId) (ht:iZ P T E 1:=by exact⟨by kernel_rfl,λ_=>by kernel_rfl⟩) (pM:∀w,(zeroValue E).run P w=.ok (.string ⟨#[]⟩) w:=by exactλ_=>by kernel_rfl) (h1:Has ms G i x (pT s):=by exact hs) (hp:Post G i (aI 1 false 1 λ_=>pT s):=by exact pt rfl):
  OpOk P ops ms c V A G i ⟨some d,.buildSlice T 1 #[(0,x)],ty,pos,aft,none⟩:=Gi E (.string ⟨#[]⟩) ht pM rfl (cg (eH _) rfl rfl) h1 hp
theorem DU {S D:TypeId} (h:Has ms G i x (sM m):=by exact hs) (hm:0<=m/\m<=255:=by first|exact xw _ _|omega) (hr:∀w,(Go.convert S D (.int .u8 m)).run P w=.ok (.int .i64 (IntKind.i64.wrap m)) w:=by exactλ_=>by kernel_rfl) (hp:Post G i (pI m):=by exact pt rfl):OpOk P ops ms c V A G i ⟨some d,.convert S D x,ty,pos,aft,none⟩:=
 fY h (λw=>by rw[hr w,IntWalk.i64_in _ (by omega)]) hp
theorem KP {tx:TypeId} {m s:Nat} {p:Pred} {xv:Vr} (hf:∀k,Fits 1 false (f k)) (Mp:Fits 1 false p) (he:∀w v,p w v->f m w v) (hx:Dy ms i s V=some xv:=by exact rfl) (hv:sN i V=some yv:=by exact rfl) (h1:Has ms G i (.tmp s) (aI 1 false m f):=by exact hs) (h2:Has ms G i y (aI 1 false 1 λ_=>p):=by exact hs) (hp:Post G i (aI 1 false (m+1) f):=by exact pt rfl) (bR:xv.kd=.grow m 1:=by exact rfl) (fD:xv.dead=some i:=by exact rfl) (eD:yv.kd=.grow (m+1) 1:=by exact rfl) (hT:xv.T=yv.T:=by exact rfl) (hmax:m+1<=1073741824:=by first|decide|omega)
  (ht:xn P T tx yv.T 1=true:=by kernel_rfl) (eE:(V.all λz=>z.dead != some i||z.id==xv.id)=true:=by kernel_rfl) (hal:(A.all λp=>p.var != yv.id||p.tag.any λj=>(ms.getD j 0).testBit i)=true:=by kernel_rfl):OpOk P ops ms c V A G i ⟨some d,.call ⟨.builtin .append,#[.tmp s,y],#[T,tx]⟩,ty,pos,aft,none⟩:=by
 obtain⟨⟨k,hk⟩,hb⟩:=eP hv
 obtain⟨⟨k1,td⟩,lS,ho⟩:=kC hx
 refine wj k1 td lS ho bR fD k hk hb eD hT rfl eE hal h1 h2 (ir ht) (λ_=>rfl) (λ_ _=>hf _) (λ_ _=>Mp) hmax (hp.down (iN λk hk w v h=>?_))
 by_cases hkm:k<m
 ·rwa [if_pos hkm]at h
 ·rw[if_neg hkm]at h
  rw[show k=m by omega]
  exact he w v h
end
end Wx

namespace Wx
open Go Go.RowKit Go.Proofs
set_option linter.unusedVariables false
section
variable {P:Program} {c:bQ} {V:List Vr} {G:List aN} {a:Act} {w:World} {d:Nat} {x y:Operand} {ty:TypeId} {pos:String} {aft:Array Edge}
end
end Wx

namespace Wx
set_option maxRecDepth 100000
open Go Go.RowKit Go.Proofs
theorem KI (w:World) (h:w.cell? ⟨7,15,none⟩=some (.int .u8 4)):Calls Tryz.prog 198 #[.int .u64 16] w λen w'=>en=.returned (.int .i64 4)/\w'=w:=by
 go_enter Tryz.func198,Tryz.ntmps198
 have e:IntKind.u64.wrap (bits BinOp.and IntKind.u64 16 (IntKind.u64.wrap (-16))*285870213051353865)/288230376151711744=15:=by kernel_rfl
 go_wp2
 go_ret
 exact⟨rfl,rfl⟩
theorem KH (w:World) (h:w.cell? ⟨7,15,none⟩=some (.int .u8 4)):Calls Tryz.prog 180 #[.int .u64 16] w λen w'=>en=.returned (.int .i64 4)/\w'=w:=by
 go_enter Tryz.func180,Tryz.ntmps180
 go_wp2_with (go_at_call 198; refine(KI _ h).mono ?_; rintro e w' ⟨rfl,rfl⟩)
 go_ret
 exact⟨rfl,rfl⟩
theorem Ib (w:World):Calls Tryz.prog 179 #[.int .i64 16] w λen w'=>en=.returned (.bool true)/\w'=w:=by
 go_enter Tryz.func179,Tryz.ntmps179
 go_wp2
 go_ret
 exact⟨rfl,rfl⟩
end Wx

namespace Wx
set_option maxRecDepth 100000
set_option maxHeartbeats 1000000
open Go Go.RowKit Go.Proofs
set_option linter.unusedVariables false
attribute [local irreducible] OpOk
variable {φ:Int->Bool} {s:ByteArray}
theorem qH (h:∀k,k<s.size->φ (bz s k)=true):decide (s≠⟨#[]⟩)=dx φ s:=by unfold dx; rw[decide_eq_true h,Bool.true_and]
theorem uj {i:Nat} (hi:i<s.size) (h:φ (bz s i)=false):false=dx φ s:=by
 unfold dx
 rw[decide_eq_false λk=>by rw[k i hi]at h; cases h]
 rfl
def bt (s:ByteArray):Bool:=decide (∀w,w∈ay s->dx cP w=true)
def cC (s:ByteArray):Bool:=decide ((s.size:Int)<=24)&&dx gG s
def bJ (s:ByteArray):Bool:=(decide ((s.size:Int)<=8)&&dx gA s)&&(decide (s=⟨#[48]⟩)||decide (bz s 0≠48))
theorem gv (h:dx φ s=true):0<s.size:=by
 unfold dx at h
 simp only[Bool.and_eq_true,decide_eq_true_eq]at h
 rcases Nat.eq_zero_or_pos s.size with e|e
 ·exact absurd (ByteArray.ext (Array.eq_empty_of_size_eq_zero e)) h.2
 ·exact e
theorem gX {w:ByteArray} (h:w∈ay s):w.size<=s.size:=by
 have key:∀(k:Nat) (s w:ByteArray),w∈Lib.splitB nC 0 k s->w.size<=s.size:=by
  intro k
  induction k with
  |zero=>intro s w h; rw[Lib.splitB_zero]at h; rw[List.mem_singleton.1 h]; exact Nat.le_refl _
  |succ k ih=>
   intro s w h
   unfold Lib.splitB at h
   split at h
   ·rw[List.mem_singleton.1 h]; exact Nat.le_refl _
   ·rcases List.mem_cons.1 h with h|h
    ·rw[h,ByteArray.size_extract]; omega
    ·have:=ih _ _ h
     rw[ByteArray.size_extract]at this
     omega
 exact key _ _ _ h
theorem rK (h:∀k,k<(ay s).length->dx cP ((ay s).getD k ⟨#[]⟩)=true):true=bt s:=by
 refine(decide_eq_true λw hw=>?_).symm
 obtain⟨k,hk,rfl⟩:=List.mem_iff_getElem.1 hw
 have:=h k hk
 rw[List.getD_eq_getElem?_getD,List.getElem?_eq_getElem hk]at this
 exact this
variable {k:Nat}
theorem iH {L:List ByteArray} (hk:k<L.length):L.getD k ⟨#[]⟩∈L:=by
 rw[List.getD_eq_getElem?_getD,List.getElem?_eq_getElem hk]
 exact List.getElem_mem hk
theorem BC (hk:k<(ay s).length) (h:dx cP ((ay s).getD k ⟨#[]⟩)=false):false=bt s:=by
 refine(decide_eq_false λg=>?_).symm
 rw[g _ (iH hk)]at h
 cases h
theorem gK (h:s.size<=1000000):(ay s).length<=1000001:=by
 rw[dw]
 have:=Lib.countB_le nC (by decide) s.size s (Nat.le_refl _)
 omega
theorem uD (hz:s.size<=1000000):K2 Tryz.prog 38 (pT s) (wA Tryz.prog (Gc Tryz.prog φ)) (pB (dx φ s)):=by
 intro M w0 v0 v1 hM hv0 da
 refine fT (N:=21) Tryz.func38 rfl rfl rfl hM hv0 da λa hI=>?_
 refine au hI 1 [Uc 0 4 _] (.kk .z) ⟨mv,trivial⟩ (.aU .z) λa w hI=>?_
 refine ah ?_
 refine au hI 4 [Uc 0 7 _,Uc 1 8 _,Uc 2 9 _,Uc 3 10 _] (.aU .z) ⟨mv,KV,ln,mv,trivial⟩ (.bj (.aU .z)) λa w hI=>?_
 refine aD ?_
 refine qz [] [Uz 0 _,Uz 1 _,Uz 8 _,Uz 9 _] (λ(i:Nat)=>[]) (λ(i:Nat)=>[Uz 10 (pI (i:Int))]) (λ(i:Nat)=>i<=s.size/\∀k,k<i->φ (bz s k)=true) (λ(i:Nat)=>s.size-i) (0) ⟨Nat.zero_le _,λ_ h=>absurd h (Nat.not_lt_zero _)⟩ hI trivial ⟨gi,gi,gi,gi,gc,trivial⟩ ?_
 intro i a w hp hI
 refine au hI 1 [Uc 0 11 _] (.af (.k .z)) ⟨bn,trivial⟩ (.af (.kk .z)) λa w hI=>?_
 refine ah ?_
 refine jv hI (λt1=>?_) (λt1=>?_)
 ·
  refine ak ?_
  refine ae ?_
  refine ah ?_
  refine aD ?_
  refine au hI 3 [Uc 0 12 _,Uc 1 13 _,Uc 2 6 _] (.af (.kk .z)) ⟨ix,ax hs (pt rfl) (by kernel_rfl) (cg (kQ _) rfl rfl),mv,trivial⟩ (.af (.gE (.k .z))) λa w hI=>?_
  refine au hI 4 [Uc 0 14 _,Uc 1 15 _,Uc 2 16 _,Uc 3 17 _] (.af (.kk .z)) ⟨mv,mv,LQ,nt,trivial⟩ (.af (.gE (.dk .z))) λa w hI=>?_
  refine nX hI (λt2=>?_) (λt2=>?_)
  ·
   refine au hI 1 [Uc 0 4 _] (.af (.kk .z)) ⟨mv,trivial⟩ (.af (.nP .z)) λa w hI=>?_
   refine av ?_
   refine aS ?_
   refine aj ?_
   refine aj ?_
   refine aS ?_
   refine aj ?_
   exact bW hI rfl (cm (hq:=cQ (uj (i:=i) (by omega) (by simpa using t2))))
  ·
   refine ak ?_
   refine bk ?_
   refine ae ?_
   refine iP hI 2 [Uc 0 18 _,Uc 1 10 _] (.af (.t 1 (.k .z))) ⟨bn,mv,trivial⟩ (.af (.cf .z)) λa w hI=>?_
   refine ae ?_
   have hst:φ (bz s i)=true:=by simpa using t2
   exact nQ (i+1) ⟨by omega,λk hk=>if e:k=i then by rw[e]; exact hst else hp.2 k (by omega)⟩ hI trivial ⟨gc,gc,gc,gc,gc,trivial⟩ (by omega)
 ·
  refine cj ?_
  refine aC ?_
  refine aC ?_
  refine bf ?_
  refine ae ?_
  refine au hI 3 [Uc 0 19 _,Uc 1 20 _,Uc 2 4 _] (.af (.kk .z)) ⟨mv,bU,mv,trivial⟩ (.d8 (.k .z)) λa w hI=>?_
  refine av ?_
  exact bW hI rfl (cm (hq:=cQ (qH λk hk=>hp.2 k (by omega))))
theorem mL (hz:s.size<=1000000):J1 Tryz.prog 30 (pT s) (pB (bt s)):=by
 intro M w0 v0 hM hG hv0
 have hG:=dP hG
 have lS:=gK hz
 refine fR (N:=16) Tryz.func30 rfl rfl rfl hM hv0 λa hI=>?_
 refine au hI 1 [Uc 0 2 _] (.k .z) ⟨mv,trivial⟩ (.kk .z) λa w hI=>?_
 refine ah ?_
 refine au hI 4 [Uc 0 5 _,Uc 1 6 _,Uc 2 7 _,Uc 3 8 _] (.kk .z) ⟨mv,wU hG iT,ln,mv,trivial⟩ (.vD (.kk .z)) λa w hI=>?_
 refine aD ?_
 refine qz [] [Uz 6 _,Uz 7 _] (λ(i:Nat)=>[]) (λ(i:Nat)=>[Uz 8 (pI (i:Int))]) (λ(i:Nat)=>i<=(ay s).length/\∀k,k<i->dx cP ((ay s).getD k ⟨#[]⟩)=true) (λ(i:Nat)=>(ay s).length-i) (0) ⟨Nat.zero_le _,λ_ h=>absurd h (Nat.not_lt_zero _)⟩ hI trivial ⟨gi,gi,gc,trivial⟩ ?_
 intro i a w hp hI
 refine au hI 1 [Uc 0 9 _] (.aU .z) ⟨bn,trivial⟩ (.af .z) λa w hI=>?_
 refine ah ?_
 refine jv hI (λt1=>?_) (λt1=>?_)
 ·
  refine ak ?_
  refine ae ?_
  refine ah ?_
  refine aD ?_
  refine au hI 3 [Uc 0 10 _,Uc 1 11 _,Uc 2 4 _] (.af .z) ⟨ix,ax hs (pt rfl) (by kernel_rfl) (aE _),mv,trivial⟩ (.bj (.eC .z)) λa w hI=>?_
  refine au hI 3 [Uc 0 12 _,Uc 1 13 _,Uc 2 14 _] (.af .z) ⟨mv,mz (uD (φ:=cP)) (c2:=kU λ_ _=>By trivial) (hφ:=Nat.le_trans (gX (iH (by omega))) hz),nt,trivial⟩ (.bj (.eC .z)) λa w hI=>?_
  refine nX hI (λt2=>?_) (λt2=>?_)
  ·
   refine au hI 1 [Uc 0 2 _] (.af .z) ⟨mv,trivial⟩ (.bj (.k .z)) λa w hI=>?_
   refine av ?_
   refine aS ?_
   refine aj ?_
   refine aj ?_
   refine aS ?_
   refine aj ?_
   exact bW hI rfl (cm (hq:=cQ (BC (k:=i) (by omega) (by simpa using t2))))
  ·
   refine ak ?_
   refine bk ?_
   refine ae ?_
   refine iP hI 2 [Uc 0 15 _,Uc 1 8 _] (.kk (.t 1 (.k .z))) ⟨bn,mv,trivial⟩ (.bK (.dk .z)) λa w hI=>?_
   refine ae ?_
   have hst:dx cP ((ay s).getD i ⟨#[]⟩)=true:=by simpa using t2
   exact nQ (i+1) ⟨by omega,λk hk=>if e:k=i then by rw[e]; exact hst else hp.2 k (by omega)⟩ hI trivial ⟨gc,gc,gc,trivial⟩ (by omega)
 ·
  refine cj ?_
  refine aC ?_
  refine aC ?_
  refine bf ?_
  refine ae ?_
  refine au hI 1 [Uc 0 2 _] (.af .z) ⟨mv,trivial⟩ (.bp (.k .z)) λa w hI=>?_
  refine av ?_
  exact bW hI rfl (cm (hq:=cQ (rK λk hk=>hp.2 k (by omega))))
theorem rI (hz:s.size<=1000000):K1 Tryz.prog 68 (pT s) (pB (cC s)):=by
 intro M w0 v0 hM hv0
 refine fR (N:=10) Tryz.func68 rfl rfl rfl hM hv0 λa hI=>?_
 refine au hI 1 [Uc 0 2 _] (.k .z) ⟨mv,trivial⟩ (.kk .z) λa w hI=>?_
 refine au hI 8 [Uc 0 3 _,Uc 1 4 _,Uc 2 5 _,Uc 3 6 _,Uc 4 7 _,Uc 5 8 _,Uc 6 9 _,Uc 7 2 _] (.k (.t 7 .z)) ⟨mv,gF,bn,mv,gd λh=>cy h,gd λh=>ri h (uD (φ:=gG)) (c2:=kU λ_ _=>BA trivial),pk,mv,trivial⟩ (.d8 (.dk .z)) λa w hI=>?_
 refine av ?_
 exact bW hI rfl cm
theorem uE (hz:s.size<=1000000):K1 Tryz.prog 71 (pT s) (pB (bJ s)):=by
 intro M w0 v0 hM hv0
 refine fR (N:=19) Tryz.func71 rfl rfl rfl hM hv0 λa hI=>?_
 refine au hI 1 [Uc 0 2 _] (.k .z) ⟨mv,trivial⟩ (.kk .z) λa w hI=>?_
 refine au hI 17 [Uc 0 3 _,Uc 1 4 _,Uc 2 5 _,Uc 3 6 _,Uc 4 7 _,Uc 5 8 _,Uc 6 9 _,Uc 7 10 _,Uc 8 11 _,Uc 9 12 _,Uc 10 13 _,Uc 11 14 _,Uc 12 15 _,Uc 13 16 _,Uc 14 17 _,Uc 15 18 _,Uc 16 2 _] (.k (.t 16 .z)) ⟨mv,gF,bn,mv,gd λh=>cy h,gd λh=>ri h (uD (φ:=gA)) (c2:=kU λ_ _=>tr trivial),pk,mv,gd λh=>cy h,gd λh=>D5 h,gd λh=>cy h,sK λh=>cy h,sK λh=>(λ_=>lJ 0 (h:=hg) (hy:=.const _) (hk:=gv (by simp only[Bool.and_eq_true]at h; exact h.1.2)) (hp:=pg h rfl)) h,sK λh=>fS h,gd λh=>GO h,pk,mv,trivial⟩ (.d8 (.d8 (.eC .z))) λa w hI=>?_
 refine av ?_
 exact bW hI rfl cm
end Wx
