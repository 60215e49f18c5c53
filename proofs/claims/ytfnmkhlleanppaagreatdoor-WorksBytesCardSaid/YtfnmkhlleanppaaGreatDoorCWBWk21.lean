import Derived.Test.YtfnmkhlleanppaaGreatDoorJWB31
namespace Wx
set_option maxRecDepth 100000
set_option maxHeartbeats 1000000
open Go Go.RowKit Go.Proofs
set_option linter.unusedVariables false
attribute [local irreducible] OpOk
def su (n:Nat) (f:Nat->ByteArray):Bool:=decide (∀k,k<n->(f k).size<=300)&&decide ((n:Int)<=40)
variable {n:Nat} {f:Nat->ByteArray}
theorem zM {i:Nat} (hi:i<n) (h:((f i).size:Int)>300):false=su n f:=by
 unfold su
 rw[decide_eq_false (p:=∀k,k<n->(f k).size<=300) (λk=>by have:=k i hi; omega),Bool.false_and]
theorem wD (h:∀k,k<n->(f k).size<=300):decide ((n:Int)<=40)=su n f:=by
 unfold su
 rw[decide_eq_true h,Bool.true_and]
abbrev J6 (P:Program) (f:FuncId) (p0 p1 p2 p3 p4 p5 p:Pred):Prop:=∀(M:Nat->Nat->Prop) (w:World) (v0 v1 v2 v3 v4 v5:Value),dm M w->aK M jG w->aK M (λw=>p0 w v0) w->aK M (λw=>p1 w v1) w->aK M (λw=>p2 w v2) w->aK M (λw=>p3 w v3) w->aK M (λw=>p4 w v4) w->aK M (λw=>p5 w v5) w->Calls P f #[v0,v1,v2,v3,v4,v5] w (bX M p w)
section
variable {P:Program} {ops:Array Oper} {ms:List Nat} {c:bJ} {V:List Vr} {A:List Al} {G:List aI} {i d:Nat} {x y z:Operand} {ty t u:TypeId} {pos:String} {au:Array Edge} {m n:Int}
theorem Gw {b1 b2:Bool} (h1:Has ms G i x (pB b1):=by exact hs) (h2:Has ms G i y (pB b2):=by exact hs) (hr:∀w,(Go.binOp .neq t (.bool b1) (.bool b2)).run P w=.ok (.bool (b1 != b2)) w:=by exactλ_=>by kernel_rfl) (hp:Post G i (pB (b1 != b2)):=by exact pt rfl):OpOk P ops ms c V A G i ⟨some d,.binOp .neq t x y u,ty,pos,au,none⟩:=
 oQ (v:=.bool (b1 != b2)) h1 h2 hr hp
theorem Fj (h1:Has ms G i x (pI m):=by exact hs) (h2:Has ms G i y (pI n):=by exact hs) (hp:Post G i (pI (m%n)):=by exact pt rfl) (hr:0<=m/\m<=9223372036854775807/\0<n/\n<=9223372036854775807:=by omega):OpOk P ops ms c V A G i ⟨some d,.binOp .rem t x y u,ty,pos,au,none⟩:=
 cm h1 h2 (v:=.int .i64 (m%n)) (λw=>by
  show(if n=0 then _ else(pure (.int .i64 (m.tmod n)):Sem Value)).run P w=_
  rw[if_neg (by omega),Int.tmod_eq_emod_of_nonneg hr.1]
  rfl) hp
theorem BV {S D:TypeId} (h:Has ms G i x (aJ (.int .u16 m)):=by exact hs) (hm:0<=m/\m<=65535:=by omega) (hr:∀w,(Go.convert S D (.int .u16 m)).run P w=.ok (.int .i64 (IntKind.i64.wrap m)) w:=by exactλ_=>by kernel_rfl) (hp:Post G i (pI m):=by exact pt rfl):OpOk P ops ms c V A G i ⟨some d,.convert S D x,ty,pos,au,none⟩:=
 dU h (λw=>by rw[hr w,IntWalk.i64_in _ (by omega)]) hp
variable {T:TypeId}
theorem Dy (E:TypeId) (ht:eX P T E 1:=by exact⟨by kernel_rfl,λ_=>by kernel_rfl⟩) (jJ:∀w,(zeroValue E).run P w=.ok (.int .i64 0) w:=by exactλ_=>by kernel_rfl) (h1:Has ms G i x (pI m):=by exact hs) (hp:Post G i (ax 1 false 1 λ_=>pI m):=by exact pt rfl):
  OpOk P ops ms c V A G i ⟨some d,.buildSlice T 1 #[(0,x)],ty,pos,au,none⟩:=wo E (.int .i64 0) ht jJ rfl (fits_int _) h1 hp
theorem Fz {tx:TypeId} {m s:Nat} {R r:ByteArray} {xv yv:Vr} (he:∀k,k<r.size->bO R (m+k)=bO r k) (hx:wg ms i s V=some xv:=by exact rfl) (hv:pL i V=some yv:=by exact rfl) (h1:Has ms G i (.tmp s) (ax 1 false m λk=>fD (bO R k)):=by exact hs) (h2:Has ms G i y (fY r):=by exact hs) (hp:Post G i (ax 1 false (m+r.size) λk=>fD (bO R k)):=by exact pt rfl) (bT:xv.kd=.grow m 1:=by exact rfl) (dw:xv.dead=some i:=by exact rfl) (cE:yv.kd=.grow (m+r.size) 1:=by exact rfl) (hT:xv.T=yv.T:=by exact rfl) (hmax:m+r.size<=1073741824:=by omega)
  (ht:tN P T tx yv.T 1=true:=by kernel_rfl) (dL:(V.all λz=>z.dead != some i||z.id==xv.id)=true:=by kernel_rfl) (hal:(A.all λp=>p.var != yv.id||p.tag.any λj=>(ms.getD j 0).testBit i)=true:=by kernel_rfl):OpOk P ops ms c V A G i ⟨some d,.call ⟨.builtin .append,#[.tmp s,y],#[T,tx]⟩,ty,pos,au,none⟩:=by
 obtain⟨⟨k,hk⟩,hb⟩:=dF hv
 obtain⟨⟨k1,sE⟩,jx,ho⟩:=fS hx
 refine jl k1 sE jx ho bT dw k hk hb cE hT rfl dL hal h1 h2 (gj ht) (λ_=>rfl) (λ_ _=>aX (cX _) rfl rfl) (λ_ _=>aX (cX _) rfl rfl) hmax (hp.down (ej λk hk w v h=>?_))
 by_cases hkm:k<m
 ·rwa [if_pos hkm]at h
 ·rw[if_neg hkm]at h
  have e:=he (k-m) (by omega)
  rw[show m+(k-m)=k by omega]at e
  rw[e]
  exact h
end
variable {s:ByteArray}
theorem zA (h:dr s≠0):((decide (dr s=4)||decide (dr s=2))&&decide (((fV s).size:Int)=0)&&true)=true:=by
 rw[mV h]
 rcases wI s with e|e|e
 ·exact absurd e h
 ·rw[e]; rfl
 ·rw[e]; rfl
variable {y:Int}
theorem xH (hy:0<=y/\y<=255):∀w v,ax 1 false 1 (λ_=>fD y) w v->fY ⟨#[byteOf y]⟩ w v:=vH rfl λk hk w v h=>by
 rw[show k=0 by omega,qN,cW,nF,show y%256=y by omega]
 exact h
variable {n:Nat} {f:Nat->ByteArray}
theorem xn (h:n<=9223372036854775807):K1 Tryz.prog 15 (ax 1 false n λk=>pT (f k)) (pB (su n f)):=by
 intro M w0 v0 hM hv0
 refine ie (N:=18) Tryz.func15 rfl rfl rfl hM hv0 λa hI=>?_
 refine aq hI 1 [Uc 0 2 _] (.k .z) ⟨mv,trivial⟩ (.kk .z) λa w hI=>?_
 refine ai ?_
 refine aq hI 3 [Uc 0 5 _,Uc 1 6 _,Uc 2 7 _] (.kk .z) ⟨mv,ln,mv,trivial⟩ (.ae (.k .z)) λa w hI=>?_
 refine aN ?_
 refine tA [] [Uz 0 _,Uz 5 _,Uz 6 _] (λ(i:Nat)=>[]) (λ(i:Nat)=>[Uz 7 (pI (i:Int))]) (λ(i:Nat)=>i<=n/\∀k,k<i->(f k).size<=300) (λ(i:Nat)=>n-i) (0) ⟨Nat.zero_le _,λ_ h=>absurd h (Nat.not_lt_zero _)⟩ hI trivial ⟨gi,gi,gi,gc,trivial⟩ ?_
 intro i a w hp hI
 refine aq hI 1 [Uc 0 8 _] (.ae .z) ⟨bn,trivial⟩ (.ae (.k .z)) λa w hI=>?_
 refine ai ?_
 refine jF hI (λt1=>?_) (λt1=>?_)
 ·
  refine av ?_
  refine af ?_
  refine ai ?_
  refine aN ?_
  refine aq hI 3 [Uc 0 9 _,Uc 1 10 _,Uc 2 4 _] (.ae (.k .z)) ⟨ix,aE hs (pt rfl) (by kernel_rfl) (aW _),mv,trivial⟩ (.ae (.cx .z)) λa w hI=>?_
  refine aq hI 3 [Uc 0 11 _,Uc 1 12 _,Uc 2 13 _] (.ae (.k .z)) ⟨mv,sN,bn,trivial⟩ (.ae (.cx .z)) λa w hI=>?_
  refine jF hI (λt2=>?_) (λt2=>?_)
  ·
   refine aq hI 1 [Uc 0 2 _] (.ae (.k .z)) ⟨mv,trivial⟩ (.ae (.dk .z)) λa w hI=>?_
   refine ay ?_
   refine bp ?_
   refine aB ?_
   refine aB ?_
   refine bp ?_
   refine aB ?_
   exact cn hI rfl (cU (hq:=ee (zM (i:=i) (by omega) t2)))
  ·
   refine av ?_
   refine bG ?_
   refine af ?_
   refine kZ hI 2 [Uc 0 14 _,Uc 1 7 _] (.aR (.t 1 (.k .z))) ⟨bn,mv,trivial⟩ (.bC (.fJ .z)) λa w hI=>?_
   refine af ?_
   exact ry (i+1) ⟨by omega,λk hk=>if e:k=i then by rw[e]; omega else hp.2 k (by omega)⟩ hI trivial ⟨gc,gc,gc,gc,trivial⟩ (by omega)
 ·
  refine cV ?_
  refine aM ?_
  refine aM ?_
  refine bF ?_
  refine af ?_
  refine aq hI 4 [Uc 0 15 _,Uc 1 16 _,Uc 2 17 _,Uc 3 2 _] (.ae (.k .z)) ⟨mv,ln,bn,mv,trivial⟩ (.d8 (.k .z)) λa w hI=>?_
  refine ay ?_
  exact cn hI rfl (cU (hq:=ee (wD λk hk=>hp.2 k (by omega))))
set_option maxHeartbeats 4000000 in
theorem xX {x p c:Int} (hp0:0<=p/\p<=65535) (hy:0<=y/\y<=255) (hc:0<=c/\c<=65535) (hn:n<=9223372036854775807) (DZ:J0 Tryz.prog 7 (pB true)):J6 Tryz.prog 4 (gD x) (pT s) (aJ (.int .u16 p)) (fD y) (ax 1 false n λk=>pT (f k)) (aJ (.int .u16 c)) (pB true):=by
 intro M w0 v0 v1 v2 v3 v4 v5 hM hG hv0 dH hv2 hv3 hv4 Gg
 have hG:=eY hG
 refine EK (N:=167) Tryz.func4 rfl rfl rfl hM hv0 dH hv2 hv3 hv4 Gg λa hI=>?_
 refine aq hI 1 [Uc 0 12 _] (.ae (.kk .z)) ⟨mv,trivial⟩ (.ae (.aR .z)) λa w hI=>?_
 refine ai ?_
 refine aq hI 13 [Uc 0 27 _,Uc 1 28 _,Uc 2 29 _,Uc 3 30 _,Uc 4 31 _,Uc 5 32 _,Uc 6 33 _,Uc 7 34 _,Uc 8 35 _,Uc 9 36 _,Uc 10 37 _,Uc 11 38 _,Uc 12 39 _] (.ae (.aR .z)) ⟨mv,sN,bn,mv,gd λh=>gr h,gd λh=>DU h,gd λh=>nJ h,pk,mv,gd λh=>gr h,gd λh=>Ca h (xn (n:=n) (f:=f)) (hφ:=hn),gd λh=>DV h,pk,trivial⟩ (.ae (.bC (.d8 (.cx .z)))) λa w hI=>?_
 refine xY hI (λt1=>?_) (λt1=>?_)
 ·
  refine aq hI 2 [Uc 0 40 _,Uc 1 12 _] (.ae (.kk (.t 1 (.k .z)))) ⟨DB hG (λ_:True=>DZ),mv,trivial⟩ (.ae (.cj (.dk .z))) λa w hI=>?_
  refine ay ?_
  refine aB ?_
  exact cn hI rfl (cU (hq:=λ_ _ h=>h))
 ·
  have hz:s.size<=300/\n<=6/\∀k,k<n->(f k).size<=300:=by
   simp only[Bool.or_eq_false_iff,decide_eq_false_iff_not,Bool.not_eq_false',su,Bool.and_eq_true,decide_eq_true_eq]at t1
   exact⟨by omega,by omega,t1.2.1⟩
  have hz1:=hz.1
  have hz2:=hz.2.1
  refine av ?_
  refine af ?_
  refine yj [] [Uz 4 _,Uz 5 _,Uz 12 _] hI trivial ⟨gi,gi,gi,trivial⟩ ?_ (λa w hI=>?_)
  ·
   refine aq hI 3 [Uc 0 41 _,Uc 1 42 _,Uc 2 43 _] (.k8 .z) ⟨mv,sN,bn,trivial⟩ (.ae (.bC (.fJ .z))) λa w hI=>?_
   refine jF hI (λt2=>?_) (λt2=>?_)
   ·
    obtain⟨i,hi⟩:∃i:Nat,(i:Int)=p%(s.size:Int):=⟨_,Int.toNat_of_nonneg (Int.emod_nonneg _ (by omega))⟩
    have EY:i<s.size:=by have:=Int.emod_lt_of_pos p (b:=(s.size:Int)) (by omega); omega
    have hi3:0<=p%(s.size:Int):=by omega
    have h1:(s.extract 0 i).size=i:=by rw[ByteArray.size_extract]; omega
    have h2:(⟨#[byteOf y]⟩:ByteArray).size=1:=rfl
    have h3:(s.extract (i+1) s.size).size<=s.size:=by rw[ByteArray.size_extract]; omega
    have h4:(s.extract 0 i++(⟨#[byteOf y]⟩:ByteArray)).size=i+1:=by rw[ByteArray.size_append,h1,h2]
    have h5:=js (y:=y) EY
    refine aq hI 6 [Uc 0 44 _,Uc 1 45 _,Uc 2 46 _,Uc 3 47 _,Uc 4 48 _,Uc 5 13 _] (.k8 .z) ⟨mv,BV,mv,sN,Fj,mv,trivial⟩ (.bM (.bC (.bR (.dk .z)))) λa w hI=>?_
    refine Bl hI [0,0,3,0,8,24,63,0,0,256,896,2047,4095] [Uc 0 49 _,Uc 1 50 _,Uc 2 51 _,Uc 3 52 _,Uc 4 53 _,Uc 5 54 _,Uc 6 55 _,Uc 7 56 _,Uc 8 57 _,Uc 9 58 _,Uc 10 59 _,Uc 11 60 _,Uc 12 14 _] (.ae (.aR .z)) ⟨mv,mv,EA i,mv,BL 5,C9 (s:=⟨#[byteOf y]⟩) (h:=(hs).imp (xH hy)),C7 (hz:=by omega),mv,mv,bn,EB (i+1),C7 (hz:=by omega),mv,trivial⟩ (.bM (.cj (.d8 (.cx .z)))) λa w hI=>?_
    refine aq hI 11 [Uc 0 61 _,Uc 1 62 _,Uc 2 63 _,Uc 3 64 _,Uc 4 65 _,Uc 5 66 _,Uc 6 67 _,Uc 7 68 _,Uc 8 69 _,Uc 9 70 _,Uc 10 71 _] (.ae (.kk .z)) ⟨mv,mv,mN (oF (h:=x) (s:=s)) (hφ:=by omega),mv,mv,mN (oF (h:=x) (s:=gG s i y)) (hφ:=by omega),bn,mv,mv,bU,Gw,trivial⟩ (.sn (.fg (.d8 (.k .z)))) λa w hI=>?_
    refine mB hI (tu hy EY) ?_
    refine av ?_
    refine af ?_
    exact hI.cv trivial ⟨gi,gi,gi,trivial⟩
   ·
    refine av ?_
    refine af ?_
    exact hI.cv trivial ⟨gi,gi,gi,trivial⟩
  ·
   refine cQ hI 1 [⟨15,15,some 0,none,.grow (0) 1,5,3,true,pv az,[]⟩] [] [Uc 0 15 _] .z (.aR .z) ⟨AI (f:=λk=>fD (bO (bS f n) k)),trivial⟩ (.k .z) (.ae .z) λa w hI=>?_
   refine cQ hI 1 [⟨16,16,some 0,none,.grow (0) 1,3,3,true,pv az,[]⟩] [] [Uc 0 16 _] (.k .z) (.ae .z) ⟨AI (f:=λj=>pI (bf f (j+1):Int)),trivial⟩ (.k (.k .z)) (.ae (.k .z)) λa w hI=>?_
   refine ai ?_
   refine cQ hI 3 [] [] [Uc 0 72 _,Uc 1 73 _,Uc 2 74 _] (.k (.k .z)) (.ae (.k .z)) ⟨mv,ln,mv,trivial⟩ (.k (.k .z)) (.k8 .z) λa w hI=>?_
   refine aN ?_
   refine tA [] [Uz 4 _,Uz 5 _,Uz 72 _,Uz 73 _] (λ(q:Nat)=>[Gz 15 15 (bf f (q)) 1 5,Gz 16 16 q 1 3]) (λ(q:Nat)=>[Uz 74 (pI (q:Int)),Uz 15 (ax 1 false (bf f (q)) λk=>fD (bO (bS f n) k)),Uz 16 (ax 1 false (q) λj=>pI (bf f (j+1):Int))]) (λ(q:Nat)=>q<=n/\∀j,j<q->dr (f j)=0) (λ(q:Nat)=>n-q) (0) ⟨Nat.zero_le _,λ_ h=>absurd h (Nat.not_lt_zero _)⟩ hI ⟨vG,vG,trivial⟩ ⟨gi,gi,gi,gi,gc,gc,gc,trivial⟩ ?_
   intro q a w hp hI
   refine cQ hI 1 [] [] [Uc 0 75 _] (.k (.k .z)) (.ae (.aR .z)) ⟨bn,trivial⟩ (.k (.k .z)) (.k8 .z) λa w hI=>?_
   refine ai ?_
   refine jF hI (λt3=>?_) (λt3=>?_)
   ·
    refine av ?_
    refine af ?_
    refine ai ?_
    refine aN ?_
    refine cQ hI 3 [] [] [Uc 0 76 _,Uc 1 77 _,Uc 2 18 _] (.k (.k .z)) (.k8 .z) ⟨ix,aE hs (pt rfl) (by kernel_rfl) (aW _),mv,trivial⟩ (.k (.k .z)) (.ae (.bC (.fJ .z))) λa w hI=>?_
    have hq1:q<n:=by omega
    have hzq:=hz.2.2 q hq1
    have Ge:(f q).size<=1000000:=by omega
    refine cQ hI 7 [] [] [Uc 0 79 _,Uc 1 80 _,Uc 2 78 _,Uc 3 81 _,Uc 4 82 _,Uc 5 19 _,Uc 6 20 _] (.k (.k .z)) (.k8 .z) ⟨mv,wv hG (rq (s:=f q)) (hφ:=Ge),mv,ext,ext,mv,mv,trivial⟩ (.k (.k .z)) (.ae (.bC (.bR (.tC .z)))) λa w hI=>?_
    refine ai ?_
    refine cQ hI 2 [] [] [Uc 0 83 _,Uc 1 84 _] (.k (.k .z)) (.k8 (.k .z)) ⟨mv,bn,trivial⟩ (.k (.k .z)) (.k8 (.lf .z)) λa w hI=>?_
    refine jF hI (λt4=>?_) (λt4=>?_)
    ·
     refine cQ hI 15 [] [] [Uc 0 85 _,Uc 1 86 _,Uc 2 87 _,Uc 3 88 _,Uc 4 89 _,Uc 5 90 _,Uc 6 91 _,Uc 7 92 _,Uc 8 93 _,Uc 9 94 _,Uc 10 95 _,Uc 11 96 _,Uc 12 97 _,Uc 13 98 _,Uc 14 12 _] (.k (.k .z)) (.k8 (.kk .z)) ⟨mv,bn,mv,gd λh=>gr h,gd λh=>nJ h,pk,mv,gd λh=>gr h,gd λh=>DU h,gd λh=>nJ h,pk,mv,gd λh=>DB hG (λ_:True=>DZ) (hp:=pg h rfl),pk,mv,trivial⟩ (.k (.k .z)) (.k8 (.d8 (.d8 (.k .z)))) λa w hI=>?_
     refine ay ?_
     refine aB ?_
     refine bp ?_
     refine aB ?_
     refine aB ?_
     refine bp ?_
     refine aB ?_
     exact cn hI rfl (cU (hq:=ee (zA t4)))
    ·
     refine av ?_
     refine af ?_
     have EV:dr (f q)=0:=Decidable.not_not.1 t4
     have hsz:=cI EV
     have hmx:=qU hp.2
     refine lM hI 4 3 [⟨99,99,some 0,some 2,.grow (bf f (q)) 1,5,3,true,pv az,[]⟩,⟨101,101,some 2,none,.grow (bf f (q)+(fV (f q)).size) 1,5,3,true,pv az,[]⟩] [] [Uc 0 99 _,Uc 1 100 _,Uc 2 101 _] (.u (some 0) [] (.k .z)) (.k8 (.kk .z)) ⟨Bw,mv,Fz (R:=bS f n) (r:=fV (f q)) (λk hk=>mW f hq1 hk) (hmax:=by omega),trivial⟩ (.d (.k (.d (.k .z)))) (.ae (.sJ (.bR (.k .z)))) (⟨_,bh [⟨15,15,some 0,none,.grow (bf f (q)+(fV (f q)).size) 1,5,3,true,pv az,[]⟩] [] [Uc 0 15 _] (.k (.u (some 0) [] .z)) (.ae (.aR .z)) (zz) (.k (.d (.k .z))) (.ae (.bM .z)),rfl⟩) λa w hI=>?_
     refine Dn hI 6 5 [⟨102,102,some 0,some 4,.grow (q) 1,3,3,true,pv az,[]⟩,⟨106,106,some 4,none,.grow (q+1) 1,3,3,true,pv az,[]⟩] [] [Uc 0 102 _,Uc 1 103 _,Uc 2 104 _,Uc 3 105 _,Uc 4 106 _] (.u (some 0) [] (.k .z)) (.ae (.aR .z)) ⟨Bw,mv,ln,Dy 3,EM (f:=λj=>pI (bf f (j+1):Int)) (λ_=>fits_int _) (fits_int _) (λw v h=>by rw[bY,Int.natCast_add]; exact h) (hmax:=by omega),trivial⟩ (.d (.k (.d (.k .z)))) (.ae (.sJ (.cx .z))) (⟨_,bh [⟨16,16,some 0,none,.grow (q+1) 1,3,3,true,pv az,[]⟩] [] [Uc 0 16 _] (.k (.u (some 0) [] .z)) (.ae (.aR .z)) (zz) (.k (.d (.k .z))) (.ae (.bM .z)),rfl⟩) λa w hI=>?_
     refine bG ?_
     refine af ?_
     refine yc hI 2 [] [] [Uc 0 107 _,Uc 1 74 _] (.k (.k .z)) (.ae (.t 1 (.kk .z))) ⟨bn,mv,trivial⟩ (.k (.k .z)) (.ae (.mQ (.k .z))) λa w hI=>?_
     refine af ?_
     rw[<-bY]at hI
     exact ry (q+1) ⟨by omega,λj hj=>if e:j=q then by rw[e]; exact EV else hp.2 j (by omega)⟩ hI ⟨vG,vG,trivial⟩ ⟨gc,gc,gc,gc,gc,gc,gc,trivial⟩ (by omega)
   ·
    refine cV ?_
    refine aM ?_
    refine aM ?_
    refine bF ?_
    refine af ?_
    have Gb:n=q:=by omega
    subst Gb
    have hok:=hp.2
    have hmx:=qU hok
    refine cQ hI 7 [] [] [Uc 0 108 _,Uc 1 109 _,Uc 2 110 _,Uc 3 111 _,Uc 4 112 _,Uc 5 113 _,Uc 6 21 _] (.k (.k .z)) (.k8 .z) ⟨mv,BV,mv,ln,bn,Fj,mv,trivial⟩ (.k (.k .z)) (.fg (.mQ (.bR (.fJ .z)))) λa w hI=>?_
    obtain⟨k,hk⟩:∃k:Nat,(k:Int)=c%((bf f n:Int)+1):=⟨_,Int.toNat_of_nonneg (Int.emod_nonneg _ (by omega))⟩
    rw[<-hk]at hI
    have hk2:k<=bf f n:=by have:=Int.emod_lt_of_pos c (b:=((bf f n:Int)+1)) (by omega); omega
    have hes:(bS f n).size=bf f n:=rfl
    have hbz:((bS f n).extract 0 k).size<=1000000:=by rw[iw hk2]; omega
    have hC:=Bi hok hk2
    have hO:=vT hok hk2 (Nat.le_refl _)
    refine cQ hI 9 [] [] [Uc 0 115 _,Uc 1 116 _,Uc 2 117 _,Uc 3 118 _,Uc 4 114 _,Uc 5 119 _,Uc 6 120 _,Uc 7 22 _,Uc 8 23 _] (.k (.k .z)) (.ae .z) ⟨mv,mv,bH k,wv hG (Ao (b:=((bS f n).extract 0 k))) (hφ:=hbz),mv,ext,ext,mv,mv,trivial⟩ (.d (.k .z)) (.oB (.bR (.cx (.k .z)))) λa w hI=>?_
    refine cQ hI 1 [] [] [Uc 0 24 _] (.k .z) (.ae (.k .z)) ⟨mv,trivial⟩ (.k .z) (.ae (.kk .z)) λa w hI=>?_
    refine ai ?_
    refine cQ hI 3 [] [] [Uc 0 121 _,Uc 1 122 _,Uc 2 123 _] (.k .z) (.ae (.kk .z)) ⟨mv,ln,mv,trivial⟩ (.k .z) (.k8 (.k .z)) λa w hI=>?_
    refine aN ?_
    refine tA [Gz 16 16 _ 1 3] [Uz 4 _,Uz 16 _,Uz 21 _,Uz 22 _,Uz 23 _,Uz 121 _,Uz 122 _] (λ(j:Nat)=>[]) (λ(j:Nat)=>[Uz 123 (pI (j:Int)),Uz 24 (pI (lj f k (j):Int))]) (λ(j:Nat)=>j<=n) (λ(j:Nat)=>n-j) (0) (Nat.zero_le _) hI ⟨vG,trivial⟩ ⟨gi,gi,gi,gi,gi,gi,gi,gc,gc,trivial⟩ ?_
    intro j a w hj hI
    refine cQ hI 1 [] [] [Uc 0 124 _] (.k .z) (.k8 (.k .z)) ⟨bn,trivial⟩ (.k .z) (.k8 (.kk .z)) λa w hI=>?_
    refine ai ?_
    refine jF hI (λt5=>?_) (λt5=>?_)
    ·
     refine av ?_
     refine af ?_
     refine ai ?_
     refine aN ?_
     refine cQ hI 5 [] [] [Uc 0 125 _,Uc 1 126 _,Uc 2 127 _,Uc 3 25 _,Uc 4 26 _] (.k .z) (.k8 (.kk .z)) ⟨mv,ix,aE hs (pt rfl) (by kernel_rfl) (fits_int _),mv,mv,trivial⟩ (.k .z) (.k8 (.fg (.tC .z))) λa w hI=>?_
     refine cQ hI 3 [] [] [Uc 0 128 _,Uc 1 129 _,Uc 2 130 _] (.k .z) (.k8 (.aR .z)) ⟨mv,mv,bn,trivial⟩ (.k .z) (.k8 (.cj (.dk .z))) λa w hI=>?_
     refine jF hI (λt6=>?_) (λt6=>?_)
     ·
      have hw:lj f k (j+1)=j+1:=if_pos (by omega)
      refine yc hI 3 [] [] [Uc 0 131 _,Uc 1 132 _,Uc 2 24 _] (.k .z) (.k8 (.t 2 (.kk .z))) ⟨mv,bn,mv,trivial⟩ (.k .z) (.k8 (.bR (.dk .z))) λa w hI=>?_
      refine bG ?_
      refine af ?_
      refine yc hI 2 [] [] [Uc 0 133 _,Uc 1 123 _] (.k .z) (.ae (.aR (.t 1 (.k .z)))) ⟨bn,mv,trivial⟩ (.k .z) (.ae (.bC (.lf .z))) λa w hI=>?_
      refine af ?_
      exact ry (j+1) (by omega) hI ⟨vG,trivial⟩ ⟨gc,gc,gc,gc,gc,gc,gc,gc,gC (bV (by rw[hw]<;>omega)),trivial⟩ (by omega)
     ·
      have hw:lj f k (j+1)=lj f k j:=if_neg (by omega)
      refine av ?_
      refine bG ?_
      refine af ?_
      refine yc hI 2 [] [] [Uc 0 133 _,Uc 1 123 _] (.k .z) (.ae (.aR (.t 1 (.aR .z)))) ⟨bn,mv,trivial⟩ (.k .z) (.ae (.bC (.fg (.k .z)))) λa w hI=>?_
      refine af ?_
      exact ry (j+1) (by omega) hI ⟨vG,trivial⟩ ⟨gc,gc,gc,gc,gc,gc,gc,gc,gC (bV (by rw[hw]<;>omega)),trivial⟩ (by omega)
    ·
     refine cV ?_
     refine aM ?_
     refine aM ?_
     refine bF ?_
     refine af ?_
     refine ai ?_
     have F5:n=j:=by omega
     subst F5
     have hW:=jt f k n
     have hS:jD (pY ((bS f n).extract 0 k)) (lj f k n) (λq=>er ((bS f n).extract 0 k) (cK ((bS f n).extract 0 k) q)) f=true:=(pq (by rw[hC]; simp) λi hi=>ya hok hk2 (hC▸hi)).symm
     refine cQ hI 25 [] [] [Uc 0 134 _,Uc 1 135 _,Uc 2 136 _,Uc 3 137 _,Uc 4 138 _,Uc 5 139 _,Uc 6 140 _,Uc 7 141 _,Uc 8 142 _,Uc 9 143 _,Uc 10 144 _,Uc 11 145 _,Uc 12 146 _,Uc 13 147 _,Uc 14 148 _,Uc 15 149 _,Uc 16 150 _,Uc 17 151 _,Uc 18 152 _,Uc 19 153 _,Uc 20 154 _,Uc 21 155 _,Uc 22 156 _,Uc 23 157 _,Uc 24 158 _] (.k .z) (.k8 (.kk .z)) ⟨mv,ln,mv,bn,mv,gd λh=>gr h,gd λh=>nJ h,gd λh=>gr h,tD λh=>gr h,tD λh=>gr h,tD λh=>gr h,tD λh=>nJ h,tD λh=>aZ (lj f k n-1) hg ((hg).imp (bV (by have:=of_decide_eq_true h.2; omega))) rfl (pg h rfl) (by have:=of_decide_eq_true h.2; omega) (by kernel_rfl) (by kernel_rfl),tD λh=>FM h,tD λh=>nJ h,gd λh=>DW h,pk,mv,gd λh=>gr h,gd λh=>nJ h,gd λh=>gr h,tD λh=>gr h,tD λh=>nJ h,gd λh=>DW h,pk,trivial⟩ (.d .z) (.jK (.bR (.fg (.d8 (.d8 (.bR (.fJ .z))))))) λa w hI=>?_
     refine xY hI (λt7=>?_) (λt7=>?_)
     ·exfalso; exact absurd t7 (by simp[hC,hO]; exact⟨λh=>by rw[show lj f k n-1+1=lj f k n by omega],λh=>by rw[h]; rfl⟩)
     refine av ?_
     refine af ?_
     refine aq hI 9 [Uc 0 159 _,Uc 1 160 _,Uc 2 161 _,Uc 3 162 _,Uc 4 163 _,Uc 5 164 _,Uc 6 165 _,Uc 7 166 _,Uc 8 12 _] (.ae .z) ⟨mv,mv,mv,GH (lj f k n),mN (AA (n:=pY ((bS f n).extract 0 k)) (m:=lj f k n) (f:=λq=>er ((bS f n).extract 0 k) (cK ((bS f n).extract 0 k) q)) (g:=f)) (hφ:=by omega),mv,gd λh=>DB hG (λ_:True=>DZ) (hp:=pg h rfl),pk,mv,trivial⟩ (.d8 (.bR (.k .z))) λa w hI=>?_
     refine ay ?_
     exact cn hI rfl (cU (hq:=ee (by rw[hS]; rfl)))
end Wx
