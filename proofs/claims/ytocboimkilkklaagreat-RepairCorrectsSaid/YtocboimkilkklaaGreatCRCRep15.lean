import Derived.Test.YtocboimkilkklaaGreatJRC46
namespace Wx
set_option maxRecDepth 100000
set_option maxHeartbeats 1000000
open Go Go.RowKit Go.Proofs
set_option linter.unusedVariables false
attribute [local irreducible] OpOk
def mo (ms:Nat->List Rat) (i:Nat):Rat:=(ms i).getD 0 0
def pa (ms:Nat->List Rat) (i:Nat):Rat:=(ms i).getD 1 0
def sB (ms:Nat->List Rat):Nat->Rat
 |0=>0
 |k+1=>sB ms k+mo ms k*pa ms k
def sS (ms:Nat->List Rat):Nat->Rat
 |0=>0
 |k+1=>sS ms k+mo ms k*mo ms k
def gH (ms:Nat->List Rat) (k:Nat) (p:Rat×Rat):Rat×Rat:=if k=0 then(pa ms k/mo ms k,pa ms k/mo ms k)else p
def iy (ms:Nat->List Rat):Nat->Rat×Rat
 |0=>(0,0)
 |k+1=>(jl (gH ms k (iy ms k)).1 (gH ms k (iy ms k)).2 (pa ms k/mo ms k) (pa ms k/mo ms k),jj (gH ms k (iy ms k)).1 (gH ms k (iy ms k)).2 (pa ms k/mo ms k) (pa ms k/mo ms k))
def kD (ms:Nat->List Rat) (i:Nat):Bool:=decide (cP (mo ms i)<=0)||decide (cP (pa ms i)<=0)
def wE (n:Nat) (ms:Nat->List Rat):Int:=if(decide ((n:Int)<1)||decide ((n:Int)>16))=true then 4 else if ∀i,i<n->kD ms i=false then 0 else 1
def Gr (n:Nat) (ms:Nat->List Rat):Rat:=if wE n ms=0 then sB ms n/sS ms n else 0
def vD (n:Nat) (ms:Nat->List Rat):List Rat:=if wE n ms=0 then[(iy ms n).1,(iy ms n).2]else[0,0]
structure Kc (n:Nat) (ms:Nat->List Rat):Prop where
 len:n<=1000
 el:∀i,i<n->(ms i).length=2
 bd:∀i,i<n->bB 64 (mo ms i)/\bB 64 (pa ms i)
section
variable {n:Nat} {ms:Nat->List Rat}
theorem Be (h:Kc n ms):∀k,k<=n->bB (129*k+1) (sB ms k)/\bB (129*k+1) (sS ms k)
 |0,_=>⟨Dk.mono (by omega),Dk.mono (by omega)⟩
 |k+1,hk=>by
  obtain⟨h1,h2⟩:=Be h k (by omega)
  obtain⟨b1,b2⟩:=h.bd k (by omega)
  exact⟨(h1.Kf (b1.mul b2)).mono (by omega),(h2.Kf (b1.mul b1)).mono (by omega)⟩
theorem P8 (t:(decide ((n:Int)<1)||decide ((n:Int)>16))=true):wE n ms=4:=by unfold wE; rw[if_pos t]
variable {i:Nat}
theorem P7 (t:(decide ((n:Int)<1)||decide ((n:Int)>16))=false) (hi:i<n) (hs:kD ms i=true):wE n ms=1:=by
 unfold wE
 rw[if_neg (by rw[t]; exact Bool.false_ne_true),if_neg λh=>by rw[h i hi]at hs; cases hs]
theorem P6 (t:(decide ((n:Int)<1)||decide ((n:Int)>16))=false) (h:∀i,i<n->kD ms i=false):wE n ms=0:=by
 unfold wE
 rw[if_neg (by rw[t]; exact Bool.false_ne_true),if_pos h]
variable {e:Int}
theorem BO (h:wE n ms=e) (he:e≠0):0=Gr n ms:=by unfold Gr; rw[if_neg (by rw[h]; exact he)]
theorem BP (h:wE n ms=e) (he:e≠0):[0,0]=vD n ms:=by unfold vD; rw[if_neg (by rw[h]; exact he)]
theorem xW (h:wE n ms=0):sB ms n/sS ms n=Gr n ms:=by unfold Gr; rw[if_pos h]
theorem xZ (h:wE n ms=0):[(iy ms n).1,(iy ms n).2]=vD n ms:=by unfold vD; rw[if_pos h]
theorem uL (h:i=0):[jl (pa ms i/mo ms i) (pa ms i/mo ms i) (pa ms i/mo ms i) (pa ms i/mo ms i),jj (pa ms i/mo ms i) (pa ms i/mo ms i) (pa ms i/mo ms i) (pa ms i/mo ms i)]=[(iy ms (i+1)).1,(iy ms (i+1)).2]:=by
 show _=[jl (gH ms i _).1 (gH ms i _).2 _ _,jj (gH ms i _).1 (gH ms i _).2 _ _]
 unfold gH
 rw[if_pos h]
theorem yS (h:¬i=0):[jl (iy ms i).1 (iy ms i).2 (pa ms i/mo ms i) (pa ms i/mo ms i),jj (iy ms i).1 (iy ms i).2 (pa ms i/mo ms i) (pa ms i/mo ms i)]=[(iy ms (i+1)).1,(iy ms (i+1)).2]:=by
 show _=[jl (gH ms i _).1 (gH ms i _).2 _ _,jj (gH ms i _).1 (gH ms i _).2 _ _]
 unfold gH
 rw[if_neg h]
end
theorem Vt {F:Rat->Pred} {j:Nat} {x:Rat}:∀w v,pV F j [x] w v->pQ F j x w v:=λw v ⟨cs,e,h1,h2,h3⟩=>by
 have h3:cs.drop 3=[]:=h3
 have:cs.take 3=cs:=by
  have k:=List.take_append_drop 3 cs
  rw[h3,List.append_nil]at k
  exact k
 have h2:pQ F j x w (.agg (cs.take 3).toArray):=h2
 rw[this]at h2
 rw[e]
 exact h2
variable {P:Program} {ops:Array Oper} {ms:List Nat} {c:dS} {V:List Vr} {A:List Al} {G:List bf} {i d:Nat} {ty:TypeId} {pos:String} {aJ:Array Edge}
theorem Tu {T:TypeId} (J:Nat) (hJ:1<=J:=by omega) (hp:Post G i (pR J 0):=by exact pt rfl) (hr:P.built T []=some ((List.replicate 1 Zl.r).flatMap Zl.cs).toArray:=by kernel_rfl):OpOk P ops ms c V A G i ⟨some d,.build T #[],ty,pos,aJ,none⟩:=Tv J 1 hJ (hp.down Vt) hr
theorem X1 {x:Operand} {φ:Prop} (hφ:φ) {S f sz:Nat} {F:Rat->Pred} {j:Nat} {l:List Rat} (q:Nat) (h:Has ms G i x (dU sz true (pV F j l)):=by exact hg) (hl:q<l.length:=by omega) (hle:q*3+3<=sz:=by decide) (hp:Post G i (dU 3 true (pQ F j (l.getD q 0))):=by exact pg (by assumption) rfl) (hf:∀b o w,(Instr.fieldAt S (.pointer (some ⟨b,o,none⟩)) f).run P w=.ok (.pointer (some ⟨b,o+q*3,none⟩)) w:=by exactλ_ _ _=>by kernel_rfl)
  (hA:(A.all λq=>q.tag != some i)=true:=by kernel_rfl):OpOk P ops ms c V A G i ⟨some d,.fieldAddr S x f,ty,pos,aJ,none⟩:=fQ q h hl hle hp hf hA
def pZ (k:Nat) (p:Pred):Pred:=λw v=>0<k->p w v
theorem Fp {n:Nat} {ms:Nat->List Rat} (h:Kc n ms):K1 Tryz.prog 8 (bR 6 true n λi=>pV aD 64 (ms i)) (uC (pQ aD 4130 (Gr n ms)) (pV aD 128 (vD n ms)) (pI (wE n ms))):=by
 intro M w0 v0 hM hv0
 have h1:=h.len
 refine Bu (N:=71) Tryz.func8 rfl rfl rfl hM hv0 λa hI=>?_
 refine bZ hI 3 [⟨2,2,some 0,none,.ptr,32,3,true,pv _,[]⟩,⟨3,3,some 1,none,.ptr,43,6,true,pv _,[]⟩] [] [Uc 2 4 _] .z (.k .z) ⟨me [.r],me [.r,.r],mv,trivial⟩ (.k (.k .z)) (.kk .z) λa w hI=>?_
 refine aC ?_
 refine bZ hI 8 [] [] [Uc 0 11 _,Uc 1 12 _,Uc 2 13 _,Uc 3 14 _,Uc 4 15 _,Uc 5 16 _,Uc 6 17 _,Uc 7 18 _] (.k (.k .z)) (.kk .z) ⟨mv,ln,bn,mv,gd λh=>yn h,gd λh=>Ss h,gd λh=>Ad h,pk,trivial⟩ (.k (.k .z)) (.eT (.dO (.dk .z))) λa w hI=>?_
 refine Ez hI (λt1=>?_) (λt1=>?_)
 ·
  have e1:=P8 (ms:=ms) t1
  refine bZ hI 5 [] [] [Uc 0 19 _,Uc 1 20 _,Uc 4 4 _] (.u none [(2,pv _)] (.u none [(3,pv _)] .z)) (.k (.t 4 (.k .z))) ⟨Tu 1,Tv 1 2,gD,gD,mv,trivial⟩ (.s .o (.s .o .z)) (.jy (.dk .z)) λa w hI=>?_
  refine aV ?_
  refine aO ?_
  exact BZ hI rfl (rK (hq:=lX (BO e1 (by decide)) (by decide))) (rK (hq:=jM (BP e1 (by decide)) (by decide))) (mb (hq:=dB e1.symm))
 ·
  have hn:n<=16:=by
   simp only[Bool.or_eq_false_iff,decide_eq_false_iff_not]at t1
   omega
  refine aM ?_
  refine af ?_
  refine bZ hI 2 [⟨5,5,some 0,none,.ptr,32,3,true,pv _,[]⟩,⟨6,6,some 1,none,.ptr,32,3,true,pv _,[]⟩] [] [] (.k (.k .z)) (.dF .z) ⟨me [.r],me [.r],trivial⟩ (.k (.k (.k (.k .z)))) (.Xb .z) λa w hI=>?_
  refine bZ hI 1 [⟨7,7,some 0,none,.ptr,43,6,true,pv _,[]⟩] [] [] (.k (.k (.k (.k .z)))) (.kk .z) ⟨RI 128 2,trivial⟩ (.k (.k (.k (.k (.k .z))))) (.kk .z) λa w hI=>?_
  refine aC ?_
  refine bZ hI 3 [] [] [Uc 0 21 _,Uc 1 22 _,Uc 2 23 _] (.k (.k (.k (.k (.k .z))))) (.kk .z) ⟨mv,ln,mv,trivial⟩ (.k (.k (.k (.k (.k .z))))) (.EZ (.k .z)) λa w hI=>?_
  refine aT ?_
  refine C5 [Vz 2 2 32 3 true _,Vz 3 3 43 6 true _] [Uz 21 _,Uz 22 _] (λ(i:Nat)=>[Vz 5 5 32 3 true (pR 2065 (sB ms i)),Vz 6 6 32 3 true (pR 2065 (sS ms i)),Vz 7 7 43 6 true (pV aD 128 [(iy ms i).1,(iy ms i).2])]) (λ(i:Nat)=>[Uz 23 (pI (i:Int))]) (λ(i:Nat)=>i<=n/\∀q,q<i->kD ms q=false) (λ(i:Nat)=>n-i) (0) ⟨Nat.zero_le _,λq hq=>absurd hq (Nat.not_lt_zero _)⟩ hI ⟨vi,vi,vC (λw v h=>uz (show 1<=2065 by decide) w v (Vt w v h)),vC (λw v h=>uz (show 1<=2065 by decide) w v (Vt w v h)),vC (λ_ _ h=>h),trivial⟩ ⟨gi,gi,gc,trivial⟩ ?_
  intro i a w hi hI
  refine bZ hI 1 [] [] [Uc 0 24 _] (.k (.k (.k (.k (.k .z))))) (.dF .z) ⟨bn,trivial⟩ (.k (.k (.k (.k (.k .z))))) (.aA .z) λa w hI=>?_
  refine aC ?_
  refine nX hI (λt2=>?_) (λt2=>?_)
  ·
   refine aM ?_
   refine af ?_
   refine aC ?_
   refine aT ?_
   have hl2:=h.el i (by omega)
   have hb0:bB 2065 (sB ms i+mo ms i*pa ms i):=(Be h (i+1) (by omega)).1.mono (by omega)
   have hb1:bB 2065 (sS ms i+mo ms i*mo ms i):=(Be h (i+1) (by omega)).2.mono (by omega)
   refine bZ hI 6 [⟨9,9,some 3,none,.ptr,35,6,true,pv _,[(5,pv _)]⟩] [] [Uc 0 25 _,Uc 1 26 _,Uc 2 27 _,Uc 4 8 _] (.k (.k (.k (.k (.k .z))))) (.aA .z) ⟨mv,ix,ld,me [.r,.r],mv,gD,trivial⟩ (.k (.k (.k (.k (.k (.s .o .z)))))) (.iE (.iB .z)) λa w hI=>?_
   refine aC ?_
   refine bZ hI 10 [] [⟨some 0,28,9,0,True⟩,⟨some 5,33,9,3,_⟩] [Uc 1 29 _,Uc 2 30 _,Uc 3 31 _,Uc 4 32 _,Uc 6 34 _,Uc 7 35 _,Uc 8 36 _,Uc 9 37 _] (.k (.k (.k (.k (.k (.k .z)))))) (.aA .z) ⟨fa,lV 0,su xO,bn,mv,gd λh=>KI h,gd λh=>lV 1 (hcd:=h) (hp:=pg h rfl),gd λh=>Ht h xO,gd λh=>Ad h,pk,trivial⟩ (.k (.k (.k (.k (.k (.k .z)))))) (.aA (.dO (.iB .z))) λa w hI=>?_
   refine Ez hI (λt3=>?_) (λt3=>?_)
   ·
    have e1:=P7 t1 (by omega) (show kD ms i=true from t3)
    refine bZ hI 5 [] [] [Uc 0 38 _,Uc 1 39 _,Uc 4 4 _] (.u none [(2,pv _)] (.u none [(3,pv _)] (.k (.k (.k (.k .z)))))) (.aA (.k .z)) ⟨Tu 1,Tv 1 2,gD,gD,mv,trivial⟩ (.s .o (.s .o (.k (.k (.k (.k .z)))))) (.aA (.iB .z)) λa w hI=>?_
    refine aV ?_
    refine aO ?_
    refine bT ?_
    refine aO ?_
    refine aO ?_
    refine bT ?_
    refine aO ?_
    exact BZ hI rfl (rK (hq:=lX (BO e1 (by decide)) (by decide))) (rK (hq:=jM (BP e1 (by decide)) (by decide))) (mb (hq:=dB e1.symm))
   ·
    have hst:kD ms i=false:=t3
    refine aM ?_
    refine af ?_
    refine EB hI [0,0,2,0,8,30,63,0,0,256,0,1024,3967,8191,16383,32767] [] [⟨some 1,41,9,0,True⟩,⟨some 3,43,9,3,True⟩,⟨some 8,48,9,0,True⟩,⟨some 10,50,9,0,True⟩] [Uc 0 40 _,Uc 2 42 _,Uc 4 44 _,Uc 5 45 _,Uc 6 46 _,Uc 7 47 _,Uc 9 49 _,Uc 11 51 _,Uc 12 52 _,Uc 13 53 _] (.k (.k (.u none [(14,pv _)] (.u none [(15,pv _)] (.k (.k .z)))))) (.aA (.k .z)) ⟨MU,fa,lV 0,fa,lV 1,By Dg,By (sZ hb0),MU,fa,lV 0,fa,lV 0,By Dg,By (sZ hb1),gD,gD,trivial⟩ (.k (.k (.s .o (.s .o (.k (.k .z)))))) (.aA (.d8 (.Kz .z))) λa w hI=>?_
    refine bZ hI 8 [⟨10,10,some 6,none,.ptr,43,6,true,pv _,[(7,pv _)]⟩] [⟨some 0,54,9,3,True⟩,⟨some 2,56,9,0,True⟩] [Uc 1 55 _,Uc 3 57 _,Uc 4 58 _,Uc 5 59 _] (.k (.k (.k (.k (.k (.k .z)))))) (.aA .z) ⟨fa,lV 1,fa,lV 0,zg uF,Dq OH,me [.r,.r],gD,trivial⟩ (.k (.k (.k (.k (.k (.d (.s .o .z))))))) (.aA (.dO .z)) λa w hI=>?_
    refine aC ?_
    refine bZ hI 2 [] [] [Uc 0 60 _,Uc 1 61 _] (.k (.k (.k (.k (.k (.k .z)))))) (.aA .z) ⟨mv,bn,trivial⟩ (.k (.k (.k (.k (.k (.k .z)))))) (.iE (.dk .z)) λa w hI=>?_
    refine nX hI (λt4=>?_) (λt4=>?_)
    ·
     refine ve hI 2 [] [] [Uc 0 62 _] (.k (.k (.k (.k (.u none [(1,pv _)] (.k .z)))))) (.aA .z) ⟨ld,gD,trivial⟩ (.k (.k (.k (.k (.s .o (.k .z)))))) (.iE (.d .z)) λa w hI=>?_
     refine af ?_
     refine ve hI 4 [] [] [Uc 0 63 _,Uc 1 64 _,Uc 2 65 _] (.k (.k (.k (.k (.u none [(3,pv _)] (.k .z)))))) (.dF .z) ⟨MU,ld,zg Iq,gD,trivial⟩ (.k (.k (.k (.k (.s .o (.d .z)))))) (.iE (.dd .z)) λa w hI=>?_
     refine bz ?_
     refine af ?_
     refine ve hI 2 [] [] [Uc 0 66 _,Uc 1 23 _] (.k (.k (.k (.k (.k .z))))) (.kk (.t 1 .z)) ⟨bn,mv,trivial⟩ (.k (.k (.k (.k (.k .z))))) (.eT (.k .z)) λa w hI=>?_
     refine af ?_
     exact AE (i+1) ⟨by omega,λq hq=>if e:q=i then by rw[e]; exact hst else hi.2 q (by omega)⟩ hI ⟨vc,vc,vc,vc,vC (jM (by first|exact uL (by omega)|exact yS (by omega)) (Nat.le_refl 128)),trivial⟩ ⟨gc,gc,gc,trivial⟩ (by omega)
    ·
     refine aM ?_
     refine af ?_
     refine ve hI 4 [] [] [Uc 0 63 _,Uc 1 64 _,Uc 2 65 _] (.k (.k (.k (.k (.u none [(3,pv _)] (.k .z)))))) (.aA .z) ⟨MU,ld,zg Iq,gD,trivial⟩ (.k (.k (.k (.k (.s .o (.d .z)))))) (.iE (.Kz .z)) λa w hI=>?_
     refine bz ?_
     refine af ?_
     refine ve hI 2 [] [] [Uc 0 66 _,Uc 1 23 _] (.k (.k (.k (.k (.k .z))))) (.kk (.t 1 .z)) ⟨bn,mv,trivial⟩ (.k (.k (.k (.k (.k .z))))) (.eT (.k .z)) λa w hI=>?_
     refine af ?_
     exact AE (i+1) ⟨by omega,λq hq=>if e:q=i then by rw[e]; exact hst else hi.2 q (by omega)⟩ hI ⟨vc,vc,vc,vc,vC (jM (by first|exact uL (by omega)|exact yS (by omega)) (Nat.le_refl 128)),trivial⟩ ⟨gc,gc,gc,trivial⟩ (by omega)
  ·
   refine eJ ?_
   refine aL ?_
   refine aL ?_
   refine bM ?_
   refine af ?_
   obtain rfl:i=n:=by omega
   have e1:=P6 t1 hi.2
   refine EB hI [0,0,3,0,7,31,63] [] [] [Uc 0 67 _,Uc 1 68 _,Uc 2 69 _,Uc 3 70 _,Uc 6 4 _] (.u none [(4,pv _)] (.u none [(5,pv _)] (.k (.k (.k .z))))) (.aA .z) ⟨ld,ld,zg uF,ld,gD,gD,mv,trivial⟩ (.s .o (.s .o (.d (.d (.d .z))))) (.d8 (.k .z)) λa w hI=>?_
   refine aV ?_
   exact BZ hI rfl (rK (hq:=lX (xW e1) (by decide))) (rK (hq:=jM (xZ e1) (by decide))) (mb (hq:=dB e1.symm))
variable {a b:Rat}
theorem MQ {c d:Rat} (h:a<=b) (g:c<=d):min2 a c=jl a b c d:=by
 rw[<-RF]
 have h1:=lG a b
 have h2:=lG c d
 have m1:=jk a b
 have m2:=jk c d
 have e1:min2 a b=a:=by grind
 have e2:min2 c d=c:=by grind
 rw[e1,e2]
theorem MP {c d:Rat} (h:a<=b) (g:c<=d):max2 b d=jj a b c d:=by
 rw[<-RE]
 have h1:=lF a b
 have h2:=lF c d
 have m1:=ji a b
 have m2:=ji c d
 have e1:max2 a b=b:=by grind
 have e2:max2 c d=d:=by grind
 rw[e1,e2]
section
variable {n:Nat} {ms:Nat->List Rat}
theorem Ju:∀k,(iy ms k).1<=(iy ms k).2
 |0=>Rat.le_refl
 |_+1=>yG _ _ _ _
variable {i:Nat}
theorem xy (h:i=0):[min2 (pa ms i/mo ms i) (pa ms i/mo ms i),max2 (pa ms i/mo ms i) (pa ms i/mo ms i)]=[(iy ms (i+1)).1,(iy ms (i+1)).2]:=by
 rw[<-uL h,<-MQ Rat.le_refl Rat.le_refl,<-MP Rat.le_refl Rat.le_refl]
theorem A8 (h:¬i=0):[min2 (iy ms i).1 (pa ms i/mo ms i),max2 (iy ms i).2 (pa ms i/mo ms i)]=[(iy ms (i+1)).1,(iy ms (i+1)).2]:=by
 rw[<-yS h,<-MQ (Ju i) Rat.le_refl,<-MP (Ju i) Rat.le_refl]
theorem z0:((0:Int):Rat)=0:=Rat.intCast_zero
variable {e:Int}
theorem Dt (h:wE n ms=e) (he:e≠0):((0:Int):Rat)=Gr n ms:=z0.trans (BO h he)
theorem Du (h:wE n ms=e) (he:e≠0):[((0:Int):Rat),((0:Int):Rat)]=vD n ms:=by rw[z0]; exact BP h he
end
theorem D1 {x y:Rat} {j k J:Nat} (hb:bB J (x+y)) (h:j+k<=4000000):∀w v1 v2,pN j x w v1->pN k y w v2->Calls Tryz.prog 38 #[v1,v2] w (ew (pN J (x+y)) w):=λw v1 v2 h1 h2=>(RH h w v1 v2 h1 h2).mono λ_ _=>ew.map λ_ _ h=>⟨hb,h.2⟩
theorem Gb {n:Nat} {ms:Nat->List Rat} (h:Kc n ms):K1 Tryz.prog 9 (bR 6 true n λi=>pV aS 64 (ms i)) (uC (pQ aS 4130 (Gr n ms)) (pV aS 128 (vD n ms)) (pI (wE n ms))):=by
 intro M w0 v0 hM hv0
 have h1:=h.len
 refine Bu (N:=94) Tryz.func9 rfl rfl rfl hM hv0 λa hI=>?_
 refine bZ hI 3 [⟨2,2,some 0,none,.ptr,38,3,true,pv _,[]⟩,⟨3,3,some 1,none,.ptr,48,6,true,pv _,[]⟩] [] [Uc 2 4 _] .z (.k .z) ⟨me [.f],me [.f,.f],mv,trivial⟩ (.k (.k .z)) (.kk .z) λa w hI=>?_
 refine aC ?_
 refine bZ hI 8 [] [] [Uc 0 10 _,Uc 1 11 _,Uc 2 12 _,Uc 3 13 _,Uc 4 14 _,Uc 5 15 _,Uc 6 16 _,Uc 7 17 _] (.k (.k .z)) (.kk .z) ⟨mv,ln,bn,mv,gd λh=>yn h,gd λh=>Ss h,gd λh=>Ad h,pk,trivial⟩ (.k (.k .z)) (.eT (.dO (.dk .z))) λa w hI=>?_
 refine Ez hI (λt1=>?_) (λt1=>?_)
 ·
  have e1:=P8 (ms:=ms) t1
  refine bZ hI 5 [] [] [Uc 0 18 _,Uc 1 19 _,Uc 4 4 _] (.u none [(2,pv _)] (.u none [(3,pv _)] .z)) (.k (.t 4 (.k .z))) ⟨su AH,Si Jz,gD,gD,mv,trivial⟩ (.s .o (.s .o .z)) (.jy (.dk .z)) λa w hI=>?_
  refine aV ?_
  refine aO ?_
  exact BZ hI rfl (rK (hq:=lX (Dt e1 (by decide)) (by decide))) (rK (hq:=jM (Du e1 (by decide)) (by decide))) (mb (hq:=dB e1.symm))
 ·
  have hn:n<=16:=by
   simp only[Bool.or_eq_false_iff,decide_eq_false_iff_not]at t1
   omega
  refine aM ?_
  refine af ?_
  refine bZ hI 6 [⟨5,5,some 2,none,.ptr,38,3,true,pv _,[(4,pv _)]⟩,⟨6,6,some 3,none,.ptr,38,3,true,pv _,[(5,pv _)]⟩] [] [Uc 0 20 _,Uc 1 21 _] (.k (.k .z)) (.dF .z) ⟨su AH,su AH,me [.f],me [.f],gD,gD,trivial⟩ (.k (.k (.s .o (.s .o .z)))) (.eT (.d .z)) λa w hI=>?_
  refine bZ hI 1 [⟨7,7,some 0,none,.ptr,48,6,true,pv _,[]⟩] [] [] (.k (.k (.k (.k .z)))) (.kk .z) ⟨me [.f,.f],trivial⟩ (.k (.k (.k (.k (.k .z))))) (.kk .z) λa w hI=>?_
  refine aC ?_
  refine bZ hI 1 [] [] [Uc 0 8 _] (.k (.k (.k (.k (.k .z))))) (.kk .z) ⟨mv,trivial⟩ (.k (.k (.k (.k (.k .z))))) (.dF .z) λa w hI=>?_
  refine aT ?_
  refine C5 [Vz 2 2 38 3 true _,Vz 3 3 48 6 true _] [Uz 0 _] (λ(i:Nat)=>[Vz 5 5 38 3 true (pN 2065 (sB ms i)),Vz 6 6 38 3 true (pN 2065 (sS ms i)),Vz 7 7 48 6 true (pZ i (pV aS 128 [(iy ms i).1,(iy ms i).2]))]) (λ(i:Nat)=>[Uz 8 (pI (i:Int))]) (λ(i:Nat)=>i<=n/\∀q,q<i->kD ms q=false) (λ(i:Nat)=>n-i) (0) ⟨Nat.zero_le _,λq hq=>absurd hq (Nat.not_lt_zero _)⟩ hI ⟨vi,vi,vC (lX z0 (show 64<=2065 by decide)),vC (lX z0 (show 64<=2065 by decide)),vC (λ_ _ _ h=>absurd h (Nat.not_lt_zero _)),trivial⟩ ⟨gi,gc,trivial⟩ ?_
  intro i a w hi hI
  refine aC ?_
  refine bZ hI 4 [] [] [Uc 0 22 _,Uc 1 23 _,Uc 2 24 _,Uc 3 25 _] (.k (.k (.k (.k (.k .z))))) (.kk .z) ⟨mv,mv,ln,bn,trivial⟩ (.k (.k (.k (.k (.k .z))))) (.eT (.dk .z)) λa w hI=>?_
  refine nX hI (λt2=>?_) (λt2=>?_)
  ·
   refine aM ?_
   refine af ?_
   refine aC ?_
   refine aT ?_
   refine aC ?_
   have hl2:=h.el i (by omega)
   have hb0:bB 2065 (sB ms i+mo ms i*pa ms i):=(Be h (i+1) (by omega)).1.mono (by omega)
   have hb1:bB 2065 (sS ms i+mo ms i*mo ms i):=(Be h (i+1) (by omega)).2.mono (by omega)
   refine bZ hI 16 [] [] [Uc 0 28 _,Uc 1 29 _,Uc 2 30 _,Uc 3 31 _,Uc 4 32 _,Uc 5 33 _,Uc 6 34 _,Uc 7 35 _,Uc 8 36 _,Uc 9 37 _,Uc 10 38 _,Uc 11 39 _,Uc 12 40 _,Uc 13 41 _,Uc 14 42 _,Uc 15 43 _] (.k (.k (.k (.k (.k .z))))) (.dF .z) ⟨mv,mv,ix,fQ 0,ld,su Cp,bn,mv,gd λh=>yn h,gd λh=>yn h,gd λh=>Sr h,gd λh=>X1 h 1,gd λh=>rj h,gd λh=>Ht h Cp,gd λh=>Ad h,pk,trivial⟩ (.k (.k (.k (.k (.k .z))))) (.eT (.d8 (.dO (.ya .z)))) λa w hI=>?_
   refine Ez hI (λt3=>?_) (λt3=>?_)
   ·
    have e1:=P7 t1 (by omega) (show kD ms i=true from t3)
    refine bZ hI 5 [] [] [Uc 0 44 _,Uc 1 45 _,Uc 4 4 _] (.u none [(2,pv _)] (.u none [(3,pv _)] (.k (.k (.k .z))))) (.dF .z) ⟨su AH,Si Jz,gD,gD,mv,trivial⟩ (.s .o (.s .o (.k (.k (.k .z))))) (.eT (.dk .z)) λa w hI=>?_
    refine aV ?_
    refine aO ?_
    refine bT ?_
    refine aO ?_
    refine aO ?_
    refine bT ?_
    refine aO ?_
    exact BZ hI rfl (rK (hq:=lX (Dt e1 (by decide)) (by decide))) (rK (hq:=jM (Du e1 (by decide)) (by decide))) (mb (hq:=dB e1.symm))
   ·
    have hst:kD ms i=false:=t3
    refine aM ?_
    refine af ?_
    refine EB hI [0,0,0,6,14,30,0,0,192,448,960,2046,4095,8191] [] [] [Uc 0 46 _,Uc 1 47 _,Uc 2 48 _,Uc 3 49 _,Uc 4 50 _,Uc 5 51 _,Uc 6 52 _,Uc 7 53 _,Uc 8 54 _,Uc 9 55 _,Uc 10 56 _,Uc 11 57 _,Uc 12 58 _] (.k (.k (.u none [(13,pv _)] (.k (.k .z))))) (.dF .z) ⟨MU,mv,mv,ix,fQ 0,ld,mv,mv,ix,fQ 1,ld,By MW,By (D1 hb0),gD,trivial⟩ (.k (.k (.s .o (.k (.k .z))))) (.eT (.d8 (.dO .z))) λa w hI=>?_
    refine EB hI [0,0,0,6,14,30,0,0,192,448,960,2046,4095,8191] [] [] [Uc 0 59 _,Uc 1 60 _,Uc 2 61 _,Uc 3 62 _,Uc 4 63 _,Uc 5 64 _,Uc 6 65 _,Uc 7 66 _,Uc 8 67 _,Uc 9 68 _,Uc 10 69 _,Uc 11 70 _,Uc 12 71 _] (.k (.k (.k (.u none [(13,pv _)] (.k .z))))) (.kk .z) ⟨MU,mv,mv,ix,fQ 0,ld,mv,mv,ix,fQ 0,ld,By MW,By (D1 hb1),gD,trivial⟩ (.k (.k (.k (.s .o (.k .z))))) (.eT (.d8 (.Kz .z))) λa w hI=>?_
    refine EB hI [0,0,3,7,15,0,0,96,224,480,1023,2047,0,8191] [⟨9,9,some 12,none,.ptr,48,6,true,pv _,[(13,pv _)]⟩] [] [Uc 0 72 _,Uc 1 73 _,Uc 2 74 _,Uc 3 75 _,Uc 4 76 _,Uc 5 77 _,Uc 6 78 _,Uc 7 79 _,Uc 8 80 _,Uc 9 81 _,Uc 10 82 _,Uc 11 83 _] (.k (.k (.k (.k (.k .z))))) (.kk .z) ⟨mv,mv,ix,fQ 1,ld,mv,mv,ix,fQ 0,ld,zg RU,Dq DV,me [.f,.f],gD,trivial⟩ (.k (.k (.k (.k (.k (.s .o .z)))))) (.eT (.d8 (.dd .z))) λa w hI=>?_
    refine aC ?_
    refine bZ hI 2 [] [] [Uc 0 84 _,Uc 1 85 _] (.k (.k (.k (.k (.k (.k .z)))))) (.kk .z) ⟨mv,bn,trivial⟩ (.k (.k (.k (.k (.k (.k .z)))))) (.mP .z) λa w hI=>?_
    refine nX hI (λt4=>?_) (λt4=>?_)
    ·
     refine ve hI 2 [] [] [Uc 0 86 _] (.k (.k (.k (.k (.u none [(1,pv _)] (.k .z)))))) (.dF .z) ⟨ld,gD,trivial⟩ (.k (.k (.k (.k (.s .o (.k .z)))))) (.eT .z) λa w hI=>?_
     refine af ?_
     refine ve hI 4 [] [] [Uc 0 87 _,Uc 1 88 _,Uc 2 89 _] (.k (.k (.k (.k (.u none [(3,pv _)] (.k .z)))))) (.kk .z) ⟨MU,ld,zg DU,gD,trivial⟩ (.k (.k (.k (.k (.s .o (.d .z)))))) (.eT (.d .z)) λa w hI=>?_
     refine bz ?_
     refine af ?_
     refine ve hI 3 [] [] [Uc 0 26 _,Uc 1 27 _,Uc 2 8 _] (.k (.k (.k (.k (.k .z))))) (.k (.t 2 .z)) ⟨mv,bn,mv,trivial⟩ (.k (.k (.k (.k (.k .z))))) (.jy (.k .z)) λa w hI=>?_
     refine af ?_
     exact AE (i+1) ⟨by omega,λq hq=>if e:q=i then by rw[e]; exact hst else hi.2 q (by omega)⟩ hI ⟨vc,vc,vc,vc,vC (λw v h _=>jM (by first|exact xy (by omega)|exact A8 (by omega)) (Nat.le_refl 128) w v h),trivial⟩ ⟨gc,gc,trivial⟩ (by omega)
    ·
     have hI:=hI.Wm (i:=7) (q:=pV aS 128 [(iy ms i).1,(iy ms i).2]) (.n (.n (.n (.n (.h λw v h=>h (by omega))))))
     refine aM ?_
     refine af ?_
     refine ve hI 4 [] [] [Uc 0 87 _,Uc 1 88 _,Uc 2 89 _] (.k (.k (.k (.k (.u none [(3,pv _)] (.k .z)))))) (.dF .z) ⟨MU,ld,zg DU,gD,trivial⟩ (.k (.k (.k (.k (.s .o (.d .z)))))) (.eT (.dd .z)) λa w hI=>?_
     refine bz ?_
     refine af ?_
     refine ve hI 3 [] [] [Uc 0 26 _,Uc 1 27 _,Uc 2 8 _] (.k (.k (.k (.k (.k .z))))) (.k (.t 2 .z)) ⟨mv,bn,mv,trivial⟩ (.k (.k (.k (.k (.k .z))))) (.jy (.k .z)) λa w hI=>?_
     refine af ?_
     exact AE (i+1) ⟨by omega,λq hq=>if e:q=i then by rw[e]; exact hst else hi.2 q (by omega)⟩ hI ⟨vc,vc,vc,vc,vC (λw v h _=>jM (by first|exact xy (by omega)|exact A8 (by omega)) (Nat.le_refl 128) w v h),trivial⟩ ⟨gc,gc,trivial⟩ (by omega)
  ·
   refine eJ ?_
   refine aL ?_
   refine aL ?_
   refine bM ?_
   refine af ?_
   obtain rfl:i=n:=by omega
   have e1:=P6 t1 hi.2
   have YV:0<i:=by simp only[Bool.or_eq_false_iff,decide_eq_false_iff_not]at t1; omega
   have hI:=hI.Wm (i:=7) (q:=pV aS 128 [(iy ms i).1,(iy ms i).2]) (.n (.n (.n (.n (.h λw v h=>h YV)))))
   refine EB hI [0,0,3,0,7,31,63] [] [] [Uc 0 90 _,Uc 1 91 _,Uc 2 92 _,Uc 3 93 _,Uc 6 4 _] (.u none [(4,pv _)] (.u none [(5,pv _)] (.k (.k (.k .z))))) (.dF .z) ⟨ld,ld,zg RU,ld,gD,gD,mv,trivial⟩ (.s .o (.s .o (.d (.d (.d .z))))) (.dO (.iB .z)) λa w hI=>?_
   refine aV ?_
   exact BZ hI rfl (rK (hq:=lX (xW e1) (by decide))) (rK (hq:=jM (xZ e1) (by decide))) (mb (hq:=dB e1.symm))
def PR (x:Rat):Int:=if cP x<=0 then 1 else 0
def Pw (x y:Rat):Rat:=if cP x<=0 then 0 else y/x
section
variable {x y:Rat}
theorem Ki (t:cP x<=0):0=Pw x y/\(1:Int)=PR x:=by unfold Pw PR; rw[if_pos t,if_pos t]; exact⟨rfl,rfl⟩
theorem Kh (t:¬cP x<=0):y/x=Pw x y/\(0:Int)=PR x:=by unfold Pw PR; rw[if_neg t,if_neg t]; exact⟨rfl,rfl⟩
end
theorem K9 {x y:Rat} (_:True):K2 Tryz.prog 13 (pR 64 x) (pR 64 y) (gh (pR 128 (Pw x y)) (pI (PR x))):=by
 intro M w0 v0 v1 hM hv0 iK
 refine ze (N:=13) Tryz.func13 rfl rfl rfl hM hv0 iK λa hI=>?_
 refine bZ hI 4 [⟨2,2,some 0,none,.ptr,32,3,true,pv _,[]⟩,⟨3,3,some 1,none,.ptr,32,3,true,pv _,[]⟩,⟨4,4,some 2,none,.ptr,32,3,true,pv _,[]⟩] [] [Uc 3 5 _] .z (.kk .z) ⟨bo,bo,me [.r],mv,trivial⟩ (.k (.k (.k .z))) (.ya .z) λa w hI=>?_
 refine aC ?_
 refine bZ hI 3 [] [] [Uc 0 6 _,Uc 1 7 _,Uc 2 8 _] (.k (.k (.k .z))) (.k .z) ⟨ld,su xO,bn,trivial⟩ (.k (.k (.k .z))) (.Cj .z) λa w hI=>?_
 refine nX hI (λt1=>?_) (λt1=>?_)
 ·
  refine bZ hI 3 [] [] [Uc 0 9 _,Uc 2 5 _] (.k (.k (.u none [(1,pv _)] .z))) (.t 2 (.k .z)) ⟨Tu 1,gD,mv,trivial⟩ (.k (.k (.s .o .z))) (.iB .z) λa w hI=>?_
  refine aV ?_
  refine aO ?_
  exact yl hI rfl (rK (hq:=lX (Ki t1).1 (by decide))) (mb (hq:=dB (Ki t1 (y:=y)).2))
 ·
  refine aM ?_
  refine af ?_
  refine bZ hI 5 [] [] [Uc 0 10 _,Uc 1 11 _,Uc 2 12 _,Uc 4 5 _] (.k (.k (.u none [(3,pv _)] .z))) (.t 4 (.k .z)) ⟨ld,ld,zg uF,gD,mv,trivial⟩ (.d (.d (.s .o .z))) (.dO (.dk .z)) λa w hI=>?_
  refine aV ?_
  exact yl hI rfl (rK (hq:=lX (Kh t1).1 (by decide))) (mb (hq:=dB (Kh t1 (y:=y)).2))
section
variable {n:Nat} {ms:Nat->List Rat}
theorem OO {i:Nat} (h:kD ms i=false):0<mo ms i:=by
 unfold kD at h
 simp only[Bool.or_eq_false_iff,decide_eq_false_iff_not]at h
 exact LU h.1
theorem DC (h:∀i,i<n->kD ms i=false):∀k,k<=n->((iy ms k).1*sS ms k<=sB ms k/\sB ms k<=(iy ms k).2*sS ms k)/\0<=sS ms k/\(0<k->0<sS ms k)
 |0,_=>⟨⟨by show(0:Rat)*0<=0; rw[Rat.zero_mul]; exact Rat.le_refl,by show(0:Rat)<=0*0; rw[Rat.zero_mul]; exact Rat.le_refl⟩,Rat.le_refl,λh=>absurd h (Nat.lt_irrefl 0)⟩
 |k+1,hk=>by
  obtain⟨⟨h1,h2⟩,h3,h4⟩:=DC h k (by omega)
  have hm:=OO (h k (by omega))
  have hq:0<mo ms k*mo ms k:=Rat.mul_pos hm hm
  have ho:mo ms k*pa ms k=(pa ms k/mo ms k)*(mo ms k*mo ms k):=by
   rw[<-Rat.mul_assoc,Rat.div_mul_cancel (by grind),Rat.mul_comm]
  have hs:0<sS ms k+mo ms k*mo ms k:=by grind
  obtain⟨l1,l2,l3,l4⟩:=yF (gH ms k (iy ms k)).1 (gH ms k (iy ms k)).2 (pa ms k/mo ms k) (pa ms k/mo ms k)
  obtain⟨g1,g2,g3,g4⟩:=yD (gH ms k (iy ms k)).1 (gH ms k (iy ms k)).2 (pa ms k/mo ms k) (pa ms k/mo ms k)
  have e1:(iy ms (k+1)).1=jl (gH ms k (iy ms k)).1 (gH ms k (iy ms k)).2 (pa ms k/mo ms k) (pa ms k/mo ms k):=rfl
  have e2:(iy ms (k+1)).2=jj (gH ms k (iy ms k)).1 (gH ms k (iy ms k)).2 (pa ms k/mo ms k) (pa ms k/mo ms k):=rfl
  have e3:sS ms (k+1)=sS ms k+mo ms k*mo ms k:=rfl
  have e4:sB ms (k+1)=sB ms k+mo ms k*pa ms k:=rfl
  rw[e1,e2,e3,e4,ho]
  generalize jl (gH ms k (iy ms k)).1 (gH ms k (iy ms k)).2 (pa ms k/mo ms k) (pa ms k/mo ms k)=lo at *
  generalize jj (gH ms k (iy ms k)).1 (gH ms k (iy ms k)).2 (pa ms k/mo ms k) (pa ms k/mo ms k)=hi at *
  have a1:lo*(mo ms k*mo ms k)<=(pa ms k/mo ms k)*(mo ms k*mo ms k):=Rat.mul_le_mul_of_nonneg_right l3 (Rat.le_of_lt hq)
  have a2:(pa ms k/mo ms k)*(mo ms k*mo ms k)<=hi*(mo ms k*mo ms k):=Rat.mul_le_mul_of_nonneg_right g3 (Rat.le_of_lt hq)
  have b:lo*sS ms k<=sB ms k/\sB ms k<=hi*sS ms k:=by
   by_cases tQ:k=0
   ·subst tQ
    exact⟨by show lo*0<=0; rw[Rat.mul_zero]; exact Rat.le_refl,by show 0<=hi*0; rw[Rat.mul_zero]; exact Rat.le_refl⟩
   ·have ef:gH ms k (iy ms k)=iy ms k:=if_neg tQ
    rw[ef]at l1 g2
    exact⟨Rat.le_trans (Rat.mul_le_mul_of_nonneg_right l1 h3) h1,Rat.le_trans h2 (Rat.mul_le_mul_of_nonneg_right g2 h3)⟩
  rw[Rat.mul_add,Rat.mul_add]
  exact⟨⟨by grind,by grind⟩,Rat.le_of_lt hs,λ_=>hs⟩
theorem N6 (h:wE n ms=0):(iy ms n).1<=Gr n ms/\Gr n ms<=(iy ms n).2:=by
 rw[<-xW h]
 unfold wE at h
 by_cases h1:(decide ((n:Int)<1)||decide ((n:Int)>16))=true
 ·rw[if_pos h1]at h; exact absurd h (by decide)
 rw[if_neg h1]at h
 by_cases h2:∀i,i<n->kD ms i=false
 ·simp only[Bool.or_eq_true,decide_eq_true_eq]at h1
  obtain⟨⟨k1,k2⟩,_,k3⟩:=DC h2 n (Nat.le_refl _)
  have k3:=k3 (by omega)
  exact⟨Rat.not_lt.1 λh=>absurd k1 (Rat.not_le.2 ((Rat.div_lt_iff k3).1 h)),Rat.not_lt.1 λh=>absurd k2 (Rat.not_le.2 ((Rat.lt_div_iff k3).1 h))⟩
 ·rw[if_neg h2]at h; exact absurd h (by decide)
theorem NQ (h:wE n ms=0) {f:Rat} (hf:f=Gr n ms):(decide ((vD n ms).getD 0 0<=f)&&decide (f<=(vD n ms).getD 1 0))=true:=by
 obtain⟨h1,h2⟩:=N6 h
 rw[<-xZ h,hf]
 exact Bool.and_eq_true_iff.2 ⟨decide_eq_true h1,decide_eq_true h2⟩
theorem xX (n:Nat) (ms:Nat->List Rat):(vD n ms).length=2:=by unfold vD; split<;>rfl
theorem xY (n:Nat) (ms:Nat->List Rat):vD n ms=[(vD n ms).getD 0 0,(vD n ms).getD 1 0]:=by
 have h:=xX n ms
 match vD n ms,h with
 |[_,_],_=>rfl
end
end Wx
