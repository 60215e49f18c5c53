import Derived.Test.YtikkgpljpglnbaaGreatCRMRep1
namespace Wx
open Go Go.RowKit
set_option linter.unusedVariables false
section
variable {P:Program} {ops:Array Oper} {ms:List Nat} {c:cM} {V:List Vr} {A:List Al} {G:List aV} {i:Nat}{d:Nat} {x y z:Operand} {ty:TypeId} {pos:String} {aL:Array Edge}
theorem OG {f:FuncId} {ts:Array TypeId} {p p1 q1:Pred} {φ ψ:Prop} (hψ:ψ) (gO:φ->∀w v1,p1 w v1->Calls P f #[v1] w (jb p w)) (h1:Has ms G i x q1:=by exact hg) (c1:∀w v,q1 w v->p1 w v:=by exact mQ) (hp:Post G i p:=by exact pg (by assumption) rfl) (hφ:φ:=by first|omega|trivial) (hn:aA p:=by exact CI) (hf:aN P f:=by exactλ_ _=>by kernel_rfl):
  OpOk P ops ms c V A G i ⟨some d,.call ⟨.value (.func f),#[x],ts⟩,ty,pos,aL,none⟩:=(λ_:ψ=>oB hf hn (h1.imp c1) hp (gO hφ)) hψ
end
end Wx

namespace Wx
set_option maxRecDepth 100000
set_option maxHeartbeats 1000000
open Go Go.RowKit Go.Proofs
set_option linter.unusedVariables false
attribute [local irreducible] OpOk
theorem rE {n:Int} (h:-9223372036854775808<=n/\n<=9223372036854775807):K1 Tryz.prog 70 (pI n) (pR 64 (n:Rat)):=by
 intro M w0 v0 hM hv0
 refine uA (N:=5) Tryz.func70 rfl rfl rfl hM hv0 λa hI=>?_
 refine aW hI 1 [⟨2,2,some 0,none,.ptr,47,3,true,pv _,[]⟩] [] [] .z (.k .z) ⟨pY [.r],trivial⟩ (.k .z) (.k .z) λa w hI=>?_
 refine aW hI 3 [] [] [Uc 0 3 _,Uc 1 4 _] (.u none [(2,pv _)] .z) (.k .z) ⟨mv,LI xD,kI,trivial⟩ (.s .o .z) (.Iz .z) λa w hI=>?_
 refine aJ ?_
 exact dB hI rfl xj
theorem GK {x y:Rat} {j k:Nat} (h:j+k<=100000000):K2 Tryz.prog 30 (pR j x) (pR k y) (pR (j+k) (x/y)):=by
 intro M w0 v0 v1 hM hv0 iI
 refine xn (N:=14) Tryz.func30 rfl rfl rfl hM hv0 iI λa hI=>?_
 refine aW hI 3 [⟨2,2,some 0,none,.ptr,47,3,true,pv _,[]⟩,⟨3,3,some 1,none,.ptr,47,3,true,pv _,[]⟩,⟨4,4,some 2,none,.ptr,47,3,true,pv _,[]⟩] [] [] .z (.kk .z) ⟨bo,bo,pY [.r],trivial⟩ (.k (.k (.k .z))) (.dd .z) λa w hI=>?_
 refine aW hI 9 [⟨5,5,some 6,none,.ptr,47,3,true,pv _,[(7,pv _)]⟩] [] [Uc 0 8 _,Uc 1 9 _,Uc 2 10 _,Uc 3 7 _,Uc 4 11 _,Uc 5 12 _,Uc 8 6 _] (.k (.k (.k .z))) .z ⟨ld,ld,Ht N4,mv,ext,ext,pY [.r],kI,mv,trivial⟩ (.d (.d (.k (.s .o .z)))) (.bL (.Iz .z)) λa w hI=>?_
 refine aW hI 2 [] [] [Uc 0 13 _] (.u none [(1,pv _)] (.k .z)) .z ⟨ld,kI,trivial⟩ (.s .o (.d .z)) (.d .z) λa w hI=>?_
 refine aJ ?_
 exact dB hI rfl xj
def uc (a b:Pt):Int:=(b.1-a.1)*(b.1-a.1)+(b.2-a.2)*(b.2-a.2)
variable {a b p:Pt}
theorem JU (ha:bG 16777216 a) (hb:bG 16777216 b) (hp:bG 16777216 p):-2251799813685248<=ai a b p/\ai a b p<=2251799813685248:=by
 obtain⟨a1,a2,a3,a4⟩:=ha
 obtain⟨b1,b2,b3,b4⟩:=hb
 obtain⟨p1,p2,p3,p4⟩:=hp
 have m1:=iA 33554432 (p:=b.1-a.1) (q:=p.2-a.2) (by omega) (by omega) (by omega) (by omega)
 have m2:=iA 33554432 (p:=b.2-a.2) (q:=p.1-a.1) (by omega) (by omega) (by omega) (by omega)
 unfold ai
 omega
theorem CZ (ha:bG 16777216 a) (hb:bG 16777216 b):-2251799813685248<=uc a b/\uc a b<=2251799813685248:=by
 obtain⟨a1,a2,a3,a4⟩:=ha
 obtain⟨b1,b2,b3,b4⟩:=hb
 have m1:=iA 33554432 (p:=b.1-a.1) (q:=b.1-a.1) (by omega) (by omega) (by omega) (by omega)
 have m2:=iA 33554432 (p:=b.2-a.2) (q:=b.2-a.2) (by omega) (by omega) (by omega) (by omega)
 unfold uc
 omega
def Ah (a b p:Pt) (f:Int):Bool:=decide (mP (((ai a b p:Int):Rat)*((ai a b p:Int):Rat)) (((f:Rat)*(f:Rat))*((uc a b:Int):Rat))>=0)
theorem oo (h:bG 16777216 a/\bG 16777216 b):K2 Tryz.prog 69 (cT a) (cT b) (pI (uc a b)):=by
 intro M w0 v0 v1 hM hv0 iI
 obtain⟨⟨a1,a2,a3,a4⟩,b1,b2,b3,b4⟩:=h
 have m1:=iA 33554432 (p:=b.1-a.1) (q:=b.1-a.1) (by omega) (by omega) (by omega) (by omega)
 have m2:=iA 33554432 (p:=b.2-a.2) (q:=b.2-a.2) (by omega) (by omega) (by omega) (by omega)
 refine xn (N:=28) Tryz.func69 rfl rfl rfl hM hv0 iI λa hI=>?_
 refine aW hI 3 [⟨2,2,some 0,none,.ptr,38,2,true,pv _,[]⟩,⟨3,3,some 1,none,.ptr,38,2,true,pv _,[]⟩] [] [Uc 2 4 _] .z (.kk .z) ⟨bo,bo,mv,trivial⟩ (.k (.k .z)) (.lW .z) λa w hI=>?_
 refine aW hI 24 [] [⟨some 0,5,3,0,True⟩,⟨some 2,7,2,0,True⟩,⟨some 5,10,3,0,True⟩,⟨some 7,12,2,0,True⟩,⟨some 11,16,3,1,True⟩,⟨some 13,18,2,1,True⟩,⟨some 16,21,3,1,True⟩,⟨some 18,23,2,1,True⟩] [Uc 1 6 _,Uc 3 8 _,Uc 4 9 _,Uc 6 11 _,Uc 8 13 _,Uc 9 14 _,Uc 10 15 _,Uc 12 17 _,Uc 14 19 _,Uc 15 20 _,Uc 17 22 _,Uc 19 24 _,Uc 20 25 _,Uc 21 26 _,Uc 22 27 _,Uc 23 4 _] (.k (.k .z)) (.t 23 .z) ⟨fa,ld,fa,ld,bn,fa,ld,fa,ld,bn,bn,fa,ld,fa,ld,bn,fa,ld,fa,ld,bn,bn,bn,mv,trivial⟩ (.d (.d .z)) (.d8 (.d8 (.k .z))) λa w hI=>?_
 refine aJ ?_
 exact dB hI rfl fK
variable {f:Int}
theorem yM (h:bG 16777216 a/\bG 16777216 b/\bG 16777216 p /\ -4194304<=f/\f<=4194304):K4 Tryz.prog 50 (cT a) (cT b) (cT p) (pI f) (pB (Ah a b p f)):=by
 intro M w0 v0 v1 v2 v3 hM hv0 iI hv2 hv3
 have hb1:=JU h.1 h.2.1 h.2.2.1
 have hb2:=CZ h.1 h.2.1
 have hb3:=h.2.2.2
 refine Nn (N:=30) Tryz.func50 rfl rfl rfl hM hv0 iI hv2 hv3 λa hI=>?_
 refine aW hI 4 [⟨4,4,some 0,none,.ptr,38,2,true,pv _,[]⟩,⟨5,5,some 1,none,.ptr,38,2,true,pv _,[]⟩,⟨6,6,some 2,none,.ptr,38,2,true,pv _,[]⟩] [] [Uc 3 8 _] .z (.aq .z) ⟨bo,bo,bo,mv,trivial⟩ (.k (.k (.k .z))) (.ew (.k .z)) λa w hI=>?_
 refine aW hI 7 [⟨9,9,some 5,none,.ptr,47,3,true,pv _,[(6,pv _)]⟩] [] [Uc 0 10 _,Uc 1 11 _,Uc 2 12 _,Uc 3 13 _,Uc 4 14 _] (.k (.k (.k .z))) (.kk .z) ⟨ld,ld,ld,xR jS (hφ:=⟨h.1,h.2.1,h.2.2.1⟩),qZ rE,pY [.r],kI,trivial⟩ (.k (.k (.d (.s .o .z)))) (.dx (.Iz .z)) λa w hI=>?_
 refine BP hI [0,0,3,0,15,0,63,127,0,0,1023,2047,4095,8191,16383,32767] [] [] [Uc 0 15 _,Uc 1 16 _,Uc 2 17 _,Uc 3 18 _,Uc 4 19 _,Uc 5 20 _,Uc 6 21 _,Uc 7 22 _,Uc 8 23 _,Uc 9 24 _,Uc 10 25 _,Uc 11 26 _,Uc 12 27 _,Uc 13 28 _,Uc 14 29 _,Uc 15 8 _] (.k (.k (.k .z))) (.k (.t 15 .z)) ⟨ld,ld,Ht xE,mv,qZ rE,mv,qZ rE,Ht xE,ld,ld,wj oo (hφ:=⟨h.1,h.2.1⟩),qZ rE,Ht xE,Ht N3,bn,mv,trivial⟩ (.d (.d (.d .z))) (.d8 (.d8 (.dk .z))) λa w hI=>?_
 refine aJ ?_
 exact dB hI rfl fK
abbrev qF (O L:List Pt) (f:Int) (k i:Nat):Prop:=0<ai (ae O k) (ae O (dS O.length k)) (ae L i)/\Ah (ae O k) (ae O (dS O.length k)) (ae L i) f=true
def kB (L O:List Pt) (f:Int):Bool:=decide (∀k,k<O.length->∀i,i<L.length->qF O L f k i)
def iF (L:List Pt) (d:Int) (O:List Pt) (f:Int):Int:=if aR L d≠0 then aR L d else if bJ O≠0 then bJ O else if decide (f<1)||decide (f>2097152)then 1 else 0
variable {L O:List Pt} {d:Int}
theorem DK (h:L.length<=1000/\O.length<=1000/\(∀q,q<L.length->bG 16777216 (ae L q))/\(∀q,q<O.length->bG 16777216 (ae O q)) /\ -4194304<=f/\f<=4194304):K3 Tryz.prog 25 (fE L d) (fF O) (pI f) (pB (kB L O f)):=by
 intro M w0 v0 v1 v2 hM hv0 iI hv2
 have hL:=h.1
 have hO:=h.2.1
 have HE:=h.2.2.1
 have QB:=h.2.2.2.1
 have hf:=h.2.2.2.2
 refine Qf (N:=48) Tryz.func25 rfl rfl hM hv0 iI hv2 λa hI=>?_
 refine aW hI 4 [⟨6,6,some 3,none,.ptr,4,1,false,pv _,[]⟩] [] [Uc 0 3 _,Uc 1 4 _,Uc 2 5 _] .z (.cQ .z) ⟨rR 2 true,rR 1 false,rR 1 false,A7 .b,trivial⟩ (.k .z) (.ew (.kk .z)) λa w hI=>?_
 refine av ?_
 refine aW hI 2 [] [] [Uc 0 11 _,Uc 1 12 _] (.k .z) (.cQ .z) ⟨ld,qZ om,trivial⟩ (.k .z) (.dg (.k .z)) λa w hI=>?_
 refine aD ?_
 refine pn (y0:=13) (y1:=14) (τ:=Unit) (λk t=>[Vz 6 6 4 1 false (iJ (∀q,q<k->∀i,i<L.length->qF O L f q i) iC)]) (λcd t=>[Vz 6 6 4 1 false (iJ (cd=.ret/\¬ ∀k,k<O.length->∀i,i<L.length->qF O L f k i) (pB false))]) [Uz 3 _,Uz 4 _,Uz 5 _,Uz 12 _] [3,4,5,6,12] () (hI.cv ⟨vC (λ_ _ _=>⟨λ_ h=>absurd h (Nat.not_lt_zero _),trivial⟩),trivial⟩ ⟨gc,gc,gc,gc,trivial⟩) rfl (λ_ _=>by kernel_rfl) (λ_ _=>by kernel_rfl) (by kernel_rfl) (by kernel_rfl) (by kernel_rfl) (λk t w0 M1 B1 a w D l r hk hr hI=>?_) (λt w D l r hI=>?_) (λcd t w D l r hI=>?_)
 ·
  dsimp only[List.append,List.map,HAppend.hAppend,Append.append,xo]at hI
  refine aW hI 1 [] [] [Uc 0 7 _] (.k (.k .z)) (.k8 (.cQ .z)) ⟨mv,trivial⟩ (.k (.k .z)) (.k8 (.aq .z)) λa w hI=>?_
  refine tX hI 1 [] [] [Uc 0 8 _] (.k (.k .z)) (.k8 (.aq .z)) ⟨mv,trivial⟩ (.k (.k .z)) (.k8 (.aq (.k .z))) λa w hI=>?_
  refine ah ?_
  refine vY hI 1 hr (λw hI=>?_)
  dsimp only[List.set]at hI
  have hx:dS O.length k<O.length:=Nat.mod_lt _ (by omega)
  refine aD ?_
  refine aW hI 4 [] [] [Uc 0 15 _,Uc 1 16 _,Uc 2 17 _,Uc 3 18 _] (.k (.k .z)) (.k8 (.aq (.k .z))) ⟨fP 0 1 false,ld,ln,mv,trivial⟩ (.k (.k .z)) (.k8 (.aq (.S3 (.k .z)))) λa w hI=>?_
  refine aD ?_
  refine vL [Vz 6 6 4 1 false _,cN 48 48 _] [Uz 14 _,Uz 13 _,Uz 3 _,Uz 4 _,Uz 5 _,Uz 12 _,Uz 3 _,Uz 4 _,Uz 5 _,Uz 6 _,Uz 12 _,Uz 7 _,Uz 8 _,Uz 16 _,Uz 17 _] (λ(i:Nat)=>[]) (λ(i:Nat)=>[Uz 18 (pI (i:Int))]) (λ(i:Nat)=>i<=L.length/\∀q,q<i->qF O L f k q) (λ(i:Nat)=>L.length-i) (0) ⟨Nat.zero_le _,λ_ h=>absurd h (Nat.not_lt_zero _)⟩ hI ⟨vi,vA,trivial⟩ ⟨gi,gi,gi,gi,gi,gi,gq 6,gq 7,gq 8,gq 9,gq 10,gi,gi,gi,gi,gc,trivial⟩ ?_
  intro i a w hi hI
  have hx:dS O.length k<O.length:=Nat.mod_lt _ (by omega)
  refine aW hI 1 [] [] [Uc 0 19 _] (.k (.k .z)) (.k8 (.k8 .z)) ⟨bn,trivial⟩ (.k (.k .z)) (.k8 (.k8 (.k .z))) λa w hI=>?_
  refine av ?_
  refine iK hI (λt1=>?_) (λt1=>?_)
  ·
   refine aB ?_
   refine ah ?_
   refine av ?_
   refine aD ?_
   refine aW hI 4 [⟨10,10,some 2,none,.ptr,38,2,true,pv _,[(3,pv _)]⟩] [] [Uc 0 20 _,Uc 1 21 _] (.k (.k .z)) (.k8 (.k8 (.k .z))) ⟨ix,ld,pY [.i,.i],kI,trivial⟩ (.k (.k (.s .o .z))) (.k8 (.k8 (.Iz .z))) λa w hI=>?_
   refine BP hI [0,0,3,7,0,0,48,112,0,511,1023,2047,4095,4095,16383,32767,4095,4095,200703,462847,4095,4095,4194303,8388607,16777215] [] [] [Uc 0 22 _,Uc 1 23 _,Uc 2 24 _,Uc 3 25 _,Uc 4 26 _,Uc 5 27 _,Uc 6 28 _,Uc 7 29 _,Uc 8 30 _,Uc 9 31 _,Uc 10 32 _,Uc 11 33 _,Uc 12 34 _,Uc 13 35 _,Uc 14 36 _,Uc 15 37 _,Uc 16 38 _,Uc 17 39 _,Uc 18 40 _,Uc 19 41 _,Uc 20 42 _,Uc 21 43 _,Uc 22 44 _,Uc 23 45 _,Uc 24 46 _] (.k (.k (.k .z))) (.k8 (.k8 .z)) ⟨ld,mv,ix,ld,ld,mv,ix,ld,ld,xR jS (hφ:=⟨QB _ (by omega),QB _ hx,HE _ (by omega)⟩),bn,mv,gd λh=>dQ h,gd λh=>gZ h,gd λh=>Ey h,gd λh=>dQ h,gd λh=>dQ h,gd λh=>gZ h,gd λh=>Ey h,gd λh=>dQ h,gd λh=>dQ h,gd λh=>dQ h,gd λh=>LW h yM (hφ:=⟨QB _ (by omega),QB _ hx,HE _ (by omega),hf⟩),gd λh=>IJ h,pk,trivial⟩ (.k (.k (.d .z))) (.k8 (.k8 (.d8 (.d8 (.d8 (.k .z)))))) λa w hI=>?_
   refine uz hI (λt2=>?_) (λt2=>?_)
   ·
    refine aW hI 1 [] [] [] (.u none [(0,pv _)] (.k .z)) (.k8 (.k8 (.k .z))) ⟨kI,trivial⟩ (.s .o (.k .z)) (.k8 (.k8 (.d .z))) λa w hI=>?_
    refine aJ ?_
    refine aO ?_
    refine aG ?_
    refine aG ?_
    refine aO ?_
    refine aO ?_
    have hno:¬ ∀k,k<O.length->∀i,i<L.length->qF O L f k i:=λhall=>by
     have h1:=hall k hk i (by omega)
     unfold qF at h1
     rw[h1.2]at t2
     simp only[Bool.not_true,Bool.or_false,decide_eq_true_eq]at t2
     omega
    exact⟨(),hI.cv ⟨vC (λ_ _ h=>⟨⟨rfl,hno⟩,h⟩),vA,trivial⟩ ⟨gc,gc,gc,gc,gq 6,gq 7,gq 8,gq 9,gq 10,trivial⟩⟩
   ·
    refine aB ?_
    refine aQ ?_
    refine ah ?_
    refine tX hI 2 [] [] [Uc 0 47 _,Uc 1 18 _] (.k (.k .z)) (.k8 (.aq (.cQ (.t 1 (.k .z))))) ⟨bn,mv,trivial⟩ (.k (.k .z)) (.k8 (.aq (.dg (.lW .z)))) λa w hI=>?_
    refine ah ?_
    have hst:qF O L f k i:=by
     simp only[Bool.or_eq_false_iff,decide_eq_false_iff_not,Bool.not_eq_false']at t2
     exact⟨by omega,t2.2⟩
    exact uq (i+1) ⟨by omega,λq hq=>if e:q=i then by rw[e]; exact hst else hi.2 q (by omega)⟩ hI ⟨vc,vA,trivial⟩ ⟨gc,gc,gc,gc,gc,gc,gq 6,gq 7,gq 8,gq 9,gq 10,gc,gc,gc,gc,gc,trivial⟩ (by omega)
  ·
   refine cj ?_
   refine aH ?_
   refine aH ?_
   refine aY ?_
   refine aQ ?_
   exact⟨(),hI.cv ⟨vC (λ_ _ (h:iJ (∀q,q<k->∀i,i<L.length->qF O L f q i) iC _ _)=>⟨λq hq=>if e:q=k then by rw[e]; exactλj hj=>hi.2 j (by omega)else h.1 q (by omega),trivial⟩),vA,trivial⟩ ⟨gc,gc,gc,gc,gq 6,gq 7,gq 8,gq 9,gq 10,trivial⟩⟩
 ·
  dsimp only[List.append,HAppend.hAppend,Append.append]at hI
  have hall:=fl hI 0 rfl
  refine aQ ?_
  refine ah ?_
  refine ja ?_
  refine aW hI 1 [] [] [] (.u none [(0,pv _)] (.k .z)) (.aq .z) ⟨kI,trivial⟩ (.s .o (.k .z)) (.bL .z) λa w hI=>?_
  refine aJ ?_
  exact qo hI 1 rfl (xj (hq:=cK (by unfold kB; rw[decide_eq_true hall])))
 ·
  dsimp only[List.append,HAppend.hAppend,Append.append]at hI
  obtain⟨rfl,hno⟩:=fl hI 0 rfl
  refine ja ?_
  refine aJ ?_
  refine aO ?_
  refine aG ?_
  exact qo hI 1 rfl (xj (hq:=λw v (h:iJ _ (pB false) w v)=>cK (by unfold kB; rw[decide_eq_false hno]) w v h.2))
theorem FP (h:L.length<=1000/\O.length<=1000):K3 Tryz.prog 14 (fE L d) (fF O) (pI f) (fJ (pB (decide (iF L d O f=0)&&kB L O f)) (pI (iF L d O f))):=by
 intro M w0 v0 v1 v2 hM hv0 iI hv2
 have hL:=h.1
 have hO:=h.2
 refine Ho (N:=30) Tryz.func14 rfl rfl rfl hM hv0 iI hv2 λa hI=>?_
 refine aW hI 3 [⟨3,3,some 0,none,.ptr,24,2,true,pv _,[]⟩] [] [Uc 1 6 _,Uc 2 7 _] .z (.cQ .z) ⟨bo,mv,mv,trivial⟩ (.k .z) (.qJ (.k .z)) λa w hI=>?_
 refine av ?_
 refine aW hI 3 [] [] [Uc 0 10 _,Uc 1 11 _,Uc 2 8 _] (.k .z) (.aq .z) ⟨ld,qZ ct,mv,trivial⟩ (.k .z) (.aq (.lW .z)) λa w hI=>?_
 refine aW hI 2 [] [] [Uc 0 12 _,Uc 1 13 _] (.k .z) (.aq (.k .z)) ⟨mv,bn,trivial⟩ (.k .z) (.aq (.UI .z)) λa w hI=>?_
 refine iK hI (λt1=>?_) (λt1=>?_)
 ·
  refine aW hI 3 [] [] [Uc 0 14 _,Uc 1 6 _,Uc 2 7 _] (.k .z) (.kk (.t 1 (.t 2 (.kk .z)))) ⟨mv,mv,mv,trivial⟩ (.k .z) (.dx (.ew (.k .z))) λa w hI=>?_
  refine aJ ?_
  refine aG ?_
  exact(have e:iF L d O f=aR L d:=by unfold iF; rw[if_pos t1]
  kT hI rfl (fK (hq:=cK (by rw[e,decide_eq_false t1]; rfl))) (fK (hq:=cG e.symm)))
 ·
  have he:aR L d=0:=Decidable.not_not.1 t1
  refine aB ?_
  refine ah ?_
  refine av ?_
  refine aW hI 3 [] [] [Uc 0 15 _,Uc 1 16 _,Uc 2 9 _] (.k .z) (.aq (.kk .z)) ⟨mv,qZ qy,mv,trivial⟩ (.k .z) (.aq (.bL (.k .z))) λa w hI=>?_
  refine aW hI 2 [] [] [Uc 0 17 _,Uc 1 18 _] (.k .z) (.aq (.k .z)) ⟨mv,bn,trivial⟩ (.k .z) (.aq (.UI .z)) λa w hI=>?_
  refine iK hI (λt2=>?_) (λt2=>?_)
  ·
   refine aW hI 3 [] [] [Uc 0 19 _,Uc 1 6 _,Uc 2 7 _] (.k .z) (.kk (.t 1 (.t 2 (.kk .z)))) ⟨mv,mv,mv,trivial⟩ (.k .z) (.dx (.ew (.k .z))) λa w hI=>?_
   refine aJ ?_
   refine aG ?_
   exact(have e:iF L d O f=bJ O:=by unfold iF; rw[if_neg t1,if_pos t2]
   kT hI rfl (fK (hq:=cK (by rw[e,decide_eq_false t2]; rfl))) (fK (hq:=cG e.symm)))
  ·
   have Sa:bJ O=0:=Decidable.not_not.1 t2
   refine aB ?_
   refine ah ?_
   refine av ?_
   refine aW hI 6 [] [] [Uc 0 20 _,Uc 1 21 _,Uc 2 22 _,Uc 3 23 _,Uc 4 24 _,Uc 5 25 _] (.k .z) (.aq (.kk .z)) ⟨mv,bn,mv,gd λh=>gZ h,gd λh=>mA h,pk,trivial⟩ (.k .z) (.aq (.bL (.ew .z))) λa w hI=>?_
   refine uz hI (λt3=>?_) (λt3=>?_)
   ·
    refine aW hI 2 [] [] [Uc 0 6 _,Uc 1 7 _] (.k .z) (.kk (.t 0 (.t 1 (.k .z)))) ⟨mv,mv,trivial⟩ (.k .z) (.dx (.Dn .z)) λa w hI=>?_
    refine aJ ?_
    refine aG ?_
    exact(have e:iF L d O f=1:=by unfold iF; rw[if_neg t1,if_neg t2,if_pos t3]
    kT hI rfl (fK (hq:=cK (by rw[e]; rfl))) (fK (hq:=cG e.symm)))
   ·
    refine aB ?_
    refine ah ?_
    refine aW hI 6 [] [] [Uc 0 26 _,Uc 1 27 _,Uc 2 28 _,Uc 3 29 _,Uc 4 6 _,Uc 5 7 _] (.k .z) (.kk (.t 4 (.t 5 (.k .z)))) ⟨ld,mv,mv,xR DK (hφ:=⟨hL,hO,di (aP he),di Sa,by simp only[Bool.or_eq_false_iff,decide_eq_false_iff_not]at t3; omega⟩),mv,mv,trivial⟩ (.d .z) (.d8 (.Dn .z)) λa w hI=>?_
    refine aJ ?_
    exact(have e:iF L d O f=0:=by unfold iF; rw[if_neg t1,if_neg t2,if_neg (by rw[t3]; exact Bool.false_ne_true)]
    kT hI rfl (fK (hq:=cK (by rw[e]; rfl))) (fK (hq:=cG e.symm)))
end Wx
