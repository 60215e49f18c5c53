import Derived.Test.YtikkgpljpglnbaaGreatJRM45
namespace Wx
open Go Go.RowKit
set_option linter.unusedVariables false
section
variable {P:Program} {c:cM} {V:List Vr} {G:List aV} {a:Act} {w:World}
end
end Wx

namespace Wx
open Go Go.RowKit Go.Proofs
set_option linter.unusedVariables false
attribute [local irreducible] OpOk
section
variable {P:Program} {ops:Array Oper} {ms:List Nat} {c:cM} {V:List Vr} {A:List Al} {G:List aV} {i d:Nat} {x y z:Operand} {ty:TypeId} {pos:String} {aL:Array Edge}
end
end Wx

namespace Wx
open Go Go.RowKit Go.Proofs
set_option linter.unusedVariables false
attribute [local irreducible] OpOk
theorem yX (K L:List Pt) (k l:Int):(js K L k l).length<=10:=by
 unfold js
 split
 ·rename_i h
  unfold bN at h
  split at h
  ·contradiction
  ·split at h
   ·contradiction
   ·split at h
    ·cases h
    ·omega
 ·exact Nat.zero_le _
end Wx

namespace Wx
set_option maxRecDepth 100000
set_option maxHeartbeats 1000000
open Go Go.RowKit Go.Proofs
set_option linter.unusedVariables false
attribute [local irreducible] OpOk
section
variable {P:Program} {ops:Array Oper} {ms:List Nat} {c:cM} {V:List Vr} {A:List Al} {G:List aV} {i d:Nat} {x y z u:Operand} {ty:TypeId} {pos:String} {aL:Array Edge}{ts:Array TypeId} {m n k:Int}
theorem Tc (e:m=0/\n=0/\k=0) (h1:Has ms G i x (pI m):=by exact hs) (h2:Has ms G i y (pI n):=by exact hs) (h3:Has ms G i z (pI k):=by exact hs) (hp:Post G i (pI 0):=by exact pt rfl):OpOk P ops ms c V A G i ⟨some d,.call ⟨.builtin .max,#[x,y,z],ts⟩,ty,pos,aL,none⟩:=by
 obtain⟨rfl,rfl,rfl⟩:=e
 exact Gs h1 h2 h3 hp
theorem Td {l:Int} (e:m=0/\n=0/\k=0/\l=0) (h1:Has ms G i x (pI m):=by exact hs) (h2:Has ms G i y (pI n):=by exact hs) (h3:Has ms G i z (pI k):=by exact hs) (h4:Has ms G i u (pI l):=by exact hs) (hp:Post G i (pI 0):=by exact pt rfl):OpOk P ops ms c V A G i ⟨some d,.call ⟨.builtin .max,#[x,y,z,u],ts⟩,ty,pos,aL,none⟩:=by
 obtain⟨rfl,rfl,rfl,rfl⟩:=e
 exact zh h1 h2 h3 h4 hp
end
def Qp (p:Pt):Bool:=(((decide (dh p.1 p.2>1000)&&decide (dh p.1 p.2<=1048576))||(decide (jT p.1 p.2 < -1000)&&decide (jT p.1 p.2 >= -1048576)))||decide (dh p.1 p.2>16777216))||decide (jT p.1 p.2 < -16777216)
def Gi (L:List Pt):Bool:=decide (∀k,k<L.length->Qp (ae L k)=false)&&decide ((L.length:Int)<=13)
variable {L:List Pt}
theorem rA (h:Gi L=true):L.length<=13:=by
 unfold Gi at h
 simp only[Bool.and_eq_true,decide_eq_true_eq]at h
 omega
theorem MJ {i:Nat} (hi:i<L.length) (h:Qp (ae L i)=true):false=Gi L:=by
 unfold Gi
 rw[decide_eq_false λk=>by rw[k i hi]at h; exact absurd h (by decide),Bool.false_and]
theorem Js (h:∀k,k<L.length->Qp (ae L k)=false):decide ((L.length:Int)<=13)=Gi L:=by
 unfold Gi
 rw[decide_eq_true h,Bool.true_and]
theorem Cw (h:L.length<=9223372036854775807):K1 Tryz.prog 10 (fF L) (pB (Gi L)):=by
 intro M w0 v0 hM hv0
 refine uA (N:=61) Tryz.func10 rfl rfl rfl hM hv0 λa hI=>?_
 refine bH hI 1 [Uc 0 2 _] (.k .z) ⟨mv,trivial⟩ (.kk .z) λa w hI=>?_
 refine av ?_
 refine bH hI 3 [Uc 0 5 _,Uc 1 6 _,Uc 2 7 _] (.kk .z) ⟨mv,ln,mv,trivial⟩ (.aq (.k .z)) λa w hI=>?_
 refine aD ?_
 refine vL [] [Uz 0 _,Uz 5 _,Uz 6 _] (λ(i:Nat)=>[]) (λ(i:Nat)=>[Uz 7 (pI (i:Int))]) (λ(i:Nat)=>i<=L.length/\∀k,k<i->Qp (ae L k)=false) (λ(i:Nat)=>L.length-i) (0) ⟨Nat.zero_le _,λ_ h=>absurd h (Nat.not_lt_zero _)⟩ hI trivial ⟨gi,gi,gi,gc,trivial⟩ ?_
 intro i a w hi hI
 refine bH hI 1 [Uc 0 8 _] (.aq .z) ⟨bn,trivial⟩ (.aq (.k .z)) λa w hI=>?_
 refine av ?_
 refine iK hI (λt1=>?_) (λt1=>?_)
 ·
  refine aB ?_
  refine ah ?_
  refine av ?_
  refine aD ?_
  refine aW hI 4 [⟨4,4,some 2,none,.ptr,38,2,true,pv _,[(3,pv _)]⟩] [] [Uc 0 9 _,Uc 1 10 _] .z (.aq (.k .z)) ⟨ix,ld,pY [.i,.i],gl rfl rfl hs rfl rfl (bE (by kernel_rfl)) (cm _) (by kernel_rfl),trivial⟩ (.s .o .z) (.aq (.Iz .z)) λa w hI=>?_
  refine aW hI 46 [] [⟨some 0,11,4,0,True⟩,⟨some 2,13,4,1,True⟩,⟨some 7,18,4,0,_⟩,⟨some 9,20,4,1,_⟩,⟨some 15,26,4,0,_⟩,⟨some 17,28,4,1,_⟩,⟨some 22,33,4,0,_⟩,⟨some 24,35,4,1,_⟩,⟨some 31,42,4,0,_⟩,⟨some 33,44,4,1,_⟩,⟨some 39,50,4,0,_⟩,⟨some 41,52,4,1,_⟩] [Uc 1 12 _,Uc 3 14 _,Uc 4 15 _,Uc 5 16 _,Uc 6 17 _,Uc 8 19 _,Uc 10 21 _,Uc 11 22 _,Uc 12 23 _,Uc 13 24 _,Uc 14 25 _,Uc 16 27 _,Uc 18 29 _,Uc 19 30 _,Uc 20 31 _,Uc 21 32 _,Uc 23 34 _,Uc 25 36 _,Uc 26 37 _,Uc 27 38 _,Uc 28 39 _,Uc 29 40 _,Uc 30 41 _,Uc 32 43 _,Uc 34 45 _,Uc 35 46 _,Uc 36 47 _,Uc 37 48 _,Uc 38 49 _,Uc 40 51 _,Uc 42 53 _,Uc 43 54 _,Uc 44 55 _,Uc 45 56 _] (.k .z) (.aq .z) ⟨fa,ld,fa,ld,Te,bn,mv,gd λh=>mE h,gd λh=>dQ h,gd λh=>mE h,gd λh=>dQ h,gd λh=>Fu h,gd λh=>mA h,pk,mv,gd λh=>mE h,gd λh=>dQ h,gd λh=>mE h,gd λh=>dQ h,gd λh=>Ds h,gd λh=>mA h,gd λh=>gZ h,xp λh=>mE h,xp λh=>dQ h,xp λh=>mE h,xp λh=>dQ h,xp λh=>Ds h,xp λh=>mA h,gd λh=>LX h,pk,mv,gd λh=>mE h,gd λh=>dQ h,gd λh=>mE h,gd λh=>dQ h,gd λh=>Fu h,gd λh=>mA h,pk,mv,gd λh=>mE h,gd λh=>dQ h,gd λh=>mE h,gd λh=>dQ h,gd λh=>Ds h,gd λh=>mA h,pk,trivial⟩ (.d .z) (.aq (.d8 (.d8 (.d8 (.d8 (.dk .z)))))) λa w hI=>?_
  refine uz hI (λt2=>?_) (λt2=>?_)
  ·
   refine bH hI 1 [Uc 0 2 _] (.aq (.k .z)) ⟨mv,trivial⟩ (.aq (.dk .z)) λa w hI=>?_
   refine aJ ?_
   refine aO ?_
   refine aG ?_
   refine aG ?_
   refine aO ?_
   refine aG ?_
   exact dB hI rfl (fK (hq:=cK (MJ (i:=i) (by omega) t2)))
  ·
   refine aB ?_
   refine aQ ?_
   refine ah ?_
   refine BQ hI 2 [Uc 0 57 _,Uc 1 7 _] (.cQ (.t 1 (.k .z))) ⟨bn,mv,trivial⟩ (.dg (.lW .z)) λa w hI=>?_
   refine ah ?_
   exact uq (i+1) ⟨by omega,λk hk=>if e:k=i then by rw[e]; exact t2 else hi.2 k (by omega)⟩ hI trivial ⟨gc,gc,gc,gc,trivial⟩ (by omega)
 ·
  refine cj ?_
  refine aH ?_
  refine aH ?_
  refine aY ?_
  refine ah ?_
  refine bH hI 4 [Uc 0 58 _,Uc 1 59 _,Uc 2 60 _,Uc 3 2 _] (.aq (.k .z)) ⟨mv,ln,bn,mv,trivial⟩ (.d8 (.k .z)) λa w hI=>?_
  refine aJ ?_
  exact dB hI rfl (fK (hq:=cK (Js λk hk=>hi.2 k (by omega))))
end Wx
