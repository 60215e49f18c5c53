import Derived.Test.YtadigiledciihaaGreatJRD47
namespace Wx
set_option maxRecDepth 100000
set_option maxHeartbeats 1000000
open Go Go.RowKit Go.Proofs
set_option linter.unusedVariables false
attribute [local irreducible] OpOk
section
variable {P:Program} {ops:Array Oper} {ms:List Nat} {c:cT} {V:List Vr} {A:List Al} {G:List aS} {i d:Nat} {x y:Operand} {ty:TypeId} {pos:String} {aJ:Array Edge}
theorem O5 {φ:Prop} (hc:φ) {ts:Array TypeId} {m n:Int} (h1:Has ms G i x (pI m):=by exact hg) (h2:Has ms G i y (pI n):=by exact hg) (hp:Post G i (pI (iy m n)):=by exact pg (by assumption) rfl):OpOk P ops ms c V A G i ⟨some d,.call ⟨.builtin .max,#[x,y],ts⟩,ty,pos,aJ,none⟩:=Bl h1 h2 hp
end
variable {L:List Pt} {p:Pt}
theorem Ew (t:(!(decide ((L.length:Int)<=20))||decide (iy p.1 p.2>16777216)||decide (xw p.1 p.2 < -16777216))=false):L.length<=20/\cU 4611686018427387904 p:=by
 simp only[Bool.or_eq_false_iff,Bool.not_eq_false',decide_eq_true_eq,decide_eq_false_iff_not]at t
 unfold iy xw at t
 unfold cU
 obtain⟨⟨t1,t2⟩,t3⟩:=t
 split at t2<;>split at t3<;>omega
variable {d:Int}
theorem Gn:((zk L d p==(decide (fE L d=0)&&hasB L (p.1:Rat) (p.2:Rat)))&&true)=true:=by rw[GG]; simp
theorem Cs (_:True):K2 Tryz.prog 3 (lM L d) (dS p) (pB true):=by
 intro M w0 v0 v1 hM hv0 jP
 refine vL (N:=59) Tryz.func3 rfl rfl rfl hM hv0 jP λa hI=>?_
 refine bZ hI 3 [⟨3,3,some 1,none,.ptr,26,2,true,pv _,[]⟩] [] [Uc 0 2 _,Uc 2 4 _] .z (.kk .z) ⟨Dj 2 true (hf:=eF _ _),bo,mv,trivial⟩ (.k .z) (.sD .z) λa w hI=>?_
 refine ay ?_
 refine bZ hI 20 [] [⟨some 5,13,3,0,_⟩,⟨some 7,15,3,1,_⟩,⟨some 13,21,3,0,_⟩,⟨some 15,23,3,1,_⟩] [Uc 0 8 _,Uc 1 9 _,Uc 2 10 _,Uc 3 11 _,Uc 4 12 _,Uc 6 14 _,Uc 8 16 _,Uc 9 17 _,Uc 10 18 _,Uc 11 19 _,Uc 12 20 _,Uc 14 22 _,Uc 16 24 _,Uc 17 25 _,Uc 18 26 _,Uc 19 27 _] (.k .z) (.kk .z) ⟨fP 0 1 false,ld,BU GU,nt,mv,gd λh=>B9 h,gd λh=>mR h,gd λh=>B9 h,gd λh=>mR h,gd λh=>O5 h,gd λh=>su h,pk,mv,gd λh=>B9 h,gd λh=>mR h,gd λh=>B9 h,gd λh=>mR h,gd λh=>Md h,gd λh=>su h,pk,trivial⟩ (.k .z) (.eO (.d8 (.dH (.dk .z)))) λa w hI=>?_
 refine Ab hI (λt1=>?_) (λt1=>?_)
 ·
  refine bZ hI 2 [] [] [Uc 0 28 _,Uc 1 4 _] (.k .z) (.k (.t 1 (.k .z))) ⟨Rq xh,mv,trivial⟩ (.k .z) (.iv (.k .z)) λa w hI=>?_
  refine aM ?_
  refine aC ?_
  exact cN hI rfl iE
 ·
  obtain⟨hlen,IQ⟩:=Ew t1
  refine aD ?_
  refine ah ?_
  refine bZ hI 3 [] [] [Uc 0 29 _,Uc 1 30 _,Uc 2 5 _] (.k .z) (.dQ .z) ⟨ld,BU Hq (hφ:=by omega),mv,trivial⟩ (.k .z) (.eO (.dk .z)) λa w hI=>?_
  refine bZ hI 8 [] [] [Uc 0 32 _,Uc 1 33 _,Uc 2 34 _,Uc 3 31 _,Uc 4 35 _,Uc 5 36 _,Uc 6 6 _,Uc 7 7 _] (.k .z) (.dQ .z) ⟨ld,ld,Gg xg (hφ:=⟨by omega,IQ⟩),mv,ext,ext,mv,mv,trivial⟩ (.k .z) (.iw (.dH (.Lk .z))) λa w hI=>?_
  refine ay ?_
  refine bZ hI 9 [] [] [Uc 0 37 _,Uc 1 38 _,Uc 2 39 _,Uc 3 40 _,Uc 4 41 _,Uc 5 42 _,Uc 6 43 _,Uc 7 44 _,Uc 8 45 _] (.k .z) (.aB (.k .z)) ⟨ld,BU eW (hφ:=by omega),mv,bn,mv,gd λh=>mG h,gd λh=>mG h,gd λh=>su h,pk,trivial⟩ (.k .z) (.aB (.d8 (.dk .z))) λa w hI=>?_
  refine Ab hI (λt2=>?_) (λt2=>?_)
  ·exfalso; simp at t2
  refine aD ?_
  refine ah ?_
  refine bZ hI 14 [] [] [Uc 0 46 _,Uc 1 47 _,Uc 2 48 _,Uc 3 49 _,Uc 4 50 _,Uc 5 51 _,Uc 6 52 _,Uc 7 53 _,Uc 8 54 _,Uc 9 55 _,Uc 10 56 _,Uc 11 57 _,Uc 12 58 _,Uc 13 4 _] (.k .z) (.k (.t 13 (.dQ .z))) ⟨mv,mv,bn,mv,gd λh=>NW h 0 1 false,gd λh=>mR h,gd λh=>mR h,gd λh=>J3 h Fs (hφ:=⟨by omega,jx (dO (of_decide_eq_true h)),IQ⟩),pk,kN hs hs (λ_=>rfl) (pt rfl),mv,gd λh=>O0 h xh,pk,mv,trivial⟩ (.d .z) (.d8 (.d8 (.uu .z))) λa w hI=>?_
  refine aM ?_
  exact cN hI rfl (iE (hq:=jK Gn))
end Wx
