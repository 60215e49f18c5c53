import Derived.Test.YtadigiledciihaaGreatCRRRep1
namespace Wx
open Go Go.RowKit
set_option linter.unusedVariables false
section
variable {P:Program} {ops:Array Oper} {ms:List Nat} {c:dg} {V:List Vr} {A:List Al} {G:List aV} {i:Nat}{d:Nat} {x y z:Operand} {ty:TypeId} {pos:String} {aO:Array Edge}{f:FuncId} {ts:Array TypeId} {p p1 q1:Pred} {φ ψ:Prop}
theorem JG (hψ:ψ) (gg:φ->∀w v1,p1 w v1->Calls P f #[v1] w (fk p w)) (h1:Has ms G i x q1:=by exact hg) (c1:∀w v,q1 w v->p1 w v:=by exact l7) (hp:Post G i p:=by exact pg (by assumption) rfl) (hφ:φ:=by first|omega|trivial) (hn:aA p:=by exact y6) (hf:aM P f:=by exactλ_ _=>by kernel_rfl):
  OpOk P ops ms c V A G i ⟨some d,.call ⟨.value (.func f),#[x],ts⟩,ty,pos,aO,none⟩:=(λ_:ψ=>fS hf hn (h1.imp c1) hp (gg hφ)) hψ
theorem FQ {p2 q2:Pred} (hψ:ψ) (gg:φ->∀w v1 v2,p1 w v1->p2 w v2->Calls P f #[v1,v2] w (fk p w)) (h1:Has ms G i x q1:=by exact hg) (c1:∀w v,q1 w v->p1 w v:=by exact l7) (h2:Has ms G i y q2:=by exact hg) (c2:∀w v,q2 w v->p2 w v:=by exact l7) (hp:Post G i p:=by exact pg (by assumption) rfl) (hφ:φ:=by first|omega|trivial) (hn:aA p:=by exact y6) (hf:aM P f:=by exactλ_ _=>by kernel_rfl):
  OpOk P ops ms c V A G i ⟨some d,.call ⟨.value (.func f),#[x,y],ts⟩,ty,pos,aO,none⟩:=(λ_:ψ=>cw hf hn (h1.imp c1) (h2.imp c2) hp (gg hφ)) hψ
end
end Wx

namespace Wx
set_option maxRecDepth 100000
set_option maxHeartbeats 1000000
open Go Go.RowKit Go.Proofs
set_option linter.unusedVariables false
attribute [local irreducible] OpOk
theorem qh {n:Int} (h:-9223372036854775808<=n/\n<=9223372036854775807):K1 Tryz.prog 120 (pI n) (pR 64 (n:Rat)):=by
 intro M w0 v0 hM hv0
 refine sU (N:=5) Tryz.func120 rfl rfl rfl hM hv0 λa hI=>?_
 refine bJ hI 1 [⟨2,2,some 0,none,.ptr,54,3,true,pv _,[]⟩] [] [] .z (.k .z) ⟨tJ [.r],trivial⟩ (.k .z) (.k .z) λa w hI=>?_
 refine bJ hI 3 [] [] [Uc 0 3 _,Uc 1 4 _] (.u none [(2,pv _)] .z) (.k .z) ⟨mv,FF vS,mQ,trivial⟩ (.s .o .z) (.Lt .z) λa w hI=>?_
 refine aI ?_
 exact cF hI rfl CA
theorem Ey {x y:Rat} {j k:Nat} (h:j+k<=100000000):K2 Tryz.prog 49 (pR j x) (pR k y) (pR (j+k) (x/y)):=by
 intro M w0 v0 v1 hM hv0 ir
 refine vF (N:=14) Tryz.func49 rfl rfl rfl hM hv0 ir λa hI=>?_
 refine bJ hI 3 [⟨2,2,some 0,none,.ptr,54,3,true,pv _,[]⟩,⟨3,3,some 1,none,.ptr,54,3,true,pv _,[]⟩,⟨4,4,some 2,none,.ptr,54,3,true,pv _,[]⟩] [] [] .z (.kk .z) ⟨bo,bo,tJ [.r],trivial⟩ (.k (.k (.k .z))) (.dd .z) λa w hI=>?_
 refine bJ hI 9 [⟨5,5,some 6,none,.ptr,54,3,true,pv _,[(7,pv _)]⟩] [] [Uc 0 8 _,Uc 1 9 _,Uc 2 10 _,Uc 3 7 _,Uc 4 11 _,Uc 5 12 _,Uc 8 6 _] (.k (.k (.k .z))) .z ⟨ld,ld,Fi Lj,mv,ext,ext,tJ [.r],mQ,mv,trivial⟩ (.d (.d (.k (.s .o .z)))) (.dD (.Lt .z)) λa w hI=>?_
 refine bJ hI 2 [] [] [Uc 0 13 _] (.u none [(1,pv _)] (.k .z)) .z ⟨ld,mQ,trivial⟩ (.s .o (.d .z)) (.d .z) λa w hI=>?_
 refine aI ?_
 exact cF hI rfl CA
def IZ (a b:Pt):Int:=(b.1-a.1)*(b.1-a.1)+(b.2-a.2)*(b.2-a.2)
variable {a b p:Pt}
theorem G6 (ha:b9 16777216 a) (hb:b9 16777216 b) (hp:b9 16777216 p):-2251799813685248<=cz a b p/\cz a b p<=2251799813685248:=by
 obtain⟨a1,a2,a3,a4⟩:=ha
 obtain⟨b1,b2,b3,b4⟩:=hb
 obtain⟨p1,p2,p3,p4⟩:=hp
 have m1:=fe 33554432 (p:=b.1-a.1) (q:=p.2-a.2) (by omega) (by omega) (by omega) (by omega)
 have m2:=fe 33554432 (p:=b.2-a.2) (q:=p.1-a.1) (by omega) (by omega) (by omega) (by omega)
 unfold cz
 omega
theorem I0 (ha:b9 16777216 a) (hb:b9 16777216 b):-2251799813685248<=IZ a b/\IZ a b<=2251799813685248:=by
 obtain⟨a1,a2,a3,a4⟩:=ha
 obtain⟨b1,b2,b3,b4⟩:=hb
 have m1:=fe 33554432 (p:=b.1-a.1) (q:=b.1-a.1) (by omega) (by omega) (by omega) (by omega)
 have m2:=fe 33554432 (p:=b.2-a.2) (q:=b.2-a.2) (by omega) (by omega) (by omega) (by omega)
 unfold IZ
 omega
def FC (a b p:Pt) (f:Int):Bool:=decide (kD (((cz a b p:Int):Rat)*((cz a b p:Int):Rat)) (((f:Rat)*(f:Rat))*((IZ a b:Int):Rat))>=0)
theorem DR (h:b9 16777216 a/\b9 16777216 b):K2 Tryz.prog 110 (dS a) (dS b) (pI (IZ a b)):=by
 intro M w0 v0 v1 hM hv0 ir
 obtain⟨⟨a1,a2,a3,a4⟩,b1,b2,b3,b4⟩:=h
 have m1:=fe 33554432 (p:=b.1-a.1) (q:=b.1-a.1) (by omega) (by omega) (by omega) (by omega)
 have m2:=fe 33554432 (p:=b.2-a.2) (q:=b.2-a.2) (by omega) (by omega) (by omega) (by omega)
 refine vF (N:=28) Tryz.func110 rfl rfl rfl hM hv0 ir λa hI=>?_
 refine bJ hI 3 [⟨2,2,some 0,none,.ptr,26,2,true,pv _,[]⟩,⟨3,3,some 1,none,.ptr,26,2,true,pv _,[]⟩] [] [Uc 2 4 _] .z (.kk .z) ⟨bo,bo,mv,trivial⟩ (.k (.k .z)) (.n5 .z) λa w hI=>?_
 refine bJ hI 24 [] [⟨some 0,5,3,0,True⟩,⟨some 2,7,2,0,True⟩,⟨some 5,10,3,0,True⟩,⟨some 7,12,2,0,True⟩,⟨some 11,16,3,1,True⟩,⟨some 13,18,2,1,True⟩,⟨some 16,21,3,1,True⟩,⟨some 18,23,2,1,True⟩] [Uc 1 6 _,Uc 3 8 _,Uc 4 9 _,Uc 6 11 _,Uc 8 13 _,Uc 9 14 _,Uc 10 15 _,Uc 12 17 _,Uc 14 19 _,Uc 15 20 _,Uc 17 22 _,Uc 19 24 _,Uc 20 25 _,Uc 21 26 _,Uc 22 27 _,Uc 23 4 _] (.k (.k .z)) (.t 23 .z) ⟨fa,ld,fa,ld,bn,fa,ld,fa,ld,bn,bn,fa,ld,fa,ld,bn,fa,ld,fa,ld,bn,bn,bn,mv,trivial⟩ (.d (.d .z)) (.d8 (.d8 (.k .z))) λa w hI=>?_
 refine aI ?_
 exact cF hI rfl fE
variable {f:Int}
theorem DJ (h:b9 16777216 a/\b9 16777216 b/\b9 16777216 p /\ -4194304<=f/\f<=4194304):K4 Tryz.prog 94 (dS a) (dS b) (dS p) (pI f) (pB (FC a b p f)):=by
 intro M w0 v0 v1 v2 v3 hM hv0 ir hv2 hv3
 have hb1:=G6 h.1 h.2.1 h.2.2.1
 have hb2:=I0 h.1 h.2.1
 have hb3:=h.2.2.2
 refine QU (N:=30) Tryz.func94 rfl rfl rfl hM hv0 ir hv2 hv3 λa hI=>?_
 refine bJ hI 4 [⟨4,4,some 0,none,.ptr,26,2,true,pv _,[]⟩,⟨5,5,some 1,none,.ptr,26,2,true,pv _,[]⟩,⟨6,6,some 2,none,.ptr,26,2,true,pv _,[]⟩] [] [Uc 3 8 _] .z (.au .z) ⟨bo,bo,bo,mv,trivial⟩ (.k (.k (.k .z))) (.eM (.k .z)) λa w hI=>?_
 refine bJ hI 7 [⟨9,9,some 5,none,.ptr,54,3,true,pv _,[(6,pv _)]⟩] [] [Uc 0 10 _,Uc 1 11 _,Uc 2 12 _,Uc 3 13 _,Uc 4 14 _] (.k (.k (.k .z))) (.kk .z) ⟨ld,ld,ld,FE rf (hφ:=⟨h.1,h.2.1,h.2.2.1⟩),sE qh,tJ [.r],mQ,trivial⟩ (.k (.k (.d (.s .o .z)))) (.e9 (.Lt .z)) λa w hI=>?_
 refine Fb hI [0,0,3,0,15,0,63,127,0,0,1023,2047,4095,8191,16383,32767] [] [] [Uc 0 15 _,Uc 1 16 _,Uc 2 17 _,Uc 3 18 _,Uc 4 19 _,Uc 5 20 _,Uc 6 21 _,Uc 7 22 _,Uc 8 23 _,Uc 9 24 _,Uc 10 25 _,Uc 11 26 _,Uc 12 27 _,Uc 13 28 _,Uc 14 29 _,Uc 15 8 _] (.k (.k (.k .z))) (.k (.t 15 .z)) ⟨ld,ld,Fi vT,mv,sE qh,mv,sE qh,Fi vT,ld,ld,FD DR (hφ:=⟨h.1,h.2.1⟩),sE qh,Fi vT,Fi Li,bn,mv,trivial⟩ (.d (.d (.d .z))) (.d8 (.d8 (.dk .z))) λa w hI=>?_
 refine aI ?_
 exact cF hI rfl fE
abbrev jZ (O L:List Pt) (f:Int) (k i:Nat):Prop:=0<cz (av O k) (av O (mJ O.length k)) (av L i)/\FC (av O k) (av O (mJ O.length k)) (av L i) f=true
def rY (L O:List Pt) (f:Int):Bool:=decide (∀k,k<O.length->∀i,i<L.length->jZ O L f k i)
def gp (L:List Pt) (d:Int) (O:List Pt) (f:Int):Int:=if eO L d≠0 then eO L d else if cR O≠0 then cR O else if decide (f<1)||decide (f>2097152)then 1 else 0
variable {L O:List Pt} {d:Int}
theorem BO (h:L.length<=1000/\O.length<=1000/\(∀q,q<L.length->b9 16777216 (av L q))/\(∀q,q<O.length->b9 16777216 (av O q)) /\ -4194304<=f/\f<=4194304):K3 Tryz.prog 56 (ko L d) (fT O) (pI f) (pB (rY L O f)):=by
 intro M w0 v0 v1 v2 hM hv0 ir hv2
 have hL:=h.1
 have hO:=h.2.1
 have Mt:=h.2.2.1
 have BA:=h.2.2.2.1
 have hf:=h.2.2.2.2
 refine QS (N:=48) Tryz.func56 rfl rfl hM hv0 ir hv2 λa hI=>?_
 refine bJ hI 4 [⟨6,6,some 3,none,.ptr,4,1,false,pv _,[]⟩] [] [Uc 0 3 _,Uc 1 4 _,Uc 2 5 _] .z (.dr .z) ⟨yu 2 true,yu 1 false,yu 1 false,Gu .b,trivial⟩ (.k .z) (.eM (.kk .z)) λa w hI=>?_
 refine az ?_
 refine bJ hI 2 [] [] [Uc 0 11 _,Uc 1 12 _] (.k .z) (.dr .z) ⟨ld,sE uN,trivial⟩ (.k .z) (.fc (.k .z)) λa w hI=>?_
 refine aK ?_
 refine sr (y0:=13) (y1:=14) (τ:=Unit) (λk t=>[Vz 6 6 4 1 false (nI (∀q,q<k->∀i,i<L.length->jZ O L f q i) fo)]) (λcd t=>[Vz 6 6 4 1 false (nI (cd=.ret/\¬ ∀k,k<O.length->∀i,i<L.length->jZ O L f k i) (pB false))]) [Uz 3 _,Uz 4 _,Uz 5 _,Uz 12 _] [3,4,5,6,12] () (hI.cv ⟨vC (λ_ _ _=>⟨λ_ h=>absurd h (Nat.not_lt_zero _),trivial⟩),trivial⟩ ⟨gc,gc,gc,gc,trivial⟩) rfl (λ_ _=>by kernel_rfl) (λ_ _=>by kernel_rfl) (by kernel_rfl) (by kernel_rfl) (by kernel_rfl) (λk t w0 M1 B1 a w D l r hk hr hI=>?_) (λt w D l r hI=>?_) (λcd t w D l r hI=>?_)
 ·
  dsimp only[List.append,List.map,HAppend.hAppend,Append.append,Fk]at hI
  refine bJ hI 1 [] [] [Uc 0 7 _] (.k (.k .z)) (.k8 (.dr .z)) ⟨mv,trivial⟩ (.k (.k .z)) (.k8 (.au .z)) λa w hI=>?_
  refine yc hI 1 [] [] [Uc 0 8 _] (.k (.k .z)) (.k8 (.au .z)) ⟨mv,trivial⟩ (.k (.k .z)) (.k8 (.au (.k .z))) λa w hI=>?_
  refine af ?_
  refine yq hI 1 hr (λw hI=>?_)
  dsimp only[List.set]at hI
  have hx:mJ O.length k<O.length:=Nat.mod_lt _ (by omega)
  refine aK ?_
  refine bJ hI 4 [] [] [Uc 0 15 _,Uc 1 16 _,Uc 2 17 _,Uc 3 18 _] (.k (.k .z)) (.k8 (.au (.k .z))) ⟨fP 0 1 false,ld,ln,mv,trivial⟩ (.k (.k .z)) (.k8 (.au (.Qp (.k .z)))) λa w hI=>?_
  refine aK ?_
  refine vK [Vz 6 6 4 1 false _,dP 48 48 _] [Uz 14 _,Uz 13 _,Uz 3 _,Uz 4 _,Uz 5 _,Uz 12 _,Uz 3 _,Uz 4 _,Uz 5 _,Uz 6 _,Uz 12 _,Uz 7 _,Uz 8 _,Uz 16 _,Uz 17 _] (λ(i:Nat)=>[]) (λ(i:Nat)=>[Uz 18 (pI (i:Int))]) (λ(i:Nat)=>i<=L.length/\∀q,q<i->jZ O L f k q) (λ(i:Nat)=>L.length-i) (0) ⟨Nat.zero_le _,λ_ h=>absurd h (Nat.not_lt_zero _)⟩ hI ⟨vi,vA,trivial⟩ ⟨gi,gi,gi,gi,gi,gi,gq 6,gq 7,gq 8,gq 9,gq 10,gi,gi,gi,gi,gc,trivial⟩ ?_
  intro i a w hi hI
  have hx:mJ O.length k<O.length:=Nat.mod_lt _ (by omega)
  refine bJ hI 1 [] [] [Uc 0 19 _] (.k (.k .z)) (.k8 (.k8 .z)) ⟨bn,trivial⟩ (.k (.k .z)) (.k8 (.k8 (.k .z))) λa w hI=>?_
  refine az ?_
  refine kp hI (λt1=>?_) (λt1=>?_)
  ·
   refine aG ?_
   refine af ?_
   refine az ?_
   refine aK ?_
   refine bJ hI 4 [⟨10,10,some 2,none,.ptr,26,2,true,pv _,[(3,pv _)]⟩] [] [Uc 0 20 _,Uc 1 21 _] (.k (.k .z)) (.k8 (.k8 (.k .z))) ⟨ix,ld,tJ [.i,.i],mQ,trivial⟩ (.k (.k (.s .o .z))) (.k8 (.k8 (.Lt .z))) λa w hI=>?_
   refine Fb hI [0,0,3,7,0,0,48,112,0,511,1023,2047,4095,4095,16383,32767,4095,4095,200703,462847,4095,4095,4194303,8388607,16777215] [] [] [Uc 0 22 _,Uc 1 23 _,Uc 2 24 _,Uc 3 25 _,Uc 4 26 _,Uc 5 27 _,Uc 6 28 _,Uc 7 29 _,Uc 8 30 _,Uc 9 31 _,Uc 10 32 _,Uc 11 33 _,Uc 12 34 _,Uc 13 35 _,Uc 14 36 _,Uc 15 37 _,Uc 16 38 _,Uc 17 39 _,Uc 18 40 _,Uc 19 41 _,Uc 20 42 _,Uc 21 43 _,Uc 22 44 _,Uc 23 45 _,Uc 24 46 _] (.k (.k (.k .z))) (.k8 (.k8 .z)) ⟨ld,mv,ix,ld,ld,mv,ix,ld,ld,FE rf (hφ:=⟨BA _ (by omega),BA _ hx,Mt _ (by omega)⟩),bn,mv,gd λh=>jC h,gd λh=>fl h,gd λh=>Dh h,gd λh=>jC h,gd λh=>jC h,gd λh=>fl h,gd λh=>Dh h,gd λh=>jC h,gd λh=>jC h,gd λh=>jC h,gd λh=>OE h DJ (hφ:=⟨BA _ (by omega),BA _ hx,Mt _ (by omega),hf⟩),gd λh=>OL h,pk,trivial⟩ (.k (.k (.d .z))) (.k8 (.k8 (.d8 (.d8 (.d8 (.k .z)))))) λa w hI=>?_
   refine vB hI (λt2=>?_) (λt2=>?_)
   ·
    refine bJ hI 1 [] [] [] (.u none [(0,pv _)] (.k .z)) (.k8 (.k8 (.k .z))) ⟨mQ,trivial⟩ (.s .o (.k .z)) (.k8 (.k8 (.d .z))) λa w hI=>?_
    refine aI ?_
    refine aQ ?_
    refine aF ?_
    refine aF ?_
    refine aQ ?_
    refine aQ ?_
    have hno:¬ ∀k,k<O.length->∀i,i<L.length->jZ O L f k i:=λhall=>by
     have h1:=hall k hk i (by omega)
     unfold jZ at h1
     rw[h1.2]at t2
     simp only[Bool.not_true,Bool.or_false,decide_eq_true_eq]at t2
     omega
    exact⟨(),hI.cv ⟨vC (λ_ _ h=>⟨⟨rfl,hno⟩,h⟩),vA,trivial⟩ ⟨gc,gc,gc,gc,gq 6,gq 7,gq 8,gq 9,gq 10,trivial⟩⟩
   ·
    refine aG ?_
    refine bk ?_
    refine af ?_
    refine yc hI 2 [] [] [Uc 0 47 _,Uc 1 18 _] (.k (.k .z)) (.k8 (.au (.dr (.t 1 (.k .z))))) ⟨bn,mv,trivial⟩ (.k (.k .z)) (.k8 (.au (.fc (.n5 .z)))) λa w hI=>?_
    refine af ?_
    have hst:jZ O L f k i:=by
     simp only[Bool.or_eq_false_iff,decide_eq_false_iff_not,Bool.not_eq_false']at t2
     exact⟨by omega,t2.2⟩
    exact vI (i+1) ⟨by omega,λq hq=>if e:q=i then by rw[e]; exact hst else hi.2 q (by omega)⟩ hI ⟨vc,vA,trivial⟩ ⟨gc,gc,gc,gc,gc,gc,gq 6,gq 7,gq 8,gq 9,gq 10,gc,gc,gc,gc,gc,trivial⟩ (by omega)
  ·
   refine cI ?_
   refine aJ ?_
   refine aJ ?_
   refine bp ?_
   refine bk ?_
   exact⟨(),hI.cv ⟨vC (λ_ _ (h:nI (∀q,q<k->∀i,i<L.length->jZ O L f q i) fo _ _)=>⟨λq hq=>if e:q=k then by rw[e]; exactλj hj=>hi.2 j (by omega)else h.1 q (by omega),trivial⟩),vA,trivial⟩ ⟨gc,gc,gc,gc,gq 6,gq 7,gq 8,gq 9,gq 10,trivial⟩⟩
 ·
  dsimp only[List.append,HAppend.hAppend,Append.append]at hI
  have hall:=jd hI 0 rfl
  refine bk ?_
  refine af ?_
  refine l6 ?_
  refine bJ hI 1 [] [] [] (.u none [(0,pv _)] (.k .z)) (.au .z) ⟨mQ,trivial⟩ (.s .o (.k .z)) (.dD .z) λa w hI=>?_
  refine aI ?_
  exact tr hI 1 rfl (CA (hq:=ew (by unfold rY; rw[decide_eq_true hall])))
 ·
  dsimp only[List.append,HAppend.hAppend,Append.append]at hI
  obtain⟨rfl,hno⟩:=jd hI 0 rfl
  refine l6 ?_
  refine aI ?_
  refine aQ ?_
  refine aF ?_
  exact tr hI 1 rfl (CA (hq:=λw v (h:nI _ (pB false) w v)=>ew (by unfold rY; rw[decide_eq_false hno]) w v h.2))
theorem Kb (h:L.length<=1000/\O.length<=1000):K3 Tryz.prog 25 (ko L d) (fT O) (pI f) (gn (pB (decide (gp L d O f=0)&&rY L O f)) (pI (gp L d O f))):=by
 intro M w0 v0 v1 v2 hM hv0 ir hv2
 have hL:=h.1
 have hO:=h.2
 refine zJ (N:=30) Tryz.func25 rfl rfl rfl hM hv0 ir hv2 λa hI=>?_
 refine bJ hI 3 [⟨3,3,some 0,none,.ptr,24,2,true,pv _,[]⟩] [] [Uc 1 6 _,Uc 2 7 _] .z (.dr .z) ⟨bo,mv,mv,trivial⟩ (.k .z) (.C7 (.k .z)) λa w hI=>?_
 refine az ?_
 refine bJ hI 3 [] [] [Uc 0 10 _,Uc 1 11 _,Uc 2 8 _] (.k .z) (.au .z) ⟨ld,sE fJ,mv,trivial⟩ (.k .z) (.au (.n5 .z)) λa w hI=>?_
 refine bJ hI 2 [] [] [Uc 0 12 _,Uc 1 13 _] (.k .z) (.au (.k .z)) ⟨mv,bn,trivial⟩ (.k .z) (.au (.RY .z)) λa w hI=>?_
 refine kp hI (λt1=>?_) (λt1=>?_)
 ·
  refine bJ hI 3 [] [] [Uc 0 14 _,Uc 1 6 _,Uc 2 7 _] (.k .z) (.kk (.t 1 (.t 2 (.kk .z)))) ⟨mv,mv,mv,trivial⟩ (.k .z) (.e9 (.eM (.k .z))) λa w hI=>?_
  refine aI ?_
  refine aF ?_
  exact(have e:gp L d O f=eO L d:=by unfold gp; rw[if_pos t1]
  qN hI rfl (fE (hq:=ew (by rw[e,decide_eq_false t1]; rfl))) (fE (hq:=cJ e.symm)))
 ·
  have he:eO L d=0:=Decidable.not_not.1 t1
  refine aG ?_
  refine af ?_
  refine az ?_
  refine bJ hI 3 [] [] [Uc 0 15 _,Uc 1 16 _,Uc 2 9 _] (.k .z) (.au (.kk .z)) ⟨mv,sE o6,mv,trivial⟩ (.k .z) (.au (.dD (.k .z))) λa w hI=>?_
  refine bJ hI 2 [] [] [Uc 0 17 _,Uc 1 18 _] (.k .z) (.au (.k .z)) ⟨mv,bn,trivial⟩ (.k .z) (.au (.RY .z)) λa w hI=>?_
  refine kp hI (λt2=>?_) (λt2=>?_)
  ·
   refine bJ hI 3 [] [] [Uc 0 19 _,Uc 1 6 _,Uc 2 7 _] (.k .z) (.kk (.t 1 (.t 2 (.kk .z)))) ⟨mv,mv,mv,trivial⟩ (.k .z) (.e9 (.eM (.k .z))) λa w hI=>?_
   refine aI ?_
   refine aF ?_
   exact(have e:gp L d O f=cR O:=by unfold gp; rw[if_neg t1,if_pos t2]
   qN hI rfl (fE (hq:=ew (by rw[e,decide_eq_false t2]; rfl))) (fE (hq:=cJ e.symm)))
  ·
   have Pr:cR O=0:=Decidable.not_not.1 t2
   refine aG ?_
   refine af ?_
   refine az ?_
   refine bJ hI 6 [] [] [Uc 0 20 _,Uc 1 21 _,Uc 2 22 _,Uc 3 23 _,Uc 4 24 _,Uc 5 25 _] (.k .z) (.au (.kk .z)) ⟨mv,bn,mv,gd λh=>fl h,gd λh=>nh h,pk,trivial⟩ (.k .z) (.au (.dD (.eM .z))) λa w hI=>?_
   refine vB hI (λt3=>?_) (λt3=>?_)
   ·
    refine bJ hI 2 [] [] [Uc 0 6 _,Uc 1 7 _] (.k .z) (.kk (.t 0 (.t 1 (.k .z)))) ⟨mv,mv,trivial⟩ (.k .z) (.e9 (.Jx .z)) λa w hI=>?_
    refine aI ?_
    refine aF ?_
    exact(have e:gp L d O f=1:=by unfold gp; rw[if_neg t1,if_neg t2,if_pos t3]
    qN hI rfl (fE (hq:=ew (by rw[e]; rfl))) (fE (hq:=cJ e.symm)))
   ·
    refine aG ?_
    refine af ?_
    refine bJ hI 6 [] [] [Uc 0 26 _,Uc 1 27 _,Uc 2 28 _,Uc 3 29 _,Uc 4 6 _,Uc 5 7 _] (.k .z) (.kk (.t 4 (.t 5 (.k .z)))) ⟨ld,mv,mv,FE BO (hφ:=⟨hL,hO,eD (dZ he),eD Pr,by simp only[Bool.or_eq_false_iff,decide_eq_false_iff_not]at t3; omega⟩),mv,mv,trivial⟩ (.d .z) (.d8 (.Jx .z)) λa w hI=>?_
    refine aI ?_
    exact(have e:gp L d O f=0:=by unfold gp; rw[if_neg t1,if_neg t2,if_neg (by rw[t3]; exact Bool.false_ne_true)]
    qN hI rfl (fE (hq:=ew (by rw[e]; rfl))) (fE (hq:=cJ e.symm)))
end Wx
