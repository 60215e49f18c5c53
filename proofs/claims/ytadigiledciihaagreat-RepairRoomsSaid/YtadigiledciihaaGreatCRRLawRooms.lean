import Derived.Test.YtadigiledciihaaGreatCRRRep3
import Derived.Test.YtadigiledciihaaGreatJRR47
namespace Wx
set_option maxRecDepth 100000
set_option maxHeartbeats 1000000
open Go Go.RowKit Go.Proofs
set_option linter.unusedVariables false
attribute [local irreducible] OpOk
theorem mY {e w:Int} {B:Bool} (h:e=w):((decide (e=w)&&((decide (e=0)&&B)==(decide (w=0)&&B)))&&true)=true:=by subst h; simp
section
variable {L O:List Pt} {d f:Int}
theorem qi (h1:L.length<=1000) (h2:O.length<=1000) (t2:eO L d=0) (e1:cR O=0) (t3:(decide (cR O=0)&&(decide (f<1)||decide (f>2097152)))=false):L.length<=1000/\O.length<=1000/\(∀q,q<L.length->b9 16777216 (av L q))/\(∀q,q<O.length->b9 16777216 (av O q)) /\ -4194304<=f/\f<=4194304:=by
 simp only[e1,decide_true,Bool.true_and,Bool.or_eq_false_iff,decide_eq_false_iff_not]at t3
 exact⟨h1,h2,eD (dZ t2),eD e1,by omega,by omega⟩
theorem KC (t2:eO L d=0) (t3:(decide (cR O=0)&&(decide (f<1)||decide (f>2097152)))=true):gp L d O f=1:=by
 simp only[Bool.and_eq_true,decide_eq_true_eq]at t3
 unfold gp
 rw[if_neg (λhh=>hh t2),if_neg (λhh=>hh t3.1),if_pos t3.2]
theorem KD (t2:eO L d=0) (t3:(decide (cR O=0)&&(decide (f<1)||decide (f>2097152)))=false):gp L d O f=cR O:=by
 unfold gp
 rw[if_neg (λhh=>hh t2)]
 by_cases e:cR O=0
 ·simp only[e,decide_true,Bool.true_and]at t3
  rw[if_neg (λhh=>hh e),if_neg (by rw[t3]; exact Bool.false_ne_true),e]
 ·rw[if_pos e]
theorem KE (t2:¬eO L d=0):gp L d O f=eO L d:=by
 unfold gp
 rw[if_pos t2]
end
theorem Gn {L O:List Pt} {d f:Int} (_:True):K3 Tryz.prog 7 (ko L d) (fT O) (pI f) (pB true):=by
 intro M w0 v0 v1 v2 hM hv0 ir hv2
 refine zJ (N:=62) Tryz.func7 rfl rfl rfl hM hv0 ir hv2 λa hI=>?_
 refine bg hI 2 [Uc 0 3 _,Uc 1 6 _] (.dr .z) ⟨yu 2 true (hf:=eZ _ _),mv,trivial⟩ (.C7 (.k .z)) λa w hI=>?_
 refine az ?_
 refine bg hI 9 [Uc 0 10 _,Uc 1 11 _,Uc 2 12 _,Uc 3 13 _,Uc 4 14 _,Uc 5 15 _,Uc 6 16 _,Uc 7 17 _,Uc 8 18 _] (.au .z) ⟨fP 0 1 false,ld,sE Ar,nt,mv,gd λh=>fl h,gd λh=>OD h Ar,gd λh=>OL h,pk,trivial⟩ (.au (.d8 (.k .z))) λa w hI=>?_
 refine vB hI (λt1=>?_) (λt1=>?_)
 ·
  refine bg hI 2 [Uc 0 19 _,Uc 1 6 _] (.dr (.t 1 (.k .z))) ⟨Rf kY,mv,trivial⟩ (.fc (.n5 .z)) λa w hI=>?_
  refine aI ?_
  refine aF ?_
  exact cF hI rfl fE
 ·
  have hlen:L.length<=20/\O.length<=20:=by
   simp only[Bool.or_eq_false_iff,Bool.not_eq_false',decide_eq_true_eq]at t1
   omega
  refine aG ?_
  refine af ?_
  refine bg hI 9 [Uc 0 21 _,Uc 1 22 _,Uc 2 23 _,Uc 3 24 _,Uc 4 20 _,Uc 5 25 _,Uc 6 26 _,Uc 7 7 _,Uc 8 8 _] (.au (.k .z)) ⟨ld,mv,mv,FE Kb (hφ:=⟨by omega,by omega⟩),mv,ext,ext,mv,mv,trivial⟩ (.au (.d8 (.kk .z))) λa w hI=>?_
  refine bg hI 3 [Uc 0 27 _,Uc 1 28 _,Uc 2 9 _] (.au (.kk .z)) ⟨ld,sE GN (hφ:=by omega),mv,trivial⟩ (.au (.e9 (.k .z))) λa w hI=>?_
  refine az ?_
  refine bg hI 2 [Uc 0 29 _,Uc 1 30 _] (.au (.dr .z)) ⟨mv,bn,trivial⟩ (.au (.fc (.k .z))) λa w hI=>?_
  refine kp hI (λt2=>?_) (λt2=>?_)
  ·
   refine sq hI 3 [Uc 0 31 _,Uc 1 32 _,Uc 2 9 _] (.au (.kk (.t 2 (.k .z)))) ⟨mv,sE EJ (hφ:=by omega),mv,trivial⟩ (.au (.e9 (.n5 .z))) λa w hI=>?_
   refine af ?_
   refine az ?_
   refine bg hI 10 [Uc 0 33 _,Uc 1 34 _,Uc 2 35 _,Uc 3 36 _,Uc 4 37 _,Uc 5 38 _,Uc 6 39 _,Uc 7 40 _,Uc 8 41 _,Uc 9 42 _] (.au (.dr .z)) ⟨mv,bn,mv,gd λh=>fl h,gd λh=>nh h,gd λh=>fl h,qa λh=>fl h,qa λh=>nh h,gd λh=>KS h,pk,trivial⟩ (.au (.fc (.d8 (.k .z)))) λa w hI=>?_
   refine vB hI (λt3=>?_) (λt3=>?_)
   ·
    refine sq hI 1 [Uc 0 9 _] (.au (.kk (.t 0 (.k .z)))) ⟨mv,trivial⟩ (.au (.e9 (.k .z))) λa w hI=>?_
    refine af ?_
    refine bg hI 20 [Uc 0 43 _,Uc 1 44 _,Uc 2 45 _,Uc 3 46 _,Uc 4 47 _,Uc 5 48 _,Uc 6 49 _,Uc 7 50 _,Uc 8 51 _,Uc 9 52 _,Uc 10 53 _,Uc 11 54 _,Uc 12 55 _,Uc 13 56 _,Uc 14 57 _,Uc 15 58 _,Uc 16 59 _,Uc 17 60 _,Uc 18 61 _,Uc 19 6 _] (.dr (.t 19 (.dr .z))) ⟨mv,mv,bn,mv,gd λh=>fl h,gd λh=>fl h,gd λh=>nh h,gd λh=>fl h,qa λh=>JH h 0 1 false,qa λh=>jC h,qa λh=>fl h,qa λh=>fl h,qa λh=>yI h u9 (hφ:=by first|exact absurd h.2 (by decide)|exact absurd (of_decide_eq_true h.2) t2|exact qi (by omega) (by omega) t2 (of_decide_eq_true h.2) t3),gd λh=>KS h,gd λh=>eK hg hg (λ_=>rfl) (pg h rfl),pk,mv,gd λh=>FP h kY,pk,mv,trivial⟩ (.d8 (.d8 (.d8 (.n5 .z)))) λa w hI=>?_
    refine aI ?_
    exact cF hI rfl (fE (hq:=ew (mY (KC t2 t3))))
   ·
    refine aG ?_
    refine af ?_
    refine bg hI 20 [Uc 0 43 _,Uc 1 44 _,Uc 2 45 _,Uc 3 46 _,Uc 4 47 _,Uc 5 48 _,Uc 6 49 _,Uc 7 50 _,Uc 8 51 _,Uc 9 52 _,Uc 10 53 _,Uc 11 54 _,Uc 12 55 _,Uc 13 56 _,Uc 14 57 _,Uc 15 58 _,Uc 16 59 _,Uc 17 60 _,Uc 18 61 _,Uc 19 6 _] (.dr (.t 19 (.au .z))) ⟨mv,mv,bn,mv,gd λh=>fl h,gd λh=>fl h,gd λh=>nh h,gd λh=>fl h,qa λh=>JH h 0 1 false,qa λh=>jC h,qa λh=>fl h,qa λh=>fl h,qa λh=>yI h u9 (hφ:=by first|exact absurd h.2 (by decide)|exact absurd (of_decide_eq_true h.2) t2|exact qi (by omega) (by omega) t2 (of_decide_eq_true h.2) t3),gd λh=>KS h,gd λh=>eK hg hg (λ_=>rfl) (pg h rfl),pk,mv,gd λh=>FP h kY,pk,mv,trivial⟩ (.d8 (.d8 (.d8 (.eM .z)))) λa w hI=>?_
    refine aI ?_
    exact cF hI rfl (fE (hq:=ew (mY (KD t2 t3))))
  ·
   refine aG ?_
   refine af ?_
   refine az ?_
   refine bg hI 10 [Uc 0 33 _,Uc 1 34 _,Uc 2 35 _,Uc 3 36 _,Uc 4 37 _,Uc 5 38 _,Uc 6 39 _,Uc 7 40 _,Uc 8 41 _,Uc 9 42 _] (.k8 .z) ⟨mv,bn,mv,gd λh=>fl h,gd λh=>nh h,gd λh=>fl h,qa λh=>fl h,qa λh=>nh h,gd λh=>KS h,pk,trivial⟩ (.au (.fc (.d8 (.dk .z)))) λa w hI=>?_
   refine vB hI (λt4=>?_) (λt4=>?_)
   ·
    refine sq hI 1 [Uc 0 9 _] (.au (.kk (.t 0 (.k .z)))) ⟨mv,trivial⟩ (.au (.e9 (.k .z))) λa w hI=>?_
    refine af ?_
    refine bg hI 20 [Uc 0 43 _,Uc 1 44 _,Uc 2 45 _,Uc 3 46 _,Uc 4 47 _,Uc 5 48 _,Uc 6 49 _,Uc 7 50 _,Uc 8 51 _,Uc 9 52 _,Uc 10 53 _,Uc 11 54 _,Uc 12 55 _,Uc 13 56 _,Uc 14 57 _,Uc 15 58 _,Uc 16 59 _,Uc 17 60 _,Uc 18 61 _,Uc 19 6 _] (.dr (.t 19 (.dr .z))) ⟨mv,mv,bn,mv,gd λh=>fl h,gd λh=>fl h,gd λh=>nh h,gd λh=>fl h,qa λh=>JH h 0 1 false,qa λh=>jC h,qa λh=>fl h,qa λh=>fl h,qa λh=>yI h u9 (hφ:=by first|exact absurd h.2 (by decide)|exact absurd (of_decide_eq_true h.2) t2|exact qi (by omega) (by omega) t2 (of_decide_eq_true h.2) t3),gd λh=>KS h,gd λh=>eK hg hg (λ_=>rfl) (pg h rfl),pk,mv,gd λh=>FP h kY,pk,mv,trivial⟩ (.d8 (.d8 (.d8 (.n5 .z)))) λa w hI=>?_
    refine aI ?_
    exact cF hI rfl (fE (hq:=ew (mY (by simp[t2]at t4))))
   ·
    refine aG ?_
    refine af ?_
    refine bg hI 20 [Uc 0 43 _,Uc 1 44 _,Uc 2 45 _,Uc 3 46 _,Uc 4 47 _,Uc 5 48 _,Uc 6 49 _,Uc 7 50 _,Uc 8 51 _,Uc 9 52 _,Uc 10 53 _,Uc 11 54 _,Uc 12 55 _,Uc 13 56 _,Uc 14 57 _,Uc 15 58 _,Uc 16 59 _,Uc 17 60 _,Uc 18 61 _,Uc 19 6 _] (.dr (.t 19 (.au .z))) ⟨mv,mv,bn,mv,gd λh=>fl h,gd λh=>fl h,gd λh=>nh h,gd λh=>fl h,qa λh=>JH h 0 1 false,qa λh=>jC h,qa λh=>fl h,qa λh=>fl h,qa λh=>yI h u9 (hφ:=by first|exact absurd h.2 (by decide)|exact absurd (of_decide_eq_true h.2) t2|exact qi (by omega) (by omega) t2 (of_decide_eq_true h.2) t3),gd λh=>KS h,gd λh=>eK hg hg (λ_=>rfl) (pg h rfl),pk,mv,gd λh=>FP h kY,pk,mv,trivial⟩ (.d8 (.d8 (.d8 (.eM .z)))) λa w hI=>?_
    refine aI ?_
    exact cF hI rfl (fE (hq:=ew (mY (KE t2))))
end Wx
