import Derived.Test.YtadigiledciihaaGreatJRA47
namespace Wx
set_option maxRecDepth 100000
set_option maxHeartbeats 1000000
open Go Go.RowKit Go.Proofs
set_option linter.unusedVariables false
attribute [local irreducible] OpOk
section
variable {K L:List Pt} {k l f w:Int}
theorem wI (h:cE K k L l f=w):((decide (cE K k L l f=w)&&((decide (cE K k L l f=0)&&gV K L f)==(decide (w=0)&&lK K L f)))&&true)=true:=by subst h; rw[DT]; simp
theorem Of (t2:ct K k=0) (t3:(decide (ct L l=0)&&(decide (f<1)||decide (f>2097152)))=true):cE K k L l f=1:=by
 simp only[Bool.and_eq_true,decide_eq_true_eq]at t3
 exact KB ⟨t2,t3.1⟩ t3.2
theorem Og (t2:ct K k=0) (t3:(decide (ct L l=0)&&(decide (f<1)||decide (f>2097152)))=false):cE K k L l f=ct L l:=by
 by_cases e:ct L l=0
 ·rw[decide_eq_true e,Bool.true_and]at t3
  rw[e]
  exact KA ⟨t2,e⟩ t3
 ·unfold cE
  rw[if_neg λhh=>hh t2,if_pos e]
theorem Oh (t2:¬ct K k=0):cE K k L l f=ct K k:=by unfold cE; rw[if_pos t2]
theorem wm (t2:ct K k=0) (e:ct L l=0) (t3:(decide (ct L l=0)&&(decide (f<1)||decide (f>2097152)))=false):(0<K.length/\K.length<=1000)/\(0<L.length/\L.length<=1000)/\(∀q,q<K.length->bu 16777216 (aj K q))/\(∀q,q<L.length->bu 16777216 (aj L q)) /\ -4194304<=f/\f<=4194304:=by
 rw[decide_eq_true e,Bool.true_and]at t3
 exact KC ⟨t2,e⟩ t3
end
theorem GA {K L:List Pt} {k l f:Int} (_:True):K3 Tryz.prog 5 (ko K k) (ko L l) (pI f) (pB true):=by
 intro M w0 v0 v1 v2 hM hv0 fW hv2
 refine xP (N:=64) Tryz.func5 rfl rfl rfl hM hv0 fW hv2 λa hI=>?_
 refine aZ hI 3 [Uc 0 3 _,Uc 1 4 _,Uc 2 6 _] (.cQ .z) ⟨xR 2 true (hf:=dn _ _),xR 2 true (hf:=dn _ _),mv,trivial⟩ (.pX (.kk .z)) λa w hI=>?_
 refine aq ?_
 refine aZ hI 10 [Uc 0 10 _,Uc 1 11 _,Uc 2 12 _,Uc 3 13 _,Uc 4 14 _,Uc 5 15 _,Uc 6 16 _,Uc 7 17 _,Uc 8 18 _,Uc 9 19 _] (.au .z) ⟨fP 0 1 false,ld,um CN,nt,mv,gd λh=>Fo h 0 1 false,gd λh=>dw h,gd λh=>RG h CN,gd λh=>T5 h,pk,trivial⟩ (.au (.d8 (.dk .z))) λa w hI=>?_
 refine tY hI (λt1=>?_) (λt1=>?_)
 ·
  refine aZ hI 2 [Uc 0 20 _,Uc 1 6 _] (.cQ (.t 1 (.k .z))) ⟨T3 mh,mv,trivial⟩ (.eG (.nk .z)) λa w hI=>?_
  refine aF ?_
  refine aB ?_
  exact bL hI rfl fh
 ·
  have hlen:K.length<=20/\L.length<=20:=by
   simp only[Bool.or_eq_false_iff,Bool.not_eq_false',decide_eq_true_eq]at t1
   omega
  refine aG ?_
  refine af ?_
  refine aZ hI 9 [Uc 0 22 _,Uc 1 23 _,Uc 2 24 _,Uc 3 25 _,Uc 4 21 _,Uc 5 26 _,Uc 6 27 _,Uc 7 7 _,Uc 8 8 _] (.au (.k .z)) ⟨ld,ld,mv,AL Jk (hφ:=⟨by omega,by omega⟩),mv,ext,ext,mv,mv,trivial⟩ (.au (.d8 (.kk .z))) λa w hI=>?_
  refine aZ hI 3 [Uc 0 28 _,Uc 1 29 _,Uc 2 9 _] (.au (.kk .z)) ⟨ld,um Dg (hφ:=by omega),mv,trivial⟩ (.au (.eu (.k .z))) λa w hI=>?_
  refine aq ?_
  refine aZ hI 2 [Uc 0 30 _,Uc 1 31 _] (.au (.cQ .z)) ⟨mv,bn,trivial⟩ (.au (.eG (.k .z))) λa w hI=>?_
  refine jK hI (λt2=>?_) (λt2=>?_)
  ·
   refine qR hI 3 [Uc 0 32 _,Uc 1 33 _,Uc 2 9 _] (.au (.kk (.t 2 (.k .z)))) ⟨ld,um Dg (hφ:=by omega),mv,trivial⟩ (.au (.eu (.nk .z))) λa w hI=>?_
   refine af ?_
   refine aq ?_
   refine aZ hI 10 [Uc 0 34 _,Uc 1 35 _,Uc 2 36 _,Uc 3 37 _,Uc 4 38 _,Uc 5 39 _,Uc 6 40 _,Uc 7 41 _,Uc 8 42 _,Uc 9 43 _] (.au (.cQ .z)) ⟨mv,bn,mv,gd λh=>fQ h,gd λh=>lB h,gd λh=>fQ h,pK λh=>fQ h,pK λh=>lB h,gd λh=>NN h,pk,trivial⟩ (.au (.eG (.d8 (.k .z)))) λa w hI=>?_
   refine tY hI (λt3=>?_) (λt3=>?_)
   ·
    refine qR hI 1 [Uc 0 9 _] (.au (.kk (.t 0 (.k .z)))) ⟨mv,trivial⟩ (.au (.eu (.k .z))) λa w hI=>?_
    refine af ?_
    refine aZ hI 21 [Uc 0 44 _,Uc 1 45 _,Uc 2 46 _,Uc 3 47 _,Uc 4 48 _,Uc 5 49 _,Uc 6 50 _,Uc 7 51 _,Uc 8 52 _,Uc 9 53 _,Uc 10 54 _,Uc 11 55 _,Uc 12 56 _,Uc 13 57 _,Uc 14 58 _,Uc 15 59 _,Uc 16 60 _,Uc 17 61 _,Uc 18 62 _,Uc 19 63 _,Uc 20 6 _] (.cQ (.t 20 (.cQ .z))) ⟨mv,mv,bn,mv,gd λh=>fQ h,gd λh=>fQ h,gd λh=>lB h,gd λh=>fQ h,pK λh=>Fo h 0 1 false,pK λh=>dw h,pK λh=>Fo h 0 1 false,pK λh=>dw h,pK λh=>fQ h,pK λh=>oA h rF (hφ:=by first|exact absurd h.2 (by decide)|exact absurd (of_decide_eq_true h.2) t2|exact wm t2 (of_decide_eq_true h.2) t3),gd λh=>NN h,gd λh=>fF hg hg (λ_=>rfl) (pg h rfl),pk,mv,gd λh=>Jm h mh,pk,mv,trivial⟩ (.d8 (.d8 (.d8 (.eY .z)))) λa w hI=>?_
    refine aF ?_
    exact bL hI rfl (fh (hq:=cT (wI (Of t2 t3))))
   ·
    refine aG ?_
    refine af ?_
    refine aZ hI 21 [Uc 0 44 _,Uc 1 45 _,Uc 2 46 _,Uc 3 47 _,Uc 4 48 _,Uc 5 49 _,Uc 6 50 _,Uc 7 51 _,Uc 8 52 _,Uc 9 53 _,Uc 10 54 _,Uc 11 55 _,Uc 12 56 _,Uc 13 57 _,Uc 14 58 _,Uc 15 59 _,Uc 16 60 _,Uc 17 61 _,Uc 18 62 _,Uc 19 63 _,Uc 20 6 _] (.cQ (.t 20 (.au .z))) ⟨mv,mv,bn,mv,gd λh=>fQ h,gd λh=>fQ h,gd λh=>lB h,gd λh=>fQ h,pK λh=>Fo h 0 1 false,pK λh=>dw h,pK λh=>Fo h 0 1 false,pK λh=>dw h,pK λh=>fQ h,pK λh=>oA h rF (hφ:=by first|exact absurd h.2 (by decide)|exact absurd (of_decide_eq_true h.2) t2|exact wm t2 (of_decide_eq_true h.2) t3),gd λh=>NN h,gd λh=>fF hg hg (λ_=>rfl) (pg h rfl),pk,mv,gd λh=>Jm h mh,pk,mv,trivial⟩ (.d8 (.d8 (.d8 (.bX (.k .z))))) λa w hI=>?_
    refine aF ?_
    exact bL hI rfl (fh (hq:=cT (wI (Og t2 t3))))
  ·
   refine aG ?_
   refine af ?_
   refine aq ?_
   refine aZ hI 10 [Uc 0 34 _,Uc 1 35 _,Uc 2 36 _,Uc 3 37 _,Uc 4 38 _,Uc 5 39 _,Uc 6 40 _,Uc 7 41 _,Uc 8 42 _,Uc 9 43 _] (.k8 .z) ⟨mv,bn,mv,gd λh=>fQ h,gd λh=>lB h,gd λh=>fQ h,pK λh=>fQ h,pK λh=>lB h,gd λh=>NN h,pk,trivial⟩ (.au (.eG (.d8 (.dk .z)))) λa w hI=>?_
   refine tY hI (λt4=>?_) (λt4=>?_)
   ·
    refine qR hI 1 [Uc 0 9 _] (.au (.kk (.t 0 (.k .z)))) ⟨mv,trivial⟩ (.au (.eu (.k .z))) λa w hI=>?_
    refine af ?_
    refine aZ hI 21 [Uc 0 44 _,Uc 1 45 _,Uc 2 46 _,Uc 3 47 _,Uc 4 48 _,Uc 5 49 _,Uc 6 50 _,Uc 7 51 _,Uc 8 52 _,Uc 9 53 _,Uc 10 54 _,Uc 11 55 _,Uc 12 56 _,Uc 13 57 _,Uc 14 58 _,Uc 15 59 _,Uc 16 60 _,Uc 17 61 _,Uc 18 62 _,Uc 19 63 _,Uc 20 6 _] (.cQ (.t 20 (.cQ .z))) ⟨mv,mv,bn,mv,gd λh=>fQ h,gd λh=>fQ h,gd λh=>lB h,gd λh=>fQ h,pK λh=>Fo h 0 1 false,pK λh=>dw h,pK λh=>Fo h 0 1 false,pK λh=>dw h,pK λh=>fQ h,pK λh=>oA h rF (hφ:=by first|exact absurd h.2 (by decide)|exact absurd (of_decide_eq_true h.2) t2|exact wm t2 (of_decide_eq_true h.2) t3),gd λh=>NN h,gd λh=>fF hg hg (λ_=>rfl) (pg h rfl),pk,mv,gd λh=>Jm h mh,pk,mv,trivial⟩ (.d8 (.d8 (.d8 (.eY .z)))) λa w hI=>?_
    refine aF ?_
    exact bL hI rfl (fh (hq:=cT (wI (by simp[t2]at t4))))
   ·
    refine aG ?_
    refine af ?_
    refine aZ hI 21 [Uc 0 44 _,Uc 1 45 _,Uc 2 46 _,Uc 3 47 _,Uc 4 48 _,Uc 5 49 _,Uc 6 50 _,Uc 7 51 _,Uc 8 52 _,Uc 9 53 _,Uc 10 54 _,Uc 11 55 _,Uc 12 56 _,Uc 13 57 _,Uc 14 58 _,Uc 15 59 _,Uc 16 60 _,Uc 17 61 _,Uc 18 62 _,Uc 19 63 _,Uc 20 6 _] (.cQ (.t 20 (.au .z))) ⟨mv,mv,bn,mv,gd λh=>fQ h,gd λh=>fQ h,gd λh=>lB h,gd λh=>fQ h,pK λh=>Fo h 0 1 false,pK λh=>dw h,pK λh=>Fo h 0 1 false,pK λh=>dw h,pK λh=>fQ h,pK λh=>oA h rF (hφ:=by first|exact absurd h.2 (by decide)|exact absurd (of_decide_eq_true h.2) t2|exact wm t2 (of_decide_eq_true h.2) t3),gd λh=>NN h,gd λh=>fF hg hg (λ_=>rfl) (pg h rfl),pk,mv,gd λh=>Jm h mh,pk,mv,trivial⟩ (.d8 (.d8 (.d8 (.bX (.k .z))))) λa w hI=>?_
    refine aF ?_
    exact bL hI rfl (fh (hq:=cT (wI (Oh t2))))
end Wx
