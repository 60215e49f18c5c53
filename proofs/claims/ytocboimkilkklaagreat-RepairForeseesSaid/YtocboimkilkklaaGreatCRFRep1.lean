import Derived.Test.YtocboimkilkklaaGreatJRF28
namespace Wx
set_option maxRecDepth 100000
set_option maxHeartbeats 1000000
open Go Go.RowKit Go.Proofs
set_option linter.unusedVariables false
attribute [local irreducible] OpOk
abbrev Pt:=Int×Int
def gK (p:Pt):Pred:=pS [⟨false,1,pI p.1⟩,⟨false,1,pI p.2⟩]
def aI (L:List Pt) (i:Nat):Pt:=L.getD i (0,0)
abbrev lU (L:List Pt):Pred:=dK 2 true L.length λi=>gK (aI L i)
def gL (B:Int) (p:Pt):Prop :=-B<=p.1/\p.1<=B /\ -B<=p.2/\p.2<=B
def iF (a b c:Pt):Int:=(b.1-a.1)*(c.2-a.2)-(b.2-a.2)*(c.1-a.1)
def zA (n k:Nat):Nat:=(k+1)%n
theorem Po (n k:Nat):((k:Int)+1)%(n:Int)=((zA n k:Nat):Int):=by unfold zA; rw[Int.natCast_emod]; rfl
def wA (φ:Prop) (p:Pred):Pred:=λw v=>φ/\p w v
theorem qc {c:eL} {V:List Vr} {G:List bI} {a:Act} {w:World} {i s T n:Nat} {ag:Bool} {φ:Prop} {q:Pred} (hI:Inv c V [] G none_ a w) (k:Nat) (hk:V[k]?=some (Vz i s T n ag (wA φ q))):φ:=by
 obtain⟨β,h⟩:=hI
 obtain⟨g,e,h1,hb⟩:=(cC rfl).1 (h.var _ (List.mem_of_getElem? hk) rfl)
 obtain⟨cs,k1,k2,k3,k4⟩:=hb.held
 have h4:aL (own c V none_ β) (λw=>wA φ q w (aA ag cs)) w:=k4
 exact h4.out.1
theorem CC {a b c:Pt} (h:gL 16777216 a/\gL 16777216 b/\gL 16777216 c):K3 Tryz.prog 94 (gK a) (gK b) (gK c) (pI (iF a b c)):=by
 intro M w0 v0 v1 v2 hM hv0 gb hv2
 obtain⟨⟨a1,a2,a3,a4⟩,⟨b1,b2,b3,b4⟩,c1,c2,c3,c4⟩:=h
 have m1:=Jf 33554432 (p:=b.1-a.1) (q:=c.2-a.2) (by omega) (by omega) (by omega) (by omega)
 have m2:=Jf 33554432 (p:=b.2-a.2) (q:=c.1-a.1) (by omega) (by omega) (by omega) (by omega)
 refine PS (N:=30) Tryz.func94 rfl rfl rfl hM hv0 gb hv2 λa hI=>?_
 refine dQ hI 4 [⟨3,3,some 0,none,.ptr,68,2,true,pv _,[]⟩,⟨4,4,some 1,none,.ptr,68,2,true,pv _,[]⟩,⟨5,5,some 2,none,.ptr,68,2,true,pv _,[]⟩] [] [Uc 3 6 _] .z (.fS .z) ⟨bo,bo,bo,mv,trivial⟩ (.k (.k (.k .z))) (.gV .z) λa w hI=>?_
 refine dQ hI 24 [] [⟨some 0,7,4,0,True⟩,⟨some 2,9,3,0,True⟩,⟨some 5,12,5,1,True⟩,⟨some 7,14,3,1,True⟩,⟨some 11,18,4,1,True⟩,⟨some 13,20,3,1,True⟩,⟨some 16,23,5,0,True⟩,⟨some 18,25,3,0,True⟩] [Uc 1 8 _,Uc 3 10 _,Uc 4 11 _,Uc 6 13 _,Uc 8 15 _,Uc 9 16 _,Uc 10 17 _,Uc 12 19 _,Uc 14 21 _,Uc 15 22 _,Uc 17 24 _,Uc 19 26 _,Uc 20 27 _,Uc 21 28 _,Uc 22 29 _,Uc 23 6 _] (.k (.k (.k .z))) (.t 23 .z) ⟨fa,ld,fa,ld,bn,fa,ld,fa,ld,bn,bn,fa,ld,fa,ld,bn,fa,ld,fa,ld,bn,bn,bn,mv,trivial⟩ (.d (.d (.d .z))) (.d8 (.d8 (.k .z))) λa w hI=>?_
 refine bL ?_
 exact dx hI rfl pC
variable {L:List Pt}
theorem I2 (h:L.length<=1000) (u:Value):G8 Tryz.prog 133 #[u] L.length (λk=>pI (k:Int)) (λk=>pI ((zA L.length k:Nat):Int)) (Hs 1 false (lU L) #[u]):=by
 intro σ l M Bs J X s0 w0 hM hB hN hJ hc hr
 refine ZK (N:=19) Tryz.func133 rfl rfl hM hB hN hJ (Ht hc) λa hI=>?_
 refine dQ hI 3 [] [] [Uc 0 4 _,Uc 1 5 _,Uc 2 6 _] (.k .z) (.kk .z) ⟨ld,ln,mv,trivial⟩ (.k .z) (.ry (.k .z)) λa w hI=>?_
 refine bN ?_
 refine GV [] [Uz 0 _,Uz 1 _,Uz 5 _] (λ(i:Nat×σ)=>[jV 19 (Bs i.2) (J i.1 i.2)]) (λ(i:Nat×σ)=>[Uz 6 (pI (i.1:Int))]) (λ(i:Nat×σ)=>i.1<=L.length) (λ(i:Nat×σ)=>L.length-i.1) ((0,s0)) (Nat.zero_le _) hI ⟨vJ,trivial⟩ ⟨gi,gi,gi,gc,trivial⟩ ?_
 intro i a w hi hI
 refine dQ hI 1 [] [] [Uc 0 7 _] (.k .z) (.aK .z) ⟨bn,trivial⟩ (.k .z) (.aK (.k .z)) λa w hI=>?_
 refine aU ?_
 refine sC hI (λt1=>?_) (λt1=>?_)
 ·
  refine bD ?_
  refine aj ?_
  refine aU ?_
  refine bN ?_
  refine dQ hI 2 [] [] [Uc 0 8 _,Uc 1 3 _] (.k .z) (.aK (.k .z)) ⟨mv,mv,trivial⟩ (.k .z) (.aK (.we .z)) λa w hI=>?_
  refine Ks (n0:=0) (nv:=[]) (A1:=[]) (ne:=[Uc 0 9 _,Uc 1 10 _,Uc 2 11 _,Uc 3 12 _,Uc 4 13 _,Uc 5 14 _,Uc 6 15 _]) Bs (λb s'=>if b then J (i.1+1) s' else X s') 7 hI (.k .z) (.aK (.k .z)) ⟨mv,mv,mv,bn,ld,ln,rm,trivial⟩ (.k .z) (.aK (.TR (.gV .z))) rfl rfl rfl rfl rfl (λM' w' u0 u1 k1 k2 k3 k4 k5 k6=>hr i.1 i.2 M' w' u0 u1 (by omega) k1 k2 k3 k4 k5 (k6.imp λw h=>fl (Po _ _) w u1 h)) (λb s' a w hI=>?_)
  dsimp only[List.set]at hI
  refine Kl hI (λt2=>?_) (λt2=>?_)
  ·
   obtain rfl:b=false:=by simpa using t2
   refine bL ?_
   refine dz ?_
   refine bM ?_
   refine bM ?_
   refine dz ?_
   exact QS (n0:=0) hI rfl rfl λh1 h2 h3 h4=>⟨_,s',rfl,h1,h2,h3,.inr h4⟩
  ·
   obtain rfl:b=true:=by simpa using t2
   refine bD ?_
   refine cz ?_
   refine aj ?_
   refine GY hI 2 [] [] [Uc 0 18 _,Uc 1 6 _] (.k .z) (.aK (.k (.t 1 (.fS .z)))) ⟨bn,mv,trivial⟩ (.k .z) (.yw (.lM (.we .z))) λa w hI=>?_
   refine aj ?_
   exact GR ((i.1+1,s')) (by(show i.1+1<=L.length); omega) hI ⟨vJ,trivial⟩ ⟨gc,gc,gc,gc,trivial⟩ (by(show L.length-(i.1+1)<L.length-i.1); omega)
 ·
  refine gz ?_
  refine bw ?_
  refine bw ?_
  refine cM ?_
  exact QT (n0:=0) hI rfl rfl λh1 h2 h3 h4=>⟨_,i.2,rfl,h1,h2,h3,.inl (by(have e:i.1=L.length:=by omega); rw[e]at h4; exact h4)⟩
theorem D8 (h:L.length<=1000):K1 Tryz.prog 93 (lU L) (JM Tryz.prog L.length (λk=>pI (k:Int)) (λk=>pI ((zA L.length k:Nat):Int)) (Hs 1 false (lU L))):=by
 intro M w0 v0 hM hv0
 refine Dj (N:=4) Tryz.func93 rfl rfl rfl hM hv0 λa hI=>?_
 refine eu hI 2 [Uc 0 1 _,Uc 1 2 _] (.k .z) ⟨EZ 1 false,mv,trivial⟩ (.QH .z) λa w hI=>?_
 refine eu hI 2 [Uc 0 3 _,Uc 1 2 _] (.k (.t 1 .z)) ⟨Xu,mv,trivial⟩ (.gV .z) λa w hI=>?_
 refine bL ?_
 exact dx hI rfl (pC (hq:=KT (λ_ _=>by kernel_rfl) λu=>I2 h u))
def La (x:Int):Bool:=decide (x < -1048576)||decide (x>1048576)
def Ik (p:Pt):Bool:=La p.1||La p.2
variable {p:Pt}
theorem xb (h:Ik p=false):gL 16777216 p:=by
 unfold Ik La at h
 simp only[Bool.or_eq_false_iff,decide_eq_false_iff_not]at h
 unfold gL
 omega
def rq (f:Nat->Bool):Nat->Int
 |0 => -1
 |n+1=>if 0<=rq f n then rq f n else if f n=true then(n:Int)else -1
theorem uo {f:Nat->Bool}:∀{n:Nat},(∀q,q<n->f q=false)->rq f n = -1
 |0,_=>rfl
 |n+1,h=>by
  show(if 0<=rq f n then rq f n else if f n=true then(n:Int)else -1) = -1
  rw[uo λq hq=>h q (by omega),if_neg (by omega),if_neg (by rw[h n (by omega)]; exact Bool.false_ne_true)]
theorem D4 {f:Nat->Bool} {i:Nat} (hn:f i=true) (h:∀q,q<i->f q=false):∀{n:Nat},i<n->rq f n=(i:Int)
 |n+1,hi=>by
  show(if 0<=rq f n then rq f n else if f n=true then(n:Int)else -1)=_
  by_cases e:i=n
  ·subst e
   rw[uo h,if_neg (by omega),if_pos hn]
  ·rw[D4 hn h (show i<n by omega),if_pos (by omega)]
theorem uq {f:Nat->Bool}:∀{n:Nat},¬0<=rq f n->∀q,q<n->f q=false
 |n+1,h,q,hq=>by
  have h1:¬0<=(if 0<=rq f n then rq f n else if f n=true then(n:Int)else -1):=h
  by_cases h2:0<=rq f n
  ·rw[if_pos h2]at h1; exact absurd h2 h1
  ·rw[if_neg h2]at h1
   by_cases h3:f n=true
   ·rw[if_pos h3]at h1; omega
   ·by_cases e:q=n
    ·rw[e]; simpa using h3
    ·exact uq h2 q (by omega)
abbrev tT (L:List Pt) (k:Nat):Prop:=∀i,i<L.length->i≠k->i≠zA L.length k->0<iF (aI L k) (aI L (zA L.length k)) (aI L i)
def Ij (L:List Pt):Int:=rq (λi=>Ik (aI L i)) L.length
def AR (L:List Pt):Bool:=decide ((L.length:Int)<3)||decide ((L.length:Int)>10)
def lp (L:List Pt):Int:=if AR L then 4 else if Ij L>=0 then 1 else if ∀k,k<L.length->tT L k then 0 else 7
theorem I4 {x:Int} (_:True):K1 Tryz.prog 130 (pI x) (pB (La x)):=by
 intro M w0 v0 hM hv0
 refine Dj (N:=9) Tryz.func130 rfl rfl rfl hM hv0 λa hI=>?_
 refine eu hI 1 [Uc 0 2 _] (.k .z) ⟨mv,trivial⟩ (.kk .z) λa w hI=>?_
 refine eu hI 7 [Uc 0 3 _,Uc 1 4 _,Uc 2 5 _,Uc 3 6 _,Uc 4 7 _,Uc 5 8 _,Uc 6 2 _] (.k (.t 6 .z)) ⟨mv,bn,mv,gd λh=>Fk h,gd λh=>DW h,pk,mv,trivial⟩ (.d8 (.k .z)) λa w hI=>?_
 refine bL ?_
 exact dx hI rfl pC
theorem LC (_:True):K2 Tryz.prog 132 (gK p) (fL 1 false (cI (.func (.func 130) #[] #[]))) (pB (Ik p)):=by
 intro M w0 v0 v1 hM hv0 gb
 refine Dk (N:=14) Tryz.func132 rfl rfl rfl hM hv0 gb λa hI=>?_
 refine dQ hI 2 [⟨2,2,some 0,none,.ptr,68,2,true,pv _,[]⟩] [] [Uc 1 3 _] .z (.kk .z) ⟨bo,mv,trivial⟩ (.k .z) (.QH .z) λa w hI=>?_
 refine dQ hI 11 [] [⟨some 1,5,2,0,True⟩,⟨some 6,10,2,1,_⟩] [Uc 0 4 _,Uc 2 6 _,Uc 3 7 _,Uc 4 8 _,Uc 5 9 _,Uc 7 11 _,Uc 8 12 _,Uc 9 13 _,Uc 10 3 _] (.k .z) (.k (.t 10 .z)) ⟨ZC,fa,ld,WB I4,mv,gd λh=>T4 h,gd λh=>Lg h,gd λh=>yF h,gd λh=>T1 h I4,pk,mv,trivial⟩ (.d .z) (.d8 (.we .z)) λa w hI=>?_
 refine bL ?_
 exact dx hI rfl pC
theorem I5 (h:L.length<=1000):K2 Tryz.prog 150 (lU L) (Gi 132 1 false (cI (.func (.func 130) #[] #[]))) (pI (Ij L)):=by
 intro M w0 v0 v1 hM hv0 gb
 refine Dk (N:=19) Tryz.func150 rfl rfl rfl hM hv0 gb λa hI=>?_
 refine eu hI 1 [Uc 0 4 _] (.kk .z) ⟨mv,trivial⟩ (.fS .z) λa w hI=>?_
 refine aU ?_
 refine eu hI 3 [Uc 0 6 _,Uc 1 7 _,Uc 2 8 _] (.fS .z) ⟨mv,ln,mv,trivial⟩ (.lN (.kk .z)) λa w hI=>?_
 refine bN ?_
 refine GV [] [Uz 0 _,Uz 1 _,Uz 7 _] (λ(i:Nat)=>[]) (λ(i:Nat)=>[Uz 8 (pI (i:Int))]) (λ(i:Nat)=>i<=L.length/\∀q,q<i->Ik (aI L q)=false) (λ(i:Nat)=>L.length-i) (0) ⟨Nat.zero_le _,λ_ h=>absurd h (Nat.not_lt_zero _)⟩ hI trivial ⟨gi,gi,gi,gc,trivial⟩ ?_
 intro i a w hi hI
 refine eu hI 1 [Uc 0 9 _] (.aK .z) ⟨bn,trivial⟩ (.aK (.k .z)) λa w hI=>?_
 refine aU ?_
 refine sC hI (λt1=>?_) (λt1=>?_)
 ·
  refine bD ?_
  refine aj ?_
  refine aU ?_
  refine bN ?_
  refine eu hI 2 [Uc 0 10 _,Uc 1 5 _] (.aK (.k .z)) ⟨mv,mv,trivial⟩ (.aK (.we .z)) λa w hI=>?_
  refine eu hI 6 [Uc 0 11 _,Uc 1 12 _,Uc 2 13 _,Uc 3 14 _,Uc 4 15 _,Uc 5 16 _] (.aK (.k .z)) ⟨mv,mv,mv,ix,ld,Ye (λ_ _=>by kernel_rfl) (LC trivial),trivial⟩ (.aK (.lM (.we .z))) λa w hI=>?_
  refine Kl hI (λt2=>?_) (λt2=>?_)
  ·
   refine eu hI 2 [Uc 0 17 _,Uc 1 4 _] (.aK (.kk .z)) ⟨mv,mv,trivial⟩ (.aK (.gV .z)) λa w hI=>?_
   refine bL ?_
   refine dz ?_
   refine bM ?_
   refine bM ?_
   refine dz ?_
   refine bM ?_
   exact dx hI rfl (pC (hq:=fl (D4 t2 hi.2 (by omega)).symm))
  ·
   refine bD ?_
   refine cz ?_
   refine aj ?_
   refine Kq hI 2 [Uc 0 18 _,Uc 1 8 _] (.fS (.t 1 (.kk .z))) ⟨bn,mv,trivial⟩ (.lN (.gV .z)) λa w hI=>?_
   refine aj ?_
   exact GR (i+1) ⟨by omega,λq hq=>if e:q=i then by rw[e]; exact t2 else hi.2 q (by omega)⟩ hI trivial ⟨gc,gc,gc,gc,trivial⟩ (by omega)
 ·
  refine gz ?_
  refine bw ?_
  refine bw ?_
  refine cM ?_
  refine aj ?_
  refine eu hI 1 [Uc 0 4 _] (.aK (.k .z)) ⟨mv,trivial⟩ (.ek (.dk .z)) λa w hI=>?_
  refine bL ?_
  exact dx hI rfl (pC (hq:=fl (uo λq hq=>hi.2 q (by omega)).symm))
theorem AP (h:L.length<=1000):K2 Tryz.prog 131 (lU L) (Gi 132 1 false (cI (.func (.func 130) #[] #[]))) (pB (decide (Ij L>=0))):=by
 intro M w0 v0 v1 hM hv0 gb
 refine Dk (N:=9) Tryz.func131 rfl rfl rfl hM hv0 gb λa hI=>?_
 refine eu hI 1 [Uc 0 4 _] (.kk .z) ⟨mv,trivial⟩ (.fS .z) λa w hI=>?_
 refine eu hI 5 [Uc 0 5 _,Uc 1 6 _,Uc 2 7 _,Uc 3 8 _,Uc 4 4 _] (.kk (.t 4 .z)) ⟨mv,mv,zx I5,bn,mv,trivial⟩ (.ek (.gV .z)) λa w hI=>?_
 refine bL ?_
 exact dx hI rfl pC
theorem AM (h:L.length<=1000):K1 Tryz.prog 92 (lU L) (pI (lp L)):=by
 intro M w0 v0 hM hv0
 refine Wa (N:=52) Tryz.func92 rfl rfl hM hv0 λa hI=>?_
 refine dQ hI 2 [⟨2,2,some 1,none,.ptr,44,1,false,pv _,[]⟩] [] [Uc 0 1 _] .z (.k .z) ⟨EZ 1 false,Pg .i,trivial⟩ (.k .z) (.dk .z) λa w hI=>?_
 refine aU ?_
 refine dQ hI 8 [] [] [Uc 0 8 _,Uc 1 9 _,Uc 2 10 _,Uc 3 11 _,Uc 4 12 _,Uc 5 13 _,Uc 6 14 _,Uc 7 15 _] (.k .z) (.k .z) ⟨ld,ln,bn,mv,gd λh=>yF h,gd λh=>WE h,gd λh=>DW h,pk,trivial⟩ (.k .z) (.lM (.ek (.k .z))) λa w hI=>?_
 refine Kl hI (λt1=>?_) (λt1=>?_)
 ·
  refine dQ hI 1 [] [] [] (.u none [(0,pv _)] .z) (.kk .z) ⟨nw,trivial⟩ (.s .o .z) (.kd .z) λa w hI=>?_
  refine bL ?_
  refine bM ?_
  exact MO hI rfl (BQ (hq:=fl (by unfold lp AR; rw[if_pos t1])))
 ·
  refine bD ?_
  refine aj ?_
  refine dQ hI 2 [⟨3,3,some 0,none,.ptr,176,1,false,pv _,[(1,pv _)]⟩] [] [] (.k .z) (.kk .z) ⟨X3,sZ rfl rfl hs rfl rfl (dX (by kernel_rfl)) (yD _) (by kernel_rfl),trivial⟩ (.k (.s .o .z)) (.kd .z) λa w hI=>?_
  have hI:=PN hI 1 rfl (by kernel_rfl)
  dsimp only[List.eraseIdx]at hI
  refine aU ?_
  refine dQ hI 3 [] [] [Uc 0 16 _,Uc 1 17 _,Uc 2 18 _] (.k .z) (.kk .z) ⟨ld,Xu,zx AP,trivial⟩ (.k .z) (.QG (.k .z)) λa w hI=>?_
  refine sC hI (λt2=>?_) (λt2=>?_)
  ·
   refine dQ hI 1 [] [] [] (.u none [(0,pv _)] .z) (.kk .z) ⟨nw,trivial⟩ (.s .o .z) (.kd .z) λa w hI=>?_
   refine bL ?_
   refine bM ?_
   exact MO hI rfl (BQ (hq:=fl (by unfold lp AR; rw[if_neg (by rw[t1]; exact Bool.false_ne_true),if_pos t2])))
  ·
   have UM:¬0<=Ij L:=t2
   have hn:∀q,q<L.length->gL 16777216 (aI L q):=λq hq=>xb (uq UM q hq)
   refine bD ?_
   refine aj ?_
   refine aU ?_
   refine dQ hI 2 [] [] [Uc 0 19 _,Uc 1 20 _] (.k .z) (.kk .z) ⟨ld,vY D8,trivial⟩ (.k .z) (.CA .z) λa w hI=>?_
   refine bN ?_
   refine BL (y0:=21) (y1:=22) (τ:=Unit) (λk t=>[Vz 2 2 44 1 false (wA (∀q,q<k->tT L q) dr)]) (λcd t=>[Vz 2 2 44 1 false (wA (cd=.ret/\¬ ∀q,q<L.length->tT L q) (pI 7))]) [Uz 1 _,Uz 20 _] [1,2,20] () (hI.cv ⟨vC (λ_ _ _=>⟨λ_ h=>absurd h (Nat.not_lt_zero _),trivial⟩),trivial⟩ ⟨gc,gc,trivial⟩) rfl (λ_ _=>by kernel_rfl) (λ_ _=>by kernel_rfl) (by kernel_rfl) (by kernel_rfl) (by kernel_rfl) (λk t w0 M1 B1 a w D l r hk hr hI=>?_) (λt w D l r hI=>?_) (λcd t w D l r hI=>?_)
   ·
    dsimp only[List.append,List.map,HAppend.hAppend,Append.append,K6]at hI
    refine dQ hI 1 [] [] [Uc 0 4 _] (.k (.k .z)) (.aK (.fS .z)) ⟨mv,trivial⟩ (.k (.k .z)) (.k8 .z) λa w hI=>?_
    refine GY hI 1 [] [] [Uc 0 5 _] (.k (.k .z)) (.k8 .z) ⟨mv,trivial⟩ (.k (.k .z)) (.k8 (.k .z)) λa w hI=>?_
    refine aj ?_
    refine Hh hI 1 hr (λw hI=>?_)
    dsimp only[List.set]at hI
    have hx:zA L.length k<L.length:=Nat.mod_lt _ (by omega)
    refine bN ?_
    refine dQ hI 3 [] [] [Uc 0 23 _,Uc 1 24 _,Uc 2 25 _] (.k (.k .z)) (.k8 (.k .z)) ⟨ld,ln,mv,trivial⟩ (.k (.k .z)) (.k8 (.aK .z)) λa w hI=>?_
    refine bN ?_
    refine GV [Vz 2 2 44 1 false _,fM 52 52 _] [Uz 22 _,Uz 21 _,Uz 1 _,Uz 20 _,Uz 1 _,Uz 2 _,Uz 20 _,Uz 4 _,Uz 5 _,Uz 23 _,Uz 24 _] (λ(i:Nat)=>[]) (λ(i:Nat)=>[Uz 25 (pI (i:Int))]) (λ(i:Nat)=>i<=L.length/\∀q,q<i->q≠k->q≠zA L.length k->0<iF (aI L k) (aI L (zA L.length k)) (aI L q)) (λ(i:Nat)=>L.length-i) (0) ⟨Nat.zero_le _,λ_ h=>absurd h (Nat.not_lt_zero _)⟩ hI ⟨vi,vA,trivial⟩ ⟨gi,gi,gi,gi,gq 4,gq 5,gq 6,gi,gi,gi,gi,gc,trivial⟩ ?_
    intro i a w hi hI
    have hx:zA L.length k<L.length:=Nat.mod_lt _ (by omega)
    refine dQ hI 1 [] [] [Uc 0 26 _] (.k (.k .z)) (.k8 (.aK .z)) ⟨bn,trivial⟩ (.k (.k .z)) (.k8 (.aK (.k .z))) λa w hI=>?_
    refine aU ?_
    refine sC hI (λt3=>?_) (λt3=>?_)
    ·
     refine bD ?_
     refine aj ?_
     refine aU ?_
     refine bN ?_
     refine dQ hI 6 [⟨7,7,some 3,none,.ptr,68,2,true,pv _,[(5,pv _)]⟩] [] [Uc 0 27 _,Uc 1 28 _,Uc 2 29 _,Uc 4 6 _] (.k (.k .z)) (.k8 (.aK (.k .z))) ⟨mv,ix,ld,rA [.i,.i],mv,nw,trivial⟩ (.k (.k (.s .o .z))) (.k8 (.aK (.ek (.k .z)))) λa w hI=>?_
     refine GX hI [0,0,3,7,15,15,63,127,255,511,511,2047,4095,511,511,25087,57855,511,262143,524287,1048575] [] [] [Uc 0 30 _,Uc 1 31 _,Uc 2 32 _,Uc 3 33 _,Uc 4 34 _,Uc 5 35 _,Uc 6 36 _,Uc 7 37 _,Uc 8 38 _,Uc 9 39 _,Uc 10 40 _,Uc 11 41 _,Uc 12 42 _,Uc 13 43 _,Uc 14 44 _,Uc 15 45 _,Uc 16 46 _,Uc 17 47 _,Uc 18 48 _,Uc 19 49 _,Uc 20 50 _] (.k (.k (.k .z))) (.k8 (.aK (.k .z))) ⟨mv,mv,bn,mv,gd λh=>Fk h,gd λh=>Fk h,gd λh=>DW h,pk,mv,gd λh=>yF h,gd λh=>Fk h,gd λh=>T3 h,gd λh=>yF h,gd λh=>yF h,gd λh=>Fk h,gd λh=>T3 h,gd λh=>yF h,gd λh=>yF h,gd λh=>Q3 h CC (hφ:=⟨hn _ (by omega),hn _ hx,hn _ (by omega)⟩),gd λh=>DW h,pk,trivial⟩ (.k (.k (.d .z))) (.k8 (.aK (.d8 (.d8 (.ek (.dk .z)))))) λa w hI=>?_
     refine Kl hI (λt4=>?_) (λt4=>?_)
     ·
      refine dQ hI 1 [] [] [] (.u none [(0,pv _)] (.k .z)) (.k8 (.aK (.k .z))) ⟨nw,trivial⟩ (.s .o (.k .z)) (.k8 (.aK (.d .z))) λa w hI=>?_
      refine bL ?_
      refine dz ?_
      refine bM ?_
      refine bM ?_
      refine dz ?_
      refine dz ?_
      have hno:¬ ∀q,q<L.length->tT L q:=λhall=>by
       have:=hall k hk i (by omega)
       simp only[Bool.and_eq_true,decide_eq_true_eq]at t4
       have h2:=this (by omega) (by omega)
       omega
      exact⟨(),hI.cv ⟨vC (λ_ _ h=>⟨⟨rfl,hno⟩,h⟩),vA,trivial⟩ ⟨gc,gc,gq 4,gq 5,gq 6,trivial⟩⟩
     ·
      refine bD ?_
      refine cz ?_
      refine aj ?_
      refine GY hI 2 [] [] [Uc 0 51 _,Uc 1 25 _] (.k (.k .z)) (.k8 (.fS (.t 1 (.k .z)))) ⟨bn,mv,trivial⟩ (.k (.k .z)) (.k8 (.lN (.we .z))) λa w hI=>?_
      refine aj ?_
      have hst:i≠k->i≠zA L.length k->0<iF (aI L k) (aI L (zA L.length k)) (aI L i):=λh1 h2=>by
       simp only[Bool.and_eq_false_iff,decide_eq_false_iff_not]at t4
       omega
      exact GR (i+1) ⟨by omega,λq hq h1 h2=>if e:q=i then by rw[e]at h1 h2 ⊢; exact hst h1 h2 else hi.2 q (by omega) h1 h2⟩ hI ⟨vc,vA,trivial⟩ ⟨gc,gc,gc,gc,gq 4,gq 5,gq 6,gc,gc,gc,gc,gc,trivial⟩ (by omega)
    ·
     refine gz ?_
     refine bw ?_
     refine bw ?_
     refine cM ?_
     refine cz ?_
     exact⟨(),hI.cv ⟨vC (λ_ _ (h:wA (∀q,q<k->tT L q) dr _ _)=>⟨λq hq=>if e:q=k then by rw[e]; exactλj hj=>hi.2 j (by omega)else h.1 q (by omega),trivial⟩),vA,trivial⟩ ⟨gc,gc,gq 4,gq 5,gq 6,trivial⟩⟩
   ·
    dsimp only[List.append,HAppend.hAppend,Append.append]at hI
    have hall:=qc hI 0 rfl
    refine cz ?_
    refine aj ?_
    refine tn ?_
    refine dQ hI 1 [] [] [] (.u none [(0,pv _)] (.k .z)) (.kk .z) ⟨nw,trivial⟩ (.s .o (.k .z)) (.dd .z) λa w hI=>?_
    refine bL ?_
    exact DR hI 1 rfl (BQ (hq:=fl (by unfold lp AR; rw[if_neg (by rw[t1]; exact Bool.false_ne_true),if_neg t2,if_pos hall])))
   ·
    dsimp only[List.append,HAppend.hAppend,Append.append]at hI
    obtain⟨rfl,hno⟩:=qc hI 0 rfl
    refine tn ?_
    refine bL ?_
    refine dz ?_
    refine bM ?_
    exact DR hI 1 rfl (BQ (hq:=λw v (h:wA _ (pI 7) w v)=>fl (by unfold lp AR; rw[if_neg (by rw[t1]; exact Bool.false_ne_true),if_neg t2,if_neg hno]) w v h.2))
def rC (L:List Pt) (d:Int):Pred:=pS [⟨false,1,lU L⟩,⟨false,1,pI d⟩]
def mK (L:List Pt) (d:Int):Int:=if lp L≠0 then lp L else if decide (d<1)||decide (d>64)then 1 else 0
theorem po (h:lp L=0):∀q,q<L.length->gL 16777216 (aI L q):=by
 unfold lp at h
 by_cases h1:AR L=true
 ·rw[if_pos h1]at h; exact absurd h (by decide)
 ·rw[if_neg h1]at h
  by_cases h2:Ij L>=0
  ·rw[if_pos h2]at h; exact absurd h (by decide)
  ·exactλq hq=>xb (uq h2 q hq)
theorem oa (h:lp L=0):3<=L.length/\L.length<=10:=by
 unfold lp at h
 by_cases h1:AR L=true
 ·rw[if_pos h1]at h; exact absurd h (by decide)
 ·unfold AR at h1
  simp only[Bool.or_eq_true,decide_eq_true_eq,not_or]at h1
  omega
variable {d:Int}
theorem gW (h:mK L d=0):lp L=0:=by
 unfold mK at h
 by_cases h1:lp L≠0
 ·rw[if_pos h1]at h; exact h
 ·exact Decidable.not_not.1 h1
def Nj (L:List Pt) (p:Pt):Bool:=decide (∀k,k<L.length->0<=iF (aI L k) (aI L (zA L.length k)) p)
def JH (p:Pt):Bool:=decide (mU (mU (mU p.1 (-p.1)) p.2) (-p.2)>1048576)||decide (Jd p.1 p.2 < -1048576)
theorem Gh (h:JH p=false):gL 16777216 p:=by
 unfold JH mU Jd at h
 simp only[Bool.or_eq_false_iff,decide_eq_false_iff_not]at h
 unfold gL
 split at h<;>split at h<;>split at h<;>split at h<;>omega
def Ls (L:List Pt) (d:Int) (p:Pt):Bool:=(decide (mK L d=0)&&!JH p)&&Nj L p
theorem kB (h:L.length<=1000):K1 Tryz.prog 60 (rC L d) (pI (mK L d)):=by
 intro M w0 v0 hM hv0
 refine Dj (N:=18) Tryz.func60 rfl rfl rfl hM hv0 λa hI=>?_
 refine dQ hI 2 [⟨1,1,some 0,none,.ptr,71,2,true,pv _,[]⟩] [] [Uc 1 2 _] .z (.k .z) ⟨bo,mv,trivial⟩ (.k .z) (.dk .z) λa w hI=>?_
 refine aU ?_
 refine dQ hI 4 [] [⟨some 0,4,1,0,True⟩] [Uc 1 5 _,Uc 2 6 _,Uc 3 3 _] (.k .z) (.k .z) ⟨fa,ld,vY AM,mv,trivial⟩ (.k .z) (.CA .z) λa w hI=>?_
 refine dQ hI 2 [] [] [Uc 0 7 _,Uc 1 8 _] (.k .z) (.kk .z) ⟨mv,bn,trivial⟩ (.k .z) (.ry .z) λa w hI=>?_
 refine sC hI (λt1=>?_) (λt1=>?_)
 ·
  refine dQ hI 2 [] [] [Uc 0 9 _,Uc 1 2 _] (.k .z) (.t 1 (.kk .z)) ⟨mv,mv,trivial⟩ (.k .z) (.ek (.k .z)) λa w hI=>?_
  refine bL ?_
  refine bM ?_
  exact dx hI rfl (pC (hq:=fl (by unfold mK; rw[if_pos t1])))
 ·
  refine bD ?_
  refine aj ?_
  refine aU ?_
  refine dQ hI 8 [] [⟨some 0,10,1,1,True⟩,⟨some 4,14,1,1,_⟩] [Uc 1 11 _,Uc 2 12 _,Uc 3 13 _,Uc 5 15 _,Uc 6 16 _,Uc 7 17 _] (.k .z) (.fS .z) ⟨fa,ld,bn,mv,gd λh=>Lg h,gd λh=>yF h,gd λh=>DW h,pk,trivial⟩ (.d .z) (.lM (.ek (.k .z))) λa w hI=>?_
  refine Kl hI (λt2=>?_) (λt2=>?_)
  ·
   refine eu hI 1 [Uc 0 2 _] (.t 0 (.k .z)) ⟨mv,trivial⟩ (.we .z) λa w hI=>?_
   refine bL ?_
   refine bM ?_
   exact dx hI rfl (pC (hq:=fl (by unfold mK; rw[if_neg t1,if_pos t2])))
  ·
   refine bD ?_
   refine aj ?_
   refine eu hI 1 [Uc 0 2 _] (.t 0 (.k .z)) ⟨mv,trivial⟩ (.we .z) λa w hI=>?_
   refine bL ?_
   exact dx hI rfl (pC (hq:=fl (by unfold mK; rw[if_neg t1,if_neg (by rw[t2]; exact Bool.false_ne_true)])))
theorem uv (h:L.length<=1000/\(∀q,q<L.length->gL 16777216 (aI L q))/\gL 16777216 p):K2 Tryz.prog 61 (lU L) (gK p) (pB (Nj L p)):=by
 intro M w0 v0 v1 hM hv0 gb
 refine Wb (N:=22) Tryz.func61 rfl rfl hM hv0 gb λa hI=>?_
 refine dQ hI 3 [⟨4,4,some 2,none,.ptr,4,1,false,pv _,[]⟩] [] [Uc 0 2 _,Uc 1 3 _] .z (.kk .z) ⟨EZ 1 false,EZ 2 true,Pg .b,trivial⟩ (.k .z) (.yw .z) λa w hI=>?_
 refine aU ?_
 refine dQ hI 2 [] [] [Uc 0 7 _,Uc 1 8 _] (.k .z) (.kk .z) ⟨ld,vY D8,trivial⟩ (.k .z) (.ry .z) λa w hI=>?_
 refine bN ?_
 refine BL (y0:=9) (y1:=10) (τ:=Unit) (λk t=>[Vz 4 4 4 1 false (wA (∀q,q<k->0<=iF (aI L q) (aI L (zA L.length q)) p) dr)]) (λcd t=>[Vz 4 4 4 1 false (wA (cd=.ret/\¬ ∀q,q<L.length->0<=iF (aI L q) (aI L (zA L.length q)) p) (pB false))]) [Uz 2 _,Uz 3 _,Uz 8 _] [2,3,4,8] () (hI.cv ⟨vC (λ_ _ _=>⟨λ_ h=>absurd h (Nat.not_lt_zero _),trivial⟩),trivial⟩ ⟨gc,gc,gc,trivial⟩) rfl (λ_ _=>by kernel_rfl) (λ_ _=>by kernel_rfl) (by kernel_rfl) (by kernel_rfl) (by kernel_rfl) (λk t w0 M1 B1 a w D l r hk hr hI=>?_) (λt w D l r hI=>?_) (λcd t w D l r hI=>?_)
 ·
  dsimp only[List.append,List.map,HAppend.hAppend,Append.append,K6]at hI
  refine dQ hI 1 [] [] [Uc 0 5 _] (.k (.k .z)) (.k8 (.k .z)) ⟨mv,trivial⟩ (.k (.k .z)) (.k8 (.kk .z)) λa w hI=>?_
  refine GY hI 1 [] [] [Uc 0 6 _] (.k (.k .z)) (.k8 (.kk .z)) ⟨mv,trivial⟩ (.k (.k .z)) (.k8 (.fS .z)) λa w hI=>?_
  refine aj ?_
  refine Hh hI 1 hr (λw hI=>?_)
  dsimp only[List.set]at hI
  have hx:zA L.length k<L.length:=Nat.mod_lt _ (by omega)
  refine bN ?_
  refine GX hI [0,0,3,7,0,0,48,112,0,511,1023] [] [] [Uc 0 11 _,Uc 1 12 _,Uc 2 13 _,Uc 3 14 _,Uc 4 15 _,Uc 5 16 _,Uc 6 17 _,Uc 7 18 _,Uc 8 19 _,Uc 9 20 _,Uc 10 21 _] (.k (.k .z)) (.k8 (.fS .z)) ⟨ld,mv,ix,ld,ld,mv,ix,ld,ld,SR CC (hφ:=⟨h.2.1 _ (by omega),h.2.1 _ hx,h.2.2⟩),bn,trivial⟩ (.k (.k .z)) (.k8 (.lN (.d8 (.dk .z)))) λa w hI=>?_
  refine sC hI (λt1=>?_) (λt1=>?_)
  ·
   refine dQ hI 1 [] [] [] (.u none [(0,pv _)] (.k .z)) (.k8 (.aK .z)) ⟨nw,trivial⟩ (.s .o (.k .z)) (.k8 (.lN .z)) λa w hI=>?_
   refine bL ?_
   refine dz ?_
   have hno:¬ ∀q,q<L.length->0<=iF (aI L q) (aI L (zA L.length q)) p:=λhall=>by
    have:=hall k hk
    omega
   exact⟨(),hI.cv ⟨vC (λ_ _ h=>⟨⟨rfl,hno⟩,h⟩),vA,trivial⟩ ⟨gc,gc,gc,gq 5,gq 6,gq 7,gq 8,trivial⟩⟩
  ·
   refine bD ?_
   refine cz ?_
   exact⟨(),hI.cv ⟨vC (λ_ _ (h:wA (∀q,q<k->0<=iF (aI L q) (aI L (zA L.length q)) p) dr _ _)=>⟨λq hq=>if e:q=k then by rw[e]; omega else h.1 q (by omega),trivial⟩),vA,trivial⟩ ⟨gc,gc,gc,gq 5,gq 6,gq 7,gq 8,trivial⟩⟩
 ·
  dsimp only[List.append,HAppend.hAppend,Append.append]at hI
  have hall:=qc hI 0 rfl
  refine cz ?_
  refine aj ?_
  refine tn ?_
  refine dQ hI 1 [] [] [] (.u none [(0,pv _)] (.k .z)) (.fS .z) ⟨nw,trivial⟩ (.s .o (.k .z)) (.Ky .z) λa w hI=>?_
  refine bL ?_
  exact DR hI 1 rfl (BQ (hq:=jT (by unfold Nj; rw[decide_eq_true hall])))
 ·
  dsimp only[List.append,HAppend.hAppend,Append.append]at hI
  obtain⟨rfl,hno⟩:=qc hI 0 rfl
  refine tn ?_
  refine bL ?_
  refine dz ?_
  refine bM ?_
  exact DR hI 1 rfl (BQ (hq:=λw v (h:wA _ (pB false) w v)=>jT (by unfold Nj; rw[decide_eq_false hno]) w v h.2))
theorem IZ (h:L.length<=1000/\gL 4611686018427387904 p):K2 Tryz.prog 21 (rC L d) (gK p) (fo (pB (Ls L d p)) (pI (mK L d))):=by
 intro M w0 v0 v1 hM hv0 gb
 have hp:=h.2
 unfold gL at hp
 refine Dk (N:=36) Tryz.func21 rfl rfl rfl hM hv0 gb λa hI=>?_
 refine dQ hI 4 [⟨2,2,some 0,none,.ptr,71,2,true,pv _,[]⟩,⟨3,3,some 1,none,.ptr,68,2,true,pv _,[]⟩] [] [Uc 2 4 _,Uc 3 5 _] .z (.kk .z) ⟨bo,bo,mv,mv,trivial⟩ (.k (.k .z)) (.yw .z) λa w hI=>?_
 refine aU ?_
 refine dQ hI 3 [] [] [Uc 0 7 _,Uc 1 8 _,Uc 2 6 _] (.k (.k .z)) (.kk .z) ⟨ld,vY kB,mv,trivial⟩ (.k (.k .z)) (.gX (.k .z)) λa w hI=>?_
 refine dQ hI 2 [] [] [Uc 0 9 _,Uc 1 10 _] (.k (.k .z)) (.fS .z) ⟨mv,bn,trivial⟩ (.k (.k .z)) (.lN (.k .z)) λa w hI=>?_
 refine sC hI (λt1=>?_) (λt1=>?_)
 ·
  refine dQ hI 3 [] [] [Uc 0 11 _,Uc 1 4 _,Uc 2 5 _] (.k (.k .z)) (.t 1 (.t 2 (.kk .z))) ⟨mv,mv,mv,trivial⟩ (.k (.k .z)) (.ek (.QH .z)) λa w hI=>?_
  refine bL ?_
  refine bM ?_
  exact qY hI rfl (pC (hq:=jT (by unfold Ls; rw[decide_eq_false t1]; rfl))) pC
 ·
  have he:mK L d=0:=Decidable.not_not.1 t1
  refine bD ?_
  refine aj ?_
  refine aU ?_
  refine dQ hI 20 [] [⟨some 0,12,3,0,True⟩,⟨some 2,14,3,0,True⟩,⟨some 5,17,3,1,True⟩,⟨some 7,19,3,1,True⟩,⟨some 13,25,3,0,_⟩,⟨some 15,27,3,1,_⟩] [Uc 1 13 _,Uc 3 15 _,Uc 4 16 _,Uc 6 18 _,Uc 8 20 _,Uc 9 21 _,Uc 10 22 _,Uc 11 23 _,Uc 12 24 _,Uc 14 26 _,Uc 16 28 _,Uc 17 29 _,Uc 18 30 _,Uc 19 31 _] (.k (.k .z)) (.aK .z) ⟨fa,ld,fa,ld,ng,fa,ld,fa,ld,ng,ZD,bn,mv,gd λh=>Lg h,gd λh=>yF h,gd λh=>Lg h,gd λh=>yF h,gd λh=>T5 h,gd λh=>DW h,pk,trivial⟩ (.k (.k .z)) (.gX (.d8 (.ek (.dk .z)))) λa w hI=>?_
  refine Kl hI (λt2=>?_) (λt2=>?_)
  ·
   refine dQ hI 2 [] [] [Uc 0 4 _,Uc 1 5 _] (.k (.k .z)) (.t 0 (.t 1 (.k .z))) ⟨mv,mv,trivial⟩ (.k (.k .z)) (.gV (.k .z)) λa w hI=>?_
   refine bL ?_
   refine bM ?_
   exact qY hI rfl (pC (hq:=jT (by unfold Ls JH; rw[t2,Bool.not_true,Bool.and_false,Bool.false_and]))) (pC (hq:=fl he.symm))
  ·
   refine bD ?_
   refine aj ?_
   refine dQ hI 6 [] [⟨some 0,32,2,0,True⟩] [Uc 1 33 _,Uc 2 34 _,Uc 3 35 _,Uc 4 4 _,Uc 5 5 _] (.k (.k .z)) (.t 4 (.t 5 (.k .z))) ⟨fa,ld,ld,zx uv (hφ:=⟨h.1,po (gW he),Gh t2⟩),mv,mv,trivial⟩ (.d (.d .z)) (.ek (.yw .z)) λa w hI=>?_
   refine bL ?_
   exact qY hI rfl (pC (hq:=jT (by unfold Ls JH; rw[t2,decide_eq_true he]; rfl))) (pC (hq:=fl he.symm))
end Wx
