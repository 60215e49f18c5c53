import Derived.Test.YtadigiledciihaaGreatJRB33
namespace Wx
set_option maxRecDepth 100000
set_option maxHeartbeats 1000000
open Go Go.RowKit Go.Proofs
set_option linter.unusedVariables false
attribute [local irreducible] OpOk
abbrev Pt:=Int×Int
def fq (p:Pt):Pred:=pS [⟨false,1,pI p.1⟩,⟨false,1,pI p.2⟩]
def aA (L:List Pt) (i:Nat):Pt:=L.getD i (0,0)
abbrev kz (L:List Pt):Pred:=bk 2 true L.length λi=>fq (aA L i)
def fu (B:Int) (p:Pt):Prop :=-B<=p.1/\p.1<=B /\ -B<=p.2/\p.2<=B
def gp (a b c:Pt):Int:=(b.1-a.1)*(c.2-a.2)-(b.2-a.2)*(c.1-a.1)
def xH (n k:Nat):Nat:=(k+1)%n
theorem MF (n k:Nat):((k:Int)+1)%(n:Int)=((xH n k:Nat):Int):=by unfold xH; rw[Int.natCast_emod]; rfl
def uk (φ:Prop) (p:Pred):Pred:=λw v=>φ/\p w v
theorem nY {c:dg} {V:List Vr} {G:List aX} {a:Act} {w:World} {i s T n:Nat} {ag:Bool} {φ:Prop} {q:Pred} (hI:Inv c V [] G none_ a w) (k:Nat) (hk:V[k]?=some (Vz i s T n ag (uk φ q))):φ:=by
 obtain⟨β,h⟩:=hI
 obtain⟨g,e,h1,hb⟩:=(bH rfl).1 (h.var _ (List.mem_of_getElem? hk) rfl)
 obtain⟨cs,k1,k2,k3,k4⟩:=hb.held
 have h4:aQ (own c V none_ β) (λw=>uk φ q w (ak ag cs)) w:=k4
 exact h4.out.1
theorem AK {a b c:Pt} (h:fu 16777216 a/\fu 16777216 b/\fu 16777216 c):K3 Tryz.prog 62 (fq a) (fq b) (fq c) (pI (gp a b c)):=by
 intro M w0 v0 v1 v2 hM hv0 mL hv2
 obtain⟨⟨a1,a2,a3,a4⟩,⟨b1,b2,b3,b4⟩,c1,c2,c3,c4⟩:=h
 have m1:=F8 33554432 (p:=b.1-a.1) (q:=c.2-a.2) (by omega) (by omega) (by omega) (by omega)
 have m2:=F8 33554432 (p:=b.2-a.2) (q:=c.1-a.1) (by omega) (by omega) (by omega) (by omega)
 refine Nd (N:=30) Tryz.func62 rfl rfl rfl hM hv0 mL hv2 λa hI=>?_
 refine bN hI 4 [⟨3,3,some 0,none,.ptr,26,2,true,pv _,[]⟩,⟨4,4,some 1,none,.ptr,26,2,true,pv _,[]⟩,⟨5,5,some 2,none,.ptr,26,2,true,pv _,[]⟩] [] [Uc 3 6 _] .z (.eH .z) ⟨bo,bo,bo,mv,trivial⟩ (.k (.k (.k .z))) (.kM .z) λa w hI=>?_
 refine bN hI 24 [] [⟨some 0,7,4,0,True⟩,⟨some 2,9,3,0,True⟩,⟨some 5,12,5,1,True⟩,⟨some 7,14,3,1,True⟩,⟨some 11,18,4,1,True⟩,⟨some 13,20,3,1,True⟩,⟨some 16,23,5,0,True⟩,⟨some 18,25,3,0,True⟩] [Uc 1 8 _,Uc 3 10 _,Uc 4 11 _,Uc 6 13 _,Uc 8 15 _,Uc 9 16 _,Uc 10 17 _,Uc 12 19 _,Uc 14 21 _,Uc 15 22 _,Uc 17 24 _,Uc 19 26 _,Uc 20 27 _,Uc 21 28 _,Uc 22 29 _,Uc 23 6 _] (.k (.k (.k .z))) (.t 23 .z) ⟨fa,ld,fa,ld,bn,fa,ld,fa,ld,bn,bn,fa,ld,fa,ld,bn,fa,ld,fa,ld,bn,bn,bn,mv,trivial⟩ (.d (.d (.d .z))) (.d8 (.d8 (.k .z))) λa w hI=>?_
 refine aP ?_
 exact fo hI rfl jP
variable {L:List Pt}
theorem FT (h:L.length<=1000) (u:Value):EJ Tryz.prog 101 #[u] L.length (λk=>pI (k:Int)) (λk=>pI ((xH L.length k:Nat):Int)) (EZ 1 false (kz L) #[u]):=by
 intro σ l M Bs J X s0 w0 hM hB hN hJ hc hr
 refine WQ (N:=19) Tryz.func101 rfl rfl hM hB hN hJ (E4 hc) λa hI=>?_
 refine bN hI 3 [] [] [Uc 0 4 _,Uc 1 5 _,Uc 2 6 _] (.k .z) (.kk .z) ⟨ld,ln,mv,trivial⟩ (.k .z) (.qL (.k .z)) λa w hI=>?_
 refine aN ?_
 refine BF [] [Uz 0 _,Uz 1 _,Uz 5 _] (λ(i:Nat×σ)=>[jV 19 (Bs i.2) (J i.1 i.2)]) (λ(i:Nat×σ)=>[Uz 6 (pI (i.1:Int))]) (λ(i:Nat×σ)=>i.1<=L.length) (λ(i:Nat×σ)=>L.length-i.1) ((0,s0)) (Nat.zero_le _) hI ⟨vJ,trivial⟩ ⟨gi,gi,gi,gc,trivial⟩ ?_
 intro i a w hi hI
 refine bN hI 1 [] [] [Uc 0 7 _] (.k .z) (.aB .z) ⟨bn,trivial⟩ (.k .z) (.aB (.k .z)) λa w hI=>?_
 refine ax ?_
 refine mJ hI (λt1=>?_) (λt1=>?_)
 ·
  refine aF ?_
  refine ai ?_
  refine ax ?_
  refine aN ?_
  refine bN hI 2 [] [] [Uc 0 8 _,Uc 1 3 _] (.k .z) (.aB (.k .z)) ⟨mv,mv,trivial⟩ (.k .z) (.aB (.tZ .z)) λa w hI=>?_
  refine Hu (n0:=0) (nv:=[]) (A1:=[]) (ne:=[Uc 0 9 _,Uc 1 10 _,Uc 2 11 _,Uc 3 12 _,Uc 4 13 _,Uc 5 14 _,Uc 6 15 _]) Bs (λb s'=>if b then J (i.1+1) s' else X s') 7 hI (.k .z) (.aB (.k .z)) ⟨mv,mv,mv,bn,ld,ln,rm,trivial⟩ (.k .z) (.aB (.Ir (.kM .z))) rfl rfl rfl rfl rfl (λM' w' u0 u1 k1 k2 k3 k4 k5 k6=>hr i.1 i.2 M' w' u0 u1 (by omega) k1 k2 k3 k4 k5 (k6.imp λw h=>dD (MF _ _) w u1 h)) (λb s' a w hI=>?_)
  dsimp only[List.set]at hI
  refine CS hI (λt2=>?_) (λt2=>?_)
  ·
   obtain rfl:b=false:=by simpa using t2
   refine aP ?_
   refine bC ?_
   refine aH ?_
   refine aH ?_
   refine bC ?_
   exact N3 (n0:=0) hI rfl rfl λh1 h2 h3 h4=>⟨_,s',rfl,h1,h2,h3,.inr h4⟩
  ·
   obtain rfl:b=true:=by simpa using t2
   refine aF ?_
   refine bK ?_
   refine ai ?_
   refine BH hI 2 [] [] [Uc 0 18 _,Uc 1 6 _] (.k .z) (.aB (.k (.t 1 (.eH .z)))) ⟨bn,mv,trivial⟩ (.k .z) (.ua (.ju (.tZ .z))) λa w hI=>?_
   refine ai ?_
   exact AO ((i.1+1,s')) (by(show i.1+1<=L.length); omega) hI ⟨vJ,trivial⟩ ⟨gc,gc,gc,gc,trivial⟩ (by(show L.length-(i.1+1)<L.length-i.1); omega)
 ·
  refine dJ ?_
  refine aM ?_
  refine aM ?_
  refine bI ?_
  exact N4 (n0:=0) hI rfl rfl λh1 h2 h3 h4=>⟨_,i.2,rfl,h1,h2,h3,.inl (by(have e:i.1=L.length:=by omega); rw[e]at h4; exact h4)⟩
theorem Cr (h:L.length<=1000):K1 Tryz.prog 61 (kz L) (GA Tryz.prog L.length (λk=>pI (k:Int)) (λk=>pI ((xH L.length k:Nat):Int)) (EZ 1 false (kz L))):=by
 intro M w0 v0 hM hv0
 refine xA (N:=4) Tryz.func61 rfl rfl rfl hM hv0 λa hI=>?_
 refine cK hI 2 [Uc 0 1 _,Uc 1 2 _] (.k .z) ⟨EV 1 false,mv,trivial⟩ (.Nk .z) λa w hI=>?_
 refine cK hI 2 [Uc 0 3 _,Uc 1 2 _] (.k (.t 1 .z)) ⟨Um,mv,trivial⟩ (.kM .z) λa w hI=>?_
 refine aP ?_
 exact fo hI rfl (jP (hq:=Im (λ_ _=>by kernel_rfl) λu=>FT h u))
def Iz (x:Int):Bool:=decide (x < -1048576)||decide (x>1048576)
def Fk (p:Pt):Bool:=Iz p.1||Iz p.2
variable {p:Pt}
theorem uL (h:Fk p=false):fu 16777216 p:=by
 unfold Fk Iz at h
 simp only[Bool.or_eq_false_iff,decide_eq_false_iff_not]at h
 unfold fu
 omega
def pD (f:Nat->Bool):Nat->Int
 |0 => -1
 |n+1=>if 0<=pD f n then pD f n else if f n=true then(n:Int)else -1
theorem sF {f:Nat->Bool}:∀{n:Nat},(∀q,q<n->f q=false)->pD f n = -1
 |0,_=>rfl
 |n+1,h=>by
  show(if 0<=pD f n then pD f n else if f n=true then(n:Int)else -1) = -1
  rw[sF λq hq=>h q (by omega),if_neg (by omega),if_neg (by rw[h n (by omega)]; exact Bool.false_ne_true)]
theorem Co {f:Nat->Bool} {i:Nat} (hn:f i=true) (h:∀q,q<i->f q=false):∀{n:Nat},i<n->pD f n=(i:Int)
 |n+1,hi=>by
  show(if 0<=pD f n then pD f n else if f n=true then(n:Int)else -1)=_
  by_cases e:i=n
  ·subst e
   rw[sF h,if_neg (by omega),if_pos hn]
  ·rw[Co hn h (show i<n by omega),if_pos (by omega)]
theorem sG {f:Nat->Bool}:∀{n:Nat},¬0<=pD f n->∀q,q<n->f q=false
 |n+1,h,q,hq=>by
  have h1:¬0<=(if 0<=pD f n then pD f n else if f n=true then(n:Int)else -1):=h
  by_cases h2:0<=pD f n
  ·rw[if_pos h2]at h1; exact absurd h2 h1
  ·rw[if_neg h2]at h1
   by_cases h3:f n=true
   ·rw[if_pos h3]at h1; omega
   ·by_cases e:q=n
    ·rw[e]; simpa using h3
    ·exact sG h2 q (by omega)
abbrev rZ (L:List Pt) (k:Nat):Prop:=∀i,i<L.length->i≠k->i≠xH L.length k->0<gp (aA L k) (aA L (xH L.length k)) (aA L i)
def Fj (L:List Pt):Int:=pD (λi=>Fk (aA L i)) L.length
def yU (L:List Pt):Bool:=decide ((L.length:Int)<3)||decide ((L.length:Int)>10)
def jC (L:List Pt):Int:=if yU L then 4 else if Fj L>=0 then 1 else if ∀k,k<L.length->rZ L k then 0 else 7
theorem FX {x:Int} (_:True):K1 Tryz.prog 63 (pI x) (pB (Iz x)):=by
 intro M w0 v0 hM hv0
 refine xA (N:=9) Tryz.func63 rfl rfl rfl hM hv0 λa hI=>?_
 refine cK hI 1 [Uc 0 2 _] (.k .z) ⟨mv,trivial⟩ (.kk .z) λa w hI=>?_
 refine cK hI 7 [Uc 0 3 _,Uc 1 4 _,Uc 2 5 _,Uc 3 6 _,Uc 4 7 _,Uc 5 8 _,Uc 6 2 _] (.k (.t 6 .z)) ⟨mv,bn,mv,gd λh=>xF h,gd λh=>yB h,pk,mv,trivial⟩ (.d8 (.k .z)) λa w hI=>?_
 refine aP ?_
 exact fo hI rfl jP
theorem I5 (_:True):K2 Tryz.prog 65 (fq p) (dP 1 false (bR (.func (.func 63) #[] #[]))) (pB (Fk p)):=by
 intro M w0 v0 v1 hM hv0 mL
 refine xB (N:=14) Tryz.func65 rfl rfl rfl hM hv0 mL λa hI=>?_
 refine bN hI 2 [⟨2,2,some 0,none,.ptr,26,2,true,pv _,[]⟩] [] [Uc 1 3 _] .z (.kk .z) ⟨bo,mv,trivial⟩ (.k .z) (.Nk .z) λa w hI=>?_
 refine bN hI 11 [] [⟨some 1,5,2,0,True⟩,⟨some 6,10,2,1,_⟩] [Uc 0 4 _,Uc 2 6 _,Uc 3 7 _,Uc 4 8 _,Uc 5 9 _,Uc 7 11 _,Uc 8 12 _,Uc 9 13 _,Uc 10 3 _] (.k .z) (.k (.t 10 .z)) ⟨WB,fa,ld,Tz FX,mv,gd λh=>Ra h,gd λh=>uQ h,gd λh=>zS h,gd λh=>Q7 h FX,pk,mv,trivial⟩ (.d .z) (.d8 (.tZ .z)) λa w hI=>?_
 refine aP ?_
 exact fo hI rfl jP
theorem FY (h:L.length<=1000):K2 Tryz.prog 102 (kz L) (D5 65 1 false (bR (.func (.func 63) #[] #[]))) (pI (Fj L)):=by
 intro M w0 v0 v1 hM hv0 mL
 refine xB (N:=19) Tryz.func102 rfl rfl rfl hM hv0 mL λa hI=>?_
 refine cK hI 1 [Uc 0 4 _] (.kk .z) ⟨mv,trivial⟩ (.eH .z) λa w hI=>?_
 refine ax ?_
 refine cK hI 3 [Uc 0 6 _,Uc 1 7 _,Uc 2 8 _] (.eH .z) ⟨mv,ln,mv,trivial⟩ (.fE (.kk .z)) λa w hI=>?_
 refine aN ?_
 refine BF [] [Uz 0 _,Uz 1 _,Uz 7 _] (λ(i:Nat)=>[]) (λ(i:Nat)=>[Uz 8 (pI (i:Int))]) (λ(i:Nat)=>i<=L.length/\∀q,q<i->Fk (aA L q)=false) (λ(i:Nat)=>L.length-i) (0) ⟨Nat.zero_le _,λ_ h=>absurd h (Nat.not_lt_zero _)⟩ hI trivial ⟨gi,gi,gi,gc,trivial⟩ ?_
 intro i a w hi hI
 refine cK hI 1 [Uc 0 9 _] (.aB .z) ⟨bn,trivial⟩ (.aB (.k .z)) λa w hI=>?_
 refine ax ?_
 refine mJ hI (λt1=>?_) (λt1=>?_)
 ·
  refine aF ?_
  refine ai ?_
  refine ax ?_
  refine aN ?_
  refine cK hI 2 [Uc 0 10 _,Uc 1 5 _] (.aB (.k .z)) ⟨mv,mv,trivial⟩ (.aB (.tZ .z)) λa w hI=>?_
  refine cK hI 6 [Uc 0 11 _,Uc 1 12 _,Uc 2 13 _,Uc 3 14 _,Uc 4 15 _,Uc 5 16 _] (.aB (.k .z)) ⟨mv,mv,mv,ix,ld,U6 (λ_ _=>by kernel_rfl) (I5 trivial),trivial⟩ (.aB (.ju (.tZ .z))) λa w hI=>?_
  refine CS hI (λt2=>?_) (λt2=>?_)
  ·
   refine cK hI 2 [Uc 0 17 _,Uc 1 4 _] (.aB (.kk .z)) ⟨mv,mv,trivial⟩ (.aB (.kM .z)) λa w hI=>?_
   refine aP ?_
   refine bC ?_
   refine aH ?_
   refine aH ?_
   refine bC ?_
   refine aH ?_
   exact fo hI rfl (jP (hq:=dD (Co t2 hi.2 (by omega)).symm))
  ·
   refine aF ?_
   refine bK ?_
   refine ai ?_
   refine Hr hI 2 [Uc 0 18 _,Uc 1 8 _] (.eH (.t 1 (.kk .z))) ⟨bn,mv,trivial⟩ (.fE (.kM .z)) λa w hI=>?_
   refine ai ?_
   exact AO (i+1) ⟨by omega,λq hq=>if e:q=i then by rw[e]; exact t2 else hi.2 q (by omega)⟩ hI trivial ⟨gc,gc,gc,gc,trivial⟩ (by omega)
 ·
  refine dJ ?_
  refine aM ?_
  refine aM ?_
  refine bI ?_
  refine ai ?_
  refine cK hI 1 [Uc 0 4 _] (.aB (.k .z)) ⟨mv,trivial⟩ (.cU (.dk .z)) λa w hI=>?_
  refine aP ?_
  exact fo hI rfl (jP (hq:=dD (sF λq hq=>hi.2 q (by omega)).symm))
theorem yR (h:L.length<=1000):K2 Tryz.prog 64 (kz L) (D5 65 1 false (bR (.func (.func 63) #[] #[]))) (pB (decide (Fj L>=0))):=by
 intro M w0 v0 v1 hM hv0 mL
 refine xB (N:=9) Tryz.func64 rfl rfl rfl hM hv0 mL λa hI=>?_
 refine cK hI 1 [Uc 0 4 _] (.kk .z) ⟨mv,trivial⟩ (.eH .z) λa w hI=>?_
 refine cK hI 5 [Uc 0 5 _,Uc 1 6 _,Uc 2 7 _,Uc 3 8 _,Uc 4 4 _] (.kk (.t 4 .z)) ⟨mv,mv,Eu FY,bn,mv,trivial⟩ (.cU (.kM .z)) λa w hI=>?_
 refine aP ?_
 exact fo hI rfl jP
theorem yQ (h:L.length<=1000):K1 Tryz.prog 32 (kz L) (pI (jC L)):=by
 intro M w0 v0 hM hv0
 refine Td (N:=52) Tryz.func32 rfl rfl hM hv0 λa hI=>?_
 refine bN hI 2 [⟨2,2,some 1,none,.ptr,29,1,false,pv _,[]⟩] [] [Uc 0 1 _] .z (.k .z) ⟨EV 1 false,MB .i,trivial⟩ (.k .z) (.dk .z) λa w hI=>?_
 refine ax ?_
 refine bN hI 8 [] [] [Uc 0 8 _,Uc 1 9 _,Uc 2 10 _,Uc 3 11 _,Uc 4 12 _,Uc 5 13 _,Uc 6 14 _,Uc 7 15 _] (.k .z) (.k .z) ⟨ld,ln,bn,mv,gd λh=>zS h,gd λh=>Nl h,gd λh=>yB h,pk,trivial⟩ (.k .z) (.ju (.cU (.k .z))) λa w hI=>?_
 refine CS hI (λt1=>?_) (λt1=>?_)
 ·
  refine bN hI 1 [] [] [] (.u none [(0,pv _)] .z) (.kk .z) ⟨lS,trivial⟩ (.s .o .z) (.kd .z) λa w hI=>?_
  refine aP ?_
  refine aH ?_
  exact J8 hI rfl (xx (hq:=dD (by unfold jC yU; rw[if_pos t1])))
 ·
  refine aF ?_
  refine ai ?_
  refine bN hI 2 [⟨3,3,some 0,none,.ptr,102,1,false,pv _,[(1,pv _)]⟩] [] [] (.k .z) (.kk .z) ⟨UT,iQ rfl rfl hs rfl rfl (bO (by kernel_rfl)) (wF _) (by kernel_rfl),trivial⟩ (.k (.s .o .z)) (.kd .z) λa w hI=>?_
  have hI:=Hg hI 1 rfl (by kernel_rfl)
  dsimp only[List.eraseIdx]at hI
  refine ax ?_
  refine bN hI 3 [] [] [Uc 0 16 _,Uc 1 17 _,Uc 2 18 _] (.k .z) (.kk .z) ⟨ld,Um,Eu yR,trivial⟩ (.k .z) (.NS (.k .z)) λa w hI=>?_
  refine mJ hI (λt2=>?_) (λt2=>?_)
  ·
   refine bN hI 1 [] [] [] (.u none [(0,pv _)] .z) (.kk .z) ⟨lS,trivial⟩ (.s .o .z) (.kd .z) λa w hI=>?_
   refine aP ?_
   refine aH ?_
   exact J8 hI rfl (xx (hq:=dD (by unfold jC yU; rw[if_neg (by rw[t1]; exact Bool.false_ne_true),if_pos t2])))
  ·
   have RV:¬0<=Fj L:=t2
   have hn:∀q,q<L.length->fu 16777216 (aA L q):=λq hq=>uL (sG RV q hq)
   refine aF ?_
   refine ai ?_
   refine ax ?_
   refine bN hI 2 [] [] [Uc 0 19 _,Uc 1 20 _] (.k .z) (.kk .z) ⟨ld,Ag Cr,trivial⟩ (.k .z) (.Dv .z) λa w hI=>?_
   refine aN ?_
   refine zR (y0:=21) (y1:=22) (τ:=Unit) (λk t=>[Vz 2 2 29 1 false (uk (∀q,q<k->rZ L q) dZ)]) (λcd t=>[Vz 2 2 29 1 false (uk (cd=.ret/\¬ ∀q,q<L.length->rZ L q) (pI 7))]) [Uz 1 _,Uz 20 _] [1,2,20] () (hI.cv ⟨vC (λ_ _ _=>⟨λ_ h=>absurd h (Nat.not_lt_zero _),trivial⟩),trivial⟩ ⟨gc,gc,trivial⟩) rfl (λ_ _=>by kernel_rfl) (λ_ _=>by kernel_rfl) (by kernel_rfl) (by kernel_rfl) (by kernel_rfl) (λk t w0 M1 B1 a w D l r hk hr hI=>?_) (λt w D l r hI=>?_) (λcd t w D l r hI=>?_)
   ·
    dsimp only[List.append,List.map,HAppend.hAppend,Append.append,Iu]at hI
    refine bN hI 1 [] [] [Uc 0 4 _] (.k (.k .z)) (.aB (.eH .z)) ⟨mv,trivial⟩ (.k (.k .z)) (.k8 .z) λa w hI=>?_
    refine BH hI 1 [] [] [Uc 0 5 _] (.k (.k .z)) (.k8 .z) ⟨mv,trivial⟩ (.k (.k .z)) (.k8 (.k .z)) λa w hI=>?_
    refine ai ?_
    refine ET hI 1 hr (λw hI=>?_)
    dsimp only[List.set]at hI
    have hx:xH L.length k<L.length:=Nat.mod_lt _ (by omega)
    refine aN ?_
    refine bN hI 3 [] [] [Uc 0 23 _,Uc 1 24 _,Uc 2 25 _] (.k (.k .z)) (.k8 (.k .z)) ⟨ld,ln,mv,trivial⟩ (.k (.k .z)) (.k8 (.aB .z)) λa w hI=>?_
    refine aN ?_
    refine BF [Vz 2 2 29 1 false _,dY 52 52 _] [Uz 22 _,Uz 21 _,Uz 1 _,Uz 20 _,Uz 1 _,Uz 2 _,Uz 20 _,Uz 4 _,Uz 5 _,Uz 23 _,Uz 24 _] (λ(i:Nat)=>[]) (λ(i:Nat)=>[Uz 25 (pI (i:Int))]) (λ(i:Nat)=>i<=L.length/\∀q,q<i->q≠k->q≠xH L.length k->0<gp (aA L k) (aA L (xH L.length k)) (aA L q)) (λ(i:Nat)=>L.length-i) (0) ⟨Nat.zero_le _,λ_ h=>absurd h (Nat.not_lt_zero _)⟩ hI ⟨vi,vA,trivial⟩ ⟨gi,gi,gi,gi,gq 4,gq 5,gq 6,gi,gi,gi,gi,gc,trivial⟩ ?_
    intro i a w hi hI
    have hx:xH L.length k<L.length:=Nat.mod_lt _ (by omega)
    refine bN hI 1 [] [] [Uc 0 26 _] (.k (.k .z)) (.k8 (.aB .z)) ⟨bn,trivial⟩ (.k (.k .z)) (.k8 (.aB (.k .z))) λa w hI=>?_
    refine ax ?_
    refine mJ hI (λt3=>?_) (λt3=>?_)
    ·
     refine aF ?_
     refine ai ?_
     refine ax ?_
     refine aN ?_
     refine bN hI 6 [⟨7,7,some 3,none,.ptr,26,2,true,pv _,[(5,pv _)]⟩] [] [Uc 0 27 _,Uc 1 28 _,Uc 2 29 _,Uc 4 6 _] (.k (.k .z)) (.k8 (.aB (.k .z))) ⟨mv,ix,ld,qw [.i,.i],mv,lS,trivial⟩ (.k (.k (.s .o .z))) (.k8 (.aB (.cU (.k .z)))) λa w hI=>?_
     refine Ib hI [0,0,3,7,15,15,63,127,255,511,511,2047,4095,511,511,25087,57855,511,262143,524287,1048575] [] [] [Uc 0 30 _,Uc 1 31 _,Uc 2 32 _,Uc 3 33 _,Uc 4 34 _,Uc 5 35 _,Uc 6 36 _,Uc 7 37 _,Uc 8 38 _,Uc 9 39 _,Uc 10 40 _,Uc 11 41 _,Uc 12 42 _,Uc 13 43 _,Uc 14 44 _,Uc 15 45 _,Uc 16 46 _,Uc 17 47 _,Uc 18 48 _,Uc 19 49 _,Uc 20 50 _] (.k (.k (.k .z))) (.k8 (.aB (.k .z))) ⟨mv,mv,bn,mv,gd λh=>xF h,gd λh=>xF h,gd λh=>yB h,pk,mv,gd λh=>zS h,gd λh=>xF h,gd λh=>Q9 h,gd λh=>zS h,gd λh=>zS h,gd λh=>xF h,gd λh=>Q9 h,gd λh=>zS h,gd λh=>zS h,gd λh=>N7 h AK (hφ:=⟨hn _ (by omega),hn _ hx,hn _ (by omega)⟩),gd λh=>yB h,pk,trivial⟩ (.k (.k (.d .z))) (.k8 (.aB (.d8 (.d8 (.cU (.dk .z)))))) λa w hI=>?_
     refine CS hI (λt4=>?_) (λt4=>?_)
     ·
      refine bN hI 1 [] [] [] (.u none [(0,pv _)] (.k .z)) (.k8 (.aB (.k .z))) ⟨lS,trivial⟩ (.s .o (.k .z)) (.k8 (.aB (.d .z))) λa w hI=>?_
      refine aP ?_
      refine bC ?_
      refine aH ?_
      refine aH ?_
      refine bC ?_
      refine bC ?_
      have hno:¬ ∀q,q<L.length->rZ L q:=λhall=>by
       have:=hall k hk i (by omega)
       simp only[Bool.and_eq_true,decide_eq_true_eq]at t4
       have h2:=this (by omega) (by omega)
       omega
      exact⟨(),hI.cv ⟨vC (λ_ _ h=>⟨⟨rfl,hno⟩,h⟩),vA,trivial⟩ ⟨gc,gc,gq 4,gq 5,gq 6,trivial⟩⟩
     ·
      refine aF ?_
      refine bK ?_
      refine ai ?_
      refine BH hI 2 [] [] [Uc 0 51 _,Uc 1 25 _] (.k (.k .z)) (.k8 (.eH (.t 1 (.k .z)))) ⟨bn,mv,trivial⟩ (.k (.k .z)) (.k8 (.fE (.tZ .z))) λa w hI=>?_
      refine ai ?_
      have hst:i≠k->i≠xH L.length k->0<gp (aA L k) (aA L (xH L.length k)) (aA L i):=λh1 h2=>by
       simp only[Bool.and_eq_false_iff,decide_eq_false_iff_not]at t4
       omega
      exact AO (i+1) ⟨by omega,λq hq h1 h2=>if e:q=i then by rw[e]at h1 h2 ⊢; exact hst h1 h2 else hi.2 q (by omega) h1 h2⟩ hI ⟨vc,vA,trivial⟩ ⟨gc,gc,gc,gc,gq 4,gq 5,gq 6,gc,gc,gc,gc,gc,trivial⟩ (by omega)
    ·
     refine dJ ?_
     refine aM ?_
     refine aM ?_
     refine bI ?_
     refine bK ?_
     exact⟨(),hI.cv ⟨vC (λ_ _ (h:uk (∀q,q<k->rZ L q) dZ _ _)=>⟨λq hq=>if e:q=k then by rw[e]; exactλj hj=>hi.2 j (by omega)else h.1 q (by omega),trivial⟩),vA,trivial⟩ ⟨gc,gc,gq 4,gq 5,gq 6,trivial⟩⟩
   ·
    dsimp only[List.append,HAppend.hAppend,Append.append]at hI
    have hall:=nY hI 0 rfl
    refine bK ?_
    refine ai ?_
    refine ry ?_
    refine bN hI 1 [] [] [] (.u none [(0,pv _)] (.k .z)) (.kk .z) ⟨lS,trivial⟩ (.s .o (.k .z)) (.dd .z) λa w hI=>?_
    refine aP ?_
    exact Cf hI 1 rfl (xx (hq:=dD (by unfold jC yU; rw[if_neg (by rw[t1]; exact Bool.false_ne_true),if_neg t2,if_pos hall])))
   ·
    dsimp only[List.append,HAppend.hAppend,Append.append]at hI
    obtain⟨rfl,hno⟩:=nY hI 0 rfl
    refine ry ?_
    refine aP ?_
    refine bC ?_
    refine aH ?_
    exact Cf hI 1 rfl (xx (hq:=λw v (h:uk _ (pI 7) w v)=>dD (by unfold jC yU; rw[if_neg (by rw[t1]; exact Bool.false_ne_true),if_neg t2,if_neg hno]) w v h.2))
def pK (L:List Pt) (d:Int):Pred:=pS [⟨false,1,kz L⟩,⟨false,1,pI d⟩]
def lg (L:List Pt) (d:Int):Int:=if jC L≠0 then jC L else if decide (d<1)||decide (d>64)then 1 else 0
theorem nB (h:jC L=0):∀q,q<L.length->fu 16777216 (aA L q):=by
 unfold jC at h
 by_cases h1:yU L=true
 ·rw[if_pos h1]at h; exact absurd h (by decide)
 ·rw[if_neg h1]at h
  by_cases h2:Fj L>=0
  ·rw[if_pos h2]at h; exact absurd h (by decide)
  ·exactλq hq=>uL (sG h2 q hq)
theorem mC (h:jC L=0):3<=L.length/\L.length<=10:=by
 unfold jC at h
 by_cases h1:yU L=true
 ·rw[if_pos h1]at h; exact absurd h (by decide)
 ·unfold yU at h1
  simp only[Bool.or_eq_true,decide_eq_true_eq,not_or]at h1
  omega
variable {d:Int}
theorem fL (h:lg L d=0):jC L=0:=by
 unfold lg at h
 by_cases h1:jC L≠0
 ·rw[if_pos h1]at h; exact h
 ·exact Decidable.not_not.1 h1
def KB (L:List Pt) (p:Pt):Bool:=decide (∀k,k<L.length->0<=gp (aA L k) (aA L (xH L.length k)) p)
def Gs (p:Pt):Bool:=decide (lH (lH (lH p.1 (-p.1)) p.2) (-p.2)>1048576)||decide (F7 p.1 p.2 < -1048576)
theorem D4 (h:Gs p=false):fu 16777216 p:=by
 unfold Gs lH F7 at h
 simp only[Bool.or_eq_false_iff,decide_eq_false_iff_not]at h
 unfold fu
 split at h<;>split at h<;>split at h<;>split at h<;>omega
def IX (L:List Pt) (d:Int) (p:Pt):Bool:=(decide (lg L d=0)&&!Gs p)&&KB L p
theorem jg (h:L.length<=1000):K1 Tryz.prog 13 (pK L d) (pI (lg L d)):=by
 intro M w0 v0 hM hv0
 refine xA (N:=18) Tryz.func13 rfl rfl rfl hM hv0 λa hI=>?_
 refine bN hI 2 [⟨1,1,some 0,none,.ptr,24,2,true,pv _,[]⟩] [] [Uc 1 2 _] .z (.k .z) ⟨bo,mv,trivial⟩ (.k .z) (.dk .z) λa w hI=>?_
 refine ax ?_
 refine bN hI 4 [] [⟨some 0,4,1,0,True⟩] [Uc 1 5 _,Uc 2 6 _,Uc 3 3 _] (.k .z) (.k .z) ⟨fa,ld,Ag yQ,mv,trivial⟩ (.k .z) (.Dv .z) λa w hI=>?_
 refine bN hI 2 [] [] [Uc 0 7 _,Uc 1 8 _] (.k .z) (.kk .z) ⟨mv,bn,trivial⟩ (.k .z) (.qL .z) λa w hI=>?_
 refine mJ hI (λt1=>?_) (λt1=>?_)
 ·
  refine bN hI 2 [] [] [Uc 0 9 _,Uc 1 2 _] (.k .z) (.t 1 (.kk .z)) ⟨mv,mv,trivial⟩ (.k .z) (.cU (.k .z)) λa w hI=>?_
  refine aP ?_
  refine aH ?_
  exact fo hI rfl (jP (hq:=dD (by unfold lg; rw[if_pos t1])))
 ·
  refine aF ?_
  refine ai ?_
  refine ax ?_
  refine bN hI 8 [] [⟨some 0,10,1,1,True⟩,⟨some 4,14,1,1,_⟩] [Uc 1 11 _,Uc 2 12 _,Uc 3 13 _,Uc 5 15 _,Uc 6 16 _,Uc 7 17 _] (.k .z) (.eH .z) ⟨fa,ld,bn,mv,gd λh=>uQ h,gd λh=>zS h,gd λh=>yB h,pk,trivial⟩ (.d .z) (.ju (.cU (.k .z))) λa w hI=>?_
  refine CS hI (λt2=>?_) (λt2=>?_)
  ·
   refine cK hI 1 [Uc 0 2 _] (.t 0 (.k .z)) ⟨mv,trivial⟩ (.tZ .z) λa w hI=>?_
   refine aP ?_
   refine aH ?_
   exact fo hI rfl (jP (hq:=dD (by unfold lg; rw[if_neg t1,if_pos t2])))
  ·
   refine aF ?_
   refine ai ?_
   refine cK hI 1 [Uc 0 2 _] (.t 0 (.k .z)) ⟨mv,trivial⟩ (.tZ .z) λa w hI=>?_
   refine aP ?_
   exact fo hI rfl (jP (hq:=dD (by unfold lg; rw[if_neg t1,if_neg (by rw[t2]; exact Bool.false_ne_true)])))
theorem sK (h:L.length<=1000/\(∀q,q<L.length->fu 16777216 (aA L q))/\fu 16777216 p):K2 Tryz.prog 31 (kz L) (fq p) (pB (KB L p)):=by
 intro M w0 v0 v1 hM hv0 mL
 refine Te (N:=22) Tryz.func31 rfl rfl hM hv0 mL λa hI=>?_
 refine bN hI 3 [⟨4,4,some 2,none,.ptr,4,1,false,pv _,[]⟩] [] [Uc 0 2 _,Uc 1 3 _] .z (.kk .z) ⟨EV 1 false,EV 2 true,MB .b,trivial⟩ (.k .z) (.ua .z) λa w hI=>?_
 refine ax ?_
 refine bN hI 2 [] [] [Uc 0 7 _,Uc 1 8 _] (.k .z) (.kk .z) ⟨ld,Ag Cr,trivial⟩ (.k .z) (.qL .z) λa w hI=>?_
 refine aN ?_
 refine zR (y0:=9) (y1:=10) (τ:=Unit) (λk t=>[Vz 4 4 4 1 false (uk (∀q,q<k->0<=gp (aA L q) (aA L (xH L.length q)) p) dZ)]) (λcd t=>[Vz 4 4 4 1 false (uk (cd=.ret/\¬ ∀q,q<L.length->0<=gp (aA L q) (aA L (xH L.length q)) p) (pB false))]) [Uz 2 _,Uz 3 _,Uz 8 _] [2,3,4,8] () (hI.cv ⟨vC (λ_ _ _=>⟨λ_ h=>absurd h (Nat.not_lt_zero _),trivial⟩),trivial⟩ ⟨gc,gc,gc,trivial⟩) rfl (λ_ _=>by kernel_rfl) (λ_ _=>by kernel_rfl) (by kernel_rfl) (by kernel_rfl) (by kernel_rfl) (λk t w0 M1 B1 a w D l r hk hr hI=>?_) (λt w D l r hI=>?_) (λcd t w D l r hI=>?_)
 ·
  dsimp only[List.append,List.map,HAppend.hAppend,Append.append,Iu]at hI
  refine bN hI 1 [] [] [Uc 0 5 _] (.k (.k .z)) (.k8 (.k .z)) ⟨mv,trivial⟩ (.k (.k .z)) (.k8 (.kk .z)) λa w hI=>?_
  refine BH hI 1 [] [] [Uc 0 6 _] (.k (.k .z)) (.k8 (.kk .z)) ⟨mv,trivial⟩ (.k (.k .z)) (.k8 (.eH .z)) λa w hI=>?_
  refine ai ?_
  refine ET hI 1 hr (λw hI=>?_)
  dsimp only[List.set]at hI
  have hx:xH L.length k<L.length:=Nat.mod_lt _ (by omega)
  refine aN ?_
  refine Ib hI [0,0,3,7,0,0,48,112,0,511,1023] [] [] [Uc 0 11 _,Uc 1 12 _,Uc 2 13 _,Uc 3 14 _,Uc 4 15 _,Uc 5 16 _,Uc 6 17 _,Uc 7 18 _,Uc 8 19 _,Uc 9 20 _,Uc 10 21 _] (.k (.k .z)) (.k8 (.eH .z)) ⟨ld,mv,ix,ld,ld,mv,ix,ld,ld,PW AK (hφ:=⟨h.2.1 _ (by omega),h.2.1 _ hx,h.2.2⟩),bn,trivial⟩ (.k (.k .z)) (.k8 (.fE (.d8 (.dk .z)))) λa w hI=>?_
  refine mJ hI (λt1=>?_) (λt1=>?_)
  ·
   refine bN hI 1 [] [] [] (.u none [(0,pv _)] (.k .z)) (.k8 (.aB .z)) ⟨lS,trivial⟩ (.s .o (.k .z)) (.k8 (.fE .z)) λa w hI=>?_
   refine aP ?_
   refine bC ?_
   have hno:¬ ∀q,q<L.length->0<=gp (aA L q) (aA L (xH L.length q)) p:=λhall=>by
    have:=hall k hk
    omega
   exact⟨(),hI.cv ⟨vC (λ_ _ h=>⟨⟨rfl,hno⟩,h⟩),vA,trivial⟩ ⟨gc,gc,gc,gq 5,gq 6,gq 7,gq 8,trivial⟩⟩
  ·
   refine aF ?_
   refine bK ?_
   exact⟨(),hI.cv ⟨vC (λ_ _ (h:uk (∀q,q<k->0<=gp (aA L q) (aA L (xH L.length q)) p) dZ _ _)=>⟨λq hq=>if e:q=k then by rw[e]; omega else h.1 q (by omega),trivial⟩),vA,trivial⟩ ⟨gc,gc,gc,gq 5,gq 6,gq 7,gq 8,trivial⟩⟩
 ·
  dsimp only[List.append,HAppend.hAppend,Append.append]at hI
  have hall:=nY hI 0 rfl
  refine bK ?_
  refine ai ?_
  refine ry ?_
  refine bN hI 1 [] [] [] (.u none [(0,pv _)] (.k .z)) (.eH .z) ⟨lS,trivial⟩ (.s .o (.k .z)) (.NP .z) λa w hI=>?_
  refine aP ?_
  exact Cf hI 1 rfl (xx (hq:=mN (by unfold KB; rw[decide_eq_true hall])))
 ·
  dsimp only[List.append,HAppend.hAppend,Append.append]at hI
  obtain⟨rfl,hno⟩:=nY hI 0 rfl
  refine ry ?_
  refine aP ?_
  refine bC ?_
  refine aH ?_
  exact Cf hI 1 rfl (xx (hq:=λw v (h:uk _ (pB false) w v)=>mN (by unfold KB; rw[decide_eq_false hno]) w v h.2))
theorem FQ (h:L.length<=1000/\fu 4611686018427387904 p):K2 Tryz.prog 12 (pK L d) (fq p) (ew (pB (IX L d p)) (pI (lg L d))):=by
 intro M w0 v0 v1 hM hv0 mL
 have hp:=h.2
 unfold fu at hp
 refine xB (N:=36) Tryz.func12 rfl rfl rfl hM hv0 mL λa hI=>?_
 refine bN hI 4 [⟨2,2,some 0,none,.ptr,24,2,true,pv _,[]⟩,⟨3,3,some 1,none,.ptr,26,2,true,pv _,[]⟩] [] [Uc 2 4 _,Uc 3 5 _] .z (.kk .z) ⟨bo,bo,mv,mv,trivial⟩ (.k (.k .z)) (.ua .z) λa w hI=>?_
 refine ax ?_
 refine bN hI 3 [] [] [Uc 0 7 _,Uc 1 8 _,Uc 2 6 _] (.k (.k .z)) (.kk .z) ⟨ld,Ag jg,mv,trivial⟩ (.k (.k .z)) (.fM (.k .z)) λa w hI=>?_
 refine bN hI 2 [] [] [Uc 0 9 _,Uc 1 10 _] (.k (.k .z)) (.eH .z) ⟨mv,bn,trivial⟩ (.k (.k .z)) (.fE (.k .z)) λa w hI=>?_
 refine mJ hI (λt1=>?_) (λt1=>?_)
 ·
  refine bN hI 3 [] [] [Uc 0 11 _,Uc 1 4 _,Uc 2 5 _] (.k (.k .z)) (.t 1 (.t 2 (.kk .z))) ⟨mv,mv,mv,trivial⟩ (.k (.k .z)) (.cU (.Nk .z)) λa w hI=>?_
  refine aP ?_
  refine aH ?_
  exact mI hI rfl (jP (hq:=mN (by unfold IX; rw[decide_eq_false t1]; rfl))) jP
 ·
  have he:lg L d=0:=Decidable.not_not.1 t1
  refine aF ?_
  refine ai ?_
  refine ax ?_
  refine bN hI 20 [] [⟨some 0,12,3,0,True⟩,⟨some 2,14,3,0,True⟩,⟨some 5,17,3,1,True⟩,⟨some 7,19,3,1,True⟩,⟨some 13,25,3,0,_⟩,⟨some 15,27,3,1,_⟩] [Uc 1 13 _,Uc 3 15 _,Uc 4 16 _,Uc 6 18 _,Uc 8 20 _,Uc 9 21 _,Uc 10 22 _,Uc 11 23 _,Uc 12 24 _,Uc 14 26 _,Uc 16 28 _,Uc 17 29 _,Uc 18 30 _,Uc 19 31 _] (.k (.k .z)) (.aB .z) ⟨fa,ld,fa,ld,ng,fa,ld,fa,ld,ng,WD,bn,mv,gd λh=>uQ h,gd λh=>zS h,gd λh=>uQ h,gd λh=>zS h,gd λh=>Rb h,gd λh=>yB h,pk,trivial⟩ (.k (.k .z)) (.fM (.d8 (.cU (.dk .z)))) λa w hI=>?_
  refine CS hI (λt2=>?_) (λt2=>?_)
  ·
   refine bN hI 2 [] [] [Uc 0 4 _,Uc 1 5 _] (.k (.k .z)) (.t 0 (.t 1 (.k .z))) ⟨mv,mv,trivial⟩ (.k (.k .z)) (.kM (.k .z)) λa w hI=>?_
   refine aP ?_
   refine aH ?_
   exact mI hI rfl (jP (hq:=mN (by unfold IX Gs; rw[t2,Bool.not_true,Bool.and_false,Bool.false_and]))) (jP (hq:=dD he.symm))
  ·
   refine aF ?_
   refine ai ?_
   refine bN hI 6 [] [⟨some 0,32,2,0,True⟩] [Uc 1 33 _,Uc 2 34 _,Uc 3 35 _,Uc 4 4 _,Uc 5 5 _] (.k (.k .z)) (.t 4 (.t 5 (.k .z))) ⟨fa,ld,ld,Eu sK (hφ:=⟨h.1,nB (fL he),D4 t2⟩),mv,mv,trivial⟩ (.d (.d .z)) (.cU (.ua .z)) λa w hI=>?_
   refine aP ?_
   exact mI hI rfl (jP (hq:=mN (by unfold IX Gs; rw[t2,decide_eq_true he]; rfl))) (jP (hq:=dD he.symm))
end Wx
