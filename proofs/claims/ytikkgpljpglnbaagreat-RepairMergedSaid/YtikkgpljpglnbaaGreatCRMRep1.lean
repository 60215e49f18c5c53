import Derived.Test.YtikkgpljpglnbaaGreatJRM28
namespace Wx
set_option maxRecDepth 100000
set_option maxHeartbeats 1000000
open Go Go.RowKit Go.Proofs
set_option linter.unusedVariables false
attribute [local irreducible] OpOk
abbrev Pt:=Int×Int
def cT (p:Pt):Pred:=pS [⟨false,1,pI p.1⟩,⟨false,1,pI p.2⟩]
def ae (L:List Pt) (i:Nat):Pt:=L.getD i (0,0)
abbrev fF (L:List Pt):Pred:=bK 2 true L.length λi=>cT (ae L i)
def bG (B:Int) (p:Pt):Prop :=-B<=p.1/\p.1<=B /\ -B<=p.2/\p.2<=B
def ai (a b c:Pt):Int:=(b.1-a.1)*(c.2-a.2)-(b.2-a.2)*(c.1-a.1)
def dS (n k:Nat):Nat:=(k+1)%n
theorem MK (n k:Nat):((k:Int)+1)%(n:Int)=((dS n k:Nat):Int):=by unfold dS; rw[Int.natCast_emod]; rfl
def iJ (φ:Prop) (p:Pred):Pred:=λw v=>φ/\p w v
theorem fl {c:cM} {V:List Vr} {G:List aV} {a:Act} {w:World} {i s T n:Nat} {ag:Bool} {φ:Prop} {q:Pred} (hI:Inv c V [] G none_ a w) (k:Nat) (hk:V[k]?=some (Vz i s T n ag (iJ φ q))):φ:=by
 obtain⟨β,h⟩:=hI
 obtain⟨g,e,h1,hb⟩:=(bB rfl).1 (h.var _ (List.mem_of_getElem? hk) rfl)
 obtain⟨cs,k1,k2,k3,k4⟩:=hb.held
 have h4:aM (own c V none_ β) (λw=>iJ φ q w (au ag cs)) w:=k4
 exact h4.out.1
theorem jS {a b c:Pt} (h:bG 16777216 a/\bG 16777216 b/\bG 16777216 c):K3 Tryz.prog 38 (cT a) (cT b) (cT c) (pI (ai a b c)):=by
 intro M w0 v0 v1 v2 hM hv0 iI hv2
 obtain⟨⟨a1,a2,a3,a4⟩,⟨b1,b2,b3,b4⟩,c1,c2,c3,c4⟩:=h
 have m1:=iA 33554432 (p:=b.1-a.1) (q:=c.2-a.2) (by omega) (by omega) (by omega) (by omega)
 have m2:=iA 33554432 (p:=b.2-a.2) (q:=c.1-a.1) (by omega) (by omega) (by omega) (by omega)
 refine Ho (N:=30) Tryz.func38 rfl rfl rfl hM hv0 iI hv2 λa hI=>?_
 refine aW hI 4 [⟨3,3,some 0,none,.ptr,38,2,true,pv _,[]⟩,⟨4,4,some 1,none,.ptr,38,2,true,pv _,[]⟩,⟨5,5,some 2,none,.ptr,38,2,true,pv _,[]⟩] [] [Uc 3 6 _] .z (.cQ .z) ⟨bo,bo,bo,mv,trivial⟩ (.k (.k (.k .z))) (.ew .z) λa w hI=>?_
 refine aW hI 24 [] [⟨some 0,7,4,0,True⟩,⟨some 2,9,3,0,True⟩,⟨some 5,12,5,1,True⟩,⟨some 7,14,3,1,True⟩,⟨some 11,18,4,1,True⟩,⟨some 13,20,3,1,True⟩,⟨some 16,23,5,0,True⟩,⟨some 18,25,3,0,True⟩] [Uc 1 8 _,Uc 3 10 _,Uc 4 11 _,Uc 6 13 _,Uc 8 15 _,Uc 9 16 _,Uc 10 17 _,Uc 12 19 _,Uc 14 21 _,Uc 15 22 _,Uc 17 24 _,Uc 19 26 _,Uc 20 27 _,Uc 21 28 _,Uc 22 29 _,Uc 23 6 _] (.k (.k (.k .z))) (.t 23 .z) ⟨fa,ld,fa,ld,bn,fa,ld,fa,ld,bn,bn,fa,ld,fa,ld,bn,fa,ld,fa,ld,bn,bn,bn,mv,trivial⟩ (.d (.d (.d .z))) (.d8 (.d8 (.k .z))) λa w hI=>?_
 refine aJ ?_
 exact dB hI rfl fK
variable {L:List Pt}
theorem FQ (h:L.length<=1000) (u:Value):EJ Tryz.prog 67 #[u] L.length (λk=>pI (k:Int)) (λk=>pI ((dS L.length k:Nat):Int)) (EW 1 false (fF L) #[u]):=by
 intro σ l M Bs J X s0 w0 hM hB hN hJ hc hr
 refine Xb (N:=19) Tryz.func67 rfl rfl hM hB hN hJ (EX hc) λa hI=>?_
 refine aW hI 3 [] [] [Uc 0 4 _,Uc 1 5 _,Uc 2 6 _] (.k .z) (.kk .z) ⟨ld,ln,mv,trivial⟩ (.k .z) (.mX (.k .z)) λa w hI=>?_
 refine aD ?_
 refine vL [] [Uz 0 _,Uz 1 _,Uz 5 _] (λ(i:Nat×σ)=>[jV 19 (Bs i.2) (J i.1 i.2)]) (λ(i:Nat×σ)=>[Uz 6 (pI (i.1:Int))]) (λ(i:Nat×σ)=>i.1<=L.length) (λ(i:Nat×σ)=>L.length-i.1) ((0,s0)) (Nat.zero_le _) hI ⟨vJ,trivial⟩ ⟨gi,gi,gi,gc,trivial⟩ ?_
 intro i a w hi hI
 refine aW hI 1 [] [] [Uc 0 7 _] (.k .z) (.aq .z) ⟨bn,trivial⟩ (.k .z) (.aq (.k .z)) λa w hI=>?_
 refine av ?_
 refine iK hI (λt1=>?_) (λt1=>?_)
 ·
  refine aB ?_
  refine ah ?_
  refine av ?_
  refine aD ?_
  refine aW hI 2 [] [] [Uc 0 8 _,Uc 1 3 _] (.k .z) (.aq (.k .z)) ⟨mv,mv,trivial⟩ (.k .z) (.aq (.lW .z)) λa w hI=>?_
  refine Hq (n0:=0) (nv:=[]) (A1:=[]) (ne:=[Uc 0 9 _,Uc 1 10 _,Uc 2 11 _,Uc 3 12 _,Uc 4 13 _,Uc 5 14 _,Uc 6 15 _]) Bs (λb s'=>if b then J (i.1+1) s' else X s') 7 hI (.k .z) (.aq (.k .z)) ⟨mv,mv,mv,bn,ld,ln,rm,trivial⟩ (.k .z) (.aq (.Ro (.ew .z))) rfl rfl rfl rfl rfl (λM' w' u0 u1 k1 k2 k3 k4 k5 k6=>hr i.1 i.2 M' w' u0 u1 (by omega) k1 k2 k3 k4 k5 (k6.imp λw h=>cG (MK _ _) w u1 h)) (λb s' a w hI=>?_)
  dsimp only[List.set]at hI
  refine uz hI (λt2=>?_) (λt2=>?_)
  ·
   obtain rfl:b=false:=by simpa using t2
   refine aJ ?_
   refine aO ?_
   refine aG ?_
   refine aG ?_
   refine aO ?_
   exact OB (n0:=0) hI rfl rfl λh1 h2 h3 h4=>⟨_,s',rfl,h1,h2,h3,.inr h4⟩
  ·
   obtain rfl:b=true:=by simpa using t2
   refine aB ?_
   refine aQ ?_
   refine ah ?_
   refine tX hI 2 [] [] [Uc 0 18 _,Uc 1 6 _] (.k .z) (.aq (.k (.t 1 (.cQ .z)))) ⟨bn,mv,trivial⟩ (.k .z) (.jI (.fN (.lW .z))) λa w hI=>?_
   refine ah ?_
   exact uq ((i.1+1,s')) (by(show i.1+1<=L.length); omega) hI ⟨vJ,trivial⟩ ⟨gc,gc,gc,gc,trivial⟩ (by(show L.length-(i.1+1)<L.length-i.1); omega)
 ·
  refine cj ?_
  refine aH ?_
  refine aH ?_
  refine aY ?_
  exact OC (n0:=0) hI rfl rfl λh1 h2 h3 h4=>⟨_,i.2,rfl,h1,h2,h3,.inl (by(have e:i.1=L.length:=by omega); rw[e]at h4; exact h4)⟩
theorem om (h:L.length<=1000):K1 Tryz.prog 47 (fF L) (zk Tryz.prog L.length (λk=>pI (k:Int)) (λk=>pI ((dS L.length k:Nat):Int)) (EW 1 false (fF L))):=by
 intro M w0 v0 hM hv0
 refine uA (N:=4) Tryz.func47 rfl rfl rfl hM hv0 λa hI=>?_
 refine bH hI 2 [Uc 0 1 _,Uc 1 2 _] (.k .z) ⟨rR 1 false,mv,trivial⟩ (.Dn .z) λa w hI=>?_
 refine bH hI 2 [Uc 0 3 _,Uc 1 2 _] (.k (.t 1 .z)) ⟨UL,mv,trivial⟩ (.ew .z) λa w hI=>?_
 refine aJ ?_
 exact dB hI rfl (fK (hq:=Ip (λ_ _=>by kernel_rfl) λu=>FQ h u))
def Dp (x:Int):Bool:=decide (x < -1048576)||decide (x>1048576)
def yl (p:Pt):Bool:=Dp p.1||Dp p.2
variable {p:Pt}
theorem uS (h:yl p=false):bG 16777216 p:=by
 unfold yl Dp at h
 simp only[Bool.or_eq_false_iff,decide_eq_false_iff_not]at h
 unfold bG
 omega
def pP (f:Nat->Bool):Nat->Int
 |0 => -1
 |n+1=>if 0<=pP f n then pP f n else if f n=true then(n:Int)else -1
theorem nY {f:Nat->Bool}:∀{n:Nat},(∀q,q<n->f q=false)->pP f n = -1
 |0,_=>rfl
 |n+1,h=>by
  show(if 0<=pP f n then pP f n else if f n=true then(n:Int)else -1) = -1
  rw[nY λq hq=>h q (by omega),if_neg (by omega),if_neg (by rw[h n (by omega)]; exact Bool.false_ne_true)]
theorem Ct {f:Nat->Bool} {i:Nat} (hn:f i=true) (h:∀q,q<i->f q=false):∀{n:Nat},i<n->pP f n=(i:Int)
 |n+1,hi=>by
  show(if 0<=pP f n then pP f n else if f n=true then(n:Int)else -1)=_
  by_cases e:i=n
  ·subst e
   rw[nY h,if_neg (by omega),if_pos hn]
  ·rw[Ct hn h (show i<n by omega),if_pos (by omega)]
theorem nZ {f:Nat->Bool}:∀{n:Nat},¬0<=pP f n->∀q,q<n->f q=false
 |n+1,h,q,hq=>by
  have h1:¬0<=(if 0<=pP f n then pP f n else if f n=true then(n:Int)else -1):=h
  by_cases h2:0<=pP f n
  ·rw[if_pos h2]at h1; exact absurd h2 h1
  ·rw[if_neg h2]at h1
   by_cases h3:f n=true
   ·rw[if_pos h3]at h1; omega
   ·by_cases e:q=n
    ·rw[e]; simpa using h3
    ·exact nZ h2 q (by omega)
abbrev kS (L:List Pt) (k:Nat):Prop:=∀i,i<L.length->i≠k->i≠dS L.length k->0<ai (ae L k) (ae L (dS L.length k)) (ae L i)
def AA (L:List Pt):Int:=pP (λi=>yl (ae L i)) L.length
def sQ (L:List Pt):Bool:=decide ((L.length:Int)<3)||decide ((L.length:Int)>10)
def bJ (L:List Pt):Int:=if sQ L then 4 else if AA L>=0 then 1 else if ∀k,k<L.length->kS L k then 0 else 7
theorem FW {x:Int} (_:True):K1 Tryz.prog 44 (pI x) (pB (Dp x)):=by
 intro M w0 v0 hM hv0
 refine uA (N:=9) Tryz.func44 rfl rfl rfl hM hv0 λa hI=>?_
 refine bH hI 1 [Uc 0 2 _] (.k .z) ⟨mv,trivial⟩ (.kk .z) λa w hI=>?_
 refine bH hI 7 [Uc 0 3 _,Uc 1 4 _,Uc 2 5 _,Uc 3 6 _,Uc 4 7 _,Uc 5 8 _,Uc 6 2 _] (.k (.t 6 .z)) ⟨mv,bn,mv,gd λh=>gZ h,gd λh=>mA h,pk,mv,trivial⟩ (.d8 (.k .z)) λa w hI=>?_
 refine aJ ?_
 exact dB hI rfl fK
theorem Ji (_:True):K2 Tryz.prog 46 (cT p) (dD 1 false (bp (.func (.func 44) #[] #[]))) (pB (yl p)):=by
 intro M w0 v0 v1 hM hv0 iI
 refine xn (N:=14) Tryz.func46 rfl rfl rfl hM hv0 iI λa hI=>?_
 refine aW hI 2 [⟨2,2,some 0,none,.ptr,38,2,true,pv _,[]⟩] [] [Uc 1 3 _] .z (.kk .z) ⟨bo,mv,trivial⟩ (.k .z) (.Dn .z) λa w hI=>?_
 refine aW hI 11 [] [⟨some 1,5,2,0,True⟩,⟨some 6,10,2,1,_⟩] [Uc 0 4 _,Uc 2 6 _,Uc 3 7 _,Uc 4 8 _,Uc 5 9 _,Uc 7 11 _,Uc 8 12 _,Uc 9 13 _,Uc 10 3 _] (.k .z) (.k (.t 10 .z)) ⟨W5,fa,ld,Nw FW,mv,gd λh=>RB h,gd λh=>mE h,gd λh=>dQ h,gd λh=>Rz h FW,pk,mv,trivial⟩ (.d .z) (.d8 (.lW .z)) λa w hI=>?_
 refine aJ ?_
 exact dB hI rfl fK
theorem FX (h:L.length<=1000):K2 Tryz.prog 66 (fF L) (D8 46 1 false (bp (.func (.func 44) #[] #[]))) (pI (AA L)):=by
 intro M w0 v0 v1 hM hv0 iI
 refine xn (N:=19) Tryz.func66 rfl rfl rfl hM hv0 iI λa hI=>?_
 refine bH hI 1 [Uc 0 4 _] (.kk .z) ⟨mv,trivial⟩ (.cQ .z) λa w hI=>?_
 refine av ?_
 refine bH hI 3 [Uc 0 6 _,Uc 1 7 _,Uc 2 8 _] (.cQ .z) ⟨mv,ln,mv,trivial⟩ (.dg (.kk .z)) λa w hI=>?_
 refine aD ?_
 refine vL [] [Uz 0 _,Uz 1 _,Uz 7 _] (λ(i:Nat)=>[]) (λ(i:Nat)=>[Uz 8 (pI (i:Int))]) (λ(i:Nat)=>i<=L.length/\∀q,q<i->yl (ae L q)=false) (λ(i:Nat)=>L.length-i) (0) ⟨Nat.zero_le _,λ_ h=>absurd h (Nat.not_lt_zero _)⟩ hI trivial ⟨gi,gi,gi,gc,trivial⟩ ?_
 intro i a w hi hI
 refine bH hI 1 [Uc 0 9 _] (.aq .z) ⟨bn,trivial⟩ (.aq (.k .z)) λa w hI=>?_
 refine av ?_
 refine iK hI (λt1=>?_) (λt1=>?_)
 ·
  refine aB ?_
  refine ah ?_
  refine av ?_
  refine aD ?_
  refine bH hI 2 [Uc 0 10 _,Uc 1 5 _] (.aq (.k .z)) ⟨mv,mv,trivial⟩ (.aq (.lW .z)) λa w hI=>?_
  refine bH hI 6 [Uc 0 11 _,Uc 1 12 _,Uc 2 13 _,Uc 3 14 _,Uc 4 15 _,Uc 5 16 _] (.aq (.k .z)) ⟨mv,mv,mv,ix,ld,Vy (λ_ _=>by kernel_rfl) (Ji trivial),trivial⟩ (.aq (.fN (.lW .z))) λa w hI=>?_
  refine uz hI (λt2=>?_) (λt2=>?_)
  ·
   refine bH hI 2 [Uc 0 17 _,Uc 1 4 _] (.aq (.kk .z)) ⟨mv,mv,trivial⟩ (.aq (.ew .z)) λa w hI=>?_
   refine aJ ?_
   refine aO ?_
   refine aG ?_
   refine aG ?_
   refine aO ?_
   refine aG ?_
   exact dB hI rfl (fK (hq:=cG (Ct t2 hi.2 (by omega)).symm))
  ·
   refine aB ?_
   refine aQ ?_
   refine ah ?_
   refine BQ hI 2 [Uc 0 18 _,Uc 1 8 _] (.cQ (.t 1 (.kk .z))) ⟨bn,mv,trivial⟩ (.dg (.ew .z)) λa w hI=>?_
   refine ah ?_
   exact uq (i+1) ⟨by omega,λq hq=>if e:q=i then by rw[e]; exact t2 else hi.2 q (by omega)⟩ hI trivial ⟨gc,gc,gc,gc,trivial⟩ (by omega)
 ·
  refine cj ?_
  refine aH ?_
  refine aH ?_
  refine aY ?_
  refine ah ?_
  refine bH hI 1 [Uc 0 4 _] (.aq (.k .z)) ⟨mv,trivial⟩ (.bL (.dk .z)) λa w hI=>?_
  refine aJ ?_
  exact dB hI rfl (fK (hq:=cG (nY λq hq=>hi.2 q (by omega)).symm))
theorem yP (h:L.length<=1000):K2 Tryz.prog 45 (fF L) (D8 46 1 false (bp (.func (.func 44) #[] #[]))) (pB (decide (AA L>=0))):=by
 intro M w0 v0 v1 hM hv0 iI
 refine xn (N:=9) Tryz.func45 rfl rfl rfl hM hv0 iI λa hI=>?_
 refine bH hI 1 [Uc 0 4 _] (.kk .z) ⟨mv,trivial⟩ (.cQ .z) λa w hI=>?_
 refine bH hI 5 [Uc 0 5 _,Uc 1 6 _,Uc 2 7 _,Uc 3 8 _,Uc 4 4 _] (.kk (.t 4 .z)) ⟨mv,mv,wj FX,bn,mv,trivial⟩ (.bL (.ew .z)) λa w hI=>?_
 refine aJ ?_
 exact dB hI rfl fK
theorem qy (h:L.length<=1000):K1 Tryz.prog 22 (fF L) (pI (bJ L)):=by
 intro M w0 v0 hM hv0
 refine Tz (N:=52) Tryz.func22 rfl rfl hM hv0 λa hI=>?_
 refine aW hI 2 [⟨2,2,some 1,none,.ptr,27,1,false,pv _,[]⟩] [] [Uc 0 1 _] .z (.k .z) ⟨rR 1 false,A7 .i,trivial⟩ (.k .z) (.dk .z) λa w hI=>?_
 refine av ?_
 refine aW hI 8 [] [] [Uc 0 8 _,Uc 1 9 _,Uc 2 10 _,Uc 3 11 _,Uc 4 12 _,Uc 5 13 _,Uc 6 14 _,Uc 7 15 _] (.k .z) (.k .z) ⟨ld,ln,bn,mv,gd λh=>dQ h,gd λh=>T9 h,gd λh=>mA h,pk,trivial⟩ (.k .z) (.fN (.bL (.k .z))) λa w hI=>?_
 refine uz hI (λt1=>?_) (λt1=>?_)
 ·
  refine aW hI 1 [] [] [] (.u none [(0,pv _)] .z) (.kk .z) ⟨kI,trivial⟩ (.s .o .z) (.kd .z) λa w hI=>?_
  refine aJ ?_
  refine aG ?_
  exact Fm hI rfl (xj (hq:=cG (by unfold bJ sQ; rw[if_pos t1])))
 ·
  refine aB ?_
  refine ah ?_
  refine aW hI 2 [⟨3,3,some 0,none,.ptr,73,1,false,pv _,[(1,pv _)]⟩] [] [] (.k .z) (.kk .z) ⟨Vo,gl rfl rfl hs rfl rfl (bE (by kernel_rfl)) (wq _) (by kernel_rfl),trivial⟩ (.k (.s .o .z)) (.kd .z) λa w hI=>?_
  have hI:=BK hI 1 rfl (by kernel_rfl)
  dsimp only[List.eraseIdx]at hI
  refine av ?_
  refine aW hI 3 [] [] [Uc 0 16 _,Uc 1 17 _,Uc 2 18 _] (.k .z) (.kk .z) ⟨ld,UL,wj yP,trivial⟩ (.k .z) (.Oq (.k .z)) λa w hI=>?_
  refine iK hI (λt2=>?_) (λt2=>?_)
  ·
   refine aW hI 1 [] [] [] (.u none [(0,pv _)] .z) (.kk .z) ⟨kI,trivial⟩ (.s .o .z) (.kd .z) λa w hI=>?_
   refine aJ ?_
   refine aG ?_
   exact Fm hI rfl (xj (hq:=cG (by unfold bJ sQ; rw[if_neg (by rw[t1]; exact Bool.false_ne_true),if_pos t2])))
  ·
   have Se:¬0<=AA L:=t2
   have hn:∀q,q<L.length->bG 16777216 (ae L q):=λq hq=>uS (nZ Se q hq)
   refine aB ?_
   refine ah ?_
   refine av ?_
   refine aW hI 2 [] [] [Uc 0 19 _,Uc 1 20 _] (.k .z) (.kk .z) ⟨ld,qZ om,trivial⟩ (.k .z) (.wI .z) λa w hI=>?_
   refine aD ?_
   refine pn (y0:=21) (y1:=22) (τ:=Unit) (λk t=>[Vz 2 2 27 1 false (iJ (∀q,q<k->kS L q) iC)]) (λcd t=>[Vz 2 2 27 1 false (iJ (cd=.ret/\¬ ∀q,q<L.length->kS L q) (pI 7))]) [Uz 1 _,Uz 20 _] [1,2,20] () (hI.cv ⟨vC (λ_ _ _=>⟨λ_ h=>absurd h (Nat.not_lt_zero _),trivial⟩),trivial⟩ ⟨gc,gc,trivial⟩) rfl (λ_ _=>by kernel_rfl) (λ_ _=>by kernel_rfl) (by kernel_rfl) (by kernel_rfl) (by kernel_rfl) (λk t w0 M1 B1 a w D l r hk hr hI=>?_) (λt w D l r hI=>?_) (λcd t w D l r hI=>?_)
   ·
    dsimp only[List.append,List.map,HAppend.hAppend,Append.append,xo]at hI
    refine aW hI 1 [] [] [Uc 0 4 _] (.k (.k .z)) (.aq (.cQ .z)) ⟨mv,trivial⟩ (.k (.k .z)) (.k8 .z) λa w hI=>?_
    refine tX hI 1 [] [] [Uc 0 5 _] (.k (.k .z)) (.k8 .z) ⟨mv,trivial⟩ (.k (.k .z)) (.k8 (.k .z)) λa w hI=>?_
    refine ah ?_
    refine vY hI 1 hr (λw hI=>?_)
    dsimp only[List.set]at hI
    have hx:dS L.length k<L.length:=Nat.mod_lt _ (by omega)
    refine aD ?_
    refine aW hI 3 [] [] [Uc 0 23 _,Uc 1 24 _,Uc 2 25 _] (.k (.k .z)) (.k8 (.k .z)) ⟨ld,ln,mv,trivial⟩ (.k (.k .z)) (.k8 (.aq .z)) λa w hI=>?_
    refine aD ?_
    refine vL [Vz 2 2 27 1 false _,cN 52 52 _] [Uz 22 _,Uz 21 _,Uz 1 _,Uz 20 _,Uz 1 _,Uz 2 _,Uz 20 _,Uz 4 _,Uz 5 _,Uz 23 _,Uz 24 _] (λ(i:Nat)=>[]) (λ(i:Nat)=>[Uz 25 (pI (i:Int))]) (λ(i:Nat)=>i<=L.length/\∀q,q<i->q≠k->q≠dS L.length k->0<ai (ae L k) (ae L (dS L.length k)) (ae L q)) (λ(i:Nat)=>L.length-i) (0) ⟨Nat.zero_le _,λ_ h=>absurd h (Nat.not_lt_zero _)⟩ hI ⟨vi,vA,trivial⟩ ⟨gi,gi,gi,gi,gq 4,gq 5,gq 6,gi,gi,gi,gi,gc,trivial⟩ ?_
    intro i a w hi hI
    have hx:dS L.length k<L.length:=Nat.mod_lt _ (by omega)
    refine aW hI 1 [] [] [Uc 0 26 _] (.k (.k .z)) (.k8 (.aq .z)) ⟨bn,trivial⟩ (.k (.k .z)) (.k8 (.aq (.k .z))) λa w hI=>?_
    refine av ?_
    refine iK hI (λt3=>?_) (λt3=>?_)
    ·
     refine aB ?_
     refine ah ?_
     refine av ?_
     refine aD ?_
     refine aW hI 6 [⟨7,7,some 3,none,.ptr,38,2,true,pv _,[(5,pv _)]⟩] [] [Uc 0 27 _,Uc 1 28 _,Uc 2 29 _,Uc 4 6 _] (.k (.k .z)) (.k8 (.aq (.k .z))) ⟨mv,ix,ld,pY [.i,.i],mv,kI,trivial⟩ (.k (.k (.s .o .z))) (.k8 (.aq (.bL (.k .z)))) λa w hI=>?_
     refine BP hI [0,0,3,7,15,15,63,127,255,511,511,2047,4095,511,511,25087,57855,511,262143,524287,1048575] [] [] [Uc 0 30 _,Uc 1 31 _,Uc 2 32 _,Uc 3 33 _,Uc 4 34 _,Uc 5 35 _,Uc 6 36 _,Uc 7 37 _,Uc 8 38 _,Uc 9 39 _,Uc 10 40 _,Uc 11 41 _,Uc 12 42 _,Uc 13 43 _,Uc 14 44 _,Uc 15 45 _,Uc 16 46 _,Uc 17 47 _,Uc 18 48 _,Uc 19 49 _,Uc 20 50 _] (.k (.k (.k .z))) (.k8 (.aq (.k .z))) ⟨mv,mv,bn,mv,gd λh=>gZ h,gd λh=>gZ h,gd λh=>mA h,pk,mv,gd λh=>dQ h,gd λh=>gZ h,gd λh=>Ey h,gd λh=>dQ h,gd λh=>dQ h,gd λh=>gZ h,gd λh=>Ey h,gd λh=>dQ h,gd λh=>dQ h,gd λh=>OE h jS (hφ:=⟨hn _ (by omega),hn _ hx,hn _ (by omega)⟩),gd λh=>mA h,pk,trivial⟩ (.k (.k (.d .z))) (.k8 (.aq (.d8 (.d8 (.bL (.dk .z)))))) λa w hI=>?_
     refine uz hI (λt4=>?_) (λt4=>?_)
     ·
      refine aW hI 1 [] [] [] (.u none [(0,pv _)] (.k .z)) (.k8 (.aq (.k .z))) ⟨kI,trivial⟩ (.s .o (.k .z)) (.k8 (.aq (.d .z))) λa w hI=>?_
      refine aJ ?_
      refine aO ?_
      refine aG ?_
      refine aG ?_
      refine aO ?_
      refine aO ?_
      have hno:¬ ∀q,q<L.length->kS L q:=λhall=>by
       have:=hall k hk i (by omega)
       simp only[Bool.and_eq_true,decide_eq_true_eq]at t4
       have h2:=this (by omega) (by omega)
       omega
      exact⟨(),hI.cv ⟨vC (λ_ _ h=>⟨⟨rfl,hno⟩,h⟩),vA,trivial⟩ ⟨gc,gc,gq 4,gq 5,gq 6,trivial⟩⟩
     ·
      refine aB ?_
      refine aQ ?_
      refine ah ?_
      refine tX hI 2 [] [] [Uc 0 51 _,Uc 1 25 _] (.k (.k .z)) (.k8 (.cQ (.t 1 (.k .z)))) ⟨bn,mv,trivial⟩ (.k (.k .z)) (.k8 (.dg (.lW .z))) λa w hI=>?_
      refine ah ?_
      have hst:i≠k->i≠dS L.length k->0<ai (ae L k) (ae L (dS L.length k)) (ae L i):=λh1 h2=>by
       simp only[Bool.and_eq_false_iff,decide_eq_false_iff_not]at t4
       omega
      exact uq (i+1) ⟨by omega,λq hq h1 h2=>if e:q=i then by rw[e]at h1 h2 ⊢; exact hst h1 h2 else hi.2 q (by omega) h1 h2⟩ hI ⟨vc,vA,trivial⟩ ⟨gc,gc,gc,gc,gq 4,gq 5,gq 6,gc,gc,gc,gc,gc,trivial⟩ (by omega)
    ·
     refine cj ?_
     refine aH ?_
     refine aH ?_
     refine aY ?_
     refine aQ ?_
     exact⟨(),hI.cv ⟨vC (λ_ _ (h:iJ (∀q,q<k->kS L q) iC _ _)=>⟨λq hq=>if e:q=k then by rw[e]; exactλj hj=>hi.2 j (by omega)else h.1 q (by omega),trivial⟩),vA,trivial⟩ ⟨gc,gc,gq 4,gq 5,gq 6,trivial⟩⟩
   ·
    dsimp only[List.append,HAppend.hAppend,Append.append]at hI
    have hall:=fl hI 0 rfl
    refine aQ ?_
    refine ah ?_
    refine ja ?_
    refine aW hI 1 [] [] [] (.u none [(0,pv _)] (.k .z)) (.kk .z) ⟨kI,trivial⟩ (.s .o (.k .z)) (.dd .z) λa w hI=>?_
    refine aJ ?_
    exact qo hI 1 rfl (xj (hq:=cG (by unfold bJ sQ; rw[if_neg (by rw[t1]; exact Bool.false_ne_true),if_neg t2,if_pos hall])))
   ·
    dsimp only[List.append,HAppend.hAppend,Append.append]at hI
    obtain⟨rfl,hno⟩:=fl hI 0 rfl
    refine ja ?_
    refine aJ ?_
    refine aO ?_
    refine aG ?_
    exact qo hI 1 rfl (xj (hq:=λw v (h:iJ _ (pI 7) w v)=>cG (by unfold bJ sQ; rw[if_neg (by rw[t1]; exact Bool.false_ne_true),if_neg t2,if_neg hno]) w v h.2))
def fE (L:List Pt) (d:Int):Pred:=pS [⟨false,1,fF L⟩,⟨false,1,pI d⟩]
def aR (L:List Pt) (d:Int):Int:=if bJ L≠0 then bJ L else if decide (d<1)||decide (d>64)then 1 else 0
theorem di (h:bJ L=0):∀q,q<L.length->bG 16777216 (ae L q):=by
 unfold bJ at h
 by_cases h1:sQ L=true
 ·rw[if_pos h1]at h; exact absurd h (by decide)
 ·rw[if_neg h1]at h
  by_cases h2:AA L>=0
  ·rw[if_pos h2]at h; exact absurd h (by decide)
  ·exactλq hq=>uS (nZ h2 q hq)
theorem cA (h:bJ L=0):3<=L.length/\L.length<=10:=by
 unfold bJ at h
 by_cases h1:sQ L=true
 ·rw[if_pos h1]at h; exact absurd h (by decide)
 ·unfold sQ at h1
  simp only[Bool.or_eq_true,decide_eq_true_eq,not_or]at h1
  omega
variable {d:Int}
theorem aP (h:aR L d=0):bJ L=0:=by
 unfold aR at h
 by_cases h1:bJ L≠0
 ·rw[if_pos h1]at h; exact h
 ·exact Decidable.not_not.1 h1
def ua (L:List Pt) (p:Pt):Bool:=decide (∀k,k<L.length->0<=ai (ae L k) (ae L (dS L.length k)) p)
def Bo (p:Pt):Bool:=decide (dh (dh (dh p.1 (-p.1)) p.2) (-p.2)>1048576)||decide (jT p.1 p.2 < -1048576)
theorem D7 (h:Bo p=false):bG 16777216 p:=by
 unfold Bo dh jT at h
 simp only[Bool.or_eq_false_iff,decide_eq_false_iff_not]at h
 unfold bG
 split at h<;>split at h<;>split at h<;>split at h<;>omega
def mV (L:List Pt) (d:Int) (p:Pt):Bool:=(decide (aR L d=0)&&!Bo p)&&ua L p
theorem ct (h:L.length<=1000):K1 Tryz.prog 11 (fE L d) (pI (aR L d)):=by
 intro M w0 v0 hM hv0
 refine uA (N:=18) Tryz.func11 rfl rfl rfl hM hv0 λa hI=>?_
 refine aW hI 2 [⟨1,1,some 0,none,.ptr,24,2,true,pv _,[]⟩] [] [Uc 1 2 _] .z (.k .z) ⟨bo,mv,trivial⟩ (.k .z) (.dk .z) λa w hI=>?_
 refine av ?_
 refine aW hI 4 [] [⟨some 0,4,1,0,True⟩] [Uc 1 5 _,Uc 2 6 _,Uc 3 3 _] (.k .z) (.k .z) ⟨fa,ld,qZ qy,mv,trivial⟩ (.k .z) (.wI .z) λa w hI=>?_
 refine aW hI 2 [] [] [Uc 0 7 _,Uc 1 8 _] (.k .z) (.kk .z) ⟨mv,bn,trivial⟩ (.k .z) (.mX .z) λa w hI=>?_
 refine iK hI (λt1=>?_) (λt1=>?_)
 ·
  refine aW hI 2 [] [] [Uc 0 9 _,Uc 1 2 _] (.k .z) (.t 1 (.kk .z)) ⟨mv,mv,trivial⟩ (.k .z) (.bL (.k .z)) λa w hI=>?_
  refine aJ ?_
  refine aG ?_
  exact dB hI rfl (fK (hq:=cG (by unfold aR; rw[if_pos t1])))
 ·
  refine aB ?_
  refine ah ?_
  refine av ?_
  refine aW hI 8 [] [⟨some 0,10,1,1,True⟩,⟨some 4,14,1,1,_⟩] [Uc 1 11 _,Uc 2 12 _,Uc 3 13 _,Uc 5 15 _,Uc 6 16 _,Uc 7 17 _] (.k .z) (.cQ .z) ⟨fa,ld,bn,mv,gd λh=>mE h,gd λh=>dQ h,gd λh=>mA h,pk,trivial⟩ (.d .z) (.fN (.bL (.k .z))) λa w hI=>?_
  refine uz hI (λt2=>?_) (λt2=>?_)
  ·
   refine bH hI 1 [Uc 0 2 _] (.t 0 (.k .z)) ⟨mv,trivial⟩ (.lW .z) λa w hI=>?_
   refine aJ ?_
   refine aG ?_
   exact dB hI rfl (fK (hq:=cG (by unfold aR; rw[if_neg t1,if_pos t2])))
  ·
   refine aB ?_
   refine ah ?_
   refine bH hI 1 [Uc 0 2 _] (.t 0 (.k .z)) ⟨mv,trivial⟩ (.lW .z) λa w hI=>?_
   refine aJ ?_
   exact dB hI rfl (fK (hq:=cG (by unfold aR; rw[if_neg t1,if_neg (by rw[t2]; exact Bool.false_ne_true)])))
theorem lg (h:L.length<=1000/\(∀q,q<L.length->bG 16777216 (ae L q))/\bG 16777216 p):K2 Tryz.prog 23 (fF L) (cT p) (pB (ua L p)):=by
 intro M w0 v0 v1 hM hv0 iI
 refine TA (N:=22) Tryz.func23 rfl rfl hM hv0 iI λa hI=>?_
 refine aW hI 3 [⟨4,4,some 2,none,.ptr,4,1,false,pv _,[]⟩] [] [Uc 0 2 _,Uc 1 3 _] .z (.kk .z) ⟨rR 1 false,rR 2 true,A7 .b,trivial⟩ (.k .z) (.jI .z) λa w hI=>?_
 refine av ?_
 refine aW hI 2 [] [] [Uc 0 7 _,Uc 1 8 _] (.k .z) (.kk .z) ⟨ld,qZ om,trivial⟩ (.k .z) (.mX .z) λa w hI=>?_
 refine aD ?_
 refine pn (y0:=9) (y1:=10) (τ:=Unit) (λk t=>[Vz 4 4 4 1 false (iJ (∀q,q<k->0<=ai (ae L q) (ae L (dS L.length q)) p) iC)]) (λcd t=>[Vz 4 4 4 1 false (iJ (cd=.ret/\¬ ∀q,q<L.length->0<=ai (ae L q) (ae L (dS L.length q)) p) (pB false))]) [Uz 2 _,Uz 3 _,Uz 8 _] [2,3,4,8] () (hI.cv ⟨vC (λ_ _ _=>⟨λ_ h=>absurd h (Nat.not_lt_zero _),trivial⟩),trivial⟩ ⟨gc,gc,gc,trivial⟩) rfl (λ_ _=>by kernel_rfl) (λ_ _=>by kernel_rfl) (by kernel_rfl) (by kernel_rfl) (by kernel_rfl) (λk t w0 M1 B1 a w D l r hk hr hI=>?_) (λt w D l r hI=>?_) (λcd t w D l r hI=>?_)
 ·
  dsimp only[List.append,List.map,HAppend.hAppend,Append.append,xo]at hI
  refine aW hI 1 [] [] [Uc 0 5 _] (.k (.k .z)) (.k8 (.k .z)) ⟨mv,trivial⟩ (.k (.k .z)) (.k8 (.kk .z)) λa w hI=>?_
  refine tX hI 1 [] [] [Uc 0 6 _] (.k (.k .z)) (.k8 (.kk .z)) ⟨mv,trivial⟩ (.k (.k .z)) (.k8 (.cQ .z)) λa w hI=>?_
  refine ah ?_
  refine vY hI 1 hr (λw hI=>?_)
  dsimp only[List.set]at hI
  have hx:dS L.length k<L.length:=Nat.mod_lt _ (by omega)
  refine aD ?_
  refine BP hI [0,0,3,7,0,0,48,112,0,511,1023] [] [] [Uc 0 11 _,Uc 1 12 _,Uc 2 13 _,Uc 3 14 _,Uc 4 15 _,Uc 5 16 _,Uc 6 17 _,Uc 7 18 _,Uc 8 19 _,Uc 9 20 _,Uc 10 21 _] (.k (.k .z)) (.k8 (.cQ .z)) ⟨ld,mv,ix,ld,ld,mv,ix,ld,ld,xR jS (hφ:=⟨h.2.1 _ (by omega),h.2.1 _ hx,h.2.2⟩),bn,trivial⟩ (.k (.k .z)) (.k8 (.dg (.d8 (.dk .z)))) λa w hI=>?_
  refine iK hI (λt1=>?_) (λt1=>?_)
  ·
   refine aW hI 1 [] [] [] (.u none [(0,pv _)] (.k .z)) (.k8 (.aq .z)) ⟨kI,trivial⟩ (.s .o (.k .z)) (.k8 (.dg .z)) λa w hI=>?_
   refine aJ ?_
   refine aO ?_
   have hno:¬ ∀q,q<L.length->0<=ai (ae L q) (ae L (dS L.length q)) p:=λhall=>by
    have:=hall k hk
    omega
   exact⟨(),hI.cv ⟨vC (λ_ _ h=>⟨⟨rfl,hno⟩,h⟩),vA,trivial⟩ ⟨gc,gc,gc,gq 5,gq 6,gq 7,gq 8,trivial⟩⟩
  ·
   refine aB ?_
   refine aQ ?_
   exact⟨(),hI.cv ⟨vC (λ_ _ (h:iJ (∀q,q<k->0<=ai (ae L q) (ae L (dS L.length q)) p) iC _ _)=>⟨λq hq=>if e:q=k then by rw[e]; omega else h.1 q (by omega),trivial⟩),vA,trivial⟩ ⟨gc,gc,gc,gq 5,gq 6,gq 7,gq 8,trivial⟩⟩
 ·
  dsimp only[List.append,HAppend.hAppend,Append.append]at hI
  have hall:=fl hI 0 rfl
  refine aQ ?_
  refine ah ?_
  refine ja ?_
  refine aW hI 1 [] [] [] (.u none [(0,pv _)] (.k .z)) (.cQ .z) ⟨kI,trivial⟩ (.s .o (.k .z)) (.Iz .z) λa w hI=>?_
  refine aJ ?_
  exact qo hI 1 rfl (xj (hq:=cK (by unfold ua; rw[decide_eq_true hall])))
 ·
  dsimp only[List.append,HAppend.hAppend,Append.append]at hI
  obtain⟨rfl,hno⟩:=fl hI 0 rfl
  refine ja ?_
  refine aJ ?_
  refine aO ?_
  refine aG ?_
  exact qo hI 1 rfl (xj (hq:=λw v (h:iJ _ (pB false) w v)=>cK (by unfold ua; rw[decide_eq_false hno]) w v h.2))
theorem kZ (h:L.length<=1000/\bG 4611686018427387904 p):K2 Tryz.prog 12 (fE L d) (cT p) (fJ (pB (mV L d p)) (pI (aR L d))):=by
 intro M w0 v0 v1 hM hv0 iI
 have hp:=h.2
 unfold bG at hp
 refine xn (N:=36) Tryz.func12 rfl rfl rfl hM hv0 iI λa hI=>?_
 refine aW hI 4 [⟨2,2,some 0,none,.ptr,24,2,true,pv _,[]⟩,⟨3,3,some 1,none,.ptr,38,2,true,pv _,[]⟩] [] [Uc 2 4 _,Uc 3 5 _] .z (.kk .z) ⟨bo,bo,mv,mv,trivial⟩ (.k (.k .z)) (.jI .z) λa w hI=>?_
 refine av ?_
 refine aW hI 3 [] [] [Uc 0 7 _,Uc 1 8 _,Uc 2 6 _] (.k (.k .z)) (.kk .z) ⟨ld,qZ ct,mv,trivial⟩ (.k (.k .z)) (.dx (.k .z)) λa w hI=>?_
 refine aW hI 2 [] [] [Uc 0 9 _,Uc 1 10 _] (.k (.k .z)) (.cQ .z) ⟨mv,bn,trivial⟩ (.k (.k .z)) (.dg (.k .z)) λa w hI=>?_
 refine iK hI (λt1=>?_) (λt1=>?_)
 ·
  refine aW hI 3 [] [] [Uc 0 11 _,Uc 1 4 _,Uc 2 5 _] (.k (.k .z)) (.t 1 (.t 2 (.kk .z))) ⟨mv,mv,mv,trivial⟩ (.k (.k .z)) (.bL (.Dn .z)) λa w hI=>?_
  refine aJ ?_
  refine aG ?_
  exact kT hI rfl (fK (hq:=cK (by unfold mV; rw[decide_eq_false t1]; rfl))) fK
 ·
  have he:aR L d=0:=Decidable.not_not.1 t1
  refine aB ?_
  refine ah ?_
  refine av ?_
  refine aW hI 20 [] [⟨some 0,12,3,0,True⟩,⟨some 2,14,3,0,True⟩,⟨some 5,17,3,1,True⟩,⟨some 7,19,3,1,True⟩,⟨some 13,25,3,0,_⟩,⟨some 15,27,3,1,_⟩] [Uc 1 13 _,Uc 3 15 _,Uc 4 16 _,Uc 6 18 _,Uc 8 20 _,Uc 9 21 _,Uc 10 22 _,Uc 11 23 _,Uc 12 24 _,Uc 14 26 _,Uc 16 28 _,Uc 17 29 _,Uc 18 30 _,Uc 19 31 _] (.k (.k .z)) (.aq .z) ⟨fa,ld,fa,ld,ng,fa,ld,fa,ld,ng,W6,bn,mv,gd λh=>mE h,gd λh=>dQ h,gd λh=>mE h,gd λh=>dQ h,gd λh=>RD h,gd λh=>mA h,pk,trivial⟩ (.k (.k .z)) (.dx (.d8 (.bL (.dk .z)))) λa w hI=>?_
  refine uz hI (λt2=>?_) (λt2=>?_)
  ·
   refine aW hI 2 [] [] [Uc 0 4 _,Uc 1 5 _] (.k (.k .z)) (.t 0 (.t 1 (.k .z))) ⟨mv,mv,trivial⟩ (.k (.k .z)) (.ew (.k .z)) λa w hI=>?_
   refine aJ ?_
   refine aG ?_
   exact kT hI rfl (fK (hq:=cK (by unfold mV Bo; rw[t2,Bool.not_true,Bool.and_false,Bool.false_and]))) (fK (hq:=cG he.symm))
  ·
   refine aB ?_
   refine ah ?_
   refine aW hI 6 [] [⟨some 0,32,2,0,True⟩] [Uc 1 33 _,Uc 2 34 _,Uc 3 35 _,Uc 4 4 _,Uc 5 5 _] (.k (.k .z)) (.t 4 (.t 5 (.k .z))) ⟨fa,ld,ld,wj lg (hφ:=⟨h.1,di (aP he),D7 t2⟩),mv,mv,trivial⟩ (.d (.d .z)) (.bL (.jI .z)) λa w hI=>?_
   refine aJ ?_
   exact kT hI rfl (fK (hq:=cK (by unfold mV Bo; rw[t2,decide_eq_true he]; rfl))) (fK (hq:=cG he.symm))
end Wx
