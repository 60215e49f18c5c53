import Derived.Test.YtocboimkilkklaaGreatJRC30
namespace Wx
set_option maxRecDepth 100000
set_option maxHeartbeats 1000000
open Go Go.RowKit Go.Proofs
set_option linter.unusedVariables false
attribute [local irreducible] OpOk
abbrev Pt:=Int×Int
def gn (p:Pt):Pred:=pS [⟨false,1,pI p.1⟩,⟨false,1,pI p.2⟩]
def aF (L:List Pt) (i:Nat):Pt:=L.getD i (0,0)
abbrev lO (L:List Pt):Pred:=bR 2 true L.length λi=>gn (aF L i)
def gp (B:Int) (p:Pt):Prop :=-B<=p.1/\p.1<=B /\ -B<=p.2/\p.2<=B
def ir (a b c:Pt):Int:=(b.1-a.1)*(c.2-a.2)-(b.2-a.2)*(c.1-a.1)
def zj (n k:Nat):Nat:=(k+1)%n
theorem OU (n k:Nat):((k:Int)+1)%(n:Int)=((zj n k:Nat):Int):=by unfold zj; rw[Int.natCast_emod]; rfl
def vS (φ:Prop) (p:Pred):Pred:=λw v=>φ/\p w v
theorem pH {c:dS} {V:List Vr} {G:List bf} {a:Act} {w:World} {i s T n:Nat} {ag:Bool} {φ:Prop} {q:Pred} (hI:Inv c V [] G none_ a w) (k:Nat) (hk:V[k]?=some (Vz i s T n ag (vS φ q))):φ:=by
 obtain⟨β,h⟩:=hI
 obtain⟨g,e,h1,hb⟩:=(bW rfl).1 (h.var _ (List.mem_of_getElem? hk) rfl)
 obtain⟨cs,k1,k2,k3,k4⟩:=hb.held
 have h4:aP (own c V none_ β) (λw=>vS φ q w (aq ag cs)) w:=k4
 exact h4.out.1
theorem Cl {a b c:Pt} (h:gp 16777216 a/\gp 16777216 b/\gp 16777216 c):K3 Tryz.prog 94 (gn a) (gn b) (gn c) (pI (ir a b c)):=by
 intro M w0 v0 v1 v2 hM hv0 iK hv2
 obtain⟨⟨a1,a2,a3,a4⟩,⟨b1,b2,b3,b4⟩,c1,c2,c3,c4⟩:=h
 have m1:=IK 33554432 (p:=b.1-a.1) (q:=c.2-a.2) (by omega) (by omega) (by omega) (by omega)
 have m2:=IK 33554432 (p:=b.2-a.2) (q:=c.1-a.1) (by omega) (by omega) (by omega) (by omega)
 refine L9 (N:=30) Tryz.func94 rfl rfl rfl hM hv0 iK hv2 λa hI=>?_
 refine bZ hI 4 [⟨3,3,some 0,none,.ptr,68,2,true,pv _,[]⟩,⟨4,4,some 1,none,.ptr,68,2,true,pv _,[]⟩,⟨5,5,some 2,none,.ptr,68,2,true,pv _,[]⟩] [] [Uc 3 6 _] .z (.dF .z) ⟨bo,bo,bo,mv,trivial⟩ (.k (.k (.k .z))) (.iB .z) λa w hI=>?_
 refine bZ hI 24 [] [⟨some 0,7,4,0,True⟩,⟨some 2,9,3,0,True⟩,⟨some 5,12,5,1,True⟩,⟨some 7,14,3,1,True⟩,⟨some 11,18,4,1,True⟩,⟨some 13,20,3,1,True⟩,⟨some 16,23,5,0,True⟩,⟨some 18,25,3,0,True⟩] [Uc 1 8 _,Uc 3 10 _,Uc 4 11 _,Uc 6 13 _,Uc 8 15 _,Uc 9 16 _,Uc 10 17 _,Uc 12 19 _,Uc 14 21 _,Uc 15 22 _,Uc 17 24 _,Uc 19 26 _,Uc 20 27 _,Uc 21 28 _,Uc 22 29 _,Uc 23 6 _] (.k (.k (.k .z))) (.t 23 .z) ⟨fa,ld,fa,ld,bn,fa,ld,fa,ld,bn,bn,fa,ld,fa,ld,bn,fa,ld,fa,ld,bn,bn,bn,mv,trivial⟩ (.d (.d (.d .z))) (.d8 (.d8 (.k .z))) λa w hI=>?_
 refine aV ?_
 exact dD hI rfl mb
variable {L:List Pt}
theorem Iv (h:L.length<=1000) (u:Value):GL Tryz.prog 133 #[u] L.length (λk=>pI (k:Int)) (λk=>pI ((zj L.length k:Nat):Int)) (GX 1 false (lO L) #[u]):=by
 intro σ l M Bs J X s0 w0 hM hB hN hJ hc hr
 refine Zu (N:=19) Tryz.func133 rfl rfl hM hB hN hJ (GY hc) λa hI=>?_
 refine bZ hI 3 [] [] [Uc 0 4 _,Uc 1 5 _,Uc 2 6 _] (.k .z) (.kk .z) ⟨ld,ln,mv,trivial⟩ (.k .z) (.mP (.k .z)) λa w hI=>?_
 refine aT ?_
 refine C5 [] [Uz 0 _,Uz 1 _,Uz 5 _] (λ(i:Nat×σ)=>[jV 19 (Bs i.2) (J i.1 i.2)]) (λ(i:Nat×σ)=>[Uz 6 (pI (i.1:Int))]) (λ(i:Nat×σ)=>i.1<=L.length) (λ(i:Nat×σ)=>L.length-i.1) ((0,s0)) (Nat.zero_le _) hI ⟨vJ,trivial⟩ ⟨gi,gi,gi,gc,trivial⟩ ?_
 intro i a w hi hI
 refine bZ hI 1 [] [] [Uc 0 7 _] (.k .z) (.aA .z) ⟨bn,trivial⟩ (.k .z) (.aA (.k .z)) λa w hI=>?_
 refine aC ?_
 refine nX hI (λt1=>?_) (λt1=>?_)
 ·
  refine aM ?_
  refine af ?_
  refine aC ?_
  refine aT ?_
  refine bZ hI 2 [] [] [Uc 0 8 _,Uc 1 3 _] (.k .z) (.aA (.k .z)) ⟨mv,mv,trivial⟩ (.k .z) (.aA (.ya .z)) λa w hI=>?_
  refine JT (n0:=0) (nv:=[]) (A1:=[]) (ne:=[Uc 0 9 _,Uc 1 10 _,Uc 2 11 _,Uc 3 12 _,Uc 4 13 _,Uc 5 14 _,Uc 6 15 _]) Bs (λb s'=>if b then J (i.1+1) s' else X s') 7 hI (.k .z) (.aA (.k .z)) ⟨mv,mv,mv,bn,ld,ln,rm,trivial⟩ (.k .z) (.aA (.TE (.iB .z))) rfl rfl rfl rfl rfl (λM' w' u0 u1 k1 k2 k3 k4 k5 k6=>hr i.1 i.2 M' w' u0 u1 (by omega) k1 k2 k3 k4 k5 (k6.imp λw h=>dB (OU _ _) w u1 h)) (λb s' a w hI=>?_)
  dsimp only[List.set]at hI
  refine Ez hI (λt2=>?_) (λt2=>?_)
  ·
   obtain rfl:b=false:=by simpa using t2
   refine aV ?_
   refine bT ?_
   refine aO ?_
   refine aO ?_
   refine bT ?_
   exact Qm (n0:=0) hI rfl rfl λh1 h2 h3 h4=>⟨_,s',rfl,h1,h2,h3,.inr h4⟩
  ·
   obtain rfl:b=true:=by simpa using t2
   refine aM ?_
   refine bz ?_
   refine af ?_
   refine ve hI 2 [] [] [Uc 0 18 _,Uc 1 6 _] (.k .z) (.aA (.k (.t 1 (.dF .z)))) ⟨bn,mv,trivial⟩ (.k .z) (.yb (.jy (.ya .z))) λa w hI=>?_
   refine af ?_
   exact AE ((i.1+1,s')) (by(show i.1+1<=L.length); omega) hI ⟨vJ,trivial⟩ ⟨gc,gc,gc,gc,trivial⟩ (by(show L.length-(i.1+1)<L.length-i.1); omega)
 ·
  refine eJ ?_
  refine aL ?_
  refine aL ?_
  refine bM ?_
  exact Qo (n0:=0) hI rfl rfl λh1 h2 h3 h4=>⟨_,i.2,rfl,h1,h2,h3,.inl (by(have e:i.1=L.length:=by omega); rw[e]at h4; exact h4)⟩
theorem DW (h:L.length<=1000):K1 Tryz.prog 93 (lO L) (Ji Tryz.prog L.length (λk=>pI (k:Int)) (λk=>pI ((zj L.length k:Nat):Int)) (GX 1 false (lO L))):=by
 intro M w0 v0 hM hv0
 refine Bu (N:=4) Tryz.func93 rfl rfl rfl hM hv0 λa hI=>?_
 refine dR hI 2 [Uc 0 1 _,Uc 1 2 _] (.k .z) ⟨GR 1 false,mv,trivial⟩ (.Qd .z) λa w hI=>?_
 refine dR hI 2 [Uc 0 3 _,Uc 1 2 _] (.k (.t 1 .z)) ⟨Xe,mv,trivial⟩ (.iB .z) λa w hI=>?_
 refine aV ?_
 exact dD hI rfl (mb (hq:=Kq (λ_ _=>by kernel_rfl) λu=>Iv h u))
def KF (x:Int):Bool:=decide (x < -1048576)||decide (x>1048576)
def Ho (p:Pt):Bool:=KF p.1||KF p.2
variable {p:Pt}
theorem wK (h:Ho p=false):gp 16777216 p:=by
 unfold Ho KF at h
 simp only[Bool.or_eq_false_iff,decide_eq_false_iff_not]at h
 unfold gp
 omega
def qH (f:Nat->Bool):Nat->Int
 |0 => -1
 |n+1=>if 0<=qH f n then qH f n else if f n=true then(n:Int)else -1
theorem tV {f:Nat->Bool}:∀{n:Nat},(∀q,q<n->f q=false)->qH f n = -1
 |0,_=>rfl
 |n+1,h=>by
  show(if 0<=qH f n then qH f n else if f n=true then(n:Int)else -1) = -1
  rw[tV λq hq=>h q (by omega),if_neg (by omega),if_neg (by rw[h n (by omega)]; exact Bool.false_ne_true)]
theorem DR {f:Nat->Bool} {i:Nat} (hn:f i=true) (h:∀q,q<i->f q=false):∀{n:Nat},i<n->qH f n=(i:Int)
 |n+1,hi=>by
  show(if 0<=qH f n then qH f n else if f n=true then(n:Int)else -1)=_
  by_cases e:i=n
  ·subst e
   rw[tV h,if_neg (by omega),if_pos hn]
  ·rw[DR hn h (show i<n by omega),if_pos (by omega)]
theorem tW {f:Nat->Bool}:∀{n:Nat},¬0<=qH f n->∀q,q<n->f q=false
 |n+1,h,q,hq=>by
  have h1:¬0<=(if 0<=qH f n then qH f n else if f n=true then(n:Int)else -1):=h
  by_cases h2:0<=qH f n
  ·rw[if_pos h2]at h1; exact absurd h2 h1
  ·rw[if_neg h2]at h1
   by_cases h3:f n=true
   ·rw[if_pos h3]at h1; omega
   ·by_cases e:q=n
    ·rw[e]; simpa using h3
    ·exact tW h2 q (by omega)
abbrev tE (L:List Pt) (k:Nat):Prop:=∀i,i<L.length->i≠k->i≠zj L.length k->0<ir (aF L k) (aF L (zj L.length k)) (aF L i)
def Hl (L:List Pt):Int:=qH (λi=>Ho (aF L i)) L.length
def AD (L:List Pt):Bool:=decide ((L.length:Int)<3)||decide ((L.length:Int)>10)
def kO (L:List Pt):Int:=if AD L then 4 else if Hl L>=0 then 1 else if ∀k,k<L.length->tE L k then 0 else 7
theorem Iy {x:Int} (_:True):K1 Tryz.prog 130 (pI x) (pB (KF x)):=by
 intro M w0 v0 hM hv0
 refine Bu (N:=9) Tryz.func130 rfl rfl rfl hM hv0 λa hI=>?_
 refine dR hI 1 [Uc 0 2 _] (.k .z) ⟨mv,trivial⟩ (.kk .z) λa w hI=>?_
 refine dR hI 7 [Uc 0 3 _,Uc 1 4 _,Uc 2 5 _,Uc 3 6 _,Uc 4 7 _,Uc 5 8 _,Uc 6 2 _] (.k (.t 6 .z)) ⟨mv,bn,mv,gd λh=>yn h,gd λh=>Ad h,pk,mv,trivial⟩ (.d8 (.k .z)) λa w hI=>?_
 refine aV ?_
 exact dD hI rfl mb
theorem Le (_:True):K2 Tryz.prog 132 (gn p) (dU 1 false (bY (.func (.func 130) #[] #[]))) (pB (Ho p)):=by
 intro M w0 v0 v1 hM hv0 iK
 refine ze (N:=14) Tryz.func132 rfl rfl rfl hM hv0 iK λa hI=>?_
 refine bZ hI 2 [⟨2,2,some 0,none,.ptr,68,2,true,pv _,[]⟩] [] [Uc 1 3 _] .z (.kk .z) ⟨bo,mv,trivial⟩ (.k .z) (.Qd .z) λa w hI=>?_
 refine bZ hI 11 [] [⟨some 1,5,2,0,True⟩,⟨some 6,10,2,1,_⟩] [Uc 0 4 _,Uc 2 6 _,Uc 3 7 _,Uc 4 8 _,Uc 5 9 _,Uc 7 11 _,Uc 8 12 _,Uc 9 13 _,Uc 10 3 _] (.k .z) (.k (.t 10 .z)) ⟨Zm,fa,ld,Wl Iy,mv,gd λh=>TN h,gd λh=>KI h,gd λh=>rj h,gd λh=>TL h Iy,pk,mv,trivial⟩ (.d .z) (.d8 (.ya .z)) λa w hI=>?_
 refine aV ?_
 exact dD hI rfl mb
theorem Iz (h:L.length<=1000):K2 Tryz.prog 150 (lO L) (FY 132 1 false (bY (.func (.func 130) #[] #[]))) (pI (Hl L)):=by
 intro M w0 v0 v1 hM hv0 iK
 refine ze (N:=19) Tryz.func150 rfl rfl rfl hM hv0 iK λa hI=>?_
 refine dR hI 1 [Uc 0 4 _] (.kk .z) ⟨mv,trivial⟩ (.dF .z) λa w hI=>?_
 refine aC ?_
 refine dR hI 3 [Uc 0 6 _,Uc 1 7 _,Uc 2 8 _] (.dF .z) ⟨mv,ln,mv,trivial⟩ (.iE (.kk .z)) λa w hI=>?_
 refine aT ?_
 refine C5 [] [Uz 0 _,Uz 1 _,Uz 7 _] (λ(i:Nat)=>[]) (λ(i:Nat)=>[Uz 8 (pI (i:Int))]) (λ(i:Nat)=>i<=L.length/\∀q,q<i->Ho (aF L q)=false) (λ(i:Nat)=>L.length-i) (0) ⟨Nat.zero_le _,λ_ h=>absurd h (Nat.not_lt_zero _)⟩ hI trivial ⟨gi,gi,gi,gc,trivial⟩ ?_
 intro i a w hi hI
 refine dR hI 1 [Uc 0 9 _] (.aA .z) ⟨bn,trivial⟩ (.aA (.k .z)) λa w hI=>?_
 refine aC ?_
 refine nX hI (λt1=>?_) (λt1=>?_)
 ·
  refine aM ?_
  refine af ?_
  refine aC ?_
  refine aT ?_
  refine dR hI 2 [Uc 0 10 _,Uc 1 5 _] (.aA (.k .z)) ⟨mv,mv,trivial⟩ (.aA (.ya .z)) λa w hI=>?_
  refine dR hI 6 [Uc 0 11 _,Uc 1 12 _,Uc 2 13 _,Uc 3 14 _,Uc 4 15 _,Uc 5 16 _] (.aA (.k .z)) ⟨mv,mv,mv,ix,ld,XV (λ_ _=>by kernel_rfl) (Le trivial),trivial⟩ (.aA (.jy (.ya .z))) λa w hI=>?_
  refine Ez hI (λt2=>?_) (λt2=>?_)
  ·
   refine dR hI 2 [Uc 0 17 _,Uc 1 4 _] (.aA (.kk .z)) ⟨mv,mv,trivial⟩ (.aA (.iB .z)) λa w hI=>?_
   refine aV ?_
   refine bT ?_
   refine aO ?_
   refine aO ?_
   refine bT ?_
   refine aO ?_
   exact dD hI rfl (mb (hq:=dB (DR t2 hi.2 (by omega)).symm))
  ·
   refine aM ?_
   refine bz ?_
   refine af ?_
   refine JQ hI 2 [Uc 0 18 _,Uc 1 8 _] (.dF (.t 1 (.kk .z))) ⟨bn,mv,trivial⟩ (.iE (.iB .z)) λa w hI=>?_
   refine af ?_
   exact AE (i+1) ⟨by omega,λq hq=>if e:q=i then by rw[e]; exact t2 else hi.2 q (by omega)⟩ hI trivial ⟨gc,gc,gc,gc,trivial⟩ (by omega)
 ·
  refine eJ ?_
  refine aL ?_
  refine aL ?_
  refine bM ?_
  refine af ?_
  refine dR hI 1 [Uc 0 4 _] (.aA (.k .z)) ⟨mv,trivial⟩ (.dO (.dk .z)) λa w hI=>?_
  refine aV ?_
  exact dD hI rfl (mb (hq:=dB (tV λq hq=>hi.2 q (by omega)).symm))
theorem Az (h:L.length<=1000):K2 Tryz.prog 131 (lO L) (FY 132 1 false (bY (.func (.func 130) #[] #[]))) (pB (decide (Hl L>=0))):=by
 intro M w0 v0 v1 hM hv0 iK
 refine ze (N:=9) Tryz.func131 rfl rfl rfl hM hv0 iK λa hI=>?_
 refine dR hI 1 [Uc 0 4 _] (.kk .z) ⟨mv,trivial⟩ (.dF .z) λa w hI=>?_
 refine dR hI 5 [Uc 0 5 _,Uc 1 6 _,Uc 2 7 _,Uc 3 8 _,Uc 4 4 _] (.kk (.t 4 .z)) ⟨mv,mv,zg Iz,bn,mv,trivial⟩ (.dO (.iB .z)) λa w hI=>?_
 refine aV ?_
 exact dD hI rfl mb
theorem Ay (h:L.length<=1000):K1 Tryz.prog 92 (lO L) (pI (kO L)):=by
 intro M w0 v0 hM hv0
 refine VT (N:=52) Tryz.func92 rfl rfl hM hv0 λa hI=>?_
 refine bZ hI 2 [⟨2,2,some 1,none,.ptr,44,1,false,pv _,[]⟩] [] [Uc 0 1 _] .z (.k .z) ⟨GR 1 false,OP .i,trivial⟩ (.k .z) (.dk .z) λa w hI=>?_
 refine aC ?_
 refine bZ hI 8 [] [] [Uc 0 8 _,Uc 1 9 _,Uc 2 10 _,Uc 3 11 _,Uc 4 12 _,Uc 5 13 _,Uc 6 14 _,Uc 7 15 _] (.k .z) (.k .z) ⟨ld,ln,bn,mv,gd λh=>rj h,gd λh=>Ss h,gd λh=>Ad h,pk,trivial⟩ (.k .z) (.jy (.dO (.k .z))) λa w hI=>?_
 refine Ez hI (λt1=>?_) (λt1=>?_)
 ·
  refine bZ hI 1 [] [] [] (.u none [(0,pv _)] .z) (.kk .z) ⟨gD,trivial⟩ (.s .o .z) (.kd .z) λa w hI=>?_
  refine aV ?_
  refine aO ?_
  exact Mr hI rfl (rK (hq:=dB (by unfold kO AD; rw[if_pos t1])))
 ·
  refine aM ?_
  refine af ?_
  refine bZ hI 2 [⟨3,3,some 0,none,.ptr,176,1,false,pv _,[(1,pv _)]⟩] [] [] (.k .z) (.kk .z) ⟨XL,pW rfl rfl hs rfl rfl (cV (by kernel_rfl)) (ym _) (by kernel_rfl),trivial⟩ (.k (.s .o .z)) (.kd .z) λa w hI=>?_
  have hI:=JL hI 1 rfl (by kernel_rfl)
  dsimp only[List.eraseIdx]at hI
  refine aC ?_
  refine bZ hI 3 [] [] [Uc 0 16 _,Uc 1 17 _,Uc 2 18 _] (.k .z) (.kk .z) ⟨ld,Xe,zg Az,trivial⟩ (.k .z) (.KA (.k .z)) λa w hI=>?_
  refine nX hI (λt2=>?_) (λt2=>?_)
  ·
   refine bZ hI 1 [] [] [] (.u none [(0,pv _)] .z) (.kk .z) ⟨gD,trivial⟩ (.s .o .z) (.kd .z) λa w hI=>?_
   refine aV ?_
   refine aO ?_
   exact Mr hI rfl (rK (hq:=dB (by unfold kO AD; rw[if_neg (by rw[t1]; exact Bool.false_ne_true),if_pos t2])))
  ·
   have UA:¬0<=Hl L:=t2
   have hn:∀q,q<L.length->gp 16777216 (aF L q):=λq hq=>wK (tW UA q hq)
   refine aM ?_
   refine af ?_
   refine aC ?_
   refine bZ hI 2 [] [] [Uc 0 19 _,Uc 1 20 _] (.k .z) (.kk .z) ⟨ld,Dq DW,trivial⟩ (.k .z) (.Cj .z) λa w hI=>?_
   refine aT ?_
   refine Bv (y0:=21) (y1:=22) (τ:=Unit) (λk t=>[Vz 2 2 44 1 false (vS (∀q,q<k->tE L q) dG)]) (λcd t=>[Vz 2 2 44 1 false (vS (cd=.ret/\¬ ∀q,q<L.length->tE L q) (pI 7))]) [Uz 1 _,Uz 20 _] [1,2,20] () (hI.cv ⟨vC (λ_ _ _=>⟨λ_ h=>absurd h (Nat.not_lt_zero _),trivial⟩),trivial⟩ ⟨gc,gc,trivial⟩) rfl (λ_ _=>by kernel_rfl) (λ_ _=>by kernel_rfl) (by kernel_rfl) (by kernel_rfl) (by kernel_rfl) (λk t w0 M1 B1 a w D l r hk hr hI=>?_) (λt w D l r hI=>?_) (λcd t w D l r hI=>?_)
   ·
    dsimp only[List.append,List.map,HAppend.hAppend,Append.append,KB]at hI
    refine bZ hI 1 [] [] [Uc 0 4 _] (.k (.k .z)) (.aA (.dF .z)) ⟨mv,trivial⟩ (.k (.k .z)) (.k8 .z) λa w hI=>?_
    refine ve hI 1 [] [] [Uc 0 5 _] (.k (.k .z)) (.k8 .z) ⟨mv,trivial⟩ (.k (.k .z)) (.k8 (.k .z)) λa w hI=>?_
    refine af ?_
    refine GO hI 1 hr (λw hI=>?_)
    dsimp only[List.set]at hI
    have hx:zj L.length k<L.length:=Nat.mod_lt _ (by omega)
    refine aT ?_
    refine bZ hI 3 [] [] [Uc 0 23 _,Uc 1 24 _,Uc 2 25 _] (.k (.k .z)) (.k8 (.k .z)) ⟨ld,ln,mv,trivial⟩ (.k (.k .z)) (.k8 (.aA .z)) λa w hI=>?_
    refine aT ?_
    refine C5 [Vz 2 2 44 1 false _,fc 52 52 _] [Uz 22 _,Uz 21 _,Uz 1 _,Uz 20 _,Uz 1 _,Uz 2 _,Uz 20 _,Uz 4 _,Uz 5 _,Uz 23 _,Uz 24 _] (λ(i:Nat)=>[]) (λ(i:Nat)=>[Uz 25 (pI (i:Int))]) (λ(i:Nat)=>i<=L.length/\∀q,q<i->q≠k->q≠zj L.length k->0<ir (aF L k) (aF L (zj L.length k)) (aF L q)) (λ(i:Nat)=>L.length-i) (0) ⟨Nat.zero_le _,λ_ h=>absurd h (Nat.not_lt_zero _)⟩ hI ⟨vi,vA,trivial⟩ ⟨gi,gi,gi,gi,gq 4,gq 5,gq 6,gi,gi,gi,gi,gc,trivial⟩ ?_
    intro i a w hi hI
    have hx:zj L.length k<L.length:=Nat.mod_lt _ (by omega)
    refine bZ hI 1 [] [] [Uc 0 26 _] (.k (.k .z)) (.k8 (.aA .z)) ⟨bn,trivial⟩ (.k (.k .z)) (.k8 (.aA (.k .z))) λa w hI=>?_
    refine aC ?_
    refine nX hI (λt3=>?_) (λt3=>?_)
    ·
     refine aM ?_
     refine af ?_
     refine aC ?_
     refine aT ?_
     refine bZ hI 6 [⟨7,7,some 3,none,.ptr,68,2,true,pv _,[(5,pv _)]⟩] [] [Uc 0 27 _,Uc 1 28 _,Uc 2 29 _,Uc 4 6 _] (.k (.k .z)) (.k8 (.aA (.k .z))) ⟨mv,ix,ld,me [.i,.i],mv,gD,trivial⟩ (.k (.k (.s .o .z))) (.k8 (.aA (.dO (.k .z)))) λa w hI=>?_
     refine EB hI [0,0,3,7,15,15,63,127,255,511,511,2047,4095,511,511,25087,57855,511,262143,524287,1048575] [] [] [Uc 0 30 _,Uc 1 31 _,Uc 2 32 _,Uc 3 33 _,Uc 4 34 _,Uc 5 35 _,Uc 6 36 _,Uc 7 37 _,Uc 8 38 _,Uc 9 39 _,Uc 10 40 _,Uc 11 41 _,Uc 12 42 _,Uc 13 43 _,Uc 14 44 _,Uc 15 45 _,Uc 16 46 _,Uc 17 47 _,Uc 18 48 _,Uc 19 49 _,Uc 20 50 _] (.k (.k (.k .z))) (.k8 (.aA (.k .z))) ⟨mv,mv,bn,mv,gd λh=>yn h,gd λh=>yn h,gd λh=>Ad h,pk,mv,gd λh=>rj h,gd λh=>yn h,gd λh=>Sr h,gd λh=>rj h,gd λh=>rj h,gd λh=>yn h,gd λh=>Sr h,gd λh=>rj h,gd λh=>rj h,gd λh=>Qr h Cl (hφ:=⟨hn _ (by omega),hn _ hx,hn _ (by omega)⟩),gd λh=>Ad h,pk,trivial⟩ (.k (.k (.d .z))) (.k8 (.aA (.d8 (.d8 (.dO (.dk .z)))))) λa w hI=>?_
     refine Ez hI (λt4=>?_) (λt4=>?_)
     ·
      refine bZ hI 1 [] [] [] (.u none [(0,pv _)] (.k .z)) (.k8 (.aA (.k .z))) ⟨gD,trivial⟩ (.s .o (.k .z)) (.k8 (.aA (.d .z))) λa w hI=>?_
      refine aV ?_
      refine bT ?_
      refine aO ?_
      refine aO ?_
      refine bT ?_
      refine bT ?_
      have hno:¬ ∀q,q<L.length->tE L q:=λhall=>by
       have:=hall k hk i (by omega)
       simp only[Bool.and_eq_true,decide_eq_true_eq]at t4
       have h2:=this (by omega) (by omega)
       omega
      exact⟨(),hI.cv ⟨vC (λ_ _ h=>⟨⟨rfl,hno⟩,h⟩),vA,trivial⟩ ⟨gc,gc,gq 4,gq 5,gq 6,trivial⟩⟩
     ·
      refine aM ?_
      refine bz ?_
      refine af ?_
      refine ve hI 2 [] [] [Uc 0 51 _,Uc 1 25 _] (.k (.k .z)) (.k8 (.dF (.t 1 (.k .z)))) ⟨bn,mv,trivial⟩ (.k (.k .z)) (.k8 (.iE (.ya .z))) λa w hI=>?_
      refine af ?_
      have hst:i≠k->i≠zj L.length k->0<ir (aF L k) (aF L (zj L.length k)) (aF L i):=λh1 h2=>by
       simp only[Bool.and_eq_false_iff,decide_eq_false_iff_not]at t4
       omega
      exact AE (i+1) ⟨by omega,λq hq h1 h2=>if e:q=i then by rw[e]at h1 h2 ⊢; exact hst h1 h2 else hi.2 q (by omega) h1 h2⟩ hI ⟨vc,vA,trivial⟩ ⟨gc,gc,gc,gc,gq 4,gq 5,gq 6,gc,gc,gc,gc,gc,trivial⟩ (by omega)
    ·
     refine eJ ?_
     refine aL ?_
     refine aL ?_
     refine bM ?_
     refine bz ?_
     exact⟨(),hI.cv ⟨vC (λ_ _ (h:vS (∀q,q<k->tE L q) dG _ _)=>⟨λq hq=>if e:q=k then by rw[e]; exactλj hj=>hi.2 j (by omega)else h.1 q (by omega),trivial⟩),vA,trivial⟩ ⟨gc,gc,gq 4,gq 5,gq 6,trivial⟩⟩
   ·
    dsimp only[List.append,HAppend.hAppend,Append.append]at hI
    have hall:=pH hI 0 rfl
    refine bz ?_
    refine af ?_
    refine sR ?_
    refine bZ hI 1 [] [] [] (.u none [(0,pv _)] (.k .z)) (.kk .z) ⟨gD,trivial⟩ (.s .o (.k .z)) (.dd .z) λa w hI=>?_
    refine aV ?_
    exact DD hI 1 rfl (rK (hq:=dB (by unfold kO AD; rw[if_neg (by rw[t1]; exact Bool.false_ne_true),if_neg t2,if_pos hall])))
   ·
    dsimp only[List.append,HAppend.hAppend,Append.append]at hI
    obtain⟨rfl,hno⟩:=pH hI 0 rfl
    refine sR ?_
    refine aV ?_
    refine bT ?_
    refine aO ?_
    exact DD hI 1 rfl (rK (hq:=λw v (h:vS _ (pI 7) w v)=>dB (by unfold kO AD; rw[if_neg (by rw[t1]; exact Bool.false_ne_true),if_neg t2,if_neg hno]) w v h.2))
def qM (L:List Pt) (d:Int):Pred:=pS [⟨false,1,lO L⟩,⟨false,1,pI d⟩]
def mG (L:List Pt) (d:Int):Int:=if kO L≠0 then kO L else if decide (d<1)||decide (d>64)then 1 else 0
theorem oL (h:kO L=0):∀q,q<L.length->gp 16777216 (aF L q):=by
 unfold kO at h
 by_cases h1:AD L=true
 ·rw[if_pos h1]at h; exact absurd h (by decide)
 ·rw[if_neg h1]at h
  by_cases h2:Hl L>=0
  ·rw[if_pos h2]at h; exact absurd h (by decide)
  ·exactλq hq=>wK (tW h2 q hq)
theorem nO (h:kO L=0):3<=L.length/\L.length<=10:=by
 unfold kO at h
 by_cases h1:AD L=true
 ·rw[if_pos h1]at h; exact absurd h (by decide)
 ·unfold AD at h1
  simp only[Bool.or_eq_true,decide_eq_true_eq,not_or]at h1
  omega
variable {d:Int}
theorem gG (h:mG L d=0):kO L=0:=by
 unfold mG at h
 by_cases h1:kO L≠0
 ·rw[if_pos h1]at h; exact h
 ·exact Decidable.not_not.1 h1
def MT (L:List Pt) (p:Pt):Bool:=decide (∀k,k<L.length->0<=ir (aF L k) (aF L (zj L.length k)) p)
def Jc (p:Pt):Bool:=decide (mR (mR (mR p.1 (-p.1)) p.2) (-p.2)>1048576)||decide (II p.1 p.2 < -1048576)
theorem FX (h:Jc p=false):gp 16777216 p:=by
 unfold Jc mR II at h
 simp only[Bool.or_eq_false_iff,decide_eq_false_iff_not]at h
 unfold gp
 split at h<;>split at h<;>split at h<;>split at h<;>omega
def KZ (L:List Pt) (d:Int) (p:Pt):Bool:=(decide (mG L d=0)&&!Jc p)&&MT L p
theorem ko (h:L.length<=1000):K1 Tryz.prog 60 (qM L d) (pI (mG L d)):=by
 intro M w0 v0 hM hv0
 refine Bu (N:=18) Tryz.func60 rfl rfl rfl hM hv0 λa hI=>?_
 refine bZ hI 2 [⟨1,1,some 0,none,.ptr,71,2,true,pv _,[]⟩] [] [Uc 1 2 _] .z (.k .z) ⟨bo,mv,trivial⟩ (.k .z) (.dk .z) λa w hI=>?_
 refine aC ?_
 refine bZ hI 4 [] [⟨some 0,4,1,0,True⟩] [Uc 1 5 _,Uc 2 6 _,Uc 3 3 _] (.k .z) (.k .z) ⟨fa,ld,Dq Ay,mv,trivial⟩ (.k .z) (.Cj .z) λa w hI=>?_
 refine bZ hI 2 [] [] [Uc 0 7 _,Uc 1 8 _] (.k .z) (.kk .z) ⟨mv,bn,trivial⟩ (.k .z) (.mP .z) λa w hI=>?_
 refine nX hI (λt1=>?_) (λt1=>?_)
 ·
  refine bZ hI 2 [] [] [Uc 0 9 _,Uc 1 2 _] (.k .z) (.t 1 (.kk .z)) ⟨mv,mv,trivial⟩ (.k .z) (.dO (.k .z)) λa w hI=>?_
  refine aV ?_
  refine aO ?_
  exact dD hI rfl (mb (hq:=dB (by unfold mG; rw[if_pos t1])))
 ·
  refine aM ?_
  refine af ?_
  refine aC ?_
  refine bZ hI 8 [] [⟨some 0,10,1,1,True⟩,⟨some 4,14,1,1,_⟩] [Uc 1 11 _,Uc 2 12 _,Uc 3 13 _,Uc 5 15 _,Uc 6 16 _,Uc 7 17 _] (.k .z) (.dF .z) ⟨fa,ld,bn,mv,gd λh=>KI h,gd λh=>rj h,gd λh=>Ad h,pk,trivial⟩ (.d .z) (.jy (.dO (.k .z))) λa w hI=>?_
  refine Ez hI (λt2=>?_) (λt2=>?_)
  ·
   refine dR hI 1 [Uc 0 2 _] (.t 0 (.k .z)) ⟨mv,trivial⟩ (.ya .z) λa w hI=>?_
   refine aV ?_
   refine aO ?_
   exact dD hI rfl (mb (hq:=dB (by unfold mG; rw[if_neg t1,if_pos t2])))
  ·
   refine aM ?_
   refine af ?_
   refine dR hI 1 [Uc 0 2 _] (.t 0 (.k .z)) ⟨mv,trivial⟩ (.ya .z) λa w hI=>?_
   refine aV ?_
   exact dD hI rfl (mb (hq:=dB (by unfold mG; rw[if_neg t1,if_neg (by rw[t2]; exact Bool.false_ne_true)])))
theorem ua (h:L.length<=1000/\(∀q,q<L.length->gp 16777216 (aF L q))/\gp 16777216 p):K2 Tryz.prog 61 (lO L) (gn p) (pB (MT L p)):=by
 intro M w0 v0 v1 hM hv0 iK
 refine VU (N:=22) Tryz.func61 rfl rfl hM hv0 iK λa hI=>?_
 refine bZ hI 3 [⟨4,4,some 2,none,.ptr,4,1,false,pv _,[]⟩] [] [Uc 0 2 _,Uc 1 3 _] .z (.kk .z) ⟨GR 1 false,GR 2 true,OP .b,trivial⟩ (.k .z) (.yb .z) λa w hI=>?_
 refine aC ?_
 refine bZ hI 2 [] [] [Uc 0 7 _,Uc 1 8 _] (.k .z) (.kk .z) ⟨ld,Dq DW,trivial⟩ (.k .z) (.mP .z) λa w hI=>?_
 refine aT ?_
 refine Bv (y0:=9) (y1:=10) (τ:=Unit) (λk t=>[Vz 4 4 4 1 false (vS (∀q,q<k->0<=ir (aF L q) (aF L (zj L.length q)) p) dG)]) (λcd t=>[Vz 4 4 4 1 false (vS (cd=.ret/\¬ ∀q,q<L.length->0<=ir (aF L q) (aF L (zj L.length q)) p) (pB false))]) [Uz 2 _,Uz 3 _,Uz 8 _] [2,3,4,8] () (hI.cv ⟨vC (λ_ _ _=>⟨λ_ h=>absurd h (Nat.not_lt_zero _),trivial⟩),trivial⟩ ⟨gc,gc,gc,trivial⟩) rfl (λ_ _=>by kernel_rfl) (λ_ _=>by kernel_rfl) (by kernel_rfl) (by kernel_rfl) (by kernel_rfl) (λk t w0 M1 B1 a w D l r hk hr hI=>?_) (λt w D l r hI=>?_) (λcd t w D l r hI=>?_)
 ·
  dsimp only[List.append,List.map,HAppend.hAppend,Append.append,KB]at hI
  refine bZ hI 1 [] [] [Uc 0 5 _] (.k (.k .z)) (.k8 (.k .z)) ⟨mv,trivial⟩ (.k (.k .z)) (.k8 (.kk .z)) λa w hI=>?_
  refine ve hI 1 [] [] [Uc 0 6 _] (.k (.k .z)) (.k8 (.kk .z)) ⟨mv,trivial⟩ (.k (.k .z)) (.k8 (.dF .z)) λa w hI=>?_
  refine af ?_
  refine GO hI 1 hr (λw hI=>?_)
  dsimp only[List.set]at hI
  have hx:zj L.length k<L.length:=Nat.mod_lt _ (by omega)
  refine aT ?_
  refine EB hI [0,0,3,7,0,0,48,112,0,511,1023] [] [] [Uc 0 11 _,Uc 1 12 _,Uc 2 13 _,Uc 3 14 _,Uc 4 15 _,Uc 5 16 _,Uc 6 17 _,Uc 7 18 _,Uc 8 19 _,Uc 9 20 _,Uc 10 21 _] (.k (.k .z)) (.k8 (.dF .z)) ⟨ld,mv,ix,ld,ld,mv,ix,ld,ld,Sj Cl (hφ:=⟨h.2.1 _ (by omega),h.2.1 _ hx,h.2.2⟩),bn,trivial⟩ (.k (.k .z)) (.k8 (.iE (.d8 (.dk .z)))) λa w hI=>?_
  refine nX hI (λt1=>?_) (λt1=>?_)
  ·
   refine bZ hI 1 [] [] [] (.u none [(0,pv _)] (.k .z)) (.k8 (.aA .z)) ⟨gD,trivial⟩ (.s .o (.k .z)) (.k8 (.iE .z)) λa w hI=>?_
   refine aV ?_
   refine bT ?_
   have hno:¬ ∀q,q<L.length->0<=ir (aF L q) (aF L (zj L.length q)) p:=λhall=>by
    have:=hall k hk
    omega
   exact⟨(),hI.cv ⟨vC (λ_ _ h=>⟨⟨rfl,hno⟩,h⟩),vA,trivial⟩ ⟨gc,gc,gc,gq 5,gq 6,gq 7,gq 8,trivial⟩⟩
  ·
   refine aM ?_
   refine bz ?_
   exact⟨(),hI.cv ⟨vC (λ_ _ (h:vS (∀q,q<k->0<=ir (aF L q) (aF L (zj L.length q)) p) dG _ _)=>⟨λq hq=>if e:q=k then by rw[e]; omega else h.1 q (by omega),trivial⟩),vA,trivial⟩ ⟨gc,gc,gc,gq 5,gq 6,gq 7,gq 8,trivial⟩⟩
 ·
  dsimp only[List.append,HAppend.hAppend,Append.append]at hI
  have hall:=pH hI 0 rfl
  refine bz ?_
  refine af ?_
  refine sR ?_
  refine bZ hI 1 [] [] [] (.u none [(0,pv _)] (.k .z)) (.dF .z) ⟨gD,trivial⟩ (.s .o (.k .z)) (.Kz .z) λa w hI=>?_
  refine aV ?_
  exact DD hI 1 rfl (rK (hq:=jK (by unfold MT; rw[decide_eq_true hall])))
 ·
  dsimp only[List.append,HAppend.hAppend,Append.append]at hI
  obtain⟨rfl,hno⟩:=pH hI 0 rfl
  refine sR ?_
  refine aV ?_
  refine bT ?_
  refine aO ?_
  exact DD hI 1 rfl (rK (hq:=λw v (h:vS _ (pB false) w v)=>jK (by unfold MT; rw[decide_eq_false hno]) w v h.2))
theorem Ir (h:L.length<=1000/\gp 4611686018427387904 p):K2 Tryz.prog 21 (qM L d) (gn p) (gh (pB (KZ L d p)) (pI (mG L d))):=by
 intro M w0 v0 v1 hM hv0 iK
 have hp:=h.2
 unfold gp at hp
 refine ze (N:=36) Tryz.func21 rfl rfl rfl hM hv0 iK λa hI=>?_
 refine bZ hI 4 [⟨2,2,some 0,none,.ptr,71,2,true,pv _,[]⟩,⟨3,3,some 1,none,.ptr,68,2,true,pv _,[]⟩] [] [Uc 2 4 _,Uc 3 5 _] .z (.kk .z) ⟨bo,bo,mv,mv,trivial⟩ (.k (.k .z)) (.yb .z) λa w hI=>?_
 refine aC ?_
 refine bZ hI 3 [] [] [Uc 0 7 _,Uc 1 8 _,Uc 2 6 _] (.k (.k .z)) (.kk .z) ⟨ld,Dq ko,mv,trivial⟩ (.k (.k .z)) (.eT (.k .z)) λa w hI=>?_
 refine bZ hI 2 [] [] [Uc 0 9 _,Uc 1 10 _] (.k (.k .z)) (.dF .z) ⟨mv,bn,trivial⟩ (.k (.k .z)) (.iE (.k .z)) λa w hI=>?_
 refine nX hI (λt1=>?_) (λt1=>?_)
 ·
  refine bZ hI 3 [] [] [Uc 0 11 _,Uc 1 4 _,Uc 2 5 _] (.k (.k .z)) (.t 1 (.t 2 (.kk .z))) ⟨mv,mv,mv,trivial⟩ (.k (.k .z)) (.dO (.Qd .z)) λa w hI=>?_
  refine aV ?_
  refine aO ?_
  exact yl hI rfl (mb (hq:=jK (by unfold KZ; rw[decide_eq_false t1]; rfl))) mb
 ·
  have he:mG L d=0:=Decidable.not_not.1 t1
  refine aM ?_
  refine af ?_
  refine aC ?_
  refine bZ hI 20 [] [⟨some 0,12,3,0,True⟩,⟨some 2,14,3,0,True⟩,⟨some 5,17,3,1,True⟩,⟨some 7,19,3,1,True⟩,⟨some 13,25,3,0,_⟩,⟨some 15,27,3,1,_⟩] [Uc 1 13 _,Uc 3 15 _,Uc 4 16 _,Uc 6 18 _,Uc 8 20 _,Uc 9 21 _,Uc 10 22 _,Uc 11 23 _,Uc 12 24 _,Uc 14 26 _,Uc 16 28 _,Uc 17 29 _,Uc 18 30 _,Uc 19 31 _] (.k (.k .z)) (.aA .z) ⟨fa,ld,fa,ld,ng,fa,ld,fa,ld,ng,Zo,bn,mv,gd λh=>KI h,gd λh=>rj h,gd λh=>KI h,gd λh=>rj h,gd λh=>TQ h,gd λh=>Ad h,pk,trivial⟩ (.k (.k .z)) (.eT (.d8 (.dO (.dk .z)))) λa w hI=>?_
  refine Ez hI (λt2=>?_) (λt2=>?_)
  ·
   refine bZ hI 2 [] [] [Uc 0 4 _,Uc 1 5 _] (.k (.k .z)) (.t 0 (.t 1 (.k .z))) ⟨mv,mv,trivial⟩ (.k (.k .z)) (.iB (.k .z)) λa w hI=>?_
   refine aV ?_
   refine aO ?_
   exact yl hI rfl (mb (hq:=jK (by unfold KZ Jc; rw[t2,Bool.not_true,Bool.and_false,Bool.false_and]))) (mb (hq:=dB he.symm))
  ·
   refine aM ?_
   refine af ?_
   refine bZ hI 6 [] [⟨some 0,32,2,0,True⟩] [Uc 1 33 _,Uc 2 34 _,Uc 3 35 _,Uc 4 4 _,Uc 5 5 _] (.k (.k .z)) (.t 4 (.t 5 (.k .z))) ⟨fa,ld,ld,zg ua (hφ:=⟨h.1,oL (gG he),FX t2⟩),mv,mv,trivial⟩ (.d (.d .z)) (.dO (.yb .z)) λa w hI=>?_
   refine aV ?_
   exact yl hI rfl (mb (hq:=jK (by unfold KZ Jc; rw[t2,decide_eq_true he]; rfl))) (mb (hq:=dB he.symm))
end Wx
