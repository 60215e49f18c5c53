import Derived.Test.YtadigiledciihaaGreatJRD34
namespace Wx
set_option maxRecDepth 100000
set_option maxHeartbeats 1000000
open Go Go.RowKit Go.Proofs
set_option linter.unusedVariables false
attribute [local irreducible] OpOk
abbrev Pt:=Int×Int
def dS (p:Pt):Pred:=pS [⟨false,1,pI p.1⟩,⟨false,1,pI p.2⟩]
def aq (L:List Pt) (i:Nat):Pt:=L.getD i (0,0)
abbrev gB (L:List Pt):Pred:=ck 2 true L.length λi=>dS (aq L i)
def cU (B:Int) (p:Pt):Prop :=-B<=p.1/\p.1<=B /\ -B<=p.2/\p.2<=B
def bP (a b c:Pt):Int:=(b.1-a.1)*(c.2-a.2)-(b.2-a.2)*(c.1-a.1)
def eB (n k:Nat):Nat:=(k+1)%n
theorem EK (n k:Nat):((k:Int)+1)%(n:Int)=((eB n k:Nat):Int):=by unfold eB; rw[Int.natCast_emod]; rfl
variable {c:cT} {V:List Vr} {G:List aS} {i n:Nat}
theorem Se {P:Program} {ops:Array Oper} {ms:List Nat} {A:List Al} {d k:Nat} {x y:Operand} {ty t s:TypeId} {pos:String} {aJ:Array Edge} (h1:Has ms G i x (pI ((k:Int)+1)):=by exact hs) (h2:Has ms G i y (pI (n:Int)):=by exact hs) (hp:Post G i (pI ((eB n k:Nat):Int)):=by exact pt rfl) (hr:0<n/\n<=1000000/\k<=1000000:=by omega):OpOk P ops ms c V A G i ⟨some d,.binOp .rem t x y s,ty,pos,aJ,none⟩:=Jf h1 h2 (by rw[EK]; exact hp) (by omega)
def sJ (φ:Prop) (p:Pred):Pred:=λw v=>φ/\p w v
theorem mW {a:Act} {w:World} {s T:Nat} {ag:Bool} {φ:Prop} {q:Pred} (hI:Inv c V [] G none_ a w) (k:Nat) (hk:V[k]?=some (Vz i s T n ag (sJ φ q))):φ:=by
 obtain⟨β,h⟩:=hI
 obtain⟨g,e,h1,hb⟩:=(bC rfl).1 (h.var _ (List.mem_of_getElem? hk) rfl)
 obtain⟨cs,k1,k2,k3,k4⟩:=hb.held
 have h4:aN (own c V none_ β) (λw=>sJ φ q w (ak ag cs)) w:=k4
 exact h4.out.1
theorem zm {a b c:Pt} (h:cU 16777216 a/\cU 16777216 b/\cU 16777216 c):K3 Tryz.prog 62 (dS a) (dS b) (dS c) (pI (bP a b c)):=by
 intro M w0 v0 v1 v2 hM hv0 jP hv2
 obtain⟨⟨a1,a2,a3,a4⟩,⟨b1,b2,b3,b4⟩,c1,c2,c3,c4⟩:=h
 have m1:=uP 33554432 (p:=b.1-a.1) (q:=c.2-a.2) (by omega) (by omega) (by omega) (by omega)
 have m2:=uP 33554432 (p:=b.2-a.2) (q:=c.1-a.1) (by omega) (by omega) (by omega) (by omega)
 refine FO (N:=30) Tryz.func62 rfl rfl rfl hM hv0 jP hv2 λa hI=>?_
 refine bZ hI 4 [⟨3,3,some 0,none,.ptr,26,2,true,pv _,[]⟩,⟨4,4,some 1,none,.ptr,26,2,true,pv _,[]⟩,⟨5,5,some 2,none,.ptr,26,2,true,pv _,[]⟩] [] [Uc 3 6 _] .z (.dQ .z) ⟨bo,bo,bo,mv,trivial⟩ (.k (.k (.k .z))) (.ig .z) λa w hI=>?_
 refine bZ hI 24 [] [⟨some 0,7,4,0,True⟩,⟨some 2,9,3,0,True⟩,⟨some 5,12,5,1,True⟩,⟨some 7,14,3,1,True⟩,⟨some 11,18,4,1,True⟩,⟨some 13,20,3,1,True⟩,⟨some 16,23,5,0,True⟩,⟨some 18,25,3,0,True⟩] [Uc 1 8 _,Uc 3 10 _,Uc 4 11 _,Uc 6 13 _,Uc 8 15 _,Uc 9 16 _,Uc 10 17 _,Uc 12 19 _,Uc 14 21 _,Uc 15 22 _,Uc 17 24 _,Uc 19 26 _,Uc 20 27 _,Uc 21 28 _,Uc 22 29 _,Uc 23 6 _] (.k (.k (.k .z))) (.t 23 .z) ⟨fa,ld,fa,ld,bn,fa,ld,fa,ld,bn,bn,fa,ld,fa,ld,bn,fa,ld,fa,ld,bn,bn,bn,mv,trivial⟩ (.d (.d (.d .z))) (.d8 (.d8 (.k .z))) λa w hI=>?_
 refine aM ?_
 exact cN hI rfl iE
variable {L:List Pt}
theorem Es (h:L.length<=1000) (u:Value):Dy Tryz.prog 101 #[u] L.length (λk=>pI (k:Int)) (λk=>pI ((eB L.length k:Nat):Int)) (DG 1 false (gB L) #[u]):=by
 intro σ l M Bs J X s0 w0 hM hB hN hJ hc hr
 refine UA (N:=19) Tryz.func101 rfl rfl hM hB hN hJ (DI hc) λa hI=>?_
 refine bZ hI 3 [] [] [Uc 0 4 _,Uc 1 5 _,Uc 2 6 _] (.k .z) (.kk .z) ⟨ld,ln,mv,trivial⟩ (.k .z) (.mY (.k .z)) λa w hI=>?_
 refine aI ?_
 refine yz [] [Uz 0 _,Uz 1 _,Uz 5 _] (λ(i:Nat×σ)=>[jV 19 (Bs i.2) (J i.1 i.2)]) (λ(i:Nat×σ)=>[Uz 6 (pI (i.1:Int))]) (λ(i:Nat×σ)=>i.1<=L.length) (λ(i:Nat×σ)=>L.length-i.1) ((0,s0)) (Nat.zero_le _) hI ⟨vJ,trivial⟩ ⟨gi,gi,gi,gc,trivial⟩ ?_
 intro i a w hi hI
 refine bZ hI 1 [] [] [Uc 0 7 _] (.k .z) (.aB .z) ⟨bn,trivial⟩ (.k .z) (.aB (.k .z)) λa w hI=>?_
 refine ay ?_
 refine lN hI (λt1=>?_) (λt1=>?_)
 ·
  refine aD ?_
  refine ah ?_
  refine ay ?_
  refine aI ?_
  refine bZ hI 2 [] [] [Uc 0 8 _,Uc 1 3 _] (.k .z) (.aB (.k .z)) ⟨mv,mv,trivial⟩ (.k .z) (.aB (.uu .z)) λa w hI=>?_
  refine FQ (n0:=0) (nv:=[]) (A1:=[]) (ne:=[Uc 0 9 _,Uc 1 10 _,Uc 2 11 _,Uc 3 12 _,Uc 4 13 _,Uc 5 14 _,Uc 6 15 _]) Bs (λb s'=>if b then J (i.1+1) s' else X s') 7 hI (.k .z) (.aB (.k .z)) ⟨mv,mv,mv,bn,ld,ln,rm,trivial⟩ (.k .z) (.aB (.OT (.ig .z))) rfl rfl rfl rfl rfl (λM' w' u0 u1 k1 k2 k3 k4 k5 k6=>hr i.1 i.2 M' w' u0 u1 (by omega) k1 k2 k3 k4 k5 (k6.imp λw h=>dy (EK _ _) w u1 h)) (λb s' a w hI=>?_)
  dsimp only[List.set]at hI
  refine Ab hI (λt2=>?_) (λt2=>?_)
  ·
   obtain rfl:b=false:=by simpa using t2
   refine aM ?_
   refine aW ?_
   refine aC ?_
   refine aC ?_
   refine aW ?_
   exact L9 (n0:=0) hI rfl rfl λh1 h2 h3 h4=>⟨_,s',rfl,h1,h2,h3,.inr h4⟩
  ·
   obtain rfl:b=true:=by simpa using t2
   refine aD ?_
   refine bw ?_
   refine ah ?_
   refine Dg hI 2 [] [] [Uc 0 18 _,Uc 1 6 _] (.k .z) (.aB (.k (.t 1 (.dQ .z)))) ⟨bn,mv,trivial⟩ (.k .z) (.sD (.iv (.uu .z))) λa w hI=>?_
   refine ah ?_
   exact yy ((i.1+1,s')) (by(show i.1+1<=L.length); omega) hI ⟨vJ,trivial⟩ ⟨gc,gc,gc,gc,trivial⟩ (by(show L.length-(i.1+1)<L.length-i.1); omega)
 ·
  refine cL ?_
  refine aG ?_
  refine aG ?_
  refine bq ?_
  exact Ma (n0:=0) hI rfl rfl λh1 h2 h3 h4=>⟨_,i.2,rfl,h1,h2,h3,.inl (by(have e:i.1=L.length:=by omega); rw[e]at h4; exact h4)⟩
theorem A7 (h:L.length<=1000):K1 Tryz.prog 61 (gB L) (E7 Tryz.prog L.length (λk=>pI (k:Int)) (λk=>pI ((eB L.length k:Nat):Int)) (DG 1 false (gB L))):=by
 intro M w0 v0 hM hv0
 refine vK (N:=4) Tryz.func61 rfl rfl rfl hM hv0 λa hI=>?_
 refine bu hI 2 [Uc 0 1 _,Uc 1 2 _] (.k .z) ⟨Dj 1 false,mv,trivial⟩ (.Lk .z) λa w hI=>?_
 refine bu hI 2 [Uc 0 3 _,Uc 1 2 _] (.k (.t 1 .z)) ⟨Sb,mv,trivial⟩ (.ig .z) λa w hI=>?_
 refine aM ?_
 exact cN hI rfl (iE (hq:=Gh (λ_ _=>by kernel_rfl) λu=>Es h u))
def B6 (x:Int):Bool:=decide (x < -1048576)||decide (x>1048576)
def ux (p:Pt):Bool:=B6 p.1||B6 p.2
variable {p:Pt}
theorem lu (h:ux p=false):cU 16777216 p:=by
 unfold ux B6 at h
 simp only[Bool.or_eq_false_iff,decide_eq_false_iff_not]at h
 unfold cU
 omega
def nZ (f:Nat->Bool):Nat->Int
 |0 => -1
 |n+1=>if 0<=nZ f n then nZ f n else if f n=true then(n:Int)else -1
theorem kH {f:Nat->Bool}:∀{n:Nat},(∀q,q<n->f q=false)->nZ f n = -1
 |0,_=>rfl
 |n+1,h=>by
  show(if 0<=nZ f n then nZ f n else if f n=true then(n:Int)else -1) = -1
  rw[kH λq hq=>h q (by omega),if_neg (by omega),if_neg (by rw[h n (by omega)]; exact Bool.false_ne_true)]
theorem uM {f:Nat->Bool} {i:Nat} (hn:f i=true) (h:∀q,q<i->f q=false):∀{n:Nat},i<n->nZ f n=(i:Int)
 |n+1,hi=>by
  show(if 0<=nZ f n then nZ f n else if f n=true then(n:Int)else -1)=_
  by_cases e:i=n
  ·subst e
   rw[kH h,if_neg (by omega),if_pos hn]
  ·rw[uM hn h (show i<n by omega),if_pos (by omega)]
theorem iM {f:Nat->Bool}:∀{n:Nat},¬0<=nZ f n->∀q,q<n->f q=false
 |n+1,h,q,hq=>by
  have h1:¬0<=(if 0<=nZ f n then nZ f n else if f n=true then(n:Int)else -1):=h
  by_cases h2:0<=nZ f n
  ·rw[if_pos h2]at h1; exact absurd h2 h1
  ·rw[if_neg h2]at h1
   by_cases h3:f n=true
   ·rw[if_pos h3]at h1; omega
   ·by_cases e:q=n
    ·rw[e]; simpa using h3
    ·exact iM h2 q (by omega)
abbrev gg (L:List Pt) (k:Nat):Prop:=∀i,i<L.length->i≠k->i≠eB L.length k->0<bP (aq L k) (aq L (eB L.length k)) (aq L i)
def qG (L:List Pt):Int:=nZ (λi=>ux (aq L i)) L.length
def nh (L:List Pt):Bool:=decide ((L.length:Int)<3)||decide ((L.length:Int)>10)
def ew (L:List Pt):Int:=if nh L then 4 else if qG L>=0 then 1 else if ∀k,k<L.length->gg L k then 0 else 7
theorem Eu {x:Int} (_:True):K1 Tryz.prog 63 (pI x) (pB (B6 x)):=by
 intro M w0 v0 hM hv0
 refine vK (N:=9) Tryz.func63 rfl rfl rfl hM hv0 λa hI=>?_
 refine bu hI 1 [Uc 0 2 _] (.k .z) ⟨mv,trivial⟩ (.kk .z) λa w hI=>?_
 refine bu hI 7 [Uc 0 3 _,Uc 1 4 _,Uc 2 5 _,Uc 3 6 _,Uc 4 7 _,Uc 5 8 _,Uc 6 2 _] (.k (.t 6 .z)) ⟨mv,bn,mv,gd λh=>mG h,gd λh=>su h,pk,mv,trivial⟩ (.d8 (.k .z)) λa w hI=>?_
 refine aM ?_
 exact cN hI rfl iE
theorem GQ (_:True):K2 Tryz.prog 65 (dS p) (dK 1 false (bK (.func (.func 63) #[] #[]))) (pB (ux p)):=by
 intro M w0 v0 v1 hM hv0 jP
 refine vL (N:=14) Tryz.func65 rfl rfl rfl hM hv0 jP λa hI=>?_
 refine bZ hI 2 [⟨2,2,some 0,none,.ptr,26,2,true,pv _,[]⟩] [] [Uc 1 3 _] .z (.kk .z) ⟨bo,mv,trivial⟩ (.k .z) (.Lk .z) λa w hI=>?_
 refine bZ hI 11 [] [⟨some 1,5,2,0,True⟩,⟨some 6,10,2,1,_⟩] [Uc 0 4 _,Uc 2 6 _,Uc 3 7 _,Uc 4 8 _,Uc 5 9 _,Uc 7 11 _,Uc 8 12 _,Uc 9 13 _,Uc 10 3 _] (.k .z) (.k (.t 10 .z)) ⟨Uq,fa,ld,Rs Eu,mv,gd λh=>O3 h,gd λh=>B9 h,gd λh=>mR h,gd λh=>O1 h Eu,pk,mv,trivial⟩ (.d .z) (.d8 (.uu .z)) λa w hI=>?_
 refine aM ?_
 exact cN hI rfl iE
theorem Ev (h:L.length<=1000):K2 Tryz.prog 102 (gB L) (CP 65 1 false (bK (.func (.func 63) #[] #[]))) (pI (qG L)):=by
 intro M w0 v0 v1 hM hv0 jP
 refine vL (N:=19) Tryz.func102 rfl rfl rfl hM hv0 jP λa hI=>?_
 refine bu hI 1 [Uc 0 4 _] (.kk .z) ⟨mv,trivial⟩ (.dQ .z) λa w hI=>?_
 refine ay ?_
 refine bu hI 3 [Uc 0 6 _,Uc 1 7 _,Uc 2 8 _] (.dQ .z) ⟨mv,ln,mv,trivial⟩ (.iw (.kk .z)) λa w hI=>?_
 refine aI ?_
 refine yz [] [Uz 0 _,Uz 1 _,Uz 7 _] (λ(i:Nat)=>[]) (λ(i:Nat)=>[Uz 8 (pI (i:Int))]) (λ(i:Nat)=>i<=L.length/\∀q,q<i->ux (aq L q)=false) (λ(i:Nat)=>L.length-i) (0) ⟨Nat.zero_le _,λ_ h=>absurd h (Nat.not_lt_zero _)⟩ hI trivial ⟨gi,gi,gi,gc,trivial⟩ ?_
 intro i a w hi hI
 refine bu hI 1 [Uc 0 9 _] (.aB .z) ⟨bn,trivial⟩ (.aB (.k .z)) λa w hI=>?_
 refine ay ?_
 refine lN hI (λt1=>?_) (λt1=>?_)
 ·
  refine aD ?_
  refine ah ?_
  refine ay ?_
  refine aI ?_
  refine bu hI 2 [Uc 0 10 _,Uc 1 5 _] (.aB (.k .z)) ⟨mv,mv,trivial⟩ (.aB (.uu .z)) λa w hI=>?_
  refine bu hI 6 [Uc 0 11 _,Uc 1 12 _,Uc 2 13 _,Uc 3 14 _,Uc 4 15 _,Uc 5 16 _] (.aB (.k .z)) ⟨mv,mv,mv,ix,ld,S3 (λ_ _=>by kernel_rfl) (GQ trivial),trivial⟩ (.aB (.iv (.uu .z))) λa w hI=>?_
  refine Ab hI (λt2=>?_) (λt2=>?_)
  ·
   refine bu hI 2 [Uc 0 17 _,Uc 1 4 _] (.aB (.kk .z)) ⟨mv,mv,trivial⟩ (.aB (.ig .z)) λa w hI=>?_
   refine aM ?_
   refine aW ?_
   refine aC ?_
   refine aC ?_
   refine aW ?_
   refine aC ?_
   exact cN hI rfl (iE (hq:=dy (uM t2 hi.2 (by omega)).symm))
  ·
   refine aD ?_
   refine bw ?_
   refine ah ?_
   refine ym hI 2 [Uc 0 18 _,Uc 1 8 _] (.dQ (.t 1 (.kk .z))) ⟨bn,mv,trivial⟩ (.iw (.ig .z)) λa w hI=>?_
   refine ah ?_
   exact yy (i+1) ⟨by omega,λq hq=>if e:q=i then by rw[e]; exact t2 else hi.2 q (by omega)⟩ hI trivial ⟨gc,gc,gc,gc,trivial⟩ (by omega)
 ·
  refine cL ?_
  refine aG ?_
  refine aG ?_
  refine bq ?_
  refine ah ?_
  refine bu hI 1 [Uc 0 4 _] (.aB (.k .z)) ⟨mv,trivial⟩ (.dH (.dk .z)) λa w hI=>?_
  refine aM ?_
  exact cN hI rfl (iE (hq:=dy (kH λq hq=>hi.2 q (by omega)).symm))
theorem xm (h:L.length<=1000):K2 Tryz.prog 64 (gB L) (CP 65 1 false (bK (.func (.func 63) #[] #[]))) (pB (decide (qG L>=0))):=by
 intro M w0 v0 v1 hM hv0 jP
 refine vL (N:=9) Tryz.func64 rfl rfl rfl hM hv0 jP λa hI=>?_
 refine bu hI 1 [Uc 0 4 _] (.kk .z) ⟨mv,trivial⟩ (.dQ .z) λa w hI=>?_
 refine bu hI 5 [Uc 0 5 _,Uc 1 6 _,Uc 2 7 _,Uc 3 8 _,Uc 4 4 _] (.kk (.t 4 .z)) ⟨mv,mv,Gg Ev,bn,mv,trivial⟩ (.dH (.ig .z)) λa w hI=>?_
 refine aM ?_
 exact cN hI rfl iE
theorem xk (h:L.length<=1000):K1 Tryz.prog 32 (gB L) (pI (ew L)):=by
 intro M w0 v0 hM hv0
 refine Q6 (N:=52) Tryz.func32 rfl rfl hM hv0 λa hI=>?_
 refine bZ hI 2 [⟨2,2,some 1,none,.ptr,29,1,false,pv _,[]⟩] [] [Uc 0 1 _] .z (.k .z) ⟨Dj 1 false,KG .i,trivial⟩ (.k .z) (.dk .z) λa w hI=>?_
 refine ay ?_
 refine bZ hI 8 [] [] [Uc 0 8 _,Uc 1 9 _,Uc 2 10 _,Uc 3 11 _,Uc 4 12 _,Uc 5 13 _,Uc 6 14 _,Uc 7 15 _] (.k .z) (.k .z) ⟨ld,ln,bn,mv,gd λh=>mR h,gd λh=>O4 h,gd λh=>su h,pk,trivial⟩ (.k .z) (.iv (.dH (.k .z))) λa w hI=>?_
 refine Ab hI (λt1=>?_) (λt1=>?_)
 ·
  refine bZ hI 1 [] [] [] (.u none [(0,pv _)] .z) (.kk .z) ⟨pz,trivial⟩ (.s .o .z) (.kd .z) λa w hI=>?_
  refine aM ?_
  refine aC ?_
  exact IB hI rfl (F8 (hq:=dy (by unfold ew nh; rw[if_pos t1])))
 ·
  refine aD ?_
  refine ah ?_
  refine bZ hI 2 [⟨3,3,some 0,none,.ptr,102,1,false,pv _,[(1,pv _)]⟩] [] [] (.k .z) (.kk .z) ⟨SQ,Bf rfl rfl hs rfl rfl (cA (by kernel_rfl)) (uy _) (by kernel_rfl),trivial⟩ (.k (.s .o .z)) (.kd .z) λa w hI=>?_
  have hI:=Le hI 1 rfl (by kernel_rfl)
  dsimp only[List.eraseIdx]at hI
  refine ay ?_
  refine bZ hI 3 [] [] [Uc 0 16 _,Uc 1 17 _,Uc 2 18 _] (.k .z) (.kk .z) ⟨ld,Sb,Gg xm,trivial⟩ (.k .z) (.LU (.k .z)) λa w hI=>?_
  refine lN hI (λt2=>?_) (λt2=>?_)
  ·
   refine bZ hI 1 [] [] [] (.u none [(0,pv _)] .z) (.kk .z) ⟨pz,trivial⟩ (.s .o .z) (.kd .z) λa w hI=>?_
   refine aM ?_
   refine aC ?_
   exact IB hI rfl (F8 (hq:=dy (by unfold ew nh; rw[if_neg (by rw[t1]; exact Bool.false_ne_true),if_pos t2])))
  ·
   have zb:¬0<=qG L:=t2
   have hn:∀q,q<L.length->cU 16777216 (aq L q):=λq hq=>lu (iM zb q hq)
   refine aD ?_
   refine ah ?_
   refine ay ?_
   refine bZ hI 2 [] [] [Uc 0 19 _,Uc 1 20 _] (.k .z) (.kk .z) ⟨ld,BU A7,trivial⟩ (.k .z) (.uN .z) λa w hI=>?_
   refine aI ?_
   refine yu (y0:=21) (y1:=22) (τ:=Unit) (λk t=>[Vz 2 2 29 1 false (sJ (∀q,q<k->gg L q) fk)]) (λcd t=>[Vz 2 2 29 1 false (sJ (cd=.ret/\¬ ∀q,q<L.length->gg L q) (pI 7))]) [Uz 1 _,Uz 20 _] [1,2,20] () (hI.cv ⟨vC (λ_ _ _=>⟨λ_ h=>absurd h (Nat.not_lt_zero _),trivial⟩),trivial⟩ ⟨gc,gc,trivial⟩) rfl (λ_ _=>by kernel_rfl) (λ_ _=>by kernel_rfl) (by kernel_rfl) (by kernel_rfl) (by kernel_rfl) (λk t w0 M1 B1 a w D l r hk hr hI=>?_) (λt w D l r hI=>?_) (λcd t w D l r hI=>?_)
   ·
    dsimp only[List.append,List.map,HAppend.hAppend,Append.append,Gj]at hI
    refine bZ hI 1 [] [] [Uc 0 4 _] (.k (.k .z)) (.aB (.dQ .z)) ⟨mv,trivial⟩ (.k (.k .z)) (.k8 .z) λa w hI=>?_
    refine Dg hI 1 [] [] [Uc 0 5 _] (.k (.k .z)) (.k8 .z) ⟨mv,trivial⟩ (.k (.k .z)) (.k8 (.k .z)) λa w hI=>?_
    refine ah ?_
    refine DB hI 1 hr (λw hI=>?_)
    dsimp only[List.set]at hI
    have hx:eB L.length k<L.length:=Nat.mod_lt _ (by omega)
    refine aI ?_
    refine bZ hI 3 [] [] [Uc 0 23 _,Uc 1 24 _,Uc 2 25 _] (.k (.k .z)) (.k8 (.k .z)) ⟨ld,ln,mv,trivial⟩ (.k (.k .z)) (.k8 (.aB .z)) λa w hI=>?_
    refine aI ?_
    refine yz [Vz 2 2 29 1 false _,dM 52 52 _] [Uz 22 _,Uz 21 _,Uz 1 _,Uz 20 _,Uz 1 _,Uz 2 _,Uz 20 _,Uz 4 _,Uz 5 _,Uz 23 _,Uz 24 _] (λ(i:Nat)=>[]) (λ(i:Nat)=>[Uz 25 (pI (i:Int))]) (λ(i:Nat)=>i<=L.length/\∀q,q<i->q≠k->q≠eB L.length k->0<bP (aq L k) (aq L (eB L.length k)) (aq L q)) (λ(i:Nat)=>L.length-i) (0) ⟨Nat.zero_le _,λ_ h=>absurd h (Nat.not_lt_zero _)⟩ hI ⟨vi,vA,trivial⟩ ⟨gi,gi,gi,gi,gq 4,gq 5,gq 6,gi,gi,gi,gi,gc,trivial⟩ ?_
    intro i a w hi hI
    have hx:eB L.length k<L.length:=Nat.mod_lt _ (by omega)
    refine bZ hI 1 [] [] [Uc 0 26 _] (.k (.k .z)) (.k8 (.aB .z)) ⟨bn,trivial⟩ (.k (.k .z)) (.k8 (.aB (.k .z))) λa w hI=>?_
    refine ay ?_
    refine lN hI (λt3=>?_) (λt3=>?_)
    ·
     refine aD ?_
     refine ah ?_
     refine ay ?_
     refine aI ?_
     refine bZ hI 6 [⟨7,7,some 3,none,.ptr,26,2,true,pv _,[(5,pv _)]⟩] [] [Uc 0 27 _,Uc 1 28 _,Uc 2 29 _,Uc 4 6 _] (.k (.k .z)) (.k8 (.aB (.k .z))) ⟨mv,ix,ld,xy [.i,.i],mv,pz,trivial⟩ (.k (.k (.s .o .z))) (.k8 (.aB (.dH (.k .z)))) λa w hI=>?_
     refine F9 hI [0,0,3,7,15,15,63,127,255,511,511,2047,4095,511,511,25087,57855,511,262143,524287,1048575] [] [] [Uc 0 30 _,Uc 1 31 _,Uc 2 32 _,Uc 3 33 _,Uc 4 34 _,Uc 5 35 _,Uc 6 36 _,Uc 7 37 _,Uc 8 38 _,Uc 9 39 _,Uc 10 40 _,Uc 11 41 _,Uc 12 42 _,Uc 13 43 _,Uc 14 44 _,Uc 15 45 _,Uc 16 46 _,Uc 17 47 _,Uc 18 48 _,Uc 19 49 _,Uc 20 50 _] (.k (.k (.k .z))) (.k8 (.aB (.k .z))) ⟨mv,mv,bn,mv,gd λh=>mG h,gd λh=>mG h,gd λh=>su h,pk,mv,gd λh=>mR h,gd λh=>mG h,gd λh=>Gq h,gd λh=>mR h,gd λh=>mR h,gd λh=>mG h,gd λh=>Gq h,gd λh=>mR h,gd λh=>mR h,gd λh=>J4 h zm (hφ:=⟨hn _ (by omega),hn _ hx,hn _ (by omega)⟩),gd λh=>su h,pk,trivial⟩ (.k (.k (.d .z))) (.k8 (.aB (.d8 (.d8 (.dH (.dk .z)))))) λa w hI=>?_
     refine Ab hI (λt4=>?_) (λt4=>?_)
     ·
      refine bZ hI 1 [] [] [] (.u none [(0,pv _)] (.k .z)) (.k8 (.aB (.k .z))) ⟨pz,trivial⟩ (.s .o (.k .z)) (.k8 (.aB (.d .z))) λa w hI=>?_
      refine aM ?_
      refine aW ?_
      refine aC ?_
      refine aC ?_
      refine aW ?_
      refine aW ?_
      have hno:¬ ∀q,q<L.length->gg L q:=λhall=>by
       have:=hall k hk i (by omega)
       simp only[Bool.and_eq_true,decide_eq_true_eq]at t4
       have h2:=this (by omega) (by omega)
       omega
      exact⟨(),hI.cv ⟨vC (λ_ _ h=>⟨⟨rfl,hno⟩,h⟩),vA,trivial⟩ ⟨gc,gc,gq 4,gq 5,gq 6,trivial⟩⟩
     ·
      refine aD ?_
      refine bw ?_
      refine ah ?_
      refine Dg hI 2 [] [] [Uc 0 51 _,Uc 1 25 _] (.k (.k .z)) (.k8 (.dQ (.t 1 (.k .z)))) ⟨bn,mv,trivial⟩ (.k (.k .z)) (.k8 (.iw (.uu .z))) λa w hI=>?_
      refine ah ?_
      have hst:i≠k->i≠eB L.length k->0<bP (aq L k) (aq L (eB L.length k)) (aq L i):=λh1 h2=>by
       simp only[Bool.and_eq_false_iff,decide_eq_false_iff_not]at t4
       omega
      exact yy (i+1) ⟨by omega,λq hq h1 h2=>if e:q=i then by rw[e]at h1 h2 ⊢; exact hst h1 h2 else hi.2 q (by omega) h1 h2⟩ hI ⟨vc,vA,trivial⟩ ⟨gc,gc,gc,gc,gq 4,gq 5,gq 6,gc,gc,gc,gc,gc,trivial⟩ (by omega)
    ·
     refine cL ?_
     refine aG ?_
     refine aG ?_
     refine bq ?_
     refine bw ?_
     exact⟨(),hI.cv ⟨vC (λ_ _ (h:sJ (∀q,q<k->gg L q) fk _ _)=>⟨λq hq=>if e:q=k then by rw[e]; exactλj hj=>hi.2 j (by omega)else h.1 q (by omega),trivial⟩),vA,trivial⟩ ⟨gc,gc,gq 4,gq 5,gq 6,trivial⟩⟩
   ·
    dsimp only[List.append,HAppend.hAppend,Append.append]at hI
    have hall:=mW hI 0 rfl
    refine bw ?_
    refine ah ?_
    refine qa ?_
    refine bZ hI 1 [] [] [] (.u none [(0,pv _)] (.k .z)) (.kk .z) ⟨pz,trivial⟩ (.s .o (.k .z)) (.dd .z) λa w hI=>?_
    refine aM ?_
    exact AQ hI 1 rfl (F8 (hq:=dy (by unfold ew nh; rw[if_neg (by rw[t1]; exact Bool.false_ne_true),if_neg t2,if_pos hall])))
   ·
    dsimp only[List.append,HAppend.hAppend,Append.append]at hI
    obtain⟨rfl,hno⟩:=mW hI 0 rfl
    refine qa ?_
    refine aM ?_
    refine aW ?_
    refine aC ?_
    exact AQ hI 1 rfl (F8 (hq:=λw v (h:sJ _ (pI 7) w v)=>dy (by unfold ew nh; rw[if_neg (by rw[t1]; exact Bool.false_ne_true),if_neg t2,if_neg hno]) w v h.2))
def lM (L:List Pt) (d:Int):Pred:=pS [⟨false,1,gB L⟩,⟨false,1,pI d⟩]
def fE (L:List Pt) (d:Int):Int:=if ew L≠0 then ew L else if decide (d<1)||decide (d>64)then 1 else 0
theorem jx (h:ew L=0):∀q,q<L.length->cU 16777216 (aq L q):=by
 unfold ew at h
 by_cases h1:nh L=true
 ·rw[if_pos h1]at h; exact absurd h (by decide)
 ·rw[if_neg h1]at h
  by_cases h2:qG L>=0
  ·rw[if_pos h2]at h; exact absurd h (by decide)
  ·exactλq hq=>lu (iM h2 q hq)
theorem lE (h:ew L=0):3<=L.length/\L.length<=10:=by
 unfold ew at h
 by_cases h1:nh L=true
 ·rw[if_pos h1]at h; exact absurd h (by decide)
 ·unfold nh at h1
  simp only[Bool.or_eq_true,decide_eq_true_eq,not_or]at h1
  omega
variable {d:Int}
theorem dO (h:fE L d=0):ew L=0:=by
 unfold fE at h
 by_cases h1:ew L≠0
 ·rw[if_pos h1]at h; exact h
 ·exact Decidable.not_not.1 h1
def Ds (L:List Pt) (p:Pt):Bool:=decide (∀k,k<L.length->0<=bP (aq L k) (aq L (eB L.length k)) p)
def xK (p:Pt):Bool:=decide (iy (iy (iy p.1 (-p.1)) p.2) (-p.2)>1048576)||decide (xw p.1 p.2 < -1048576)
theorem CO (h:xK p=false):cU 16777216 p:=by
 unfold xK iy xw at h
 simp only[Bool.or_eq_false_iff,decide_eq_false_iff_not]at h
 unfold cU
 split at h<;>split at h<;>split at h<;>split at h<;>omega
def zk (L:List Pt) (d:Int) (p:Pt):Bool:=(decide (fE L d=0)&&!xK p)&&Ds L p
theorem eW (h:L.length<=1000):K1 Tryz.prog 13 (lM L d) (pI (fE L d)):=by
 intro M w0 v0 hM hv0
 refine vK (N:=18) Tryz.func13 rfl rfl rfl hM hv0 λa hI=>?_
 refine bZ hI 2 [⟨1,1,some 0,none,.ptr,24,2,true,pv _,[]⟩] [] [Uc 1 2 _] .z (.k .z) ⟨bo,mv,trivial⟩ (.k .z) (.dk .z) λa w hI=>?_
 refine ay ?_
 refine bZ hI 4 [] [⟨some 0,4,1,0,True⟩] [Uc 1 5 _,Uc 2 6 _,Uc 3 3 _] (.k .z) (.k .z) ⟨fa,ld,BU xk,mv,trivial⟩ (.k .z) (.uN .z) λa w hI=>?_
 refine bZ hI 2 [] [] [Uc 0 7 _,Uc 1 8 _] (.k .z) (.kk .z) ⟨mv,bn,trivial⟩ (.k .z) (.mY .z) λa w hI=>?_
 refine lN hI (λt1=>?_) (λt1=>?_)
 ·
  refine bZ hI 2 [] [] [Uc 0 9 _,Uc 1 2 _] (.k .z) (.t 1 (.kk .z)) ⟨mv,mv,trivial⟩ (.k .z) (.dH (.k .z)) λa w hI=>?_
  refine aM ?_
  refine aC ?_
  exact cN hI rfl (iE (hq:=dy (by unfold fE; rw[if_pos t1])))
 ·
  refine aD ?_
  refine ah ?_
  refine ay ?_
  refine bZ hI 8 [] [⟨some 0,10,1,1,True⟩,⟨some 4,14,1,1,_⟩] [Uc 1 11 _,Uc 2 12 _,Uc 3 13 _,Uc 5 15 _,Uc 6 16 _,Uc 7 17 _] (.k .z) (.dQ .z) ⟨fa,ld,bn,mv,gd λh=>B9 h,gd λh=>mR h,gd λh=>su h,pk,trivial⟩ (.d .z) (.iv (.dH (.k .z))) λa w hI=>?_
  refine Ab hI (λt2=>?_) (λt2=>?_)
  ·
   refine bu hI 1 [Uc 0 2 _] (.t 0 (.k .z)) ⟨mv,trivial⟩ (.uu .z) λa w hI=>?_
   refine aM ?_
   refine aC ?_
   exact cN hI rfl (iE (hq:=dy (by unfold fE; rw[if_neg t1,if_pos t2])))
  ·
   refine aD ?_
   refine ah ?_
   refine bu hI 1 [Uc 0 2 _] (.t 0 (.k .z)) ⟨mv,trivial⟩ (.uu .z) λa w hI=>?_
   refine aM ?_
   exact cN hI rfl (iE (hq:=dy (by unfold fE; rw[if_neg t1,if_neg (by rw[t2]; exact Bool.false_ne_true)])))
theorem qW (h:L.length<=1000/\(∀q,q<L.length->cU 16777216 (aq L q))/\cU 16777216 p):K2 Tryz.prog 31 (gB L) (dS p) (pB (Ds L p)):=by
 intro M w0 v0 v1 hM hv0 jP
 refine Q7 (N:=22) Tryz.func31 rfl rfl hM hv0 jP λa hI=>?_
 refine bZ hI 3 [⟨4,4,some 2,none,.ptr,4,1,false,pv _,[]⟩] [] [Uc 0 2 _,Uc 1 3 _] .z (.kk .z) ⟨Dj 1 false,Dj 2 true,KG .b,trivial⟩ (.k .z) (.sD .z) λa w hI=>?_
 refine ay ?_
 refine bZ hI 2 [] [] [Uc 0 7 _,Uc 1 8 _] (.k .z) (.kk .z) ⟨ld,BU A7,trivial⟩ (.k .z) (.mY .z) λa w hI=>?_
 refine aI ?_
 refine yu (y0:=9) (y1:=10) (τ:=Unit) (λk t=>[Vz 4 4 4 1 false (sJ (∀q,q<k->0<=bP (aq L q) (aq L (eB L.length q)) p) fk)]) (λcd t=>[Vz 4 4 4 1 false (sJ (cd=.ret/\¬ ∀q,q<L.length->0<=bP (aq L q) (aq L (eB L.length q)) p) (pB false))]) [Uz 2 _,Uz 3 _,Uz 8 _] [2,3,4,8] () (hI.cv ⟨vC (λ_ _ _=>⟨λ_ h=>absurd h (Nat.not_lt_zero _),trivial⟩),trivial⟩ ⟨gc,gc,gc,trivial⟩) rfl (λ_ _=>by kernel_rfl) (λ_ _=>by kernel_rfl) (by kernel_rfl) (by kernel_rfl) (by kernel_rfl) (λk t w0 M1 B1 a w D l r hk hr hI=>?_) (λt w D l r hI=>?_) (λcd t w D l r hI=>?_)
 ·
  dsimp only[List.append,List.map,HAppend.hAppend,Append.append,Gj]at hI
  refine bZ hI 1 [] [] [Uc 0 5 _] (.k (.k .z)) (.k8 (.k .z)) ⟨mv,trivial⟩ (.k (.k .z)) (.k8 (.kk .z)) λa w hI=>?_
  refine Dg hI 1 [] [] [Uc 0 6 _] (.k (.k .z)) (.k8 (.kk .z)) ⟨mv,trivial⟩ (.k (.k .z)) (.k8 (.dQ .z)) λa w hI=>?_
  refine ah ?_
  refine DB hI 1 hr (λw hI=>?_)
  dsimp only[List.set]at hI
  have hx:eB L.length k<L.length:=Nat.mod_lt _ (by omega)
  refine aI ?_
  refine F9 hI [0,0,3,7,0,0,48,112,0,511,1023] [] [] [Uc 0 11 _,Uc 1 12 _,Uc 2 13 _,Uc 3 14 _,Uc 4 15 _,Uc 5 16 _,Uc 6 17 _,Uc 7 18 _,Uc 8 19 _,Uc 9 20 _,Uc 10 21 _] (.k (.k .z)) (.k8 (.dQ .z)) ⟨ld,mv,ix,ld,ld,mv,ix,ld,ld,LP zm (hφ:=⟨h.2.1 _ (by omega),h.2.1 _ hx,h.2.2⟩),bn,trivial⟩ (.k (.k .z)) (.k8 (.iw (.d8 (.dk .z)))) λa w hI=>?_
  refine lN hI (λt1=>?_) (λt1=>?_)
  ·
   refine bZ hI 1 [] [] [] (.u none [(0,pv _)] (.k .z)) (.k8 (.aB .z)) ⟨pz,trivial⟩ (.s .o (.k .z)) (.k8 (.iw .z)) λa w hI=>?_
   refine aM ?_
   refine aW ?_
   have hno:¬ ∀q,q<L.length->0<=bP (aq L q) (aq L (eB L.length q)) p:=λhall=>by
    have:=hall k hk
    omega
   exact⟨(),hI.cv ⟨vC (λ_ _ h=>⟨⟨rfl,hno⟩,h⟩),vA,trivial⟩ ⟨gc,gc,gc,gq 5,gq 6,gq 7,gq 8,trivial⟩⟩
  ·
   refine aD ?_
   refine bw ?_
   exact⟨(),hI.cv ⟨vC (λ_ _ (h:sJ (∀q,q<k->0<=bP (aq L q) (aq L (eB L.length q)) p) fk _ _)=>⟨λq hq=>if e:q=k then by rw[e]; omega else h.1 q (by omega),trivial⟩),vA,trivial⟩ ⟨gc,gc,gc,gq 5,gq 6,gq 7,gq 8,trivial⟩⟩
 ·
  dsimp only[List.append,HAppend.hAppend,Append.append]at hI
  have hall:=mW hI 0 rfl
  refine bw ?_
  refine ah ?_
  refine qa ?_
  refine bZ hI 1 [] [] [] (.u none [(0,pv _)] (.k .z)) (.dQ .z) ⟨pz,trivial⟩ (.s .o (.k .z)) (.LQ .z) λa w hI=>?_
  refine aM ?_
  exact AQ hI 1 rfl (F8 (hq:=jK (by unfold Ds; rw[decide_eq_true hall])))
 ·
  dsimp only[List.append,HAppend.hAppend,Append.append]at hI
  obtain⟨rfl,hno⟩:=mW hI 0 rfl
  refine qa ?_
  refine aM ?_
  refine aW ?_
  refine aC ?_
  exact AQ hI 1 rfl (F8 (hq:=λw v (h:sJ _ (pB false) w v)=>jK (by unfold Ds; rw[decide_eq_false hno]) w v h.2))
theorem xg (h:L.length<=1000/\cU 4611686018427387904 p):K2 Tryz.prog 12 (lM L d) (dS p) (gC (pB (zk L d p)) (pI (fE L d))):=by
 intro M w0 v0 v1 hM hv0 jP
 have hp:=h.2
 unfold cU at hp
 refine vL (N:=36) Tryz.func12 rfl rfl rfl hM hv0 jP λa hI=>?_
 refine bZ hI 4 [⟨2,2,some 0,none,.ptr,24,2,true,pv _,[]⟩,⟨3,3,some 1,none,.ptr,26,2,true,pv _,[]⟩] [] [Uc 2 4 _,Uc 3 5 _] .z (.kk .z) ⟨bo,bo,mv,mv,trivial⟩ (.k (.k .z)) (.sD .z) λa w hI=>?_
 refine ay ?_
 refine bZ hI 3 [] [] [Uc 0 7 _,Uc 1 8 _,Uc 2 6 _] (.k (.k .z)) (.kk .z) ⟨ld,BU eW,mv,trivial⟩ (.k (.k .z)) (.eO (.k .z)) λa w hI=>?_
 refine bZ hI 2 [] [] [Uc 0 9 _,Uc 1 10 _] (.k (.k .z)) (.dQ .z) ⟨mv,bn,trivial⟩ (.k (.k .z)) (.iw (.k .z)) λa w hI=>?_
 refine lN hI (λt1=>?_) (λt1=>?_)
 ·
  refine bZ hI 3 [] [] [Uc 0 11 _,Uc 1 4 _,Uc 2 5 _] (.k (.k .z)) (.t 1 (.t 2 (.kk .z))) ⟨mv,mv,mv,trivial⟩ (.k (.k .z)) (.dH (.Lk .z)) λa w hI=>?_
  refine aM ?_
  refine aC ?_
  exact yS hI rfl (iE (hq:=jK (by unfold zk; rw[decide_eq_false t1]; rfl))) iE
 ·
  have he:fE L d=0:=Decidable.not_not.1 t1
  refine aD ?_
  refine ah ?_
  refine ay ?_
  refine bZ hI 20 [] [⟨some 0,12,3,0,True⟩,⟨some 2,14,3,0,True⟩,⟨some 5,17,3,1,True⟩,⟨some 7,19,3,1,True⟩,⟨some 13,25,3,0,_⟩,⟨some 15,27,3,1,_⟩] [Uc 1 13 _,Uc 3 15 _,Uc 4 16 _,Uc 6 18 _,Uc 8 20 _,Uc 9 21 _,Uc 10 22 _,Uc 11 23 _,Uc 12 24 _,Uc 14 26 _,Uc 16 28 _,Uc 17 29 _,Uc 18 30 _,Uc 19 31 _] (.k (.k .z)) (.aB .z) ⟨fa,ld,fa,ld,ng,fa,ld,fa,ld,ng,Ur,bn,mv,gd λh=>B9 h,gd λh=>mR h,gd λh=>B9 h,gd λh=>mR h,gd λh=>Md h,gd λh=>su h,pk,trivial⟩ (.k (.k .z)) (.eO (.d8 (.dH (.dk .z)))) λa w hI=>?_
  refine Ab hI (λt2=>?_) (λt2=>?_)
  ·
   refine bZ hI 2 [] [] [Uc 0 4 _,Uc 1 5 _] (.k (.k .z)) (.t 0 (.t 1 (.k .z))) ⟨mv,mv,trivial⟩ (.k (.k .z)) (.ig (.k .z)) λa w hI=>?_
   refine aM ?_
   refine aC ?_
   exact yS hI rfl (iE (hq:=jK (by unfold zk xK; rw[t2,Bool.not_true,Bool.and_false,Bool.false_and]))) (iE (hq:=dy he.symm))
  ·
   refine aD ?_
   refine ah ?_
   refine bZ hI 6 [] [⟨some 0,32,2,0,True⟩] [Uc 1 33 _,Uc 2 34 _,Uc 3 35 _,Uc 4 4 _,Uc 5 5 _] (.k (.k .z)) (.t 4 (.t 5 (.k .z))) ⟨fa,ld,ld,Gg qW (hφ:=⟨h.1,jx (dO he),CO t2⟩),mv,mv,trivial⟩ (.d (.d .z)) (.dH (.sD .z)) λa w hI=>?_
   refine aM ?_
   exact yS hI rfl (iE (hq:=jK (by unfold zk xK; rw[t2,decide_eq_true he]; rfl))) (iE (hq:=dy he.symm))
end Wx
