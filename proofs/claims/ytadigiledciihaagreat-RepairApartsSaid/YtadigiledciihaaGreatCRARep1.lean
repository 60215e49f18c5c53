import Derived.Test.YtadigiledciihaaGreatJRA29
namespace Wx
set_option maxRecDepth 100000
set_option maxHeartbeats 1000000
open Go Go.RowKit Go.Proofs
set_option linter.unusedVariables false
attribute [local irreducible] OpOk
abbrev Pt:=Int×Int
def dB (p:Pt):Pred:=pS [⟨false,1,pI p.1⟩,⟨false,1,pI p.2⟩]
def aj (L:List Pt) (i:Nat):Pt:=L.getD i (0,0)
abbrev gw (L:List Pt):Pred:=cK 2 true L.length λi=>dB (aj L i)
def bu (B:Int) (p:Pt):Prop :=-B<=p.1/\p.1<=B /\ -B<=p.2/\p.2<=B
def aA (a b c:Pt):Int:=(b.1-a.1)*(c.2-a.2)-(b.2-a.2)*(c.1-a.1)
def gp (n k:Nat):Nat:=(k+1)%n
theorem G4 (n k:Nat):((k:Int)+1)%(n:Int)=((gp n k:Nat):Int):=by unfold gp; rw[Int.natCast_emod]; rfl
variable {c:dM} {V:List Vr} {G:List bg} {i n:Nat}
theorem QM {P:Program} {ops:Array Oper} {ms:List Nat} {A:List Al} {d k:Nat} {x y:Operand} {ty t s:TypeId} {pos:String} {aR:Array Edge} (h1:Has ms G i x (pI ((k:Int)+1)):=by exact hs) (h2:Has ms G i y (pI (n:Int)):=by exact hs) (hp:Post G i (pI ((gp n k:Nat):Int)):=by exact pt rfl) (hr:0<n/\n<=1000000/\k<=1000000:=by omega):OpOk P ops ms c V A G i ⟨some d,.binOp .rem t x y s,ty,pos,aR,none⟩:=Lp h1 h2 (by rw[G4]; exact hp) (by omega)
def lC (φ:Prop) (p:Pred):Pred:=λw v=>φ/\p w v
theorem iN {a:Act} {w:World} {s T:Nat} {ag:Bool} {φ:Prop} {q:Pred} (hI:Inv c V [] G none_ a w) (k:Nat) (hk:V[k]?=some (Vz i s T n ag (lC φ q))):φ:=by
 obtain⟨β,h⟩:=hI
 obtain⟨g,e,h1,hb⟩:=(bK rfl).1 (h.var _ (List.mem_of_getElem? hk) rfl)
 obtain⟨cs,k1,k2,k3,k4⟩:=hb.held
 have h4:aS (own c V none_ β) (λw=>lC φ q w (av ag cs)) w:=k4
 exact h4.out.1
theorem mm {a b c:Pt} (h:bu 16777216 a/\bu 16777216 b/\bu 16777216 c):K3 Tryz.prog 62 (dB a) (dB b) (dB c) (pI (aA a b c)):=by
 intro M w0 v0 v1 v2 hM hv0 fW hv2
 obtain⟨⟨a1,a2,a3,a4⟩,⟨b1,b2,b3,b4⟩,c1,c2,c3,c4⟩:=h
 have m1:=dL 33554432 (p:=b.1-a.1) (q:=c.2-a.2) (by omega) (by omega) (by omega) (by omega)
 have m2:=dL 33554432 (p:=b.2-a.2) (q:=c.1-a.1) (by omega) (by omega) (by omega) (by omega)
 refine xP (N:=30) Tryz.func62 rfl rfl rfl hM hv0 fW hv2 λa hI=>?_
 refine bB hI 4 [⟨3,3,some 0,none,.ptr,26,2,true,pv _,[]⟩,⟨4,4,some 1,none,.ptr,26,2,true,pv _,[]⟩,⟨5,5,some 2,none,.ptr,26,2,true,pv _,[]⟩] [] [Uc 3 6 _] .z (.cQ .z) ⟨bo,bo,bo,mv,trivial⟩ (.k (.k (.k .z))) (.eY .z) λa w hI=>?_
 refine bB hI 24 [] [⟨some 0,7,4,0,True⟩,⟨some 2,9,3,0,True⟩,⟨some 5,12,5,1,True⟩,⟨some 7,14,3,1,True⟩,⟨some 11,18,4,1,True⟩,⟨some 13,20,3,1,True⟩,⟨some 16,23,5,0,True⟩,⟨some 18,25,3,0,True⟩] [Uc 1 8 _,Uc 3 10 _,Uc 4 11 _,Uc 6 13 _,Uc 8 15 _,Uc 9 16 _,Uc 10 17 _,Uc 12 19 _,Uc 14 21 _,Uc 15 22 _,Uc 17 24 _,Uc 19 26 _,Uc 20 27 _,Uc 21 28 _,Uc 22 29 _,Uc 23 6 _] (.k (.k (.k .z))) (.t 23 .z) ⟨fa,ld,fa,ld,bn,fa,ld,fa,ld,bn,bn,fa,ld,fa,ld,bn,fa,ld,fa,ld,bn,bn,bn,mv,trivial⟩ (.d (.d (.d .z))) (.d8 (.d8 (.k .z))) λa w hI=>?_
 refine aF ?_
 exact bL hI rfl fh
variable {L:List Pt}
theorem GD (h:L.length<=1000) (u:Value):FC Tryz.prog 101 #[u] L.length (λk=>pI (k:Int)) (λk=>pI ((gp L.length k:Nat):Int)) (FM 1 false (gw L) #[u]):=by
 intro σ l M Bs J X s0 w0 hM hB hN hJ hc hr
 refine Xb (N:=19) Tryz.func101 rfl rfl hM hB hN hJ (FN hc) λa hI=>?_
 refine bB hI 3 [] [] [Uc 0 4 _,Uc 1 5 _,Uc 2 6 _] (.k .z) (.kk .z) ⟨ld,ln,mv,trivial⟩ (.k .z) (.nM (.k .z)) λa w hI=>?_
 refine aK ?_
 refine xN [] [Uz 0 _,Uz 1 _,Uz 5 _] (λ(i:Nat×σ)=>[jV 19 (Bs i.2) (J i.1 i.2)]) (λ(i:Nat×σ)=>[Uz 6 (pI (i.1:Int))]) (λ(i:Nat×σ)=>i.1<=L.length) (λ(i:Nat×σ)=>L.length-i.1) ((0,s0)) (Nat.zero_le _) hI ⟨vJ,trivial⟩ ⟨gi,gi,gi,gc,trivial⟩ ?_
 intro i a w hi hI
 refine bB hI 1 [] [] [Uc 0 7 _] (.k .z) (.au .z) ⟨bn,trivial⟩ (.k .z) (.au (.k .z)) λa w hI=>?_
 refine aq ?_
 refine jK hI (λt1=>?_) (λt1=>?_)
 ·
  refine aG ?_
  refine af ?_
  refine aq ?_
  refine aK ?_
  refine bB hI 2 [] [] [Uc 0 8 _,Uc 1 3 _] (.k .z) (.au (.k .z)) ⟨mv,mv,trivial⟩ (.k .z) (.au (.nk .z)) λa w hI=>?_
  refine II (n0:=0) (nv:=[]) (A1:=[]) (ne:=[Uc 0 9 _,Uc 1 10 _,Uc 2 11 _,Uc 3 12 _,Uc 4 13 _,Uc 5 14 _,Uc 6 15 _]) Bs (λb s'=>if b then J (i.1+1) s' else X s') 7 hI (.k .z) (.au (.k .z)) ⟨mv,mv,mv,bn,ld,ln,rm,trivial⟩ (.k .z) (.au (.Rx (.eY .z))) rfl rfl rfl rfl rfl (λM' w' u0 u1 k1 k2 k3 k4 k5 k6=>hr i.1 i.2 M' w' u0 u1 (by omega) k1 k2 k3 k4 k5 (k6.imp λw h=>dr (G4 _ _) w u1 h)) (λb s' a w hI=>?_)
  dsimp only[List.set]at hI
  refine tY hI (λt2=>?_) (λt2=>?_)
  ·
   obtain rfl:b=false:=by simpa using t2
   refine aF ?_
   refine aN ?_
   refine aB ?_
   refine aB ?_
   refine aN ?_
   exact OK (n0:=0) hI rfl rfl λh1 h2 h3 h4=>⟨_,s',rfl,h1,h2,h3,.inr h4⟩
  ·
   obtain rfl:b=true:=by simpa using t2
   refine aG ?_
   refine bf ?_
   refine af ?_
   refine Ao hI 2 [] [] [Uc 0 18 _,Uc 1 6 _] (.k .z) (.au (.k (.t 1 (.cQ .z)))) ⟨bn,mv,trivial⟩ (.k .z) (.pX (.fZ (.nk .z))) λa w hI=>?_
   refine af ?_
   exact wZ ((i.1+1,s')) (by(show i.1+1<=L.length); omega) hI ⟨vJ,trivial⟩ ⟨gc,gc,gc,gc,trivial⟩ (by(show L.length-(i.1+1)<L.length-i.1); omega)
 ·
  refine cL ?_
  refine aM ?_
  refine aM ?_
  refine bp ?_
  exact OL (n0:=0) hI rfl rfl λh1 h2 h3 h4=>⟨_,i.2,rfl,h1,h2,h3,.inl (by(have e:i.1=L.length:=by omega); rw[e]at h4; exact h4)⟩
theorem rA (h:L.length<=1000):K1 Tryz.prog 61 (gw L) (zM Tryz.prog L.length (λk=>pI (k:Int)) (λk=>pI ((gp L.length k:Nat):Int)) (FM 1 false (gw L))):=by
 intro M w0 v0 hM hv0
 refine uc (N:=4) Tryz.func61 rfl rfl rfl hM hv0 λa hI=>?_
 refine aZ hI 2 [Uc 0 1 _,Uc 1 2 _] (.k .z) ⟨xR 1 false,mv,trivial⟩ (.NM .z) λa w hI=>?_
 refine aZ hI 2 [Uc 0 3 _,Uc 1 2 _] (.k (.t 1 .z)) ⟨UM,mv,trivial⟩ (.eY .z) λa w hI=>?_
 refine aF ?_
 exact bL hI rfl (fh (hq:=I7 (λ_ _=>by kernel_rfl) λu=>GD h u))
def DS (x:Int):Bool:=decide (x < -1048576)||decide (x>1048576)
def wH (p:Pt):Bool:=DS p.1||DS p.2
variable {p:Pt}
theorem mQ (h:wH p=false):bu 16777216 p:=by
 unfold wH DS at h
 simp only[Bool.or_eq_false_iff,decide_eq_false_iff_not]at h
 unfold bu
 omega
def qf (f:Nat->Bool):Nat->Int
 |0 => -1
 |n+1=>if 0<=qf f n then qf f n else if f n=true then(n:Int)else -1
theorem mg {f:Nat->Bool}:∀{n:Nat},(∀q,q<n->f q=false)->qf f n = -1
 |0,_=>rfl
 |n+1,h=>by
  show(if 0<=qf f n then qf f n else if f n=true then(n:Int)else -1) = -1
  rw[mg λq hq=>h q (by omega),if_neg (by omega),if_neg (by rw[h n (by omega)]; exact Bool.false_ne_true)]
theorem wY {f:Nat->Bool} {i:Nat} (hn:f i=true) (h:∀q,q<i->f q=false):∀{n:Nat},i<n->qf f n=(i:Int)
 |n+1,hi=>by
  show(if 0<=qf f n then qf f n else if f n=true then(n:Int)else -1)=_
  by_cases e:i=n
  ·subst e
   rw[mg h,if_neg (by omega),if_pos hn]
  ·rw[wY hn h (show i<n by omega),if_pos (by omega)]
theorem jS {f:Nat->Bool}:∀{n:Nat},¬0<=qf f n->∀q,q<n->f q=false
 |n+1,h,q,hq=>by
  have h1:¬0<=(if 0<=qf f n then qf f n else if f n=true then(n:Int)else -1):=h
  by_cases h2:0<=qf f n
  ·rw[if_pos h2]at h1; exact absurd h2 h1
  ·rw[if_neg h2]at h1
   by_cases h3:f n=true
   ·rw[if_pos h3]at h1; omega
   ·by_cases e:q=n
    ·rw[e]; simpa using h3
    ·exact jS h2 q (by omega)
abbrev jz (L:List Pt) (k:Nat):Prop:=∀i,i<L.length->i≠k->i≠gp L.length k->0<aA (aj L k) (aj L (gp L.length k)) (aj L i)
def sC (L:List Pt):Int:=qf (λi=>wH (aj L i)) L.length
def oK (L:List Pt):Bool:=decide ((L.length:Int)<3)||decide ((L.length:Int)>10)
def eM (L:List Pt):Int:=if oK L then 4 else if sC L>=0 then 1 else if ∀k,k<L.length->jz L k then 0 else 7
theorem GI {x:Int} (_:True):K1 Tryz.prog 63 (pI x) (pB (DS x)):=by
 intro M w0 v0 hM hv0
 refine uc (N:=9) Tryz.func63 rfl rfl rfl hM hv0 λa hI=>?_
 refine aZ hI 1 [Uc 0 2 _] (.k .z) ⟨mv,trivial⟩ (.kk .z) λa w hI=>?_
 refine aZ hI 7 [Uc 0 3 _,Uc 1 4 _,Uc 2 5 _,Uc 3 6 _,Uc 4 7 _,Uc 5 8 _,Uc 6 2 _] (.k (.t 6 .z)) ⟨mv,bn,mv,gd λh=>fQ h,gd λh=>lB h,pk,mv,trivial⟩ (.d8 (.k .z)) λa w hI=>?_
 refine aF ?_
 exact bL hI rfl fh
theorem JQ (_:True):K2 Tryz.prog 65 (dB p) (eH 1 false (bW (.func (.func 63) #[] #[]))) (pB (wH p)):=by
 intro M w0 v0 v1 hM hv0 fW
 refine ud (N:=14) Tryz.func65 rfl rfl rfl hM hv0 fW λa hI=>?_
 refine bB hI 2 [⟨2,2,some 0,none,.ptr,26,2,true,pv _,[]⟩] [] [Uc 1 3 _] .z (.kk .z) ⟨bo,mv,trivial⟩ (.k .z) (.NM .z) λa w hI=>?_
 refine bB hI 11 [] [⟨some 1,5,2,0,True⟩,⟨some 6,10,2,1,_⟩] [Uc 0 4 _,Uc 2 6 _,Uc 3 7 _,Uc 4 8 _,Uc 5 9 _,Uc 7 11 _,Uc 8 12 _,Uc 9 13 _,Uc 10 3 _] (.k .z) (.k (.t 10 .z)) ⟨WZ,fa,ld,NL GI,mv,gd λh=>RJ h,gd λh=>uu h,gd λh=>dw h,gd λh=>RH h GI,pk,mv,trivial⟩ (.d .z) (.d8 (.nk .z)) λa w hI=>?_
 refine aF ?_
 exact bL hI rfl fh
theorem GJ (h:L.length<=1000):K2 Tryz.prog 102 (gw L) (EF 65 1 false (bW (.func (.func 63) #[] #[]))) (pI (sC L)):=by
 intro M w0 v0 v1 hM hv0 fW
 refine ud (N:=19) Tryz.func102 rfl rfl rfl hM hv0 fW λa hI=>?_
 refine aZ hI 1 [Uc 0 4 _] (.kk .z) ⟨mv,trivial⟩ (.cQ .z) λa w hI=>?_
 refine aq ?_
 refine aZ hI 3 [Uc 0 6 _,Uc 1 7 _,Uc 2 8 _] (.cQ .z) ⟨mv,ln,mv,trivial⟩ (.eG (.kk .z)) λa w hI=>?_
 refine aK ?_
 refine xN [] [Uz 0 _,Uz 1 _,Uz 7 _] (λ(i:Nat)=>[]) (λ(i:Nat)=>[Uz 8 (pI (i:Int))]) (λ(i:Nat)=>i<=L.length/\∀q,q<i->wH (aj L q)=false) (λ(i:Nat)=>L.length-i) (0) ⟨Nat.zero_le _,λ_ h=>absurd h (Nat.not_lt_zero _)⟩ hI trivial ⟨gi,gi,gi,gc,trivial⟩ ?_
 intro i a w hi hI
 refine aZ hI 1 [Uc 0 9 _] (.au .z) ⟨bn,trivial⟩ (.au (.k .z)) λa w hI=>?_
 refine aq ?_
 refine jK hI (λt1=>?_) (λt1=>?_)
 ·
  refine aG ?_
  refine af ?_
  refine aq ?_
  refine aK ?_
  refine aZ hI 2 [Uc 0 10 _,Uc 1 5 _] (.au (.k .z)) ⟨mv,mv,trivial⟩ (.au (.nk .z)) λa w hI=>?_
  refine aZ hI 6 [Uc 0 11 _,Uc 1 12 _,Uc 2 13 _,Uc 3 14 _,Uc 4 15 _,Uc 5 16 _] (.au (.k .z)) ⟨mv,mv,mv,ix,ld,Vx (λ_ _=>by kernel_rfl) (JQ trivial),trivial⟩ (.au (.fZ (.nk .z))) λa w hI=>?_
  refine tY hI (λt2=>?_) (λt2=>?_)
  ·
   refine aZ hI 2 [Uc 0 17 _,Uc 1 4 _] (.au (.kk .z)) ⟨mv,mv,trivial⟩ (.au (.eY .z)) λa w hI=>?_
   refine aF ?_
   refine aN ?_
   refine aB ?_
   refine aB ?_
   refine aN ?_
   refine aB ?_
   exact bL hI rfl (fh (hq:=dr (wY t2 hi.2 (by omega)).symm))
  ·
   refine aG ?_
   refine bf ?_
   refine af ?_
   refine qR hI 2 [Uc 0 18 _,Uc 1 8 _] (.cQ (.t 1 (.kk .z))) ⟨bn,mv,trivial⟩ (.eG (.eY .z)) λa w hI=>?_
   refine af ?_
   exact wZ (i+1) ⟨by omega,λq hq=>if e:q=i then by rw[e]; exact t2 else hi.2 q (by omega)⟩ hI trivial ⟨gc,gc,gc,gc,trivial⟩ (by omega)
 ·
  refine cL ?_
  refine aM ?_
  refine aM ?_
  refine bp ?_
  refine af ?_
  refine aZ hI 1 [Uc 0 4 _] (.au (.k .z)) ⟨mv,trivial⟩ (.bX (.dk .z)) λa w hI=>?_
  refine aF ?_
  exact bL hI rfl (fh (hq:=dr (mg λq hq=>hi.2 q (by omega)).symm))
theorem zl (h:L.length<=1000):K2 Tryz.prog 64 (gw L) (EF 65 1 false (bW (.func (.func 63) #[] #[]))) (pB (decide (sC L>=0))):=by
 intro M w0 v0 v1 hM hv0 fW
 refine ud (N:=9) Tryz.func64 rfl rfl rfl hM hv0 fW λa hI=>?_
 refine aZ hI 1 [Uc 0 4 _] (.kk .z) ⟨mv,trivial⟩ (.cQ .z) λa w hI=>?_
 refine aZ hI 5 [Uc 0 5 _,Uc 1 6 _,Uc 2 7 _,Uc 3 8 _,Uc 4 4 _] (.kk (.t 4 .z)) ⟨mv,mv,wC GJ,bn,mv,trivial⟩ (.bX (.eY .z)) λa w hI=>?_
 refine aF ?_
 exact bL hI rfl fh
theorem zk (h:L.length<=1000):K1 Tryz.prog 32 (gw L) (pI (eM L)):=by
 intro M w0 v0 hM hv0
 refine TF (N:=52) Tryz.func32 rfl rfl hM hv0 λa hI=>?_
 refine bB hI 2 [⟨2,2,some 1,none,.ptr,29,1,false,pv _,[]⟩] [] [Uc 0 1 _] .z (.k .z) ⟨xR 1 false,Er .i,trivial⟩ (.k .z) (.dk .z) λa w hI=>?_
 refine aq ?_
 refine bB hI 8 [] [] [Uc 0 8 _,Uc 1 9 _,Uc 2 10 _,Uc 3 11 _,Uc 4 12 _,Uc 5 13 _,Uc 6 14 _,Uc 7 15 _] (.k .z) (.k .z) ⟨ld,ln,bn,mv,gd λh=>dw h,gd λh=>RK h,gd λh=>lB h,pk,trivial⟩ (.k .z) (.fZ (.bX (.k .z))) λa w hI=>?_
 refine tY hI (λt1=>?_) (λt1=>?_)
 ·
  refine bB hI 1 [] [] [] (.u none [(0,pv _)] .z) (.kk .z) ⟨ju,trivial⟩ (.s .o .z) (.kd .z) λa w hI=>?_
  refine aF ?_
  refine aB ?_
  exact F7 hI rfl (xU (hq:=dr (by unfold eM oK; rw[if_pos t1])))
 ·
  refine aG ?_
  refine af ?_
  refine bB hI 2 [⟨3,3,some 0,none,.ptr,102,1,false,pv _,[(1,pv _)]⟩] [] [] (.k .z) (.kk .z) ⟨Vm,CV rfl rfl hs rfl rfl (cV (by kernel_rfl)) (wJ _) (by kernel_rfl),trivial⟩ (.k (.s .o .z)) (.kd .z) λa w hI=>?_
  have hI:=ND hI 1 rfl (by kernel_rfl)
  dsimp only[List.eraseIdx]at hI
  refine aq ?_
  refine bB hI 3 [] [] [Uc 0 16 _,Uc 1 17 _,Uc 2 18 _] (.k .z) (.kk .z) ⟨ld,UM,wC zl,trivial⟩ (.k .z) (.OA (.k .z)) λa w hI=>?_
  refine jK hI (λt2=>?_) (λt2=>?_)
  ·
   refine bB hI 1 [] [] [] (.u none [(0,pv _)] .z) (.kk .z) ⟨ju,trivial⟩ (.s .o .z) (.kd .z) λa w hI=>?_
   refine aF ?_
   refine aB ?_
   exact F7 hI rfl (xU (hq:=dr (by unfold eM oK; rw[if_neg (by rw[t1]; exact Bool.false_ne_true),if_pos t2])))
  ·
   have Bb:¬0<=sC L:=t2
   have hn:∀q,q<L.length->bu 16777216 (aj L q):=λq hq=>mQ (jS Bb q hq)
   refine aG ?_
   refine af ?_
   refine aq ?_
   refine bB hI 2 [] [] [Uc 0 19 _,Uc 1 20 _] (.k .z) (.kk .z) ⟨ld,um rA,trivial⟩ (.k .z) (.uy .z) λa w hI=>?_
   refine aK ?_
   refine ue (y0:=21) (y1:=22) (τ:=Unit) (λk t=>[Vz 2 2 29 1 false (lC (∀q,q<k->jz L q) fq)]) (λcd t=>[Vz 2 2 29 1 false (lC (cd=.ret/\¬ ∀q,q<L.length->jz L q) (pI 7))]) [Uz 1 _,Uz 20 _] [1,2,20] () (hI.cv ⟨vC (λ_ _ _=>⟨λ_ h=>absurd h (Nat.not_lt_zero _),trivial⟩),trivial⟩ ⟨gc,gc,trivial⟩) rfl (λ_ _=>by kernel_rfl) (λ_ _=>by kernel_rfl) (by kernel_rfl) (by kernel_rfl) (by kernel_rfl) (λk t w0 M1 B1 a w D l r hk hr hI=>?_) (λt w D l r hI=>?_) (λcd t w D l r hI=>?_)
   ·
    dsimp only[List.append,List.map,HAppend.hAppend,Append.append,yK]at hI
    refine bB hI 1 [] [] [Uc 0 4 _] (.k (.k .z)) (.au (.cQ .z)) ⟨mv,trivial⟩ (.k (.k .z)) (.k8 .z) λa w hI=>?_
    refine Ao hI 1 [] [] [Uc 0 5 _] (.k (.k .z)) (.k8 .z) ⟨mv,trivial⟩ (.k (.k .z)) (.k8 (.k .z)) λa w hI=>?_
    refine af ?_
    refine AI hI 1 hr (λw hI=>?_)
    dsimp only[List.set]at hI
    have hx:gp L.length k<L.length:=Nat.mod_lt _ (by omega)
    refine aK ?_
    refine bB hI 3 [] [] [Uc 0 23 _,Uc 1 24 _,Uc 2 25 _] (.k (.k .z)) (.k8 (.k .z)) ⟨ld,ln,mv,trivial⟩ (.k (.k .z)) (.k8 (.au .z)) λa w hI=>?_
    refine aK ?_
    refine xN [Vz 2 2 29 1 false _,dF 52 52 _] [Uz 22 _,Uz 21 _,Uz 1 _,Uz 20 _,Uz 1 _,Uz 2 _,Uz 20 _,Uz 4 _,Uz 5 _,Uz 23 _,Uz 24 _] (λ(i:Nat)=>[]) (λ(i:Nat)=>[Uz 25 (pI (i:Int))]) (λ(i:Nat)=>i<=L.length/\∀q,q<i->q≠k->q≠gp L.length k->0<aA (aj L k) (aj L (gp L.length k)) (aj L q)) (λ(i:Nat)=>L.length-i) (0) ⟨Nat.zero_le _,λ_ h=>absurd h (Nat.not_lt_zero _)⟩ hI ⟨vi,vA,trivial⟩ ⟨gi,gi,gi,gi,gq 4,gq 5,gq 6,gi,gi,gi,gi,gc,trivial⟩ ?_
    intro i a w hi hI
    have hx:gp L.length k<L.length:=Nat.mod_lt _ (by omega)
    refine bB hI 1 [] [] [Uc 0 26 _] (.k (.k .z)) (.k8 (.au .z)) ⟨bn,trivial⟩ (.k (.k .z)) (.k8 (.au (.k .z))) λa w hI=>?_
    refine aq ?_
    refine jK hI (λt3=>?_) (λt3=>?_)
    ·
     refine aG ?_
     refine af ?_
     refine aq ?_
     refine aK ?_
     refine bB hI 6 [⟨7,7,some 3,none,.ptr,26,2,true,pv _,[(5,pv _)]⟩] [] [Uc 0 27 _,Uc 1 28 _,Uc 2 29 _,Uc 4 6 _] (.k (.k .z)) (.k8 (.au (.k .z))) ⟨mv,ix,ld,oM [.i,.i],mv,ju,trivial⟩ (.k (.k (.s .o .z))) (.k8 (.au (.bX (.k .z)))) λa w hI=>?_
     refine xV hI [0,0,3,7,15,15,63,127,255,511,511,2047,4095,511,511,25087,57855,511,262143,524287,1048575] [] [] [Uc 0 30 _,Uc 1 31 _,Uc 2 32 _,Uc 3 33 _,Uc 4 34 _,Uc 5 35 _,Uc 6 36 _,Uc 7 37 _,Uc 8 38 _,Uc 9 39 _,Uc 10 40 _,Uc 11 41 _,Uc 12 42 _,Uc 13 43 _,Uc 14 44 _,Uc 15 45 _,Uc 16 46 _,Uc 17 47 _,Uc 18 48 _,Uc 19 49 _,Uc 20 50 _] (.k (.k (.k .z))) (.k8 (.au (.k .z))) ⟨mv,mv,bn,mv,gd λh=>fQ h,gd λh=>fQ h,gd λh=>lB h,pk,mv,gd λh=>dw h,gd λh=>fQ h,gd λh=>yQ h,gd λh=>dw h,gd λh=>dw h,gd λh=>fQ h,gd λh=>yQ h,gd λh=>dw h,gd λh=>dw h,gd λh=>oA h mm (hφ:=⟨hn _ (by omega),hn _ hx,hn _ (by omega)⟩),gd λh=>lB h,pk,trivial⟩ (.k (.k (.d .z))) (.k8 (.au (.d8 (.d8 (.bX (.dk .z)))))) λa w hI=>?_
     refine tY hI (λt4=>?_) (λt4=>?_)
     ·
      refine bB hI 1 [] [] [] (.u none [(0,pv _)] (.k .z)) (.k8 (.au (.k .z))) ⟨ju,trivial⟩ (.s .o (.k .z)) (.k8 (.au (.d .z))) λa w hI=>?_
      refine aF ?_
      refine aN ?_
      refine aB ?_
      refine aB ?_
      refine aN ?_
      refine aN ?_
      have hno:¬ ∀q,q<L.length->jz L q:=λhall=>by
       have:=hall k hk i (by omega)
       simp only[Bool.and_eq_true,decide_eq_true_eq]at t4
       have h2:=this (by omega) (by omega)
       omega
      exact⟨(),hI.cv ⟨vC (λ_ _ h=>⟨⟨rfl,hno⟩,h⟩),vA,trivial⟩ ⟨gc,gc,gq 4,gq 5,gq 6,trivial⟩⟩
     ·
      refine aG ?_
      refine bf ?_
      refine af ?_
      refine Ao hI 2 [] [] [Uc 0 51 _,Uc 1 25 _] (.k (.k .z)) (.k8 (.cQ (.t 1 (.k .z)))) ⟨bn,mv,trivial⟩ (.k (.k .z)) (.k8 (.eG (.nk .z))) λa w hI=>?_
      refine af ?_
      have hst:i≠k->i≠gp L.length k->0<aA (aj L k) (aj L (gp L.length k)) (aj L i):=λh1 h2=>by
       simp only[Bool.and_eq_false_iff,decide_eq_false_iff_not]at t4
       omega
      exact wZ (i+1) ⟨by omega,λq hq h1 h2=>if e:q=i then by rw[e]at h1 h2 ⊢; exact hst h1 h2 else hi.2 q (by omega) h1 h2⟩ hI ⟨vc,vA,trivial⟩ ⟨gc,gc,gc,gc,gq 4,gq 5,gq 6,gc,gc,gc,gc,gc,trivial⟩ (by omega)
    ·
     refine cL ?_
     refine aM ?_
     refine aM ?_
     refine bp ?_
     refine bf ?_
     exact⟨(),hI.cv ⟨vC (λ_ _ (h:lC (∀q,q<k->jz L q) fq _ _)=>⟨λq hq=>if e:q=k then by rw[e]; exactλj hj=>hi.2 j (by omega)else h.1 q (by omega),trivial⟩),vA,trivial⟩ ⟨gc,gc,gq 4,gq 5,gq 6,trivial⟩⟩
   ·
    dsimp only[List.append,HAppend.hAppend,Append.append]at hI
    have hall:=iN hI 0 rfl
    refine bf ?_
    refine af ?_
    refine nc ?_
    refine bB hI 1 [] [] [] (.u none [(0,pv _)] (.k .z)) (.kk .z) ⟨ju,trivial⟩ (.s .o (.k .z)) (.dd .z) λa w hI=>?_
    refine aF ?_
    exact uW hI 1 rfl (xU (hq:=dr (by unfold eM oK; rw[if_neg (by rw[t1]; exact Bool.false_ne_true),if_neg t2,if_pos hall])))
   ·
    dsimp only[List.append,HAppend.hAppend,Append.append]at hI
    obtain⟨rfl,hno⟩:=iN hI 0 rfl
    refine nc ?_
    refine aF ?_
    refine aN ?_
    refine aB ?_
    exact uW hI 1 rfl (xU (hq:=λw v (h:lC _ (pI 7) w v)=>dr (by unfold eM oK; rw[if_neg (by rw[t1]; exact Bool.false_ne_true),if_neg t2,if_neg hno]) w v h.2))
def ko (L:List Pt) (d:Int):Pred:=pS [⟨false,1,gw L⟩,⟨false,1,pI d⟩]
def ct (L:List Pt) (d:Int):Int:=if eM L≠0 then eM L else if decide (d<1)||decide (d>64)then 1 else 0
theorem iY (h:eM L=0):∀q,q<L.length->bu 16777216 (aj L q):=by
 unfold eM at h
 by_cases h1:oK L=true
 ·rw[if_pos h1]at h; exact absurd h (by decide)
 ·rw[if_neg h1]at h
  by_cases h2:sC L>=0
  ·rw[if_pos h2]at h; exact absurd h (by decide)
  ·exactλq hq=>mQ (jS h2 q hq)
theorem iD (h:eM L=0):3<=L.length/\L.length<=10:=by
 unfold eM at h
 by_cases h1:oK L=true
 ·rw[if_pos h1]at h; exact absurd h (by decide)
 ·unfold oK at h1
  simp only[Bool.or_eq_true,decide_eq_true_eq,not_or]at h1
  omega
variable {d:Int}
theorem cN (h:ct L d=0):eM L=0:=by
 unfold ct at h
 by_cases h1:eM L≠0
 ·rw[if_pos h1]at h; exact h
 ·exact Decidable.not_not.1 h1
def CK (L:List Pt) (p:Pt):Bool:=decide (∀k,k<L.length->0<=aA (aj L k) (aj L (gp L.length k)) p)
def Hl (p:Pt):Bool:=decide (gn (gn (gn p.1 (-p.1)) p.2) (-p.2)>1048576)||decide (nO p.1 p.2 < -1048576)
theorem EE (h:Hl p=false):bu 16777216 p:=by
 unfold Hl gn nO at h
 simp only[Bool.or_eq_false_iff,decide_eq_false_iff_not]at h
 unfold bu
 split at h<;>split at h<;>split at h<;>split at h<;>omega
def JH (L:List Pt) (d:Int) (p:Pt):Bool:=(decide (ct L d=0)&&!Hl p)&&CK L p
theorem gE (h:L.length<=1000):K1 Tryz.prog 13 (ko L d) (pI (ct L d)):=by
 intro M w0 v0 hM hv0
 refine uc (N:=18) Tryz.func13 rfl rfl rfl hM hv0 λa hI=>?_
 refine bB hI 2 [⟨1,1,some 0,none,.ptr,24,2,true,pv _,[]⟩] [] [Uc 1 2 _] .z (.k .z) ⟨bo,mv,trivial⟩ (.k .z) (.dk .z) λa w hI=>?_
 refine aq ?_
 refine bB hI 4 [] [⟨some 0,4,1,0,True⟩] [Uc 1 5 _,Uc 2 6 _,Uc 3 3 _] (.k .z) (.k .z) ⟨fa,ld,um zk,mv,trivial⟩ (.k .z) (.uy .z) λa w hI=>?_
 refine bB hI 2 [] [] [Uc 0 7 _,Uc 1 8 _] (.k .z) (.kk .z) ⟨mv,bn,trivial⟩ (.k .z) (.nM .z) λa w hI=>?_
 refine jK hI (λt1=>?_) (λt1=>?_)
 ·
  refine bB hI 2 [] [] [Uc 0 9 _,Uc 1 2 _] (.k .z) (.t 1 (.kk .z)) ⟨mv,mv,trivial⟩ (.k .z) (.bX (.k .z)) λa w hI=>?_
  refine aF ?_
  refine aB ?_
  exact bL hI rfl (fh (hq:=dr (by unfold ct; rw[if_pos t1])))
 ·
  refine aG ?_
  refine af ?_
  refine aq ?_
  refine bB hI 8 [] [⟨some 0,10,1,1,True⟩,⟨some 4,14,1,1,_⟩] [Uc 1 11 _,Uc 2 12 _,Uc 3 13 _,Uc 5 15 _,Uc 6 16 _,Uc 7 17 _] (.k .z) (.cQ .z) ⟨fa,ld,bn,mv,gd λh=>uu h,gd λh=>dw h,gd λh=>lB h,pk,trivial⟩ (.d .z) (.fZ (.bX (.k .z))) λa w hI=>?_
  refine tY hI (λt2=>?_) (λt2=>?_)
  ·
   refine aZ hI 1 [Uc 0 2 _] (.t 0 (.k .z)) ⟨mv,trivial⟩ (.nk .z) λa w hI=>?_
   refine aF ?_
   refine aB ?_
   exact bL hI rfl (fh (hq:=dr (by unfold ct; rw[if_neg t1,if_pos t2])))
  ·
   refine aG ?_
   refine af ?_
   refine aZ hI 1 [Uc 0 2 _] (.t 0 (.k .z)) ⟨mv,trivial⟩ (.nk .z) λa w hI=>?_
   refine aF ?_
   exact bL hI rfl (fh (hq:=dr (by unfold ct; rw[if_neg t1,if_neg (by rw[t2]; exact Bool.false_ne_true)])))
theorem mj (h:L.length<=1000/\(∀q,q<L.length->bu 16777216 (aj L q))/\bu 16777216 p):K2 Tryz.prog 31 (gw L) (dB p) (pB (CK L p)):=by
 intro M w0 v0 v1 hM hv0 fW
 refine TG (N:=22) Tryz.func31 rfl rfl hM hv0 fW λa hI=>?_
 refine bB hI 3 [⟨4,4,some 2,none,.ptr,4,1,false,pv _,[]⟩] [] [Uc 0 2 _,Uc 1 3 _] .z (.kk .z) ⟨xR 1 false,xR 2 true,Er .b,trivial⟩ (.k .z) (.pX .z) λa w hI=>?_
 refine aq ?_
 refine bB hI 2 [] [] [Uc 0 7 _,Uc 1 8 _] (.k .z) (.kk .z) ⟨ld,um rA,trivial⟩ (.k .z) (.nM .z) λa w hI=>?_
 refine aK ?_
 refine ue (y0:=9) (y1:=10) (τ:=Unit) (λk t=>[Vz 4 4 4 1 false (lC (∀q,q<k->0<=aA (aj L q) (aj L (gp L.length q)) p) fq)]) (λcd t=>[Vz 4 4 4 1 false (lC (cd=.ret/\¬ ∀q,q<L.length->0<=aA (aj L q) (aj L (gp L.length q)) p) (pB false))]) [Uz 2 _,Uz 3 _,Uz 8 _] [2,3,4,8] () (hI.cv ⟨vC (λ_ _ _=>⟨λ_ h=>absurd h (Nat.not_lt_zero _),trivial⟩),trivial⟩ ⟨gc,gc,gc,trivial⟩) rfl (λ_ _=>by kernel_rfl) (λ_ _=>by kernel_rfl) (by kernel_rfl) (by kernel_rfl) (by kernel_rfl) (λk t w0 M1 B1 a w D l r hk hr hI=>?_) (λt w D l r hI=>?_) (λcd t w D l r hI=>?_)
 ·
  dsimp only[List.append,List.map,HAppend.hAppend,Append.append,yK]at hI
  refine bB hI 1 [] [] [Uc 0 5 _] (.k (.k .z)) (.k8 (.k .z)) ⟨mv,trivial⟩ (.k (.k .z)) (.k8 (.kk .z)) λa w hI=>?_
  refine Ao hI 1 [] [] [Uc 0 6 _] (.k (.k .z)) (.k8 (.kk .z)) ⟨mv,trivial⟩ (.k (.k .z)) (.k8 (.cQ .z)) λa w hI=>?_
  refine af ?_
  refine AI hI 1 hr (λw hI=>?_)
  dsimp only[List.set]at hI
  have hx:gp L.length k<L.length:=Nat.mod_lt _ (by omega)
  refine aK ?_
  refine xV hI [0,0,3,7,0,0,48,112,0,511,1023] [] [] [Uc 0 11 _,Uc 1 12 _,Uc 2 13 _,Uc 3 14 _,Uc 4 15 _,Uc 5 16 _,Uc 6 17 _,Uc 7 18 _,Uc 8 19 _,Uc 9 20 _,Uc 10 21 _] (.k (.k .z)) (.k8 (.cQ .z)) ⟨ld,mv,ix,ld,ld,mv,ix,ld,ld,AL mm (hφ:=⟨h.2.1 _ (by omega),h.2.1 _ hx,h.2.2⟩),bn,trivial⟩ (.k (.k .z)) (.k8 (.eG (.d8 (.dk .z)))) λa w hI=>?_
  refine jK hI (λt1=>?_) (λt1=>?_)
  ·
   refine bB hI 1 [] [] [] (.u none [(0,pv _)] (.k .z)) (.k8 (.au .z)) ⟨ju,trivial⟩ (.s .o (.k .z)) (.k8 (.eG .z)) λa w hI=>?_
   refine aF ?_
   refine aN ?_
   have hno:¬ ∀q,q<L.length->0<=aA (aj L q) (aj L (gp L.length q)) p:=λhall=>by
    have:=hall k hk
    omega
   exact⟨(),hI.cv ⟨vC (λ_ _ h=>⟨⟨rfl,hno⟩,h⟩),vA,trivial⟩ ⟨gc,gc,gc,gq 5,gq 6,gq 7,gq 8,trivial⟩⟩
  ·
   refine aG ?_
   refine bf ?_
   exact⟨(),hI.cv ⟨vC (λ_ _ (h:lC (∀q,q<k->0<=aA (aj L q) (aj L (gp L.length q)) p) fq _ _)=>⟨λq hq=>if e:q=k then by rw[e]; omega else h.1 q (by omega),trivial⟩),vA,trivial⟩ ⟨gc,gc,gc,gq 5,gq 6,gq 7,gq 8,trivial⟩⟩
 ·
  dsimp only[List.append,HAppend.hAppend,Append.append]at hI
  have hall:=iN hI 0 rfl
  refine bf ?_
  refine af ?_
  refine nc ?_
  refine bB hI 1 [] [] [] (.u none [(0,pv _)] (.k .z)) (.cQ .z) ⟨ju,trivial⟩ (.s .o (.k .z)) (.Jf .z) λa w hI=>?_
  refine aF ?_
  exact uW hI 1 rfl (xU (hq:=cT (by unfold CK; rw[decide_eq_true hall])))
 ·
  dsimp only[List.append,HAppend.hAppend,Append.append]at hI
  obtain⟨rfl,hno⟩:=iN hI 0 rfl
  refine nc ?_
  refine aF ?_
  refine aN ?_
  refine aB ?_
  exact uW hI 1 rfl (xU (hq:=λw v (h:lC _ (pB false) w v)=>cT (by unfold CK; rw[decide_eq_false hno]) w v h.2))
theorem Gz (h:L.length<=1000/\bu 4611686018427387904 p):K2 Tryz.prog 12 (ko L d) (dB p) (fH (pB (JH L d p)) (pI (ct L d))):=by
 intro M w0 v0 v1 hM hv0 fW
 have hp:=h.2
 unfold bu at hp
 refine ud (N:=36) Tryz.func12 rfl rfl rfl hM hv0 fW λa hI=>?_
 refine bB hI 4 [⟨2,2,some 0,none,.ptr,24,2,true,pv _,[]⟩,⟨3,3,some 1,none,.ptr,26,2,true,pv _,[]⟩] [] [Uc 2 4 _,Uc 3 5 _] .z (.kk .z) ⟨bo,bo,mv,mv,trivial⟩ (.k (.k .z)) (.pX .z) λa w hI=>?_
 refine aq ?_
 refine bB hI 3 [] [] [Uc 0 7 _,Uc 1 8 _,Uc 2 6 _] (.k (.k .z)) (.kk .z) ⟨ld,um gE,mv,trivial⟩ (.k (.k .z)) (.eu (.k .z)) λa w hI=>?_
 refine bB hI 2 [] [] [Uc 0 9 _,Uc 1 10 _] (.k (.k .z)) (.cQ .z) ⟨mv,bn,trivial⟩ (.k (.k .z)) (.eG (.k .z)) λa w hI=>?_
 refine jK hI (λt1=>?_) (λt1=>?_)
 ·
  refine bB hI 3 [] [] [Uc 0 11 _,Uc 1 4 _,Uc 2 5 _] (.k (.k .z)) (.t 1 (.t 2 (.kk .z))) ⟨mv,mv,mv,trivial⟩ (.k (.k .z)) (.bX (.NM .z)) λa w hI=>?_
  refine aF ?_
  refine aB ?_
  exact uq hI rfl (fh (hq:=cT (by unfold JH; rw[decide_eq_false t1]; rfl))) fh
 ·
  have he:ct L d=0:=Decidable.not_not.1 t1
  refine aG ?_
  refine af ?_
  refine aq ?_
  refine bB hI 20 [] [⟨some 0,12,3,0,True⟩,⟨some 2,14,3,0,True⟩,⟨some 5,17,3,1,True⟩,⟨some 7,19,3,1,True⟩,⟨some 13,25,3,0,_⟩,⟨some 15,27,3,1,_⟩] [Uc 1 13 _,Uc 3 15 _,Uc 4 16 _,Uc 6 18 _,Uc 8 20 _,Uc 9 21 _,Uc 10 22 _,Uc 11 23 _,Uc 12 24 _,Uc 14 26 _,Uc 16 28 _,Uc 17 29 _,Uc 18 30 _,Uc 19 31 _] (.k (.k .z)) (.au .z) ⟨fa,ld,fa,ld,ng,fa,ld,fa,ld,ng,W4,bn,mv,gd λh=>uu h,gd λh=>dw h,gd λh=>uu h,gd λh=>dw h,gd λh=>RL h,gd λh=>lB h,pk,trivial⟩ (.k (.k .z)) (.eu (.d8 (.bX (.dk .z)))) λa w hI=>?_
  refine tY hI (λt2=>?_) (λt2=>?_)
  ·
   refine bB hI 2 [] [] [Uc 0 4 _,Uc 1 5 _] (.k (.k .z)) (.t 0 (.t 1 (.k .z))) ⟨mv,mv,trivial⟩ (.k (.k .z)) (.eY (.k .z)) λa w hI=>?_
   refine aF ?_
   refine aB ?_
   exact uq hI rfl (fh (hq:=cT (by unfold JH Hl; rw[t2,Bool.not_true,Bool.and_false,Bool.false_and]))) (fh (hq:=dr he.symm))
  ·
   refine aG ?_
   refine af ?_
   refine bB hI 6 [] [⟨some 0,32,2,0,True⟩] [Uc 1 33 _,Uc 2 34 _,Uc 3 35 _,Uc 4 4 _,Uc 5 5 _] (.k (.k .z)) (.t 4 (.t 5 (.k .z))) ⟨fa,ld,ld,wC mj (hφ:=⟨h.1,iY (cN he),EE t2⟩),mv,mv,trivial⟩ (.d (.d .z)) (.bX (.pX .z)) λa w hI=>?_
   refine aF ?_
   exact uq hI rfl (fh (hq:=cT (by unfold JH Hl; rw[t2,decide_eq_true he]; rfl))) (fh (hq:=dr he.symm))
end Wx
