import Derived.Test.YtikkgpljpglnbaaGreatJRM31
namespace Wx
set_option maxRecDepth 100000
set_option maxHeartbeats 1000000
open Go Go.RowKit Go.Proofs
set_option linter.unusedVariables false
attribute [local irreducible] OpOk
abbrev Pt:=Int×Int
def cq (p:Pt):Pred:=pS [⟨false,1,pI p.1⟩,⟨false,1,pI p.2⟩]
def ae (L:List Pt) (i:Nat):Pt:=L.getD i (0,0)
abbrev eC (L:List Pt):Pred:=bz 2 true L.length λi=>cq (ae L i)
def cG (B:Int) (p:Pt):Prop :=-B<=p.1/\p.1<=B /\ -B<=p.2/\p.2<=B
def az (a b c:Pt):Int:=(b.1-a.1)*(c.2-a.2)-(b.2-a.2)*(c.1-a.1)
def oN (n k:Nat):Nat:=(k+1)%n
theorem DM (n k:Nat):((k:Int)+1)%(n:Int)=((oN n k:Nat):Int):=by unfold oN; rw[Int.natCast_emod]; rfl
variable {c:cF} {V:List Vr} {G:List aQ} {i n:Nat}
theorem TS {P:Program} {ops:Array Oper} {ms:List Nat} {A:List Al} {d k:Nat} {x y:Operand} {ty t s:TypeId} {pos:String} {aI:Array Edge} (h1:Has ms G i x (pI ((k:Int)+1)):=by exact hs) (h2:Has ms G i y (pI (n:Int)):=by exact hs) (hp:Post G i (pI ((oN n k:Nat):Int)):=by exact pt rfl) (hr:0<n/\n<=1000000/\k<=1000000:=by omega):OpOk P ops ms c V A G i ⟨some d,.binOp .rem t x y s,ty,pos,aI,none⟩:=II h1 h2 (by rw[DM]; exact hp) (by omega)
def sB (φ:Prop) (p:Pred):Pred:=λw v=>φ/\p w v
theorem mh {a:Act} {w:World} {s T:Nat} {ag:Bool} {φ:Prop} {q:Pred} (hI:Inv c V [] G none_ a w) (k:Nat) (hk:V[k]?=some (Vz i s T n ag (sB φ q))):φ:=by
 obtain⟨β,h⟩:=hI
 obtain⟨g,e,h1,hb⟩:=(bj rfl).1 (h.var _ (List.mem_of_getElem? hk) rfl)
 obtain⟨cs,k1,k2,k3,k4⟩:=hb.held
 have h4:aL (own c V none_ β) (λw=>sB φ q w (aq ag cs)) w:=k4
 exact h4.out.1
theorem yD {a b c:Pt} (h:cG 16777216 a/\cG 16777216 b/\cG 16777216 c):K3 Tryz.prog 38 (cq a) (cq b) (cq c) (pI (az a b c)):=by
 intro M w0 v0 v1 v2 hM hv0 jw hv2
 obtain⟨⟨a1,a2,a3,a4⟩,⟨b1,b2,b3,b4⟩,c1,c2,c3,c4⟩:=h
 have m1:=nI 33554432 (p:=b.1-a.1) (q:=c.2-a.2) (by omega) (by omega) (by omega) (by omega)
 have m2:=nI 33554432 (p:=b.2-a.2) (q:=c.1-a.1) (by omega) (by omega) (by omega) (by omega)
 refine GR (N:=30) Tryz.func38 rfl rfl rfl hM hv0 jw hv2 λa hI=>?_
 refine bk hI 4 [⟨3,3,some 0,none,.ptr,38,2,true,pv _,[]⟩,⟨4,4,some 1,none,.ptr,38,2,true,pv _,[]⟩,⟨5,5,some 2,none,.ptr,38,2,true,pv _,[]⟩] [] [Uc 3 6 _] .z (.cE .z) ⟨bo,bo,bo,mv,trivial⟩ (.k (.k (.k .z))) (.dL .z) λa w hI=>?_
 refine bk hI 24 [] [⟨some 0,7,4,0,True⟩,⟨some 2,9,3,0,True⟩,⟨some 5,12,5,1,True⟩,⟨some 7,14,3,1,True⟩,⟨some 11,18,4,1,True⟩,⟨some 13,20,3,1,True⟩,⟨some 16,23,5,0,True⟩,⟨some 18,25,3,0,True⟩] [Uc 1 8 _,Uc 3 10 _,Uc 4 11 _,Uc 6 13 _,Uc 8 15 _,Uc 9 16 _,Uc 10 17 _,Uc 12 19 _,Uc 14 21 _,Uc 15 22 _,Uc 17 24 _,Uc 19 26 _,Uc 20 27 _,Uc 21 28 _,Uc 22 29 _,Uc 23 6 _] (.k (.k (.k .z))) (.t 23 .z) ⟨fa,ld,fa,ld,bn,fa,ld,fa,ld,bn,bn,fa,ld,fa,ld,bn,fa,ld,fa,ld,bn,bn,bn,mv,trivial⟩ (.d (.d (.d .z))) (.d8 (.d8 (.k .z))) λa w hI=>?_
 refine aH ?_
 exact cT hI rfl fR
variable {L:List Pt}
theorem Ds (h:L.length<=1000) (u:Value):CA Tryz.prog 67 #[u] L.length (λk=>pI (k:Int)) (λk=>pI ((oN L.length k:Nat):Int)) (CI 1 false (eC L) #[u]):=by
 intro σ l M Bs J X s0 w0 hM hB hN hJ hc hr
 refine TU (N:=19) Tryz.func67 rfl rfl hM hB hN hJ (CJ hc) λa hI=>?_
 refine bk hI 3 [] [] [Uc 0 4 _,Uc 1 5 _,Uc 2 6 _] (.k .z) (.kk .z) ⟨ld,ln,mv,trivial⟩ (.k .z) (.gX (.k .z)) λa w hI=>?_
 refine aF ?_
 refine sF [] [Uz 0 _,Uz 1 _,Uz 5 _] (λ(i:Nat×σ)=>[jV 19 (Bs i.2) (J i.1 i.2)]) (λ(i:Nat×σ)=>[Uz 6 (pI (i.1:Int))]) (λ(i:Nat×σ)=>i.1<=L.length) (λ(i:Nat×σ)=>L.length-i.1) ((0,s0)) (Nat.zero_le _) hI ⟨vJ,trivial⟩ ⟨gi,gi,gi,gc,trivial⟩ ?_
 intro i a w hi hI
 refine bk hI 1 [] [] [Uc 0 7 _] (.k .z) (.aj .z) ⟨bn,trivial⟩ (.k .z) (.aj (.k .z)) λa w hI=>?_
 refine au ?_
 refine gA hI (λt1=>?_) (λt1=>?_)
 ·
  refine ax ?_
  refine af ?_
  refine au ?_
  refine aF ?_
  refine bk hI 2 [] [] [Uc 0 8 _,Uc 1 3 _] (.k .z) (.aj (.k .z)) ⟨mv,mv,trivial⟩ (.k .z) (.aj (.lO .z)) λa w hI=>?_
  refine EN (n0:=0) (nv:=[]) (A1:=[]) (ne:=[Uc 0 9 _,Uc 1 10 _,Uc 2 11 _,Uc 3 12 _,Uc 4 13 _,Uc 5 14 _,Uc 6 15 _]) Bs (λb s'=>if b then J (i.1+1) s' else X s') 7 hI (.k .z) (.aj (.k .z)) ⟨mv,mv,mv,bn,ld,ln,rm,trivial⟩ (.k .z) (.aj (.Ov (.dL .z))) rfl rfl rfl rfl rfl (λM' w' u0 u1 k1 k2 k3 k4 k5 k6=>hr i.1 i.2 M' w' u0 u1 (by omega) k1 k2 k3 k4 k5 (k6.imp λw h=>bL (DM _ _) w u1 h)) (λb s' a w hI=>?_)
  dsimp only[List.set]at hI
  refine uR hI (λt2=>?_) (λt2=>?_)
  ·
   obtain rfl:b=false:=by simpa using t2
   refine aH ?_
   refine aP ?_
   refine aC ?_
   refine aC ?_
   refine aP ?_
   exact LC (n0:=0) hI rfl rfl λh1 h2 h3 h4=>⟨_,s',rfl,h1,h2,h3,.inr h4⟩
  ·
   obtain rfl:b=true:=by simpa using t2
   refine ax ?_
   refine aO ?_
   refine af ?_
   refine nw hI 2 [] [] [Uc 0 18 _,Uc 1 6 _] (.k .z) (.aj (.k (.t 1 (.cE .z)))) ⟨bn,mv,trivial⟩ (.k .z) (.oF (.fF (.lO .z))) λa w hI=>?_
   refine af ?_
   exact nF ((i.1+1,s')) (by(show i.1+1<=L.length); omega) hI ⟨vJ,trivial⟩ ⟨gc,gc,gc,gc,trivial⟩ (by(show L.length-(i.1+1)<L.length-i.1); omega)
 ·
  refine bO ?_
  refine aB ?_
  refine aB ?_
  refine aR ?_
  exact LD (n0:=0) hI rfl rfl λh1 h2 h3 h4=>⟨_,i.2,rfl,h1,h2,h3,.inl (by(have e:i.1=L.length:=by omega); rw[e]at h4; exact h4)⟩
theorem Ai (h:L.length<=1000):K1 Tryz.prog 47 (eC L) (D3 Tryz.prog L.length (λk=>pI (k:Int)) (λk=>pI ((oN L.length k:Nat):Int)) (CI 1 false (eC L))):=by
 intro M w0 v0 hM hv0
 refine rY (N:=4) Tryz.func47 rfl rfl rfl hM hv0 λa hI=>?_
 refine aZ hI 2 [Uc 0 1 _,Uc 1 2 _] (.k .z) ⟨vh 1 false,mv,trivial⟩ (.KL .z) λa w hI=>?_
 refine aZ hI 2 [Uc 0 3 _,Uc 1 2 _] (.k (.t 1 .z)) ⟨RN,mv,trivial⟩ (.dL .z) λa w hI=>?_
 refine aH ?_
 exact cT hI rfl (fR (hq:=Fu (λ_ _=>by kernel_rfl) λu=>Ds h u))
def Bn (x:Int):Bool:=decide (x < -1048576)||decide (x>1048576)
def ua (p:Pt):Bool:=Bn p.1||Bn p.2
variable {p:Pt}
theorem kC (h:ua p=false):cG 16777216 p:=by
 unfold ua Bn at h
 simp only[Bool.or_eq_false_iff,decide_eq_false_iff_not]at h
 unfold cG
 omega
def nD (f:Nat->Bool):Nat->Int
 |0 => -1
 |n+1=>if 0<=nD f n then nD f n else if f n=true then(n:Int)else -1
theorem jM {f:Nat->Bool}:∀{n:Nat},(∀q,q<n->f q=false)->nD f n = -1
 |0,_=>rfl
 |n+1,h=>by
  show(if 0<=nD f n then nD f n else if f n=true then(n:Int)else -1) = -1
  rw[jM λq hq=>h q (by omega),if_neg (by omega),if_neg (by rw[h n (by omega)]; exact Bool.false_ne_true)]
theorem uq {f:Nat->Bool} {i:Nat} (hn:f i=true) (h:∀q,q<i->f q=false):∀{n:Nat},i<n->nD f n=(i:Int)
 |n+1,hi=>by
  show(if 0<=nD f n then nD f n else if f n=true then(n:Int)else -1)=_
  by_cases e:i=n
  ·subst e
   rw[jM h,if_neg (by omega),if_pos hn]
  ·rw[uq hn h (show i<n by omega),if_pos (by omega)]
theorem iD {f:Nat->Bool}:∀{n:Nat},¬0<=nD f n->∀q,q<n->f q=false
 |n+1,h,q,hq=>by
  have h1:¬0<=(if 0<=nD f n then nD f n else if f n=true then(n:Int)else -1):=h
  by_cases h2:0<=nD f n
  ·rw[if_pos h2]at h1; exact absurd h2 h1
  ·rw[if_neg h2]at h1
   by_cases h3:f n=true
   ·rw[if_pos h3]at h1; omega
   ·by_cases e:q=n
    ·rw[e]; simpa using h3
    ·exact iD h2 q (by omega)
abbrev gU (L:List Pt) (k:Nat):Prop:=∀i,i<L.length->i≠k->i≠oN L.length k->0<az (ae L k) (ae L (oN L.length k)) (ae L i)
def qw (L:List Pt):Int:=nD (λi=>ua (ae L i)) L.length
def mA (L:List Pt):Bool:=decide ((L.length:Int)<3)||decide ((L.length:Int)>10)
def dJ (L:List Pt):Int:=if mA L then 4 else if qw L>=0 then 1 else if ∀k,k<L.length->gU L k then 0 else 7
theorem Dv {x:Int} (_:True):K1 Tryz.prog 44 (pI x) (pB (Bn x)):=by
 intro M w0 v0 hM hv0
 refine rY (N:=9) Tryz.func44 rfl rfl rfl hM hv0 λa hI=>?_
 refine aZ hI 1 [Uc 0 2 _] (.k .z) ⟨mv,trivial⟩ (.kk .z) λa w hI=>?_
 refine aZ hI 7 [Uc 0 3 _,Uc 1 4 _,Uc 2 5 _,Uc 3 6 _,Uc 4 7 _,Uc 5 8 _,Uc 6 2 _] (.k (.t 6 .z)) ⟨mv,bn,mv,gd λh=>iC h,gd λh=>oa h,pk,mv,trivial⟩ (.d8 (.k .z)) λa w hI=>?_
 refine aH ?_
 exact cT hI rfl fR
theorem Gc (_:True):K2 Tryz.prog 46 (cq p) (cZ 1 false (bg (.func (.func 44) #[] #[]))) (pB (ua p)):=by
 intro M w0 v0 v1 hM hv0 jw
 refine rZ (N:=14) Tryz.func46 rfl rfl rfl hM hv0 jw λa hI=>?_
 refine bk hI 2 [⟨2,2,some 0,none,.ptr,38,2,true,pv _,[]⟩] [] [Uc 1 3 _] .z (.kk .z) ⟨bo,mv,trivial⟩ (.k .z) (.KL .z) λa w hI=>?_
 refine bk hI 11 [] [⟨some 1,5,2,0,True⟩,⟨some 6,10,2,1,_⟩] [Uc 0 4 _,Uc 2 6 _,Uc 3 7 _,Uc 4 8 _,Uc 5 9 _,Uc 7 11 _,Uc 8 12 _,Uc 9 13 _,Uc 10 3 _] (.k .z) (.k (.t 10 .z)) ⟨TM,fa,ld,Q5 Dv,mv,gd λh=>OH h,gd λh=>FC h,gd λh=>pz h,gd λh=>OE h Dv,pk,mv,trivial⟩ (.d .z) (.d8 (.lO .z)) λa w hI=>?_
 refine aH ?_
 exact cT hI rfl fR
theorem Dw (h:L.length<=1000):K2 Tryz.prog 66 (eC L) (BW 46 1 false (bg (.func (.func 44) #[] #[]))) (pI (qw L)):=by
 intro M w0 v0 v1 hM hv0 jw
 refine rZ (N:=19) Tryz.func66 rfl rfl rfl hM hv0 jw λa hI=>?_
 refine aZ hI 1 [Uc 0 4 _] (.kk .z) ⟨mv,trivial⟩ (.cE .z) λa w hI=>?_
 refine au ?_
 refine aZ hI 3 [Uc 0 6 _,Uc 1 7 _,Uc 2 8 _] (.cE .z) ⟨mv,ln,mv,trivial⟩ (.dx (.kk .z)) λa w hI=>?_
 refine aF ?_
 refine sF [] [Uz 0 _,Uz 1 _,Uz 7 _] (λ(i:Nat)=>[]) (λ(i:Nat)=>[Uz 8 (pI (i:Int))]) (λ(i:Nat)=>i<=L.length/\∀q,q<i->ua (ae L q)=false) (λ(i:Nat)=>L.length-i) (0) ⟨Nat.zero_le _,λ_ h=>absurd h (Nat.not_lt_zero _)⟩ hI trivial ⟨gi,gi,gi,gc,trivial⟩ ?_
 intro i a w hi hI
 refine aZ hI 1 [Uc 0 9 _] (.aj .z) ⟨bn,trivial⟩ (.aj (.k .z)) λa w hI=>?_
 refine au ?_
 refine gA hI (λt1=>?_) (λt1=>?_)
 ·
  refine ax ?_
  refine af ?_
  refine au ?_
  refine aF ?_
  refine aZ hI 2 [Uc 0 10 _,Uc 1 5 _] (.aj (.k .z)) ⟨mv,mv,trivial⟩ (.aj (.lO .z)) λa w hI=>?_
  refine aZ hI 6 [Uc 0 11 _,Uc 1 12 _,Uc 2 13 _,Uc 3 14 _,Uc 4 15 _,Uc 5 16 _] (.aj (.k .z)) ⟨mv,mv,mv,ix,ld,Sq (λ_ _=>by kernel_rfl) (Gc trivial),trivial⟩ (.aj (.fF (.lO .z))) λa w hI=>?_
  refine uR hI (λt2=>?_) (λt2=>?_)
  ·
   refine aZ hI 2 [Uc 0 17 _,Uc 1 4 _] (.aj (.kk .z)) ⟨mv,mv,trivial⟩ (.aj (.dL .z)) λa w hI=>?_
   refine aH ?_
   refine aP ?_
   refine aC ?_
   refine aC ?_
   refine aP ?_
   refine aC ?_
   exact cT hI rfl (fR (hq:=bL (uq t2 hi.2 (by omega)).symm))
  ·
   refine ax ?_
   refine aO ?_
   refine af ?_
   refine xy hI 2 [Uc 0 18 _,Uc 1 8 _] (.cE (.t 1 (.kk .z))) ⟨bn,mv,trivial⟩ (.dx (.dL .z)) λa w hI=>?_
   refine af ?_
   exact nF (i+1) ⟨by omega,λq hq=>if e:q=i then by rw[e]; exact t2 else hi.2 q (by omega)⟩ hI trivial ⟨gc,gc,gc,gc,trivial⟩ (by omega)
 ·
  refine bO ?_
  refine aB ?_
  refine aB ?_
  refine aR ?_
  refine af ?_
  refine aZ hI 1 [Uc 0 4 _] (.aj (.k .z)) ⟨mv,trivial⟩ (.cH (.dk .z)) λa w hI=>?_
  refine aH ?_
  exact cT hI rfl (fR (hq:=bL (jM λq hq=>hi.2 q (by omega)).symm))
theorem wA (h:L.length<=1000):K2 Tryz.prog 45 (eC L) (BW 46 1 false (bg (.func (.func 44) #[] #[]))) (pB (decide (qw L>=0))):=by
 intro M w0 v0 v1 hM hv0 jw
 refine rZ (N:=9) Tryz.func45 rfl rfl rfl hM hv0 jw λa hI=>?_
 refine aZ hI 1 [Uc 0 4 _] (.kk .z) ⟨mv,trivial⟩ (.cE .z) λa w hI=>?_
 refine aZ hI 5 [Uc 0 5 _,Uc 1 6 _,Uc 2 7 _,Uc 3 8 _,Uc 4 4 _] (.kk (.t 4 .z)) ⟨mv,mv,ES Dw,bn,mv,trivial⟩ (.cH (.dL .z)) λa w hI=>?_
 refine aH ?_
 exact cT hI rfl fR
theorem wm (h:L.length<=1000):K1 Tryz.prog 22 (eC L) (pI (dJ L)):=by
 intro M w0 v0 hM hv0
 refine Qv (N:=52) Tryz.func22 rfl rfl hM hv0 λa hI=>?_
 refine bk hI 2 [⟨2,2,some 1,none,.ptr,27,1,false,pv _,[]⟩] [] [Uc 0 1 _] .z (.k .z) ⟨vh 1 false,J0 .i,trivial⟩ (.k .z) (.dk .z) λa w hI=>?_
 refine au ?_
 refine bk hI 8 [] [] [Uc 0 8 _,Uc 1 9 _,Uc 2 10 _,Uc 3 11 _,Uc 4 12 _,Uc 5 13 _,Uc 6 14 _,Uc 7 15 _] (.k .z) (.k .z) ⟨ld,ln,bn,mv,gd λh=>pz h,gd λh=>OI h,gd λh=>oa h,pk,trivial⟩ (.k .z) (.fF (.cH (.k .z))) λa w hI=>?_
 refine uR hI (λt1=>?_) (λt1=>?_)
 ·
  refine bk hI 1 [] [] [] (.u none [(0,pv _)] .z) (.kk .z) ⟨mW,trivial⟩ (.s .o .z) (.kd .z) λa w hI=>?_
  refine aH ?_
  refine aC ?_
  exact Hp hI rfl (xx (hq:=bL (by unfold dJ mA; rw[if_pos t1])))
 ·
  refine ax ?_
  refine af ?_
  refine bk hI 2 [⟨3,3,some 0,none,.ptr,73,1,false,pv _,[(1,pv _)]⟩] [] [] (.k .z) (.kk .z) ⟨Sg,kE rfl rfl hs rfl rfl (bF (by kernel_rfl)) (uc _) (by kernel_rfl),trivial⟩ (.k (.s .o .z)) (.kd .z) λa w hI=>?_
  have hI:=zk hI 1 rfl (by kernel_rfl)
  dsimp only[List.eraseIdx]at hI
  refine au ?_
  refine bk hI 3 [] [] [Uc 0 16 _,Uc 1 17 _,Uc 2 18 _] (.k .z) (.kk .z) ⟨ld,RN,ES wA,trivial⟩ (.k .z) (.xX (.k .z)) λa w hI=>?_
  refine gA hI (λt2=>?_) (λt2=>?_)
  ·
   refine bk hI 1 [] [] [] (.u none [(0,pv _)] .z) (.kk .z) ⟨mW,trivial⟩ (.s .o .z) (.kd .z) λa w hI=>?_
   refine aH ?_
   refine aC ?_
   exact Hp hI rfl (xx (hq:=bL (by unfold dJ mA; rw[if_neg (by rw[t1]; exact Bool.false_ne_true),if_pos t2])))
  ·
   have ym:¬0<=qw L:=t2
   have hn:∀q,q<L.length->cG 16777216 (ae L q):=λq hq=>kC (iD ym q hq)
   refine ax ?_
   refine af ?_
   refine au ?_
   refine bk hI 2 [] [] [Uc 0 19 _,Uc 1 20 _] (.k .z) (.kk .z) ⟨ld,uN Ai,trivial⟩ (.k .z) (.oK .z) λa w hI=>?_
   refine aF ?_
   refine xC (y0:=21) (y1:=22) (τ:=Unit) (λk t=>[Vz 2 2 27 1 false (sB (∀q,q<k->gU L q) lH)]) (λcd t=>[Vz 2 2 27 1 false (sB (cd=.ret/\¬ ∀q,q<L.length->gU L q) (pI 7))]) [Uz 1 _,Uz 20 _] [1,2,20] () (hI.cv ⟨vC (λ_ _ _=>⟨λ_ h=>absurd h (Nat.not_lt_zero _),trivial⟩),trivial⟩ ⟨gc,gc,trivial⟩) rfl (λ_ _=>by kernel_rfl) (λ_ _=>by kernel_rfl) (by kernel_rfl) (by kernel_rfl) (by kernel_rfl) (λk t w0 M1 B1 a w D l r hk hr hI=>?_) (λt w D l r hI=>?_) (λcd t w D l r hI=>?_)
   ·
    dsimp only[List.append,List.map,HAppend.hAppend,Append.append,Fx]at hI
    refine bk hI 1 [] [] [Uc 0 4 _] (.k (.k .z)) (.aj (.cE .z)) ⟨mv,trivial⟩ (.k (.k .z)) (.k8 .z) λa w hI=>?_
    refine nw hI 1 [] [] [Uc 0 5 _] (.k (.k .z)) (.k8 .z) ⟨mv,trivial⟩ (.k (.k .z)) (.k8 (.k .z)) λa w hI=>?_
    refine af ?_
    refine CE hI 1 hr (λw hI=>?_)
    dsimp only[List.set]at hI
    have hx:oN L.length k<L.length:=Nat.mod_lt _ (by omega)
    refine aF ?_
    refine bk hI 3 [] [] [Uc 0 23 _,Uc 1 24 _,Uc 2 25 _] (.k (.k .z)) (.k8 (.k .z)) ⟨ld,ln,mv,trivial⟩ (.k (.k .z)) (.k8 (.aj .z)) λa w hI=>?_
    refine aF ?_
    refine sF [Vz 2 2 27 1 false _,dc 52 52 _] [Uz 22 _,Uz 21 _,Uz 1 _,Uz 20 _,Uz 1 _,Uz 2 _,Uz 20 _,Uz 4 _,Uz 5 _,Uz 23 _,Uz 24 _] (λ(i:Nat)=>[]) (λ(i:Nat)=>[Uz 25 (pI (i:Int))]) (λ(i:Nat)=>i<=L.length/\∀q,q<i->q≠k->q≠oN L.length k->0<az (ae L k) (ae L (oN L.length k)) (ae L q)) (λ(i:Nat)=>L.length-i) (0) ⟨Nat.zero_le _,λ_ h=>absurd h (Nat.not_lt_zero _)⟩ hI ⟨vi,vA,trivial⟩ ⟨gi,gi,gi,gi,gq 4,gq 5,gq 6,gi,gi,gi,gi,gc,trivial⟩ ?_
    intro i a w hi hI
    have hx:oN L.length k<L.length:=Nat.mod_lt _ (by omega)
    refine bk hI 1 [] [] [Uc 0 26 _] (.k (.k .z)) (.k8 (.aj .z)) ⟨bn,trivial⟩ (.k (.k .z)) (.k8 (.aj (.k .z))) λa w hI=>?_
    refine au ?_
    refine gA hI (λt3=>?_) (λt3=>?_)
    ·
     refine ax ?_
     refine af ?_
     refine au ?_
     refine aF ?_
     refine bk hI 6 [⟨7,7,some 3,none,.ptr,38,2,true,pv _,[(5,pv _)]⟩] [] [Uc 0 27 _,Uc 1 28 _,Uc 2 29 _,Uc 4 6 _] (.k (.k .z)) (.k8 (.aj (.k .z))) ⟨mv,ix,ld,tn [.i,.i],mv,mW,trivial⟩ (.k (.k (.s .o .z))) (.k8 (.aj (.cH (.k .z)))) λa w hI=>?_
     refine AZ hI [0,0,3,7,15,15,63,127,255,511,511,2047,4095,511,511,25087,57855,511,262143,524287,1048575] [] [] [Uc 0 30 _,Uc 1 31 _,Uc 2 32 _,Uc 3 33 _,Uc 4 34 _,Uc 5 35 _,Uc 6 36 _,Uc 7 37 _,Uc 8 38 _,Uc 9 39 _,Uc 10 40 _,Uc 11 41 _,Uc 12 42 _,Uc 13 43 _,Uc 14 44 _,Uc 15 45 _,Uc 16 46 _,Uc 17 47 _,Uc 18 48 _,Uc 19 49 _,Uc 20 50 _] (.k (.k (.k .z))) (.k8 (.aj (.k .z))) ⟨mv,mv,bn,mv,gd λh=>iC h,gd λh=>iC h,gd λh=>oa h,pk,mv,gd λh=>pz h,gd λh=>iC h,gd λh=>FD h,gd λh=>pz h,gd λh=>pz h,gd λh=>iC h,gd λh=>FD h,gd λh=>pz h,gd λh=>pz h,gd λh=>Jt h yD (hφ:=⟨hn _ (by omega),hn _ hx,hn _ (by omega)⟩),gd λh=>oa h,pk,trivial⟩ (.k (.k (.d .z))) (.k8 (.aj (.d8 (.d8 (.cH (.dk .z)))))) λa w hI=>?_
     refine uR hI (λt4=>?_) (λt4=>?_)
     ·
      refine bk hI 1 [] [] [] (.u none [(0,pv _)] (.k .z)) (.k8 (.aj (.k .z))) ⟨mW,trivial⟩ (.s .o (.k .z)) (.k8 (.aj (.d .z))) λa w hI=>?_
      refine aH ?_
      refine aP ?_
      refine aC ?_
      refine aC ?_
      refine aP ?_
      refine aP ?_
      have hno:¬ ∀q,q<L.length->gU L q:=λhall=>by
       have:=hall k hk i (by omega)
       simp only[Bool.and_eq_true,decide_eq_true_eq]at t4
       have h2:=this (by omega) (by omega)
       omega
      exact⟨(),hI.cv ⟨vC (λ_ _ h=>⟨⟨rfl,hno⟩,h⟩),vA,trivial⟩ ⟨gc,gc,gq 4,gq 5,gq 6,trivial⟩⟩
     ·
      refine ax ?_
      refine aO ?_
      refine af ?_
      refine nw hI 2 [] [] [Uc 0 51 _,Uc 1 25 _] (.k (.k .z)) (.k8 (.cE (.t 1 (.k .z)))) ⟨bn,mv,trivial⟩ (.k (.k .z)) (.k8 (.dx (.lO .z))) λa w hI=>?_
      refine af ?_
      have hst:i≠k->i≠oN L.length k->0<az (ae L k) (ae L (oN L.length k)) (ae L i):=λh1 h2=>by
       simp only[Bool.and_eq_false_iff,decide_eq_false_iff_not]at t4
       omega
      exact nF (i+1) ⟨by omega,λq hq h1 h2=>if e:q=i then by rw[e]at h1 h2 ⊢; exact hst h1 h2 else hi.2 q (by omega) h1 h2⟩ hI ⟨vc,vA,trivial⟩ ⟨gc,gc,gc,gc,gq 4,gq 5,gq 6,gc,gc,gc,gc,gc,trivial⟩ (by omega)
    ·
     refine bO ?_
     refine aB ?_
     refine aB ?_
     refine aR ?_
     refine aO ?_
     exact⟨(),hI.cv ⟨vC (λ_ _ (h:sB (∀q,q<k->gU L q) lH _ _)=>⟨λq hq=>if e:q=k then by rw[e]; exactλj hj=>hi.2 j (by omega)else h.1 q (by omega),trivial⟩),vA,trivial⟩ ⟨gc,gc,gq 4,gq 5,gq 6,trivial⟩⟩
   ·
    dsimp only[List.append,HAppend.hAppend,Append.append]at hI
    have hall:=mh hI 0 rfl
    refine aO ?_
    refine af ?_
    refine pO ?_
    refine bk hI 1 [] [] [] (.u none [(0,pv _)] (.k .z)) (.kk .z) ⟨mW,trivial⟩ (.s .o (.k .z)) (.dd .z) λa w hI=>?_
    refine aH ?_
    exact zV hI 1 rfl (xx (hq:=bL (by unfold dJ mA; rw[if_neg (by rw[t1]; exact Bool.false_ne_true),if_neg t2,if_pos hall])))
   ·
    dsimp only[List.append,HAppend.hAppend,Append.append]at hI
    obtain⟨rfl,hno⟩:=mh hI 0 rfl
    refine pO ?_
    refine aH ?_
    refine aP ?_
    refine aC ?_
    exact zV hI 1 rfl (xx (hq:=λw v (h:sB _ (pI 7) w v)=>bL (by unfold dJ mA; rw[if_neg (by rw[t1]; exact Bool.false_ne_true),if_neg t2,if_neg hno]) w v h.2))
def eR (L:List Pt) (d:Int):Pred:=pS [⟨false,1,eC L⟩,⟨false,1,pI d⟩]
def ct (L:List Pt) (d:Int):Int:=if dJ L≠0 then dJ L else if decide (d<1)||decide (d>64)then 1 else 0
theorem gv (h:dJ L=0):∀q,q<L.length->cG 16777216 (ae L q):=by
 unfold dJ at h
 by_cases h1:mA L=true
 ·rw[if_pos h1]at h; exact absurd h (by decide)
 ·rw[if_neg h1]at h
  by_cases h2:qw L>=0
  ·rw[if_pos h2]at h; exact absurd h (by decide)
  ·exactλq hq=>kC (iD h2 q hq)
theorem cV (h:dJ L=0):3<=L.length/\L.length<=10:=by
 unfold dJ at h
 by_cases h1:mA L=true
 ·rw[if_pos h1]at h; exact absurd h (by decide)
 ·unfold mA at h1
  simp only[Bool.or_eq_true,decide_eq_true_eq,not_or]at h1
  omega
variable {d:Int}
theorem bZ (h:ct L d=0):dJ L=0:=by
 unfold ct at h
 by_cases h1:dJ L≠0
 ·rw[if_pos h1]at h; exact h
 ·exact Decidable.not_not.1 h1
def Ii (L:List Pt) (p:Pt):Bool:=decide (∀k,k<L.length->0<=az (ae L k) (ae L (oN L.length k)) p)
def DY (p:Pt):Bool:=decide (iZ (iZ (iZ p.1 (-p.1)) p.2) (-p.2)>1048576)||decide (DD p.1 p.2 < -1048576)
theorem BV (h:DY p=false):cG 16777216 p:=by
 unfold DY iZ DD at h
 simp only[Bool.or_eq_false_iff,decide_eq_false_iff_not]at h
 unfold cG
 split at h<;>split at h<;>split at h<;>split at h<;>omega
def FY (L:List Pt) (d:Int) (p:Pt):Bool:=(decide (ct L d=0)&&!DY p)&&Ii L p
theorem eY (h:L.length<=1000):K1 Tryz.prog 11 (eR L d) (pI (ct L d)):=by
 intro M w0 v0 hM hv0
 refine rY (N:=18) Tryz.func11 rfl rfl rfl hM hv0 λa hI=>?_
 refine bk hI 2 [⟨1,1,some 0,none,.ptr,24,2,true,pv _,[]⟩] [] [Uc 1 2 _] .z (.k .z) ⟨bo,mv,trivial⟩ (.k .z) (.dk .z) λa w hI=>?_
 refine au ?_
 refine bk hI 4 [] [⟨some 0,4,1,0,True⟩] [Uc 1 5 _,Uc 2 6 _,Uc 3 3 _] (.k .z) (.k .z) ⟨fa,ld,uN wm,mv,trivial⟩ (.k .z) (.oK .z) λa w hI=>?_
 refine bk hI 2 [] [] [Uc 0 7 _,Uc 1 8 _] (.k .z) (.kk .z) ⟨mv,bn,trivial⟩ (.k .z) (.gX .z) λa w hI=>?_
 refine gA hI (λt1=>?_) (λt1=>?_)
 ·
  refine bk hI 2 [] [] [Uc 0 9 _,Uc 1 2 _] (.k .z) (.t 1 (.kk .z)) ⟨mv,mv,trivial⟩ (.k .z) (.cH (.k .z)) λa w hI=>?_
  refine aH ?_
  refine aC ?_
  exact cT hI rfl (fR (hq:=bL (by unfold ct; rw[if_pos t1])))
 ·
  refine ax ?_
  refine af ?_
  refine au ?_
  refine bk hI 8 [] [⟨some 0,10,1,1,True⟩,⟨some 4,14,1,1,_⟩] [Uc 1 11 _,Uc 2 12 _,Uc 3 13 _,Uc 5 15 _,Uc 6 16 _,Uc 7 17 _] (.k .z) (.cE .z) ⟨fa,ld,bn,mv,gd λh=>FC h,gd λh=>pz h,gd λh=>oa h,pk,trivial⟩ (.d .z) (.fF (.cH (.k .z))) λa w hI=>?_
  refine uR hI (λt2=>?_) (λt2=>?_)
  ·
   refine aZ hI 1 [Uc 0 2 _] (.t 0 (.k .z)) ⟨mv,trivial⟩ (.lO .z) λa w hI=>?_
   refine aH ?_
   refine aC ?_
   exact cT hI rfl (fR (hq:=bL (by unfold ct; rw[if_neg t1,if_pos t2])))
  ·
   refine ax ?_
   refine af ?_
   refine aZ hI 1 [Uc 0 2 _] (.t 0 (.k .z)) ⟨mv,trivial⟩ (.lO .z) λa w hI=>?_
   refine aH ?_
   exact cT hI rfl (fR (hq:=bL (by unfold ct; rw[if_neg t1,if_neg (by rw[t2]; exact Bool.false_ne_true)])))
theorem qT (h:L.length<=1000/\(∀q,q<L.length->cG 16777216 (ae L q))/\cG 16777216 p):K2 Tryz.prog 23 (eC L) (cq p) (pB (Ii L p)):=by
 intro M w0 v0 v1 hM hv0 jw
 refine Qw (N:=22) Tryz.func23 rfl rfl hM hv0 jw λa hI=>?_
 refine bk hI 3 [⟨4,4,some 2,none,.ptr,4,1,false,pv _,[]⟩] [] [Uc 0 2 _,Uc 1 3 _] .z (.kk .z) ⟨vh 1 false,vh 2 true,J0 .b,trivial⟩ (.k .z) (.oF .z) λa w hI=>?_
 refine au ?_
 refine bk hI 2 [] [] [Uc 0 7 _,Uc 1 8 _] (.k .z) (.kk .z) ⟨ld,uN Ai,trivial⟩ (.k .z) (.gX .z) λa w hI=>?_
 refine aF ?_
 refine xC (y0:=9) (y1:=10) (τ:=Unit) (λk t=>[Vz 4 4 4 1 false (sB (∀q,q<k->0<=az (ae L q) (ae L (oN L.length q)) p) lH)]) (λcd t=>[Vz 4 4 4 1 false (sB (cd=.ret/\¬ ∀q,q<L.length->0<=az (ae L q) (ae L (oN L.length q)) p) (pB false))]) [Uz 2 _,Uz 3 _,Uz 8 _] [2,3,4,8] () (hI.cv ⟨vC (λ_ _ _=>⟨λ_ h=>absurd h (Nat.not_lt_zero _),trivial⟩),trivial⟩ ⟨gc,gc,gc,trivial⟩) rfl (λ_ _=>by kernel_rfl) (λ_ _=>by kernel_rfl) (by kernel_rfl) (by kernel_rfl) (by kernel_rfl) (λk t w0 M1 B1 a w D l r hk hr hI=>?_) (λt w D l r hI=>?_) (λcd t w D l r hI=>?_)
 ·
  dsimp only[List.append,List.map,HAppend.hAppend,Append.append,Fx]at hI
  refine bk hI 1 [] [] [Uc 0 5 _] (.k (.k .z)) (.k8 (.k .z)) ⟨mv,trivial⟩ (.k (.k .z)) (.k8 (.kk .z)) λa w hI=>?_
  refine nw hI 1 [] [] [Uc 0 6 _] (.k (.k .z)) (.k8 (.kk .z)) ⟨mv,trivial⟩ (.k (.k .z)) (.k8 (.cE .z)) λa w hI=>?_
  refine af ?_
  refine CE hI 1 hr (λw hI=>?_)
  dsimp only[List.set]at hI
  have hx:oN L.length k<L.length:=Nat.mod_lt _ (by omega)
  refine aF ?_
  refine AZ hI [0,0,3,7,0,0,48,112,0,511,1023] [] [] [Uc 0 11 _,Uc 1 12 _,Uc 2 13 _,Uc 3 14 _,Uc 4 15 _,Uc 5 16 _,Uc 6 17 _,Uc 7 18 _,Uc 8 19 _,Uc 9 20 _,Uc 10 21 _] (.k (.k .z)) (.k8 (.cE .z)) ⟨ld,mv,ix,ld,ld,mv,ix,ld,ld,Ln yD (hφ:=⟨h.2.1 _ (by omega),h.2.1 _ hx,h.2.2⟩),bn,trivial⟩ (.k (.k .z)) (.k8 (.dx (.d8 (.dk .z)))) λa w hI=>?_
  refine gA hI (λt1=>?_) (λt1=>?_)
  ·
   refine bk hI 1 [] [] [] (.u none [(0,pv _)] (.k .z)) (.k8 (.aj .z)) ⟨mW,trivial⟩ (.s .o (.k .z)) (.k8 (.dx .z)) λa w hI=>?_
   refine aH ?_
   refine aP ?_
   have hno:¬ ∀q,q<L.length->0<=az (ae L q) (ae L (oN L.length q)) p:=λhall=>by
    have:=hall k hk
    omega
   exact⟨(),hI.cv ⟨vC (λ_ _ h=>⟨⟨rfl,hno⟩,h⟩),vA,trivial⟩ ⟨gc,gc,gc,gq 5,gq 6,gq 7,gq 8,trivial⟩⟩
  ·
   refine ax ?_
   refine aO ?_
   exact⟨(),hI.cv ⟨vC (λ_ _ (h:sB (∀q,q<k->0<=az (ae L q) (ae L (oN L.length q)) p) lH _ _)=>⟨λq hq=>if e:q=k then by rw[e]; omega else h.1 q (by omega),trivial⟩),vA,trivial⟩ ⟨gc,gc,gc,gq 5,gq 6,gq 7,gq 8,trivial⟩⟩
 ·
  dsimp only[List.append,HAppend.hAppend,Append.append]at hI
  have hall:=mh hI 0 rfl
  refine aO ?_
  refine af ?_
  refine pO ?_
  refine bk hI 1 [] [] [] (.u none [(0,pv _)] (.k .z)) (.cE .z) ⟨mW,trivial⟩ (.s .o (.k .z)) (.Np .z) λa w hI=>?_
  refine aH ?_
  exact zV hI 1 rfl (xx (hq:=kS (by unfold Ii; rw[decide_eq_true hall])))
 ·
  dsimp only[List.append,HAppend.hAppend,Append.append]at hI
  obtain⟨rfl,hno⟩:=mh hI 0 rfl
  refine pO ?_
  refine aH ?_
  refine aP ?_
  refine aC ?_
  exact zV hI 1 rfl (xx (hq:=λw v (h:sB _ (pB false) w v)=>kS (by unfold Ii; rw[decide_eq_false hno]) w v h.2))
theorem Dq (h:L.length<=1000/\cG 4611686018427387904 p):K2 Tryz.prog 12 (eR L d) (cq p) (fl (pB (FY L d p)) (pI (ct L d))):=by
 intro M w0 v0 v1 hM hv0 jw
 have hp:=h.2
 unfold cG at hp
 refine rZ (N:=36) Tryz.func12 rfl rfl rfl hM hv0 jw λa hI=>?_
 refine bk hI 4 [⟨2,2,some 0,none,.ptr,24,2,true,pv _,[]⟩,⟨3,3,some 1,none,.ptr,38,2,true,pv _,[]⟩] [] [Uc 2 4 _,Uc 3 5 _] .z (.kk .z) ⟨bo,bo,mv,mv,trivial⟩ (.k (.k .z)) (.oF .z) λa w hI=>?_
 refine au ?_
 refine bk hI 3 [] [] [Uc 0 7 _,Uc 1 8 _,Uc 2 6 _] (.k (.k .z)) (.kk .z) ⟨ld,uN eY,mv,trivial⟩ (.k (.k .z)) (.dm (.k .z)) λa w hI=>?_
 refine bk hI 2 [] [] [Uc 0 9 _,Uc 1 10 _] (.k (.k .z)) (.cE .z) ⟨mv,bn,trivial⟩ (.k (.k .z)) (.dx (.k .z)) λa w hI=>?_
 refine gA hI (λt1=>?_) (λt1=>?_)
 ·
  refine bk hI 3 [] [] [Uc 0 11 _,Uc 1 4 _,Uc 2 5 _] (.k (.k .z)) (.t 1 (.t 2 (.kk .z))) ⟨mv,mv,mv,trivial⟩ (.k (.k .z)) (.cH (.KL .z)) λa w hI=>?_
  refine aH ?_
  refine aC ?_
  exact lY hI rfl (fR (hq:=kS (by unfold FY; rw[decide_eq_false t1]; rfl))) fR
 ·
  have he:ct L d=0:=Decidable.not_not.1 t1
  refine ax ?_
  refine af ?_
  refine au ?_
  refine bk hI 20 [] [⟨some 0,12,3,0,True⟩,⟨some 2,14,3,0,True⟩,⟨some 5,17,3,1,True⟩,⟨some 7,19,3,1,True⟩,⟨some 13,25,3,0,_⟩,⟨some 15,27,3,1,_⟩] [Uc 1 13 _,Uc 3 15 _,Uc 4 16 _,Uc 6 18 _,Uc 8 20 _,Uc 9 21 _,Uc 10 22 _,Uc 11 23 _,Uc 12 24 _,Uc 14 26 _,Uc 16 28 _,Uc 17 29 _,Uc 18 30 _,Uc 19 31 _] (.k (.k .z)) (.aj .z) ⟨fa,ld,fa,ld,ng,fa,ld,fa,ld,ng,TP,bn,mv,gd λh=>FC h,gd λh=>pz h,gd λh=>FC h,gd λh=>pz h,gd λh=>OJ h,gd λh=>oa h,pk,trivial⟩ (.k (.k .z)) (.dm (.d8 (.cH (.dk .z)))) λa w hI=>?_
  refine uR hI (λt2=>?_) (λt2=>?_)
  ·
   refine bk hI 2 [] [] [Uc 0 4 _,Uc 1 5 _] (.k (.k .z)) (.t 0 (.t 1 (.k .z))) ⟨mv,mv,trivial⟩ (.k (.k .z)) (.dL (.k .z)) λa w hI=>?_
   refine aH ?_
   refine aC ?_
   exact lY hI rfl (fR (hq:=kS (by unfold FY DY; rw[t2,Bool.not_true,Bool.and_false,Bool.false_and]))) (fR (hq:=bL he.symm))
  ·
   refine ax ?_
   refine af ?_
   refine bk hI 6 [] [⟨some 0,32,2,0,True⟩] [Uc 1 33 _,Uc 2 34 _,Uc 3 35 _,Uc 4 4 _,Uc 5 5 _] (.k (.k .z)) (.t 4 (.t 5 (.k .z))) ⟨fa,ld,ld,ES qT (hφ:=⟨h.1,gv (bZ he),BV t2⟩),mv,mv,trivial⟩ (.d (.d .z)) (.cH (.oF .z)) λa w hI=>?_
   refine aH ?_
   exact lY hI rfl (fR (hq:=kS (by unfold FY DY; rw[t2,decide_eq_true he]; rfl))) (fR (hq:=bL he.symm))
end Wx
