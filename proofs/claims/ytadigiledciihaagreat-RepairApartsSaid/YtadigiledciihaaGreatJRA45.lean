import Derived.Test.YtadigiledciihaaGreatCRARangeN
import Derived.Test.YtadigiledciihaaGreatJRA43
namespace Wx
set_option maxRecDepth 100000
set_option maxHeartbeats 1000000
open Go Go.RowKit Go.Proofs
set_option linter.unusedVariables false
attribute [local irreducible] OpOk
section
variable {P:Program} {ops:Array Oper} {ms:List Nat} {c:dM} {V:List Vr} {A:List Al} {G:List bg} {i d:Nat} {x y:Operand} {ty:TypeId} {pos:String} {aR:Array Edge}{φ:Prop}
theorem Mq (hc:φ) {ts:Array TypeId} {m n:Int} (h1:Has ms G i x (pI m):=by exact hg) (h2:Has ms G i y (pI n):=by exact hg) (hp:Post G i (pI (gn m n)):=by exact pg (by assumption) rfl):OpOk P ops ms c V A G i ⟨some d,.call ⟨.builtin .max,#[x,y],ts⟩,ty,pos,aR,none⟩:=xj h1 h2 hp
theorem Mp (hc:φ) {ts:Array TypeId} {m n:Int} (h1:Has ms G i x (pI m):=by exact hg) (h2:Has ms G i y (pI n):=by exact hg) (hp:Post G i (pI (nO m n)):=by exact pg (by assumption) rfl):OpOk P ops ms c V A G i ⟨some d,.call ⟨.builtin .min,#[x,y],ts⟩,ty,pos,aR,none⟩:=xk h1 h2 hp
theorem UO {ts:Array TypeId} {m n:Int} (h1:Has ms G i x (pI m):=by exact hs) (h2:Has ms G i y (pI n):=by exact hs) (hp:Post G i (pI (gn m n)):=by exact pt rfl):OpOk P ops ms c V A G i ⟨some d,.call ⟨.builtin .max,#[x,y],ts⟩,ty,pos,aR,none⟩:=xj h1 h2 hp
end
def aD (a b p:Pt):Int:=(b.1-a.1)*(p.1-a.1)+(b.2-a.2)*(p.2-a.2)
def jX (a b p:Pt) (f:Int):Bool:=if aD a b p<=0 then decide (eP a p<f*f)else if aD a b p>=eP a b then decide (eP b p<f*f)else !LS a b p f
def Ac (x:Int):Int:=gn (-1) (nO 1 x)
def I6 (a b c d:Pt):Bool:=((decide (gn a.1 b.1>=nO c.1 d.1)&&decide (gn c.1 d.1>=nO a.1 b.1))&&decide (gn a.2 b.2>=nO c.2 d.2))&&decide (gn c.2 d.2>=nO a.2 b.2)
def kD (a b c d:Pt):Bool:=if(decide (Ac (aA a b c)=0)&&decide (Ac (aA a b d)=0))=true then I6 a b c d else decide (Ac (aA a b c)≠Ac (aA a b d))&&decide (Ac (aA c d a)≠Ac (aA c d b))
variable {a b c d:Pt}
theorem Jd (t:(decide (Ac (aA a b c)=0)&&decide (Ac (aA a b d)=0))=true):I6 a b c d=kD a b c d:=by unfold kD; rw[if_pos t]
theorem Je (t:(decide (Ac (aA a b c)=0)&&decide (Ac (aA a b d)=0))=false):(decide (Ac (aA a b c)≠Ac (aA a b d))&&decide (Ac (aA c d a)≠Ac (aA c d b)))=kD a b c d:=by unfold kD; rw[if_neg (by rw[t]; exact Bool.false_ne_true)]
abbrev ji (K L:List Pt) (f:Int) (k i:Nat):Prop:=(kD (aj K k) (aj K (gp K.length k)) (aj L i) (aj L (gp L.length i))||jX (aj K k) (aj K (gp K.length k)) (aj L i) f||jX (aj L i) (aj L (gp L.length i)) (aj K k) f)=false
def F5 (K L:List Pt) (f:Int):Bool:=decide (∀k,k<K.length->∀i,i<L.length->ji K L f k i)
def gV (K L:List Pt) (f:Int):Bool:=!(CK K (aj L 0)||CK L (aj K 0))&&F5 K L f
def cE (K:List Pt) (k:Int) (L:List Pt) (l f:Int):Int:=if ct K k≠0 then ct K k else if ct L l≠0 then ct L l else if decide (f<1)||decide (f>2097152)then 1 else 0
variable {e g:Pt} {f:Int}
theorem GG {p:Pt} (h:bu 16777216 e/\bu 16777216 g/\bu 16777216 p /\ -4194304<=f/\f<=4194304):K4 Tryz.prog 78 (dB e) (dB g) (dB p) (pI f) (pB (jX e g p f)):=by
 intro M w0 v0 v1 v2 v3 hM hv0 fW hv2 hv3
 have hb2:=tT h.1 h.2.1
 have hb3:=tT h.1 h.2.2.1
 have hb4:=tT h.2.1 h.2.2.1
 have h0:=h
 obtain⟨⟨a1,a2,a3,a4⟩,⟨b1,b2,b3,b4⟩,⟨p1,p2,p3,p4⟩,hf⟩:=h
 have m1:=dL 33554432 (p:=g.1-e.1) (q:=p.1-e.1) (by omega) (by omega) (by omega) (by omega)
 have m2:=dL 33554432 (p:=g.2-e.2) (q:=p.2-e.2) (by omega) (by omega) (by omega) (by omega)
 have m3:=dL 4194304 (p:=f) (q:=f) (by omega) (by omega) (by omega) (by omega)
 refine Kq (N:=62) Tryz.func78 rfl rfl rfl hM hv0 fW hv2 hv3 λa hI=>?_
 refine bB hI 4 [⟨4,4,some 0,none,.ptr,26,2,true,pv _,[]⟩,⟨5,5,some 1,none,.ptr,26,2,true,pv _,[]⟩,⟨6,6,some 2,none,.ptr,26,2,true,pv _,[]⟩] [] [Uc 3 8 _] .z (.au .z) ⟨bo,bo,bo,mv,trivial⟩ (.k (.k (.k .z))) (.eY (.k .z)) λa w hI=>?_
 refine bB hI 24 [] [⟨some 0,10,5,0,True⟩,⟨some 2,12,4,0,True⟩,⟨some 5,15,6,0,True⟩,⟨some 7,17,4,0,True⟩,⟨some 11,21,5,1,True⟩,⟨some 13,23,4,1,True⟩,⟨some 16,26,6,1,True⟩,⟨some 18,28,4,1,True⟩] [Uc 1 11 _,Uc 3 13 _,Uc 4 14 _,Uc 6 16 _,Uc 8 18 _,Uc 9 19 _,Uc 10 20 _,Uc 12 22 _,Uc 14 24 _,Uc 15 25 _,Uc 17 27 _,Uc 19 29 _,Uc 20 30 _,Uc 21 31 _,Uc 22 32 _,Uc 23 9 _] (.k (.k (.k .z))) (.kk .z) ⟨fa,ld,fa,ld,bn,fa,ld,fa,ld,bn,bn,fa,ld,fa,ld,bn,fa,ld,fa,ld,bn,bn,bn,mv,trivial⟩ (.k (.k (.k .z))) (.eu (.d8 (.bX (.dk .z)))) λa w hI=>?_
 refine aq ?_
 refine aK ?_
 refine bB hI 3 [] [] [Uc 0 34 _,Uc 1 35 _,Uc 2 33 _] (.k (.k (.k .z))) (.cQ .z) ⟨mv,bn,mv,trivial⟩ (.k (.k (.k .z))) (.eG (.dk .z)) λa w hI=>?_
 refine jK hI (λt1=>?_) (λt1=>?_)
 ·
  refine bB hI 8 [] [] [Uc 0 36 _,Uc 1 37 _,Uc 2 38 _,Uc 3 39 _,Uc 4 40 _,Uc 5 41 _,Uc 6 42 _,Uc 7 8 _] (.k (.k (.k .z))) (.k (.t 7 (.kk .z))) ⟨ld,ld,wC oH (hφ:=⟨h0.1,h0.2.2.1⟩),mv,mv,bn,bn,mv,trivial⟩ (.k (.k (.k .z))) (.fZ (.bX (.eY .z))) λa w hI=>?_
  refine aF ?_
  refine aN ?_
  refine aB ?_
  exact bL hI rfl (fh (hq:=cT (by unfold jX; rw[if_pos (show aD e g p<=0 from t1)])))
 ·
  refine bB hI 6 [] [] [Uc 0 44 _,Uc 1 45 _,Uc 2 46 _,Uc 3 47 _,Uc 4 48 _,Uc 5 43 _] (.k (.k (.k .z))) (.au .z) ⟨mv,ld,ld,wC oH (hφ:=⟨h0.1,h0.2.1⟩),bn,mv,trivial⟩ (.k (.k (.k .z))) (.eu (.bX (.dk .z))) λa w hI=>?_
  refine jK hI (λt2=>?_) (λt2=>?_)
  ·
   refine bB hI 8 [] [] [Uc 0 49 _,Uc 1 50 _,Uc 2 51 _,Uc 3 52 _,Uc 4 53 _,Uc 5 54 _,Uc 6 55 _,Uc 7 8 _] (.k (.k (.k .z))) (.k (.t 7 (.k .z))) ⟨ld,ld,wC oH (hφ:=⟨h0.2.1,h0.2.2.1⟩),mv,mv,bn,bn,mv,trivial⟩ (.k (.k (.k .z))) (.fZ (.bX (.nk .z))) λa w hI=>?_
   refine aF ?_
   refine aN ?_
   refine aB ?_
   exact bL hI rfl (fh (hq:=cT (by unfold jX; rw[if_neg (show ¬aD e g p<=0 from t1),if_pos (show aD e g p>=eP e g from t2)])))
  ·
   refine aG ?_
   refine bf ?_
   refine af ?_
   refine bB hI 7 [] [] [Uc 0 56 _,Uc 1 57 _,Uc 2 58 _,Uc 3 59 _,Uc 4 60 _,Uc 5 61 _,Uc 6 8 _] (.k (.k (.k .z))) (.k (.t 6 (.k .z))) ⟨ld,ld,ld,mv,Qw GB (hφ:=h0),nt,mv,trivial⟩ (.d (.d (.d .z))) (.d8 (.dk .z)) λa w hI=>?_
   refine aF ?_
   exact bL hI rfl (fh (hq:=cT (by unfold jX; rw[if_neg (show ¬aD e g p<=0 from t1),if_neg (show ¬aD e g p>=eP e g from t2)])))
theorem CM {x:Int} (_:True):K1 Tryz.prog 109 (pI x) (pI (Ac x)):=by
 intro M w0 v0 hM hv0
 refine uc (N:=6) Tryz.func109 rfl rfl rfl hM hv0 λa hI=>?_
 refine aZ hI 1 [Uc 0 2 _] (.k .z) ⟨mv,trivial⟩ (.kk .z) λa w hI=>?_
 refine aZ hI 4 [Uc 0 3 _,Uc 1 4 _,Uc 2 5 _,Uc 3 2 _] (.k (.t 3 .z)) ⟨mv,UN,UO,mv,trivial⟩ (.bX (.dk .z)) λa w hI=>?_
 refine aF ?_
 exact bL hI rfl fh
theorem Eg {m q:Pt} (h:bu 16777216 e/\bu 16777216 g/\bu 16777216 m/\bu 16777216 q):K4 Tryz.prog 77 (dB e) (dB g) (dB m) (dB q) (pB (kD e g m q)):=by
 intro M w0 v0 v1 v2 v3 hM hv0 fW hv2 hv3
 refine Kq (N:=102) Tryz.func77 rfl rfl rfl hM hv0 fW hv2 hv3 λa hI=>?_
 refine bB hI 5 [⟨4,4,some 0,none,.ptr,26,2,true,pv _,[]⟩,⟨5,5,some 1,none,.ptr,26,2,true,pv _,[]⟩,⟨6,6,some 2,none,.ptr,26,2,true,pv _,[]⟩,⟨7,7,some 3,none,.ptr,26,2,true,pv _,[]⟩] [] [Uc 4 8 _] .z (.au .z) ⟨bo,bo,bo,bo,mv,trivial⟩ (.k (.k (.k (.k .z)))) (.bX (.k .z)) λa w hI=>?_
 refine bB hI 1 [] [] [Uc 0 9 _] (.k (.k (.k (.k .z)))) (.k .z) ⟨mv,trivial⟩ (.k (.k (.k (.k .z)))) (.kk .z) λa w hI=>?_
 refine xV hI [0,0,0,0,14,31,0,0,0,0,959,2047,0,0,0,0,61439,131071,0,0,0,0,3932159,8388607,16777215,33554431,67108863,134217727] [] [] [Uc 0 14 _,Uc 1 15 _,Uc 2 16 _,Uc 3 17 _,Uc 4 18 _,Uc 5 19 _,Uc 6 20 _,Uc 7 21 _,Uc 8 22 _,Uc 9 23 _,Uc 10 24 _,Uc 11 25 _,Uc 12 26 _,Uc 13 27 _,Uc 14 28 _,Uc 15 29 _,Uc 16 30 _,Uc 17 31 _,Uc 18 32 _,Uc 19 33 _,Uc 20 34 _,Uc 21 35 _,Uc 22 36 _,Uc 23 37 _,Uc 24 10 _,Uc 25 11 _,Uc 26 12 _,Uc 27 13 _] (.k (.k (.k (.k .z)))) (.kk .z) ⟨mv,ld,ld,ld,AL mm (hφ:=⟨h.1,h.2.1,h.2.2.1⟩),NL CM,mv,ld,ld,ld,AL mm (hφ:=⟨h.1,h.2.1,h.2.2.2⟩),NL CM,mv,ld,ld,ld,AL mm (hφ:=⟨h.2.2.1,h.2.2.2,h.1⟩),NL CM,mv,ld,ld,ld,AL mm (hφ:=⟨h.2.2.1,h.2.2.2,h.2.1⟩),NL CM,mv,mv,mv,mv,trivial⟩ (.k (.k (.k (.k .z)))) (.fZ (.d8 (.d8 (.bX (.pX (.kk .z)))))) λa w hI=>?_
 refine aq ?_
 refine bB hI 6 [] [] [Uc 0 38 _,Uc 1 39 _,Uc 2 40 _,Uc 3 41 _,Uc 4 42 _,Uc 5 43 _] (.k (.k (.k (.k .z)))) (.au (.k .z)) ⟨mv,bn,mv,gd λh=>fQ h,gd λh=>lB h,pk,trivial⟩ (.k (.k (.k (.k .z)))) (.au (.fZ (.nk .z))) λa w hI=>?_
 refine tY hI (λt1=>?_) (λt1=>?_)
 ·
  refine bB hI 51 [] [⟨some 0,44,4,0,True⟩,⟨some 2,46,5,0,True⟩,⟨some 5,49,6,0,True⟩,⟨some 7,51,7,0,True⟩,⟨some 12,56,6,0,_⟩,⟨some 14,58,7,0,_⟩,⟨some 17,61,4,0,_⟩,⟨some 19,63,5,0,_⟩,⟨some 25,69,4,1,_⟩,⟨some 27,71,5,1,_⟩,⟨some 30,74,6,1,_⟩,⟨some 32,76,7,1,_⟩,⟨some 38,82,6,1,_⟩,⟨some 40,84,7,1,_⟩,⟨some 43,87,4,1,_⟩,⟨some 45,89,5,1,_⟩] [Uc 1 45 _,Uc 3 47 _,Uc 4 48 _,Uc 6 50 _,Uc 8 52 _,Uc 9 53 _,Uc 10 54 _,Uc 11 55 _,Uc 13 57 _,Uc 15 59 _,Uc 16 60 _,Uc 18 62 _,Uc 20 64 _,Uc 21 65 _,Uc 22 66 _,Uc 23 67 _,Uc 24 68 _,Uc 26 70 _,Uc 28 72 _,Uc 29 73 _,Uc 31 75 _,Uc 33 77 _,Uc 34 78 _,Uc 35 79 _,Uc 36 80 _,Uc 37 81 _,Uc 39 83 _,Uc 41 85 _,Uc 42 86 _,Uc 44 88 _,Uc 46 90 _,Uc 47 91 _,Uc 48 92 _,Uc 49 93 _,Uc 50 8 _] (.k (.k (.k (.k .z)))) (.t 50 (.au (.k .z))) ⟨fa,ld,fa,ld,UO,fa,ld,fa,ld,UN,bn,mv,gd λh=>uu h,gd λh=>dw h,gd λh=>uu h,gd λh=>dw h,gd λh=>Mq h,gd λh=>uu h,gd λh=>dw h,gd λh=>uu h,gd λh=>dw h,gd λh=>Mp h,gd λh=>lB h,pk,mv,gd λh=>uu h,gd λh=>dw h,gd λh=>uu h,gd λh=>dw h,gd λh=>Mq h,gd λh=>uu h,gd λh=>dw h,gd λh=>uu h,gd λh=>dw h,gd λh=>Mp h,gd λh=>lB h,pk,mv,gd λh=>uu h,gd λh=>dw h,gd λh=>uu h,gd λh=>dw h,gd λh=>Mq h,gd λh=>uu h,gd λh=>dw h,gd λh=>uu h,gd λh=>dw h,gd λh=>Mp h,gd λh=>lB h,pk,mv,trivial⟩ (.d (.d (.d (.d .z)))) (.Jg (.fZ (.d8 (.d8 (.d8 (.d8 (.k .z))))))) λa w hI=>?_
  refine aF ?_
  refine aB ?_
  exact bL hI rfl (fh (hq:=cT (Jd t1)))
 ·
  refine aG ?_
  refine af ?_
  refine bB hI 9 [] [] [Uc 0 94 _,Uc 1 95 _,Uc 2 96 _,Uc 3 97 _,Uc 4 98 _,Uc 5 99 _,Uc 6 100 _,Uc 7 101 _,Uc 8 8 _] (.k (.k (.k (.k .z)))) (.t 8 (.au (.k .z))) ⟨mv,mv,bn,mv,gd λh=>fQ h,gd λh=>fQ h,gd λh=>lB h,pk,mv,trivial⟩ (.d (.d (.d (.d .z)))) (.d8 (.bX (.nk .z))) λa w hI=>?_
  refine aF ?_
  exact bL hI rfl (fh (hq:=cT (Je t1)))
theorem Jl {K L:List Pt} (h:(0<K.length/\K.length<=1000)/\(0<L.length/\L.length<=1000)/\(∀q,q<K.length->bu 16777216 (aj K q))/\(∀q,q<L.length->bu 16777216 (aj L q)) /\ -4194304<=f/\f<=4194304):K3 Tryz.prog 38 (gw K) (gw L) (pI f) (pB (gV K L f)):=by
 intro M w0 v0 v1 v2 hM hv0 fW hv2
 have hK:=h.1
 have hL:=h.2.1
 have Be:=h.2.2.1
 have Bf:=h.2.2.2.1
 have hf:=h.2.2.2.2
 refine TH (N:=80) Tryz.func38 rfl rfl hM hv0 fW hv2 λa hI=>?_
 refine bB hI 4 [⟨6,6,some 3,none,.ptr,4,1,false,pv _,[]⟩] [] [Uc 0 3 _,Uc 1 4 _,Uc 2 5 _] .z (.cQ .z) ⟨xR 1 false,xR 1 false,xR 1 false,Er .b,trivial⟩ (.k .z) (.eY (.kk .z)) λa w hI=>?_
 refine aq ?_
 refine xV hI [0,0,2,6,15,31,63,63,191,447,1023,2047] [] [] [Uc 0 11 _,Uc 1 12 _,Uc 2 13 _,Uc 3 14 _,Uc 4 15 _,Uc 5 16 _,Uc 6 17 _,Uc 7 18 _,Uc 8 19 _,Uc 9 20 _,Uc 10 21 _,Uc 11 22 _] (.k .z) (.cQ .z) ⟨ld,ld,ix,ld,wC (mj (L:=K) (p:=aj L 0)) (hφ:=⟨hK.2,Be,Bf 0 hL.1⟩),mv,gd λh=>dw h,gd λh=>dw h,gd λh=>yQ h,gd λh=>dw h,gd λh=>Jn h (mj (L:=L) (p:=aj K 0)) (hφ:=⟨hL.2,Bf,Be 0 hK.1⟩),pk,trivial⟩ (.k .z) (.eG (.d8 (.nk .z))) λa w hI=>?_
 refine tY hI (λt1=>?_) (λt1=>?_)
 ·
  refine bB hI 1 [] [] [] (.u none [(0,pv _)] .z) (.au .z) ⟨ju,trivial⟩ (.s .o .z) (.eG .z) λa w hI=>?_
  refine aF ?_
  refine aB ?_
  exact F7 hI rfl (xU (hq:=cT (by unfold gV; rw[t1]; rfl)))
 ·
  have hin:(CK K (aj L 0)||CK L (aj K 0))=false:=t1
  refine aG ?_
  refine af ?_
  refine aq ?_
  refine bB hI 2 [] [] [Uc 0 23 _,Uc 1 24 _] (.k .z) (.au .z) ⟨ld,um rA,trivial⟩ (.k .z) (.eG (.dk .z)) λa w hI=>?_
  refine aK ?_
  refine ue (y0:=25) (y1:=26) (τ:=Unit) (λk t=>[Vz 6 6 4 1 false (lC (∀q,q<k->∀i,i<L.length->ji K L f q i) fq)]) (λcd t=>[Vz 6 6 4 1 false (lC (cd=.ret/\¬ ∀k,k<K.length->∀i,i<L.length->ji K L f k i) (pB false))]) [Uz 3 _,Uz 4 _,Uz 5 _,Uz 24 _] [3,4,5,6,24] () (hI.cv ⟨vC (λ_ _ _=>⟨λ_ h=>absurd h (Nat.not_lt_zero _),trivial⟩),trivial⟩ ⟨gc,gc,gc,gc,trivial⟩) rfl (λ_ _=>by kernel_rfl) (λ_ _=>by kernel_rfl) (by kernel_rfl) (by kernel_rfl) (by kernel_rfl) (λk t w0 M1 B1 a w D l r hk hr hI=>?_) (λt w D l r hI=>?_) (λcd t w D l r hI=>?_)
  ·
   dsimp only[List.append,List.map,HAppend.hAppend,Append.append,yK]at hI
   refine bB hI 2 [⟨7,7,some 0,none,.ptr,3,1,false,pv _,[(1,pv _)]⟩] [] [] (.k (.k .z)) (.k8 (.cQ .z)) ⟨Er .i,ju,trivial⟩ (.k (.k (.s .o .z))) (.k8 (.cQ .z)) λa w hI=>?_
   refine Ao hI 2 [⟨8,8,some 0,none,.ptr,3,1,false,pv _,[(1,pv _)]⟩] [] [] (.k (.k (.k .z))) (.k8 (.cQ .z)) ⟨Er .i,ju,trivial⟩ (.k (.k (.k (.s .o .z)))) (.k8 (.cQ .z)) λa w hI=>?_
   refine af ?_
   refine AI hI 1 hr (λw hI=>?_)
   dsimp only[List.set]at hI
   have hx:gp K.length k<K.length:=Nat.mod_lt _ (by omega)
   refine aK ?_
   refine bB hI 2 [] [] [Uc 0 27 _,Uc 1 28 _] (.k (.k (.k (.k .z)))) (.k8 (.cQ .z)) ⟨ld,um rA,trivial⟩ (.k (.k (.k (.k .z)))) (.k8 (.eG (.k .z))) λa w hI=>?_
   refine aK ?_
   refine Ff (y0:=29) (y1:=30) (n0:=1) (τ:=Unit) (λk2 t2=>[Vz 6 6 4 1 false (lC ((∀q,q<k->∀i,i<L.length->ji K L f q i)/\∀q,q<k2->ji K L f k q) fq),dF 80 80 (Hr l D { r with state:=.busy }),Vz 7 7 3 1 false (pI (k:Int)),Vz 8 8 3 1 false (pI (gp K.length k:Int))]) (λcd t2=>[Vz 6 6 4 1 false (lC (cd=.ret/\¬ ∀k,k<K.length->∀i,i<L.length->ji K L f k i) (pB false)),dF 80 80 (Hr l D { r with state:=.busy })]) [Uz 26 _,Uz 25 _,Uz 3 _,Uz 4 _,Uz 5 _,Uz 24 _,Uz 3 _,Uz 4 _,Uz 5 _,Uz 6 _,Uz 24 _,Uz 28 _] [3,4,5,6,7,8,24,25,26,28] () (hI.cv ⟨vC (λ_ _ (h:lC (∀q,q<k->∀i,i<L.length->ji K L f q i) fq _ _)=>⟨⟨h.1,λ_ h=>absurd h (Nat.not_lt_zero _)⟩,trivial⟩),vA,vc,vc,trivial⟩ ⟨gc,gc,gc,gc,gc,gc,gq 6,gq 7,gq 8,gq 9,gq 10,gc,trivial⟩) rfl rfl (λ_ _=>by kernel_rfl) (λ_ _=>by kernel_rfl) (by kernel_rfl) (by kernel_rfl) (by kernel_rfl) (λk2 t2 w02 M2 B2 a w l2 r2 hk2 hr2 hI=>?_) (λt2 w l2 r2 hI=>?_) (λcd t2 w l2 r2 hI=>?_)
   ·
    dsimp only[List.append,List.map,HAppend.hAppend,Append.append,yK]at hI
    refine bB hI 1 [] [] [Uc 0 9 _] (.k (.k (.k (.k (.k .z))))) (.k8 (.k8 (.k8 .z))) ⟨mv,trivial⟩ (.k (.k (.k (.k (.k .z))))) (.k8 (.k8 (.k8 (.k .z)))) λa w hI=>?_
    refine Ao hI 1 [] [] [Uc 0 10 _] (.k (.k (.k (.k (.k .z))))) (.k8 (.k8 (.k8 (.k .z)))) ⟨mv,trivial⟩ (.k (.k (.k (.k (.k .z))))) (.k8 (.k8 (.k8 (.kk .z)))) λa w hI=>?_
    refine af ?_
    refine LR hI 4 hr2 (λw hI=>?_)
    dsimp only[List.set]at hI
    have hy:gp L.length k2<L.length:=Nat.mod_lt _ (by omega)
    refine aK ?_
    refine xV hI [0,0,3,7,0,0,48,112,0,0,768,1792,0,0,12288,28672,65535,131071,262143,262143,1048575,2097151,262143,262143,12845055,29622271,262143,262143,201588735,470024191,262143,2147483647,4294967295,8589934591,17179869183,17179869183,68719476735,137438953471,17179869183,17179869183,841813590015,1941325217791,17179869183,17179869183,13211319402495,30803505446911,17179869183,140737488355327,281474976710655] [] [] [Uc 0 31 _,Uc 1 32 _,Uc 2 33 _,Uc 3 34 _,Uc 4 35 _,Uc 5 36 _,Uc 6 37 _,Uc 7 38 _,Uc 8 39 _,Uc 9 40 _,Uc 10 41 _,Uc 11 42 _,Uc 12 43 _,Uc 13 44 _,Uc 14 45 _,Uc 15 46 _,Uc 16 47 _,Uc 17 48 _,Uc 18 49 _,Uc 19 50 _,Uc 20 51 _,Uc 21 52 _,Uc 22 53 _,Uc 23 54 _,Uc 24 55 _,Uc 25 56 _,Uc 26 57 _,Uc 27 58 _,Uc 28 59 _,Uc 29 60 _,Uc 30 61 _,Uc 31 62 _,Uc 32 63 _,Uc 33 64 _,Uc 34 65 _,Uc 35 66 _,Uc 36 67 _,Uc 37 68 _,Uc 38 69 _,Uc 39 70 _,Uc 40 71 _,Uc 41 72 _,Uc 42 73 _,Uc 43 74 _,Uc 44 75 _,Uc 45 76 _,Uc 46 77 _,Uc 47 78 _,Uc 48 79 _] (.k (.k (.k (.k (.k .z))))) (.k8 (.k8 (.k8 (.kk .z)))) ⟨ld,ld,ix,ld,ld,ld,ix,ld,ld,mv,ix,ld,ld,mv,ix,ld,Qw Eg (hφ:=⟨Be _ (by omega),Be _ hx,Bf _ (by omega),Bf _ hy⟩),mv,gd λh=>dw h,gd λh=>dw h,gd λh=>yQ h,gd λh=>dw h,gd λh=>dw h,gd λh=>dw h,gd λh=>yQ h,gd λh=>dw h,gd λh=>dw h,gd λh=>fQ h,gd λh=>yQ h,gd λh=>dw h,gd λh=>dw h,gd λh=>OO h GG (hφ:=⟨Be _ (by omega),Be _ hx,Bf _ (by omega),hf⟩),pk,mv,gd λh=>dw h,gd λh=>fQ h,gd λh=>yQ h,gd λh=>dw h,gd λh=>dw h,gd λh=>fQ h,gd λh=>yQ h,gd λh=>dw h,gd λh=>dw h,gd λh=>dw h,gd λh=>yQ h,gd λh=>dw h,gd λh=>dw h,gd λh=>OO h GG (hφ:=⟨Bf _ (by omega),Bf _ hy,Be _ (by omega),hf⟩),pk,trivial⟩ (.k (.k (.k (.k (.k .z))))) (.k8 (.k8 (.k8 (.eu (.d8 (.d8 (.d8 (.d8 (.d8 (.bX (.nk .z))))))))))) λa w hI=>?_
    refine tY hI (λt2=>?_) (λt2=>?_)
    ·
     refine bB hI 1 [] [] [] (.u none [(0,pv _)] (.k (.k (.k (.k .z))))) (.k8 (.k8 (.k8 (.cQ .z)))) ⟨ju,trivial⟩ (.s .o (.k (.k (.k (.k .z))))) (.k8 (.k8 (.k8 (.UI .z)))) λa w hI=>?_
     refine aF ?_
     refine aN ?_
     have hno:¬ ∀k,k<K.length->∀i,i<L.length->ji K L f k i:=λhall=>absurd (t2.symm.trans (hall k hk k2 hk2)) (by decide)
     exact⟨(),hI.cv ⟨vC (λ_ _ h=>⟨⟨rfl,hno⟩,h⟩),vA,vA,trivial⟩ ⟨gc,gc,gc,gc,gc,gc,gq 8,gq 9,gq 10,gq 11,gq 12,gc,gq 14,gq 15,gq 16,gq 17,gq 18,gq 19,gq 20,gq 21,gq 22,gq 23,trivial⟩⟩
    ·
     refine aG ?_
     refine bf ?_
     have hst:ji K L f k k2:=t2
     exact⟨(),hI.cv ⟨vC (λ_ _ (h:lC ((∀q,q<k->∀i,i<L.length->ji K L f q i)/\∀q,q<k2->ji K L f k q) fq _ _)=>⟨⟨h.1.1,λq hq=>if e:q=k2 then by rw[e]; exact hst else h.1.2 q (by omega)⟩,trivial⟩),vA,vc,vc,vA,trivial⟩ ⟨gc,gc,gc,gc,gc,gc,gq 8,gq 9,gq 10,gq 11,gq 12,gc,gq 14,gq 15,gq 16,gq 17,gq 18,gq 19,gq 20,gq 21,gq 22,gq 23,trivial⟩⟩
   ·
    dsimp only[List.append,HAppend.hAppend,Append.append]at hI
    refine bf ?_
    refine bf ?_
    exact⟨(),hI.cv ⟨vC (λ_ _ (h:lC ((∀q,q<k->∀i,i<L.length->ji K L f q i)/\∀q,q<L.length->ji K L f k q) fq _ _)=>⟨λq hq=>if e:q=k then by rw[e]; exact h.1.2 else h.1.1 q (by omega),trivial⟩),vA,trivial⟩ ⟨gc,gc,gc,gc,gq 6,gq 7,gq 8,gq 9,gq 10,trivial⟩⟩
   ·
    dsimp only[List.append,HAppend.hAppend,Append.append]at hI
    obtain⟨rfl,hno⟩:=iN hI 0 rfl
    refine aF ?_
    refine aN ?_
    refine aN ?_
    exact⟨(),hI.cv ⟨vc,vA,trivial⟩ ⟨gc,gc,gc,gc,gq 6,gq 7,gq 8,gq 9,gq 10,trivial⟩⟩
  ·
   dsimp only[List.append,HAppend.hAppend,Append.append]at hI
   have hall:=iN hI 0 rfl
   refine bf ?_
   refine af ?_
   refine nc ?_
   refine bB hI 1 [] [] [] (.u none [(0,pv _)] (.k .z)) (.au .z) ⟨ju,trivial⟩ (.s .o (.k .z)) (.bX .z) λa w hI=>?_
   refine aF ?_
   exact uW hI 1 rfl (xU (hq:=cT (by unfold gV F5; rw[hin,decide_eq_true hall]; rfl)))
  ·
   dsimp only[List.append,HAppend.hAppend,Append.append]at hI
   obtain⟨rfl,hno⟩:=iN hI 0 rfl
   refine nc ?_
   refine aF ?_
   refine aN ?_
   refine aB ?_
   exact uW hI 1 rfl (xU (hq:=λw v (h:lC _ (pB false) w v)=>cT (by unfold gV F5; rw[hin,decide_eq_false hno]; rfl) w v h.2))
end Wx

namespace Wx
set_option maxRecDepth 100000
set_option maxHeartbeats 1000000
open Go Go.RowKit Go.Proofs
set_option linter.unusedVariables false
attribute [local irreducible] OpOk
section
variable {n:Nat} {ms:Nat->List Rat}
end
theorem Tw {x y:Rat} {j k:Nat} (h:j+k<=4000000):K2 Tryz.prog 53 (pN j x) (pN k y) (pN (j+k) (x/y)):=by
 intro M w0 v0 v1 hM hv0 fW
 refine ud (N:=14) Tryz.func53 rfl rfl rfl hM hv0 fW λa hI=>?_
 refine bB hI 3 [⟨2,2,some 0,none,.ptr,61,3,true,pv _,[]⟩,⟨3,3,some 1,none,.ptr,61,3,true,pv _,[]⟩,⟨4,4,some 2,none,.ptr,61,3,true,pv _,[]⟩] [] [] .z (.kk .z) ⟨bo,bo,oM [.f],trivial⟩ (.k (.k (.k .z))) (.dd .z) λa w hI=>?_
 refine bB hI 9 [⟨5,5,some 6,none,.ptr,61,3,true,pv _,[(7,pv _)]⟩] [] [Uc 0 8 _,Uc 1 9 _,Uc 2 10 _,Uc 3 7 _,Uc 4 11 _,Uc 5 12 _,Uc 8 6 _] (.k (.k (.k .z))) .z ⟨ld,ld,xS P4,mv,ext,ext,oM [.f],ju,mv,trivial⟩ (.d (.d (.k (.s .o .z)))) (.bX (.Jf .z)) λa w hI=>?_
 refine bB hI 2 [] [] [Uc 0 13 _] (.u none [(1,pv _)] (.k .z)) .z ⟨ld,ju,trivial⟩ (.s .o (.d .z)) (.d .z) λa w hI=>?_
 refine aF ?_
 exact bL hI rfl xU
end Wx
