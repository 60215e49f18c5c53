import Derived.Test.YtadigiledciihaaGreatCRARep3
import Derived.Test.YtadigiledciihaaGreatJRA45
namespace Wx
set_option maxRecDepth 100000
set_option maxHeartbeats 1000000
open Go Go.RowKit Go.Proofs
set_option linter.unusedVariables false
attribute [local irreducible] OpOk
def gh (a b p:Pt):Rat:=if aD a b p<=0 then((eP a p:Int):Rat)else if aD a b p>=eP a b then((eP b p:Int):Rat)else(((aA a b p:Int):Rat)*((aA a b p:Int):Rat))/((eP a b:Int):Rat)
def sV (a b c d:Pt):Bool:=if(decide (fg a b c*fg a b d<0)&&decide (fg c d a*fg c d b<0))=true then true else((decide (gh a b c=0)||decide (gh a b d=0))||decide (gh c d a=0))||decide (gh c d b=0)
abbrev zw (K L:List Pt) (f:Int) (k i:Nat):Prop:=((sV (aj K k) (aj K (gp K.length k)) (aj L i) (aj L (gp L.length i))||decide (gJ (gh (aj K k) (aj K (gp K.length k)) (aj L i)) ((f:Rat)*(f:Rat))<0))||decide (gJ (gh (aj L i) (aj L (gp L.length i)) (aj K k)) ((f:Rat)*(f:Rat))<0))=false
def F6 (K L:List Pt) (f:Int):Bool:=decide (∀k,k<K.length->∀i,i<L.length->zw K L f k i)
def A8 (L:List Pt) (p:Pt):Bool:=hasB L (p.1:Rat) (p.2:Rat)
def lK (K L:List Pt) (f:Int):Bool:=!(A8 K (aj L 0)||A8 L (aj K 0))&&F6 K L f
variable {p:Pt}
theorem CR (h:bu 16777216 p):bu 4611686018427387904 p:=by unfold bu at h ⊢; omega
theorem Dj (a b p:Pt):-1<=fg a b p/\fg a b p<=1:=by unfold fg; split<;>(try split)<;>omega
theorem Ae (a b p c d q:Pt):-1<=fg a b p*fg c d q/\fg a b p*fg c d q<=1:=by
 have h1:=Dj a b p
 have h2:=Dj c d q
 have m:=dL 1 h1.1 h1.2 h2.1 h2.2
 omega
variable {e g:Pt}
theorem qo (h:bu 16777216 e/\bu 16777216 g/\bu 16777216 p):K3 Tryz.prog 42 (dB e) (dB g) (dB p) (pN 192 (gh e g p)):=by
 intro M w0 v0 v1 v2 hM hv0 fW hv2
 have hb1:=Dt h.1 h.2.1 h.2.2
 have hb2:=tT h.1 h.2.1
 have hb3:=tT h.1 h.2.2
 have hb4:=tT h.2.1 h.2.2
 have h0:=h
 obtain⟨⟨a1,a2,a3,a4⟩,⟨b1,b2,b3,b4⟩,⟨p1,p2,p3,p4⟩⟩:=h
 have m1:=dL 33554432 (p:=g.1-e.1) (q:=p.1-e.1) (by omega) (by omega) (by omega) (by omega)
 have m2:=dL 33554432 (p:=g.2-e.2) (q:=p.2-e.2) (by omega) (by omega) (by omega) (by omega)
 have m3:=dL 33554432 (p:=g.1-e.1) (q:=p.2-e.2) (by omega) (by omega) (by omega) (by omega)
 have m4:=dL 33554432 (p:=g.2-e.2) (q:=p.1-e.1) (by omega) (by omega) (by omega) (by omega)
 refine xP (N:=79) Tryz.func42 rfl rfl rfl hM hv0 fW hv2 λa hI=>?_
 refine bB hI 4 [⟨3,3,some 0,none,.ptr,26,2,true,pv _,[]⟩,⟨4,4,some 1,none,.ptr,26,2,true,pv _,[]⟩,⟨5,5,some 2,none,.ptr,26,2,true,pv _,[]⟩,⟨6,6,some 3,none,.ptr,61,3,true,pv _,[]⟩] [] [] .z (.cQ .z) ⟨bo,bo,bo,oM [.f],trivial⟩ (.k (.k (.k (.k .z)))) (.Jf .z) λa w hI=>?_
 refine bB hI 24 [] [⟨some 0,9,4,0,True⟩,⟨some 2,11,3,0,True⟩,⟨some 5,14,5,0,True⟩,⟨some 7,16,3,0,True⟩,⟨some 11,20,4,1,True⟩,⟨some 13,22,3,1,True⟩,⟨some 16,25,5,1,True⟩,⟨some 18,27,3,1,True⟩] [Uc 1 10 _,Uc 3 12 _,Uc 4 13 _,Uc 6 15 _,Uc 8 17 _,Uc 9 18 _,Uc 10 19 _,Uc 12 21 _,Uc 14 23 _,Uc 15 24 _,Uc 17 26 _,Uc 19 28 _,Uc 20 29 _,Uc 21 30 _,Uc 22 31 _,Uc 23 7 _] (.k (.k (.k (.k .z)))) .z ⟨fa,ld,fa,ld,bn,fa,ld,fa,ld,bn,bn,fa,ld,fa,ld,bn,fa,ld,fa,ld,bn,bn,bn,mv,trivial⟩ (.k (.k (.k (.k .z)))) (.d8 (.bX (.eY .z))) λa w hI=>?_
 refine aq ?_
 refine bB hI 2 [] [] [Uc 0 32 _,Uc 1 33 _] (.k (.k (.k (.k .z)))) (.k .z) ⟨mv,bn,trivial⟩ (.k (.k (.k (.k .z)))) (.UH .z) λa w hI=>?_
 refine jK hI (λt1=>?_) (λt1=>?_)
 ·
  refine bB hI 5 [] [] [Uc 0 34 _,Uc 1 35 _,Uc 2 36 _,Uc 3 37 _] (.k (.k (.k (.u none [(4,pv _)] .z)))) (.kk .z) ⟨ld,ld,wC Dh (hφ:=⟨h0.1,h0.2.2⟩),uP lp,ju,trivial⟩ (.k (.k (.k (.s .o .z)))) (.fZ (.dd .z)) λa w hI=>?_
  refine aF ?_
  refine aB ?_
  exact bL hI rfl (xU (hq:=C9 (by unfold gh; rw[if_pos (show aD e g p<=0 from t1)]) (by decide)))
 ·
  refine aG ?_
  refine af ?_
  refine aq ?_
  refine bB hI 5 [] [] [Uc 0 38 _,Uc 1 39 _,Uc 2 40 _,Uc 3 41 _,Uc 4 42 _] (.k (.k (.k (.k .z)))) (.kk .z) ⟨mv,ld,ld,wC Dh (hφ:=⟨h0.1,h0.2.1⟩),bn,trivial⟩ (.k (.k (.k (.k .z)))) (.bX (.nk .z)) λa w hI=>?_
  refine jK hI (λt2=>?_) (λt2=>?_)
  ·
   refine bB hI 5 [] [] [Uc 0 43 _,Uc 1 44 _,Uc 2 45 _,Uc 3 46 _] (.k (.k (.k (.u none [(4,pv _)] .z)))) (.k .z) ⟨ld,ld,wC Dh (hφ:=⟨h0.2.1,h0.2.2⟩),uP lp,ju,trivial⟩ (.k (.k (.k (.s .o .z)))) (.bX (.d .z)) λa w hI=>?_
   refine aF ?_
   refine aB ?_
   exact bL hI rfl (xU (hq:=C9 (by unfold gh; rw[if_neg (show ¬aD e g p<=0 from t1),if_pos (show aD e g p>=eP e g from t2)]) (by decide)))
  ·
   refine aG ?_
   refine af ?_
   refine bB hI 26 [⟨8,8,some 24,none,.ptr,61,3,true,pv _,[(25,pv _)]⟩] [⟨some 0,47,4,0,True⟩,⟨some 2,49,3,0,True⟩,⟨some 5,52,5,1,True⟩,⟨some 7,54,3,1,True⟩,⟨some 11,58,4,1,True⟩,⟨some 13,60,3,1,True⟩,⟨some 16,63,5,0,True⟩,⟨some 18,65,3,0,True⟩] [Uc 1 48 _,Uc 3 50 _,Uc 4 51 _,Uc 6 53 _,Uc 8 55 _,Uc 9 56 _,Uc 10 57 _,Uc 12 59 _,Uc 14 61 _,Uc 15 62 _,Uc 17 64 _,Uc 19 66 _,Uc 20 67 _,Uc 21 68 _,Uc 22 69 _,Uc 23 70 _] (.k (.k (.k (.k .z)))) (.k .z) ⟨fa,ld,fa,ld,bn,fa,ld,fa,ld,bn,bn,fa,ld,fa,ld,bn,fa,ld,fa,ld,bn,bn,bn,uP lp,oM [.f],ju,trivial⟩ (.k (.k (.d (.k (.s .o .z))))) (.d8 (.d8 (.d .z))) λa w hI=>?_
   refine xV hI [0,0,3,0,0,31,63,127,255] [] [] [Uc 0 71 _,Uc 1 72 _,Uc 2 73 _,Uc 3 74 _,Uc 4 75 _,Uc 5 76 _,Uc 6 77 _,Uc 7 78 _] (.k (.k (.u none [(8,pv _)] (.k .z)))) .z ⟨ld,ld,xS CQ,ld,ld,wC Dh (hφ:=⟨h0.1,h0.2.1⟩),uP lp,wC Tw,ju,trivial⟩ (.d (.d (.s .o (.d .z)))) (.d8 .z) λa w hI=>?_
   refine aF ?_
   exact bL hI rfl (xU (hq:=C9 (by unfold gh; rw[if_neg (show ¬aD e g p<=0 from t1),if_neg (show ¬aD e g p>=eP e g from t2)]; rfl) (by decide)))
theorem Nw {m q:Pt} (h:bu 16777216 e/\bu 16777216 g/\bu 16777216 m/\bu 16777216 q):K4 Tryz.prog 40 (dB e) (dB g) (dB m) (dB q) (pB (sV e g m q)):=by
 intro M w0 v0 v1 v2 v3 hM hv0 fW hv2 hv3
 have m1:=Ae e g m e g q
 have m2:=Ae m q e m q g
 refine Kq (N:=57) Tryz.func40 rfl rfl rfl hM hv0 fW hv2 hv3 λa hI=>?_
 refine bB hI 5 [⟨4,4,some 0,none,.ptr,26,2,true,pv _,[]⟩,⟨5,5,some 1,none,.ptr,26,2,true,pv _,[]⟩,⟨6,6,some 2,none,.ptr,26,2,true,pv _,[]⟩,⟨7,7,some 3,none,.ptr,26,2,true,pv _,[]⟩] [] [Uc 4 8 _] .z (.au .z) ⟨bo,bo,bo,bo,mv,trivial⟩ (.k (.k (.k (.k .z)))) (.bX (.k .z)) λa w hI=>?_
 refine aq ?_
 have h':=h
 refine xV hI [0,0,0,7,0,0,0,127,255,511,1023,2047,2047,2047,16383,2047,2047,2047,262143,524287,1048575,2097151] [] [] [Uc 0 9 _,Uc 1 10 _,Uc 2 11 _,Uc 3 12 _,Uc 4 13 _,Uc 5 14 _,Uc 6 15 _,Uc 7 16 _,Uc 8 17 _,Uc 9 18 _,Uc 10 19 _,Uc 11 20 _,Uc 12 21 _,Uc 13 22 _,Uc 14 23 _,Uc 15 24 _,Uc 16 25 _,Uc 17 26 _,Uc 18 27 _,Uc 19 28 _,Uc 20 29 _,Uc 21 30 _] (.k (.k (.k (.k .z)))) (.k .z) ⟨ld,ld,ld,AL tP (hφ:=⟨h.1,h.2.1,h.2.2.1⟩),ld,ld,ld,AL tP (hφ:=⟨h.1,h.2.1,h.2.2.2⟩),bn,bn,mv,gd λh=>dw h,gd λh=>dw h,gd λh=>dw h,gd λh=>oA h tP (hφ:=⟨h'.2.2.1,h'.2.2.2,h'.1⟩),gd λh=>dw h,gd λh=>dw h,gd λh=>dw h,gd λh=>oA h tP (hφ:=⟨h'.2.2.1,h'.2.2.2,h'.2.1⟩),gd λh=>lB h,gd λh=>lB h,pk,trivial⟩ (.k (.k (.k (.k .z)))) (.fZ (.d8 (.d8 (.nk .z)))) λa w hI=>?_
 refine tY hI (λt1=>?_) (λt1=>?_)
 ·
  refine bB hI 1 [] [] [Uc 0 8 _] (.k (.k (.k (.k .z)))) (.t 0 (.k .z)) ⟨mv,trivial⟩ (.k (.k (.k (.k .z)))) (.nk .z) λa w hI=>?_
  refine aF ?_
  refine aB ?_
  exact bL hI rfl (fh (hq:=cT (by unfold sV; rw[if_pos t1])))
 ·
  refine aG ?_
  refine af ?_
  refine bB hI 27 [] [] [Uc 0 31 _,Uc 1 32 _,Uc 2 33 _,Uc 3 34 _,Uc 4 35 _,Uc 5 36 _,Uc 6 37 _,Uc 7 38 _,Uc 8 39 _,Uc 9 40 _,Uc 10 41 _,Uc 11 42 _,Uc 12 43 _,Uc 13 44 _,Uc 14 45 _,Uc 15 46 _,Uc 16 47 _,Uc 17 48 _,Uc 18 49 _,Uc 19 50 _,Uc 20 51 _,Uc 21 52 _,Uc 22 53 _,Uc 23 54 _,Uc 24 55 _,Uc 25 56 _,Uc 26 8 _] (.k (.k (.k (.k .z)))) (.t 26 (.k .z)) ⟨ld,ld,ld,AL qo (hφ:=⟨h.1,h.2.1,h.2.2.1⟩),uP xe,mv,gd λh=>dw h,gd λh=>dw h,gd λh=>dw h,gd λh=>oA h qo (hφ:=⟨h'.1,h'.2.1,h'.2.2.2⟩),gd λh=>Gb h xe,pk,mv,gd λh=>dw h,gd λh=>dw h,gd λh=>dw h,gd λh=>oA h qo (hφ:=⟨h'.2.2.1,h'.2.2.2,h'.1⟩),gd λh=>Gb h xe,pk,mv,gd λh=>dw h,gd λh=>dw h,gd λh=>dw h,gd λh=>oA h qo (hφ:=⟨h'.2.2.1,h'.2.2.2,h'.2.1⟩),gd λh=>Gb h xe,pk,mv,trivial⟩ (.d (.d (.d (.d .z)))) (.d8 (.d8 (.d8 (.bX (.k .z))))) λa w hI=>?_
  refine aF ?_
  exact bL hI rfl (fh (hq:=cT (by unfold sV; rw[if_neg (by rw[t1]; exact Bool.false_ne_true)])))
theorem rF {K L:List Pt} {f:Int} (h:(0<K.length/\K.length<=1000)/\(0<L.length/\L.length<=1000)/\(∀q,q<K.length->bu 16777216 (aj K q))/\(∀q,q<L.length->bu 16777216 (aj L q)) /\ -4194304<=f/\f<=4194304):K3 Tryz.prog 19 (gw K) (gw L) (pI f) (pB (lK K L f)):=by
 intro M w0 v0 v1 v2 hM hv0 fW hv2
 have hK:=h.1
 have hL:=h.2.1
 have Be:=h.2.2.1
 have Bf:=h.2.2.2.1
 have hf:=h.2.2.2.2
 refine xP (N:=90) Tryz.func19 rfl rfl rfl hM hv0 fW hv2 λa hI=>?_
 refine aZ hI 1 [Uc 0 6 _] (.cQ .z) ⟨mv,trivial⟩ (.au .z) λa w hI=>?_
 refine aq ?_
 refine aZ hI 12 [Uc 0 14 _,Uc 1 15 _,Uc 2 16 _,Uc 3 17 _,Uc 4 18 _,Uc 5 19 _,Uc 6 20 _,Uc 7 21 _,Uc 8 22 _,Uc 9 23 _,Uc 10 24 _,Uc 11 25 _] (.au .z) ⟨mv,mv,ix,ld,wC (Ab (L:=K) (p:=aj L 0)) (hφ:=⟨hK.2,Be,CR (Bf 0 hL.1)⟩),mv,gd λh=>fQ h,gd λh=>fQ h,gd λh=>yQ h,gd λh=>dw h,gd λh=>Jn h (Ab (L:=L) (p:=aj K 0)) (hφ:=⟨hL.2,Bf,CR (Be 0 hK.1)⟩),pk,trivial⟩ (.au (.d8 (.eY .z))) λa w hI=>?_
 refine tY hI (λt1=>?_) (λt1=>?_)
 ·
  refine aZ hI 1 [Uc 0 6 _] (.cQ (.t 0 (.k .z))) ⟨mv,trivial⟩ (.eG (.dk .z)) λa w hI=>?_
  refine aF ?_
  refine aB ?_
  exact bL hI rfl (fh (hq:=cT (by unfold lK; rw[show(A8 K (aj L 0)||A8 L (aj K 0))=true from t1]; rfl)))
 ·
  have hin:(A8 K (aj L 0)||A8 L (aj K 0))=false:=t1
  refine aG ?_
  refine af ?_
  refine bB hI 7 [⟨7,7,some 5,none,.ptr,61,3,true,pv _,[(6,pv _)]⟩] [] [Uc 0 26 _,Uc 1 27 _,Uc 2 28 _,Uc 3 29 _,Uc 4 30 _] .z (.au (.k .z)) ⟨mv,uP lp,mv,uP lp,xS CQ,oM [.f],ju,trivial⟩ (.s .o .z) (.nM (.bX (.dd .z))) λa w hI=>?_
  refine aq ?_
  refine bB hI 1 [] [] [Uc 0 8 _] (.k .z) (.cQ .z) ⟨mv,trivial⟩ (.k .z) (.au .z) λa w hI=>?_
  refine aK ?_
  refine xN [Vz 7 7 61 3 true _] [Uz 0 _,Uz 1 _] (λ(k:Nat)=>[]) (λ(k:Nat)=>[Uz 8 (pI (k:Int))]) (λ(k:Nat)=>k<=K.length/\∀q,q<k->∀i,i<L.length->zw K L f q i) (λ(k:Nat)=>K.length-k) (0) ⟨Nat.zero_le _,λ_ h=>absurd h (Nat.not_lt_zero _)⟩ hI ⟨vi,trivial⟩ ⟨gi,gi,gc,trivial⟩ ?_
  intro k a w hk hI
  refine aq ?_
  refine bB hI 4 [] [] [Uc 0 31 _,Uc 1 32 _,Uc 2 33 _,Uc 3 34 _] (.k .z) (.cQ .z) ⟨mv,mv,ln,bn,trivial⟩ (.k .z) (.eG (.nk .z)) λa w hI=>?_
  refine jK hI (λt2=>?_) (λt2=>?_)
  ·
   refine aG ?_
   refine af ?_
   refine aq ?_
   refine aK ?_
   refine bB hI 1 [] [] [Uc 0 9 _] (.k .z) (.au .z) ⟨mv,trivial⟩ (.k .z) (.eG (.k .z)) λa w hI=>?_
   refine aK ?_
   refine xN [Vz 7 7 61 3 true _] [Uz 0 _,Uz 1 _,Uz 8 _] (λ(i:Nat)=>[]) (λ(i:Nat)=>[Uz 9 (pI (i:Int))]) (λ(i:Nat)=>i<=L.length/\∀q,q<i->zw K L f k q) (λ(i:Nat)=>L.length-i) (0) ⟨Nat.zero_le _,λ_ h=>absurd h (Nat.not_lt_zero _)⟩ hI ⟨vi,trivial⟩ ⟨gi,gi,gi,gc,trivial⟩ ?_
   intro i a w hi hI
   refine aq ?_
   refine bB hI 4 [] [] [Uc 0 37 _,Uc 1 38 _,Uc 2 39 _,Uc 3 40 _] (.k .z) (.au .z) ⟨mv,mv,ln,bn,trivial⟩ (.k .z) (.au (.eY .z)) λa w hI=>?_
   refine jK hI (λt3=>?_) (λt3=>?_)
   ·
    refine aG ?_
    refine af ?_
    refine aq ?_
    refine aK ?_
    have hx:gp K.length k<K.length:=Nat.mod_lt _ (by omega)
    have hy:gp L.length i<L.length:=Nat.mod_lt _ (by omega)
    refine xV hI [0,0,3,7,0,0,32,0,128,480,1008,2032,0,0,12288,28672,0,0,131072,0,524288,1966080,4128768,8323072,0,0,0,0,251658255,520097791,1057030143,2147483647] [⟨10,10,some 24,none,.ptr,26,2,true,pv _,[(28,pv _)]⟩,⟨11,11,some 25,none,.ptr,26,2,true,pv _,[(29,pv _)]⟩,⟨12,12,some 26,none,.ptr,26,2,true,pv _,[(30,pv _)]⟩,⟨13,13,some 27,none,.ptr,26,2,true,pv _,[(31,pv _)]⟩] [] [Uc 0 43 _,Uc 1 44 _,Uc 2 45 _,Uc 3 46 _,Uc 4 47 _,Uc 5 48 _,Uc 6 49 _,Uc 7 50 _,Uc 8 51 _,Uc 9 52 _,Uc 10 53 _,Uc 11 54 _,Uc 12 55 _,Uc 13 56 _,Uc 14 57 _,Uc 15 58 _,Uc 16 59 _,Uc 17 60 _,Uc 18 61 _,Uc 19 62 _,Uc 20 63 _,Uc 21 64 _,Uc 22 65 _,Uc 23 66 _] (.k .z) (.au (.k .z)) ⟨mv,mv,ix,ld,mv,mv,bn,mv,ln,QM,ix,ld,mv,mv,ix,ld,mv,mv,bn,mv,ln,QM,ix,ld,oM [.i,.i],oM [.i,.i],oM [.i,.i],oM [.i,.i],ju,ju,ju,ju,trivial⟩ (.k (.s .o (.s .o (.s .o (.s .o .z))))) (.au (.d8 (.d8 (.d8 (.d .z))))) λa w hI=>?_
    refine xV hI [0,0,0,0,15,31,63,63,63,511,63,2047,4095,8191,16383,32767,32767,32767,262143,32767,1048575,2097151,4194303] [] [] [Uc 0 67 _,Uc 1 68 _,Uc 2 69 _,Uc 3 70 _,Uc 4 71 _,Uc 5 72 _,Uc 6 73 _,Uc 7 74 _,Uc 8 75 _,Uc 9 76 _,Uc 10 77 _,Uc 11 78 _,Uc 12 79 _,Uc 13 80 _,Uc 14 81 _,Uc 15 82 _,Uc 16 83 _,Uc 17 84 _,Uc 18 85 _,Uc 19 86 _,Uc 20 87 _,Uc 21 88 _,Uc 22 89 _] (.k (.k (.k (.k (.k .z))))) (.au .z) ⟨ld,ld,ld,ld,Qw Nw (hφ:=⟨Be _ (by omega),Be _ hx,Bf _ (by omega),Bf _ hy⟩),mv,gd λh=>dw h,gd λh=>dw h,gd λh=>dw h,gd λh=>oA h qo (hφ:=⟨Be _ (by omega),Be _ hx,Bf _ (by omega)⟩),gd λh=>dw h,gd λh=>OP h GO,gd λh=>lB h,pk,mv,gd λh=>dw h,gd λh=>dw h,gd λh=>dw h,gd λh=>oA h qo (hφ:=⟨Bf _ (by omega),Bf _ hy,Be _ (by omega)⟩),gd λh=>dw h,gd λh=>OP h GO,gd λh=>lB h,pk,trivial⟩ (.k (.d (.d (.d (.d .z))))) (.au (.d8 (.d8 (.bX (.nk .z))))) λa w hI=>?_
    refine tY hI (λt4=>?_) (λt4=>?_)
    ·
     refine bB hI 1 [] [] [Uc 0 6 _] (.k .z) (.au (.k .z)) ⟨mv,trivial⟩ (.k .z) (.au (.dk .z)) λa w hI=>?_
     refine aF ?_
     refine aN ?_
     refine aB ?_
     refine aB ?_
     refine aN ?_
     refine aN ?_
     refine aB ?_
     refine aB ?_
     refine aN ?_
     refine aB ?_
     exact bL hI rfl (fh (hq:=cT (by unfold lK F6; rw[hin,decide_eq_false λhall=>absurd (t4.symm.trans (hall k (by omega) i (by omega))) (by decide)]; rfl)))
    ·
     refine aG ?_
     refine bf ?_
     refine af ?_
     refine Ao hI 3 [] [] [Uc 0 41 _,Uc 1 42 _,Uc 2 9 _] (.k .z) (.cQ (.t 2 (.k .z))) ⟨mv,bn,mv,trivial⟩ (.k .z) (.eG (.eY .z)) λa w hI=>?_
     refine af ?_
     have hst:zw K L f k i:=t4
     exact wZ (i+1) ⟨by omega,λq hq=>if e:q=i then by rw[e]; exact hst else hi.2 q (by omega)⟩ hI ⟨vc,trivial⟩ ⟨gc,gc,gc,gc,trivial⟩ (by omega)
   ·
    refine cL ?_
    refine aM ?_
    refine aM ?_
    refine bp ?_
    refine bf ?_
    refine af ?_
    refine Ao hI 3 [] [] [Uc 0 35 _,Uc 1 36 _,Uc 2 8 _] (.k .z) (.kk (.t 2 (.kk .z))) ⟨mv,bn,mv,trivial⟩ (.k .z) (.eu (.eY .z)) λa w hI=>?_
    refine af ?_
    exact wZ (k+1) ⟨by omega,λq hq=>if e:q=k then by rw[e]; exactλj hj=>hi.2 j (by omega)else hk.2 q (by omega)⟩ hI ⟨vc,trivial⟩ ⟨gc,gc,gc,trivial⟩ (by omega)
  ·
   refine cL ?_
   refine aM ?_
   refine aM ?_
   refine bp ?_
   refine af ?_
   refine bB hI 1 [] [] [Uc 0 6 _] (.k .z) (.au .z) ⟨mv,trivial⟩ (.d .z) (.bX (.k .z)) λa w hI=>?_
   refine aF ?_
   exact bL hI rfl (fh (hq:=cT (by unfold lK F6; rw[hin,decide_eq_true λq hq=>hk.2 q (by omega)]; rfl)))
section
variable {K L:List Pt} {k l f:Int}{i:Nat}
theorem Oe (hi:i<2) (h0:∀q,q<i->ct (gb K L q) (if q=0 then k else l)=0) (h1:¬ct (gb K L i) (if i=0 then k else l)=0):cE K k L l f=ct (gb K L i) (if i=0 then k else l):=by
 match i,hi with
 |0,_=>unfold cE; exact if_pos h1
 |1,_=>
  have h2:ct K k=0:=h0 0 (by omega)
  unfold cE
  rw[if_neg λh=>h h2]
  exact if_pos h1
theorem Od (hi:i=2) (h0:∀q,q<i->ct (gb K L q) (if q=0 then k else l)=0):ct K k=0/\ct L l=0:=⟨h0 0 (by omega),h0 1 (by omega)⟩
theorem KB (h:ct K k=0/\ct L l=0) (t:(decide (f<1)||decide (f>2097152))=true):cE K k L l f=1:=by unfold cE; rw[if_neg λhh=>hh h.1,if_neg λhh=>hh h.2,if_pos t]
theorem KA (h:ct K k=0/\ct L l=0) (t:(decide (f<1)||decide (f>2097152))=false):cE K k L l f=0:=by unfold cE; rw[if_neg λhh=>hh h.1,if_neg λhh=>hh h.2,if_neg (by rw[t]; exact Bool.false_ne_true)]
theorem KC (h:ct K k=0/\ct L l=0) (t:(decide (f<1)||decide (f>2097152))=false):(0<K.length/\K.length<=1000)/\(0<L.length/\L.length<=1000)/\(∀q,q<K.length->bu 16777216 (aj K q))/\(∀q,q<L.length->bu 16777216 (aj L q)) /\ -4194304<=f/\f<=4194304:=by
 have h1:=iD (cN h.1)
 have h2:=iD (cN h.2)
 simp only[Bool.or_eq_false_iff,decide_eq_false_iff_not]at t
 exact⟨by omega,by omega,iY (cN h.1),iY (cN h.2),by omega,by omega⟩
theorem KD {e:Int} (h:cE K k L l f=e) (he:¬e=0):false=(decide (cE K k L l f=0)&&gV K L f):=by rw[h,decide_eq_false he]; rfl
theorem LP (h:cE K k L l f=0):gV K L f=(decide (cE K k L l f=0)&&gV K L f):=by rw[h]; rfl
end
theorem Jk {K L:List Pt} {k l f:Int} (h:K.length<=1000/\L.length<=1000):K3 Tryz.prog 18 (ko K k) (ko L l) (pI f) (fH (pB (decide (cE K k L l f=0)&&gV K L f)) (pI (cE K k L l f))):=by
 intro M w0 v0 v1 v2 hM hv0 fW hv2
 have hK:=h.1
 have hL:=h.2
 have hT:∀i,(gb K L i).length<=1000:=λi=>by unfold gb; split<;>omega
 refine xP (N:=37) Tryz.func18 rfl rfl rfl hM hv0 fW hv2 λa hI=>?_
 refine aZ hI 4 [Uc 0 3 _,Uc 1 4 _,Uc 2 6 _,Uc 3 7 _] (.cQ .z) ⟨xR 2 true (hf:=dn _ _),xR 2 true (hf:=dn _ _),mv,mv,trivial⟩ (.pX (.cQ .z)) λa w hI=>?_
 refine aq ?_
 refine aZ hI 5 [Uc 0 11 _,Uc 1 12 _,Uc 2 13 _,Uc 3 14 _,Uc 4 15 _] (.au (.k .z)) ⟨ld,ld,Oj (zv:=.agg #[.slice none 0 0,.int .i64 0]) 24 [.slice none 0 0,.int .i64 0] (λi=>ko (gb K L i) (if i=0 then k else l)) (dn K k) (dn L l),ln,mv,trivial⟩ (.au (.uy (.kk .z))) λa w hI=>?_
 refine aK ?_
 refine xN [] [Uz 2 _,Uz 3 _,Uz 4 _,Uz 13 _,Uz 14 _] (λ(i:Nat)=>[]) (λ(i:Nat)=>[Uz 15 (pI (i:Int))]) (λ(i:Nat)=>i<=2/\∀q,q<i->ct (gb K L q) (if q=0 then k else l)=0) (λ(i:Nat)=>2-i) (0) ⟨Nat.zero_le 2,λ_ h=>absurd h (Nat.not_lt_zero _)⟩ hI trivial ⟨gi,gi,gi,gi,gi,gc,trivial⟩ ?_
 intro i a w hi hI
 refine aZ hI 1 [Uc 0 16 _] (.au (.kk .z)) ⟨bn,trivial⟩ (.au (.cQ .z)) λa w hI=>?_
 refine aq ?_
 refine jK hI (λt1=>?_) (λt1=>?_)
 ·
  refine aG ?_
  refine af ?_
  refine aq ?_
  refine aK ?_
  refine bB hI 4 [⟨9,9,some 2,none,.ptr,24,2,true,pv _,[(3,pv _)]⟩] [] [Uc 0 17 _,Uc 1 18 _] .z (.au (.cQ .z)) ⟨ix,ld,oM [.n,.i],ju,trivial⟩ (.s .o .z) (.au (.eu (.d .z))) λa w hI=>?_
  refine bB hI 3 [] [] [Uc 0 19 _,Uc 1 20 _,Uc 2 10 _] (.k .z) (.au (.kk .z)) ⟨ld,um gE (hφ:=hT i),mv,trivial⟩ (.d .z) (.au (.eu (.k .z))) λa w hI=>?_
  refine aZ hI 2 [Uc 0 21 _,Uc 1 22 _] (.au (.cQ .z)) ⟨mv,bn,trivial⟩ (.au (.eG (.k .z))) λa w hI=>?_
  refine jK hI (λt2=>?_) (λt2=>?_)
  ·
   have he:=Oe (f:=f) (by omega) hi.2 t2
   refine aZ hI 3 [Uc 0 23 _,Uc 1 6 _,Uc 2 7 _] (.k8 .z) ⟨mv,mv,mv,trivial⟩ (.au (.eu (.NM .z))) λa w hI=>?_
   refine aF ?_
   refine aN ?_
   refine aB ?_
   refine aB ?_
   refine aN ?_
   refine aB ?_
   exact uq hI rfl (fh (hq:=cT (KD he t2))) (fh (hq:=dr he.symm))
  ·
   refine aG ?_
   refine bf ?_
   refine af ?_
   refine qR hI 2 [Uc 0 24 _,Uc 1 15 _] (.au (.k (.t 1 (.kk .z)))) ⟨bn,mv,trivial⟩ (.au (.fZ (.dk .z))) λa w hI=>?_
   refine af ?_
   have hst:ct (gb K L i) (if i=0 then k else l)=0:=Decidable.not_not.1 t2
   exact wZ (i+1) ⟨by omega,λq hq=>if e:q=i then by rw[e]; exact hst else hi.2 q (by omega)⟩ hI trivial ⟨gc,gc,gc,gc,gc,gc,trivial⟩ (by omega)
 ·
  have hd:=Od (by omega) hi.2
  refine cL ?_
  refine aM ?_
  refine aM ?_
  refine bp ?_
  refine af ?_
  refine aq ?_
  refine aZ hI 6 [Uc 0 25 _,Uc 1 26 _,Uc 2 27 _,Uc 3 28 _,Uc 4 29 _,Uc 5 30 _] (.au (.cQ .z)) ⟨mv,bn,mv,gd λh=>fQ h,gd λh=>lB h,pk,trivial⟩ (.eG (.d8 (.k .z))) λa w hI=>?_
  refine tY hI (λt3=>?_) (λt3=>?_)
  ·
   have he:=KB hd t3
   refine aZ hI 2 [Uc 0 6 _,Uc 1 7 _] (.au .z) ⟨mv,mv,trivial⟩ (.eG (.kk .z)) λa w hI=>?_
   refine aF ?_
   refine aB ?_
   exact uq hI rfl (fh (hq:=cT (KD he (by decide)))) (fh (hq:=dr he.symm))
  ·
   have he:=KA hd t3
   have hA:=KC hd t3
   refine aG ?_
   refine af ?_
   refine aZ hI 8 [Uc 0 31 _,Uc 1 32 _,Uc 2 33 _,Uc 3 34 _,Uc 4 35 _,Uc 5 36 _,Uc 6 6 _,Uc 7 7 _] (.au .z) ⟨fP 0 1 false,ld,fP 0 1 false,ld,mv,AL (Jl (K:=K) (L:=L)) (hφ:=hA),mv,mv,trivial⟩ (.d8 (.pX .z)) λa w hI=>?_
   refine aF ?_
   exact uq hI rfl (fh (hq:=cT (LP he))) (fh (hq:=dr he.symm))
end Wx
