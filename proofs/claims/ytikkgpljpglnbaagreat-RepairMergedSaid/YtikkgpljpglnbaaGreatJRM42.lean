import Derived.Test.YtikkgpljpglnbaaGreatCRMRangeN
import Derived.Test.YtikkgpljpglnbaaGreatJRM40
namespace Wx
set_option maxRecDepth 100000
set_option maxHeartbeats 1000000
open Go Go.RowKit Go.Proofs
set_option linter.unusedVariables false
attribute [local irreducible] OpOk
section
variable {P:Program} {ops:Array Oper} {ms:List Nat} {c:cM} {V:List Vr} {A:List Al} {G:List aV} {i d:Nat} {x y:Operand} {ty:TypeId} {pos:String} {aL:Array Edge}{φ:Prop}
theorem Fu (hc:φ) {ts:Array TypeId} {m n:Int} (h1:Has ms G i x (pI m):=by exact hg) (h2:Has ms G i y (pI n):=by exact hg) (hp:Post G i (pI (dh m n)):=by exact pg (by assumption) rfl):OpOk P ops ms c V A G i ⟨some d,.call ⟨.builtin .max,#[x,y],ts⟩,ty,pos,aL,none⟩:=wL h1 h2 hp
theorem Ds (hc:φ) {ts:Array TypeId} {m n:Int} (h1:Has ms G i x (pI m):=by exact hg) (h2:Has ms G i y (pI n):=by exact hg) (hp:Post G i (pI (jT m n)):=by exact pg (by assumption) rfl):OpOk P ops ms c V A G i ⟨some d,.call ⟨.builtin .min,#[x,y],ts⟩,ty,pos,aL,none⟩:=wN h1 h2 hp
theorem Te {ts:Array TypeId} {m n:Int} (h1:Has ms G i x (pI m):=by exact hs) (h2:Has ms G i y (pI n):=by exact hs) (hp:Post G i (pI (dh m n)):=by exact pt rfl):OpOk P ops ms c V A G i ⟨some d,.call ⟨.builtin .max,#[x,y],ts⟩,ty,pos,aL,none⟩:=wL h1 h2 hp
end
def ik (a b p:Pt):Int:=(b.1-a.1)*(p.1-a.1)+(b.2-a.2)*(p.2-a.2)
def lz (a b p:Pt) (f:Int):Bool:=if ik a b p<=0 then decide (uc a p<f*f)else if ik a b p>=uc a b then decide (uc b p<f*f)else !Ah a b p f
def zI (x:Int):Int:=dh (-1) (jT 1 x)
def Io (a b c d:Pt):Bool:=((decide (dh a.1 b.1>=jT c.1 d.1)&&decide (dh c.1 d.1>=jT a.1 b.1))&&decide (dh a.2 b.2>=jT c.2 d.2))&&decide (dh c.2 d.2>=jT a.2 b.2)
def jd (a b c d:Pt):Bool:=if(decide (zI (ai a b c)=0)&&decide (zI (ai a b d)=0))=true then Io a b c d else decide (zI (ai a b c)≠zI (ai a b d))&&decide (zI (ai c d a)≠zI (ai c d b))
variable {a b c d:Pt}
theorem Iw (t:(decide (zI (ai a b c)=0)&&decide (zI (ai a b d)=0))=true):Io a b c d=jd a b c d:=by unfold jd; rw[if_pos t]
theorem Iy (t:(decide (zI (ai a b c)=0)&&decide (zI (ai a b d)=0))=false):(decide (zI (ai a b c)≠zI (ai a b d))&&decide (zI (ai c d a)≠zI (ai c d b)))=jd a b c d:=by unfold jd; rw[if_neg (by rw[t]; exact Bool.false_ne_true)]
abbrev fI (K L:List Pt) (f:Int) (k i:Nat):Prop:=(jd (ae K k) (ae K (dS K.length k)) (ae L i) (ae L (dS L.length i))||lz (ae K k) (ae K (dS K.length k)) (ae L i) f||lz (ae L i) (ae L (dS L.length i)) (ae K k) f)=false
def yj (K L:List Pt) (f:Int):Bool:=decide (∀k,k<K.length->∀i,i<L.length->fI K L f k i)
def cH (K L:List Pt) (f:Int):Bool:=!(ua K (ae L 0)||ua L (ae K 0))&&yj K L f
def cU (K:List Pt) (k:Int) (L:List Pt) (l f:Int):Int:=if aR K k≠0 then aR K k else if aR L l≠0 then aR L l else if decide (f<1)||decide (f>2097152)then 1 else 0
variable {e g:Pt} {f:Int}
theorem FV {p:Pt} (h:bG 16777216 e/\bG 16777216 g/\bG 16777216 p /\ -4194304<=f/\f<=4194304):K4 Tryz.prog 49 (cT e) (cT g) (cT p) (pI f) (pB (lz e g p f)):=by
 intro M w0 v0 v1 v2 v3 hM hv0 iI hv2 hv3
 have hb2:=CZ h.1 h.2.1
 have hb3:=CZ h.1 h.2.2.1
 have hb4:=CZ h.2.1 h.2.2.1
 have h0:=h
 obtain⟨⟨a1,a2,a3,a4⟩,⟨b1,b2,b3,b4⟩,⟨p1,p2,p3,p4⟩,hf⟩:=h
 have m1:=iA 33554432 (p:=g.1-e.1) (q:=p.1-e.1) (by omega) (by omega) (by omega) (by omega)
 have m2:=iA 33554432 (p:=g.2-e.2) (q:=p.2-e.2) (by omega) (by omega) (by omega) (by omega)
 have m3:=iA 4194304 (p:=f) (q:=f) (by omega) (by omega) (by omega) (by omega)
 refine Nn (N:=62) Tryz.func49 rfl rfl rfl hM hv0 iI hv2 hv3 λa hI=>?_
 refine aW hI 4 [⟨4,4,some 0,none,.ptr,38,2,true,pv _,[]⟩,⟨5,5,some 1,none,.ptr,38,2,true,pv _,[]⟩,⟨6,6,some 2,none,.ptr,38,2,true,pv _,[]⟩] [] [Uc 3 8 _] .z (.aq .z) ⟨bo,bo,bo,mv,trivial⟩ (.k (.k (.k .z))) (.ew (.k .z)) λa w hI=>?_
 refine aW hI 24 [] [⟨some 0,10,5,0,True⟩,⟨some 2,12,4,0,True⟩,⟨some 5,15,6,0,True⟩,⟨some 7,17,4,0,True⟩,⟨some 11,21,5,1,True⟩,⟨some 13,23,4,1,True⟩,⟨some 16,26,6,1,True⟩,⟨some 18,28,4,1,True⟩] [Uc 1 11 _,Uc 3 13 _,Uc 4 14 _,Uc 6 16 _,Uc 8 18 _,Uc 9 19 _,Uc 10 20 _,Uc 12 22 _,Uc 14 24 _,Uc 15 25 _,Uc 17 27 _,Uc 19 29 _,Uc 20 30 _,Uc 21 31 _,Uc 22 32 _,Uc 23 9 _] (.k (.k (.k .z))) (.kk .z) ⟨fa,ld,fa,ld,bn,fa,ld,fa,ld,bn,bn,fa,ld,fa,ld,bn,fa,ld,fa,ld,bn,bn,bn,mv,trivial⟩ (.k (.k (.k .z))) (.dx (.d8 (.bL (.dk .z)))) λa w hI=>?_
 refine av ?_
 refine aD ?_
 refine aW hI 3 [] [] [Uc 0 34 _,Uc 1 35 _,Uc 2 33 _] (.k (.k (.k .z))) (.cQ .z) ⟨mv,bn,mv,trivial⟩ (.k (.k (.k .z))) (.dg (.dk .z)) λa w hI=>?_
 refine iK hI (λt1=>?_) (λt1=>?_)
 ·
  refine aW hI 8 [] [] [Uc 0 36 _,Uc 1 37 _,Uc 2 38 _,Uc 3 39 _,Uc 4 40 _,Uc 5 41 _,Uc 6 42 _,Uc 7 8 _] (.k (.k (.k .z))) (.k (.t 7 (.kk .z))) ⟨ld,ld,wj oo (hφ:=⟨h0.1,h0.2.2.1⟩),mv,mv,bn,bn,mv,trivial⟩ (.k (.k (.k .z))) (.fN (.bL (.ew .z))) λa w hI=>?_
  refine aJ ?_
  refine aO ?_
  refine aG ?_
  exact dB hI rfl (fK (hq:=cK (by unfold lz; rw[if_pos (show ik e g p<=0 from t1)])))
 ·
  refine aW hI 6 [] [] [Uc 0 44 _,Uc 1 45 _,Uc 2 46 _,Uc 3 47 _,Uc 4 48 _,Uc 5 43 _] (.k (.k (.k .z))) (.aq .z) ⟨mv,ld,ld,wj oo (hφ:=⟨h0.1,h0.2.1⟩),bn,mv,trivial⟩ (.k (.k (.k .z))) (.dx (.bL (.dk .z))) λa w hI=>?_
  refine iK hI (λt2=>?_) (λt2=>?_)
  ·
   refine aW hI 8 [] [] [Uc 0 49 _,Uc 1 50 _,Uc 2 51 _,Uc 3 52 _,Uc 4 53 _,Uc 5 54 _,Uc 6 55 _,Uc 7 8 _] (.k (.k (.k .z))) (.k (.t 7 (.k .z))) ⟨ld,ld,wj oo (hφ:=⟨h0.2.1,h0.2.2.1⟩),mv,mv,bn,bn,mv,trivial⟩ (.k (.k (.k .z))) (.fN (.bL (.lW .z))) λa w hI=>?_
   refine aJ ?_
   refine aO ?_
   refine aG ?_
   exact dB hI rfl (fK (hq:=cK (by unfold lz; rw[if_neg (show ¬ik e g p<=0 from t1),if_pos (show ik e g p>=uc e g from t2)])))
  ·
   refine aB ?_
   refine aQ ?_
   refine ah ?_
   refine aW hI 7 [] [] [Uc 0 56 _,Uc 1 57 _,Uc 2 58 _,Uc 3 59 _,Uc 4 60 _,Uc 5 61 _,Uc 6 8 _] (.k (.k (.k .z))) (.k (.t 6 (.k .z))) ⟨ld,ld,ld,mv,Rj yM (hφ:=h0),nt,mv,trivial⟩ (.d (.d (.d .z))) (.d8 (.dk .z)) λa w hI=>?_
   refine aJ ?_
   exact dB hI rfl (fK (hq:=cK (by unfold lz; rw[if_neg (show ¬ik e g p<=0 from t1),if_neg (show ¬ik e g p>=uc e g from t2)])))
theorem Cy {x:Int} (_:True):K1 Tryz.prog 68 (pI x) (pI (zI x)):=by
 intro M w0 v0 hM hv0
 refine uA (N:=6) Tryz.func68 rfl rfl rfl hM hv0 λa hI=>?_
 refine bH hI 1 [Uc 0 2 _] (.k .z) ⟨mv,trivial⟩ (.kk .z) λa w hI=>?_
 refine bH hI 4 [Uc 0 3 _,Uc 1 4 _,Uc 2 5 _,Uc 3 2 _] (.k (.t 3 .z)) ⟨mv,UM,Te,mv,trivial⟩ (.bL (.dk .z)) λa w hI=>?_
 refine aJ ?_
 exact dB hI rfl fK
theorem DJ {m q:Pt} (h:bG 16777216 e/\bG 16777216 g/\bG 16777216 m/\bG 16777216 q):K4 Tryz.prog 48 (cT e) (cT g) (cT m) (cT q) (pB (jd e g m q)):=by
 intro M w0 v0 v1 v2 v3 hM hv0 iI hv2 hv3
 refine Nn (N:=102) Tryz.func48 rfl rfl rfl hM hv0 iI hv2 hv3 λa hI=>?_
 refine aW hI 5 [⟨4,4,some 0,none,.ptr,38,2,true,pv _,[]⟩,⟨5,5,some 1,none,.ptr,38,2,true,pv _,[]⟩,⟨6,6,some 2,none,.ptr,38,2,true,pv _,[]⟩,⟨7,7,some 3,none,.ptr,38,2,true,pv _,[]⟩] [] [Uc 4 8 _] .z (.aq .z) ⟨bo,bo,bo,bo,mv,trivial⟩ (.k (.k (.k (.k .z)))) (.bL (.k .z)) λa w hI=>?_
 refine aW hI 1 [] [] [Uc 0 9 _] (.k (.k (.k (.k .z)))) (.k .z) ⟨mv,trivial⟩ (.k (.k (.k (.k .z)))) (.kk .z) λa w hI=>?_
 refine BP hI [0,0,0,0,14,31,0,0,0,0,959,2047,0,0,0,0,61439,131071,0,0,0,0,3932159,8388607,16777215,33554431,67108863,134217727] [] [] [Uc 0 14 _,Uc 1 15 _,Uc 2 16 _,Uc 3 17 _,Uc 4 18 _,Uc 5 19 _,Uc 6 20 _,Uc 7 21 _,Uc 8 22 _,Uc 9 23 _,Uc 10 24 _,Uc 11 25 _,Uc 12 26 _,Uc 13 27 _,Uc 14 28 _,Uc 15 29 _,Uc 16 30 _,Uc 17 31 _,Uc 18 32 _,Uc 19 33 _,Uc 20 34 _,Uc 21 35 _,Uc 22 36 _,Uc 23 37 _,Uc 24 10 _,Uc 25 11 _,Uc 26 12 _,Uc 27 13 _] (.k (.k (.k (.k .z)))) (.kk .z) ⟨mv,ld,ld,ld,xR jS (hφ:=⟨h.1,h.2.1,h.2.2.1⟩),Nw Cy,mv,ld,ld,ld,xR jS (hφ:=⟨h.1,h.2.1,h.2.2.2⟩),Nw Cy,mv,ld,ld,ld,xR jS (hφ:=⟨h.2.2.1,h.2.2.2,h.1⟩),Nw Cy,mv,ld,ld,ld,xR jS (hφ:=⟨h.2.2.1,h.2.2.2,h.2.1⟩),Nw Cy,mv,mv,mv,mv,trivial⟩ (.k (.k (.k (.k .z)))) (.fN (.d8 (.d8 (.bL (.jI (.kk .z)))))) λa w hI=>?_
 refine av ?_
 refine aW hI 6 [] [] [Uc 0 38 _,Uc 1 39 _,Uc 2 40 _,Uc 3 41 _,Uc 4 42 _,Uc 5 43 _] (.k (.k (.k (.k .z)))) (.aq (.k .z)) ⟨mv,bn,mv,gd λh=>gZ h,gd λh=>mA h,pk,trivial⟩ (.k (.k (.k (.k .z)))) (.aq (.fN (.lW .z))) λa w hI=>?_
 refine uz hI (λt1=>?_) (λt1=>?_)
 ·
  refine aW hI 51 [] [⟨some 0,44,4,0,True⟩,⟨some 2,46,5,0,True⟩,⟨some 5,49,6,0,True⟩,⟨some 7,51,7,0,True⟩,⟨some 12,56,6,0,_⟩,⟨some 14,58,7,0,_⟩,⟨some 17,61,4,0,_⟩,⟨some 19,63,5,0,_⟩,⟨some 25,69,4,1,_⟩,⟨some 27,71,5,1,_⟩,⟨some 30,74,6,1,_⟩,⟨some 32,76,7,1,_⟩,⟨some 38,82,6,1,_⟩,⟨some 40,84,7,1,_⟩,⟨some 43,87,4,1,_⟩,⟨some 45,89,5,1,_⟩] [Uc 1 45 _,Uc 3 47 _,Uc 4 48 _,Uc 6 50 _,Uc 8 52 _,Uc 9 53 _,Uc 10 54 _,Uc 11 55 _,Uc 13 57 _,Uc 15 59 _,Uc 16 60 _,Uc 18 62 _,Uc 20 64 _,Uc 21 65 _,Uc 22 66 _,Uc 23 67 _,Uc 24 68 _,Uc 26 70 _,Uc 28 72 _,Uc 29 73 _,Uc 31 75 _,Uc 33 77 _,Uc 34 78 _,Uc 35 79 _,Uc 36 80 _,Uc 37 81 _,Uc 39 83 _,Uc 41 85 _,Uc 42 86 _,Uc 44 88 _,Uc 46 90 _,Uc 47 91 _,Uc 48 92 _,Uc 49 93 _,Uc 50 8 _] (.k (.k (.k (.k .z)))) (.t 50 (.aq (.k .z))) ⟨fa,ld,fa,ld,Te,fa,ld,fa,ld,UM,bn,mv,gd λh=>mE h,gd λh=>dQ h,gd λh=>mE h,gd λh=>dQ h,gd λh=>Fu h,gd λh=>mE h,gd λh=>dQ h,gd λh=>mE h,gd λh=>dQ h,gd λh=>Ds h,gd λh=>mA h,pk,mv,gd λh=>mE h,gd λh=>dQ h,gd λh=>mE h,gd λh=>dQ h,gd λh=>Fu h,gd λh=>mE h,gd λh=>dQ h,gd λh=>mE h,gd λh=>dQ h,gd λh=>Ds h,gd λh=>mA h,pk,mv,gd λh=>mE h,gd λh=>dQ h,gd λh=>mE h,gd λh=>dQ h,gd λh=>Fu h,gd λh=>mE h,gd λh=>dQ h,gd λh=>mE h,gd λh=>dQ h,gd λh=>Ds h,gd λh=>mA h,pk,mv,trivial⟩ (.d (.d (.d (.d .z)))) (.qJ (.fN (.d8 (.d8 (.d8 (.d8 (.k .z))))))) λa w hI=>?_
  refine aJ ?_
  refine aG ?_
  exact dB hI rfl (fK (hq:=cK (Iw t1)))
 ·
  refine aB ?_
  refine ah ?_
  refine aW hI 9 [] [] [Uc 0 94 _,Uc 1 95 _,Uc 2 96 _,Uc 3 97 _,Uc 4 98 _,Uc 5 99 _,Uc 6 100 _,Uc 7 101 _,Uc 8 8 _] (.k (.k (.k (.k .z)))) (.t 8 (.aq (.k .z))) ⟨mv,mv,bn,mv,gd λh=>gZ h,gd λh=>gZ h,gd λh=>mA h,pk,mv,trivial⟩ (.d (.d (.d (.d .z)))) (.d8 (.bL (.lW .z))) λa w hI=>?_
  refine aJ ?_
  exact dB hI rfl (fK (hq:=cK (Iy t1)))
theorem IF {K L:List Pt} (h:(0<K.length/\K.length<=1000)/\(0<L.length/\L.length<=1000)/\(∀q,q<K.length->bG 16777216 (ae K q))/\(∀q,q<L.length->bG 16777216 (ae L q)) /\ -4194304<=f/\f<=4194304):K3 Tryz.prog 24 (fF K) (fF L) (pI f) (pB (cH K L f)):=by
 intro M w0 v0 v1 v2 hM hv0 iI hv2
 have hK:=h.1
 have hL:=h.2.1
 have Mm:=h.2.2.1
 have HE:=h.2.2.2.1
 have hf:=h.2.2.2.2
 refine Qf (N:=80) Tryz.func24 rfl rfl hM hv0 iI hv2 λa hI=>?_
 refine aW hI 4 [⟨6,6,some 3,none,.ptr,4,1,false,pv _,[]⟩] [] [Uc 0 3 _,Uc 1 4 _,Uc 2 5 _] .z (.cQ .z) ⟨rR 1 false,rR 1 false,rR 1 false,A7 .b,trivial⟩ (.k .z) (.ew (.kk .z)) λa w hI=>?_
 refine av ?_
 refine BP hI [0,0,2,6,15,31,63,63,191,447,1023,2047] [] [] [Uc 0 11 _,Uc 1 12 _,Uc 2 13 _,Uc 3 14 _,Uc 4 15 _,Uc 5 16 _,Uc 6 17 _,Uc 7 18 _,Uc 8 19 _,Uc 9 20 _,Uc 10 21 _,Uc 11 22 _] (.k .z) (.cQ .z) ⟨ld,ld,ix,ld,wj (lg (L:=K) (p:=ae L 0)) (hφ:=⟨hK.2,Mm,HE 0 hL.1⟩),mv,gd λh=>dQ h,gd λh=>dQ h,gd λh=>Ey h,gd λh=>dQ h,gd λh=>IG h (lg (L:=L) (p:=ae K 0)) (hφ:=⟨hL.2,HE,Mm 0 hK.1⟩),pk,trivial⟩ (.k .z) (.dg (.d8 (.lW .z))) λa w hI=>?_
 refine uz hI (λt1=>?_) (λt1=>?_)
 ·
  refine aW hI 1 [] [] [] (.u none [(0,pv _)] .z) (.aq .z) ⟨kI,trivial⟩ (.s .o .z) (.dg .z) λa w hI=>?_
  refine aJ ?_
  refine aG ?_
  exact Fm hI rfl (xj (hq:=cK (by unfold cH; rw[t1]; rfl)))
 ·
  have hin:(ua K (ae L 0)||ua L (ae K 0))=false:=t1
  refine aB ?_
  refine ah ?_
  refine av ?_
  refine aW hI 2 [] [] [Uc 0 23 _,Uc 1 24 _] (.k .z) (.aq .z) ⟨ld,qZ om,trivial⟩ (.k .z) (.dg (.dk .z)) λa w hI=>?_
  refine aD ?_
  refine pn (y0:=25) (y1:=26) (τ:=Unit) (λk t=>[Vz 6 6 4 1 false (iJ (∀q,q<k->∀i,i<L.length->fI K L f q i) iC)]) (λcd t=>[Vz 6 6 4 1 false (iJ (cd=.ret/\¬ ∀k,k<K.length->∀i,i<L.length->fI K L f k i) (pB false))]) [Uz 3 _,Uz 4 _,Uz 5 _,Uz 24 _] [3,4,5,6,24] () (hI.cv ⟨vC (λ_ _ _=>⟨λ_ h=>absurd h (Nat.not_lt_zero _),trivial⟩),trivial⟩ ⟨gc,gc,gc,gc,trivial⟩) rfl (λ_ _=>by kernel_rfl) (λ_ _=>by kernel_rfl) (by kernel_rfl) (by kernel_rfl) (by kernel_rfl) (λk t w0 M1 B1 a w D l r hk hr hI=>?_) (λt w D l r hI=>?_) (λcd t w D l r hI=>?_)
  ·
   dsimp only[List.append,List.map,HAppend.hAppend,Append.append,xo]at hI
   refine aW hI 2 [⟨7,7,some 0,none,.ptr,3,1,false,pv _,[(1,pv _)]⟩] [] [] (.k (.k .z)) (.k8 (.cQ .z)) ⟨A7 .i,kI,trivial⟩ (.k (.k (.s .o .z))) (.k8 (.cQ .z)) λa w hI=>?_
   refine tX hI 2 [⟨8,8,some 0,none,.ptr,3,1,false,pv _,[(1,pv _)]⟩] [] [] (.k (.k (.k .z))) (.k8 (.cQ .z)) ⟨A7 .i,kI,trivial⟩ (.k (.k (.k (.s .o .z)))) (.k8 (.cQ .z)) λa w hI=>?_
   refine ah ?_
   refine vY hI 1 hr (λw hI=>?_)
   dsimp only[List.set]at hI
   have hx:dS K.length k<K.length:=Nat.mod_lt _ (by omega)
   refine aD ?_
   refine aW hI 2 [] [] [Uc 0 27 _,Uc 1 28 _] (.k (.k (.k (.k .z)))) (.k8 (.cQ .z)) ⟨ld,qZ om,trivial⟩ (.k (.k (.k (.k .z)))) (.k8 (.dg (.k .z))) λa w hI=>?_
   refine aD ?_
   refine Ev (y0:=29) (y1:=30) (n0:=1) (τ:=Unit) (λk2 t2=>[Vz 6 6 4 1 false (iJ ((∀q,q<k->∀i,i<L.length->fI K L f q i)/\∀q,q<k2->fI K L f k q) iC),cN 80 80 (GA l D { r with state:=.busy }),Vz 7 7 3 1 false (pI (k:Int)),Vz 8 8 3 1 false (pI (dS K.length k:Int))]) (λcd t2=>[Vz 6 6 4 1 false (iJ (cd=.ret/\¬ ∀k,k<K.length->∀i,i<L.length->fI K L f k i) (pB false)),cN 80 80 (GA l D { r with state:=.busy })]) [Uz 26 _,Uz 25 _,Uz 3 _,Uz 4 _,Uz 5 _,Uz 24 _,Uz 3 _,Uz 4 _,Uz 5 _,Uz 6 _,Uz 24 _,Uz 28 _] [3,4,5,6,7,8,24,25,26,28] () (hI.cv ⟨vC (λ_ _ (h:iJ (∀q,q<k->∀i,i<L.length->fI K L f q i) iC _ _)=>⟨⟨h.1,λ_ h=>absurd h (Nat.not_lt_zero _)⟩,trivial⟩),vA,vc,vc,trivial⟩ ⟨gc,gc,gc,gc,gc,gc,gq 6,gq 7,gq 8,gq 9,gq 10,gc,trivial⟩) rfl rfl (λ_ _=>by kernel_rfl) (λ_ _=>by kernel_rfl) (by kernel_rfl) (by kernel_rfl) (by kernel_rfl) (λk2 t2 w02 M2 B2 a w l2 r2 hk2 hr2 hI=>?_) (λt2 w l2 r2 hI=>?_) (λcd t2 w l2 r2 hI=>?_)
   ·
    dsimp only[List.append,List.map,HAppend.hAppend,Append.append,xo]at hI
    refine aW hI 1 [] [] [Uc 0 9 _] (.k (.k (.k (.k (.k .z))))) (.k8 (.k8 (.k8 .z))) ⟨mv,trivial⟩ (.k (.k (.k (.k (.k .z))))) (.k8 (.k8 (.k8 (.k .z)))) λa w hI=>?_
    refine tX hI 1 [] [] [Uc 0 10 _] (.k (.k (.k (.k (.k .z))))) (.k8 (.k8 (.k8 (.k .z)))) ⟨mv,trivial⟩ (.k (.k (.k (.k (.k .z))))) (.k8 (.k8 (.k8 (.kk .z)))) λa w hI=>?_
    refine ah ?_
    refine Ly hI 4 hr2 (λw hI=>?_)
    dsimp only[List.set]at hI
    have hy:dS L.length k2<L.length:=Nat.mod_lt _ (by omega)
    refine aD ?_
    refine BP hI [0,0,3,7,0,0,48,112,0,0,768,1792,0,0,12288,28672,65535,131071,262143,262143,1048575,2097151,262143,262143,12845055,29622271,262143,262143,201588735,470024191,262143,2147483647,4294967295,8589934591,17179869183,17179869183,68719476735,137438953471,17179869183,17179869183,841813590015,1941325217791,17179869183,17179869183,13211319402495,30803505446911,17179869183,140737488355327,281474976710655] [] [] [Uc 0 31 _,Uc 1 32 _,Uc 2 33 _,Uc 3 34 _,Uc 4 35 _,Uc 5 36 _,Uc 6 37 _,Uc 7 38 _,Uc 8 39 _,Uc 9 40 _,Uc 10 41 _,Uc 11 42 _,Uc 12 43 _,Uc 13 44 _,Uc 14 45 _,Uc 15 46 _,Uc 16 47 _,Uc 17 48 _,Uc 18 49 _,Uc 19 50 _,Uc 20 51 _,Uc 21 52 _,Uc 22 53 _,Uc 23 54 _,Uc 24 55 _,Uc 25 56 _,Uc 26 57 _,Uc 27 58 _,Uc 28 59 _,Uc 29 60 _,Uc 30 61 _,Uc 31 62 _,Uc 32 63 _,Uc 33 64 _,Uc 34 65 _,Uc 35 66 _,Uc 36 67 _,Uc 37 68 _,Uc 38 69 _,Uc 39 70 _,Uc 40 71 _,Uc 41 72 _,Uc 42 73 _,Uc 43 74 _,Uc 44 75 _,Uc 45 76 _,Uc 46 77 _,Uc 47 78 _,Uc 48 79 _] (.k (.k (.k (.k (.k .z))))) (.k8 (.k8 (.k8 (.kk .z)))) ⟨ld,ld,ix,ld,ld,ld,ix,ld,ld,mv,ix,ld,ld,mv,ix,ld,Rj DJ (hφ:=⟨Mm _ (by omega),Mm _ hx,HE _ (by omega),HE _ hy⟩),mv,gd λh=>dQ h,gd λh=>dQ h,gd λh=>Ey h,gd λh=>dQ h,gd λh=>dQ h,gd λh=>dQ h,gd λh=>Ey h,gd λh=>dQ h,gd λh=>dQ h,gd λh=>gZ h,gd λh=>Ey h,gd λh=>dQ h,gd λh=>dQ h,gd λh=>LW h FV (hφ:=⟨Mm _ (by omega),Mm _ hx,HE _ (by omega),hf⟩),pk,mv,gd λh=>dQ h,gd λh=>gZ h,gd λh=>Ey h,gd λh=>dQ h,gd λh=>dQ h,gd λh=>gZ h,gd λh=>Ey h,gd λh=>dQ h,gd λh=>dQ h,gd λh=>dQ h,gd λh=>Ey h,gd λh=>dQ h,gd λh=>dQ h,gd λh=>LW h FV (hφ:=⟨HE _ (by omega),HE _ hy,Mm _ (by omega),hf⟩),pk,trivial⟩ (.k (.k (.k (.k (.k .z))))) (.k8 (.k8 (.k8 (.dx (.d8 (.d8 (.d8 (.d8 (.d8 (.bL (.lW .z))))))))))) λa w hI=>?_
    refine uz hI (λt2=>?_) (λt2=>?_)
    ·
     refine aW hI 1 [] [] [] (.u none [(0,pv _)] (.k (.k (.k (.k .z))))) (.k8 (.k8 (.k8 (.cQ .z)))) ⟨kI,trivial⟩ (.s .o (.k (.k (.k (.k .z))))) (.k8 (.k8 (.k8 (.UJ .z)))) λa w hI=>?_
     refine aJ ?_
     refine aO ?_
     have hno:¬ ∀k,k<K.length->∀i,i<L.length->fI K L f k i:=λhall=>absurd (t2.symm.trans (hall k hk k2 hk2)) (by decide)
     exact⟨(),hI.cv ⟨vC (λ_ _ h=>⟨⟨rfl,hno⟩,h⟩),vA,vA,trivial⟩ ⟨gc,gc,gc,gc,gc,gc,gq 8,gq 9,gq 10,gq 11,gq 12,gc,gq 14,gq 15,gq 16,gq 17,gq 18,gq 19,gq 20,gq 21,gq 22,gq 23,trivial⟩⟩
    ·
     refine aB ?_
     refine aQ ?_
     have hst:fI K L f k k2:=t2
     exact⟨(),hI.cv ⟨vC (λ_ _ (h:iJ ((∀q,q<k->∀i,i<L.length->fI K L f q i)/\∀q,q<k2->fI K L f k q) iC _ _)=>⟨⟨h.1.1,λq hq=>if e:q=k2 then by rw[e]; exact hst else h.1.2 q (by omega)⟩,trivial⟩),vA,vc,vc,vA,trivial⟩ ⟨gc,gc,gc,gc,gc,gc,gq 8,gq 9,gq 10,gq 11,gq 12,gc,gq 14,gq 15,gq 16,gq 17,gq 18,gq 19,gq 20,gq 21,gq 22,gq 23,trivial⟩⟩
   ·
    dsimp only[List.append,HAppend.hAppend,Append.append]at hI
    refine aQ ?_
    refine aQ ?_
    exact⟨(),hI.cv ⟨vC (λ_ _ (h:iJ ((∀q,q<k->∀i,i<L.length->fI K L f q i)/\∀q,q<L.length->fI K L f k q) iC _ _)=>⟨λq hq=>if e:q=k then by rw[e]; exact h.1.2 else h.1.1 q (by omega),trivial⟩),vA,trivial⟩ ⟨gc,gc,gc,gc,gq 6,gq 7,gq 8,gq 9,gq 10,trivial⟩⟩
   ·
    dsimp only[List.append,HAppend.hAppend,Append.append]at hI
    obtain⟨rfl,hno⟩:=fl hI 0 rfl
    refine aJ ?_
    refine aO ?_
    refine aO ?_
    exact⟨(),hI.cv ⟨vc,vA,trivial⟩ ⟨gc,gc,gc,gc,gq 6,gq 7,gq 8,gq 9,gq 10,trivial⟩⟩
  ·
   dsimp only[List.append,HAppend.hAppend,Append.append]at hI
   have hall:=fl hI 0 rfl
   refine aQ ?_
   refine ah ?_
   refine ja ?_
   refine aW hI 1 [] [] [] (.u none [(0,pv _)] (.k .z)) (.aq .z) ⟨kI,trivial⟩ (.s .o (.k .z)) (.bL .z) λa w hI=>?_
   refine aJ ?_
   exact qo hI 1 rfl (xj (hq:=cK (by unfold cH yj; rw[hin,decide_eq_true hall]; rfl)))
  ·
   dsimp only[List.append,HAppend.hAppend,Append.append]at hI
   obtain⟨rfl,hno⟩:=fl hI 0 rfl
   refine ja ?_
   refine aJ ?_
   refine aO ?_
   refine aG ?_
   exact qo hI 1 rfl (xj (hq:=λw v (h:iJ _ (pB false) w v)=>cK (by unfold cH yj; rw[hin,decide_eq_false hno]; rfl) w v h.2))
end Wx

namespace Wx
open Go Go.RowKit Go.Proofs
set_option linter.unusedVariables false
attribute [local irreducible] OpOk
section
variable {n:Nat} {ms:Nat->List Rat}
end
end Wx

namespace Wx
set_option maxRecDepth 100000
set_option maxHeartbeats 1000000
open Go Go.RowKit Go.Proofs
set_option linter.unusedVariables false
attribute [local irreducible] OpOk
def CE (a b p:Pt):Rat:=if ik a b p<=0 then((uc a p:Int):Rat)else if ik a b p>=uc a b then((uc b p:Int):Rat)else(((ai a b p:Int):Rat)*((ai a b p:Int):Rat))/((uc a b:Int):Rat)
section
variable {K L:List Pt} {k l f:Int}{i:Nat}
theorem N8 (hi:i<2) (h0:∀q,q<i->aR (dz K L q) (if q=0 then k else l)=0) (h1:¬aR (dz K L i) (if i=0 then k else l)=0):cU K k L l f=aR (dz K L i) (if i=0 then k else l):=by
 match i,hi with
 |0,_=>unfold cU; exact if_pos h1
 |1,_=>
  have h2:aR K k=0:=h0 0 (by omega)
  unfold cU
  rw[if_neg λh=>h h2]
  exact if_pos h1
theorem N7 (hi:i=2) (h0:∀q,q<i->aR (dz K L q) (if q=0 then k else l)=0):aR K k=0/\aR L l=0:=⟨h0 0 (by omega),h0 1 (by omega)⟩
theorem N6 (h:aR K k=0/\aR L l=0) (t:(decide (f<1)||decide (f>2097152))=true):cU K k L l f=1:=by unfold cU; rw[if_neg λhh=>hh h.1,if_neg λhh=>hh h.2,if_pos t]
theorem N5 (h:aR K k=0/\aR L l=0) (t:(decide (f<1)||decide (f>2097152))=false):cU K k L l f=0:=by unfold cU; rw[if_neg λhh=>hh h.1,if_neg λhh=>hh h.2,if_neg (by rw[t]; exact Bool.false_ne_true)]
theorem N9 (h:aR K k=0/\aR L l=0) (t:(decide (f<1)||decide (f>2097152))=false):(0<K.length/\K.length<=1000)/\(0<L.length/\L.length<=1000)/\(∀q,q<K.length->bG 16777216 (ae K q))/\(∀q,q<L.length->bG 16777216 (ae L q)) /\ -4194304<=f/\f<=4194304:=by
 have h1:=cA (aP h.1)
 have h2:=cA (aP h.2)
 simp only[Bool.or_eq_false_iff,decide_eq_false_iff_not]at t
 exact⟨by omega,by omega,di (aP h.1),di (aP h.2),by omega,by omega⟩
theorem Ke {e:Int} (h:cU K k L l f=e) (he:¬e=0):false=(decide (cU K k L l f=0)&&cH K L f):=by rw[h,decide_eq_false he]; rfl
theorem Lv (h:cU K k L l f=0):cH K L f=(decide (cU K k L l f=0)&&cH K L f):=by rw[h]; rfl
end
theorem wA {K L:List Pt} {k l f:Int} (h:K.length<=1000/\L.length<=1000):K3 Tryz.prog 13 (fE K k) (fE L l) (pI f) (fJ (pB (decide (cU K k L l f=0)&&cH K L f)) (pI (cU K k L l f))):=by
 intro M w0 v0 v1 v2 hM hv0 iI hv2
 have hK:=h.1
 have hL:=h.2
 have hT:∀i,(dz K L i).length<=1000:=λi=>by unfold dz; split<;>omega
 refine Ho (N:=37) Tryz.func13 rfl rfl rfl hM hv0 iI hv2 λa hI=>?_
 refine bH hI 4 [Uc 0 3 _,Uc 1 4 _,Uc 2 6 _,Uc 3 7 _] (.cQ .z) ⟨rR 2 true (hf:=bz _ _),rR 2 true (hf:=bz _ _),mv,mv,trivial⟩ (.jI (.cQ .z)) λa w hI=>?_
 refine av ?_
 refine bH hI 5 [Uc 0 11 _,Uc 1 12 _,Uc 2 13 _,Uc 3 14 _,Uc 4 15 _] (.aq (.k .z)) ⟨ld,ld,Lz (zv:=.agg #[.slice none 0 0,.int .i64 0]) 24 [.slice none 0 0,.int .i64 0] (λi=>fE (dz K L i) (if i=0 then k else l)) (bz K k) (bz L l),ln,mv,trivial⟩ (.aq (.wI (.kk .z))) λa w hI=>?_
 refine aD ?_
 refine vL [] [Uz 2 _,Uz 3 _,Uz 4 _,Uz 13 _,Uz 14 _] (λ(i:Nat)=>[]) (λ(i:Nat)=>[Uz 15 (pI (i:Int))]) (λ(i:Nat)=>i<=2/\∀q,q<i->aR (dz K L q) (if q=0 then k else l)=0) (λ(i:Nat)=>2-i) (0) ⟨Nat.zero_le 2,λ_ h=>absurd h (Nat.not_lt_zero _)⟩ hI trivial ⟨gi,gi,gi,gi,gi,gc,trivial⟩ ?_
 intro i a w hi hI
 refine bH hI 1 [Uc 0 16 _] (.aq (.kk .z)) ⟨bn,trivial⟩ (.aq (.cQ .z)) λa w hI=>?_
 refine av ?_
 refine iK hI (λt1=>?_) (λt1=>?_)
 ·
  refine aB ?_
  refine ah ?_
  refine av ?_
  refine aD ?_
  refine aW hI 4 [⟨9,9,some 2,none,.ptr,24,2,true,pv _,[(3,pv _)]⟩] [] [Uc 0 17 _,Uc 1 18 _] .z (.aq (.cQ .z)) ⟨ix,ld,pY [.n,.i],kI,trivial⟩ (.s .o .z) (.aq (.dx (.d .z))) λa w hI=>?_
  refine aW hI 3 [] [] [Uc 0 19 _,Uc 1 20 _,Uc 2 10 _] (.k .z) (.aq (.kk .z)) ⟨ld,qZ ct (hφ:=hT i),mv,trivial⟩ (.d .z) (.aq (.dx (.k .z))) λa w hI=>?_
  refine bH hI 2 [Uc 0 21 _,Uc 1 22 _] (.aq (.cQ .z)) ⟨mv,bn,trivial⟩ (.aq (.dg (.k .z))) λa w hI=>?_
  refine iK hI (λt2=>?_) (λt2=>?_)
  ·
   have he:=N8 (f:=f) (by omega) hi.2 t2
   refine bH hI 3 [Uc 0 23 _,Uc 1 6 _,Uc 2 7 _] (.k8 .z) ⟨mv,mv,mv,trivial⟩ (.aq (.dx (.Dn .z))) λa w hI=>?_
   refine aJ ?_
   refine aO ?_
   refine aG ?_
   refine aG ?_
   refine aO ?_
   refine aG ?_
   exact kT hI rfl (fK (hq:=cK (Ke he t2))) (fK (hq:=cG he.symm))
  ·
   refine aB ?_
   refine aQ ?_
   refine ah ?_
   refine BQ hI 2 [Uc 0 24 _,Uc 1 15 _] (.aq (.k (.t 1 (.kk .z)))) ⟨bn,mv,trivial⟩ (.aq (.fN (.dk .z))) λa w hI=>?_
   refine ah ?_
   have hst:aR (dz K L i) (if i=0 then k else l)=0:=Decidable.not_not.1 t2
   exact uq (i+1) ⟨by omega,λq hq=>if e:q=i then by rw[e]; exact hst else hi.2 q (by omega)⟩ hI trivial ⟨gc,gc,gc,gc,gc,gc,trivial⟩ (by omega)
 ·
  have hd:=N7 (by omega) hi.2
  refine cj ?_
  refine aH ?_
  refine aH ?_
  refine aY ?_
  refine ah ?_
  refine av ?_
  refine bH hI 6 [Uc 0 25 _,Uc 1 26 _,Uc 2 27 _,Uc 3 28 _,Uc 4 29 _,Uc 5 30 _] (.aq (.cQ .z)) ⟨mv,bn,mv,gd λh=>gZ h,gd λh=>mA h,pk,trivial⟩ (.dg (.d8 (.k .z))) λa w hI=>?_
  refine uz hI (λt3=>?_) (λt3=>?_)
  ·
   have he:=N6 hd t3
   refine bH hI 2 [Uc 0 6 _,Uc 1 7 _] (.aq .z) ⟨mv,mv,trivial⟩ (.dg (.kk .z)) λa w hI=>?_
   refine aJ ?_
   refine aG ?_
   exact kT hI rfl (fK (hq:=cK (Ke he (by decide)))) (fK (hq:=cG he.symm))
  ·
   have he:=N5 hd t3
   have hA:=N9 hd t3
   refine aB ?_
   refine ah ?_
   refine bH hI 8 [Uc 0 31 _,Uc 1 32 _,Uc 2 33 _,Uc 3 34 _,Uc 4 35 _,Uc 5 36 _,Uc 6 6 _,Uc 7 7 _] (.aq .z) ⟨fP 0 1 false,ld,fP 0 1 false,ld,mv,xR (IF (K:=K) (L:=L)) (hφ:=hA),mv,mv,trivial⟩ (.d8 (.jI .z)) λa w hI=>?_
   refine aJ ?_
   exact kT hI rfl (fK (hq:=cK (Lv he))) (fK (hq:=cG he.symm))
end Wx

namespace Wx
open Go Go.RowKit Go.Proofs
set_option linter.unusedVariables false
section
theorem kO {u v:Rat}:mP u v<0↔u<v:=by
 unfold mP
 by_cases h:u<v
 ·rw[if_pos h]; exact⟨λ_=>h,λ_=>by decide⟩
 ·rw[if_neg h]
  by_cases e:u=v
  ·rw[if_pos e]; exact⟨λhh=>absurd hh (by decide),λhh=>absurd hh h⟩
  ·rw[if_neg e]; exact⟨λhh=>absurd hh (by decide),λhh=>absurd hh h⟩
theorem zL (s t:Nat->Int):∀n,(∀k,k<n+1->0<s k)->∃k,k<n+1/\∀j,j<n+1->t j*s k<=t k*s j
 |0,_=>⟨0,by omega,λj hj=>(show j=0 by omega)▸Int.le_refl _⟩
 |n+1,h=>by
  obtain⟨k,hk,hm⟩:=zL s t n λk hk=>h k (by omega)
  by_cases e:t (n+1)*s k<=t k*s (n+1)
  ·refine⟨k,by omega,λj hj=>?_⟩
   by_cases c:j=n+1
   ·rw[c]; exact e
   ·exact hm j (by omega)
  ·refine⟨n+1,by omega,λj hj=>?_⟩
   by_cases c:j=n+1
   ·rw[c]; exact Int.le_refl _
   have h1:=hm j (by omega)
   have h2:t k*s (n+1)<=t (n+1)*s k:=by omega
   have p1:=h k (by omega)
   have p2:=h j (by omega)
   have p3:=h (n+1) (by omega)
   refine Int.le_of_mul_le_mul_right (a:=s k) ?_ p1
   calc t j*s (n+1)*s k=t j*s k*s (n+1):=by rw[Int.mul_assoc,Int.mul_comm (s (n+1)),<-Int.mul_assoc]
    _<=t k*s j*s (n+1):=Int.mul_le_mul_of_nonneg_right h1 (by omega)
    _=t k*s (n+1)*s j:=by rw[Int.mul_assoc,Int.mul_comm (s j),<-Int.mul_assoc]
    _<=t (n+1)*s k*s j:=Int.mul_le_mul_of_nonneg_right h2 (by omega)
    _=t (n+1)*s j*s k:=by rw[Int.mul_assoc,Int.mul_comm (s k),<-Int.mul_assoc]
variable {n k:Nat}
theorem Bb (h:0<n):dS n k<n:=Nat.mod_lt _ h
theorem Bc (h:2<n) (hk:k<n):dS n k≠k/\dS n (dS n k)≠k/\dS n (dS n k)≠dS n k:=by
 have e:∀j,j<n->dS n j=if j+1=n then 0 else j+1:=λj hj=>by
  unfold dS
  by_cases c:j+1=n
  ·rw[if_pos c,c,Nat.mod_self]
  ·rw[if_neg c,Nat.mod_eq_of_lt (by omega)]
 have h1:=e k hk
 have h2:=e (dS n k) (Bb (by omega))
 by_cases c:k+1=n
 ·rw[if_pos c]at h1; rw[h1]at h2 ⊢; rw[if_neg (by omega)]at h2; omega
 ·rw[if_neg c]at h1; rw[h1]at h2 ⊢
  by_cases c2:k+1+1=n
  ·rw[if_pos c2]at h2; omega
  ·rw[if_neg c2]at h2; omega
theorem bY {L:List Pt} (h:bJ L=0):2<L.length/\(∀k,k<L.length -> -1048576<=(ae L k).1/\(ae L k).1<=1048576 /\ -1048576<=(ae L k).2/\(ae L k).2<=1048576)/\∀k,k<L.length->kS L k:=by
 unfold bJ at h
 by_cases h1:sQ L=true
 ·rw[if_pos h1]at h; exact absurd h (by decide)
 rw[if_neg h1]at h
 by_cases h2:AA L>=0
 ·rw[if_pos h2]at h; exact absurd h (by decide)
 rw[if_neg h2]at h
 by_cases h3:∀k,k<L.length->kS L k
 ·refine⟨?_,λk hk=>?_,h3⟩
  ·unfold sQ at h1
   simp only[Bool.or_eq_true,decide_eq_true_eq]at h1
   omega
  ·have:=nZ h2 k hk
   unfold yl Dp at this
   simp only[Bool.or_eq_false_iff,decide_eq_false_iff_not]at this
   omega
 ·rw[if_neg h3]at h; exact absurd h (by decide)
end
end Wx
