import Derived.Test.YtikkgpljpglnbaaGreatJRM46
import Derived.Test.YtikkgpljpglnbaaGreatJRM47
namespace Wx
set_option maxRecDepth 100000
open Go Go.RowKit Go.Proofs
set_option linter.unusedVariables false
attribute [local irreducible] OpOk
section
variable {P:Program} {ops:Array Oper} {ms:List Nat} {c:cM} {V:List Vr} {A:List Al} {G:List aV} {i d:Nat} {x y z u:Operand} {ty:TypeId} {pos:String} {aL:Array Edge}
theorem ER {xt:TypeId} {k:IntKind} {a b:Int} (h:b≠0) (w:World):(Go.binOp .quo xt (.int k a) (.int k b)).run P w=.ok (.int k (k.wrap (a.tdiv b))) w:=by
 have e:Go.binOp .quo xt (.int k a) (.int k b)=Op.intDiv .quo k a b:=by
  show(if k≠k then _ else _)=_
  rw[if_neg (by simp)]
 rw[e]
 unfold Op.intDiv
 rw[if_neg h]
 rfl
variable {t s:TypeId} {m n:Int}
theorem UT (h1:Has ms G i x (pI m):=by exact hs) (h2:Has ms G i y (pI n):=by exact hs) (hp:Post G i (pI (m.tdiv n)):=by exact pt rfl) (hr:(-9223372036854775808<m/\m<=9223372036854775807)/\n≠0:=by omega):OpOk P ops ms c V A G i ⟨some d,.binOp .quo t x y s,ty,pos,aL,none⟩:=
 fu h1 h2 (v:=.int .i64 (m.tdiv n)) (λw=>by
  have h:(m.tdiv n).natAbs<=m.natAbs:=by rw[Int.natAbs_tdiv]; exact Nat.div_le_self _ _
  rw[ER hr.2,IntWalk.i64_in _ (by omega)]) hp
theorem W9 (h1:Has ms G i x (pI m):=by exact hs) (h2:Has ms G i y (pI n):=by exact hs) (hp:Post G i (pI (m.tmod n)):=by exact pt rfl) (hr:n≠0:=by decide):OpOk P ops ms c V A G i ⟨some d,.binOp .rem t x y s,ty,pos,aL,none⟩:=
 fu h1 h2 (v:=.int .i64 (m.tmod n)) (B4 hr) hp
theorem RE {φ:Prop} (h:φ) {t s:TypeId} {m n:Int} (h1:Has ms G i x (pI m):=by exact hg) (h2:Has ms G i y (pI n):=by exact hg) (hp:Post G i (pI (m.tmod n)):=by exact pg (by assumption) rfl) (hr:n≠0:=by decide):OpOk P ops ms c V A G i ⟨some d,.binOp .rem t x y s,ty,pos,aL,none⟩:=
 fu h1 h2 (v:=.int .i64 (m.tmod n)) (B4 hr) hp
theorem Om {S D:TypeId} (h:Has ms G i x (bp (.int .u8 m)):=by exact hs) (hm:0<=m/\m<=255:=by omega) (hr:∀w,(Go.convert S D (.int .u8 m)).run P w=.ok (.int .i64 (IntKind.i64.wrap m)) w:=by exactλ_=>by kernel_rfl) (hp:Post G i (pI m):=by exact pt rfl):OpOk P ops ms c V A G i ⟨some d,.convert S D x,ty,pos,aL,none⟩:=
 Jx h hr (hp.down (JD (by omega)))
end
theorem oa {p:Pt} (h:nF p):bG 4611686018427387904 p:=by
 unfold nF at h
 unfold bG
 omega
abbrev UQ (s t:Int):Pred:=pS [⟨false,1,bp (.int .u8 s)⟩,⟨false,1,bp (.int .u8 t)⟩]
theorem IE (s t:Int):Fits 2 true (UQ s t):=pL (fs:=[⟨false,1,bp (.int .u8 s)⟩,⟨false,1,bp (.int .u8 t)⟩]) ⟨jO (Gh _) rfl rfl,jO (Gh _) rfl rfl,trivial⟩ rfl
section
variable {K L:List Pt} {k l f g:Int}
theorem KN (h:(!(Gi K)||!(Gi L))=false):K.length<=13/\L.length<=13:=by
 simp only[Bool.or_eq_false_iff,Bool.not_eq_false']at h
 exact⟨rA h.1,rA h.2⟩
theorem MC {b:Bool} (h:((!(Gi K)||!(Gi L))||b)=false):K.length<=13/\L.length<=13:=KN (Bool.or_eq_false_iff.1 h).1
theorem S7 (h1:aR K k=0) (h2:aR L l=0) (t:((decide (bN K L k l≠bN L K l k)||decide (nh K L k l≠nh L K l k))||!(decide (js K L k l=js L K l k)))=true):False:=by
 rw[pW h1 h2,DS h1 h2,DT h1 h2]at t
 simp at t
variable {i:Nat}
theorem S8 (h:bN K L k l=0) (hi:i<(K++L).length) (t:(decide (aR (js K L k l) (nh K L k l)≠0)||!(mV (js K L k l) (nh K L k l) (ae (K++L) i)))=true):False:=by
 rw[CB h,MG h hi]at t
 simp at t
theorem pE (h1:aR K k=0) (h2:aR L l=0) (hf:1<=f/\f<=2000):cU K k L l f=0:=by
 unfold cU
 rw[if_neg (λg=>g h1),if_neg (λg=>g h2),if_neg]
 simp only[Bool.or_eq_true,decide_eq_true_eq]
 omega
theorem wZ (h1:aR K k=0) (h2:bJ L=0) (hf:1<=f/\f<=2000):iF K k L f=0:=by
 unfold iF
 rw[if_neg (λg=>g h1),if_neg (λg=>g h2),if_neg]
 simp only[Bool.or_eq_true,decide_eq_true_eq]
 omega
theorem S9 (h1:aR K k=0) (h2:aR L l=0) (hf:1<=f/\f<=2000) (hg:1<=g/\g<=f) (t:((decide ((0:Int)≠0)||((decide (cU K k L l f=0)&&cH K L f) != (decide (cU L l K k f=0)&&cH L K f)))||((decide (cU K k L l f=0)&&cH K L f)&&!(decide (cU K k L l g=0)&&cH K L g)))=true):False:=by
 have hK:=aP h1
 have hL:=aP h2
 have e:=Af (f:=f) hK hL
 rw[pE h1 h2 hf,pE h2 h1 hf,pE h1 h2 (f:=g) (by omega)]at t
 by_cases h:cH K L f=true
 ·have h3:=Ag hK hL (by omega) hg.2 h
  rw[<-e,h,h3]at t
  simp at t
 ·rw[Bool.not_eq_true]at h
  rw[<-e,h]at t
  simp at t
theorem Ta (h1:aR K k=0) (h2:aR L l=0) (hi:i<L.length) (t:(decide (aR K k≠0)||((decide (cU K k L l f=0)&&cH K L f)&&mV K k (ae L i)))=true):False:=by
 rw[h1]at t
 simp only[ne_eq,not_true_eq_false,decide_false,Bool.false_or,Bool.and_eq_true]at t
 have h:=Dd (aP h1) (aP h2) t.1.2 i hi
 have h4:=t.2
 unfold mV at h4
 rw[h,Bool.and_false]at h4
 exact absurd h4 (by decide)
theorem Ru {u v wh S0 ins:Bool} (hu:u=true->v=true) (h2:wh=true->S0=true) (h3:wh=true->u=true->ins=true):(((decide ((0:Int)=0)&&(!u||v))&&(!wh||(S0&&(!u||ins))))&&true)=true:=by
 revert hu h2 h3
 cases u<;>cases v<;>cases wh<;>cases S0<;>cases ins<;>simp
theorem Tb {q1 q2:Nat} (h1:aR K k=0) (h2:aR L l=0) (hf:1<=f/\f<=2000) (hg:1<=g/\g<=f) (a1:q1<K.length) (a2:q2<K.length):
  (((decide ((0:Int)=0)&&(!(decide (iF K k L f=0)&&kB K L f)||(decide (iF K k L g=0)&&kB K L g)))&&(!(decide (((ae K q1).1+(ae K q2).1).tmod 2=0)&&decide (((ae K q1).2+(ae K q2).2).tmod 2=0))||(mV K k (mZ (ae K q1) (ae K q2))&&(!(decide (iF K k L f=0)&&kB K L f)||mV L l (mZ (ae K q1) (ae K q2))))))&&true)=true:=by
 rw[wZ h1 (aP h2) hf,wZ h1 (aP h2) (f:=g) (by omega)]
 refine Ru (λe=>?_) (λe=>?_) (λe e2=>?_)
 ·simp only[decide_true,Bool.true_and]at e ⊢
  exact Ed (by omega) hg.2 e
 ·simp only[Bool.and_eq_true,decide_eq_true_eq]at e
  exact F7 h1 a1 a2 e.1 e.2
 ·simp only[Bool.and_eq_true,decide_eq_true_eq]at e
  simp only[decide_true,Bool.true_and]at e2
  exact F6 h1 h2 e2 a1 a2 e.1 e.2
theorem ME {p o:Pt}:∀w v,pS [⟨false,1,pI ((p.1+o.1).tdiv 2)⟩,⟨false,1,pI ((p.2+o.2).tdiv 2)⟩] w v->cT (mZ p o) w v:=λ_ _ h=>h
end
set_option maxHeartbeats 4000000 in
theorem FT {K L:List Pt} {k l f g s t r:Int} (h:(K.length<=9223372036854775807/\L.length<=9223372036854775807)/\(0<=s/\s<=255)/\(0<=t/\t<=255)):K6 Tryz.prog 4 (fE K k) (fE L l) (pI f) (pI g) (UQ s t) (bp (.int .u8 r)) (pB true):=by
 intro M w0 v0 v1 v2 v3 v4 v5 hM hv0 iI hv2 hv3 hv4 WQ
 have h0:=h.1
 have hs1:=h.2.1
 have hs2:=h.2.2
 refine TC (N:=304) Tryz.func4 rfl rfl rfl hM hv0 iI hv2 hv3 hv4 WQ λa hI=>?_
 refine aW hI 4 [⟨10,10,some 2,none,.ptr,35,2,true,pv _,[]⟩] [] [Uc 0 6 _,Uc 1 7 _,Uc 3 12 _] .z (.aq (.kk .z)) ⟨rR 2 true (hf:=bz _ _),rR 2 true (hf:=bz _ _),KY rfl rfl rfl hs rfl (by exact IE _ _) (by kernel_rfl) (by kernel_rfl) (by kernel_rfl),mv,trivial⟩ (.k .z) (.jI (.jI (.k .z))) λa w hI=>?_
 refine av ?_
 refine aW hI 37 [] [] [Uc 0 38 _,Uc 1 39 _,Uc 2 40 _,Uc 3 41 _,Uc 4 42 _,Uc 5 43 _,Uc 6 44 _,Uc 7 45 _,Uc 8 46 _,Uc 9 47 _,Uc 10 48 _,Uc 11 49 _,Uc 12 50 _,Uc 13 51 _,Uc 14 52 _,Uc 15 53 _,Uc 16 54 _,Uc 17 55 _,Uc 18 56 _,Uc 19 57 _,Uc 20 58 _,Uc 21 59 _,Uc 22 60 _,Uc 23 61 _,Uc 24 62 _,Uc 25 63 _,Uc 26 64 _,Uc 27 65 _,Uc 28 66 _,Uc 29 67 _,Uc 30 68 _,Uc 31 69 _,Uc 32 70 _,Uc 33 71 _,Uc 34 72 _,Uc 35 73 _,Uc 36 74 _] (.k .z) (.aq (.k .z)) ⟨fP 0 1 false,ld,qZ Cw (hφ:=h0.1),nt,mv,gd λh=>VD h 0 1 false,gd λh=>dQ h,gd λh=>LV h Cw (hφ:=h0.2),gd λh=>IJ h,pk,mv,gd λh=>dQ h,gd λh=>LV h ct (hφ:=by have:=KN h; omega),gd λh=>mA h,pk,mv,gd λh=>dQ h,gd λh=>LV h ct (hφ:=by have:=MC h; omega),gd λh=>mA h,pk,mv,gd λh=>gZ h,gd λh=>mA h,pk,mv,gd λh=>gZ h,gd λh=>mA h,pk,mv,gd λh=>gZ h,gd λh=>mA h,pk,mv,gd λh=>gZ h,gd λh=>gZ h,gd λh=>mA h,pk,trivial⟩ (.k .z) (.aq (.fN (.d8 (.d8 (.d8 (.d8 (.dk .z))))))) λa w hI=>?_
 refine uz hI (λt1=>?_) (λt1=>?_)
 ·
  refine aW hI 2 [] [] [Uc 0 75 _,Uc 1 12 _] (.k .z) (.aq (.t 1 (.k .z))) ⟨T1 yL,mv,trivial⟩ (.k .z) (.aq (.ew .z)) λa w hI=>?_
  refine aJ ?_
  refine aG ?_
  exact dB hI rfl fK
 ·
  have hq:(K.length<=13/\L.length<=13)/\(aR K k=0/\aR L l=0)/\(1<=f/\f<=2000)/\(1<=g/\g<=f):=by
   simp only[Bool.or_eq_false_iff,Bool.not_eq_false',decide_eq_false_iff_not,ne_eq,Decidable.not_not]at t1
   obtain⟨⟨⟨⟨⟨⟨⟨a1,a2⟩,a3⟩,a4⟩,a5⟩,a6⟩,a7⟩,a8⟩:=t1
   exact⟨⟨rA a1,rA a2⟩,⟨a3,a4⟩,⟨by omega,by omega⟩,by omega,by omega⟩
  obtain⟨⟨n1,n2⟩,⟨lZ,hl0⟩,hf,sF⟩:=hq
  have hK:=aP lZ
  have hL:=aP hl0
  have nK:=cA hK
  have nL:=cA hL
  have hml:=yX K L k l
  have Wz:=yX L K l k
  have hch:∀j,j<L.length->ae L j=(K++L).getD (K.length+j) (0,0):=λj hj=>by
   have e:=Ak (K:=K) (L:=L) (q:=K.length+j) (by omega)
   rw[Nat.add_sub_cancel_left]at e
   exact e.symm
  refine aB ?_
  refine ah ?_
  refine aW hI 9 [⟨13,13,some 6,none,.ptr,24,2,true,pv _,[(7,pv _)]⟩] [] [Uc 0 77 _,Uc 1 78 _,Uc 2 79 _,Uc 3 76 _,Uc 4 80 _,Uc 5 81 _,Uc 8 14 _] (.k .z) (.aq (.kk .z)) ⟨ld,ld,wj yK (hφ:=⟨by omega,by omega⟩),mv,ext,ext,pY [.n,.i],gl rfl rfl hs rfl rfl (bE (by kernel_rfl)) (bz _ _) (by kernel_rfl),mv,trivial⟩ (.k (.s .o .z)) (.aq (.fN (.bL (.k .z)))) λa w hI=>?_
  have hI:=BK hI 1 rfl (by kernel_rfl)
  dsimp only[List.eraseIdx]at hI
  refine aW hI 9 [⟨15,15,some 6,none,.ptr,24,2,true,pv _,[(7,pv _)]⟩] [] [Uc 0 83 _,Uc 1 84 _,Uc 2 85 _,Uc 3 82 _,Uc 4 86 _,Uc 5 87 _,Uc 8 16 _] (.k .z) (.aq (.cQ .z)) ⟨ld,ld,wj yK (hφ:=⟨by omega,by omega⟩),mv,ext,ext,pY [.n,.i],gl rfl rfl hs rfl rfl (bE (by kernel_rfl)) (bz _ _) (by kernel_rfl),mv,trivial⟩ (.k (.s .o .z)) (.aq (.dg (.bL (.dk .z)))) λa w hI=>?_
  have hI:=BK hI 1 rfl (by kernel_rfl)
  dsimp only[List.eraseIdx]at hI
  refine av ?_
  refine aW hI 18 [] [] [Uc 0 88 _,Uc 1 89 _,Uc 2 90 _,Uc 3 91 _,Uc 4 92 _,Uc 5 93 _,Uc 6 94 _,Uc 7 95 _,Uc 8 96 _,Uc 9 97 _,Uc 10 98 _,Uc 11 99 _,Uc 12 100 _,Uc 13 101 _,Uc 14 102 _,Uc 15 103 _,Uc 16 104 _,Uc 17 105 _] (.k .z) (.k8 (.k .z)) ⟨mv,mv,bn,mv,gd λh=>fP 1 1 false (h:=hg) (hp:=pg h rfl),gd λh=>fq hg (pg h rfl) (by kernel_rfl) (fits_int _),gd λh=>fP 1 1 false (h:=hg) (hp:=pg h rfl),gd λh=>fq hg (pg h rfl) (by kernel_rfl) (fits_int _),gd λh=>mA h,pk,mv,gd λh=>fP 0 1 false (h:=hg) (hp:=pg h rfl),gd λh=>fq hg (pg h rfl) (by kernel_rfl) fk,gd λh=>fP 0 1 false (h:=hg) (hp:=pg h rfl),gd λh=>fq hg (pg h rfl) (by kernel_rfl) fk,gd λh=>IG h (Cx (K:=js K L k l) (L:=js L K l k)) (hφ:=by omega),gd λh=>IJ h,pk,trivial⟩ (.k .z) (.qJ (.aq (.d8 (.d8 (.lW .z))))) λa w hI=>?_
  refine uz hI (λt2=>?_) (λt2=>?_)
  ·exfalso; exact S7 lZ hl0 t2
  refine aB ?_
  refine ah ?_
  refine J1 [Vz 10 10 35 2 true _] [Uz 2 _,Uz 3 _,Uz 6 _,Uz 7 _] hI ⟨vi,trivial⟩ ⟨gi,gi,gi,gi,trivial⟩ ?_ (λa w hI=>?_)
  ·
   refine aW hI 2 [] [] [Uc 0 106 _,Uc 1 107 _] (.k .z) (.k8 .z) ⟨mv,bn,trivial⟩ (.k .z) (.aq (.dg (.dk .z))) λa w hI=>?_
   refine iK hI (λt3=>?_) (λt3=>?_)
   ·
    refine BP hI [0,0,2,7,0,16,63,127,0] [⟨111,111,some 3,some 6,.grow (K.length) 2,38,3,true,pv iC,[]⟩,⟨114,114,some 6,none,.grow (K.length+L.length) 2,38,3,true,pv iC,[]⟩] [] [Uc 0 108 _,Uc 1 109 _,Uc 2 110 _,Uc 3 111 _,Uc 4 112 _,Uc 5 113 _,Uc 6 114 _,Uc 7 115 _,Uc 8 116 _] (.k .z) (.k8 .z) ⟨TY (sz:=2) 38,fP 0 1 false,ld,TW (F:=cT) (e:=λk=>ae K k) (K++L) (0,0) cm (he:=λk hk=>(kN hk).symm) (hn:=by omega) (hmax:=by omega),fP 0 1 false,ld,Vp (F:=cT) (e:=λk=>ae L k) (K++L) (0,0) cm (he:=hch) (hmax:=by omega),ln,mv,trivial⟩ (.k (.d (.k .z))) (.aq (.dx (.bL (.jI (.k .z))))) λa w hI=>?_
    refine aD ?_
    refine vL [Vz 10 10 35 2 true _,Gz 114 114 _ 2 38] [Uz 13 _,Uz 2 _,Uz 3 _,Uz 6 _,Uz 7 _,Uz 114 _,Uz 115 _] (λ(i:Nat)=>[]) (λ(i:Nat)=>[Uz 116 (pI (i:Int))]) (λ(i:Nat)=>i<=K.length+L.length) (λ(i:Nat)=>K.length+L.length-i) (0) (Nat.zero_le _) hI ⟨vi,vG,trivial⟩ ⟨gi,gi,gi,gi,gi,gi,gi,gc,trivial⟩ ?_
    intro i a w hi hI
    refine aW hI 1 [] [] [Uc 0 117 _] (.k (.k .z)) (.k8 .z) ⟨bn,trivial⟩ (.k (.k .z)) (.k8 (.k .z)) λa w hI=>?_
    refine av ?_
    refine iK hI (λt4=>?_) (λt4=>?_)
    ·
     have hi2:i<(K++L).length:=by rw[List.length_append]; omega
     refine aB ?_
     refine ah ?_
     refine av ?_
     refine aD ?_
     refine aW hI 4 [⟨18,18,some 2,none,.ptr,38,2,true,pv _,[(3,pv _)]⟩] [] [Uc 0 118 _,Uc 1 119 _] (.k (.k .z)) (.k8 (.k .z)) ⟨ix,ld,pY [.i,.i],gl rfl rfl hs rfl rfl (bE (by kernel_rfl)) (cm _) (by kernel_rfl),trivial⟩ (.k (.k (.s .o .z))) (.k8 (.Iz .z)) λa w hI=>?_
     refine aW hI 8 [] [] [Uc 0 121 _,Uc 1 122 _,Uc 2 123 _,Uc 3 120 _,Uc 4 124 _,Uc 5 125 _,Uc 6 19 _,Uc 7 20 _] (.k (.k (.k .z))) (.k8 .z) ⟨fq hs (pt rfl) (by kernel_rfl) (bz _ _),ld,wj (kZ (p:=ae (K++L) i)) (hφ:=⟨by omega,oa (Am hK hL i hi2)⟩),mv,ext,ext,mv,mv,trivial⟩ (.k (.k (.d .z))) (.k8 (.bL (.jI .z))) λa w hI=>?_
     refine aW hI 6 [] [] [Uc 0 126 _,Uc 1 127 _,Uc 2 128 _,Uc 3 129 _,Uc 4 130 _,Uc 5 131 _] (.k (.k .z)) (.k8 (.kk .z)) ⟨mv,bn,mv,gd λh=>gZ h,gd λh=>IJ h,pk,trivial⟩ (.k (.k .z)) (.k8 (.bL (.ew .z))) λa w hI=>?_
     refine uz hI (λt5=>?_) (λt5=>?_)
     ·exfalso; exact S8 t3 hi2 t5
     refine aB ?_
     refine aQ ?_
     refine ah ?_
     refine tX hI 2 [] [] [Uc 0 132 _,Uc 1 116 _] (.k (.k .z)) (.aq (.cQ (.t 1 (.k .z)))) ⟨bn,mv,trivial⟩ (.k (.k .z)) (.aq (.dg (.lW .z))) λa w hI=>?_
     refine ah ?_
     exact uq (i+1) (by omega) hI ⟨vc,vG,trivial⟩ ⟨gc,gc,gc,gc,gc,gc,gc,gc,trivial⟩ (by omega)
    ·
     refine cj ?_
     refine aH ?_
     refine aH ?_
     refine aY ?_
     refine ah ?_
     exact hI.cv ⟨vi,trivial⟩ ⟨gi,gi,gi,gi,trivial⟩
   ·
    refine aW hI 2 [] [] [Uc 0 133 _,Uc 1 134 _] (.k .z) (.k8 .z) ⟨mv,bn,trivial⟩ (.k .z) (.qJ (.dx (.dk .z))) λa w hI=>?_
    refine iK hI (λt6=>?_) (λt6=>?_)
    ·exfalso; exact t6 (Ga lZ hl0 t3)
    refine aB ?_
    refine ah ?_
    exact hI.cv ⟨vi,trivial⟩ ⟨gi,gi,gi,gi,trivial⟩
  ·
   refine aW hI 9 [] [] [Uc 0 136 _,Uc 1 137 _,Uc 2 138 _,Uc 3 139 _,Uc 4 135 _,Uc 5 140 _,Uc 6 141 _,Uc 7 21 _,Uc 8 14 _] (.k .z) (.aq .z) ⟨ld,ld,mv,xR wA (hφ:=⟨by omega,by omega⟩),mv,ext,ext,mv,mv,trivial⟩ (.k .z) (.aq (.bL (.ew (.k .z)))) λa w hI=>?_
   refine aW hI 9 [] [] [Uc 0 143 _,Uc 1 144 _,Uc 2 145 _,Uc 3 146 _,Uc 4 142 _,Uc 5 147 _,Uc 6 148 _,Uc 7 22 _,Uc 8 16 _] (.k .z) (.aq (.kk .z)) ⟨ld,ld,mv,xR wA (hφ:=⟨by omega,by omega⟩),mv,ext,ext,mv,mv,trivial⟩ (.k .z) (.aq (.dx (.bL (.Dn .z)))) λa w hI=>?_
   refine aW hI 9 [] [] [Uc 0 150 _,Uc 1 151 _,Uc 2 152 _,Uc 3 153 _,Uc 4 149 _,Uc 5 154 _,Uc 6 155 _,Uc 7 23 _,Uc 8 24 _] (.k .z) (.k8 .z) ⟨ld,ld,mv,xR wA (hφ:=⟨by omega,by omega⟩),mv,ext,ext,mv,mv,trivial⟩ (.k .z) (.k8 (.bL (.ew (.k .z)))) λa w hI=>?_
   refine av ?_
   refine aW hI 17 [] [] [Uc 0 156 _,Uc 1 157 _,Uc 2 158 _,Uc 3 159 _,Uc 4 160 _,Uc 5 161 _,Uc 6 162 _,Uc 7 163 _,Uc 8 164 _,Uc 9 165 _,Uc 10 166 _,Uc 11 167 _,Uc 12 168 _,Uc 13 169 _,Uc 14 170 _,Uc 15 171 _,Uc 16 172 _] (.k .z) (.k8 (.kk .z)) ⟨mv,mv,mv,Tc ⟨pE (f:=f) lZ hl0 (by omega),pE (f:=f) hl0 lZ (by omega),pE (f:=g) lZ hl0 (by omega)⟩,bn,mv,gd λh=>gZ h,gd λh=>gZ h,gd λh=>qB hg hg (λ_=>rfl) (pg h rfl),pk,mv,gd λh=>gZ h,gd λh=>gZ h,xp λh=>gZ h,xp λh=>IJ h,gd λh=>LX h,pk,trivial⟩ (.k .z) (.aq (.fN (.d8 (.d8 (.lW .z))))) λa w hI=>?_
   refine uz hI (λt7=>?_) (λt7=>?_)
   ·exfalso; exact S9 lZ hl0 (by omega) (by omega) t7
   refine aB ?_
   refine ah ?_
   refine av ?_
   refine aW hI 4 [] [] [Uc 0 173 _,Uc 1 174 _,Uc 2 175 _,Uc 3 176 _] (.k .z) (.aq (.kk .z)) ⟨fP 0 1 false,ld,ln,mv,trivial⟩ (.k .z) (.aq (.wI (.kk .z))) λa w hI=>?_
   refine aD ?_
   refine vL [Vz 10 10 35 2 true _] [Uz 2 _,Uz 3 _,Uz 6 _,Uz 7 _,Uz 21 _,Uz 174 _,Uz 175 _] (λ(i:Nat)=>[]) (λ(i:Nat)=>[Uz 176 (pI (i:Int))]) (λ(i:Nat)=>i<=L.length) (λ(i:Nat)=>L.length-i) (0) (Nat.zero_le _) hI ⟨vi,trivial⟩ ⟨gi,gi,gi,gi,gi,gi,gi,gc,trivial⟩ ?_
   intro i a w hi hI
   refine aW hI 1 [] [] [Uc 0 177 _] (.k .z) (.k8 .z) ⟨bn,trivial⟩ (.k .z) (.k8 (.k .z)) λa w hI=>?_
   refine av ?_
   refine iK hI (λt8=>?_) (λt8=>?_)
   ·
    refine aB ?_
    refine ah ?_
    refine av ?_
    refine aD ?_
    refine aW hI 4 [⟨26,26,some 2,none,.ptr,38,2,true,pv _,[(3,pv _)]⟩] [] [Uc 0 178 _,Uc 1 179 _] (.k .z) (.k8 (.k .z)) ⟨ix,ld,pY [.i,.i],gl rfl rfl hs rfl rfl (bE (by kernel_rfl)) (cm _) (by kernel_rfl),trivial⟩ (.k (.s .o .z)) (.k8 (.Iz .z)) λa w hI=>?_
    refine aW hI 8 [] [] [Uc 0 181 _,Uc 1 182 _,Uc 2 183 _,Uc 3 180 _,Uc 4 184 _,Uc 5 185 _,Uc 6 27 _,Uc 7 28 _] (.k (.k .z)) (.k8 .z) ⟨ld,ld,wj (kZ (p:=ae L i)) (hφ:=⟨by omega,oa ((bY hL).2.1 i (by omega))⟩),mv,ext,ext,mv,mv,trivial⟩ (.k (.d .z)) (.k8 (.bL (.jI .z))) λa w hI=>?_
    refine aW hI 8 [] [] [Uc 0 186 _,Uc 1 187 _,Uc 2 188 _,Uc 3 189 _,Uc 4 190 _,Uc 5 191 _,Uc 6 192 _,Uc 7 193 _] (.k .z) (.k8 (.kk .z)) ⟨mv,bn,mv,gd λh=>gZ h,gd λh=>gZ h,xp λh=>gZ h,gd λh=>LX h,pk,trivial⟩ (.k .z) (.k8 (.d8 (.dk .z))) λa w hI=>?_
    refine uz hI (λt9=>?_) (λt9=>?_)
    ·exfalso; exact Ta lZ hl0 (by omega) t9
    refine aB ?_
    refine aQ ?_
    refine ah ?_
    refine tX hI 2 [] [] [Uc 0 194 _,Uc 1 176 _] (.k .z) (.aq (.cQ (.t 1 (.k .z)))) ⟨bn,mv,trivial⟩ (.k .z) (.aq (.dg (.lW .z))) λa w hI=>?_
    refine ah ?_
    exact uq (i+1) (by omega) hI ⟨vc,trivial⟩ ⟨gc,gc,gc,gc,gc,gc,gc,gc,trivial⟩ (by omega)
   ·
    refine cj ?_
    refine aH ?_
    refine aH ?_
    refine aY ?_
    refine ah ?_
    refine aW hI 10 [] [] [Uc 0 196 _,Uc 1 197 _,Uc 2 198 _,Uc 3 199 _,Uc 4 200 _,Uc 5 195 _,Uc 6 201 _,Uc 7 202 _,Uc 8 29 _,Uc 9 14 _] (.k .z) (.k8 (.k .z)) ⟨ld,fP 0 1 false,ld,mv,xR FP (hφ:=⟨by omega,by omega⟩),mv,ext,ext,mv,mv,trivial⟩ (.k .z) (.qJ (.d8 (.bL (.Dn .z)))) λa w hI=>?_
    refine aW hI 10 [] [] [Uc 0 204 _,Uc 1 205 _,Uc 2 206 _,Uc 3 207 _,Uc 4 208 _,Uc 5 203 _,Uc 6 209 _,Uc 7 210 _,Uc 8 30 _,Uc 9 16 _] (.k .z) (.aq (.k .z)) ⟨ld,fP 0 1 false,ld,mv,xR FP (hφ:=⟨by omega,by omega⟩),mv,ext,ext,mv,mv,trivial⟩ (.k .z) (.qJ (.fN (.bL (.Dn .z)))) λa w hI=>?_
    obtain⟨q1,e1⟩:∃q:Nat,s%(K.length:Int)=(q:Int):=⟨(s%(K.length:Int)).toNat,by rw[Int.toNat_of_nonneg (Int.emod_nonneg _ (by omega))]⟩
    have a1:q1<K.length:=by have:=Int.emod_lt_of_pos s (show(0:Int)<(K.length:Int) by omega); omega
    obtain⟨q2,e2⟩:∃q:Nat,t%(K.length:Int)=(q:Int):=⟨(t%(K.length:Int)).toNat,by rw[Int.toNat_of_nonneg (Int.emod_nonneg _ (by omega))]⟩
    have a2:q2<K.length:=by have:=Int.emod_lt_of_pos t (show(0:Int)<(K.length:Int) by omega); omega
    have b1:nF (ae K q1):=(bY hK).2.1 q1 a1
    have b2:nF (ae K q2):=(bY hK).2.1 q2 a2
    have kE:=sU b1 b2
    have c1:=b1
    have c2:=b2
    unfold nF at c1 c2
    refine BP hI [0,1,0,4,12,0,32,96,252,511,1023,0,2048,0,8192,24576,0,65536,196608,516096,1046528,2095104,0,0,12584959,33554431] [⟨31,31,some 22,none,.ptr,38,2,true,pv _,[(24,pv _)]⟩,⟨32,32,some 23,none,.ptr,38,2,true,pv _,[(25,pv _)]⟩] [⟨some 2,213,10,0,True⟩,⟨some 13,224,10,1,True⟩] [Uc 0 211 _,Uc 1 212 _,Uc 3 214 _,Uc 4 215 _,Uc 5 216 _,Uc 6 217 _,Uc 7 218 _,Uc 8 219 _,Uc 9 220 _,Uc 10 221 _,Uc 11 222 _,Uc 12 223 _,Uc 14 225 _,Uc 15 226 _,Uc 16 227 _,Uc 17 228 _,Uc 18 229 _,Uc 19 230 _,Uc 20 231 _,Uc 21 232 _] (.k .z) (.aq (.kk .z)) ⟨fP 0 1 false,ld,fa,lB rfl rfl rfl rfl (by kernel_rfl) rfl (bE (P:=Tryz.prog) (T:=5) (ag:=false) (n:=1) (by kernel_rfl)) (ou rfl) trivial (pt rfl) rfl,Om,fP 0 1 false,ld,ln,rm,fR q1 hs ((hs).imp (cG e1)) rfl (pt rfl) (by omega) (by kernel_rfl) (by kernel_rfl),fq hs (pt rfl) (by kernel_rfl) (cm _),fP 0 1 false,ld,fa,lB rfl rfl rfl rfl (by kernel_rfl) rfl (bE (P:=Tryz.prog) (T:=5) (ag:=false) (n:=1) (by kernel_rfl)) (ou rfl) trivial (pt rfl) rfl,Om,fP 0 1 false,ld,ln,rm,fR q2 hs ((hs).imp (cG e2)) rfl (pt rfl) (by omega) (by kernel_rfl) (by kernel_rfl),fq hs (pt rfl) (by kernel_rfl) (cm _),pY [.i,.i],pY [.i,.i],gl rfl rfl hs rfl rfl (bE (by kernel_rfl)) (cm _) (by kernel_rfl),gl rfl rfl hs rfl rfl (bE (by kernel_rfl)) (cm _) (by kernel_rfl),trivial⟩ (.d (.s .o (.s .o .z))) (.aq (.dx (.d8 (.d8 (.dd .z))))) λa w hI=>?_
    refine aW hI 15 [⟨33,33,some 13,none,.ptr,38,2,true,pv _,[(14,pv _)]⟩] [⟨some 0,233,31,0,True⟩,⟨some 2,235,32,0,True⟩,⟨some 6,239,31,1,True⟩,⟨some 8,241,32,1,True⟩] [Uc 1 234 _,Uc 3 236 _,Uc 4 237 _,Uc 5 238 _,Uc 7 240 _,Uc 9 242 _,Uc 10 243 _,Uc 11 244 _,Uc 12 245 _] (.k (.k .z)) (.aq (.kk .z)) ⟨fa,ld,fa,ld,bn,UT,fa,ld,fa,ld,bn,UT,bd [.o .i,.o .i] [(0,_),(1,_)] (hp:=pt rfl),pY [.i,.i],gl rfl rfl ((hs).imp (ME (p:=ae K q1) (o:=ae K q2))) rfl rfl (bE (by kernel_rfl)) (cm _) (by kernel_rfl),trivial⟩ (.k (.k (.s .o .z))) (.aq (.dx (.bL (.Iz .z)))) λa w hI=>?_
    refine aW hI 17 [] [⟨some 0,246,31,0,True⟩,⟨some 2,248,32,0,True⟩,⟨some 8,254,31,1,_⟩,⟨some 10,256,32,1,_⟩] [Uc 1 247 _,Uc 3 249 _,Uc 4 250 _,Uc 5 251 _,Uc 6 252 _,Uc 7 253 _,Uc 9 255 _,Uc 11 257 _,Uc 12 258 _,Uc 13 259 _,Uc 14 260 _,Uc 15 261 _,Uc 16 34 _] (.k (.k (.k .z))) (.aq (.kk .z)) ⟨fa,ld,fa,ld,bn,W9,bn,mv,gd λh=>mE h,gd λh=>dQ h,gd λh=>mE h,gd λh=>dQ h,gd λh=>mA h,gd λh=>RE h,gd λh=>mA h,pk,mv,trivial⟩ (.d (.d (.k .z))) (.aq (.dx (.d8 (.lW .z)))) λa w hI=>?_
    refine aW hI 8 [] [] [Uc 0 263 _,Uc 1 264 _,Uc 2 265 _,Uc 3 262 _,Uc 4 266 _,Uc 5 267 _,Uc 6 35 _,Uc 7 24 _] (.k .z) (.aq (.cQ .z)) ⟨ld,ld,wj (kZ (p:=mZ (ae K q1) (ae K q2))) (hφ:=⟨by omega,oa kE⟩),mv,ext,ext,mv,mv,trivial⟩ (.k .z) (.qJ (.dg (.bL (.Dn .z)))) λa w hI=>?_
    refine aW hI 8 [] [] [Uc 0 269 _,Uc 1 270 _,Uc 2 271 _,Uc 3 268 _,Uc 4 272 _,Uc 5 273 _,Uc 6 36 _,Uc 7 37 _] (.k .z) (.k8 .z) ⟨ld,ld,wj (kZ (p:=mZ (ae K q1) (ae K q2))) (hφ:=⟨by omega,oa kE⟩),mv,ext,ext,mv,mv,trivial⟩ (.d .z) (.qJ (.aq (.bL (.jI .z)))) λa w hI=>?_
    refine bH hI 31 [Uc 0 274 _,Uc 1 275 _,Uc 2 276 _,Uc 3 277 _,Uc 4 278 _,Uc 5 279 _,Uc 6 280 _,Uc 7 281 _,Uc 8 282 _,Uc 9 283 _,Uc 10 284 _,Uc 11 285 _,Uc 12 286 _,Uc 13 287 _,Uc 14 288 _,Uc 15 289 _,Uc 16 290 _,Uc 17 291 _,Uc 18 292 _,Uc 19 293 _,Uc 20 294 _,Uc 21 295 _,Uc 22 296 _,Uc 23 297 _,Uc 24 298 _,Uc 25 299 _,Uc 26 300 _,Uc 27 301 _,Uc 28 302 _,Uc 29 303 _,Uc 30 12 _] (.k8 (.k .z)) ⟨mv,mv,mv,mv,Td ⟨wZ (f:=f) lZ hL (by omega),wZ (f:=g) lZ hL (by omega),lZ,hl0⟩,bn,mv,gd λh=>gZ h,gd λh=>IJ h,gd λh=>gZ h,xp λh=>gZ h,gd λh=>LX h,pk,mv,gd λh=>gZ h,gd λh=>IJ h,gd λh=>gZ h,xp λh=>gZ h,xp λh=>gZ h,xp λh=>gZ h,xp λh=>IJ h,xp λh=>gZ h,xp λh=>gZ h,xp λh=>LX h,xp λh=>LX h,gd λh=>LX h,pk,mv,gd λh=>Ry h yL,pk,mv,trivial⟩ (.d8 (.d8 (.d8 (.d8 (.bL (.ew .z)))))) λa w hI=>?_
    refine aJ ?_
    exact dB hI rfl (fK (hq:=cK (Tb lZ hl0 hf sF a1 a2)))
end Wx
