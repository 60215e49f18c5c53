import Derived.Test.YtadigiledciihaaGreatJRA42
import Derived.Test.YtadigiledciihaaGreatJRA38
namespace Wx
open Go Go.RowKit Go.Proofs
abbrev Mn (p:Pt):Fd:=⟨true,2,dB p⟩
section
variable {P:Program} {ops:Array Oper} {ms:List Nat} {c:dM} {V:List Vr} {A:List Al} {G:List bg} {i d:Nat} {ty:TypeId} {pos:String} {aR:Array Edge}
theorem JU (L:List Pt):∀(k:Nat) (f:Fd),(L.map Mn)[k]?=some f->f.p=dB (aj L k):=λk f hf=>by
 rw[List.getElem?_map]at hf
 unfold aj
 rw[List.getD_eq_getElem?_getD]
 cases h:L[k]? with
 |none=>rw[h]at hf; cases hf
 |some x=>
  rw[h]at hf
  injection hf with hf
  rw[<-hf]
  rfl
theorem Rp {T:TypeId} {n:Nat} {parts:Array (Nat×Operand)} (E:TypeId) (L:List Pt) (ps:List (Nat×Pred)) (hps:eJ ms G i (List.replicate n (Mn (0,0))) parts.toList ps:=by repeat' (first|exact trivial|refine⟨⟨rfl,Wx.hs,_,rfl,kJ _⟩,?_⟩)) (Sz:nu (List.replicate n (Mn (0,0))) ps=L.map Mn:=by rfl) (ht:pP P T E 2:=by exact⟨by kernel_rfl,λ_=>by kernel_rfl⟩) (Eb:∀w,(zeroValue E).run P w=.ok (.agg (su (0,0)).toArray) w:=by exactλ_=>by kernel_rfl) (hsz:decide (0<2/\0<n/\n*2<=16777216)=true:=by decide) (hp:Post G i (cK 2 true n λk=>dB (aj L k)):=by exact pt rfl):
  OpOk P ops ms c V A G i ⟨some d,.buildSlice T n parts,ty,pos,aR,none⟩:=
 jE (p:=dB (0,0)) (z:=su (0,0)) ht Eb rfl rfl hsz (λ_=>zP.2 rfl) rfl hps Sz _ (JU L) hp
theorem RF {φ:Prop} (hφ:φ) {T:TypeId} {n:Nat} {parts:Array (Nat×Operand)} (E:TypeId) (L:List Pt) (ps:List (Nat×Pred)) (hps:eJ ms G i (List.replicate n (Mn (0,0))) parts.toList ps:=by repeat' (first|exact trivial|refine⟨⟨rfl,Wx.hg,_,rfl,kJ _⟩,?_⟩)) (Sz:nu (List.replicate n (Mn (0,0))) ps=L.map Mn:=by rfl) (ht:pP P T E 2:=by exact⟨by kernel_rfl,λ_=>by kernel_rfl⟩) (Eb:∀w,(zeroValue E).run P w=.ok (.agg (su (0,0)).toArray) w:=by exactλ_=>by kernel_rfl) (hsz:decide (0<2/\0<n/\n*2<=16777216)=true:=by decide) (hp:Post G i (cK 2 true n λk=>dB (aj L k)):=by exact pg (by assumption) rfl):
  OpOk P ops ms c V A G i ⟨some d,.buildSlice T n parts,ty,pos,aR,none⟩:=(λ_:φ=>Rp E L ps hps Sz ht Eb hsz hp) hφ
end
end Wx

namespace Wx
open Go Go.RowKit Go.Proofs
abbrev Nn (a b:Pt):Prop:=a.1<b.1\/(a.1=b.1/\a.2<=b.2)
theorem Im {n:Nat} {L S:List Pt} (hn:∀q,q<n->bu 16777216 (aj L q)) (hp:S.Perm ((List.range n).map λi=>aj L i)) (hs:S.Pairwise Nn):pA n L=S:=by
 have e1:(qn n L).toList.map (·.p)=(List.range n).map λi=>aj L i:=by
  unfold qn
  show List.map _ (List.map _ _)=_
  rw[List.map_map]
  exact List.map_congr_left λi hi=>Ds (hn i (List.mem_range.1 hi))
 refine List.Perm.eq_of_pairwise (le:=Nn) ?_ ?_ hs ?_
 ·intro a b _ _ h1 h2
  obtain⟨a1,a2⟩:=a
  obtain⟨b1,b2⟩:=b
  have h1:a1<b1\/(a1=b1/\a2<=b2):=h1
  have h2:b1<a1\/(b1=a1/\b2<=a2):=h2
  obtain rfl:a1=b1:=by omega
  obtain rfl:a2=b2:=by omega
  rfl
 ·unfold pA tH
  show(List.map _ (List.mergeSort _ _)).Pairwise Nn
  rw[List.pairwise_map]
  refine(List.pairwise_mergeSort (le:=λx y=>!(ltOf nH) y x) ?_ ?_ _).imp λ{x y} h=>?_
  ·intro a b c h1 h2
   simp only[Bool.not_eq_true']at h1 h2 ⊢
   exact Qj.ntrans c b a h2 h1
  ·intro a b
   cases h:ltOf nH b a with
   |false=>simp
   |true=>
    have:ltOf nH a b=false:=by
     rw[lt_iff]at h
     rw[oT]
     omega
    simp[this]
  ·have h:ltOf nH y x=false:=by simpa using h
   rw[oT]at h
   show x.p.1<y.p.1\/(x.p.1=y.p.1/\x.p.2<=y.p.2)
   omega
 ·unfold pA tH
  refine((List.mergeSort_perm _ _).map _).trans ?_
  rw[e1]
  exact hp.symm
def Fm:List Pt:=[(0,0),(4,0),(0,4)]
def FX:List Pt:=[(1,1),(5,1),(1,5)]
def Mj:List Pt:=[(0,0),(0,4),(1,1),(1,5),(4,0),(5,1)]
def OI:List Pt:=[(0,0),(4,0),(5,1),(1,5),(0,4)]
theorem CA:C8 (Fm++FX):=λq hq=>by
 have hq:q<6:=hq
 match q,hq with
 |0,_|1,_|2,_|3,_|4,_|5,_=>unfold bu; decide
theorem rq:sL (Fm++FX)=Mj:=Im CA (by decide) (by decide)
theorem FZ:rL (Fm++FX)=[(5,1),(4,0),(1,5),(1,1),(0,4),(0,0)]:=by
 show J9 6 (sL (Fm++FX))=_
 rw[rq]
 decide
theorem KJ:aH Mj 6=[(0,0),(4,0),(5,1)]:=by decide
theorem KL:aH [(5,1),(4,0),(1,5),(1,1),(0,4),(0,0)] 6=[(5,1),(1,5),(0,4),(0,0)]:=by decide
theorem Ji:vX (Fm++FX) where
 two:=by decide
 max:=by decide
 near:=CA
 ne:=by
  rw[rq]
  have h:∀k,k<6->1<=k->aj Mj k≠aj Mj (k-1):=by decide
  exactλk h1 h2=>h k h2 h1
 lo:=by
  rw[rq]
  show 2<=(aH Mj 6).length
  rw[KJ]
  decide
 up:=by
  rw[FZ]
  show 2<=(aH [(5,1),(4,0),(1,5),(1,1),(0,4),(0,0)] 6).length
  rw[KL]
  decide
theorem uU:sO (Fm++FX)=OI:=by
 unfold sO me
 rw[rq,FZ]
 show(aH Mj 6).take ((aH Mj 6).length-1)++(aH [(5,1),(4,0),(1,5),(1,1),(0,4),(0,0)] 6).take ((aH [(5,1),(4,0),(1,5),(1,1),(0,4),(0,0)] 6).length-1)=_
 rw[KJ,KL]
 decide
theorem Ml:ct Fm 1=0:=by decide
theorem Mm:ct FX 2=0:=by decide
theorem FY:Ch Fm FX 1 2:=⟨Ml,Mm,Ji,by rw[uU]; decide⟩
end Wx

namespace Wx
set_option maxRecDepth 100000
set_option maxHeartbeats 1000000
open Go Go.RowKit Go.Proofs
set_option linter.unusedVariables false
attribute [local irreducible] OpOk
def mE (ms:Nat->List Rat):Nat->List Rat
 |0=>[0,0,0]
 |k+1=>[(mE ms k).getD 0 0+(ms k).getD 0 0,(mE ms k).getD 1 0+(ms k).getD 0 0*(ms k).getD 1 0,(mE ms k).getD 2 0+(ms k).getD 0 0*(ms k).getD 2 0]
variable {ms:Nat->List Rat}
theorem Ip:∀k,(mE ms k).length=3
 |0=>rfl
 |_+1=>rfl
structure Kv (n j J:Nat) (ms:Nat->List Rat):Prop where
 len:1<=n/\n<=64
 bits:1<=J/\J<=1000000/\j<=1000000
 el:∀i,i<n->(ms i).length=3/\0<=dD ((ms i).getD 0 0)
 bd:∀k q,k<=n->q<3->dx J ((mE ms k).getD q 0)
 some:(mE ms n).getD 0 0≠0
variable {j:Nat}
theorem Ee {n J:Nat} (h:Kv n j J ms):K1 Tryz.prog 21 (cK 9 true n λi=>pV bG j (ms i)) (fH (pV bG (2*J) [(mE ms n).getD 0 0,(mE ms n).getD 1 0/(mE ms n).getD 0 0,(mE ms n).getD 2 0/(mE ms n).getD 0 0]) (pI 0)):=by
 intro M w0 v0 hM hv0
 have h1:=h.len
 have h2:=h.bits
 have hl:=Ip (ms:=ms)
 refine uc (N:=67) Tryz.func21 rfl rfl rfl hM hv0 λa hI=>?_
 refine bB hI 2 [⟨2,2,some 0,none,.ptr,56,9,true,pv _,[]⟩] [] [Uc 1 3 _] .z (.k .z) ⟨oM [.r,.r,.r],mv,trivial⟩ (.k .z) (.kk .z) λa w hI=>?_
 refine aq ?_
 refine bB hI 8 [] [] [Uc 0 7 _,Uc 1 8 _,Uc 2 9 _,Uc 3 10 _,Uc 4 11 _,Uc 5 12 _,Uc 6 13 _,Uc 7 14 _] (.k .z) (.kk .z) ⟨mv,ln,bn,mv,gd λh=>fQ h,gd λh=>RK h,gd λh=>lB h,pk,trivial⟩ (.k .z) (.eu (.bX (.dk .z))) λa w hI=>?_
 refine tY hI (λt1=>?_) (λt1=>?_)
 ·exfalso; simp only[Bool.or_eq_true,decide_eq_true_eq]at t1; omega
 refine aG ?_
 refine af ?_
 refine bB hI 1 [⟨4,4,some 0,none,.ptr,56,9,true,pv _,[]⟩] [] [] (.k .z) (.cQ .z) ⟨Tl J 3,trivial⟩ (.k (.k .z)) (.UI .z) λa w hI=>?_
 refine aq ?_
 refine bB hI 3 [] [] [Uc 0 16 _,Uc 1 17 _,Uc 2 18 _] (.k (.k .z)) (.kk .z) ⟨mv,ln,mv,trivial⟩ (.k (.k .z)) (.Jg (.k .z)) λa w hI=>?_
 refine aK ?_
 refine xN [Vz 2 2 56 9 true _] [Uz 16 _,Uz 17 _] (λ(i:Nat)=>[Vz 4 4 56 9 true (pV bG J (mE ms i))]) (λ(i:Nat)=>[Uz 18 (pI (i:Int))]) (λ(i:Nat)=>i<=n) (λ(i:Nat)=>n-i) (0) (Nat.zero_le _) hI ⟨vi,vC (λ_ _ h=>h),trivial⟩ ⟨gi,gi,gc,trivial⟩ ?_
 intro i a w hi hI
 refine bB hI 1 [] [] [Uc 0 19 _] (.k (.k .z)) (.cQ .z) ⟨bn,trivial⟩ (.k (.k .z)) (.au .z) λa w hI=>?_
 refine aq ?_
 refine jK hI (λt2=>?_) (λt2=>?_)
 ·
  refine aG ?_
  refine af ?_
  refine aq ?_
  refine aK ?_
  have hl2:=(h.el i (by omega)).1
  have hs2:=(h.el i (by omega)).2
  have wS:=hl i
  have hb0:dx J ((mE ms i).getD 0 0+(ms i).getD 0 0):=h.bd (i+1) 0 (by omega) (by decide)
  have hb1:dx J ((mE ms i).getD 1 0+(ms i).getD 0 0*(ms i).getD 1 0):=h.bd (i+1) 1 (by omega) (by decide)
  have hb2:dx J ((mE ms i).getD 2 0+(ms i).getD 0 0*(ms i).getD 2 0):=h.bd (i+1) 2 (by omega) (by decide)
  refine bB hI 4 [⟨6,6,some 2,none,.ptr,56,9,true,pv _,[(3,pv _)]⟩] [] [Uc 0 20 _,Uc 1 21 _] (.k (.k .z)) (.au .z) ⟨ix,ld,oM [.r,.r,.r],ju,trivial⟩ (.k (.k (.s .o .z))) (.eG (.dd .z)) λa w hI=>?_
  refine aq ?_
  refine bB hI 4 [] [⟨some 0,22,6,0,True⟩] [Uc 1 23 _,Uc 2 24 _,Uc 3 25 _] (.k (.k (.k .z))) (.cQ .z) ⟨fa,lV 0,uP LL,bn,trivial⟩ (.k (.k (.k .z))) (.eG (.dk .z)) λa w hI=>?_
  refine jK hI (λt3=>?_) (λt3=>?_)
  ·exfalso; omega
  refine aG ?_
  refine af ?_
  refine TD hI [0,1,0,4,15,0,32,0,128,0,512,1951,4095,0,8192,0,32768,0,131072,499711,1048575,2097151,4194303] [] [⟨some 0,27,4,0,True⟩,⟨some 2,29,6,0,True⟩,⟨some 5,32,4,3,True⟩,⟨some 7,34,6,0,True⟩,⟨some 9,36,6,3,True⟩,⟨some 13,40,4,6,True⟩,⟨some 15,42,6,0,True⟩,⟨some 17,44,6,6,True⟩] [Uc 1 28 _,Uc 3 30 _,Uc 4 31 _,Uc 6 33 _,Uc 8 35 _,Uc 10 37 _,Uc 11 38 _,Uc 12 39 _,Uc 14 41 _,Uc 16 43 _,Uc 18 45 _,Uc 19 46 _,Uc 20 47 _,Uc 21 48 _] (.k (.u none [(22,pv _)] (.k .z))) (.au .z) ⟨fa,lV 0,fa,lV 0,xS (AB hb0),fa,lV 1,fa,lV 0,fa,lV 1,xS yc,xS (AB hb1),fa,lV 2,fa,lV 0,fa,lV 2,xS yc,xS (AB hb2),bd [.o .r,.o .r,.o .r] [(0,_),(1,_),(2,_)],ju,trivial⟩ (.k (.s .o (.d .z))) (.eG (.d8 (.bX (.dd .z)))) λa w hI=>?_
  refine bf ?_
  refine af ?_
  refine Ao hI 2 [] [] [Uc 0 49 _,Uc 1 18 _] (.k (.k .z)) (.kk (.t 1 .z)) ⟨bn,mv,trivial⟩ (.k (.k .z)) (.eu (.k .z)) λa w hI=>?_
  refine af ?_
  exact wZ (i+1) (by omega) hI ⟨vc,vC (pH.pV (pH.c (Nat.le_refl _) (pH.c (Nat.le_refl _) (pH.c (Nat.le_refl _) pH.z)))),trivial⟩ ⟨gc,gc,gc,trivial⟩ (by omega)
 ·
  refine cL ?_
  refine aM ?_
  refine aM ?_
  refine bp ?_
  refine af ?_
  refine aq ?_
  obtain rfl:i=n:=by omega
  have wS:=hl i
  refine bB hI 3 [] [⟨some 0,50,4,0,True⟩] [Uc 1 51 _,Uc 2 52 _] (.k (.k .z)) (.au .z) ⟨fa,lV 0,uP LM,trivial⟩ (.k (.k .z)) (.bX (.dk .z)) λa w hI=>?_
  refine jK hI (λt4=>?_) (λt4=>?_)
  ·exfalso; exact h.some t4
  refine aG ?_
  refine af ?_
  refine xV hI [0,1,0,4,0,16,60,0,128,0,512,2044,4095,8191,16383] [] [⟨some 0,54,4,0,True⟩,⟨some 2,56,4,3,True⟩,⟨some 4,58,4,0,True⟩,⟨some 7,61,4,6,True⟩,⟨some 9,63,4,0,True⟩] [Uc 1 55 _,Uc 3 57 _,Uc 5 59 _,Uc 6 60 _,Uc 8 62 _,Uc 10 64 _,Uc 11 65 _,Uc 12 66 _,Uc 14 3 _] (.u none [(13,pv _)] (.k .z)) (.k .z) ⟨fa,lV 0,fa,lV 1,fa,lV 0,wC Hz,fa,lV 2,fa,lV 0,wC Hz,bd [.o .r,.o .r,.o .r] [(0,_),(1,_),(2,_)],ju,mv,trivial⟩ (.s .o (.d .z)) (.d8 (.dk .z)) λa w hI=>?_
  refine aF ?_
  exact uq hI rfl xU fh
theorem Cn {x:Rat} (s:ByteArray) (h:strOf (jw x)=s/\j<=100000000):∀w v1,pR j x w v1->Calls Tryz.prog 30 #[v1] w (eR (bW (.string s)) w):=λw v1 h1=>(ES w v1 x h1.2 h1.1 h.2).mono λ_ _ hr=>by rw[<-h.1]; exact qm hr
theorem Kt (_:True):K2 Tryz.prog 15 (ko Fm 1) (ko FX 2) (fH (ko OI 2) (pI 0)):=by
 have k:=JM FY
 rw[uU]at k
 exact k
def Qy (i:Nat):List Rat:=if i=0 then[1,0,0]else[1,4,2]
theorem Mk:Kv 2 64 64 Qy where
 len:=by decide
 bits:=by decide
 el i hi:=by
  match i,hi with
  |0,_=>exact⟨rfl,by decide⟩
  |1,_=>exact⟨rfl,by decide⟩
 bd k q hk hq:=by
  have key:∀k,k<=2->∀q,q<3->((mE Qy k).getD q 0).num.natAbs<2^64/\((mE Qy k).getD q 0).den<2^64:=by decide +kernel
  exact key k hk q hq
 some:=by decide +kernel
end Wx

namespace Wx
set_option maxRecDepth 100000
set_option maxHeartbeats 1000000
open Go Go.RowKit Go.Proofs
set_option linter.unusedVariables false
attribute [local irreducible] OpOk
theorem mh (h:True):K0 Tryz.prog 10 (pB true):=by
 intro M w0 hM
 refine TI (N:=91) Tryz.func10 rfl rfl rfl hM λa hI=>?_
 refine aZ hI 1 [Uc 0 0 _] .z ⟨mv,trivial⟩ (.k .z) λa w hI=>?_
 refine bB hI 7 [⟨1,1,some 5,none,.ptr,24,2,true,pv _,[(6,pv _)]⟩] [] [Uc 0 11 _,Uc 1 12 _,Uc 2 13 _,Uc 3 14 _,Uc 4 15 _] .z (.k .z) ⟨bd [.o .i,.o .i] [],bd [.o .i,.o .i] [(0,_)],bd [.o .i,.o .i] [(1,_)],Rp 26 Fm [(0,dB (0,0)),(1,dB (4,0)),(2,dB (0,4))],bd [.o .n,.o .i] [(0,_),(1,_)],oM [.n,.i],ju,trivial⟩ (.s .o .z) (.fZ (.dd .z)) λa w hI=>?_
 refine bB hI 7 [⟨2,2,some 5,none,.ptr,24,2,true,pv _,[(6,pv _)]⟩] [] [Uc 0 16 _,Uc 1 17 _,Uc 2 18 _,Uc 3 19 _,Uc 4 20 _] (.k .z) (.k .z) ⟨bd [.o .i,.o .i] [(0,_),(1,_)],bd [.o .i,.o .i] [(0,_),(1,_)],bd [.o .i,.o .i] [(0,_),(1,_)],Rp 26 FX [(0,dB (1,1)),(1,dB (5,1)),(2,dB (1,5))],bd [.o .n,.o .i] [(0,_),(1,_)],oM [.n,.i],ju,trivial⟩ (.k (.s .o .z)) (.fZ (.dd .z)) λa w hI=>?_
 refine bB hI 8 [] [] [Uc 0 22 _,Uc 1 23 _,Uc 2 24 _,Uc 3 21 _,Uc 4 25 _,Uc 5 26 _,Uc 6 3 _,Uc 7 4 _] (.k (.k .z)) (.k .z) ⟨ld,bd [.o .i,.o .i] [(0,_),(1,_)],wC (Gz (L:=Fm) (d:=1) (p:=(2,2))),mv,ext,ext,mv,mv,trivial⟩ (.k (.k .z)) (.fZ (.eY (.k .z))) λa w hI=>?_
 refine bB hI 9 [⟨5,5,some 6,none,.ptr,24,2,true,pv _,[(7,pv _)]⟩] [] [Uc 0 28 _,Uc 1 29 _,Uc 2 30 _,Uc 3 27 _,Uc 4 31 _,Uc 5 32 _,Uc 8 6 _] (.k (.k .z)) (.cQ .z) ⟨ld,ld,wC Kt,mv,ext,ext,oM [.n,.i],ju,mv,trivial⟩ (.k (.k (.s .o .z))) (.eG (.bX (.dk .z))) λa w hI=>?_
 refine bB hI 8 [] [] [Uc 0 34 _,Uc 1 35 _,Uc 2 36 _,Uc 3 33 _,Uc 4 37 _,Uc 5 38 _,Uc 6 7 _,Uc 7 8 _] (.k (.k (.k .z))) (.au .z) ⟨ld,ld,AL (JL (K:=Fm) (L:=FX) (k:=1) (l:=2) (f:=1)),mv,ext,ext,mv,mv,trivial⟩ (.d (.d (.k .z))) (.au (.bX (.pX .z))) λa w hI=>?_
 refine bB hI 14 [⟨9,9,some 11,none,.ptr,56,9,true,pv _,[(12,pv _)]⟩] [] [Uc 0 40 _,Uc 1 41 _,Uc 2 42 _,Uc 3 43 _,Uc 4 44 _,Uc 5 45 _,Uc 6 46 _,Uc 7 47 _,Uc 8 39 _,Uc 9 48 _,Uc 10 49 _,Uc 13 10 _] (.k .z) (.au (.kk .z)) ⟨uP yb,bd [.o .r,.o .r,.o .r] [(0,_)],uP yb,uP yb,uP yb,bd [.o .r,.o .r,.o .r] [(0,_),(1,_),(2,_)],Oj (p:=pV bG 64 [1,0,0]) (q:=pV bG 64 [1,4,2]) (zv:=.agg ([Zl.r,.r,.r].flatMap Zl.cs).toArray) 56 ([Zl.r,.r,.r].flatMap Zl.cs) (λi=>pV bG 64 (Qy i)) (ru (λ_=>oz) rfl) (ru (λ_=>oz) rfl) (h1:=(hs).imp (pH.pV (pH.c (by decide) (pH.c (by decide) (pH.c (by decide) pH.z))))) (h2:=(hs).imp (pH.pV (pH.c (by decide) (pH.c (by decide) (pH.c (by decide) pH.z))))),um Ee (hφ:=Mk),mv,ext,ext,oM [.r,.r,.r],ju,mv,trivial⟩ (.k (.s .o .z)) (.au (.eu (.d8 (.dk .z)))) λa w hI=>?_
 refine bB hI 42 [] [⟨some 10,60,5,1,_⟩,⟨some 15,65,5,0,_⟩,⟨some 30,80,9,3,_⟩,⟨some 36,86,9,6,_⟩] [Uc 0 50 _,Uc 1 51 _,Uc 2 52 _,Uc 3 53 _,Uc 4 54 _,Uc 5 55 _,Uc 6 56 _,Uc 7 57 _,Uc 8 58 _,Uc 9 59 _,Uc 11 61 _,Uc 12 62 _,Uc 13 63 _,Uc 14 64 _,Uc 16 66 _,Uc 17 67 _,Uc 18 68 _,Uc 19 69 _,Uc 20 70 _,Uc 21 71 _,Uc 22 72 _,Uc 23 73 _,Uc 24 74 _,Uc 25 75 _,Uc 26 76 _,Uc 27 77 _,Uc 28 78 _,Uc 29 79 _,Uc 31 81 _,Uc 32 82 _,Uc 33 83 _,Uc 34 84 _,Uc 35 85 _,Uc 37 87 _,Uc 38 88 _,Uc 39 89 _,Uc 40 90 _,Uc 41 0 _] (.k (.k .z)) (.t 41 (.au (.kk .z))) ⟨mv,mv,mv,mv,Hg hs hs hs hs (pt rfl),bn,mv,gd λh=>fQ h,pk,mv,gd λh=>uu h,gd λh=>dw h,gd λh=>lB h,pk,mv,gd λh=>uu h,gd λh=>dw h,gd λh=>bd [.o .i,.o .i] [] (hp:=pg h rfl),gd λh=>bd [.o .i,.o .i] [(0,_)] (hp:=pg h rfl),gd λh=>bd [.o .i,.o .i] [(0,_),(1,_)] (hp:=pg h rfl),gd λh=>bd [.o .i,.o .i] [(0,_),(1,_)] (hp:=pg h rfl),gd λh=>bd [.o .i,.o .i] [(1,_)] (hp:=pg h rfl),gd λh=>RF h 26 OI [(0,dB (0,0)),(1,dB (4,0)),(2,dB (5,1)),(3,dB (1,5)),(4,dB (0,4))],gd λh=>Jn h (JR (K:=OI) (L:=OI)),pk,mv,gd λh=>fQ h,gd λh=>T5 h,pk,mv,gd λh=>uu h,gd λh=>lV 1 (hcd:=h) (hq:=by decide) (hp:=pg h rfl),gd λh=>Gb h (Cn ⟨#[50]⟩) (hφ:=⟨by kernel_rfl,by decide⟩),gd λh=>qG (neq:=false) (m:=⟨#[50]⟩) hg hg (pg h rfl),pk,mv,gd λh=>uu h,gd λh=>lV 2 (hcd:=h) (hq:=by decide) (hp:=pg h rfl),gd λh=>Gb h (Cn ⟨#[49]⟩) (hφ:=⟨by kernel_rfl,by decide⟩),gd λh=>qG (neq:=false) (m:=⟨#[49]⟩) hg hg (pg h rfl),pk,mv,trivial⟩ (.d (.d .z)) (.d8 (.d8 (.d8 (.d8 (.d8 (.bX (.k .z))))))) λa w hI=>?_
 refine aF ?_
 exact bL hI rfl (fh (hq:=cT (by kernel_rfl)))
end Wx
