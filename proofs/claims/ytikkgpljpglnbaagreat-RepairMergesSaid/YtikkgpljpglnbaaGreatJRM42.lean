import Derived.Test.YtikkgpljpglnbaaGreatJRM41
import Derived.Test.YtikkgpljpglnbaaGreatJRM38
namespace Wx
open Go Go.RowKit Go.Proofs
abbrev Jr (p:Pt):Fd:=⟨true,2,cq p⟩
section
variable {P:Program} {ops:Array Oper} {ms:List Nat} {c:cF} {V:List Vr} {A:List Al} {G:List aQ} {i d:Nat} {ty:TypeId} {pos:String} {aI:Array Edge}
theorem Gf (L:List Pt):∀(k:Nat) (f:Fd),(L.map Jr)[k]?=some f->f.p=cq (ae L k):=λk f hf=>by
 rw[List.getElem?_map]at hf
 unfold ae
 rw[List.getD_eq_getElem?_getD]
 cases h:L[k]? with
 |none=>rw[h]at hf; cases hf
 |some x=>
  rw[h]at hf
  injection hf with hf
  rw[<-hf]
  rfl
theorem Ol {T:TypeId} {n:Nat} {parts:Array (Nat×Operand)} (E:TypeId) (L:List Pt) (ps:List (Nat×Pred)) (hps:da ms G i (List.replicate n (Jr (0,0))) parts.toList ps:=by repeat' (first|exact trivial|refine⟨⟨rfl,Wx.hs,_,rfl,bC _⟩,?_⟩)) (Px:kT (List.replicate n (Jr (0,0))) ps=L.map Jr:=by rfl) (ht:lP P T E 2:=by exact⟨by kernel_rfl,λ_=>by kernel_rfl⟩) (yA:∀w,(zeroValue E).run P w=.ok (.agg (jo (0,0)).toArray) w:=by exactλ_=>by kernel_rfl) (hsz:decide (0<2/\0<n/\n*2<=16777216)=true:=by decide) (hp:Post G i (bz 2 true n λk=>cq (ae L k)):=by exact pt rfl):
  OpOk P ops ms c V A G i ⟨some d,.buildSlice T n parts,ty,pos,aI,none⟩:=
 gY (p:=cq (0,0)) (z:=jo (0,0)) ht yA rfl rfl hsz (λ_=>wT.2 rfl) rfl hps Px _ (Gf L) hp
theorem OB {φ:Prop} (hφ:φ) {T:TypeId} {n:Nat} {parts:Array (Nat×Operand)} (E:TypeId) (L:List Pt) (ps:List (Nat×Pred)) (hps:da ms G i (List.replicate n (Jr (0,0))) parts.toList ps:=by repeat' (first|exact trivial|refine⟨⟨rfl,Wx.hg,_,rfl,bC _⟩,?_⟩)) (Px:kT (List.replicate n (Jr (0,0))) ps=L.map Jr:=by rfl) (ht:lP P T E 2:=by exact⟨by kernel_rfl,λ_=>by kernel_rfl⟩) (yA:∀w,(zeroValue E).run P w=.ok (.agg (jo (0,0)).toArray) w:=by exactλ_=>by kernel_rfl) (hsz:decide (0<2/\0<n/\n*2<=16777216)=true:=by decide) (hp:Post G i (bz 2 true n λk=>cq (ae L k)):=by exact pg (by assumption) rfl):
  OpOk P ops ms c V A G i ⟨some d,.buildSlice T n parts,ty,pos,aI,none⟩:=(λ_:φ=>Ol E L ps hps Px ht yA hsz hp) hφ
end
end Wx

namespace Wx
open Go Go.RowKit Go.Proofs
abbrev D9 (a b:Pt):Prop:=a.1<b.1\/(a.1=b.1/\a.2<=b.2)
theorem Et {n:Nat} {L S:List Pt} (hn:∀q,q<n->cG 16777216 (ae L q)) (hp:S.Perm ((List.range n).map λi=>ae L i)) (hs:S.Pairwise D9):dr n L=S:=by
 have e1:(lK n L).toList.map (·.p)=(List.range n).map λi=>ae L i:=by
  unfold lK
  show List.map _ (List.map _ _)=_
  rw[List.map_map]
  exact List.map_congr_left λi hi=>xq (hn i (List.mem_range.1 hi))
 refine List.Perm.eq_of_pairwise (le:=D9) ?_ ?_ hs ?_
 ·intro a b _ _ h1 h2
  obtain⟨a1,a2⟩:=a
  obtain⟨b1,b2⟩:=b
  have h1:a1<b1\/(a1=b1/\a2<=b2):=h1
  have h2:b1<a1\/(b1=a1/\b2<=a2):=h2
  obtain rfl:a1=b1:=by omega
  obtain rfl:a2=b2:=by omega
  rfl
 ·unfold dr mJ
  show(List.map _ (List.mergeSort _ _)).Pairwise D9
  rw[List.pairwise_map]
  refine(List.pairwise_mergeSort (le:=λx y=>!(ltOf iQ) y x) ?_ ?_ _).imp λ{x y} h=>?_
  ·intro a b c h1 h2
   simp only[Bool.not_eq_true']at h1 h2 ⊢
   exact Kw.ntrans c b a h2 h1
  ·intro a b
   cases h:ltOf iQ b a with
   |false=>simp
   |true=>
    have:ltOf iQ a b=false:=by
     rw[lt_iff]at h
     rw[ja]
     omega
    simp[this]
  ·have h:ltOf iQ y x=false:=by simpa using h
   rw[ja]at h
   show x.p.1<y.p.1\/(x.p.1=y.p.1/\x.p.2<=y.p.2)
   omega
 ·unfold dr mJ
  refine((List.mergeSort_perm _ _).map _).trans ?_
  rw[e1]
  exact hp.symm
def Cp:List Pt:=[(0,0),(4,0),(0,4)]
def CY:List Pt:=[(1,1),(5,1),(1,5)]
def Jn:List Pt:=[(0,0),(0,4),(1,1),(1,5),(4,0),(5,1)]
def LA:List Pt:=[(0,0),(4,0),(5,1),(1,5),(0,4)]
theorem zS:rB (Cp++CY):=λq hq=>by
 have hq:q<6:=hq
 match q,hq with
 |0,_|1,_|2,_|3,_|4,_|5,_=>unfold cG; decide
theorem pn:sL (Cp++CY)=Jn:=Et zS (by decide) (by decide)
theorem C1:rL (Cp++CY)=[(5,1),(4,0),(1,5),(1,1),(0,4),(0,0)]:=by
 show dz 6 (sL (Cp++CY))=_
 rw[pn]
 decide
theorem Hj:ah Jn 6=[(0,0),(4,0),(5,1)]:=by decide
theorem Hl:ah [(5,1),(4,0),(1,5),(1,1),(0,4),(0,0)] 6=[(5,1),(1,5),(0,4),(0,0)]:=by decide
theorem Fz:tL (Cp++CY) where
 two:=by decide
 max:=by decide
 near:=zS
 ne:=by
  rw[pn]
  have h:∀k,k<6->1<=k->ae Jn k≠ae Jn (k-1):=by decide
  exactλk h1 h2=>h k h2 h1
 lo:=by
  rw[pn]
  show 2<=(ah Jn 6).length
  rw[Hj]
  decide
 up:=by
  rw[C1]
  show 2<=(ah [(5,1),(4,0),(1,5),(1,1),(0,4),(0,0)] 6).length
  rw[Hl]
  decide
theorem sU:qM (Cp++CY)=LA:=by
 unfold qM di
 rw[pn,C1]
 show(ah Jn 6).take ((ah Jn 6).length-1)++(ah [(5,1),(4,0),(1,5),(1,1),(0,4),(0,0)] 6).take ((ah [(5,1),(4,0),(1,5),(1,1),(0,4),(0,0)] 6).length-1)=_
 rw[Hj,Hl]
 decide
theorem Jp:ct Cp 1=0:=by decide
theorem Jq:ct CY 2=0:=by decide
theorem CZ:zx Cp CY 1 2:=⟨Jp,Jq,Fz,by rw[sU]; decide⟩
end Wx

namespace Wx
set_option maxRecDepth 100000
set_option maxHeartbeats 1000000
open Go Go.RowKit Go.Proofs
set_option linter.unusedVariables false
attribute [local irreducible] OpOk
def jY (ms:Nat->List Rat):Nat->List Rat
 |0=>[0,0,0]
 |k+1=>[(jY ms k).getD 0 0+(ms k).getD 0 0,(jY ms k).getD 1 0+(ms k).getD 0 0*(ms k).getD 1 0,(jY ms k).getD 2 0+(ms k).getD 0 0*(ms k).getD 2 0]
variable {ms:Nat->List Rat}
theorem Ew:∀k,(jY ms k).length=3
 |0=>rfl
 |_+1=>rfl
structure GZ (n j J:Nat) (ms:Nat->List Rat):Prop where
 len:1<=n/\n<=64
 bits:1<=J/\J<=1000000/\j<=1000000
 el:∀i,i<n->(ms i).length=3/\0<=B9 ((ms i).getD 0 0)
 bd:∀k q,k<=n->q<3->fo J ((jY ms k).getD q 0)
 some:(jY ms n).getD 0 0≠0
variable {j:Nat}
theorem BA {n J:Nat} (h:GZ n j J ms):K1 Tryz.prog 15 (bz 9 true n λi=>pV bq j (ms i)) (fl (pV bq (2*J) [(jY ms n).getD 0 0,(jY ms n).getD 1 0/(jY ms n).getD 0 0,(jY ms n).getD 2 0/(jY ms n).getD 0 0]) (pI 0)):=by
 intro M w0 v0 hM hv0
 have h1:=h.len
 have h2:=h.bits
 have hl:=Ew (ms:=ms)
 refine rY (N:=67) Tryz.func15 rfl rfl rfl hM hv0 λa hI=>?_
 refine bk hI 2 [⟨2,2,some 0,none,.ptr,49,9,true,pv _,[]⟩] [] [Uc 1 3 _] .z (.k .z) ⟨tn [.r,.r,.r],mv,trivial⟩ (.k .z) (.kk .z) λa w hI=>?_
 refine au ?_
 refine bk hI 8 [] [] [Uc 0 7 _,Uc 1 8 _,Uc 2 9 _,Uc 3 10 _,Uc 4 11 _,Uc 5 12 _,Uc 6 13 _,Uc 7 14 _] (.k .z) (.kk .z) ⟨mv,ln,bn,mv,gd λh=>iC h,gd λh=>OI h,gd λh=>oa h,pk,trivial⟩ (.k .z) (.dm (.cH (.dk .z))) λa w hI=>?_
 refine uR hI (λt1=>?_) (λt1=>?_)
 ·exfalso; simp only[Bool.or_eq_true,decide_eq_true_eq]at t1; omega
 refine ax ?_
 refine af ?_
 refine bk hI 1 [⟨4,4,some 0,none,.ptr,49,9,true,pv _,[]⟩] [] [] (.k .z) (.cE .z) ⟨Qc J 3,trivial⟩ (.k (.k .z)) (.TL .z) λa w hI=>?_
 refine au ?_
 refine bk hI 3 [] [] [Uc 0 16 _,Uc 1 17 _,Uc 2 18 _] (.k (.k .z)) (.kk .z) ⟨mv,ln,mv,trivial⟩ (.k (.k .z)) (.xY (.k .z)) λa w hI=>?_
 refine aF ?_
 refine sF [Vz 2 2 49 9 true _] [Uz 16 _,Uz 17 _] (λ(i:Nat)=>[Vz 4 4 49 9 true (pV bq J (jY ms i))]) (λ(i:Nat)=>[Uz 18 (pI (i:Int))]) (λ(i:Nat)=>i<=n) (λ(i:Nat)=>n-i) (0) (Nat.zero_le _) hI ⟨vi,vC (λ_ _ h=>h),trivial⟩ ⟨gi,gi,gc,trivial⟩ ?_
 intro i a w hi hI
 refine bk hI 1 [] [] [Uc 0 19 _] (.k (.k .z)) (.cE .z) ⟨bn,trivial⟩ (.k (.k .z)) (.aj .z) λa w hI=>?_
 refine au ?_
 refine gA hI (λt2=>?_) (λt2=>?_)
 ·
  refine ax ?_
  refine af ?_
  refine au ?_
  refine aF ?_
  have hl2:=(h.el i (by omega)).1
  have hs2:=(h.el i (by omega)).2
  have Aa:=hl i
  have hb0:fo J ((jY ms i).getD 0 0+(ms i).getD 0 0):=h.bd (i+1) 0 (by omega) (by decide)
  have hb1:fo J ((jY ms i).getD 1 0+(ms i).getD 0 0*(ms i).getD 1 0):=h.bd (i+1) 1 (by omega) (by decide)
  have hb2:fo J ((jY ms i).getD 2 0+(ms i).getD 0 0*(ms i).getD 2 0):=h.bd (i+1) 2 (by omega) (by decide)
  refine bk hI 4 [⟨6,6,some 2,none,.ptr,49,9,true,pv _,[(3,pv _)]⟩] [] [Uc 0 20 _,Uc 1 21 _] (.k (.k .z)) (.aj .z) ⟨ix,ld,tn [.r,.r,.r],mW,trivial⟩ (.k (.k (.s .o .z))) (.dx (.dd .z)) λa w hI=>?_
  refine au ?_
  refine bk hI 4 [] [⟨some 0,22,6,0,True⟩] [Uc 1 23 _,Uc 2 24 _,Uc 3 25 _] (.k (.k (.k .z))) (.cE .z) ⟨fa,lV 0,KI I7,bn,trivial⟩ (.k (.k (.k .z))) (.dx (.dk .z)) λa w hI=>?_
  refine gA hI (λt3=>?_) (λt3=>?_)
  ·exfalso; omega
  refine ax ?_
  refine af ?_
  refine NS hI [0,1,0,4,15,0,32,0,128,0,512,1951,4095,0,8192,0,32768,0,131072,499711,1048575,2097151,4194303] [] [⟨some 0,27,4,0,True⟩,⟨some 2,29,6,0,True⟩,⟨some 5,32,4,3,True⟩,⟨some 7,34,6,0,True⟩,⟨some 9,36,6,3,True⟩,⟨some 13,40,4,6,True⟩,⟨some 15,42,6,0,True⟩,⟨some 17,44,6,6,True⟩] [Uc 1 28 _,Uc 3 30 _,Uc 4 31 _,Uc 6 33 _,Uc 8 35 _,Uc 10 37 _,Uc 11 38 _,Uc 12 39 _,Uc 14 41 _,Uc 16 43 _,Uc 18 45 _,Uc 19 46 _,Uc 20 47 _,Uc 21 48 _] (.k (.u none [(22,pv _)] (.k .z))) (.aj .z) ⟨fa,lV 0,fa,lV 0,KJ (xK hb0),fa,lV 1,fa,lV 0,fa,lV 1,KJ G8,KJ (xK hb1),fa,lV 2,fa,lV 0,fa,lV 2,KJ G8,KJ (xK hb2),bd [.o .r,.o .r,.o .r] [(0,_),(1,_),(2,_)],mW,trivial⟩ (.k (.s .o (.d .z))) (.dx (.d8 (.cH (.dd .z)))) λa w hI=>?_
  refine aO ?_
  refine af ?_
  refine nw hI 2 [] [] [Uc 0 49 _,Uc 1 18 _] (.k (.k .z)) (.kk (.t 1 .z)) ⟨bn,mv,trivial⟩ (.k (.k .z)) (.dm (.k .z)) λa w hI=>?_
  refine af ?_
  exact nF (i+1) (by omega) hI ⟨vc,vC (nh.pV (nh.c (Nat.le_refl _) (nh.c (Nat.le_refl _) (nh.c (Nat.le_refl _) nh.z)))),trivial⟩ ⟨gc,gc,gc,trivial⟩ (by omega)
 ·
  refine bO ?_
  refine aB ?_
  refine aB ?_
  refine aR ?_
  refine af ?_
  refine au ?_
  obtain rfl:i=n:=by omega
  have Aa:=hl i
  refine bk hI 3 [] [⟨some 0,50,4,0,True⟩] [Uc 1 51 _,Uc 2 52 _] (.k (.k .z)) (.aj .z) ⟨fa,lV 0,KI I8,trivial⟩ (.k (.k .z)) (.cH (.dk .z)) λa w hI=>?_
  refine gA hI (λt4=>?_) (λt4=>?_)
  ·exfalso; exact h.some t4
  refine ax ?_
  refine af ?_
  refine AZ hI [0,1,0,4,0,16,60,0,128,0,512,2044,4095,8191,16383] [] [⟨some 0,54,4,0,True⟩,⟨some 2,56,4,3,True⟩,⟨some 4,58,4,0,True⟩,⟨some 7,61,4,6,True⟩,⟨some 9,63,4,0,True⟩] [Uc 1 55 _,Uc 3 57 _,Uc 5 59 _,Uc 6 60 _,Uc 8 62 _,Uc 10 64 _,Uc 11 65 _,Uc 12 66 _,Uc 14 3 _] (.u none [(13,pv _)] (.k .z)) (.k .z) ⟨fa,lV 0,fa,lV 1,fa,lV 0,ES Ec,fa,lV 2,fa,lV 0,ES Ec,bd [.o .r,.o .r,.o .r] [(0,_),(1,_),(2,_)],mW,mv,trivial⟩ (.s .o (.d .z)) (.d8 (.dk .z)) λa w hI=>?_
  refine aH ?_
  exact lY hI rfl xx fR
theorem zG {x:Rat} (s:ByteArray) (h:strOf (gO x)=s/\j<=100000000):∀w v1,pR j x w v1->Calls Tryz.prog 17 #[v1] w (iw (bg (.string s)) w):=λw v1 h1=>(B7 w v1 x h1.2 h1.1 h.2).mono λ_ _ hr=>by rw[<-h.1]; exact yZ hr
theorem GX (_:True):K2 Tryz.prog 7 (eR Cp 1) (eR CY 2) (fl (eR LA 2) (pI 0)):=by
 have k:=F7 CZ
 rw[sU]at k
 exact k
def Ns (i:Nat):List Rat:=if i=0 then[1,0,0]else[1,4,2]
theorem Jo:GZ 2 64 64 Ns where
 len:=by decide
 bits:=by decide
 el i hi:=by
  match i,hi with
  |0,_=>exact⟨rfl,by decide⟩
  |1,_=>exact⟨rfl,by decide⟩
 bd k q hk hq:=by
  have key:∀k,k<=2->∀q,q<3->((jY Ns k).getD q 0).num.natAbs<2^64/\((jY Ns k).getD q 0).den<2^64:=by decide +kernel
  exact key k hk q hq
 some:=by decide +kernel
end Wx

namespace Wx
set_option maxRecDepth 100000
set_option maxHeartbeats 1000000
open Go Go.RowKit Go.Proofs
set_option linter.unusedVariables false
attribute [local irreducible] OpOk
theorem wk (h:True):K0 Tryz.prog 6 (pB true):=by
 intro M w0 hM
 refine Qx (N:=91) Tryz.func6 rfl rfl rfl hM λa hI=>?_
 refine aZ hI 1 [Uc 0 0 _] .z ⟨mv,trivial⟩ (.k .z) λa w hI=>?_
 refine bk hI 7 [⟨1,1,some 5,none,.ptr,24,2,true,pv _,[(6,pv _)]⟩] [] [Uc 0 11 _,Uc 1 12 _,Uc 2 13 _,Uc 3 14 _,Uc 4 15 _] .z (.k .z) ⟨bd [.o .i,.o .i] [],bd [.o .i,.o .i] [(0,_)],bd [.o .i,.o .i] [(1,_)],Ol 38 Cp [(0,cq (0,0)),(1,cq (4,0)),(2,cq (0,4))],bd [.o .n,.o .i] [(0,_),(1,_)],tn [.n,.i],mW,trivial⟩ (.s .o .z) (.fF (.dd .z)) λa w hI=>?_
 refine bk hI 7 [⟨2,2,some 5,none,.ptr,24,2,true,pv _,[(6,pv _)]⟩] [] [Uc 0 16 _,Uc 1 17 _,Uc 2 18 _,Uc 3 19 _,Uc 4 20 _] (.k .z) (.k .z) ⟨bd [.o .i,.o .i] [(0,_),(1,_)],bd [.o .i,.o .i] [(0,_),(1,_)],bd [.o .i,.o .i] [(0,_),(1,_)],Ol 38 CY [(0,cq (1,1)),(1,cq (5,1)),(2,cq (1,5))],bd [.o .n,.o .i] [(0,_),(1,_)],tn [.n,.i],mW,trivial⟩ (.k (.s .o .z)) (.fF (.dd .z)) λa w hI=>?_
 refine bk hI 8 [] [] [Uc 0 22 _,Uc 1 23 _,Uc 2 24 _,Uc 3 21 _,Uc 4 25 _,Uc 5 26 _,Uc 6 3 _,Uc 7 4 _] (.k (.k .z)) (.k .z) ⟨ld,bd [.o .i,.o .i] [(0,_),(1,_)],ES (Dq (L:=Cp) (d:=1) (p:=(2,2))),mv,ext,ext,mv,mv,trivial⟩ (.k (.k .z)) (.fF (.dL (.k .z))) λa w hI=>?_
 refine bk hI 9 [⟨5,5,some 6,none,.ptr,24,2,true,pv _,[(7,pv _)]⟩] [] [Uc 0 28 _,Uc 1 29 _,Uc 2 30 _,Uc 3 27 _,Uc 4 31 _,Uc 5 32 _,Uc 8 6 _] (.k (.k .z)) (.cE .z) ⟨ld,ld,ES GX,mv,ext,ext,tn [.n,.i],mW,mv,trivial⟩ (.k (.k (.s .o .z))) (.dx (.cH (.dk .z))) λa w hI=>?_
 refine bk hI 8 [] [] [Uc 0 34 _,Uc 1 35 _,Uc 2 36 _,Uc 3 33 _,Uc 4 37 _,Uc 5 38 _,Uc 6 7 _,Uc 7 8 _] (.k (.k (.k .z))) (.aj .z) ⟨ld,ld,Ln (F6 (K:=Cp) (L:=CY) (k:=1) (l:=2) (f:=1)),mv,ext,ext,mv,mv,trivial⟩ (.d (.d (.k .z))) (.aj (.cH (.oF .z))) λa w hI=>?_
 refine bk hI 14 [⟨9,9,some 11,none,.ptr,49,9,true,pv _,[(12,pv _)]⟩] [] [Uc 0 40 _,Uc 1 41 _,Uc 2 42 _,Uc 3 43 _,Uc 4 44 _,Uc 5 45 _,Uc 6 46 _,Uc 7 47 _,Uc 8 39 _,Uc 9 48 _,Uc 10 49 _,Uc 13 10 _] (.k .z) (.aj (.kk .z)) ⟨KI zF,bd [.o .r,.o .r,.o .r] [(0,_)],KI zF,KI zF,KI zF,bd [.o .r,.o .r,.o .r] [(0,_),(1,_),(2,_)],KH (p:=pV bq 64 [1,0,0]) (q:=pV bq 64 [1,4,2]) (zv:=.agg ([Zl.r,.r,.r].flatMap Zl.cs).toArray) 49 ([Zl.r,.r,.r].flatMap Zl.cs) (λi=>pV bq 64 (Ns i)) (po (λ_=>mb) rfl) (po (λ_=>mb) rfl) (h1:=(hs).imp (nh.pV (nh.c (by decide) (nh.c (by decide) (nh.c (by decide) nh.z))))) (h2:=(hs).imp (nh.pV (nh.c (by decide) (nh.c (by decide) (nh.c (by decide) nh.z))))),uN BA (hφ:=Jo),mv,ext,ext,tn [.r,.r,.r],mW,mv,trivial⟩ (.k (.s .o .z)) (.aj (.dm (.d8 (.dk .z)))) λa w hI=>?_
 refine bk hI 42 [] [⟨some 10,60,5,1,_⟩,⟨some 15,65,5,0,_⟩,⟨some 30,80,9,3,_⟩,⟨some 36,86,9,6,_⟩] [Uc 0 50 _,Uc 1 51 _,Uc 2 52 _,Uc 3 53 _,Uc 4 54 _,Uc 5 55 _,Uc 6 56 _,Uc 7 57 _,Uc 8 58 _,Uc 9 59 _,Uc 11 61 _,Uc 12 62 _,Uc 13 63 _,Uc 14 64 _,Uc 16 66 _,Uc 17 67 _,Uc 18 68 _,Uc 19 69 _,Uc 20 70 _,Uc 21 71 _,Uc 22 72 _,Uc 23 73 _,Uc 24 74 _,Uc 25 75 _,Uc 26 76 _,Uc 27 77 _,Uc 28 78 _,Uc 29 79 _,Uc 31 81 _,Uc 32 82 _,Uc 33 83 _,Uc 34 84 _,Uc 35 85 _,Uc 37 87 _,Uc 38 88 _,Uc 39 89 _,Uc 40 90 _,Uc 41 0 _] (.k (.k .z)) (.t 41 (.aj (.kk .z))) ⟨mv,mv,mv,mv,DV hs hs hs hs (pt rfl),bn,mv,gd λh=>iC h,pk,mv,gd λh=>FC h,gd λh=>pz h,gd λh=>oa h,pk,mv,gd λh=>FC h,gd λh=>pz h,gd λh=>bd [.o .i,.o .i] [] (hp:=pg h rfl),gd λh=>bd [.o .i,.o .i] [(0,_)] (hp:=pg h rfl),gd λh=>bd [.o .i,.o .i] [(0,_),(1,_)] (hp:=pg h rfl),gd λh=>bd [.o .i,.o .i] [(0,_),(1,_)] (hp:=pg h rfl),gd λh=>bd [.o .i,.o .i] [(1,_)] (hp:=pg h rfl),gd λh=>OB h 38 LA [(0,cq (0,0)),(1,cq (4,0)),(2,cq (5,1)),(3,cq (1,5)),(4,cq (0,4))],gd λh=>ye h (Aj (K:=LA) (L:=LA)),pk,mv,gd λh=>iC h,gd λh=>Q9 h,pk,mv,gd λh=>FC h,gd λh=>lV 1 (hcd:=h) (hq:=by decide) (hp:=pg h rfl),gd λh=>LG h (zG ⟨#[50]⟩) (hφ:=⟨by kernel_rfl,by decide⟩),gd λh=>ow (neq:=false) (m:=⟨#[50]⟩) hg hg (pg h rfl),pk,mv,gd λh=>FC h,gd λh=>lV 2 (hcd:=h) (hq:=by decide) (hp:=pg h rfl),gd λh=>LG h (zG ⟨#[49]⟩) (hφ:=⟨by kernel_rfl,by decide⟩),gd λh=>ow (neq:=false) (m:=⟨#[49]⟩) hg hg (pg h rfl),pk,mv,trivial⟩ (.d (.d .z)) (.d8 (.d8 (.d8 (.d8 (.d8 (.cH (.k .z))))))) λa w hI=>?_
 refine aH ?_
 exact cT hI rfl (fR (hq:=kS (by kernel_rfl)))
end Wx

namespace Wx
open Go Go.RowKit Go.Proofs
set_option linter.unusedVariables false
section
theorem BX {L:List Pt} (h:dJ L=0):2<L.length/\(∀k,k<L.length -> -1048576<=(ae L k).1/\(ae L k).1<=1048576 /\ -1048576<=(ae L k).2/\(ae L k).2<=1048576)/\∀k,k<L.length->gU L k:=by
 unfold dJ at h
 by_cases h1:mA L=true
 ·rw[if_pos h1]at h; exact absurd h (by decide)
 rw[if_neg h1]at h
 by_cases h2:qw L>=0
 ·rw[if_pos h2]at h; exact absurd h (by decide)
 rw[if_neg h2]at h
 by_cases h3:∀k,k<L.length->gU L k
 ·refine⟨?_,λk hk=>?_,h3⟩
  ·unfold mA at h1
   simp only[Bool.or_eq_true,decide_eq_true_eq]at h1
   omega
  ·have:=iD h2 k hk
   unfold ua Bn at this
   simp only[Bool.or_eq_false_iff,decide_eq_false_iff_not]at this
   omega
 ·rw[if_neg h3]at h; exact absurd h (by decide)
end
end Wx
