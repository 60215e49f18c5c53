import Derived.Test.YtikkgpljpglnbaaGreatJRM39
namespace Wx
open Go Go.RowKit Go.Proofs
abbrev LS (p:Pt):Fd:=⟨true,2,cT p⟩
section
variable {P:Program} {ops:Array Oper} {ms:List Nat} {c:cM} {V:List Vr} {A:List Al} {G:List aV} {i d:Nat} {ty:TypeId} {pos:String} {aL:Array Edge}
theorem Jl (L:List Pt):∀(k:Nat) (f:Fd),(L.map LS)[k]?=some f->f.p=cT (ae L k):=λk f hf=>by
 rw[List.getElem?_map]at hf
 unfold ae
 rw[List.getD_eq_getElem?_getD]
 cases h:L[k]? with
 |none=>rw[h]at hf; cases hf
 |some x=>
  rw[h]at hf
  injection hf with hf
  rw[<-hf]
  rfl
theorem Re {T:TypeId} {n:Nat} {parts:Array (Nat×Operand)} (E:TypeId) (L:List Pt) (ps:List (Nat×Pred)) (hps:dI ms G i (List.replicate n (LS (0,0))) parts.toList ps:=by repeat' (first|exact trivial|refine⟨⟨rfl,Wx.hs,_,rfl,cm _⟩,?_⟩)) (Sm:mF (List.replicate n (LS (0,0))) ps=L.map LS:=by rfl) (ht:pD P T E 2:=by exact⟨by kernel_rfl,λ_=>by kernel_rfl⟩) (DC:∀w,(zeroValue E).run P w=.ok (.agg (sr (0,0)).toArray) w:=by exactλ_=>by kernel_rfl) (hsz:decide (0<2/\0<n/\n*2<=16777216)=true:=by decide) (hp:Post G i (bK 2 true n λk=>cT (ae L k)):=by exact pt rfl):
  OpOk P ops ms c V A G i ⟨some d,.buildSlice T n parts,ty,pos,aL,none⟩:=
 jg (p:=cT (0,0)) (z:=sr (0,0)) ht DC rfl rfl hsz (λ_=>zn.2 rfl) rfl hps Sm _ (Jl L) hp
theorem Rx {φ:Prop} (hφ:φ) {T:TypeId} {n:Nat} {parts:Array (Nat×Operand)} (E:TypeId) (L:List Pt) (ps:List (Nat×Pred)) (hps:dI ms G i (List.replicate n (LS (0,0))) parts.toList ps:=by repeat' (first|exact trivial|refine⟨⟨rfl,Wx.hg,_,rfl,cm _⟩,?_⟩)) (Sm:mF (List.replicate n (LS (0,0))) ps=L.map LS:=by rfl) (ht:pD P T E 2:=by exact⟨by kernel_rfl,λ_=>by kernel_rfl⟩) (DC:∀w,(zeroValue E).run P w=.ok (.agg (sr (0,0)).toArray) w:=by exactλ_=>by kernel_rfl) (hsz:decide (0<2/\0<n/\n*2<=16777216)=true:=by decide) (hp:Post G i (bK 2 true n λk=>cT (ae L k)):=by exact pg (by assumption) rfl):
  OpOk P ops ms c V A G i ⟨some d,.buildSlice T n parts,ty,pos,aL,none⟩:=(λ_:φ=>Re E L ps hps Sm ht DC hsz hp) hφ
end
end Wx

namespace Wx
open Go Go.RowKit Go.Proofs
abbrev GH (a b:Pt):Prop:=a.1<b.1\/(a.1=b.1/\a.2<=b.2)
theorem zJ {n:Nat} {L S:List Pt} (hn:∀q,q<n->bG 16777216 (ae L q)) (hp:S.Perm ((List.range n).map λi=>ae L i)) (hs:S.Pairwise GH):dN n L=S:=by
 have e1:(nA n L).toList.map (·.p)=(List.range n).map λi=>ae L i:=by
  unfold nA
  show List.map _ (List.map _ _)=_
  rw[List.map_map]
  exact List.map_congr_left λi hi=>zQ (hn i (List.mem_range.1 hi))
 refine List.Perm.eq_of_pairwise (le:=GH) ?_ ?_ hs ?_
 ·intro a b _ _ h1 h2
  obtain⟨a1,a2⟩:=a
  obtain⟨b1,b2⟩:=b
  have h1:a1<b1\/(a1=b1/\a2<=b2):=h1
  have h2:b1<a1\/(b1=a1/\b2<=a2):=h2
  obtain rfl:a1=b1:=by omega
  obtain rfl:a2=b2:=by omega
  rfl
 ·unfold dN oH
  show(List.map _ (List.mergeSort _ _)).Pairwise GH
  rw[List.pairwise_map]
  refine(List.pairwise_mergeSort (le:=λx y=>!(ltOf jG) y x) ?_ ?_ _).imp λ{x y} h=>?_
  ·intro a b c h1 h2
   simp only[Bool.not_eq_true']at h1 h2 ⊢
   exact Nh.ntrans c b a h2 h1
  ·intro a b
   cases h:ltOf jG b a with
   |false=>simp
   |true=>
    have:ltOf jG a b=false:=by
     rw[lt_iff]at h
     rw[jU]
     omega
    simp[this]
  ·have h:ltOf jG y x=false:=by simpa using h
   rw[jU]at h
   show x.p.1<y.p.1\/(x.p.1=y.p.1/\x.p.2<=y.p.2)
   omega
 ·unfold dN oH
  refine((List.mergeSort_perm _ _).map _).trans ?_
  rw[e1]
  exact hp.symm
def Ex:List Pt:=[(0,0),(4,0),(0,4)]
def Fi:List Pt:=[(1,1),(5,1),(1,5)]
def LO:List Pt:=[(0,0),(0,4),(1,1),(1,5),(4,0),(5,1)]
def OA:List Pt:=[(0,0),(4,0),(5,1),(1,5),(0,4)]
theorem Ch:tq (Ex++Fi):=λq hq=>by
 have hq:q<6:=hq
 match q,hq with
 |0,_|1,_|2,_|3,_|4,_|5,_=>unfold bG; decide
theorem ri:sL (Ex++Fi)=LO:=zJ Ch (by decide) (by decide)
theorem Fk:rL (Ex++Fi)=[(5,1),(4,0),(1,5),(1,1),(0,4),(0,0)]:=by
 show dV 6 (sL (Ex++Fi))=_
 rw[ri]
 decide
theorem Kk:aj LO 6=[(0,0),(4,0),(5,1)]:=by decide
theorem Kl:aj [(5,1),(4,0),(1,5),(1,1),(0,4),(0,0)] 6=[(5,1),(1,5),(0,4),(0,0)]:=by decide
theorem ID:vQ (Ex++Fi) where
 two:=by decide
 max:=by decide
 near:=Ch
 ne:=by
  rw[ri]
  have h:∀k,k<6->1<=k->ae LO k≠ae LO (k-1):=by decide
  exactλk h1 h2=>h k h2 h1
 lo:=by
  rw[ri]
  show 2<=(aj LO 6).length
  rw[Kk]
  decide
 up:=by
  rw[Fk]
  show 2<=(aj [(5,1),(4,0),(1,5),(1,1),(0,4),(0,0)] 6).length
  rw[Kl]
  decide
theorem uQ:sM (Ex++Fi)=OA:=by
 unfold sM dL
 rw[ri,Fk]
 show(aj LO 6).take ((aj LO 6).length-1)++(aj [(5,1),(4,0),(1,5),(1,1),(0,4),(0,0)] 6).take ((aj [(5,1),(4,0),(1,5),(1,1),(0,4),(0,0)] 6).length-1)=_
 rw[Kk,Kl]
 decide
theorem LQ:aR Ex 1=0:=by decide
theorem LR:aR Fi 2=0:=by decide
theorem Fj:BV Ex Fi 1 2:=⟨LQ,LR,ID,by rw[uQ]; decide⟩
end Wx

namespace Wx
set_option maxRecDepth 100000
set_option maxHeartbeats 1000000
open Go Go.RowKit Go.Proofs
set_option linter.unusedVariables false
attribute [local irreducible] OpOk
def lI (ms:Nat->List Rat):Nat->List Rat
 |0=>[0,0,0]
 |k+1=>[(lI ms k).getD 0 0+(ms k).getD 0 0,(lI ms k).getD 1 0+(ms k).getD 0 0*(ms k).getD 1 0,(lI ms k).getD 2 0+(ms k).getD 0 0*(ms k).getD 2 0]
variable {ms:Nat->List Rat}
theorem G3:∀k,(lI ms k).length=3
 |0=>rfl
 |_+1=>rfl
structure J5 (n j J:Nat) (ms:Nat->List Rat):Prop where
 len:1<=n/\n<=64
 bits:1<=J/\J<=1000000/\j<=1000000
 el:∀i,i<n->(ms i).length=3/\0<=dr ((ms i).getD 0 0)
 bd:∀k q,k<=n->q<3->fB J ((lI ms k).getD q 0)
 some:(lI ms n).getD 0 0≠0
variable {j:Nat}
theorem DG {n J:Nat} (h:J5 n j J ms):K1 Tryz.prog 15 (bK 9 true n λi=>pV bu j (ms i)) (fJ (pV bu (2*J) [(lI ms n).getD 0 0,(lI ms n).getD 1 0/(lI ms n).getD 0 0,(lI ms n).getD 2 0/(lI ms n).getD 0 0]) (pI 0)):=by
 intro M w0 v0 hM hv0
 have h1:=h.len
 have h2:=h.bits
 have hl:=G3 (ms:=ms)
 refine uA (N:=67) Tryz.func15 rfl rfl rfl hM hv0 λa hI=>?_
 refine aW hI 2 [⟨2,2,some 0,none,.ptr,49,9,true,pv _,[]⟩] [] [Uc 1 3 _] .z (.k .z) ⟨pY [.r,.r,.r],mv,trivial⟩ (.k .z) (.kk .z) λa w hI=>?_
 refine av ?_
 refine aW hI 8 [] [] [Uc 0 7 _,Uc 1 8 _,Uc 2 9 _,Uc 3 10 _,Uc 4 11 _,Uc 5 12 _,Uc 6 13 _,Uc 7 14 _] (.k .z) (.kk .z) ⟨mv,ln,bn,mv,gd λh=>gZ h,gd λh=>T9 h,gd λh=>mA h,pk,trivial⟩ (.k .z) (.dx (.bL (.dk .z))) λa w hI=>?_
 refine uz hI (λt1=>?_) (λt1=>?_)
 ·exfalso; simp only[Bool.or_eq_true,decide_eq_true_eq]at t1; omega
 refine aB ?_
 refine ah ?_
 refine aW hI 1 [⟨4,4,some 0,none,.ptr,49,9,true,pv _,[]⟩] [] [] (.k .z) (.cQ .z) ⟨Tf J 3,trivial⟩ (.k (.k .z)) (.UJ .z) λa w hI=>?_
 refine av ?_
 refine aW hI 3 [] [] [Uc 0 16 _,Uc 1 17 _,Uc 2 18 _] (.k (.k .z)) (.kk .z) ⟨mv,ln,mv,trivial⟩ (.k (.k .z)) (.qJ (.k .z)) λa w hI=>?_
 refine aD ?_
 refine vL [Vz 2 2 49 9 true _] [Uz 16 _,Uz 17 _] (λ(i:Nat)=>[Vz 4 4 49 9 true (pV bu J (lI ms i))]) (λ(i:Nat)=>[Uz 18 (pI (i:Int))]) (λ(i:Nat)=>i<=n) (λ(i:Nat)=>n-i) (0) (Nat.zero_le _) hI ⟨vi,vC (λ_ _ h=>h),trivial⟩ ⟨gi,gi,gc,trivial⟩ ?_
 intro i a w hi hI
 refine aW hI 1 [] [] [Uc 0 19 _] (.k (.k .z)) (.cQ .z) ⟨bn,trivial⟩ (.k (.k .z)) (.aq .z) λa w hI=>?_
 refine av ?_
 refine iK hI (λt2=>?_) (λt2=>?_)
 ·
  refine aB ?_
  refine ah ?_
  refine av ?_
  refine aD ?_
  have hl2:=(h.el i (by omega)).1
  have hs2:=(h.el i (by omega)).2
  have Cn:=hl i
  have hb0:fB J ((lI ms i).getD 0 0+(ms i).getD 0 0):=h.bd (i+1) 0 (by omega) (by decide)
  have hb1:fB J ((lI ms i).getD 1 0+(ms i).getD 0 0*(ms i).getD 1 0):=h.bd (i+1) 1 (by omega) (by decide)
  have hb2:fB J ((lI ms i).getD 2 0+(ms i).getD 0 0*(ms i).getD 2 0):=h.bd (i+1) 2 (by omega) (by decide)
  refine aW hI 4 [⟨6,6,some 2,none,.ptr,49,9,true,pv _,[(3,pv _)]⟩] [] [Uc 0 20 _,Uc 1 21 _] (.k (.k .z)) (.aq .z) ⟨ix,ld,pY [.r,.r,.r],kI,trivial⟩ (.k (.k (.s .o .z))) (.dg (.dd .z)) λa w hI=>?_
  refine av ?_
  refine aW hI 4 [] [⟨some 0,22,6,0,True⟩] [Uc 1 23 _,Uc 2 24 _,Uc 3 25 _] (.k (.k (.k .z))) (.cQ .z) ⟨fa,lV 0,LI Lr,bn,trivial⟩ (.k (.k (.k .z))) (.dg (.dk .z)) λa w hI=>?_
  refine iK hI (λt3=>?_) (λt3=>?_)
  ·exfalso; omega
  refine aB ?_
  refine ah ?_
  refine Tw hI [0,1,0,4,15,0,32,0,128,0,512,1951,4095,0,8192,0,32768,0,131072,499711,1048575,2097151,4194303] [] [⟨some 0,27,4,0,True⟩,⟨some 2,29,6,0,True⟩,⟨some 5,32,4,3,True⟩,⟨some 7,34,6,0,True⟩,⟨some 9,36,6,3,True⟩,⟨some 13,40,4,6,True⟩,⟨some 15,42,6,0,True⟩,⟨some 17,44,6,6,True⟩] [Uc 1 28 _,Uc 3 30 _,Uc 4 31 _,Uc 6 33 _,Uc 8 35 _,Uc 10 37 _,Uc 11 38 _,Uc 12 39 _,Uc 14 41 _,Uc 16 43 _,Uc 18 45 _,Uc 19 46 _,Uc 20 47 _,Uc 21 48 _] (.k (.u none [(22,pv _)] (.k .z))) (.aq .z) ⟨fa,lV 0,fa,lV 0,Ht (Ab hb0),fa,lV 1,fa,lV 0,fa,lV 1,Ht xE,Ht (Ab hb1),fa,lV 2,fa,lV 0,fa,lV 2,Ht xE,Ht (Ab hb2),bd [.o .r,.o .r,.o .r] [(0,_),(1,_),(2,_)],kI,trivial⟩ (.k (.s .o (.d .z))) (.dg (.d8 (.bL (.dd .z)))) λa w hI=>?_
  refine aQ ?_
  refine ah ?_
  refine tX hI 2 [] [] [Uc 0 49 _,Uc 1 18 _] (.k (.k .z)) (.kk (.t 1 .z)) ⟨bn,mv,trivial⟩ (.k (.k .z)) (.dx (.k .z)) λa w hI=>?_
  refine ah ?_
  exact uq (i+1) (by omega) hI ⟨vc,vC (po.pV (po.c (Nat.le_refl _) (po.c (Nat.le_refl _) (po.c (Nat.le_refl _) po.z)))),trivial⟩ ⟨gc,gc,gc,trivial⟩ (by omega)
 ·
  refine cj ?_
  refine aH ?_
  refine aH ?_
  refine aY ?_
  refine ah ?_
  refine av ?_
  obtain rfl:i=n:=by omega
  have Cn:=hl i
  refine aW hI 3 [] [⟨some 0,50,4,0,True⟩] [Uc 1 51 _,Uc 2 52 _] (.k (.k .z)) (.aq .z) ⟨fa,lV 0,LI Ls,trivial⟩ (.k (.k .z)) (.bL (.dk .z)) λa w hI=>?_
  refine iK hI (λt4=>?_) (λt4=>?_)
  ·exfalso; exact h.some t4
  refine aB ?_
  refine ah ?_
  refine BP hI [0,1,0,4,0,16,60,0,128,0,512,2044,4095,8191,16383] [] [⟨some 0,54,4,0,True⟩,⟨some 2,56,4,3,True⟩,⟨some 4,58,4,0,True⟩,⟨some 7,61,4,6,True⟩,⟨some 9,63,4,0,True⟩] [Uc 1 55 _,Uc 3 57 _,Uc 5 59 _,Uc 6 60 _,Uc 8 62 _,Uc 10 64 _,Uc 11 65 _,Uc 12 66 _,Uc 14 3 _] (.u none [(13,pv _)] (.k .z)) (.k .z) ⟨fa,lV 0,fa,lV 1,fa,lV 0,wj GK,fa,lV 2,fa,lV 0,wj GK,bd [.o .r,.o .r,.o .r] [(0,_),(1,_),(2,_)],kI,mv,trivial⟩ (.s .o (.d .z)) (.d8 (.dk .z)) λa w hI=>?_
  refine aJ ?_
  exact kT hI rfl xj fK
theorem B3 {x:Rat} (s:ByteArray) (h:strOf (iY x)=s/\j<=100000000):∀w v1,pR j x w v1->Calls Tryz.prog 17 #[v1] w (jb (bp (.string s)) w):=λw v1 h1=>(Ef w v1 x h1.2 h1.1 h.2).mono λ_ _ hr=>by rw[<-h.1]; exact wY hr
theorem J3 (_:True):K2 Tryz.prog 7 (fE Ex 1) (fE Fi 2) (fJ (fE OA 2) (pI 0)):=by
 have k:=Jd Fj
 rw[uQ]at k
 exact k
def Qo (i:Nat):List Rat:=if i=0 then[1,0,0]else[1,4,2]
theorem LP:J5 2 64 64 Qo where
 len:=by decide
 bits:=by decide
 el i hi:=by
  match i,hi with
  |0,_=>exact⟨rfl,by decide⟩
  |1,_=>exact⟨rfl,by decide⟩
 bd k q hk hq:=by
  have key:∀k,k<=2->∀q,q<3->((lI Qo k).getD q 0).num.natAbs<2^64/\((lI Qo k).getD q 0).den<2^64:=by decide +kernel
  exact key k hk q hq
 some:=by decide +kernel
end Wx

namespace Wx
set_option maxRecDepth 100000
set_option maxHeartbeats 1000000
open Go Go.RowKit Go.Proofs
set_option linter.unusedVariables false
attribute [local irreducible] OpOk
theorem yL (h:True):K0 Tryz.prog 6 (pB true):=by
 intro M w0 hM
 refine TB (N:=91) Tryz.func6 rfl rfl rfl hM λa hI=>?_
 refine bH hI 1 [Uc 0 0 _] .z ⟨mv,trivial⟩ (.k .z) λa w hI=>?_
 refine aW hI 7 [⟨1,1,some 5,none,.ptr,24,2,true,pv _,[(6,pv _)]⟩] [] [Uc 0 11 _,Uc 1 12 _,Uc 2 13 _,Uc 3 14 _,Uc 4 15 _] .z (.k .z) ⟨bd [.o .i,.o .i] [],bd [.o .i,.o .i] [(0,_)],bd [.o .i,.o .i] [(1,_)],Re 38 Ex [(0,cT (0,0)),(1,cT (4,0)),(2,cT (0,4))],bd [.o .n,.o .i] [(0,_),(1,_)],pY [.n,.i],kI,trivial⟩ (.s .o .z) (.fN (.dd .z)) λa w hI=>?_
 refine aW hI 7 [⟨2,2,some 5,none,.ptr,24,2,true,pv _,[(6,pv _)]⟩] [] [Uc 0 16 _,Uc 1 17 _,Uc 2 18 _,Uc 3 19 _,Uc 4 20 _] (.k .z) (.k .z) ⟨bd [.o .i,.o .i] [(0,_),(1,_)],bd [.o .i,.o .i] [(0,_),(1,_)],bd [.o .i,.o .i] [(0,_),(1,_)],Re 38 Fi [(0,cT (1,1)),(1,cT (5,1)),(2,cT (1,5))],bd [.o .n,.o .i] [(0,_),(1,_)],pY [.n,.i],kI,trivial⟩ (.k (.s .o .z)) (.fN (.dd .z)) λa w hI=>?_
 refine aW hI 8 [] [] [Uc 0 22 _,Uc 1 23 _,Uc 2 24 _,Uc 3 21 _,Uc 4 25 _,Uc 5 26 _,Uc 6 3 _,Uc 7 4 _] (.k (.k .z)) (.k .z) ⟨ld,bd [.o .i,.o .i] [(0,_),(1,_)],wj (kZ (L:=Ex) (d:=1) (p:=(2,2))),mv,ext,ext,mv,mv,trivial⟩ (.k (.k .z)) (.fN (.ew (.k .z))) λa w hI=>?_
 refine aW hI 9 [⟨5,5,some 6,none,.ptr,24,2,true,pv _,[(7,pv _)]⟩] [] [Uc 0 28 _,Uc 1 29 _,Uc 2 30 _,Uc 3 27 _,Uc 4 31 _,Uc 5 32 _,Uc 8 6 _] (.k (.k .z)) (.cQ .z) ⟨ld,ld,wj J3,mv,ext,ext,pY [.n,.i],kI,mv,trivial⟩ (.k (.k (.s .o .z))) (.dg (.bL (.dk .z))) λa w hI=>?_
 refine aW hI 8 [] [] [Uc 0 34 _,Uc 1 35 _,Uc 2 36 _,Uc 3 33 _,Uc 4 37 _,Uc 5 38 _,Uc 6 7 _,Uc 7 8 _] (.k (.k (.k .z))) (.aq .z) ⟨ld,ld,xR (Jc (K:=Ex) (L:=Fi) (k:=1) (l:=2) (f:=1)),mv,ext,ext,mv,mv,trivial⟩ (.d (.d (.k .z))) (.aq (.bL (.jI .z))) λa w hI=>?_
 refine aW hI 14 [⟨9,9,some 11,none,.ptr,49,9,true,pv _,[(12,pv _)]⟩] [] [Uc 0 40 _,Uc 1 41 _,Uc 2 42 _,Uc 3 43 _,Uc 4 44 _,Uc 5 45 _,Uc 6 46 _,Uc 7 47 _,Uc 8 39 _,Uc 9 48 _,Uc 10 49 _,Uc 13 10 _] (.k .z) (.aq (.kk .z)) ⟨LI xD,bd [.o .r,.o .r,.o .r] [(0,_)],LI xD,LI xD,LI xD,bd [.o .r,.o .r,.o .r] [(0,_),(1,_),(2,_)],Lz (p:=pV bu 64 [1,0,0]) (q:=pV bu 64 [1,4,2]) (zv:=.agg ([Zl.r,.r,.r].flatMap Zl.cs).toArray) 49 ([Zl.r,.r,.r].flatMap Zl.cs) (λi=>pV bu 64 (Qo i)) (rq (λ_=>nQ) rfl) (rq (λ_=>nQ) rfl) (h1:=(hs).imp (po.pV (po.c (by decide) (po.c (by decide) (po.c (by decide) po.z))))) (h2:=(hs).imp (po.pV (po.c (by decide) (po.c (by decide) (po.c (by decide) po.z))))),qZ DG (hφ:=LP),mv,ext,ext,pY [.r,.r,.r],kI,mv,trivial⟩ (.k (.s .o .z)) (.aq (.dx (.d8 (.dk .z)))) λa w hI=>?_
 refine aW hI 42 [] [⟨some 10,60,5,1,_⟩,⟨some 15,65,5,0,_⟩,⟨some 30,80,9,3,_⟩,⟨some 36,86,9,6,_⟩] [Uc 0 50 _,Uc 1 51 _,Uc 2 52 _,Uc 3 53 _,Uc 4 54 _,Uc 5 55 _,Uc 6 56 _,Uc 7 57 _,Uc 8 58 _,Uc 9 59 _,Uc 11 61 _,Uc 12 62 _,Uc 13 63 _,Uc 14 64 _,Uc 16 66 _,Uc 17 67 _,Uc 18 68 _,Uc 19 69 _,Uc 20 70 _,Uc 21 71 _,Uc 22 72 _,Uc 23 73 _,Uc 24 74 _,Uc 25 75 _,Uc 26 76 _,Uc 27 77 _,Uc 28 78 _,Uc 29 79 _,Uc 31 81 _,Uc 32 82 _,Uc 33 83 _,Uc 34 84 _,Uc 35 85 _,Uc 37 87 _,Uc 38 88 _,Uc 39 89 _,Uc 40 90 _,Uc 41 0 _] (.k (.k .z)) (.t 41 (.aq (.kk .z))) ⟨mv,mv,mv,mv,zh hs hs hs hs (pt rfl),bn,mv,gd λh=>gZ h,pk,mv,gd λh=>mE h,gd λh=>dQ h,gd λh=>mA h,pk,mv,gd λh=>mE h,gd λh=>dQ h,gd λh=>bd [.o .i,.o .i] [] (hp:=pg h rfl),gd λh=>bd [.o .i,.o .i] [(0,_)] (hp:=pg h rfl),gd λh=>bd [.o .i,.o .i] [(0,_),(1,_)] (hp:=pg h rfl),gd λh=>bd [.o .i,.o .i] [(0,_),(1,_)] (hp:=pg h rfl),gd λh=>bd [.o .i,.o .i] [(1,_)] (hp:=pg h rfl),gd λh=>Rx h 38 OA [(0,cT (0,0)),(1,cT (4,0)),(2,cT (5,1)),(3,cT (1,5)),(4,cT (0,4))],gd λh=>IG h (Cx (K:=OA) (L:=OA)),pk,mv,gd λh=>gZ h,gd λh=>IJ h,pk,mv,gd λh=>mE h,gd λh=>lV 1 (hcd:=h) (hq:=by decide) (hp:=pg h rfl),gd λh=>OG h (B3 ⟨#[50]⟩) (hφ:=⟨by kernel_rfl,by decide⟩),gd λh=>qC (neq:=false) (m:=⟨#[50]⟩) hg hg (pg h rfl),pk,mv,gd λh=>mE h,gd λh=>lV 2 (hcd:=h) (hq:=by decide) (hp:=pg h rfl),gd λh=>OG h (B3 ⟨#[49]⟩) (hφ:=⟨by kernel_rfl,by decide⟩),gd λh=>qC (neq:=false) (m:=⟨#[49]⟩) hg hg (pg h rfl),pk,mv,trivial⟩ (.d (.d .z)) (.d8 (.d8 (.d8 (.d8 (.d8 (.bL (.k .z))))))) λa w hI=>?_
 refine aJ ?_
 exact dB hI rfl (fK (hq:=cK (by kernel_rfl)))
end Wx
