import Derived.Test.YtadigiledciihaaGreatJRD46
import Derived.Test.YtadigiledciihaaGreatCRDRep3
namespace Wx
open Go Go.RowKit Go.Proofs
abbrev J1 (p:Pt):Fd:=⟨true,2,dS p⟩
section
variable {P:Program} {ops:Array Oper} {ms:List Nat} {c:cT} {V:List Vr} {A:List Al} {G:List aS} {i d:Nat} {ty:TypeId} {pos:String} {aJ:Array Edge}
theorem GY (L:List Pt):∀(k:Nat) (f:Fd),(L.map J1)[k]?=some f->f.p=dS (aq L k):=λk f hf=>by
 rw[List.getElem?_map]at hf
 unfold aq
 rw[List.getD_eq_getElem?_getD]
 cases h:L[k]? with
 |none=>rw[h]at hf; cases hf
 |some x=>
  rw[h]at hf
  injection hf with hf
  rw[<-hf]
  rfl
theorem OL {T:TypeId} {n:Nat} {parts:Array (Nat×Operand)} (E:TypeId) (L:List Pt) (ps:List (Nat×Pred)) (hps:dL ms G i (List.replicate n (J1 (0,0))) parts.toList ps:=by repeat' (first|exact trivial|refine⟨⟨rfl,Wx.hs,_,rfl,jk _⟩,?_⟩)) (PX:lT (List.replicate n (J1 (0,0))) ps=L.map J1:=by rfl) (ht:nQ P T E 2:=by exact⟨by kernel_rfl,λ_=>by kernel_rfl⟩) (Cn:∀w,(zeroValue E).run P w=.ok (.agg (qC (0,0)).toArray) w:=by exactλ_=>by kernel_rfl) (hsz:decide (0<2/\0<n/\n*2<=16777216)=true:=by decide) (hp:Post G i (ck 2 true n λk=>dS (aq L k)):=by exact pt rfl):
  OpOk P ops ms c V A G i ⟨some d,.buildSlice T n parts,ty,pos,aJ,none⟩:=
 iz (p:=dS (0,0)) (z:=qC (0,0)) ht Cn rfl rfl hsz (λ_=>xO.2 rfl) rfl hps PX _ (GY L) hp
theorem OZ {φ:Prop} (hφ:φ) {T:TypeId} {n:Nat} {parts:Array (Nat×Operand)} (E:TypeId) (L:List Pt) (ps:List (Nat×Pred)) (hps:dL ms G i (List.replicate n (J1 (0,0))) parts.toList ps:=by repeat' (first|exact trivial|refine⟨⟨rfl,Wx.hg,_,rfl,jk _⟩,?_⟩)) (PX:lT (List.replicate n (J1 (0,0))) ps=L.map J1:=by rfl) (ht:nQ P T E 2:=by exact⟨by kernel_rfl,λ_=>by kernel_rfl⟩) (Cn:∀w,(zeroValue E).run P w=.ok (.agg (qC (0,0)).toArray) w:=by exactλ_=>by kernel_rfl) (hsz:decide (0<2/\0<n/\n*2<=16777216)=true:=by decide) (hp:Post G i (ck 2 true n λk=>dS (aq L k)):=by exact pg (by assumption) rfl):
  OpOk P ops ms c V A G i ⟨some d,.buildSlice T n parts,ty,pos,aJ,none⟩:=(λ_:φ=>OL E L ps hps PX ht Cn hsz hp) hφ
end
end Wx

namespace Wx
open Go Go.RowKit Go.Proofs
abbrev KV (a b:Pt):Prop:=a.1<b.1\/(a.1=b.1/\a.2<=b.2)
theorem Fz {n:Nat} {L S:List Pt} (hn:∀q,q<n->cU 16777216 (aq L q)) (hp:S.Perm ((List.range n).map λi=>aq L i)) (hs:S.Pairwise KV):nF n L=S:=by
 have e1:(oo n L).toList.map (·.p)=(List.range n).map λi=>aq L i:=by
  unfold oo
  show List.map _ (List.map _ _)=_
  rw[List.map_map]
  exact List.map_congr_left λi hi=>BD (hn i (List.mem_range.1 hi))
 refine List.Perm.eq_of_pairwise (le:=KV) ?_ ?_ hs ?_
 ·intro a b _ _ h1 h2
  obtain⟨a1,a2⟩:=a
  obtain⟨b1,b2⟩:=b
  have h1:a1<b1\/(a1=b1/\a2<=b2):=h1
  have h2:b1<a1\/(b1=a1/\b2<=a2):=h2
  obtain rfl:a1=b1:=by omega
  obtain rfl:a2=b2:=by omega
  rfl
 ·unfold nF rM
  show(List.map _ (List.mergeSort _ _)).Pairwise KV
  rw[List.pairwise_map]
  refine(List.pairwise_mergeSort (le:=λx y=>!(ltOf me) y x) ?_ ?_ _).imp λ{x y} h=>?_
  ·intro a b c h1 h2
   simp only[Bool.not_eq_true']at h1 h2 ⊢
   exact NH.ntrans c b a h2 h1
  ·intro a b
   cases h:ltOf me b a with
   |false=>simp
   |true=>
    have:ltOf me a b=false:=by
     rw[lt_iff]at h
     rw[nr]
     omega
    simp[this]
  ·have h:ltOf me y x=false:=by simpa using h
   rw[nr]at h
   show x.p.1<y.p.1\/(x.p.1=y.p.1/\x.p.2<=y.p.2)
   omega
 ·unfold nF rM
  refine((List.mergeSort_perm _ _).map _).trans ?_
  rw[e1]
  exact hp.symm
def Dl:List Pt:=[(0,0),(4,0),(0,4)]
def DU:List Pt:=[(1,1),(5,1),(1,5)]
def JW:List Pt:=[(0,0),(0,4),(1,1),(1,5),(4,0),(5,1)]
def L5:List Pt:=[(0,0),(4,0),(5,1),(1,5),(0,4)]
theorem AM:Bq (Dl++DU):=λq hq=>by
 have hq:q<6:=hq
 match q,hq with
 |0,_|1,_|2,_|3,_|4,_|5,_=>unfold cU; decide
theorem pO:sL (Dl++DU)=JW:=Fz AM (by decide) (by decide)
theorem DW:rL (Dl++DU)=[(5,1),(4,0),(1,5),(1,1),(0,4),(0,0)]:=by
 show Ho 6 (sL (Dl++DU))=_
 rw[pO]
 decide
theorem Iy:av JW 6=[(0,0),(4,0),(5,1)]:=by decide
theorem Iz:av [(5,1),(4,0),(1,5),(1,1),(0,4),(0,0)] 6=[(5,1),(1,5),(0,4),(0,0)]:=by decide
theorem Gl:ua (Dl++DU) where
 two:=by decide
 max:=by decide
 near:=AM
 ne:=by
  rw[pO]
  have h:∀k,k<6->1<=k->aq JW k≠aq JW (k-1):=by decide
  exactλk h1 h2=>h k h2 h1
 lo:=by
  rw[pO]
  show 2<=(av JW 6).length
  rw[Iy]
  decide
 up:=by
  rw[DW]
  show 2<=(av [(5,1),(4,0),(1,5),(1,1),(0,4),(0,0)] 6).length
  rw[Iz]
  decide
theorem tq:qQ (Dl++DU)=L5:=by
 unfold qQ kD
 rw[pO,DW]
 show(av JW 6).take ((av JW 6).length-1)++(av [(5,1),(4,0),(1,5),(1,1),(0,4),(0,0)] 6).take ((av [(5,1),(4,0),(1,5),(1,1),(0,4),(0,0)] 6).length-1)=_
 rw[Iy,Iz]
 decide
theorem JZ:fE Dl 1=0:=by decide
theorem J0:fE DU 2=0:=by decide
theorem DV:Aj Dl DU 1 2:=⟨JZ,J0,Gl,by rw[tq]; decide⟩
end Wx

namespace Wx
set_option maxRecDepth 100000
set_option maxHeartbeats 1000000
open Go Go.RowKit Go.Proofs
set_option linter.unusedVariables false
attribute [local irreducible] OpOk
def kS (ms:Nat->List Rat):Nat->List Rat
 |0=>[0,0,0]
 |k+1=>[(kS ms k).getD 0 0+(ms k).getD 0 0,(kS ms k).getD 1 0+(ms k).getD 0 0*(ms k).getD 1 0,(kS ms k).getD 2 0+(ms k).getD 0 0*(ms k).getD 2 0]
variable {ms:Nat->List Rat}
theorem FB:∀k,(kS ms k).length=3
 |0=>rfl
 |_+1=>rfl
structure Ih (n j J:Nat) (ms:Nat->List Rat):Prop where
 len:1<=n/\n<=64
 bits:1<=J/\J<=1000000/\j<=1000000
 el:∀i,i<n->(ms i).length=3/\0<=ou ((ms i).getD 0 0)
 bd:∀k q,k<=n->q<3->dB J ((kS ms k).getD q 0)
 some:(kS ms n).getD 0 0≠0
variable {j:Nat}
theorem Cq {n J:Nat} (h:Ih n j J ms):K1 Tryz.prog 21 (ck 9 true n λi=>pV bz j (ms i)) (gC (pV bz (2*J) [(kS ms n).getD 0 0,(kS ms n).getD 1 0/(kS ms n).getD 0 0,(kS ms n).getD 2 0/(kS ms n).getD 0 0]) (pI 0)):=by
 intro M w0 v0 hM hv0
 have h1:=h.len
 have h2:=h.bits
 have hl:=FB (ms:=ms)
 refine vK (N:=67) Tryz.func21 rfl rfl rfl hM hv0 λa hI=>?_
 refine bZ hI 2 [⟨2,2,some 0,none,.ptr,56,9,true,pv _,[]⟩] [] [Uc 1 3 _] .z (.k .z) ⟨xy [.r,.r,.r],mv,trivial⟩ (.k .z) (.kk .z) λa w hI=>?_
 refine ay ?_
 refine bZ hI 8 [] [] [Uc 0 7 _,Uc 1 8 _,Uc 2 9 _,Uc 3 10 _,Uc 4 11 _,Uc 5 12 _,Uc 6 13 _,Uc 7 14 _] (.k .z) (.kk .z) ⟨mv,ln,bn,mv,gd λh=>mG h,gd λh=>O4 h,gd λh=>su h,pk,trivial⟩ (.k .z) (.eO (.dH (.dk .z))) λa w hI=>?_
 refine Ab hI (λt1=>?_) (λt1=>?_)
 ·exfalso; simp only[Bool.or_eq_true,decide_eq_true_eq]at t1; omega
 refine aD ?_
 refine ah ?_
 refine bZ hI 1 [⟨4,4,some 0,none,.ptr,56,9,true,pv _,[]⟩] [] [] (.k .z) (.dQ .z) ⟨QI J 3,trivial⟩ (.k (.k .z)) (.Up .z) λa w hI=>?_
 refine ay ?_
 refine bZ hI 3 [] [] [Uc 0 16 _,Uc 1 17 _,Uc 2 18 _] (.k (.k .z)) (.kk .z) ⟨mv,ln,mv,trivial⟩ (.k (.k .z)) (.JU (.k .z)) λa w hI=>?_
 refine aI ?_
 refine yz [Vz 2 2 56 9 true _] [Uz 16 _,Uz 17 _] (λ(i:Nat)=>[Vz 4 4 56 9 true (pV bz J (kS ms i))]) (λ(i:Nat)=>[Uz 18 (pI (i:Int))]) (λ(i:Nat)=>i<=n) (λ(i:Nat)=>n-i) (0) (Nat.zero_le _) hI ⟨vi,vC (λ_ _ h=>h),trivial⟩ ⟨gi,gi,gc,trivial⟩ ?_
 intro i a w hi hI
 refine bZ hI 1 [] [] [Uc 0 19 _] (.k (.k .z)) (.dQ .z) ⟨bn,trivial⟩ (.k (.k .z)) (.aB .z) λa w hI=>?_
 refine ay ?_
 refine lN hI (λt2=>?_) (λt2=>?_)
 ·
  refine aD ?_
  refine ah ?_
  refine ay ?_
  refine aI ?_
  have hl2:=(h.el i (by omega)).1
  have hs2:=(h.el i (by omega)).2
  have uF:=hl i
  have hb0:dB J ((kS ms i).getD 0 0+(ms i).getD 0 0):=h.bd (i+1) 0 (by omega) (by decide)
  have hb1:dB J ((kS ms i).getD 1 0+(ms i).getD 0 0*(ms i).getD 1 0):=h.bd (i+1) 1 (by omega) (by decide)
  have hb2:dB J ((kS ms i).getD 2 0+(ms i).getD 0 0*(ms i).getD 2 0):=h.bd (i+1) 2 (by omega) (by decide)
  refine bZ hI 4 [⟨6,6,some 2,none,.ptr,56,9,true,pv _,[(3,pv _)]⟩] [] [Uc 0 20 _,Uc 1 21 _] (.k (.k .z)) (.aB .z) ⟨ix,ld,xy [.r,.r,.r],pz,trivial⟩ (.k (.k (.s .o .z))) (.iw (.dd .z)) λa w hI=>?_
  refine ay ?_
  refine bZ hI 4 [] [⟨some 0,22,6,0,True⟩] [Uc 1 23 _,Uc 2 24 _,Uc 3 25 _] (.k (.k (.k .z))) (.dQ .z) ⟨fa,lV 0,Dk Jy,bn,trivial⟩ (.k (.k (.k .z))) (.iw (.dk .z)) λa w hI=>?_
  refine lN hI (λt3=>?_) (λt3=>?_)
  ·exfalso; omega
  refine aD ?_
  refine ah ?_
  refine Q4 hI [0,1,0,4,15,0,32,0,128,0,512,1951,4095,0,8192,0,32768,0,131072,499711,1048575,2097151,4194303] [] [⟨some 0,27,4,0,True⟩,⟨some 2,29,6,0,True⟩,⟨some 5,32,4,3,True⟩,⟨some 7,34,6,0,True⟩,⟨some 9,36,6,3,True⟩,⟨some 13,40,4,6,True⟩,⟨some 15,42,6,0,True⟩,⟨some 17,44,6,6,True⟩] [Uc 1 28 _,Uc 3 30 _,Uc 4 31 _,Uc 6 33 _,Uc 8 35 _,Uc 10 37 _,Uc 11 38 _,Uc 12 39 _,Uc 14 41 _,Uc 16 43 _,Uc 18 45 _,Uc 19 46 _,Uc 20 47 _,Uc 21 48 _] (.k (.u none [(22,pv _)] (.k .z))) (.aB .z) ⟨fa,lV 0,fa,lV 0,DL (yE hb0),fa,lV 1,fa,lV 0,fa,lV 1,DL Im,DL (yE hb1),fa,lV 2,fa,lV 0,fa,lV 2,DL Im,DL (yE hb2),bd [.o .r,.o .r,.o .r] [(0,_),(1,_),(2,_)],pz,trivial⟩ (.k (.s .o (.d .z))) (.iw (.d8 (.dH (.dd .z)))) λa w hI=>?_
  refine bw ?_
  refine ah ?_
  refine Dg hI 2 [] [] [Uc 0 49 _,Uc 1 18 _] (.k (.k .z)) (.kk (.t 1 .z)) ⟨bn,mv,trivial⟩ (.k (.k .z)) (.eO (.k .z)) λa w hI=>?_
  refine ah ?_
  exact yy (i+1) (by omega) hI ⟨vc,vC (nL.pV (nL.c (Nat.le_refl _) (nL.c (Nat.le_refl _) (nL.c (Nat.le_refl _) nL.z)))),trivial⟩ ⟨gc,gc,gc,trivial⟩ (by omega)
 ·
  refine cL ?_
  refine aG ?_
  refine aG ?_
  refine bq ?_
  refine ah ?_
  refine ay ?_
  obtain rfl:i=n:=by omega
  have uF:=hl i
  refine bZ hI 3 [] [⟨some 0,50,4,0,True⟩] [Uc 1 51 _,Uc 2 52 _] (.k (.k .z)) (.aB .z) ⟨fa,lV 0,Dk Jz,trivial⟩ (.k (.k .z)) (.dH (.dk .z)) λa w hI=>?_
  refine lN hI (λt4=>?_) (λt4=>?_)
  ·exfalso; exact h.some t4
  refine aD ?_
  refine ah ?_
  refine F9 hI [0,1,0,4,0,16,60,0,128,0,512,2044,4095,8191,16383] [] [⟨some 0,54,4,0,True⟩,⟨some 2,56,4,3,True⟩,⟨some 4,58,4,0,True⟩,⟨some 7,61,4,6,True⟩,⟨some 9,63,4,0,True⟩] [Uc 1 55 _,Uc 3 57 _,Uc 5 59 _,Uc 6 60 _,Uc 8 62 _,Uc 10 64 _,Uc 11 65 _,Uc 12 66 _,Uc 14 3 _] (.u none [(13,pv _)] (.k .z)) (.k .z) ⟨fa,lV 0,fa,lV 1,fa,lV 0,Gg Fg,fa,lV 2,fa,lV 0,Gg Fg,bd [.o .r,.o .r,.o .r] [(0,_),(1,_),(2,_)],pz,mv,trivial⟩ (.s .o (.d .z)) (.d8 (.dk .z)) λa w hI=>?_
  refine aM ?_
  exact yS hI rfl F8 iE
theorem Au {x:Rat} (s:ByteArray) (h:strOf (gX x)=s/\j<=100000000):∀w v1,pR j x w v1->Calls Tryz.prog 30 #[v1] w (eJ (bK (.string s)) w):=λw v1 h1=>(CY w v1 x h1.2 h1.1 h.2).mono λ_ _ hr=>by rw[<-h.1]; exact vm hr
theorem Ib (_:True):K2 Tryz.prog 15 (lM Dl 1) (lM DU 2) (gC (lM L5 2) (pI 0)):=by
 have k:=GL DV
 rw[tq]at k
 exact k
def NV (i:Nat):List Rat:=if i=0 then[1,0,0]else[1,4,2]
theorem JY:Ih 2 64 64 NV where
 len:=by decide
 bits:=by decide
 el i hi:=by
  match i,hi with
  |0,_=>exact⟨rfl,by decide⟩
  |1,_=>exact⟨rfl,by decide⟩
 bd k q hk hq:=by
  have key:∀k,k<=2->∀q,q<3->((kS NV k).getD q 0).num.natAbs<2^64/\((kS NV k).getD q 0).den<2^64:=by decide +kernel
  exact key k hk q hq
 some:=by decide +kernel
end Wx

namespace Wx
set_option maxRecDepth 100000
set_option maxHeartbeats 1000000
open Go Go.RowKit Go.Proofs
set_option linter.unusedVariables false
attribute [local irreducible] OpOk
theorem xh (h:True):K0 Tryz.prog 10 (pB true):=by
 intro M w0 hM
 refine Q8 (N:=91) Tryz.func10 rfl rfl rfl hM λa hI=>?_
 refine bu hI 1 [Uc 0 0 _] .z ⟨mv,trivial⟩ (.k .z) λa w hI=>?_
 refine bZ hI 7 [⟨1,1,some 5,none,.ptr,24,2,true,pv _,[(6,pv _)]⟩] [] [Uc 0 11 _,Uc 1 12 _,Uc 2 13 _,Uc 3 14 _,Uc 4 15 _] .z (.k .z) ⟨bd [.o .i,.o .i] [],bd [.o .i,.o .i] [(0,_)],bd [.o .i,.o .i] [(1,_)],OL 26 Dl [(0,dS (0,0)),(1,dS (4,0)),(2,dS (0,4))],bd [.o .n,.o .i] [(0,_),(1,_)],xy [.n,.i],pz,trivial⟩ (.s .o .z) (.iv (.dd .z)) λa w hI=>?_
 refine bZ hI 7 [⟨2,2,some 5,none,.ptr,24,2,true,pv _,[(6,pv _)]⟩] [] [Uc 0 16 _,Uc 1 17 _,Uc 2 18 _,Uc 3 19 _,Uc 4 20 _] (.k .z) (.k .z) ⟨bd [.o .i,.o .i] [(0,_),(1,_)],bd [.o .i,.o .i] [(0,_),(1,_)],bd [.o .i,.o .i] [(0,_),(1,_)],OL 26 DU [(0,dS (1,1)),(1,dS (5,1)),(2,dS (1,5))],bd [.o .n,.o .i] [(0,_),(1,_)],xy [.n,.i],pz,trivial⟩ (.k (.s .o .z)) (.iv (.dd .z)) λa w hI=>?_
 refine bZ hI 8 [] [] [Uc 0 22 _,Uc 1 23 _,Uc 2 24 _,Uc 3 21 _,Uc 4 25 _,Uc 5 26 _,Uc 6 3 _,Uc 7 4 _] (.k (.k .z)) (.k .z) ⟨ld,bd [.o .i,.o .i] [(0,_),(1,_)],Gg (xg (L:=Dl) (d:=1) (p:=(2,2))),mv,ext,ext,mv,mv,trivial⟩ (.k (.k .z)) (.iv (.ig (.k .z))) λa w hI=>?_
 refine bZ hI 9 [⟨5,5,some 6,none,.ptr,24,2,true,pv _,[(7,pv _)]⟩] [] [Uc 0 28 _,Uc 1 29 _,Uc 2 30 _,Uc 3 27 _,Uc 4 31 _,Uc 5 32 _,Uc 8 6 _] (.k (.k .z)) (.dQ .z) ⟨ld,ld,Gg Ib,mv,ext,ext,xy [.n,.i],pz,mv,trivial⟩ (.k (.k (.s .o .z))) (.iw (.dH (.dk .z))) λa w hI=>?_
 refine bZ hI 8 [] [] [Uc 0 34 _,Uc 1 35 _,Uc 2 36 _,Uc 3 33 _,Uc 4 37 _,Uc 5 38 _,Uc 6 7 _,Uc 7 8 _] (.k (.k (.k .z))) (.aB .z) ⟨ld,ld,LP (GK (K:=Dl) (L:=DU) (k:=1) (l:=2) (f:=1)),mv,ext,ext,mv,mv,trivial⟩ (.d (.d (.k .z))) (.aB (.dH (.sD .z))) λa w hI=>?_
 refine bZ hI 14 [⟨9,9,some 11,none,.ptr,56,9,true,pv _,[(12,pv _)]⟩] [] [Uc 0 40 _,Uc 1 41 _,Uc 2 42 _,Uc 3 43 _,Uc 4 44 _,Uc 5 45 _,Uc 6 46 _,Uc 7 47 _,Uc 8 39 _,Uc 9 48 _,Uc 10 49 _,Uc 13 10 _] (.k .z) (.aB (.kk .z)) ⟨Dk Ar,bd [.o .r,.o .r,.o .r] [(0,_)],Dk Ar,Dk Ar,Dk Ar,bd [.o .r,.o .r,.o .r] [(0,_),(1,_),(2,_)],NU (p:=pV bz 64 [1,0,0]) (q:=pV bz 64 [1,4,2]) (zv:=.agg ([Zl.r,.r,.r].flatMap Zl.cs).toArray) 56 ([Zl.r,.r,.r].flatMap Zl.cs) (λi=>pV bz 64 (NV i)) (pP (λ_=>mQ) rfl) (pP (λ_=>mQ) rfl) (h1:=(hs).imp (nL.pV (nL.c (by decide) (nL.c (by decide) (nL.c (by decide) nL.z))))) (h2:=(hs).imp (nL.pV (nL.c (by decide) (nL.c (by decide) (nL.c (by decide) nL.z))))),BU Cq (hφ:=JY),mv,ext,ext,xy [.r,.r,.r],pz,mv,trivial⟩ (.k (.s .o .z)) (.aB (.eO (.d8 (.dk .z)))) λa w hI=>?_
 refine bZ hI 42 [] [⟨some 10,60,5,1,_⟩,⟨some 15,65,5,0,_⟩,⟨some 30,80,9,3,_⟩,⟨some 36,86,9,6,_⟩] [Uc 0 50 _,Uc 1 51 _,Uc 2 52 _,Uc 3 53 _,Uc 4 54 _,Uc 5 55 _,Uc 6 56 _,Uc 7 57 _,Uc 8 58 _,Uc 9 59 _,Uc 11 61 _,Uc 12 62 _,Uc 13 63 _,Uc 14 64 _,Uc 16 66 _,Uc 17 67 _,Uc 18 68 _,Uc 19 69 _,Uc 20 70 _,Uc 21 71 _,Uc 22 72 _,Uc 23 73 _,Uc 24 74 _,Uc 25 75 _,Uc 26 76 _,Uc 27 77 _,Uc 28 78 _,Uc 29 79 _,Uc 31 81 _,Uc 32 82 _,Uc 33 83 _,Uc 34 84 _,Uc 35 85 _,Uc 37 87 _,Uc 38 88 _,Uc 39 89 _,Uc 40 90 _,Uc 41 0 _] (.k (.k .z)) (.t 41 (.aB (.kk .z))) ⟨mv,mv,mv,mv,EU hs hs hs hs (pt rfl),bn,mv,gd λh=>mG h,pk,mv,gd λh=>B9 h,gd λh=>mR h,gd λh=>su h,pk,mv,gd λh=>B9 h,gd λh=>mR h,gd λh=>bd [.o .i,.o .i] [] (hp:=pg h rfl),gd λh=>bd [.o .i,.o .i] [(0,_)] (hp:=pg h rfl),gd λh=>bd [.o .i,.o .i] [(0,_),(1,_)] (hp:=pg h rfl),gd λh=>bd [.o .i,.o .i] [(0,_),(1,_)] (hp:=pg h rfl),gd λh=>bd [.o .i,.o .i] [(1,_)] (hp:=pg h rfl),gd λh=>OZ h 26 L5 [(0,dS (0,0)),(1,dS (4,0)),(2,dS (5,1)),(3,dS (1,5)),(4,dS (0,4))],gd λh=>J3 h (GR (K:=L5) (L:=L5)),pk,mv,gd λh=>mG h,gd λh=>S9 h,pk,mv,gd λh=>B9 h,gd λh=>lV 1 (hcd:=h) (hq:=by decide) (hp:=pg h rfl),gd λh=>Mc h (Au ⟨#[50]⟩) (hφ:=⟨by kernel_rfl,by decide⟩),gd λh=>oO (neq:=false) (m:=⟨#[50]⟩) hg hg (pg h rfl),pk,mv,gd λh=>B9 h,gd λh=>lV 2 (hcd:=h) (hq:=by decide) (hp:=pg h rfl),gd λh=>Mc h (Au ⟨#[49]⟩) (hφ:=⟨by kernel_rfl,by decide⟩),gd λh=>oO (neq:=false) (m:=⟨#[49]⟩) hg hg (pg h rfl),pk,mv,trivial⟩ (.d (.d .z)) (.d8 (.d8 (.d8 (.d8 (.d8 (.dH (.k .z))))))) λa w hI=>?_
 refine aM ?_
 exact cN hI rfl (iE (hq:=jK (by kernel_rfl)))
end Wx

namespace Wx
open Go Go.RowKit Go.Proofs
set_option linter.unusedVariables false
section
theorem DN {u v:Rat}:lJ u v<0↔u<v:=by
 unfold lJ
 by_cases h:u<v
 ·rw[if_pos h]; exact⟨λ_=>h,λ_=>by decide⟩
 ·rw[if_neg h]
  by_cases e:u=v
  ·rw[if_pos e]; exact⟨λhh=>absurd hh (by decide),λhh=>absurd hh h⟩
  ·rw[if_neg e]; exact⟨λhh=>absurd hh (by decide),λhh=>absurd hh h⟩
variable {L:List Pt} {p:Pt} {k:Nat}
theorem wV:Gw L (p.1:Rat) (p.2:Rat) k↔0<=bP (aq L k) (aq L (eB L.length k)) p:=by
 unfold Gw bP
 rw[DN,<-Rat.intCast_sub,<-Rat.intCast_sub,<-Rat.intCast_mul,<-Rat.intCast_mul,Rat.intCast_lt_intCast]
 omega
theorem D4 (L:List Pt) (p:Pt):hasB L (p.1:Rat) (p.2:Rat)=Ds L p:=by
 unfold hasB Ds
 exact decide_eq_decide.2 ⟨λh k hk=>wV.1 (h k hk),λh k hk=>wV.2 (h k hk)⟩
theorem yc (s t:Nat->Int):∀n,(∀k,k<n+1->0<s k)->∃k,k<n+1/\∀j,j<n+1->t j*s k<=t k*s j
 |0,_=>⟨0,by omega,λj hj=>(show j=0 by omega)▸Int.le_refl _⟩
 |n+1,h=>by
  obtain⟨k,hk,hm⟩:=yc s t n λk hk=>h k (by omega)
  by_cases e:t (n+1)*s k<=t k*s (n+1)
  ·refine⟨k,by omega,λj hj=>?_⟩
   by_cases c:j=n+1
   ·rw[c]; exact e
   ·exact hm j (by omega)
  ·refine⟨n+1,by omega,λj hj=>?_⟩
   by_cases c:j=n+1
   ·rw[c]; exact Int.le_refl _
   have h1:=hm j (by omega)
   have h2:t k*s (n+1)<=t (n+1)*s k:=by omega
   have p1:=h k (by omega)
   have p2:=h j (by omega)
   have p3:=h (n+1) (by omega)
   refine Int.le_of_mul_le_mul_right (a:=s k) ?_ p1
   calc t j*s (n+1)*s k=t j*s k*s (n+1):=by rw[Int.mul_assoc,Int.mul_comm (s (n+1)),<-Int.mul_assoc]
    _<=t k*s j*s (n+1):=Int.mul_le_mul_of_nonneg_right h1 (by omega)
    _=t k*s (n+1)*s j:=by rw[Int.mul_assoc,Int.mul_comm (s j),<-Int.mul_assoc]
    _<=t (n+1)*s k*s j:=Int.mul_le_mul_of_nonneg_right h2 (by omega)
    _=t (n+1)*s j*s k:=by rw[Int.mul_assoc,Int.mul_comm (s k),<-Int.mul_assoc]
variable {n:Nat}
theorem rq (h:0<n):eB n k<n:=Nat.mod_lt _ h
theorem KL (h:2<n) (hk:k<n):eB n k≠k/\eB n (eB n k)≠k/\eB n (eB n k)≠eB n k:=by
 have e:∀j,j<n->eB n j=if j+1=n then 0 else j+1:=λj hj=>by
  unfold eB
  by_cases c:j+1=n
  ·rw[if_pos c,c,Nat.mod_self]
  ·rw[if_neg c,Nat.mod_eq_of_lt (by omega)]
 have h1:=e k hk
 have h2:=e (eB n k) (rq (by omega))
 by_cases c:k+1=n
 ·rw[if_pos c]at h1; rw[h1]at h2 ⊢; rw[if_neg (by omega)]at h2; omega
 ·rw[if_neg c]at h1; rw[h1]at h2 ⊢
  by_cases c2:k+1+1=n
  ·rw[if_pos c2]at h2; omega
  ·rw[if_neg c2]at h2; omega
theorem around {s t:Nat->Int} (hn:2<n) (hs:∀k,k<n->0<s k) (hc:∀k,k<n->0<=s k*t (eB n k)-t k*s (eB n k)):
  ∃k,k<n/\s k*t (eB n k)=t k*s (eB n k)/\s (eB n k)*t (eB n (eB n k))=t (eB n k)*s (eB n (eB n k))/\s k*t (eB n (eB n k))=t k*s (eB n (eB n k)):=by
 obtain⟨m,rfl⟩:∃m,n=m+1:=⟨n-1,by omega⟩
 obtain⟨k,hk,hm⟩:=yc s t m hs
 have k1:=rq (n:=m+1) (k:=k) (by omega)
 have k2:=rq (n:=m+1) (k:=eB (m+1) k) (by omega)
 have a1:=hm _ k1
 have a2:=hm _ k2
 have b1:=hc _ hk
 have b2:=hc _ k1
 have e1:s k*t (eB (m+1) k)=t k*s (eB (m+1) k):=by
  rw[Int.mul_comm (t (eB (m+1) k))]at a1; omega
 generalize hu:eB (m+1) k=u at *
 generalize hv:eB (m+1) u=v at *
 have p0:=hs _ hk
 have p1:=hs _ k1
 have p2:=hs _ k2
 -- v is not Oe than k, u is as NG as k, v is at least as NG as u
 have x:s k*t v=t k*s v:=by
  refine Int.le_antisymm (by rw[Int.mul_comm (t v)]at a2; exact a2) ?_
  refine Int.le_of_mul_le_mul_right (a:=s u) ?_ p1
  calc t k*s v*s u=t k*s u*s v:=by rw[Int.mul_assoc,Int.mul_comm (s v),<-Int.mul_assoc]
   _=s k*t u*s v:=by rw[e1]
   _=t u*s v*s k:=by rw[Int.mul_comm (s k),Int.mul_assoc,Int.mul_comm (s k),<-Int.mul_assoc]
   _<=s u*t v*s k:=Int.mul_le_mul_of_nonneg_right (by omega) (by omega)
   _=s k*t v*s u:=by rw[Int.mul_comm _ (s k),Int.mul_comm (s u),<-Int.mul_assoc]
 refine⟨k,hk,by rw[hu]; exact e1,?_,by rw[hu,hv]; exact x⟩
 rw[hu,hv]
 refine Int.eq_of_mul_eq_mul_right (a:=s k) (by omega) ?_
 calc s u*t v*s k=s k*t v*s u:=by rw[Int.mul_comm _ (s k),Int.mul_comm (s u),<-Int.mul_assoc]
  _=t k*s v*s u:=by rw[x]
  _=t k*s u*s v:=by rw[Int.mul_assoc,Int.mul_comm (s v),<-Int.mul_assoc]
  _=s k*t u*s v:=by rw[e1]
  _=t u*s v*s k:=by rw[Int.mul_comm (s k),Int.mul_assoc,Int.mul_comm (s k),<-Int.mul_assoc]
theorem sj (a b p:Pt):bP a b p=(p.1-a.1)*(p.2-b.2)-(p.2-a.2)*(p.1-b.1):=by
 unfold bP
 grind
theorem zZ (a b c p:Pt):bP a b c=bP a b p+bP b c p-((p.1-a.1)*(p.2-c.2)-(p.2-a.2)*(p.1-c.1)):=by
 unfold bP
 grind
theorem uR (hn:2<L.length) (he:∀k,k<L.length->gg L k) {s t:Nat->Int} (hs:∀k,k<L.length->0<s k)
  (hst:∀j k,s j*t k-t j*s k=(p.1-(aq L j).1)*(p.2-(aq L k).2)-(p.2-(aq L j).2)*(p.1-(aq L k).1)):¬ ∀k,k<L.length->0<=bP (aq L k) (aq L (eB L.length k)) p:=λh=>by
 obtain⟨k,hk,e1,e2,e3⟩:=around (n:=L.length) (s:=s) (t:=t) hn hs λk hk=>by
  rw[hst,<-sj]; exact h k hk
 have k1:=rq (n:=L.length) (k:=k) (by omega)
 have hne:=KL hn hk
 have h3:=he k hk _ (rq (n:=L.length) (k:=eB L.length k) (by omega)) hne.2.1 hne.2.2
 rw[zZ _ _ _ p,sj _ _ p,sj _ _ p,<-hst,<-hst,<-hst,e1,e2,e3]at h3
 omega
theorem CR (h:ew L=0):2<L.length/\(∀k,k<L.length -> -1048576<=(aq L k).1/\(aq L k).1<=1048576 /\ -1048576<=(aq L k).2/\(aq L k).2<=1048576)/\∀k,k<L.length->gg L k:=by
 unfold ew at h
 by_cases h1:nh L=true
 ·rw[if_pos h1]at h; exact absurd h (by decide)
 rw[if_neg h1]at h
 by_cases h2:qG L>=0
 ·rw[if_pos h2]at h; exact absurd h (by decide)
 rw[if_neg h2]at h
 by_cases h3:∀k,k<L.length->gg L k
 ·refine⟨?_,λk hk=>?_,h3⟩
  ·unfold nh at h1
   simp only[Bool.or_eq_true,decide_eq_true_eq]at h1
   omega
  ·have:=iM h2 k hk
   unfold ux B6 at this
   simp only[Bool.or_eq_false_iff,decide_eq_false_iff_not]at this
   omega
 ·rw[if_neg h3]at h; exact absurd h (by decide)
theorem zI {d:Int} (h:fE L d=0) (ho:xK p=true):Ds L p=false:=by
 obtain⟨hn,hb,he⟩:=CR (dO h)
 unfold Ds
 refine decide_eq_false ?_
 unfold xK at ho
 have Kc:p.1>1048576\/p.1 < -1048576\/p.2>1048576\/p.2 < -1048576:=by
  unfold iy xw at ho
  simp only[Bool.or_eq_true,decide_eq_true_eq]at ho
  split at ho<;>split at ho<;>split at ho<;>split at ho<;>omega
 rcases Kc with c|c|c|c
 ·exact uR hn he (s:=λk=>p.1-(aq L k).1) (t:=λk=>p.2-(aq L k).2) (λk hk=>by have:=hb k hk; omega) λj k=>rfl
 ·exact uR hn he (s:=λk => -(p.1-(aq L k).1)) (t:=λk => -(p.2-(aq L k).2)) (λk hk=>by have:=hb k hk; omega) λj k=>by grind
 ·exact uR hn he (s:=λk=>p.2-(aq L k).2) (t:=λk => -(p.1-(aq L k).1)) (λk hk=>by have:=hb k hk; omega) λj k=>by grind
 ·exact uR hn he (s:=λk => -(p.2-(aq L k).2)) (t:=λk=>p.1-(aq L k).1) (λk hk=>by have:=hb k hk; omega) λj k=>by grind
theorem GG (L:List Pt) (d:Int) (p:Pt):zk L d p=(decide (fE L d=0)&&hasB L (p.1:Rat) (p.2:Rat)):=by
 rw[D4]
 unfold zk
 by_cases h:fE L d=0
 ·rw[decide_eq_true h,Bool.true_and,Bool.true_and]
  by_cases ho:xK p=true
  ·rw[ho,zI h ho]; rfl
  ·rw[Bool.not_eq_true]at ho
   rw[ho]; rfl
 ·rw[decide_eq_false h]; rfl
end
end Wx
