import Derived.Test.YtocboimkilkklaaGreatJRC43
import Derived.Test.YtocboimkilkklaaGreatJRC40
namespace Wx
open Go Go.RowKit Go.Proofs
abbrev N7 (p:Pt):Fd:=⟨true,2,gn p⟩
section
variable {P:Program} {ops:Array Oper} {ms:List Nat} {c:dS} {V:List Vr} {A:List Al} {G:List bf} {i d:Nat} {ty:TypeId} {pos:String} {aJ:Array Edge}
theorem Li (L:List Pt):∀(k:Nat) (f:Fd),(L.map N7)[k]?=some f->f.p=gn (aF L k):=λk f hf=>by
 rw[List.getElem?_map]at hf
 unfold aF
 rw[List.getD_eq_getElem?_getD]
 cases h:L[k]? with
 |none=>rw[h]at hf; cases hf
 |some x=>
  rw[h]at hf
  injection hf with hf
  rw[<-hf]
  rfl
theorem Tw {T:TypeId} {n:Nat} {parts:Array (Nat×Operand)} (E:TypeId) (L:List Pt) (ps:List (Nat×Pred)) (hps:cA ms G i (List.replicate n (N7 (0,0))) parts.toList ps:=by repeat' (first|exact trivial|refine⟨⟨rfl,Wx.hs,_,rfl,lC _⟩,?_⟩)) (UI:ni (List.replicate n (N7 (0,0))) ps=L.map N7:=by rfl) (ht:mw P T E 2:=by exact⟨by kernel_rfl,λ_=>by kernel_rfl⟩) (Ch:∀w,(zeroValue E).run P w=.ok (.agg (tF (0,0)).toArray) w:=by exactλ_=>by kernel_rfl) (hsz:decide (0<2/\0<n/\n*2<=16777216)=true:=by decide) (hp:Post G i (bR 2 true n λk=>gn (aF L k)):=by exact pt rfl):
  OpOk P ops ms c V A G i ⟨some d,.buildSlice T n parts,ty,pos,aJ,none⟩:=
 gT (p:=gn (0,0)) (z:=tF (0,0)) ht Ch rfl rfl hsz (λ_=>AY.2 rfl) rfl hps UI _ (Li L) hp
theorem TJ {φ:Prop} (hφ:φ) {T:TypeId} {n:Nat} {parts:Array (Nat×Operand)} (E:TypeId) (L:List Pt) (ps:List (Nat×Pred)) (hps:cA ms G i (List.replicate n (N7 (0,0))) parts.toList ps:=by repeat' (first|exact trivial|refine⟨⟨rfl,Wx.hg,_,rfl,lC _⟩,?_⟩)) (UI:ni (List.replicate n (N7 (0,0))) ps=L.map N7:=by rfl) (ht:mw P T E 2:=by exact⟨by kernel_rfl,λ_=>by kernel_rfl⟩) (Ch:∀w,(zeroValue E).run P w=.ok (.agg (tF (0,0)).toArray) w:=by exactλ_=>by kernel_rfl) (hsz:decide (0<2/\0<n/\n*2<=16777216)=true:=by decide) (hp:Post G i (bR 2 true n λk=>gn (aF L k)):=by exact pg (by assumption) rfl):
  OpOk P ops ms c V A G i ⟨some d,.buildSlice T n parts,ty,pos,aJ,none⟩:=(λ_:φ=>Tw E L ps hps UI ht Ch hsz hp) hφ
end
end Wx

namespace Wx
open Go Go.RowKit Go.Proofs
abbrev O7 (a b:Pt):Prop:=a.1<b.1\/(a.1=b.1/\a.2<=b.2)
theorem JE {n:Nat} {L S:List Pt} (hn:∀q,q<n->gp 16777216 (aF L q)) (hp:S.Perm ((List.range n).map λi=>aF L i)) (hs:S.Pairwise O7):qn n L=S:=by
 have e1:(qP n L).toList.map (·.p)=(List.range n).map λi=>aF L i:=by
  unfold qP
  show List.map _ (List.map _ _)=_
  rw[List.map_map]
  exact List.map_congr_left λi hi=>Eu (hn i (List.mem_range.1 hi))
 refine List.Perm.eq_of_pairwise (le:=O7) ?_ ?_ hs ?_
 ·intro a b _ _ h1 h2
  obtain⟨a1,a2⟩:=a
  obtain⟨b1,b2⟩:=b
  have h1:a1<b1\/(a1=b1/\a2<=b2):=h1
  have h2:b1<a1\/(b1=a1/\b2<=a2):=h2
  obtain rfl:a1=b1:=by omega
  obtain rfl:a2=b2:=by omega
  rfl
 ·unfold qn uE
  show(List.map _ (List.mergeSort _ _)).Pairwise O7
  rw[List.pairwise_map]
  refine(List.pairwise_mergeSort (le:=λx y=>!(ltOf ot) y x) ?_ ?_ _).imp λ{x y} h=>?_
  ·intro a b c h1 h2
   simp only[Bool.not_eq_true']at h1 h2 ⊢
   exact R2.ntrans c b a h2 h1
  ·intro a b
   cases h:ltOf ot b a with
   |false=>simp
   |true=>
    have:ltOf ot a b=false:=by
     rw[lt_iff]at h
     rw[pT]
     omega
    simp[this]
  ·have h:ltOf ot y x=false:=by simpa using h
   rw[pT]at h
   show x.p.1<y.p.1\/(x.p.1=y.p.1/\x.p.2<=y.p.2)
   omega
 ·unfold qn uE
  refine((List.mergeSort_perm _ _).map _).trans ?_
  rw[e1]
  exact hp.symm
def Gs:List Pt:=[(0,0),(4,0),(0,4)]
def Hg:List Pt:=[(1,1),(5,1),(1,5)]
def N0:List Pt:=[(0,0),(0,4),(1,1),(1,5),(4,0),(5,1)]
def Ql:List Pt:=[(0,0),(4,0),(5,1),(1,5),(0,4)]
theorem DB:Ei (Gs++Hg):=λq hq=>by
 have hq:q<6:=hq
 match q,hq with
 |0,_|1,_|2,_|3,_|4,_|5,_=>unfold gp; decide
theorem sD:sL (Gs++Hg)=N0:=JE DB (by decide) (by decide)
theorem Hi:rL (Gs++Hg)=[(5,1),(4,0),(1,5),(1,1),(0,4),(0,0)]:=by
 show LL 6 (sL (Gs++Hg))=_
 rw[sD]
 decide
theorem Mp:aB N0 6=[(0,0),(4,0),(5,1)]:=by decide
theorem Mq:aB [(5,1),(4,0),(1,5),(1,1),(0,4),(0,0)] 6=[(5,1),(1,5),(0,4),(0,0)]:=by decide
theorem KD:xH (Gs++Hg) where
 two:=by decide
 max:=by decide
 near:=DB
 ne:=by
  rw[sD]
  have h:∀k,k<6->1<=k->aF N0 k≠aF N0 (k-1):=by decide
  exactλk h1 h2=>h k h2 h1
 lo:=by
  rw[sD]
  show 2<=(aB N0 6).length
  rw[Mp]
  decide
 up:=by
  rw[Hi]
  show 2<=(aB [(5,1),(4,0),(1,5),(1,1),(0,4),(0,0)] 6).length
  rw[Mq]
  decide
theorem wI:tT (Gs++Hg)=Ql:=by
 unfold tT mO
 rw[sD,Hi]
 show(aB N0 6).take ((aB N0 6).length-1)++(aB [(5,1),(4,0),(1,5),(1,1),(0,4),(0,0)] 6).take ((aB [(5,1),(4,0),(1,5),(1,1),(0,4),(0,0)] 6).length-1)=_
 rw[Mp,Mq]
 decide
theorem N3:mG Gs 1=0:=by decide
theorem N4:mG Hg 2=0:=by decide
theorem Hh:Da Gs Hg 1 2:=⟨N3,N4,KD,by rw[wI]; decide⟩
end Wx

namespace Wx
set_option maxRecDepth 100000
set_option maxHeartbeats 1000000
open Go Go.RowKit Go.Proofs
set_option linter.unusedVariables false
attribute [local irreducible] OpOk
def nj (ms:Nat->List Rat):Nat->List Rat
 |0=>[0,0,0]
 |k+1=>[(nj ms k).getD 0 0+(ms k).getD 0 0,(nj ms k).getD 1 0+(ms k).getD 0 0*(ms k).getD 1 0,(nj ms k).getD 2 0+(ms k).getD 0 0*(ms k).getD 2 0]
variable {ms:Nat->List Rat}
theorem JF:∀k,(nj ms k).length=3
 |0=>rfl
 |_+1=>rfl
structure Me (n j J:Nat) (ms:Nat->List Rat):Prop where
 len:1<=n/\n<=64
 bits:1<=J/\J<=1000000/\j<=1000000
 el:∀i,i<n->(ms i).length=3/\0<=cP ((ms i).getD 0 0)
 bd:∀k q,k<=n->q<3->bB J ((nj ms k).getD q 0)
 some:(nj ms n).getD 0 0≠0
variable {j:Nat}
theorem Fm {n J:Nat} (h:Me n j J ms):K1 Tryz.prog 24 (bR 9 true n λi=>pV aD j (ms i)) (gh (pV aD (2*J) [(nj ms n).getD 0 0,(nj ms n).getD 1 0/(nj ms n).getD 0 0,(nj ms n).getD 2 0/(nj ms n).getD 0 0]) (pI 0)):=by
 intro M w0 v0 hM hv0
 have h1:=h.len
 have h2:=h.bits
 have hl:=JF (ms:=ms)
 refine Bu (N:=67) Tryz.func24 rfl rfl rfl hM hv0 λa hI=>?_
 refine bZ hI 2 [⟨2,2,some 0,none,.ptr,78,9,true,pv _,[]⟩] [] [Uc 1 3 _] .z (.k .z) ⟨me [.r,.r,.r],mv,trivial⟩ (.k .z) (.kk .z) λa w hI=>?_
 refine aC ?_
 refine bZ hI 8 [] [] [Uc 0 7 _,Uc 1 8 _,Uc 2 9 _,Uc 3 10 _,Uc 4 11 _,Uc 5 12 _,Uc 6 13 _,Uc 7 14 _] (.k .z) (.kk .z) ⟨mv,ln,bn,mv,gd λh=>yn h,gd λh=>Ss h,gd λh=>Ad h,pk,trivial⟩ (.k .z) (.eT (.dO (.dk .z))) λa w hI=>?_
 refine Ez hI (λt1=>?_) (λt1=>?_)
 ·exfalso; simp only[Bool.or_eq_true,decide_eq_true_eq]at t1; omega
 refine aM ?_
 refine af ?_
 refine bZ hI 1 [⟨4,4,some 0,none,.ptr,78,9,true,pv _,[]⟩] [] [] (.k .z) (.dF .z) ⟨RI J 3,trivial⟩ (.k (.k .z)) (.Xb .z) λa w hI=>?_
 refine aC ?_
 refine bZ hI 3 [] [] [Uc 0 16 _,Uc 1 17 _,Uc 2 18 _] (.k (.k .z)) (.kk .z) ⟨mv,ln,mv,trivial⟩ (.k (.k .z)) (.EZ (.k .z)) λa w hI=>?_
 refine aT ?_
 refine C5 [Vz 2 2 78 9 true _] [Uz 16 _,Uz 17 _] (λ(i:Nat)=>[Vz 4 4 78 9 true (pV aD J (nj ms i))]) (λ(i:Nat)=>[Uz 18 (pI (i:Int))]) (λ(i:Nat)=>i<=n) (λ(i:Nat)=>n-i) (0) (Nat.zero_le _) hI ⟨vi,vC (λ_ _ h=>h),trivial⟩ ⟨gi,gi,gc,trivial⟩ ?_
 intro i a w hi hI
 refine bZ hI 1 [] [] [Uc 0 19 _] (.k (.k .z)) (.dF .z) ⟨bn,trivial⟩ (.k (.k .z)) (.aA .z) λa w hI=>?_
 refine aC ?_
 refine nX hI (λt2=>?_) (λt2=>?_)
 ·
  refine aM ?_
  refine af ?_
  refine aC ?_
  refine aT ?_
  have hl2:=(h.el i (by omega)).1
  have hs2:=(h.el i (by omega)).2
  have qy:=hl i
  have hb0:bB J ((nj ms i).getD 0 0+(ms i).getD 0 0):=h.bd (i+1) 0 (by omega) (by decide)
  have hb1:bB J ((nj ms i).getD 1 0+(ms i).getD 0 0*(ms i).getD 1 0):=h.bd (i+1) 1 (by omega) (by decide)
  have hb2:bB J ((nj ms i).getD 2 0+(ms i).getD 0 0*(ms i).getD 2 0):=h.bd (i+1) 2 (by omega) (by decide)
  refine bZ hI 4 [⟨6,6,some 2,none,.ptr,78,9,true,pv _,[(3,pv _)]⟩] [] [Uc 0 20 _,Uc 1 21 _] (.k (.k .z)) (.aA .z) ⟨ix,ld,me [.r,.r,.r],gD,trivial⟩ (.k (.k (.s .o .z))) (.iE (.dd .z)) λa w hI=>?_
  refine aC ?_
  refine bZ hI 4 [] [⟨some 0,22,6,0,True⟩] [Uc 1 23 _,Uc 2 24 _,Uc 3 25 _] (.k (.k (.k .z))) (.dF .z) ⟨fa,lV 0,su xO,bn,trivial⟩ (.k (.k (.k .z))) (.iE (.dk .z)) λa w hI=>?_
  refine nX hI (λt3=>?_) (λt3=>?_)
  ·exfalso; omega
  refine aM ?_
  refine af ?_
  refine VR hI [0,1,0,4,15,0,32,0,128,0,512,1951,4095,0,8192,0,32768,0,131072,499711,1048575,2097151,4194303] [] [⟨some 0,27,4,0,True⟩,⟨some 2,29,6,0,True⟩,⟨some 5,32,4,3,True⟩,⟨some 7,34,6,0,True⟩,⟨some 9,36,6,3,True⟩,⟨some 13,40,4,6,True⟩,⟨some 15,42,6,0,True⟩,⟨some 17,44,6,6,True⟩] [Uc 1 28 _,Uc 3 30 _,Uc 4 31 _,Uc 6 33 _,Uc 8 35 _,Uc 10 37 _,Uc 11 38 _,Uc 12 39 _,Uc 14 41 _,Uc 16 43 _,Uc 18 45 _,Uc 19 46 _,Uc 20 47 _,Uc 21 48 _] (.k (.u none [(22,pv _)] (.k .z))) (.aA .z) ⟨fa,lV 0,fa,lV 0,By (sZ hb0),fa,lV 1,fa,lV 0,fa,lV 1,By Dg,By (sZ hb1),fa,lV 2,fa,lV 0,fa,lV 2,By Dg,By (sZ hb2),bd [.o .r,.o .r,.o .r] [(0,_),(1,_),(2,_)],gD,trivial⟩ (.k (.s .o (.d .z))) (.iE (.d8 (.dO (.dd .z)))) λa w hI=>?_
  refine bz ?_
  refine af ?_
  refine ve hI 2 [] [] [Uc 0 49 _,Uc 1 18 _] (.k (.k .z)) (.kk (.t 1 .z)) ⟨bn,mv,trivial⟩ (.k (.k .z)) (.eT (.k .z)) λa w hI=>?_
  refine af ?_
  exact AE (i+1) (by omega) hI ⟨vc,vC (mc.pV (mc.c (Nat.le_refl _) (mc.c (Nat.le_refl _) (mc.c (Nat.le_refl _) mc.z)))),trivial⟩ ⟨gc,gc,gc,trivial⟩ (by omega)
 ·
  refine eJ ?_
  refine aL ?_
  refine aL ?_
  refine bM ?_
  refine af ?_
  refine aC ?_
  obtain rfl:i=n:=by omega
  have qy:=hl i
  refine bZ hI 3 [] [⟨some 0,50,4,0,True⟩] [Uc 1 51 _,Uc 2 52 _] (.k (.k .z)) (.aA .z) ⟨fa,lV 0,su GN,trivial⟩ (.k (.k .z)) (.dO (.dk .z)) λa w hI=>?_
  refine nX hI (λt4=>?_) (λt4=>?_)
  ·exfalso; exact h.some t4
  refine aM ?_
  refine af ?_
  refine EB hI [0,1,0,4,0,16,60,0,128,0,512,2044,4095,8191,16383] [] [⟨some 0,54,4,0,True⟩,⟨some 2,56,4,3,True⟩,⟨some 4,58,4,0,True⟩,⟨some 7,61,4,6,True⟩,⟨some 9,63,4,0,True⟩] [Uc 1 55 _,Uc 3 57 _,Uc 5 59 _,Uc 6 60 _,Uc 8 62 _,Uc 10 64 _,Uc 11 65 _,Uc 12 66 _,Uc 14 3 _] (.u none [(13,pv _)] (.k .z)) (.k .z) ⟨fa,lV 0,fa,lV 1,fa,lV 0,zg uF,fa,lV 2,fa,lV 0,zg uF,bd [.o .r,.o .r,.o .r] [(0,_),(1,_),(2,_)],gD,mv,trivial⟩ (.s .o (.d .z)) (.d8 (.dk .z)) λa w hI=>?_
  refine aV ?_
  exact yl hI rfl rK mb
theorem Dh {x:Rat} (s:ByteArray) (h:strOf (er x)=s/\j<=100000000):∀w v1,pR j x w v1->Calls Tryz.prog 27 #[v1] w (ew (bY (.string s)) w):=λw v1 h1=>(xz w v1 x h1.2 h1.1 h.2).mono λ_ _ hr=>by rw[<-h.1]; exact oM hr
theorem Mc (_:True):K2 Tryz.prog 22 (qM Gs 1) (qM Hg 2) (gh (qM Ql 2) (pI 0)):=by
 have k:=K8 Hh
 rw[wI]at k
 exact k
def Sm (i:Nat):List Rat:=if i=0 then[1,0,0]else[1,4,2]
theorem N2:Me 2 64 64 Sm where
 len:=by decide
 bits:=by decide
 el i hi:=by
  match i,hi with
  |0,_=>exact⟨rfl,by decide⟩
  |1,_=>exact⟨rfl,by decide⟩
 bd k q hk hq:=by
  have key:∀k,k<=2->∀q,q<3->((nj Sm k).getD q 0).num.natAbs<2^64/\((nj Sm k).getD q 0).den<2^64:=by decide +kernel
  exact key k hk q hq
 some:=by decide +kernel
end Wx

namespace Wx
set_option maxRecDepth 100000
set_option maxHeartbeats 1000000
open Go Go.RowKit Go.Proofs
set_option linter.unusedVariables false
attribute [local irreducible] OpOk
theorem tZ (h:True):K0 Tryz.prog 5 (pB true):=by
 intro M w0 hM
 refine R8 (N:=91) Tryz.func5 rfl rfl rfl hM λa hI=>?_
 refine dR hI 1 [Uc 0 0 _] .z ⟨mv,trivial⟩ (.k .z) λa w hI=>?_
 refine bZ hI 7 [⟨1,1,some 5,none,.ptr,71,2,true,pv _,[(6,pv _)]⟩] [] [Uc 0 11 _,Uc 1 12 _,Uc 2 13 _,Uc 3 14 _,Uc 4 15 _] .z (.k .z) ⟨bd [.o .i,.o .i] [],bd [.o .i,.o .i] [(0,_)],bd [.o .i,.o .i] [(1,_)],Tw 68 Gs [(0,gn (0,0)),(1,gn (4,0)),(2,gn (0,4))],bd [.o .n,.o .i] [(0,_),(1,_)],me [.n,.i],gD,trivial⟩ (.s .o .z) (.jy (.dd .z)) λa w hI=>?_
 refine bZ hI 7 [⟨2,2,some 5,none,.ptr,71,2,true,pv _,[(6,pv _)]⟩] [] [Uc 0 16 _,Uc 1 17 _,Uc 2 18 _,Uc 3 19 _,Uc 4 20 _] (.k .z) (.k .z) ⟨bd [.o .i,.o .i] [(0,_),(1,_)],bd [.o .i,.o .i] [(0,_),(1,_)],bd [.o .i,.o .i] [(0,_),(1,_)],Tw 68 Hg [(0,gn (1,1)),(1,gn (5,1)),(2,gn (1,5))],bd [.o .n,.o .i] [(0,_),(1,_)],me [.n,.i],gD,trivial⟩ (.k (.s .o .z)) (.jy (.dd .z)) λa w hI=>?_
 refine bZ hI 8 [] [] [Uc 0 22 _,Uc 1 23 _,Uc 2 24 _,Uc 3 21 _,Uc 4 25 _,Uc 5 26 _,Uc 6 3 _,Uc 7 4 _] (.k (.k .z)) (.k .z) ⟨ld,bd [.o .i,.o .i] [(0,_),(1,_)],zg (Ir (L:=Gs) (d:=1) (p:=(2,2))),mv,ext,ext,mv,mv,trivial⟩ (.k (.k .z)) (.jy (.iB (.k .z))) λa w hI=>?_
 refine bZ hI 9 [⟨5,5,some 6,none,.ptr,71,2,true,pv _,[(7,pv _)]⟩] [] [Uc 0 28 _,Uc 1 29 _,Uc 2 30 _,Uc 3 27 _,Uc 4 31 _,Uc 5 32 _,Uc 8 6 _] (.k (.k .z)) (.dF .z) ⟨ld,ld,zg Mc,mv,ext,ext,me [.n,.i],gD,mv,trivial⟩ (.k (.k (.s .o .z))) (.iE (.dO (.dk .z))) λa w hI=>?_
 refine bZ hI 8 [] [] [Uc 0 34 _,Uc 1 35 _,Uc 2 36 _,Uc 3 33 _,Uc 4 37 _,Uc 5 38 _,Uc 6 7 _,Uc 7 8 _] (.k (.k (.k .z))) (.aA .z) ⟨ld,ld,Sj (K7 (K:=Gs) (L:=Hg) (k:=1) (l:=2) (f:=1)),mv,ext,ext,mv,mv,trivial⟩ (.d (.d (.k .z))) (.aA (.dO (.yb .z))) λa w hI=>?_
 refine bZ hI 14 [⟨9,9,some 11,none,.ptr,78,9,true,pv _,[(12,pv _)]⟩] [] [Uc 0 40 _,Uc 1 41 _,Uc 2 42 _,Uc 3 43 _,Uc 4 44 _,Uc 5 45 _,Uc 6 46 _,Uc 7 47 _,Uc 8 39 _,Uc 9 48 _,Uc 10 49 _,Uc 13 10 _] (.k .z) (.aA (.kk .z)) ⟨su Df,bd [.o .r,.o .r,.o .r] [(0,_)],su Df,su Df,su Df,bd [.o .r,.o .r,.o .r] [(0,_),(1,_),(2,_)],Sh (p:=pV aD 64 [1,0,0]) (q:=pV aD 64 [1,4,2]) (zv:=.agg ([Zl.r,.r,.r].flatMap Zl.cs).toArray) 78 ([Zl.r,.r,.r].flatMap Zl.cs) (λi=>pV aD 64 (Sm i)) (jE (λ_=>lB) rfl) (jE (λ_=>lB) rfl) (h1:=(hs).imp (mc.pV (mc.c (by decide) (mc.c (by decide) (mc.c (by decide) mc.z))))) (h2:=(hs).imp (mc.pV (mc.c (by decide) (mc.c (by decide) (mc.c (by decide) mc.z))))),Dq Fm (hφ:=N2),mv,ext,ext,me [.r,.r,.r],gD,mv,trivial⟩ (.k (.s .o .z)) (.aA (.eT (.d8 (.dk .z)))) λa w hI=>?_
 refine bZ hI 42 [] [⟨some 10,60,5,1,_⟩,⟨some 15,65,5,0,_⟩,⟨some 30,80,9,3,_⟩,⟨some 36,86,9,6,_⟩] [Uc 0 50 _,Uc 1 51 _,Uc 2 52 _,Uc 3 53 _,Uc 4 54 _,Uc 5 55 _,Uc 6 56 _,Uc 7 57 _,Uc 8 58 _,Uc 9 59 _,Uc 11 61 _,Uc 12 62 _,Uc 13 63 _,Uc 14 64 _,Uc 16 66 _,Uc 17 67 _,Uc 18 68 _,Uc 19 69 _,Uc 20 70 _,Uc 21 71 _,Uc 22 72 _,Uc 23 73 _,Uc 24 74 _,Uc 25 75 _,Uc 26 76 _,Uc 27 77 _,Uc 28 78 _,Uc 29 79 _,Uc 31 81 _,Uc 32 82 _,Uc 33 83 _,Uc 34 84 _,Uc 35 85 _,Uc 37 87 _,Uc 38 88 _,Uc 39 89 _,Uc 40 90 _,Uc 41 0 _] (.k (.k .z)) (.t 41 (.aA (.kk .z))) ⟨mv,mv,mv,mv,I9 hs hs hs hs (pt rfl),bn,mv,gd λh=>yn h,pk,mv,gd λh=>KI h,gd λh=>rj h,gd λh=>Ad h,pk,mv,gd λh=>KI h,gd λh=>rj h,gd λh=>bd [.o .i,.o .i] [] (hp:=pg h rfl),gd λh=>bd [.o .i,.o .i] [(0,_)] (hp:=pg h rfl),gd λh=>bd [.o .i,.o .i] [(0,_),(1,_)] (hp:=pg h rfl),gd λh=>bd [.o .i,.o .i] [(0,_),(1,_)] (hp:=pg h rfl),gd λh=>bd [.o .i,.o .i] [(1,_)] (hp:=pg h rfl),gd λh=>TJ h 68 Ql [(0,gn (0,0)),(1,gn (4,0)),(2,gn (5,1)),(3,gn (1,5)),(4,gn (0,4))],gd λh=>KG h (Lf (K:=Ql) (L:=Ql)),pk,mv,gd λh=>yn h,gd λh=>Su h,pk,mv,gd λh=>KI h,gd λh=>lV 1 (hcd:=h) (hq:=by decide) (hp:=pg h rfl),gd λh=>Ht h (Dh ⟨#[50]⟩) (hφ:=⟨by kernel_rfl,by decide⟩),gd λh=>rE (neq:=false) (m:=⟨#[50]⟩) hg hg (pg h rfl),pk,mv,gd λh=>KI h,gd λh=>lV 2 (hcd:=h) (hq:=by decide) (hp:=pg h rfl),gd λh=>Ht h (Dh ⟨#[49]⟩) (hφ:=⟨by kernel_rfl,by decide⟩),gd λh=>rE (neq:=false) (m:=⟨#[49]⟩) hg hg (pg h rfl),pk,mv,trivial⟩ (.d (.d .z)) (.d8 (.d8 (.d8 (.d8 (.d8 (.dO (.k .z))))))) λa w hI=>?_
 refine aV ?_
 exact dD hI rfl (mb (hq:=jK (by kernel_rfl)))
end Wx

namespace Wx
set_option maxRecDepth 100000
set_option maxHeartbeats 1000000
open Go Go.RowKit Go.Proofs
set_option linter.unusedVariables false
attribute [local irreducible] OpOk
section
variable {n:Nat} {ms:Nat->List Rat}
end
theorem RU {x y:Rat} {j k:Nat} (h:j+k<=4000000):K2 Tryz.prog 41 (pN j x) (pN k y) (pN (j+k) (x/y)):=by
 intro M w0 v0 v1 hM hv0 iK
 refine ze (N:=14) Tryz.func41 rfl rfl rfl hM hv0 iK λa hI=>?_
 refine bZ hI 3 [⟨2,2,some 0,none,.ptr,38,3,true,pv _,[]⟩,⟨3,3,some 1,none,.ptr,38,3,true,pv _,[]⟩,⟨4,4,some 2,none,.ptr,38,3,true,pv _,[]⟩] [] [] .z (.kk .z) ⟨bo,bo,me [.f],trivial⟩ (.k (.k (.k .z))) (.dd .z) λa w hI=>?_
 refine bZ hI 9 [⟨5,5,some 6,none,.ptr,38,3,true,pv _,[(7,pv _)]⟩] [] [Uc 0 8 _,Uc 1 9 _,Uc 2 10 _,Uc 3 7 _,Uc 4 11 _,Uc 5 12 _,Uc 8 6 _] (.k (.k (.k .z))) .z ⟨ld,ld,By MV,mv,ext,ext,me [.f],gD,mv,trivial⟩ (.d (.d (.k (.s .o .z)))) (.dO (.Kz .z)) λa w hI=>?_
 refine bZ hI 2 [] [] [Uc 0 13 _] (.u none [(1,pv _)] (.k .z)) .z ⟨ld,gD,trivial⟩ (.s .o (.d .z)) (.d .z) λa w hI=>?_
 refine aV ?_
 exact dD hI rfl rK
end Wx

namespace Wx
open Go Go.RowKit Go.Proofs
set_option linter.unusedVariables false
attribute [local irreducible] OpOk
theorem JD {L:List (List (Int×Int))} {i:Nat}:∀k,k<1->(λ_:Nat=>L.getD i []) k=L.getD (i+k) []:=λk hk=>by rw[show k=0 by omega]; rfl
section
variable {α:Type} {F:α->Pred} {l:List α} {P:Program} {ops:Array Oper} {ms:List Nat} {c:dS} {V:List Vr} {A:List Al} {G:List bf} {i d:Nat} {x y:Operand} {ty:TypeId} {pos:String} {aJ:Array Edge}
theorem Sy {T:TypeId} {sz N:Nat} (n q:Nat) (d0:α) (h:Has ms G i x (dU N true (pG sz F l)):=by exact hs) (MG:l.length=n:=by omega) (hy:Has ms G i y (pI (q:Int)):=by exact(Wx.hs).imp (dB (by omega))) (hq:q<n:=by omega) (hp:Post G i (dU sz true (F (l.getD q d0))):=by exact pt rfl) (hsz:N=n*sz:=by exact rfl) (ht:Nx P T n sz=true:=by kernel_rfl) (hA:(A.all λq=>q.tag != some i)=true:=by kernel_rfl):
  OpOk P ops ms c V A G i ⟨some d,.indexAddr T x y,ty,pos,aJ,none⟩:=
 hI' (l:=l) (o:=0) n q d0 (h:=by rw[show(l.drop 0).take n=l from List.take_of_length_le (Nat.le_of_eq MG)]; exact h) (hy:=hy) (hq:=hq) (hl:=by omega) (hp:=by rw[Nat.zero_add]; exact hp) (hsz:=hsz) (ht:=ht) (hA:=hA)
end
end Wx
