import Derived.Test.YtadigiledciihaaGreatJRR38
import Derived.Test.YtadigiledciihaaGreatJRR44
namespace Wx
set_option maxRecDepth 100000
set_option maxHeartbeats 1000000
open Go Go.RowKit Go.Proofs
set_option linter.unusedVariables false
attribute [local irreducible] OpOk
def je (O:List Pt) (p:Pt):Nat->Nat
 |0=>0
 |1=>1
 |n+2=>if cz (av O n) (av O (n+1)) p<=0 then je O p (n+1)else n+2
theorem q7 (O:List Pt) (p:Pt):∀n,je O p n<=n
 |0=>Nat.le_refl _
 |1=>Nat.le_refl _
 |n+2=>by
  show(if cz (av O n) (av O (n+1)) p<=0 then je O p (n+1)else n+2)<=_
  have:=q7 O p (n+1)
  split<;>omega
variable {O:List Pt} {p:Pt} {n:Nat}
theorem BL (h1:1<n) (h:cz (av O (n-2)) (av O (n-1)) p<=0):je O p n=je O p (n-1):=by
 obtain⟨m,rfl⟩:∃m,n=m+2:=⟨n-2,by omega⟩
 show(if cz (av O m) (av O (m+1)) p<=0 then je O p (m+1)else m+2)=_
 rw[if_pos (show cz (av O m) (av O (m+1)) p<=0 from h)]
 rfl
theorem BK (h:¬(1<n/\cz (av O (n-2)) (av O (n-1)) p<=0)):je O p n=n:=by
 match n,h with
 |0,_=>rfl
 |1,_=>rfl
 |m+2,h=>
  show(if cz (av O m) (av O (m+1)) p<=0 then je O p (m+1)else m+2)=_
  exact if_neg λh2=>h ⟨by omega,h2⟩
def aC (L:List Pt):Nat->List Pt
 |0=>[]
 |k+1=>(aC L k).take (je (aC L k) (av L k) (aC L k).length)++[av L k]
theorem qy (L:List Pt) (k:Nat):(aC L (k+1)).length=je (aC L k) (av L k) (aC L k).length+1:=by
 show((aC L k).take _++[av L k]).length=_
 have:=q7 (aC L k) (av L k) (aC L k).length
 rw[List.length_append,List.length_take,Nat.min_eq_left this]
 rfl
theorem iY (L:List Pt):∀k,(aC L k).length<=k
 |0=>Nat.le_refl _
 |k+1=>by
  rw[qy]
  have h1:=iY L k
  have h2:=q7 (aC L k) (av L k) (aC L k).length
  omega
theorem qz {L:List Pt} {x:Pt}:∀{k:Nat},x∈aC L k->∃q,q<k/\x=av L q
 |0,h=>by cases h
 |k+1,h=>by
  have h:x∈(aC L k).take _++[av L k]:=h
  rcases List.mem_append.1 h with h|h
  ·obtain⟨q,hq,e⟩:=qz (List.mem_of_mem_take h)
   exact⟨q,by omega,e⟩
  ·exact⟨k,by omega,List.mem_singleton.1 h⟩
theorem Eu {q:Nat} (h:q<O.length):av O q∈O:=by
 unfold av
 rw[List.getD_eq_getElem?_getD,List.getElem?_eq_getElem h]
 exact List.getElem_mem h
variable {L:List Pt}
theorem wk {B:Int} {k:Nat} (h:∀q,q<L.length->b9 B (av L q)) (hk:k<=L.length):∀q,q<(aC L k).length->b9 B (av (aC L k) q):=λq hq=>by
 obtain⟨j,hj,e⟩:=qz (Eu hq)
 rw[e]
 exact h j (by omega)
theorem GJ (hn:n<=O.length):∀i w v,(if i<n then dS (av O i)else dS p) w v->i<n+1->dS (av (O.take n++[p]) i) w v:=λi w v h hi=>by
 have hl:(O.take n).length=n:=by rw[List.length_take,Nat.min_eq_left hn]
 by_cases h1:i<n
 ·rw[if_pos h1]at h
  have e:av (O.take n++[p]) i=av O i:=by
   unfold av
   rw[List.getD_eq_getElem?_getD,List.getD_eq_getElem?_getD,List.getElem?_append_left (by omega),List.getElem?_take,if_pos h1]
  rw[e]
  exact h
 ·rw[if_neg h1]at h
  obtain rfl:i=n:=by omega
  have e:av (O.take i++[p]) i=p:=by
   unfold av
   rw[List.getD_eq_getElem?_getD,List.getElem?_append_right (by omega),hl,Nat.sub_self]
   rfl
  rw[e]
  exact h
theorem wA (h:decide ((n:Int)>1)=true):1<n:=by have:=of_decide_eq_true h; omega
theorem Nn {P:Program} {fn:Func} {w:World} {f:FuncId} {C:Code} {v0:Value} {M:Nat->Nat->Prop} {R:World->Ending->World->Prop} {p0:Pred} {N:Nat} (hf:P.funcs[f]?=some fn) (hb:fn.body=some C) (hN:fn.ntmps=N) (hlen:decide ([v0].length<=N)=true) (hM:da M w) (h0:aP M (λw=>p0 w v0) w) (h:∀a,Inv ⟨N,w,M,λ_=>False⟩ [] [] [Uz 0 p0] none_ a w->C.ww none [] P (bodyPost P fn (R w)) a w):Calls P f #[v0] w (R w):=
 ur (vs:=[v0]) hf hb hN hlen hM (show dU M w [v0] [Uz 0 p0]from⟨⟨rfl,_,rfl,h0⟩,trivial⟩) λa hI=>(wpIn_wide (n:=0)).1 (wpIn_mono (h a hI 0) λe a' w' ⟨a0,e0,h0⟩=>by subst e0; exact h0)
theorem Gj (h:2<=L.length/\L.length<=1000/\(∀q,q<L.length->b9 16777216 (av L q))/\2<=(aC L L.length).length):∀(M:Nat->Nat->Prop) (w:World) (v0:Value),da M w->aP M (λw=>(fT L) w v0) w->Calls Tryz.prog 74 #[v0] w (uf 2 ((aC L L.length).length-1) true 26 (λi=>dS (av (aC L L.length) i)) w):=by
 intro M w0 v0 hM hv0
 have hL:=h.2.1
 have hn:=h.2.2.1
 have h2:=h.2.2.2
 refine Nn (N:=48) Tryz.func74 rfl rfl rfl hM hv0 λa hI=>?_
 refine bg hI 1 [Uc 0 2 _] (.k .z) ⟨mv,trivial⟩ (.kk .z) λa w hI=>?_
 refine bg hI 1 [Uc 0 3 _] (.kk .z) ⟨mv,trivial⟩ (.dr .z) λa w hI=>?_
 have hI:=MW (id:=48) (sz:=2) (ag:=true) (E:=26) (λi=>dS (av (aC L 0) i)) hI (by kernel_rfl)
 dsimp only[List.append,HAppend.hAppend,Append.append]at hI
 refine az ?_
 refine bJ hI 3 [] [] [Uc 0 7 _,Uc 1 8 _,Uc 2 9 _] (.k .z) (.dr .z) ⟨mv,ln,mv,trivial⟩ (.k .z) (.C7 (.kk .z)) λa w hI=>?_
 refine aK ?_
 refine vK [] [Uz 2 _,Uz 7 _,Uz 8 _] (λ(k:Nat×Option Addr×Nat)=>[(kR 48 2 (aC L k.1).length true 26 (λi=>dS (av (aC L k.1) i)) (.slice k.2.1 (aC L k.1).length k.2.2))]) (λ(k:Nat×Option Addr×Nat)=>[Uz 9 (pI (k.1:Int)),Uz 3 (bN (.slice k.2.1 (aC L k.1).length k.2.2))]) (λ(k:Nat×Option Addr×Nat)=>k.1<=L.length) (λ(k:Nat×Option Addr×Nat)=>L.length-k.1) ((0,none,0)) (Nat.zero_le _) hI ⟨K9,trivial⟩ ⟨gi,gi,gi,gc,gc,trivial⟩ ?_
 intro k a w hk hI
 refine bJ hI 1 [] [] [Uc 0 10 _] (.k .z) (.au (.k .z)) ⟨bn,trivial⟩ (.k .z) (.au (.kk .z)) λa w hI=>?_
 refine az ?_
 refine kp hI (λt1=>?_) (λt1=>?_)
 ·
  refine aG ?_
  refine af ?_
  refine az ?_
  refine aK ?_
  have hO:=wk hn hk
  have hle:=iY L k.1
  refine bJ hI 4 [⟨5,5,some 2,none,.ptr,26,2,true,pv _,[(3,pv _)]⟩] [] [Uc 0 11 _,Uc 1 12 _] (.k .z) (.au (.kk .z)) ⟨ix,ld,tJ [.i,.i],mQ,trivial⟩ (.k (.s .o .z)) (.au (.jE .z)) λa w hI=>?_
  refine az ?_
  refine bJ hI 3 [] [] [Uc 0 13 _,Uc 1 14 _,Uc 2 6 _] (.k (.k .z)) (.au (.k .z)) ⟨mv,MR,mv,trivial⟩ (.k (.k .z)) (.au (.w9 .z)) λa w hI=>?_
  refine aK ?_
  refine vK [Vz 5 5 26 2 true _] [Uz 2 _,Uz 7 _,Uz 8 _,Uz 9 _] (λ(n:Nat)=>[(kR 48 2 n true 26 (λi=>dS (av (aC L k.1) i)) (.slice k.2.1 n k.2.2))]) (λ(n:Nat)=>[Uz 6 (pI (n:Int)),Uz 3 (bN (.slice k.2.1 n k.2.2))]) (λ(n:Nat)=>n<=(aC L k.1).length/\je (aC L k.1) (av L k.1) (aC L k.1).length=je (aC L k.1) (av L k.1) n) (λ(n:Nat)=>n) ((aC L k.1).length) ⟨Nat.le_refl _,rfl⟩ hI ⟨vi,K9,trivial⟩ ⟨gi,gi,gi,gi,gc,gc,trivial⟩ ?_
  intro n a w hi hI
  refine az ?_
  refine Fb hI [0,1,3,7,7,23,63,127,7,7,519,1799,3847,7,16383,32767,65535] [] [] [Uc 0 15 _,Uc 1 16 _,Uc 2 17 _,Uc 3 18 _,Uc 4 19 _,Uc 5 20 _,Uc 6 21 _,Uc 7 22 _,Uc 8 23 _,Uc 9 24 _,Uc 10 25 _,Uc 11 26 _,Uc 12 27 _,Uc 13 28 _,Uc 14 29 _,Uc 15 30 _,Uc 16 31 _] (.k (.k .z)) (.au (.kk .z)) ⟨mv,bn,mv,gd λh=>fl h,gd λh=>fl h,gd λh=>nh h,gd λh=>Ia h 48 (n-2) (hk:=by have:=wA h; omega) (hq:=by have:=wA h; omega),gd λh=>Ib h 48 (hq:=by have:=wA h; omega) (hn:=fg _),gd λh=>fl h,gd λh=>fl h,gd λh=>nh h,gd λh=>Ia h 48 (n-1) (hk:=by have:=wA h; omega) (hq:=by have:=wA h; omega),gd λh=>Ib h 48 (hq:=by have:=wA h; omega) (hn:=fg _),gd λh=>jC h,gd λh=>yI h rf (hφ:=⟨hO _ (by have:=wA h; omega),hO _ (by have:=wA h; omega),hn _ (by omega)⟩),gd λh=>nh h,pk,trivial⟩ (.k (.k .z)) (.au (.e9 (.d8 (.dD (.n5 .z))))) λa w hI=>?_
  refine vB hI (λt2=>?_) (λt2=>?_)
  ·
   refine aG ?_
   refine af ?_
   refine az ?_
   refine aK ?_
   obtain⟨hp1,hp2⟩:1<n/\cz (av (aC L k.1) (n-2)) (av (aC L k.1) (n-1)) (av L k.1)<=0:=by
    simp only[Bool.and_eq_true,decide_eq_true_eq]at t2
    exact⟨by omega,t2.2⟩
   refine NS hI 5 3 [] [] [Uc 0 34 _,Uc 1 35 _,Uc 2 36 _] (.k (.k .z)) (.au (.dr .z)) ⟨mv,mv,bn,trivial⟩ (.k (.k .z)) (.au (.eM (.dk .z))) (Hv (n0:=1) (n-1) (hnf:=λ_=>fg _)) λa w hI=>?_
   dsimp only[List.set]at hI
   refine bk ?_
   refine af ?_
   refine yc hI 3 [] [] [Uc 0 32 _,Uc 1 33 _,Uc 2 6 _] (.k (.k .z)) (.au (.dr .z)) ⟨mv,MR,mv,trivial⟩ (.k (.k .z)) (.au (.jE (.dk .z))) λa w hI=>?_
   refine af ?_
   exact vI (n-1) ⟨by omega,by rw[hi.2]; exact BL hp1 hp2⟩ hI ⟨vc,K9,trivial⟩ ⟨gc,gc,gc,gc,gc,gc,trivial⟩ (by omega)
  ·
   refine cI ?_
   refine aJ ?_
   refine aJ ?_
   refine bp ?_
   refine af ?_
   have hkn:je (aC L k.1) (av L k.1) n=n:=BK λhh=>by
    simp only[Bool.and_eq_false_iff,decide_eq_false_iff_not]at t2
    omega
   have hnl:n<=(aC L k.1).length:=hi.1
   have hlen:n+1=(aC L (k.1+1)).length:=by rw[qy,hi.2,hkn]
   have yR:(aC L k.1).take n++[av L k.1]=aC L (k.1+1):=by rw[<-hkn,<-hi.2]; rfl
   refine NS hI 5 3 [] [] [Uc 0 38 _,Uc 1 39 _,Uc 2 40 _] (.k (.k .z)) (.au (.dr .z)) ⟨mv,ld,SJ 26,trivial⟩ (.d (.k .z)) (.au (.eM (.dk .z))) (Oq (n0:=0) (λi=>dS (av (aC L (k.1+1)) i)) (yR▸GJ (O:=aC L k.1) hnl) (hnf:=λ_=>fg _) (hnp:=fg _) (hfit:=jz _)) λa w hI=>?_
   obtain⟨s',hI⟩:=hI
   dsimp only[List.set]at hI
   obtain⟨X',cap',rfl,hcap⟩:=wS hI 0 rfl
   refine bk ?_
   refine af ?_
   refine yc hI 2 [] [] [Uc 0 42 _,Uc 1 9 _] (.k .z) (.au (.t 1 (.kk .z))) ⟨bn,mv,trivial⟩ (.k .z) (.au (.dD (.k .z))) λa w hI=>?_
   refine af ?_
   rw[hlen]at hI
   exact vI ((k.1+1,X',cap')) (by(show k.1+1<=L.length); omega) hI ⟨K9,trivial⟩ ⟨gc,gc,gc,gc,gc,trivial⟩ (by(show L.length-(k.1+1)<L.length-k.1); omega)
 ·
  refine cI ?_
  refine aJ ?_
  refine aJ ?_
  refine bp ?_
  refine af ?_
  obtain⟨k,X,cap⟩:=k
  obtain rfl:k=L.length:=by(have hk':k<=L.length:=hk); omega
  dsimp only at hI
  have hle:=iY L L.length
  refine x5 hI 6 4 [] [] [Uc 0 43 _,Uc 1 44 _,Uc 2 45 _,Uc 3 46 _] (.k .z) (.au (.kk .z)) ⟨mv,mv,MR,bn,trivial⟩ (.k .z) (.dD (.Jv (.dk .z))) (Hv (n0:=0) ((aC L L.length).length-1) (hnf:=λ_=>fg _)) λa w hI=>?_
  dsimp only[List.set]at hI
  refine aI ?_
  exact OA (n0:=0) hI rfl rfl (by omega)
end Wx

namespace Wx
set_option maxRecDepth 100000
set_option maxHeartbeats 1000000
open Go Go.RowKit Go.Proofs
set_option linter.unusedVariables false
attribute [local irreducible] OpOk
variable {L:List Pt}
theorem DM (h:0<L.length/\L.length<=1000000):∀(M:Nat->Nat->Prop) (w:World) (v0:Value),da M w->aP M (λw=>(cA 2 true L.length λi=>dS (av L i)) w v0) w->Calls Tryz.prog 70 #[v0] w (Fy 2 L.length true (λi=>dS (av L i)) w):=by
 intro M w0 v0 hM hv0
 refine Nn (N:=8) Tryz.func70 rfl rfl rfl hM hv0 λa hI=>?_
 refine bg hI 1 [Uc 0 2 _] (.k .z) ⟨mv,trivial⟩ (.kk .z) λa w hI=>?_
 refine az ?_
 refine bg hI 2 [Uc 0 3 _,Uc 1 4 _] (.kk .z) ⟨mv,Ce (E:=26) hs h.1 (by kernel_rfl) (pt rfl),trivial⟩ (.nu .z) λa w hI=>?_
 refine Uu hI (rfl) ?_
 refine aG ?_
 refine af ?_
 refine bJ hI 4 [⟨7,7,some 2,some 3,.grow (L.length) 2,26,3,true,pv fo,[]⟩,⟨2,2,some 3,none,.grow (L.length) 2,26,3,true,pv fo,[]⟩] [] [Uc 0 5 _,Uc 1 6 _,Uc 2 7 _,Uc 3 2 _] .z (.k (.t 3 (.k .z))) ⟨SI (sz:=2) 26,mv,SE (F:=dS) (e:=λk=>av L k) L (0,0) jz (hn:=h.1) (hmax:=by omega),SF,trivial⟩ (.d (.k .z)) (.dD (.n5 .z)) λa w hI=>?_
 refine aI ?_
 exact OB hI rfl (n0:=0) rfl h.1 (k:=0) rfl
variable {m n:Nat}
theorem BN {b cap:Nat} (h:2<=n/\n<=1000/\n*2<=m/\∀k,1<=k->k<n->av L k≠av L (k-1)):∀(M:Nat->Nat->Prop) (w:World) (v0:Value),da M w->(∀o,¬M b o)->One b m (Eo n L) w->aP (kj M b) (λw=>bN (.slice (some ⟨b,0,none⟩) n cap) w v0) w->Calls Tryz.prog 73 #[v0] w (ug M b m (bN (.slice (some ⟨b,0,none⟩) n cap)) (Eo n L) w):=by
 obtain⟨h1,h2,h3,hne⟩:=h
 intro M w0 v0 hM O8 h0 hv0
 refine QE (N:=61) Tryz.func73 rfl rfl hM O8 (fR λ_=>fg _) h0 hv0 λa hI=>?_
 refine bJ hI 1 [] [] [Uc 0 2 _] (.k .z) (.k .z) ⟨mv,trivial⟩ (.k .z) (.kk .z) λa w hI=>?_
 refine az ?_
 refine bJ hI 3 [] [] [Uc 0 6 _,Uc 1 7 _,Uc 2 8 _] (.k .z) (.kk .z) ⟨mv,MR,bn,trivial⟩ (.k .z) (.e9 (.k .z)) λa w hI=>?_
 refine kp hI (λt1=>?_) (λt1=>?_)
 ·exfalso; omega
 refine aG ?_
 refine af ?_
 refine az ?_
 refine bJ hI 1 [] [] [Uc 0 3 _] (.k .z) (.dr .z) ⟨mv,trivial⟩ (.k .z) (.nu .z) λa w hI=>?_
 refine aK ?_
 refine vK [eu 61 b m _] [Uz 0 _] (λ(k:Nat)=>[]) (λ(k:Nat)=>[Uz 3 (pI (k:Int))]) (λ(k:Nat)=>1<=k/\k<=n) (λ(k:Nat)=>n-k) (1) (by omega) hI ⟨vO,trivial⟩ ⟨gi,gc,trivial⟩ ?_
 intro k a w hk hI
 refine az ?_
 refine bJ hI 4 [] [] [Uc 0 10 _,Uc 1 11 _,Uc 2 12 _,Uc 3 13 _] (.k .z) (.kk .z) ⟨mv,mv,MR,bn,trivial⟩ (.k .z) (.e9 (.dk .z)) λa w hI=>?_
 refine kp hI (λt2=>?_) (λt2=>?_)
 ·
  refine aG ?_
  refine af ?_
  refine az ?_
  refine aK ?_
  refine Fb hI [0,0,3,7,0,0,32,112,240,511] [] [] [Uc 0 16 _,Uc 1 17 _,Uc 2 18 _,Uc 3 19 _,Uc 4 20 _,Uc 5 21 _,Uc 6 22 _,Uc 7 23 _,Uc 8 24 _,Uc 9 25 _] (.k .z) (.dr .z) ⟨mv,mv,iX 2 k,RZ 61 k,mv,mv,bn,iX 2 (k-1),RZ 61 (k-1),SS,trivial⟩ (.k .z) (.e9 (.d8 (.k .z))) λa w hI=>?_
  refine kp hI (λt3=>?_) (λt3=>?_)
  ·exfalso; exact hne k (by omega) (by omega) t3
  refine aG ?_
  refine bk ?_
  refine af ?_
  refine yc hI 3 [] [] [Uc 0 14 _,Uc 1 15 _,Uc 2 3 _] (.k .z) (.k (.t 2 (.k .z))) ⟨mv,bn,mv,trivial⟩ (.k .z) (.jE (.dk .z)) λa w hI=>?_
  refine af ?_
  exact vI (k+1) (by omega) hI ⟨vO,trivial⟩ ⟨gc,gc,trivial⟩ (by omega)
 ·
  refine cI ?_
  refine aJ ?_
  refine aJ ?_
  refine bp ?_
  refine af ?_
  refine bJ hI 2 [] [] [Uc 0 60 _,Uc 1 2 _] (.k .z) (.dr .z) ⟨mv,mv,trivial⟩ (.k .z) (.dD (.k .z)) λa w hI=>?_
  refine aI ?_
  exact LJ (n0:=0) hI rfl rfl
theorem Ct:(nR n L).length=n:=by
 unfold nR rQ
 rw[List.length_map]
 show(List.mergeSort _ _).length=n
 rw[List.length_mergeSort,Array.length_toList,cD]
variable {i:Nat}
theorem zm {d:Array Bf} (h:i<d.size):b9 16777216 (av (rQ d) i):=by
 rw[<-tT h]
 exact(d[i]!).h
theorem mL:∀q,q<n->b9 16777216 (av (nR n L) q):=λq hq=>by
 unfold nR
 refine zm ?_
 rw[List.size_toArray,List.length_mergeSort,Array.length_toList,cD]
 exact hq
abbrev GL (n:Nat) (S:List Pt):List Pt:=(List.range n).map λi=>av S (n-1-i)
variable {S:List Pt}
theorem EC:(GL n S).length=n:=by rw[List.length_map,List.length_range]
theorem GM (h:i<n):av (GL n S) i=av S (n-1-i):=by
 unfold av
 rw[List.getD_eq_getElem?_getD,List.getElem?_map,List.getElem?_range h]
 rfl
theorem xb (hl:S.length=n) (h:2<=n/\n<=1000/\(∀q,q<n->b9 16777216 (av S q))/\2<=(aC S n).length):∀(M:Nat->Nat->Prop) (w:World) (v0:Value),da M w->aP M (λw=>cA 2 true n (λi=>dS (av S i)) w v0) w->Calls Tryz.prog 74 #[v0] w (uf 2 ((aC S n).length-1) true 26 (λi=>dS (av (aC S n) i)) w):=by
 subst hl
 exact Gj h
def kU (S R:List Pt) (n:Nat):List Pt:=(aC S n).take ((aC S n).length-1)++(aC R n).take ((aC R n).length-1)
variable {R:List Pt}
theorem BF:(kU S R n).length=(aC S n).length-1+((aC R n).length-1):=by
 unfold kU
 rw[List.length_append,List.length_take,List.length_take,Nat.min_eq_left (Nat.sub_le _ _),Nat.min_eq_left (Nat.sub_le _ _)]
theorem AL {O:List Pt} (h:i<m):av (O.take m) i=av O i:=by
 unfold av
 rw[List.getD_eq_getElem?_getD,List.getD_eq_getElem?_getD,List.getElem?_take,if_pos h]
theorem Dx:∀i w v,(if i<(aC S n).length-1 then dS (av (aC S n) i)else dS (av (aC R n) (i-((aC S n).length-1)))) w v->i<(aC S n).length-1+((aC R n).length-1)->dS (av (kU S R n) i) w v:=λi w v h hi=>by
 have hl:((aC S n).take ((aC S n).length-1)).length=(aC S n).length-1:=by rw[List.length_take,Nat.min_eq_left (Nat.sub_le _ _)]
 by_cases h1:i<(aC S n).length-1
 ·rw[if_pos h1]at h
  have e:av (kU S R n) i=av (aC S n) i:=by
   rw[<-AL (O:=aC S n) h1]
   unfold av kU
   rw[List.getD_eq_getElem?_getD,List.getD_eq_getElem?_getD,List.getElem?_append_left (by omega)]
  rw[e]
  exact h
 ·rw[if_neg h1]at h
  have e:av (kU S R n) i=av (aC R n) (i-((aC S n).length-1)):=by
   rw[<-AL (O:=aC R n) (m:=(aC R n).length-1) (by omega)]
   unfold av kU
   rw[List.getD_eq_getElem?_getD,List.getD_eq_getElem?_getD,List.getElem?_append_right (by omega),hl]
  rw[e]
  exact h
abbrev AJ (L:List Pt):Prop:=∀q,q<L.length->b9 16777216 (av L q)
noncomputable abbrev sL (L:List Pt):List Pt:=nR L.length L
noncomputable abbrev rL (L:List Pt):List Pt:=GL L.length (sL L)
structure ud (L:List Pt):Prop where
 two:2<=L.length
 max:L.length<=1000
 near:AJ L
 ne:∀k,1<=k->k<L.length->av (sL L) k≠av (sL L) (k-1)
 lo:2<=(aC (sL L) L.length).length
 up:2<=(aC (rL L) L.length).length
theorem Ke (h:ud L):K1 Tryz.prog 35 (fT L) (cA 2 true ((aC (sL L) L.length).length-1+((aC (rL L) L.length).length-1)) λi=>dS (av (kU (sL L) (rL L) L.length) i)):=by
 intro M w0 v0 hM hv0
 have h2:=h.two
 have hm:=h.max
 have hlo:=h.lo
 have RR:=h.up
 have tD:=iY (sL L) L.length
 have hl2:=iY (rL L) L.length
 have Fq:∀q,q<L.length->b9 16777216 (av (rL L) q):=λq hq=>by rw[GM hq]; exact mL _ (by omega)
 refine sU (N:=21) Tryz.func35 rfl rfl rfl hM hv0 λa hI=>?_
 refine bg hI 1 [Uc 0 2 _] (.k .z) ⟨mv,trivial⟩ (.kk .z) λa w hI=>?_
 refine x5 hI 3 1 [] [] [Uc 0 5 _] .z (.kk .z) ⟨mv,trivial⟩ .z (.Jx .z) (SR (DM (L:=L)) ⟨by omega,by omega⟩ (λ_=>fg _)) λa w hI=>?_
 obtain⟨b6,c6,RB,hI⟩:=hI
 refine x5 hI 2 1 [] [] [Uc 0 7 _] (.k .z) (.dr .z) ⟨mv,trivial⟩ (.k .z) (.nu .z) ⟨_,SL (n0:=0) (Kf (L:=L) (b:=b6) (n:=L.length) (N:=c6*2) (c:=c6)) (c1:=λ_ _ h=>h) (c2:=λ_ _ h=>h) (hφ:=⟨h.near,hm,by omega⟩) (hp:=cm _) (hq:=fR λ_=>fg _),rfl⟩ λa w hI=>?_
 dsimp only[List.set]at hI
 refine x5 hI 3 1 [] [] [Uc 0 9 _] (.k .z) (.au .z) ⟨mv,trivial⟩ (.k .z) (.Jv (.k .z)) (Ot (n0:=0) (BN (L:=sL L) (b:=b6) (m:=c6*2) (n:=L.length) (cap:=c6)) ⟨h2,hm,by omega,h.ne⟩ (fR λ_=>fg _) (c1:=λ_ _ h=>h)) λa w hI=>?_
 dsimp only[List.set]at hI
 refine bJ hI 1 [] [] [Uc 0 3 _] (.k .z) (.dr .z) ⟨mv,trivial⟩ (.k .z) (.nu .z) λa w hI=>?_
 refine x5 hI 4 2 [] [] [Uc 0 11 _,Uc 1 12 _] (.k .z) (.dr .z) ⟨mv,mv,trivial⟩ (.k .z) (.au (.k .z)) (SQ (n0:=0) (xb (S:=sL L) Ct) ⟨h2,hm,mL,hlo⟩ (λ_=>fg _) (hc:=RB)) λa w hI=>?_
 obtain⟨b13,c13,Ti,hI⟩:=hI
 refine x5 hI 2 1 [] [] [Uc 0 14 _] (.k (.k .z)) (.au (.kk .z)) ⟨mv,trivial⟩ (.k (.k .z)) (.au (.n5 .z)) ⟨_,Re (n0:=1) (BP (L:=sL L) (b:=b6) (n:=L.length) (N:=c6*2) (c:=c6)) (c1:=λ_ _ h=>h) (hφ:=⟨hm,by omega,mL⟩) (hp:=cm _) (hq:=fR λ_=>fg _),rfl⟩ λa w hI=>?_
 dsimp only[List.set]at hI
 refine x5 hI 6 4 [] [] [Uc 0 16 _,Uc 1 17 _,Uc 2 18 _,Uc 3 19 _] (.k (.k .z)) (.au (.kk .z)) ⟨mv,mv,mv,SN (xb (S:=rL L) EC) 6 ⟨h2,hm,Fq,RR⟩ (λ_=>fg _) (hcap:=RB),trivial⟩ (.k (.k .z)) (.dD (.Jv (.dk .z))) (Hw (n0:=0) (λi=>dS (av (kU (sL L) (rL L) L.length) i)) Dx (by omega) (hnf:=λ_=>fg _) (hng:=λ_=>fg _) (hfit:=λ_=>jz _)) λa w hI=>?_
 obtain⟨s',hI⟩:=hI
 dsimp only[List.set]at hI
 have hI:=EA hI 0 2 rfl (by kernel_rfl)
 dsimp only[List.eraseIdx]at hI
 refine aI ?_
 exact cF hI rfl fE
end Wx
