import Derived.Test.YtikkgpljpglnbaaGreatJRM36
import Derived.Test.YtikkgpljpglnbaaGreatJRM39
namespace Wx
set_option maxRecDepth 100000
set_option maxHeartbeats 1000000
open Go Go.RowKit Go.Proofs
set_option linter.unusedVariables false
attribute [local irreducible] OpOk
def cD (O:List Pt) (p:Pt):Nat->Nat
 |0=>0
 |1=>1
 |n+2=>if az (ae O n) (ae O (n+1)) p<=0 then cD O p (n+1)else n+2
theorem mj (O:List Pt) (p:Pt):∀n,cD O p n<=n
 |0=>Nat.le_refl _
 |1=>Nat.le_refl _
 |n+2=>by
  show(if az (ae O n) (ae O (n+1)) p<=0 then cD O p (n+1)else n+2)<=_
  have:=mj O p (n+1)
  split<;>omega
variable {O:List Pt} {p:Pt} {n:Nat}
theorem Bz (h1:1<n) (h:az (ae O (n-2)) (ae O (n-1)) p<=0):cD O p n=cD O p (n-1):=by
 obtain⟨m,rfl⟩:∃m,n=m+2:=⟨n-2,by omega⟩
 show(if az (ae O m) (ae O (m+1)) p<=0 then cD O p (m+1)else m+2)=_
 rw[if_pos (show az (ae O m) (ae O (m+1)) p<=0 from h)]
 rfl
theorem By (h:¬(1<n/\az (ae O (n-2)) (ae O (n-1)) p<=0)):cD O p n=n:=by
 match n,h with
 |0,_=>rfl
 |1,_=>rfl
 |m+2,h=>
  show(if az (ae O m) (ae O (m+1)) p<=0 then cD O p (m+1)else m+2)=_
  exact if_neg λh2=>h ⟨by omega,h2⟩
def ah (L:List Pt):Nat->List Pt
 |0=>[]
 |k+1=>(ah L k).take (cD (ah L k) (ae L k) (ah L k).length)++[ae L k]
theorem qb (L:List Pt) (k:Nat):(ah L (k+1)).length=cD (ah L k) (ae L k) (ah L k).length+1:=by
 show((ah L k).take _++[ae L k]).length=_
 have:=mj (ah L k) (ae L k) (ah L k).length
 rw[List.length_append,List.length_take,Nat.min_eq_left this]
 rfl
theorem dw (L:List Pt):∀k,(ah L k).length<=k
 |0=>Nat.le_refl _
 |k+1=>by
  rw[qb]
  have h1:=dw L k
  have h2:=mj (ah L k) (ae L k) (ah L k).length
  omega
theorem iP {L:List Pt} {x:Pt}:∀{k:Nat},x∈ah L k->∃q,q<k/\x=ae L q
 |0,h=>by cases h
 |k+1,h=>by
  have h:x∈(ah L k).take _++[ae L k]:=h
  rcases List.mem_append.1 h with h|h
  ·obtain⟨q,hq,e⟩:=iP (List.mem_of_mem_take h)
   exact⟨q,by omega,e⟩
  ·exact⟨k,by omega,List.mem_singleton.1 h⟩
theorem rF {q:Nat} (h:q<O.length):ae O q∈O:=by
 unfold ae
 rw[List.getD_eq_getElem?_getD,List.getElem?_eq_getElem h]
 exact List.getElem_mem h
variable {L:List Pt}
theorem vD {B:Int} {k:Nat} (h:∀q,q<L.length->cG B (ae L q)) (hk:k<=L.length):∀q,q<(ah L k).length->cG B (ae (ah L k) q):=λq hq=>by
 obtain⟨j,hj,e⟩:=iP (rF hq)
 rw[e]
 exact h j (by omega)
theorem Gw (hn:n<=O.length):∀i w v,(if i<n then cq (ae O i)else cq p) w v->i<n+1->cq (ae (O.take n++[p]) i) w v:=λi w v h hi=>by
 have hl:(O.take n).length=n:=by rw[List.length_take,Nat.min_eq_left hn]
 by_cases h1:i<n
 ·rw[if_pos h1]at h
  have e:ae (O.take n++[p]) i=ae O i:=by
   unfold ae
   rw[List.getD_eq_getElem?_getD,List.getD_eq_getElem?_getD,List.getElem?_append_left (by omega),List.getElem?_take,if_pos h1]
  rw[e]
  exact h
 ·rw[if_neg h1]at h
  obtain rfl:i=n:=by omega
  have e:ae (O.take i++[p]) i=p:=by
   unfold ae
   rw[List.getD_eq_getElem?_getD,List.getElem?_append_right (by omega),hl,Nat.sub_self]
   rfl
  rw[e]
  exact h
theorem vF (h:decide ((n:Int)>1)=true):1<n:=by have:=of_decide_eq_true h; omega
theorem Nh {P:Program} {fn:Func} {w:World} {f:FuncId} {C:Code} {v0:Value} {M:Nat->Nat->Prop} {R:World->Ending->World->Prop} {p0:Pred} {N:Nat} (hf:P.funcs[f]?=some fn) (hb:fn.body=some C) (hN:fn.ntmps=N) (hlen:decide ([v0].length<=N)=true) (hM:cQ M w) (h0:aL M (λw=>p0 w v0) w) (h:∀a,Inv ⟨N,w,M,λ_=>False⟩ [] [] [Uz 0 p0] none_ a w->C.ww none [] P (bodyPost P fn (R w)) a w):Calls P f #[v0] w (R w):=
 tV (vs:=[v0]) hf hb hN hlen hM (show dO M w [v0] [Uz 0 p0]from⟨⟨rfl,_,rfl,h0⟩,trivial⟩) λa hI=>(wpIn_wide (n:=0)).1 (wpIn_mono (h a hI 0) λe a' w' ⟨a0,e0,h0⟩=>by subst e0; exact h0)
theorem F9 (h:2<=L.length/\L.length<=1000/\(∀q,q<L.length->cG 16777216 (ae L q))/\2<=(ah L L.length).length):∀(M:Nat->Nat->Prop) (w:World) (v0:Value),cQ M w->aL M (λw=>(eC L) w v0) w->Calls Tryz.prog 37 #[v0] w (tN 2 ((ah L L.length).length-1) true 38 (λi=>cq (ae (ah L L.length) i)) w):=by
 intro M w0 v0 hM hv0
 have hL:=h.2.1
 have hn:=h.2.2.1
 have h2:=h.2.2.2
 refine Nh (N:=48) Tryz.func37 rfl rfl rfl hM hv0 λa hI=>?_
 refine aZ hI 1 [Uc 0 2 _] (.k .z) ⟨mv,trivial⟩ (.kk .z) λa w hI=>?_
 refine aZ hI 1 [Uc 0 3 _] (.kk .z) ⟨mv,trivial⟩ (.cE .z) λa w hI=>?_
 have hI:=MS (id:=48) (sz:=2) (ag:=true) (E:=38) (λi=>cq (ae (ah L 0) i)) hI (by kernel_rfl)
 dsimp only[List.append,HAppend.hAppend,Append.append]at hI
 refine au ?_
 refine bk hI 3 [] [] [Uc 0 7 _,Uc 1 8 _,Uc 2 9 _] (.k .z) (.cE .z) ⟨mv,ln,mv,trivial⟩ (.k .z) (.xY (.kk .z)) λa w hI=>?_
 refine aF ?_
 refine sF [] [Uz 2 _,Uz 7 _,Uz 8 _] (λ(k:Nat×Option Addr×Nat)=>[(iL 48 2 (ah L k.1).length true 38 (λi=>cq (ae (ah L k.1) i)) (.slice k.2.1 (ah L k.1).length k.2.2))]) (λ(k:Nat×Option Addr×Nat)=>[Uz 9 (pI (k.1:Int)),Uz 3 (bg (.slice k.2.1 (ah L k.1).length k.2.2))]) (λ(k:Nat×Option Addr×Nat)=>k.1<=L.length) (λ(k:Nat×Option Addr×Nat)=>L.length-k.1) ((0,none,0)) (Nat.zero_le _) hI ⟨AW,trivial⟩ ⟨gi,gi,gi,gc,gc,trivial⟩ ?_
 intro k a w hk hI
 refine bk hI 1 [] [] [Uc 0 10 _] (.k .z) (.aj (.k .z)) ⟨bn,trivial⟩ (.k .z) (.aj (.kk .z)) λa w hI=>?_
 refine au ?_
 refine gA hI (λt1=>?_) (λt1=>?_)
 ·
  refine ax ?_
  refine af ?_
  refine au ?_
  refine aF ?_
  have hO:=vD hn hk
  have hle:=dw L k.1
  refine bk hI 4 [⟨5,5,some 2,none,.ptr,38,2,true,pv _,[(3,pv _)]⟩] [] [Uc 0 11 _,Uc 1 12 _] (.k .z) (.aj (.kk .z)) ⟨ix,ld,tn [.i,.i],mW,trivial⟩ (.k (.s .o .z)) (.aj (.fF .z)) λa w hI=>?_
  refine au ?_
  refine bk hI 3 [] [] [Uc 0 13 _,Uc 1 14 _,Uc 2 6 _] (.k (.k .z)) (.aj (.k .z)) ⟨mv,Ik,mv,trivial⟩ (.k (.k .z)) (.aj (.oK .z)) λa w hI=>?_
  refine aF ?_
  refine sF [Vz 5 5 38 2 true _] [Uz 2 _,Uz 7 _,Uz 8 _,Uz 9 _] (λ(n:Nat)=>[(iL 48 2 n true 38 (λi=>cq (ae (ah L k.1) i)) (.slice k.2.1 n k.2.2))]) (λ(n:Nat)=>[Uz 6 (pI (n:Int)),Uz 3 (bg (.slice k.2.1 n k.2.2))]) (λ(n:Nat)=>n<=(ah L k.1).length/\cD (ah L k.1) (ae L k.1) (ah L k.1).length=cD (ah L k.1) (ae L k.1) n) (λ(n:Nat)=>n) ((ah L k.1).length) ⟨Nat.le_refl _,rfl⟩ hI ⟨vi,AW,trivial⟩ ⟨gi,gi,gi,gi,gc,gc,trivial⟩ ?_
  intro n a w hi hI
  refine au ?_
  refine AZ hI [0,1,3,7,7,23,63,127,7,7,519,1799,3847,7,16383,32767,65535] [] [] [Uc 0 15 _,Uc 1 16 _,Uc 2 17 _,Uc 3 18 _,Uc 4 19 _,Uc 5 20 _,Uc 6 21 _,Uc 7 22 _,Uc 8 23 _,Uc 9 24 _,Uc 10 25 _,Uc 11 26 _,Uc 12 27 _,Uc 13 28 _,Uc 14 29 _,Uc 15 30 _,Uc 16 31 _] (.k (.k .z)) (.aj (.kk .z)) ⟨mv,bn,mv,gd λh=>iC h,gd λh=>iC h,gd λh=>oa h,gd λh=>Hr h 48 (n-2) (hk:=by have:=vF h; omega) (hq:=by have:=vF h; omega),gd λh=>Hs h 48 (hq:=by have:=vF h; omega) (hn:=bK _),gd λh=>iC h,gd λh=>iC h,gd λh=>oa h,gd λh=>Hr h 48 (n-1) (hk:=by have:=vF h; omega) (hq:=by have:=vF h; omega),gd λh=>Hs h 48 (hq:=by have:=vF h; omega) (hn:=bK _),gd λh=>pz h,gd λh=>Jt h yD (hφ:=⟨hO _ (by have:=vF h; omega),hO _ (by have:=vF h; omega),hn _ (by omega)⟩),gd λh=>oa h,pk,trivial⟩ (.k (.k .z)) (.aj (.dm (.d8 (.cH (.lO .z))))) λa w hI=>?_
  refine uR hI (λt2=>?_) (λt2=>?_)
  ·
   refine ax ?_
   refine af ?_
   refine au ?_
   refine aF ?_
   obtain⟨hp1,hp2⟩:1<n/\az (ae (ah L k.1) (n-2)) (ae (ah L k.1) (n-1)) (ae L k.1)<=0:=by
    simp only[Bool.and_eq_true,decide_eq_true_eq]at t2
    exact⟨by omega,t2.2⟩
   refine NR hI 5 3 [] [] [Uc 0 34 _,Uc 1 35 _,Uc 2 36 _] (.k (.k .z)) (.aj (.cE .z)) ⟨mv,mv,bn,trivial⟩ (.k (.k .z)) (.aj (.dL (.dk .z))) (Hf (n0:=1) (n-1) (hnf:=λ_=>bK _)) λa w hI=>?_
   dsimp only[List.set]at hI
   refine aO ?_
   refine af ?_
   refine nw hI 3 [] [] [Uc 0 32 _,Uc 1 33 _,Uc 2 6 _] (.k (.k .z)) (.aj (.cE .z)) ⟨mv,Ik,mv,trivial⟩ (.k (.k .z)) (.aj (.fF (.dk .z))) λa w hI=>?_
   refine af ?_
   exact nF (n-1) ⟨by omega,by rw[hi.2]; exact Bz hp1 hp2⟩ hI ⟨vc,AW,trivial⟩ ⟨gc,gc,gc,gc,gc,gc,trivial⟩ (by omega)
  ·
   refine bO ?_
   refine aB ?_
   refine aB ?_
   refine aR ?_
   refine af ?_
   have hkn:cD (ah L k.1) (ae L k.1) n=n:=By λhh=>by
    simp only[Bool.and_eq_false_iff,decide_eq_false_iff_not]at t2
    omega
   have hnl:n<=(ah L k.1).length:=hi.1
   have hlen:n+1=(ah L (k.1+1)).length:=by rw[qb,hi.2,hkn]
   have yw:(ah L k.1).take n++[ae L k.1]=ah L (k.1+1):=by rw[<-hkn,<-hi.2]; rfl
   refine NR hI 5 3 [] [] [Uc 0 38 _,Uc 1 39 _,Uc 2 40 _] (.k (.k .z)) (.aj (.cE .z)) ⟨mv,ld,QW 38,trivial⟩ (.d (.k .z)) (.aj (.dL (.dk .z))) (Ot (n0:=0) (λi=>cq (ae (ah L (k.1+1)) i)) (yw▸Gw (O:=ah L k.1) hnl) (hnf:=λ_=>bK _) (hnp:=bK _) (hfit:=bC _)) λa w hI=>?_
   obtain⟨s',hI⟩:=hI
   dsimp only[List.set]at hI
   obtain⟨X',cap',rfl,hcap⟩:=qE hI 0 rfl
   refine aO ?_
   refine af ?_
   refine nw hI 2 [] [] [Uc 0 42 _,Uc 1 9 _] (.k .z) (.aj (.t 1 (.kk .z))) ⟨bn,mv,trivial⟩ (.k .z) (.aj (.cH (.k .z))) λa w hI=>?_
   refine af ?_
   rw[hlen]at hI
   exact nF ((k.1+1,X',cap')) (by(show k.1+1<=L.length); omega) hI ⟨AW,trivial⟩ ⟨gc,gc,gc,gc,gc,trivial⟩ (by(show L.length-(k.1+1)<L.length-k.1); omega)
 ·
  refine bO ?_
  refine aB ?_
  refine aB ?_
  refine aR ?_
  refine af ?_
  obtain⟨k,X,cap⟩:=k
  obtain rfl:k=L.length:=by(have hk':k<=L.length:=hk); omega
  dsimp only at hI
  have hle:=dw L L.length
  refine ko hI 6 4 [] [] [Uc 0 43 _,Uc 1 44 _,Uc 2 45 _,Uc 3 46 _] (.k .z) (.aj (.kk .z)) ⟨mv,mv,Ik,bn,trivial⟩ (.k .z) (.cH (.CS (.dk .z))) (Hf (n0:=0) ((ah L L.length).length-1) (hnf:=λ_=>bK _)) λa w hI=>?_
  dsimp only[List.set]at hI
  refine aH ?_
  exact Oz (n0:=0) hI rfl rfl (by omega)
end Wx

namespace Wx
set_option maxRecDepth 100000
set_option maxHeartbeats 1000000
open Go Go.RowKit Go.Proofs
set_option linter.unusedVariables false
attribute [local irreducible] OpOk
variable {L:List Pt}
theorem wv (h:0<L.length/\L.length<=1000000):∀(M:Nat->Nat->Prop) (w:World) (v0:Value),cQ M w->aL M (λw=>(bz 2 true L.length λi=>cq (ae L i)) w v0) w->Calls Tryz.prog 33 #[v0] w (Fg 2 L.length true (λi=>cq (ae L i)) w):=by
 intro M w0 v0 hM hv0
 refine Nh (N:=8) Tryz.func33 rfl rfl rfl hM hv0 λa hI=>?_
 refine aZ hI 1 [Uc 0 2 _] (.k .z) ⟨mv,trivial⟩ (.kk .z) λa w hI=>?_
 refine au ?_
 refine aZ hI 2 [Uc 0 3 _,Uc 1 4 _] (.kk .z) ⟨mv,BS (E:=38) hs h.1 (by kernel_rfl) (pt rfl),trivial⟩ (.gX .z) λa w hI=>?_
 refine T7 hI (rfl) ?_
 refine ax ?_
 refine af ?_
 refine bk hI 4 [⟨7,7,some 2,some 3,.grow (L.length) 2,38,3,true,pv lH,[]⟩,⟨2,2,some 3,none,.grow (L.length) 2,38,3,true,pv lH,[]⟩] [] [Uc 0 5 _,Uc 1 6 _,Uc 2 7 _,Uc 3 2 _] .z (.k (.t 3 (.k .z))) ⟨QV (sz:=2) 38,mv,QT (F:=cq) (e:=λk=>ae L k) L (0,0) bC (hn:=h.1) (hmax:=by omega),Si,trivial⟩ (.d (.k .z)) (.cH (.lO .z)) λa w hI=>?_
 refine aH ?_
 exact OA hI rfl (n0:=0) rfl h.1 (k:=0) rfl
variable {m n:Nat}
theorem BB {b cap:Nat} (h:2<=n/\n<=1000/\n*2<=m/\∀k,1<=k->k<n->ae L k≠ae L (k-1)):∀(M:Nat->Nat->Prop) (w:World) (v0:Value),cQ M w->(∀o,¬M b o)->One b m (mG n L) w->aL (iK M b) (λw=>bg (.slice (some ⟨b,0,none⟩) n cap) w v0) w->Calls Tryz.prog 36 #[v0] w (pU M b m (bg (.slice (some ⟨b,0,none⟩) n cap)) (mG n L) w):=by
 obtain⟨h1,h2,h3,hne⟩:=h
 intro M w0 v0 hM LV h0 hv0
 refine Nb (N:=61) Tryz.func36 rfl rfl hM LV (bQ λ_=>bK _) h0 hv0 λa hI=>?_
 refine bk hI 1 [] [] [Uc 0 2 _] (.k .z) (.k .z) ⟨mv,trivial⟩ (.k .z) (.kk .z) λa w hI=>?_
 refine au ?_
 refine bk hI 3 [] [] [Uc 0 6 _,Uc 1 7 _,Uc 2 8 _] (.k .z) (.kk .z) ⟨mv,Ik,bn,trivial⟩ (.k .z) (.dm (.k .z)) λa w hI=>?_
 refine gA hI (λt1=>?_) (λt1=>?_)
 ·exfalso; omega
 refine ax ?_
 refine af ?_
 refine au ?_
 refine bk hI 1 [] [] [Uc 0 3 _] (.k .z) (.cE .z) ⟨mv,trivial⟩ (.k .z) (.gX .z) λa w hI=>?_
 refine aF ?_
 refine sF [cg 61 b m _] [Uz 0 _] (λ(k:Nat)=>[]) (λ(k:Nat)=>[Uz 3 (pI (k:Int))]) (λ(k:Nat)=>1<=k/\k<=n) (λ(k:Nat)=>n-k) (1) (by omega) hI ⟨vO,trivial⟩ ⟨gi,gc,trivial⟩ ?_
 intro k a w hk hI
 refine au ?_
 refine bk hI 4 [] [] [Uc 0 10 _,Uc 1 11 _,Uc 2 12 _,Uc 3 13 _] (.k .z) (.kk .z) ⟨mv,mv,Ik,bn,trivial⟩ (.k .z) (.dm (.dk .z)) λa w hI=>?_
 refine gA hI (λt2=>?_) (λt2=>?_)
 ·
  refine ax ?_
  refine af ?_
  refine au ?_
  refine aF ?_
  refine AZ hI [0,0,3,7,0,0,32,112,240,511] [] [] [Uc 0 16 _,Uc 1 17 _,Uc 2 18 _,Uc 3 19 _,Uc 4 20 _,Uc 5 21 _,Uc 6 22 _,Uc 7 23 _,Uc 8 24 _,Uc 9 25 _] (.k .z) (.cE .z) ⟨mv,mv,iX 2 k,JS 61 k,mv,mv,bn,iX 2 (k-1),JS 61 (k-1),Nq,trivial⟩ (.k .z) (.dm (.d8 (.k .z))) λa w hI=>?_
  refine gA hI (λt3=>?_) (λt3=>?_)
  ·exfalso; exact hne k (by omega) (by omega) t3
  refine ax ?_
  refine aO ?_
  refine af ?_
  refine nw hI 3 [] [] [Uc 0 14 _,Uc 1 15 _,Uc 2 3 _] (.k .z) (.k (.t 2 (.k .z))) ⟨mv,bn,mv,trivial⟩ (.k .z) (.fF (.dk .z)) λa w hI=>?_
  refine af ?_
  exact nF (k+1) (by omega) hI ⟨vO,trivial⟩ ⟨gc,gc,trivial⟩ (by omega)
 ·
  refine bO ?_
  refine aB ?_
  refine aB ?_
  refine aR ?_
  refine af ?_
  refine bk hI 2 [] [] [Uc 0 60 _,Uc 1 2 _] (.k .z) (.cE .z) ⟨mv,mv,trivial⟩ (.k .z) (.cH (.k .z)) λa w hI=>?_
  refine aH ?_
  exact LF (n0:=0) hI rfl rfl
theorem nP:(dr n L).length=n:=by
 unfold dr mJ
 rw[List.length_map]
 show(List.mergeSort _ _).length=n
 rw[List.length_mergeSort,Array.length_toList,cj]
variable {i:Nat}
theorem yV {d:Array Bb} (h:i<d.size):cG 16777216 (ae (mJ d) i):=by
 rw[<-tE h]
 exact(d[i]!).h
theorem jj:∀q,q<n->cG 16777216 (ae (dr n L) q):=λq hq=>by
 unfold dr
 refine yV ?_
 rw[List.size_toArray,List.length_mergeSort,Array.length_toList,cj]
 exact hq
abbrev dz (n:Nat) (S:List Pt):List Pt:=(List.range n).map λi=>ae S (n-1-i)
variable {S:List Pt}
theorem mO:(dz n S).length=n:=by rw[List.length_map,List.length_range]
theorem jh (h:i<n):ae (dz n S) i=ae S (n-1-i):=by
 unfold ae
 rw[List.getD_eq_getElem?_getD,List.getElem?_map,List.getElem?_range h]
 rfl
theorem mw (hl:S.length=n) (h:2<=n/\n<=1000/\(∀q,q<n->cG 16777216 (ae S q))/\2<=(ah S n).length):∀(M:Nat->Nat->Prop) (w:World) (v0:Value),cQ M w->aL M (λw=>bz 2 true n (λi=>cq (ae S i)) w v0) w->Calls Tryz.prog 37 #[v0] w (tN 2 ((ah S n).length-1) true 38 (λi=>cq (ae (ah S n) i)) w):=by
 subst hl
 exact F9 h
def di (S R:List Pt) (n:Nat):List Pt:=(ah S n).take ((ah S n).length-1)++(ah R n).take ((ah R n).length-1)
variable {R:List Pt}
theorem nC:(di S R n).length=(ah S n).length-1+((ah R n).length-1):=by
 unfold di
 rw[List.length_append,List.length_take,List.length_take,Nat.min_eq_left (Nat.sub_le _ _),Nat.min_eq_left (Nat.sub_le _ _)]
theorem pF {O:List Pt} (h:i<m):ae (O.take m) i=ae O i:=by
 unfold ae
 rw[List.getD_eq_getElem?_getD,List.getD_eq_getElem?_getD,List.getElem?_take,if_pos h]
theorem wh:∀i w v,(if i<(ah S n).length-1 then cq (ae (ah S n) i)else cq (ae (ah R n) (i-((ah S n).length-1)))) w v->i<(ah S n).length-1+((ah R n).length-1)->cq (ae (di S R n) i) w v:=λi w v h hi=>by
 have hl:((ah S n).take ((ah S n).length-1)).length=(ah S n).length-1:=by rw[List.length_take,Nat.min_eq_left (Nat.sub_le _ _)]
 by_cases h1:i<(ah S n).length-1
 ·rw[if_pos h1]at h
  have e:ae (di S R n) i=ae (ah S n) i:=by
   rw[<-pF (O:=ah S n) h1]
   unfold ae di
   rw[List.getD_eq_getElem?_getD,List.getD_eq_getElem?_getD,List.getElem?_append_left (by omega)]
  rw[e]
  exact h
 ·rw[if_neg h1]at h
  have e:ae (di S R n) i=ae (ah R n) (i-((ah S n).length-1)):=by
   rw[<-pF (O:=ah R n) (m:=(ah R n).length-1) (by omega)]
   unfold ae di
   rw[List.getD_eq_getElem?_getD,List.getD_eq_getElem?_getD,List.getElem?_append_right (by omega),hl]
  rw[e]
  exact h
abbrev rB (L:List Pt):Prop:=∀q,q<L.length->cG 16777216 (ae L q)
noncomputable abbrev sL (L:List Pt):List Pt:=dr L.length L
noncomputable abbrev rL (L:List Pt):List Pt:=dz L.length (sL L)
structure tL (L:List Pt):Prop where
 two:2<=L.length
 max:L.length<=1000
 near:rB L
 ne:∀k,1<=k->k<L.length->ae (sL L) k≠ae (sL L) (k-1)
 lo:2<=(ah (sL L) L.length).length
 up:2<=(ah (rL L) L.length).length
theorem JU (h:tL L):K1 Tryz.prog 18 (eC L) (bz 2 true ((ah (sL L) L.length).length-1+((ah (rL L) L.length).length-1)) λi=>cq (ae (di (sL L) (rL L) L.length) i)):=by
 intro M w0 v0 hM hv0
 have h2:=h.two
 have hm:=h.max
 have hlo:=h.lo
 have NL:=h.up
 have Aa:=dw (sL L) L.length
 have hl2:=dw (rL L) L.length
 have Cs:∀q,q<L.length->cG 16777216 (ae (rL L) q):=λq hq=>by rw[jh hq]; exact jj _ (by omega)
 refine rY (N:=21) Tryz.func18 rfl rfl rfl hM hv0 λa hI=>?_
 refine aZ hI 1 [Uc 0 2 _] (.k .z) ⟨mv,trivial⟩ (.kk .z) λa w hI=>?_
 refine ko hI 3 1 [] [] [Uc 0 5 _] .z (.kk .z) ⟨mv,trivial⟩ .z (.KL .z) (Q1 (wv (L:=L)) ⟨by omega,by omega⟩ (λ_=>bK _)) λa w hI=>?_
 obtain⟨b6,c6,LZ,hI⟩:=hI
 refine ko hI 2 1 [] [] [Uc 0 7 _] (.k .z) (.cE .z) ⟨mv,trivial⟩ (.k .z) (.gX .z) ⟨_,QX (n0:=0) (Dx (L:=L) (b:=b6) (n:=L.length) (N:=c6*2) (c:=c6)) (c1:=λ_ _ h=>h) (c2:=λ_ _ h=>h) (hφ:=⟨h.near,hm,by omega⟩) (hp:=bu _) (hq:=bQ λ_=>bK _),rfl⟩ λa w hI=>?_
 dsimp only[List.set]at hI
 refine ko hI 3 1 [] [] [Uc 0 9 _] (.k .z) (.aj .z) ⟨mv,trivial⟩ (.k .z) (.CS (.k .z)) (Lo (n0:=0) (BB (L:=sL L) (b:=b6) (m:=c6*2) (n:=L.length) (cap:=c6)) ⟨h2,hm,by omega,h.ne⟩ (bQ λ_=>bK _) (c1:=λ_ _ h=>h)) λa w hI=>?_
 dsimp only[List.set]at hI
 refine bk hI 1 [] [] [Uc 0 3 _] (.k .z) (.cE .z) ⟨mv,trivial⟩ (.k .z) (.gX .z) λa w hI=>?_
 refine ko hI 4 2 [] [] [Uc 0 11 _,Uc 1 12 _] (.k .z) (.cE .z) ⟨mv,mv,trivial⟩ (.k .z) (.aj (.k .z)) (Q0 (n0:=0) (mw (S:=sL L) nP) ⟨h2,hm,jj,hlo⟩ (λ_=>bK _) (hc:=LZ)) λa w hI=>?_
 obtain⟨Sj,c13,Pa,hI⟩:=hI
 refine ko hI 2 1 [] [] [Uc 0 14 _] (.k (.k .z)) (.aj (.kk .z)) ⟨mv,trivial⟩ (.k (.k .z)) (.aj (.lO .z)) ⟨_,Oo (n0:=1) (tf (L:=sL L) (b:=b6) (n:=L.length) (N:=c6*2) (c:=c6)) (c1:=λ_ _ h=>h) (hφ:=⟨hm,by omega,jj⟩) (hp:=bu _) (hq:=bQ λ_=>bK _),rfl⟩ λa w hI=>?_
 dsimp only[List.set]at hI
 refine ko hI 6 4 [] [] [Uc 0 16 _,Uc 1 17 _,Uc 2 18 _,Uc 3 19 _] (.k (.k .z)) (.aj (.kk .z)) ⟨mv,mv,mv,QZ (mw (S:=rL L) mO) 6 ⟨h2,hm,Cs,NL⟩ (λ_=>bK _) (hcap:=LZ),trivial⟩ (.k (.k .z)) (.cH (.CS (.dk .z))) (CN (n0:=0) (λi=>cq (ae (di (sL L) (rL L) L.length) i)) wh (by omega) (hnf:=λ_=>bK _) (hng:=λ_=>bK _) (hfit:=λ_=>bC _)) λa w hI=>?_
 obtain⟨s',hI⟩:=hI
 dsimp only[List.set]at hI
 have hI:=uE hI 0 2 rfl (by kernel_rfl)
 dsimp only[List.eraseIdx]at hI
 refine aH ?_
 exact cT hI rfl fR
end Wx
