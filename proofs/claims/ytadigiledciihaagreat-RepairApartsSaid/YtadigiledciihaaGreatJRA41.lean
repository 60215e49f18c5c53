import Derived.Test.YtadigiledciihaaGreatJRA34
import Derived.Test.YtadigiledciihaaGreatJRA40
namespace Wx
set_option maxRecDepth 100000
set_option maxHeartbeats 1000000
open Go Go.RowKit Go.Proofs
set_option linter.unusedVariables false
attribute [local irreducible] OpOk
def jT (O:List Pt) (p:Pt):Nat->Nat
 |0=>0
 |1=>1
 |n+2=>if aA (aj O n) (aj O (n+1)) p<=0 then jT O p (n+1)else n+2
theorem sQ (O:List Pt) (p:Pt):∀n,jT O p n<=n
 |0=>Nat.le_refl _
 |1=>Nat.le_refl _
 |n+2=>by
  show(if aA (aj O n) (aj O (n+1)) p<=0 then jT O p (n+1)else n+2)<=_
  have:=sQ O p (n+1)
  split<;>omega
variable {O:List Pt} {p:Pt} {n:Nat}
theorem Ed (h1:1<n) (h:aA (aj O (n-2)) (aj O (n-1)) p<=0):jT O p n=jT O p (n-1):=by
 obtain⟨m,rfl⟩:∃m,n=m+2:=⟨n-2,by omega⟩
 show(if aA (aj O m) (aj O (m+1)) p<=0 then jT O p (m+1)else m+2)=_
 rw[if_pos (show aA (aj O m) (aj O (m+1)) p<=0 from h)]
 rfl
theorem Ec (h:¬(1<n/\aA (aj O (n-2)) (aj O (n-1)) p<=0)):jT O p n=n:=by
 match n,h with
 |0,_=>rfl
 |1,_=>rfl
 |m+2,h=>
  show(if aA (aj O m) (aj O (m+1)) p<=0 then jT O p (m+1)else m+2)=_
  exact if_neg λh2=>h ⟨by omega,h2⟩
def aH (L:List Pt):Nat->List Pt
 |0=>[]
 |k+1=>(aH L k).take (jT (aH L k) (aj L k) (aH L k).length)++[aj L k]
theorem rT (L:List Pt) (k:Nat):(aH L (k+1)).length=jT (aH L k) (aj L k) (aH L k).length+1:=by
 show((aH L k).take _++[aj L k]).length=_
 have:=sQ (aH L k) (aj L k) (aH L k).length
 rw[List.length_append,List.length_take,Nat.min_eq_left this]
 rfl
theorem jM (L:List Pt):∀k,(aH L k).length<=k
 |0=>Nat.le_refl _
 |k+1=>by
  rw[rT]
  have h1:=jM L k
  have h2:=sQ (aH L k) (aj L k) (aH L k).length
  omega
theorem rU {L:List Pt} {x:Pt}:∀{k:Nat},x∈aH L k->∃q,q<k/\x=aj L q
 |0,h=>by cases h
 |k+1,h=>by
  have h:x∈(aH L k).take _++[aj L k]:=h
  rcases List.mem_append.1 h with h|h
  ·obtain⟨q,hq,e⟩:=rU (List.mem_of_mem_take h)
   exact⟨q,by omega,e⟩
  ·exact⟨k,by omega,List.mem_singleton.1 h⟩
theorem Hv {q:Nat} (h:q<O.length):aj O q∈O:=by
 unfold aj
 rw[List.getD_eq_getElem?_getD,List.getElem?_eq_getElem h]
 exact List.getElem_mem h
variable {L:List Pt}
theorem yu {B:Int} {k:Nat} (h:∀q,q<L.length->bu B (aj L q)) (hk:k<=L.length):∀q,q<(aH L k).length->bu B (aj (aH L k) q):=λq hq=>by
 obtain⟨j,hj,e⟩:=rU (Hv hq)
 rw[e]
 exact h j (by omega)
theorem J7 (hn:n<=O.length):∀i w v,(if i<n then dB (aj O i)else dB p) w v->i<n+1->dB (aj (O.take n++[p]) i) w v:=λi w v h hi=>by
 have hl:(O.take n).length=n:=by rw[List.length_take,Nat.min_eq_left hn]
 by_cases h1:i<n
 ·rw[if_pos h1]at h
  have e:aj (O.take n++[p]) i=aj O i:=by
   unfold aj
   rw[List.getD_eq_getElem?_getD,List.getD_eq_getElem?_getD,List.getElem?_append_left (by omega),List.getElem?_take,if_pos h1]
  rw[e]
  exact h
 ·rw[if_neg h1]at h
  obtain rfl:i=n:=by omega
  have e:aj (O.take i++[p]) i=p:=by
   unfold aj
   rw[List.getD_eq_getElem?_getD,List.getElem?_append_right (by omega),hl,Nat.sub_self]
   rfl
  rw[e]
  exact h
theorem yz (h:decide ((n:Int)>1)=true):1<n:=by have:=of_decide_eq_true h; omega
theorem Qo {P:Program} {fn:Func} {w:World} {f:FuncId} {C:Code} {v0:Value} {M:Nat->Nat->Prop} {R:World->Ending->World->Prop} {p0:Pred} {N:Nat} (hf:P.funcs[f]?=some fn) (hb:fn.body=some C) (hN:fn.ntmps=N) (hlen:decide ([v0].length<=N)=true) (hM:dN M w) (h0:aS M (λw=>p0 w v0) w) (h:∀a,Inv ⟨N,w,M,λ_=>False⟩ [] [] [Uz 0 p0] none_ a w->C.ww none [] P (bodyPost P fn (R w)) a w):Calls P f #[v0] w (R w):=
 wA (vs:=[v0]) hf hb hN hlen hM (show eI M w [v0] [Uz 0 p0]from⟨⟨rfl,_,rfl,h0⟩,trivial⟩) λa hI=>(wpIn_wide (n:=0)).1 (wpIn_mono (h a hI 0) λe a' w' ⟨a0,e0,h0⟩=>by subst e0; exact h0)
theorem JO (h:2<=L.length/\L.length<=1000/\(∀q,q<L.length->bu 16777216 (aj L q))/\2<=(aH L L.length).length):∀(M:Nat->Nat->Prop) (w:World) (v0:Value),dN M w->aS M (λw=>(gw L) w v0) w->Calls Tryz.prog 74 #[v0] w (vZ 2 ((aH L L.length).length-1) true 26 (λi=>dB (aj (aH L L.length) i)) w):=by
 intro M w0 v0 hM hv0
 have hL:=h.2.1
 have hn:=h.2.2.1
 have h2:=h.2.2.2
 refine Qo (N:=48) Tryz.func74 rfl rfl rfl hM hv0 λa hI=>?_
 refine aZ hI 1 [Uc 0 2 _] (.k .z) ⟨mv,trivial⟩ (.kk .z) λa w hI=>?_
 refine aZ hI 1 [Uc 0 3 _] (.kk .z) ⟨mv,trivial⟩ (.cQ .z) λa w hI=>?_
 have hI:=P5 (id:=48) (sz:=2) (ag:=true) (E:=26) (λi=>dB (aj (aH L 0) i)) hI (by kernel_rfl)
 dsimp only[List.append,HAppend.hAppend,Append.append]at hI
 refine aq ?_
 refine bB hI 3 [] [] [Uc 0 7 _,Uc 1 8 _,Uc 2 9 _] (.k .z) (.cQ .z) ⟨mv,ln,mv,trivial⟩ (.k .z) (.Jg (.kk .z)) λa w hI=>?_
 refine aK ?_
 refine xN [] [Uz 2 _,Uz 7 _,Uz 8 _] (λ(k:Nat×Option Addr×Nat)=>[(mb 48 2 (aH L k.1).length true 26 (λi=>dB (aj (aH L k.1) i)) (.slice k.2.1 (aH L k.1).length k.2.2))]) (λ(k:Nat×Option Addr×Nat)=>[Uz 9 (pI (k.1:Int)),Uz 3 (bW (.slice k.2.1 (aH L k.1).length k.2.2))]) (λ(k:Nat×Option Addr×Nat)=>k.1<=L.length) (λ(k:Nat×Option Addr×Nat)=>L.length-k.1) ((0,none,0)) (Nat.zero_le _) hI ⟨N0,trivial⟩ ⟨gi,gi,gi,gc,gc,trivial⟩ ?_
 intro k a w hk hI
 refine bB hI 1 [] [] [Uc 0 10 _] (.k .z) (.au (.k .z)) ⟨bn,trivial⟩ (.k .z) (.au (.kk .z)) λa w hI=>?_
 refine aq ?_
 refine jK hI (λt1=>?_) (λt1=>?_)
 ·
  refine aG ?_
  refine af ?_
  refine aq ?_
  refine aK ?_
  have hO:=yu hn hk
  have hle:=jM L k.1
  refine bB hI 4 [⟨5,5,some 2,none,.ptr,26,2,true,pv _,[(3,pv _)]⟩] [] [Uc 0 11 _,Uc 1 12 _] (.k .z) (.au (.kk .z)) ⟨ix,ld,oM [.i,.i],ju,trivial⟩ (.k (.s .o .z)) (.au (.fZ .z)) λa w hI=>?_
  refine aq ?_
  refine bB hI 3 [] [] [Uc 0 13 _,Uc 1 14 _,Uc 2 6 _] (.k (.k .z)) (.au (.k .z)) ⟨mv,PY,mv,trivial⟩ (.k (.k .z)) (.au (.uy .z)) λa w hI=>?_
  refine aK ?_
  refine xN [Vz 5 5 26 2 true _] [Uz 2 _,Uz 7 _,Uz 8 _,Uz 9 _] (λ(n:Nat)=>[(mb 48 2 n true 26 (λi=>dB (aj (aH L k.1) i)) (.slice k.2.1 n k.2.2))]) (λ(n:Nat)=>[Uz 6 (pI (n:Int)),Uz 3 (bW (.slice k.2.1 n k.2.2))]) (λ(n:Nat)=>n<=(aH L k.1).length/\jT (aH L k.1) (aj L k.1) (aH L k.1).length=jT (aH L k.1) (aj L k.1) n) (λ(n:Nat)=>n) ((aH L k.1).length) ⟨Nat.le_refl _,rfl⟩ hI ⟨vi,N0,trivial⟩ ⟨gi,gi,gi,gi,gc,gc,trivial⟩ ?_
  intro n a w hi hI
  refine aq ?_
  refine xV hI [0,1,3,7,7,23,63,127,7,7,519,1799,3847,7,16383,32767,65535] [] [] [Uc 0 15 _,Uc 1 16 _,Uc 2 17 _,Uc 3 18 _,Uc 4 19 _,Uc 5 20 _,Uc 6 21 _,Uc 7 22 _,Uc 8 23 _,Uc 9 24 _,Uc 10 25 _,Uc 11 26 _,Uc 12 27 _,Uc 13 28 _,Uc 14 29 _,Uc 15 30 _,Uc 16 31 _] (.k (.k .z)) (.au (.kk .z)) ⟨mv,bn,mv,gd λh=>fQ h,gd λh=>fQ h,gd λh=>lB h,gd λh=>KO h 48 (n-2) (hk:=by have:=yz h; omega) (hq:=by have:=yz h; omega),gd λh=>KP h 48 (hq:=by have:=yz h; omega) (hn:=fS _),gd λh=>fQ h,gd λh=>fQ h,gd λh=>lB h,gd λh=>KO h 48 (n-1) (hk:=by have:=yz h; omega) (hq:=by have:=yz h; omega),gd λh=>KP h 48 (hq:=by have:=yz h; omega) (hn:=fS _),gd λh=>dw h,gd λh=>oA h mm (hφ:=⟨hO _ (by have:=yz h; omega),hO _ (by have:=yz h; omega),hn _ (by omega)⟩),gd λh=>lB h,pk,trivial⟩ (.k (.k .z)) (.au (.eu (.d8 (.bX (.nk .z))))) λa w hI=>?_
  refine tY hI (λt2=>?_) (λt2=>?_)
  ·
   refine aG ?_
   refine af ?_
   refine aq ?_
   refine aK ?_
   obtain⟨hp1,hp2⟩:1<n/\aA (aj (aH L k.1) (n-2)) (aj (aH L k.1) (n-1)) (aj L k.1)<=0:=by
    simp only[Bool.and_eq_true,decide_eq_true_eq]at t2
    exact⟨by omega,t2.2⟩
   refine QZ hI 5 3 [] [] [Uc 0 34 _,Uc 1 35 _,Uc 2 36 _] (.k (.k .z)) (.au (.cQ .z)) ⟨mv,mv,bn,trivial⟩ (.k (.k .z)) (.au (.eY (.dk .z))) (KF (n0:=1) (n-1) (hnf:=λ_=>fS _)) λa w hI=>?_
   dsimp only[List.set]at hI
   refine bf ?_
   refine af ?_
   refine Ao hI 3 [] [] [Uc 0 32 _,Uc 1 33 _,Uc 2 6 _] (.k (.k .z)) (.au (.cQ .z)) ⟨mv,PY,mv,trivial⟩ (.k (.k .z)) (.au (.fZ (.dk .z))) λa w hI=>?_
   refine af ?_
   exact wZ (n-1) ⟨by omega,by rw[hi.2]; exact Ed hp1 hp2⟩ hI ⟨vc,N0,trivial⟩ ⟨gc,gc,gc,gc,gc,gc,trivial⟩ (by omega)
  ·
   refine cL ?_
   refine aM ?_
   refine aM ?_
   refine bp ?_
   refine af ?_
   have hkn:jT (aH L k.1) (aj L k.1) n=n:=Ec λhh=>by
    simp only[Bool.and_eq_false_iff,decide_eq_false_iff_not]at t2
    omega
   have hnl:n<=(aH L k.1).length:=hi.1
   have hlen:n+1=(aH L (k.1+1)).length:=by rw[rT,hi.2,hkn]
   have Bi:(aH L k.1).take n++[aj L k.1]=aH L (k.1+1):=by rw[<-hkn,<-hi.2]; rfl
   refine QZ hI 5 3 [] [] [Uc 0 38 _,Uc 1 39 _,Uc 2 40 _] (.k (.k .z)) (.au (.cQ .z)) ⟨mv,ld,Vt 26,trivial⟩ (.d (.k .z)) (.au (.eY (.dk .z))) (Ru (n0:=0) (λi=>dB (aj (aH L (k.1+1)) i)) (Bi▸J7 (O:=aH L k.1) hnl) (hnf:=λ_=>fS _) (hnp:=fS _) (hfit:=kJ _)) λa w hI=>?_
   obtain⟨s',hI⟩:=hI
   dsimp only[List.set]at hI
   obtain⟨X',cap',rfl,hcap⟩:=yR hI 0 rfl
   refine bf ?_
   refine af ?_
   refine Ao hI 2 [] [] [Uc 0 42 _,Uc 1 9 _] (.k .z) (.au (.t 1 (.kk .z))) ⟨bn,mv,trivial⟩ (.k .z) (.au (.bX (.k .z))) λa w hI=>?_
   refine af ?_
   rw[hlen]at hI
   exact wZ ((k.1+1,X',cap')) (by(show k.1+1<=L.length); omega) hI ⟨N0,trivial⟩ ⟨gc,gc,gc,gc,gc,trivial⟩ (by(show L.length-(k.1+1)<L.length-k.1); omega)
 ·
  refine cL ?_
  refine aM ?_
  refine aM ?_
  refine bp ?_
  refine af ?_
  obtain⟨k,X,cap⟩:=k
  obtain rfl:k=L.length:=by(have hk':k<=L.length:=hk); omega
  dsimp only at hI
  have hle:=jM L L.length
  refine Am hI 6 4 [] [] [Uc 0 43 _,Uc 1 44 _,Uc 2 45 _,Uc 3 46 _] (.k .z) (.au (.kk .z)) ⟨mv,mv,PY,bn,trivial⟩ (.k .z) (.bX (.Mg (.dk .z))) (KF (n0:=0) ((aH L L.length).length-1) (hnf:=λ_=>fS _)) λa w hI=>?_
  dsimp only[List.set]at hI
  refine aF ?_
  exact RD (n0:=0) hI rfl rfl (by omega)
end Wx

namespace Wx
set_option maxRecDepth 100000
set_option maxHeartbeats 1000000
open Go Go.RowKit Go.Proofs
set_option linter.unusedVariables false
attribute [local irreducible] OpOk
variable {L:List Pt}
theorem GH (h:0<L.length/\L.length<=1000000):∀(M:Nat->Nat->Prop) (w:World) (v0:Value),dN M w->aS M (λw=>(cK 2 true L.length λi=>dB (aj L i)) w v0) w->Calls Tryz.prog 70 #[v0] w (I1 2 L.length true (λi=>dB (aj L i)) w):=by
 intro M w0 v0 hM hv0
 refine Qo (N:=8) Tryz.func70 rfl rfl rfl hM hv0 λa hI=>?_
 refine aZ hI 1 [Uc 0 2 _] (.k .z) ⟨mv,trivial⟩ (.kk .z) λa w hI=>?_
 refine aq ?_
 refine aZ hI 2 [Uc 0 3 _,Uc 1 4 _] (.kk .z) ⟨mv,EC (E:=26) hs h.1 (by kernel_rfl) (pt rfl),trivial⟩ (.nM .z) λa w hI=>?_
 refine Xm hI (rfl) ?_
 refine aG ?_
 refine af ?_
 refine bB hI 4 [⟨7,7,some 2,some 3,.grow (L.length) 2,26,3,true,pv fq,[]⟩,⟨2,2,some 3,none,.grow (L.length) 2,26,3,true,pv fq,[]⟩] [] [Uc 0 5 _,Uc 1 6 _,Uc 2 7 _,Uc 3 2 _] .z (.k (.t 3 (.k .z))) ⟨Vs (sz:=2) 26,mv,Vn (F:=dB) (e:=λk=>aj L k) L (0,0) kJ (hn:=h.1) (hmax:=by omega),Vo,trivial⟩ (.d (.k .z)) (.bX (.nk .z)) λa w hI=>?_
 refine aF ?_
 exact RE hI rfl (n0:=0) rfl h.1 (k:=0) rfl
variable {m n:Nat}
theorem Ef {b cap:Nat} (h:2<=n/\n<=1000/\n*2<=m/\∀k,1<=k->k<n->aj L k≠aj L (k-1)):∀(M:Nat->Nat->Prop) (w:World) (v0:Value),dN M w->(∀o,¬M b o)->One b m (Hq n L) w->aS (lA M b) (λw=>bW (.slice (some ⟨b,0,none⟩) n cap) w v0) w->Calls Tryz.prog 73 #[v0] w (we M b m (bW (.slice (some ⟨b,0,none⟩) n cap)) (Hq n L) w):=by
 obtain⟨h1,h2,h3,hne⟩:=h
 intro M w0 v0 hM R5 h0 hv0
 refine Tz (N:=61) Tryz.func73 rfl rfl hM R5 (gO λ_=>fS _) h0 hv0 λa hI=>?_
 refine bB hI 1 [] [] [Uc 0 2 _] (.k .z) (.k .z) ⟨mv,trivial⟩ (.k .z) (.kk .z) λa w hI=>?_
 refine aq ?_
 refine bB hI 3 [] [] [Uc 0 6 _,Uc 1 7 _,Uc 2 8 _] (.k .z) (.kk .z) ⟨mv,PY,bn,trivial⟩ (.k .z) (.eu (.k .z)) λa w hI=>?_
 refine jK hI (λt1=>?_) (λt1=>?_)
 ·exfalso; omega
 refine aG ?_
 refine af ?_
 refine aq ?_
 refine bB hI 1 [] [] [Uc 0 3 _] (.k .z) (.cQ .z) ⟨mv,trivial⟩ (.k .z) (.nM .z) λa w hI=>?_
 refine aK ?_
 refine xN [fe 61 b m _] [Uz 0 _] (λ(k:Nat)=>[]) (λ(k:Nat)=>[Uz 3 (pI (k:Int))]) (λ(k:Nat)=>1<=k/\k<=n) (λ(k:Nat)=>n-k) (1) (by omega) hI ⟨vO,trivial⟩ ⟨gi,gc,trivial⟩ ?_
 intro k a w hk hI
 refine aq ?_
 refine bB hI 4 [] [] [Uc 0 10 _,Uc 1 11 _,Uc 2 12 _,Uc 3 13 _] (.k .z) (.kk .z) ⟨mv,mv,PY,bn,trivial⟩ (.k .z) (.eu (.dk .z)) λa w hI=>?_
 refine jK hI (λt2=>?_) (λt2=>?_)
 ·
  refine aG ?_
  refine af ?_
  refine aq ?_
  refine aK ?_
  refine xV hI [0,0,3,7,0,0,32,112,240,511] [] [] [Uc 0 16 _,Uc 1 17 _,Uc 2 18 _,Uc 3 19 _,Uc 4 20 _,Uc 5 21 _,Uc 6 22 _,Uc 7 23 _,Uc 8 24 _,Uc 9 25 _] (.k .z) (.cQ .z) ⟨mv,mv,iX 2 k,UJ 61 k,mv,mv,bn,iX 2 (k-1),UJ 61 (k-1),VD,trivial⟩ (.k .z) (.eu (.d8 (.k .z))) λa w hI=>?_
  refine jK hI (λt3=>?_) (λt3=>?_)
  ·exfalso; exact hne k (by omega) (by omega) t3
  refine aG ?_
  refine bf ?_
  refine af ?_
  refine Ao hI 3 [] [] [Uc 0 14 _,Uc 1 15 _,Uc 2 3 _] (.k .z) (.k (.t 2 (.k .z))) ⟨mv,bn,mv,trivial⟩ (.k .z) (.fZ (.dk .z)) λa w hI=>?_
  refine af ?_
  exact wZ (k+1) (by omega) hI ⟨vO,trivial⟩ ⟨gc,gc,trivial⟩ (by omega)
 ·
  refine cL ?_
  refine aM ?_
  refine aM ?_
  refine bp ?_
  refine af ?_
  refine bB hI 2 [] [] [Uc 0 60 _,Uc 1 2 _] (.k .z) (.cQ .z) ⟨mv,mv,trivial⟩ (.k .z) (.bX (.k .z)) λa w hI=>?_
  refine aF ?_
  exact OM (n0:=0) hI rfl rfl
theorem EX:(pA n L).length=n:=by
 unfold pA tH
 rw[List.length_map]
 show(List.mergeSort _ _).length=n
 rw[List.length_mergeSort,Array.length_toList,cP]
variable {i:Nat}
theorem BM {d:Array DF} (h:i<d.size):bu 16777216 (aj (tH d) i):=by
 rw[<-vP h]
 exact(d[i]!).h
theorem nX:∀q,q<n->bu 16777216 (aj (pA n L) q):=λq hq=>by
 unfold pA
 refine BM ?_
 rw[List.size_toArray,List.length_mergeSort,Array.length_toList,cP]
 exact hq
abbrev J9 (n:Nat) (S:List Pt):List Pt:=(List.range n).map λi=>aj S (n-1-i)
variable {S:List Pt}
theorem Ia:(J9 n S).length=n:=by rw[List.length_map,List.length_range]
theorem Ka (h:i<n):aj (J9 n S) i=aj S (n-1-i):=by
 unfold aj
 rw[List.getD_eq_getElem?_getD,List.getElem?_map,List.getElem?_range h]
 rfl
theorem zj (hl:S.length=n) (h:2<=n/\n<=1000/\(∀q,q<n->bu 16777216 (aj S q))/\2<=(aH S n).length):∀(M:Nat->Nat->Prop) (w:World) (v0:Value),dN M w->aS M (λw=>cK 2 true n (λi=>dB (aj S i)) w v0) w->Calls Tryz.prog 74 #[v0] w (vZ 2 ((aH S n).length-1) true 26 (λi=>dB (aj (aH S n) i)) w):=by
 subst hl
 exact JO h
def me (S R:List Pt) (n:Nat):List Pt:=(aH S n).take ((aH S n).length-1)++(aH R n).take ((aH R n).length-1)
variable {R:List Pt}
theorem D7:(me S R n).length=(aH S n).length-1+((aH R n).length-1):=by
 unfold me
 rw[List.length_append,List.length_take,List.length_take,Nat.min_eq_left (Nat.sub_le _ _),Nat.min_eq_left (Nat.sub_le _ _)]
theorem Dc {O:List Pt} (h:i<m):aj (O.take m) i=aj O i:=by
 unfold aj
 rw[List.getD_eq_getElem?_getD,List.getD_eq_getElem?_getD,List.getElem?_take,if_pos h]
theorem Gr:∀i w v,(if i<(aH S n).length-1 then dB (aj (aH S n) i)else dB (aj (aH R n) (i-((aH S n).length-1)))) w v->i<(aH S n).length-1+((aH R n).length-1)->dB (aj (me S R n) i) w v:=λi w v h hi=>by
 have hl:((aH S n).take ((aH S n).length-1)).length=(aH S n).length-1:=by rw[List.length_take,Nat.min_eq_left (Nat.sub_le _ _)]
 by_cases h1:i<(aH S n).length-1
 ·rw[if_pos h1]at h
  have e:aj (me S R n) i=aj (aH S n) i:=by
   rw[<-Dc (O:=aH S n) h1]
   unfold aj me
   rw[List.getD_eq_getElem?_getD,List.getD_eq_getElem?_getD,List.getElem?_append_left (by omega)]
  rw[e]
  exact h
 ·rw[if_neg h1]at h
  have e:aj (me S R n) i=aj (aH R n) (i-((aH S n).length-1)):=by
   rw[<-Dc (O:=aH R n) (m:=(aH R n).length-1) (by omega)]
   unfold aj me
   rw[List.getD_eq_getElem?_getD,List.getD_eq_getElem?_getD,List.getElem?_append_right (by omega),hl]
  rw[e]
  exact h
abbrev C8 (L:List Pt):Prop:=∀q,q<L.length->bu 16777216 (aj L q)
noncomputable abbrev sL (L:List Pt):List Pt:=pA L.length L
noncomputable abbrev rL (L:List Pt):List Pt:=J9 L.length (sL L)
structure vX (L:List Pt):Prop where
 two:2<=L.length
 max:L.length<=1000
 near:C8 L
 ne:∀k,1<=k->k<L.length->aj (sL L) k≠aj (sL L) (k-1)
 lo:2<=(aH (sL L) L.length).length
 up:2<=(aH (rL L) L.length).length
theorem MZ (h:vX L):K1 Tryz.prog 35 (gw L) (cK 2 true ((aH (sL L) L.length).length-1+((aH (rL L) L.length).length-1)) λi=>dB (aj (me (sL L) (rL L) L.length) i)):=by
 intro M w0 v0 hM hv0
 have h2:=h.two
 have hm:=h.max
 have hlo:=h.lo
 have UB:=h.up
 have wS:=jM (sL L) L.length
 have hl2:=jM (rL L) L.length
 have IU:∀q,q<L.length->bu 16777216 (aj (rL L) q):=λq hq=>by rw[Ka hq]; exact nX _ (by omega)
 refine uc (N:=21) Tryz.func35 rfl rfl rfl hM hv0 λa hI=>?_
 refine aZ hI 1 [Uc 0 2 _] (.k .z) ⟨mv,trivial⟩ (.kk .z) λa w hI=>?_
 refine Am hI 3 1 [] [] [Uc 0 5 _] .z (.kk .z) ⟨mv,trivial⟩ .z (.NM .z) (VC (GH (L:=L)) ⟨by omega,by omega⟩ (λ_=>fS _)) λa w hI=>?_
 obtain⟨b6,c6,Um,hI⟩:=hI
 refine Am hI 2 1 [] [] [Uc 0 7 _] (.k .z) (.cQ .z) ⟨mv,trivial⟩ (.k .z) (.nM .z) ⟨_,Vv (n0:=0) (M3 (L:=L) (b:=b6) (n:=L.length) (N:=c6*2) (c:=c6)) (c1:=λ_ _ h=>h) (c2:=λ_ _ h=>h) (hφ:=⟨h.near,hm,by omega⟩) (hp:=cF _) (hq:=gO λ_=>fS _),rfl⟩ λa w hI=>?_
 dsimp only[List.set]at hI
 refine Am hI 3 1 [] [] [Uc 0 9 _] (.k .z) (.au .z) ⟨mv,trivial⟩ (.k .z) (.Mg (.k .z)) (Rv (n0:=0) (Ef (L:=sL L) (b:=b6) (m:=c6*2) (n:=L.length) (cap:=c6)) ⟨h2,hm,by omega,h.ne⟩ (gO λ_=>fS _) (c1:=λ_ _ h=>h)) λa w hI=>?_
 dsimp only[List.set]at hI
 refine bB hI 1 [] [] [Uc 0 3 _] (.k .z) (.cQ .z) ⟨mv,trivial⟩ (.k .z) (.nM .z) λa w hI=>?_
 refine Am hI 4 2 [] [] [Uc 0 11 _,Uc 1 12 _] (.k .z) (.cQ .z) ⟨mv,mv,trivial⟩ (.k .z) (.au (.k .z)) (Vy (n0:=0) (zj (S:=sL L) EX) ⟨h2,hm,nX,hlo⟩ (λ_=>fS _) (hc:=Um)) λa w hI=>?_
 obtain⟨b13,c13,V5,hI⟩:=hI
 refine Am hI 2 1 [] [] [Uc 0 14 _] (.k (.k .z)) (.au (.kk .z)) ⟨mv,trivial⟩ (.k (.k .z)) (.au (.nk .z)) ⟨_,T2 (n0:=1) (Eh (L:=sL L) (b:=b6) (n:=L.length) (N:=c6*2) (c:=c6)) (c1:=λ_ _ h=>h) (hφ:=⟨hm,by omega,nX⟩) (hp:=cF _) (hq:=gO λ_=>fS _),rfl⟩ λa w hI=>?_
 dsimp only[List.set]at hI
 refine Am hI 6 4 [] [] [Uc 0 16 _,Uc 1 17 _,Uc 2 18 _,Uc 3 19 _] (.k (.k .z)) (.au (.kk .z)) ⟨mv,mv,mv,Vw (zj (S:=rL L) Ia) 6 ⟨h2,hm,IU,UB⟩ (λ_=>fS _) (hcap:=Um),trivial⟩ (.k (.k .z)) (.bX (.Mg (.dk .z))) (KG (n0:=0) (λi=>dB (aj (me (sL L) (rL L) L.length) i)) Gr (by omega) (hnf:=λ_=>fS _) (hng:=λ_=>fS _) (hfit:=λ_=>kJ _)) λa w hI=>?_
 obtain⟨s',hI⟩:=hI
 dsimp only[List.set]at hI
 have hI:=H7 hI 0 2 rfl (by kernel_rfl)
 dsimp only[List.eraseIdx]at hI
 refine aF ?_
 exact bL hI rfl fh
end Wx
