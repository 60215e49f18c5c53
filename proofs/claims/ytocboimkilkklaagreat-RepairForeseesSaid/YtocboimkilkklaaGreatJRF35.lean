import Derived.Test.YtocboimkilkklaaGreatJRF34
namespace Wx
set_option maxRecDepth 100000
set_option maxHeartbeats 1000000
open Go Go.RowKit Go.Proofs
set_option linter.unusedVariables false
attribute [local irreducible] OpOk
def kR (O:List Pt) (p:Pt):Nat->Nat
 |0=>0
 |1=>1
 |n+2=>if iF (aI O n) (aI O (n+1)) p<=0 then kR O p (n+1)else n+2
theorem ur (O:List Pt) (p:Pt):∀n,kR O p n<=n
 |0=>Nat.le_refl _
 |1=>Nat.le_refl _
 |n+2=>by
  show(if iF (aI O n) (aI O (n+1)) p<=0 then kR O p (n+1)else n+2)<=_
  have:=ur O p (n+1)
  split<;>omega
variable {O:List Pt} {p:Pt} {n:Nat}
theorem FE (h1:1<n) (h:iF (aI O (n-2)) (aI O (n-1)) p<=0):kR O p n=kR O p (n-1):=by
 obtain⟨m,rfl⟩:∃m,n=m+2:=⟨n-2,by omega⟩
 show(if iF (aI O m) (aI O (m+1)) p<=0 then kR O p (m+1)else m+2)=_
 rw[if_pos (show iF (aI O m) (aI O (m+1)) p<=0 from h)]
 rfl
theorem FD (h:¬(1<n/\iF (aI O (n-2)) (aI O (n-1)) p<=0)):kR O p n=n:=by
 match n,h with
 |0,_=>rfl
 |1,_=>rfl
 |m+2,h=>
  show(if iF (aI O m) (aI O (m+1)) p<=0 then kR O p (m+1)else m+2)=_
  exact if_neg λh2=>h ⟨by omega,h2⟩
def aF (L:List Pt):Nat->List Pt
 |0=>[]
 |k+1=>(aF L k).take (kR (aF L k) (aI L k) (aF L k).length)++[aI L k]
theorem tI (L:List Pt) (k:Nat):(aF L (k+1)).length=kR (aF L k) (aI L k) (aF L k).length+1:=by
 show((aF L k).take _++[aI L k]).length=_
 have:=ur (aF L k) (aI L k) (aF L k).length
 rw[List.length_append,List.length_take,Nat.min_eq_left this]
 rfl
theorem kK (L:List Pt):∀k,(aF L k).length<=k
 |0=>Nat.le_refl _
 |k+1=>by
  rw[tI]
  have h1:=kK L k
  have h2:=ur (aF L k) (aI L k) (aF L k).length
  omega
theorem tJ {L:List Pt} {x:Pt}:∀{k:Nat},x∈aF L k->∃q,q<k/\x=aI L q
 |0,h=>by cases h
 |k+1,h=>by
  have h:x∈(aF L k).take _++[aI L k]:=h
  rcases List.mem_append.1 h with h|h
  ·obtain⟨q,hq,e⟩:=tJ (List.mem_of_mem_take h)
   exact⟨q,by omega,e⟩
  ·exact⟨k,by omega,List.mem_singleton.1 h⟩
theorem JO {q:Nat} (h:q<O.length):aI O q∈O:=by
 unfold aI
 rw[List.getD_eq_getElem?_getD,List.getElem?_eq_getElem h]
 exact List.getElem_mem h
variable {L:List Pt}
theorem zT {B:Int} {k:Nat} (h:∀q,q<L.length->gL B (aI L q)) (hk:k<=L.length):∀q,q<(aF L k).length->gL B (aI (aF L k) q):=λq hq=>by
 obtain⟨j,hj,e⟩:=tJ (JO hq)
 rw[e]
 exact h j (by omega)
theorem Ma (hn:n<=O.length):∀i w v,(if i<n then gK (aI O i)else gK p) w v->i<n+1->gK (aI (O.take n++[p]) i) w v:=λi w v h hi=>by
 have hl:(O.take n).length=n:=by rw[List.length_take,Nat.min_eq_left hn]
 by_cases h1:i<n
 ·rw[if_pos h1]at h
  have e:aI (O.take n++[p]) i=aI O i:=by
   unfold aI
   rw[List.getD_eq_getElem?_getD,List.getD_eq_getElem?_getD,List.getElem?_append_left (by omega),List.getElem?_take,if_pos h1]
  rw[e]
  exact h
 ·rw[if_neg h1]at h
  obtain rfl:i=n:=by omega
  have e:aI (O.take i++[p]) i=p:=by
   unfold aI
   rw[List.getD_eq_getElem?_getD,List.getElem?_append_right (by omega),hl,Nat.sub_self]
   rfl
  rw[e]
  exact h
theorem zY (h:decide ((n:Int)>1)=true):1<n:=by have:=of_decide_eq_true h; omega
theorem SG {P:Program} {fn:Func} {w:World} {f:FuncId} {C:Code} {v0:Value} {M:Nat->Nat->Prop} {R:World->Ending->World->Prop} {p0:Pred} {N:Nat} (hf:P.funcs[f]?=some fn) (hb:fn.body=some C) (hN:fn.ntmps=N) (hlen:decide ([v0].length<=N)=true) (hM:dc M w) (h0:aL M (λw=>p0 w v0) w) (h:∀a,Inv ⟨N,w,M,λ_=>False⟩ [] [] [Uz 0 p0] none_ a w->C.ww none [] P (bodyPost P fn (R w)) a w):Calls P f #[v0] w (R w):=
 yj (vs:=[v0]) hf hb hN hlen hM (show ck M w [v0] [Uz 0 p0]from⟨⟨rfl,_,rfl,h0⟩,trivial⟩) λa hI=>(wpIn_wide (n:=0)).1 (wpIn_mono (h a hI 0) λe a' w' ⟨a0,e0,h0⟩=>by subst e0; exact h0)
theorem LA (h:2<=L.length/\L.length<=1000/\(∀q,q<L.length->gL 16777216 (aI L q))/\2<=(aF L L.length).length):∀(M:Nat->Nat->Prop) (w:World) (v0:Value),dc M w->aL M (λw=>(lU L) w v0) w->Calls Tryz.prog 99 #[v0] w (xZ 2 ((aF L L.length).length-1) true 68 (λi=>gK (aI (aF L L.length) i)) w):=by
 intro M w0 v0 hM hv0
 have hL:=h.2.1
 have hn:=h.2.2.1
 have h2:=h.2.2.2
 refine SG (N:=48) Tryz.func99 rfl rfl rfl hM hv0 λa hI=>?_
 refine eu hI 1 [Uc 0 2 _] (.k .z) ⟨mv,trivial⟩ (.kk .z) λa w hI=>?_
 refine eu hI 1 [Uc 0 3 _] (.kk .z) ⟨mv,trivial⟩ (.fS .z) λa w hI=>?_
 have hI:=Si (id:=48) (sz:=2) (ag:=true) (E:=68) (λi=>gK (aI (aF L 0) i)) hI (by kernel_rfl)
 dsimp only[List.append,HAppend.hAppend,Append.append]at hI
 refine aU ?_
 refine dQ hI 3 [] [] [Uc 0 7 _,Uc 1 8 _,Uc 2 9 _] (.k .z) (.fS .z) ⟨mv,ln,mv,trivial⟩ (.k .z) (.Ol (.kk .z)) λa w hI=>?_
 refine bN ?_
 refine GV [] [Uz 2 _,Uz 7 _,Uz 8 _] (λ(k:Nat×Option Addr×Nat)=>[(mQ 48 2 (aF L k.1).length true 68 (λi=>gK (aI (aF L k.1) i)) (.slice k.2.1 (aF L k.1).length k.2.2))]) (λ(k:Nat×Option Addr×Nat)=>[Uz 9 (pI (k.1:Int)),Uz 3 (cI (.slice k.2.1 (aF L k.1).length k.2.2))]) (λ(k:Nat×Option Addr×Nat)=>k.1<=L.length) (λ(k:Nat×Option Addr×Nat)=>L.length-k.1) ((0,none,0)) (Nat.zero_le _) hI ⟨Qf,trivial⟩ ⟨gi,gi,gi,gc,gc,trivial⟩ ?_
 intro k a w hk hI
 refine dQ hI 1 [] [] [Uc 0 10 _] (.k .z) (.aK (.k .z)) ⟨bn,trivial⟩ (.k .z) (.aK (.kk .z)) λa w hI=>?_
 refine aU ?_
 refine sC hI (λt1=>?_) (λt1=>?_)
 ·
  refine bD ?_
  refine aj ?_
  refine aU ?_
  refine bN ?_
  have hO:=zT hn hk
  have hle:=kK L k.1
  refine dQ hI 4 [⟨5,5,some 2,none,.ptr,68,2,true,pv _,[(3,pv _)]⟩] [] [Uc 0 11 _,Uc 1 12 _] (.k .z) (.aK (.kk .z)) ⟨ix,ld,rA [.i,.i],nw,trivial⟩ (.k (.s .o .z)) (.aK (.lM .z)) λa w hI=>?_
  refine aU ?_
  refine dQ hI 3 [] [] [Uc 0 13 _,Uc 1 14 _,Uc 2 6 _] (.k (.k .z)) (.aK (.k .z)) ⟨mv,Se,mv,trivial⟩ (.k (.k .z)) (.aK (.CA .z)) λa w hI=>?_
  refine bN ?_
  refine GV [Vz 5 5 68 2 true _] [Uz 2 _,Uz 7 _,Uz 8 _,Uz 9 _] (λ(n:Nat)=>[(mQ 48 2 n true 68 (λi=>gK (aI (aF L k.1) i)) (.slice k.2.1 n k.2.2))]) (λ(n:Nat)=>[Uz 6 (pI (n:Int)),Uz 3 (cI (.slice k.2.1 n k.2.2))]) (λ(n:Nat)=>n<=(aF L k.1).length/\kR (aF L k.1) (aI L k.1) (aF L k.1).length=kR (aF L k.1) (aI L k.1) n) (λ(n:Nat)=>n) ((aF L k.1).length) ⟨Nat.le_refl _,rfl⟩ hI ⟨vi,Qf,trivial⟩ ⟨gi,gi,gi,gi,gc,gc,trivial⟩ ?_
  intro n a w hi hI
  refine aU ?_
  refine GX hI [0,1,3,7,7,23,63,127,7,7,519,1799,3847,7,16383,32767,65535] [] [] [Uc 0 15 _,Uc 1 16 _,Uc 2 17 _,Uc 3 18 _,Uc 4 19 _,Uc 5 20 _,Uc 6 21 _,Uc 7 22 _,Uc 8 23 _,Uc 9 24 _,Uc 10 25 _,Uc 11 26 _,Uc 12 27 _,Uc 13 28 _,Uc 14 29 _,Uc 15 30 _,Uc 16 31 _] (.k (.k .z)) (.aK (.kk .z)) ⟨mv,bn,mv,gd λh=>Fk h,gd λh=>Fk h,gd λh=>DW h,gd λh=>MU h 48 (n-2) (hk:=by have:=zY h; omega) (hq:=by have:=zY h; omega),gd λh=>MV h 48 (hq:=by have:=zY h; omega) (hn:=gO _),gd λh=>Fk h,gd λh=>Fk h,gd λh=>DW h,gd λh=>MU h 48 (n-1) (hk:=by have:=zY h; omega) (hq:=by have:=zY h; omega),gd λh=>MV h 48 (hq:=by have:=zY h; omega) (hn:=gO _),gd λh=>yF h,gd λh=>Q3 h CC (hφ:=⟨hO _ (by have:=zY h; omega),hO _ (by have:=zY h; omega),hn _ (by omega)⟩),gd λh=>DW h,pk,trivial⟩ (.k (.k .z)) (.aK (.gX (.d8 (.ek (.we .z))))) λa w hI=>?_
  refine Kl hI (λt2=>?_) (λt2=>?_)
  ·
   refine bD ?_
   refine aj ?_
   refine aU ?_
   refine bN ?_
   obtain⟨hp1,hp2⟩:1<n/\iF (aI (aF L k.1) (n-2)) (aI (aF L k.1) (n-1)) (aI L k.1)<=0:=by
    simp only[Bool.and_eq_true,decide_eq_true_eq]at t2
    exact⟨by omega,t2.2⟩
   refine Tg hI 5 3 [] [] [Uc 0 34 _,Uc 1 35 _,Uc 2 36 _] (.k (.k .z)) (.aK (.fS .z)) ⟨mv,mv,bn,trivial⟩ (.k (.k .z)) (.aK (.gV (.dk .z))) (MH (n0:=1) (n-1) (hnf:=λ_=>gO _)) λa w hI=>?_
   dsimp only[List.set]at hI
   refine cz ?_
   refine aj ?_
   refine GY hI 3 [] [] [Uc 0 32 _,Uc 1 33 _,Uc 2 6 _] (.k (.k .z)) (.aK (.fS .z)) ⟨mv,Se,mv,trivial⟩ (.k (.k .z)) (.aK (.lM (.dk .z))) λa w hI=>?_
   refine aj ?_
   exact GR (n-1) ⟨by omega,by rw[hi.2]; exact FE hp1 hp2⟩ hI ⟨vc,Qf,trivial⟩ ⟨gc,gc,gc,gc,gc,gc,trivial⟩ (by omega)
  ·
   refine gz ?_
   refine bw ?_
   refine bw ?_
   refine cM ?_
   refine aj ?_
   have hkn:kR (aF L k.1) (aI L k.1) n=n:=FD λhh=>by
    simp only[Bool.and_eq_false_iff,decide_eq_false_iff_not]at t2
    omega
   have hnl:n<=(aF L k.1).length:=hi.1
   have hlen:n+1=(aF L (k.1+1)).length:=by rw[tI,hi.2,hkn]
   have Cw:(aF L k.1).take n++[aI L k.1]=aF L (k.1+1):=by rw[<-hkn,<-hi.2]; rfl
   refine Tg hI 5 3 [] [] [Uc 0 38 _,Uc 1 39 _,Uc 2 40 _] (.k (.k .z)) (.aK (.fS .z)) ⟨mv,ld,Ya 68,trivial⟩ (.d (.k .z)) (.aK (.gV (.dk .z))) (TP (n0:=0) (λi=>gK (aI (aF L (k.1+1)) i)) (Cw▸Ma (O:=aF L k.1) hnl) (hnf:=λ_=>gO _) (hnp:=gO _) (hfit:=lI _)) λa w hI=>?_
   obtain⟨s',hI⟩:=hI
   dsimp only[List.set]at hI
   obtain⟨X',cap',rfl,hcap⟩:=Ay hI 0 rfl
   refine cz ?_
   refine aj ?_
   refine GY hI 2 [] [] [Uc 0 42 _,Uc 1 9 _] (.k .z) (.aK (.t 1 (.kk .z))) ⟨bn,mv,trivial⟩ (.k .z) (.aK (.ek (.k .z))) λa w hI=>?_
   refine aj ?_
   rw[hlen]at hI
   exact GR ((k.1+1,X',cap')) (by(show k.1+1<=L.length); omega) hI ⟨Qf,trivial⟩ ⟨gc,gc,gc,gc,gc,trivial⟩ (by(show L.length-(k.1+1)<L.length-k.1); omega)
 ·
  refine gz ?_
  refine bw ?_
  refine bw ?_
  refine cM ?_
  refine aj ?_
  obtain⟨k,X,cap⟩:=k
  obtain rfl:k=L.length:=by(have hk':k<=L.length:=hk); omega
  dsimp only at hI
  have hle:=kK L L.length
  refine BH hI 6 4 [] [] [Uc 0 43 _,Uc 1 44 _,Uc 2 45 _,Uc 3 46 _] (.k .z) (.aK (.kk .z)) ⟨mv,mv,Se,bn,trivial⟩ (.k .z) (.ek (.Og (.dk .z))) (MH (n0:=0) ((aF L L.length).length-1) (hnf:=λ_=>gO _)) λa w hI=>?_
  dsimp only[List.set]at hI
  refine bL ?_
  exact TV (n0:=0) hI rfl rfl (by omega)
end Wx

namespace Wx
set_option maxRecDepth 100000
set_option maxHeartbeats 1000000
open Go Go.RowKit Go.Proofs
set_option linter.unusedVariables false
attribute [local irreducible] OpOk
variable {L:List Pt}
theorem I3 (h:0<L.length/\L.length<=1000000):∀(M:Nat->Nat->Prop) (w:World) (v0:Value),dc M w->aL M (λw=>(dK 2 true L.length λi=>gK (aI L i)) w v0) w->Calls Tryz.prog 95 #[v0] w (KM 2 L.length true (λi=>gK (aI L i)) w):=by
 intro M w0 v0 hM hv0
 refine SG (N:=8) Tryz.func95 rfl rfl rfl hM hv0 λa hI=>?_
 refine eu hI 1 [Uc 0 2 _] (.k .z) ⟨mv,trivial⟩ (.kk .z) λa w hI=>?_
 refine aU ?_
 refine eu hI 2 [Uc 0 3 _,Uc 1 4 _] (.kk .z) ⟨mv,Gf (E:=68) hs h.1 (by kernel_rfl) (pt rfl),trivial⟩ (.ry .z) λa w hI=>?_
 refine ZV hI (rfl) ?_
 refine bD ?_
 refine aj ?_
 refine dQ hI 4 [⟨7,7,some 2,some 3,.grow (L.length) 2,68,3,true,pv dr,[]⟩,⟨2,2,some 3,none,.grow (L.length) 2,68,3,true,pv dr,[]⟩] [] [Uc 0 5 _,Uc 1 6 _,Uc 2 7 _,Uc 3 2 _] .z (.k (.t 3 (.k .z))) ⟨X9 (sz:=2) 68,mv,X5 (F:=gK) (e:=λk=>aI L k) L (0,0) lI (hn:=h.1) (hmax:=by omega),X6,trivial⟩ (.d (.k .z)) (.ek (.we .z)) λa w hI=>?_
 refine bL ?_
 exact TW hI rfl (n0:=0) rfl h.1 (k:=0) rfl
variable {m n:Nat}
theorem FH {b cap:Nat} (h:2<=n/\n<=1000/\n*2<=m/\∀k,1<=k->k<n->aI L k≠aI L (k-1)):∀(M:Nat->Nat->Prop) (w:World) (v0:Value),dc M w->(∀o,¬M b o)->One b m (JK n L) w->aL (mm M b) (λw=>cI (.slice (some ⟨b,0,none⟩) n cap) w v0) w->Calls Tryz.prog 98 #[v0] w (ya M b m (cI (.slice (some ⟨b,0,none⟩) n cap)) (JK n L) w):=by
 obtain⟨h1,h2,h3,hne⟩:=h
 intro M w0 v0 hM Ur h0 hv0
 refine V4 (N:=61) Tryz.func98 rfl rfl hM Ur (iB λ_=>gO _) h0 hv0 λa hI=>?_
 refine dQ hI 1 [] [] [Uc 0 2 _] (.k .z) (.k .z) ⟨mv,trivial⟩ (.k .z) (.kk .z) λa w hI=>?_
 refine aU ?_
 refine dQ hI 3 [] [] [Uc 0 6 _,Uc 1 7 _,Uc 2 8 _] (.k .z) (.kk .z) ⟨mv,Se,bn,trivial⟩ (.k .z) (.gX (.k .z)) λa w hI=>?_
 refine sC hI (λt1=>?_) (λt1=>?_)
 ·exfalso; omega
 refine bD ?_
 refine aj ?_
 refine aU ?_
 refine dQ hI 1 [] [] [Uc 0 3 _] (.k .z) (.fS .z) ⟨mv,trivial⟩ (.k .z) (.ry .z) λa w hI=>?_
 refine bN ?_
 refine GV [gm 61 b m _] [Uz 0 _] (λ(k:Nat)=>[]) (λ(k:Nat)=>[Uz 3 (pI (k:Int))]) (λ(k:Nat)=>1<=k/\k<=n) (λ(k:Nat)=>n-k) (1) (by omega) hI ⟨vO,trivial⟩ ⟨gi,gc,trivial⟩ ?_
 intro k a w hk hI
 refine aU ?_
 refine dQ hI 4 [] [] [Uc 0 10 _,Uc 1 11 _,Uc 2 12 _,Uc 3 13 _] (.k .z) (.kk .z) ⟨mv,mv,Se,bn,trivial⟩ (.k .z) (.gX (.dk .z)) λa w hI=>?_
 refine sC hI (λt2=>?_) (λt2=>?_)
 ·
  refine bD ?_
  refine aj ?_
  refine aU ?_
  refine bN ?_
  refine GX hI [0,0,3,7,0,0,32,112,240,511] [] [] [Uc 0 16 _,Uc 1 17 _,Uc 2 18 _,Uc 3 19 _,Uc 4 20 _,Uc 5 21 _,Uc 6 22 _,Uc 7 23 _,Uc 8 24 _,Uc 9 25 _] (.k .z) (.fS .z) ⟨mv,mv,iX 2 k,Xr 61 k,mv,mv,bn,iX 2 (k-1),Xr 61 (k-1),Yh,trivial⟩ (.k .z) (.gX (.d8 (.k .z))) λa w hI=>?_
  refine sC hI (λt3=>?_) (λt3=>?_)
  ·exfalso; exact hne k (by omega) (by omega) t3
  refine bD ?_
  refine cz ?_
  refine aj ?_
  refine GY hI 3 [] [] [Uc 0 14 _,Uc 1 15 _,Uc 2 3 _] (.k .z) (.k (.t 2 (.k .z))) ⟨mv,bn,mv,trivial⟩ (.k .z) (.lM (.dk .z)) λa w hI=>?_
  refine aj ?_
  exact GR (k+1) (by omega) hI ⟨vO,trivial⟩ ⟨gc,gc,trivial⟩ (by omega)
 ·
  refine gz ?_
  refine bw ?_
  refine bw ?_
  refine cM ?_
  refine aj ?_
  refine dQ hI 2 [] [] [Uc 0 60 _,Uc 1 2 _] (.k .z) (.fS .z) ⟨mv,mv,trivial⟩ (.k .z) (.ek (.k .z)) λa w hI=>?_
  refine bL ?_
  exact QU (n0:=0) hI rfl rfl
theorem Gw:(qG n L).length=n:=by
 unfold qG uW
 rw[List.length_map]
 show(List.mergeSort _ _).length=n
 rw[List.length_mergeSort,Array.length_toList,dR]
variable {i:Nat}
theorem CZ {d:Array EW} (h:i<d.size):gL 16777216 (aI (uW d) i):=by
 rw[<-xN h]
 exact(d[i]!).h
theorem pz:∀q,q<n->gL 16777216 (aI (qG n L) q):=λq hq=>by
 unfold qG
 refine CZ ?_
 rw[List.size_toArray,List.length_mergeSort,Array.length_toList,dR]
 exact hq
abbrev Md (n:Nat) (S:List Pt):List Pt:=(List.range n).map λi=>aI S (n-1-i)
variable {S:List Pt}
theorem JY:(Md n S).length=n:=by rw[List.length_map,List.length_range]
theorem Me (h:i<n):aI (Md n S) i=aI S (n-1-i):=by
 unfold aI
 rw[List.getD_eq_getElem?_getD,List.getElem?_map,List.getElem?_range h]
 rfl
theorem AL (hl:S.length=n) (h:2<=n/\n<=1000/\(∀q,q<n->gL 16777216 (aI S q))/\2<=(aF S n).length):∀(M:Nat->Nat->Prop) (w:World) (v0:Value),dc M w->aL M (λw=>dK 2 true n (λi=>gK (aI S i)) w v0) w->Calls Tryz.prog 99 #[v0] w (xZ 2 ((aF S n).length-1) true 68 (λi=>gK (aI (aF S n) i)) w):=by
 subst hl
 exact LA h
def mS (S R:List Pt) (n:Nat):List Pt:=(aF S n).take ((aF S n).length-1)++(aF R n).take ((aF R n).length-1)
variable {R:List Pt}
theorem Fx:(mS S R n).length=(aF S n).length-1+((aF R n).length-1):=by
 unfold mS
 rw[List.length_append,List.length_take,List.length_take,Nat.min_eq_left (Nat.sub_le _ _),Nat.min_eq_left (Nat.sub_le _ _)]
theorem Ew {O:List Pt} (h:i<m):aI (O.take m) i=aI O i:=by
 unfold aI
 rw[List.getD_eq_getElem?_getD,List.getD_eq_getElem?_getD,List.getElem?_take,if_pos h]
theorem IJ:∀i w v,(if i<(aF S n).length-1 then gK (aI (aF S n) i)else gK (aI (aF R n) (i-((aF S n).length-1)))) w v->i<(aF S n).length-1+((aF R n).length-1)->gK (aI (mS S R n) i) w v:=λi w v h hi=>by
 have hl:((aF S n).take ((aF S n).length-1)).length=(aF S n).length-1:=by rw[List.length_take,Nat.min_eq_left (Nat.sub_le _ _)]
 by_cases h1:i<(aF S n).length-1
 ·rw[if_pos h1]at h
  have e:aI (mS S R n) i=aI (aF S n) i:=by
   rw[<-Ew (O:=aF S n) h1]
   unfold aI mS
   rw[List.getD_eq_getElem?_getD,List.getD_eq_getElem?_getD,List.getElem?_append_left (by omega)]
  rw[e]
  exact h
 ·rw[if_neg h1]at h
  have e:aI (mS S R n) i=aI (aF R n) (i-((aF S n).length-1)):=by
   rw[<-Ew (O:=aF R n) (m:=(aF R n).length-1) (by omega)]
   unfold aI mS
   rw[List.getD_eq_getElem?_getD,List.getD_eq_getElem?_getD,List.getElem?_append_right (by omega),hl]
  rw[e]
  exact h
abbrev Eu (L:List Pt):Prop:=∀q,q<L.length->gL 16777216 (aI L q)
noncomputable abbrev sL (L:List Pt):List Pt:=qG L.length L
noncomputable abbrev rL (L:List Pt):List Pt:=Md L.length (sL L)
structure xX (L:List Pt):Prop where
 two:2<=L.length
 max:L.length<=1000
 near:Eu L
 ne:∀k,1<=k->k<L.length->aI (sL L) k≠aI (sL L) (k-1)
 lo:2<=(aF (sL L) L.length).length
 up:2<=(aF (rL L) L.length).length
theorem Pd (h:xX L):K1 Tryz.prog 62 (lU L) (dK 2 true ((aF (sL L) L.length).length-1+((aF (rL L) L.length).length-1)) λi=>gK (aI (mS (sL L) (rL L) L.length) i)):=by
 intro M w0 v0 hM hv0
 have h2:=h.two
 have hm:=h.max
 have hlo:=h.lo
 have Xk:=h.up
 have qO:=kK (sL L) L.length
 have hl2:=kK (rL L) L.length
 have pY:∀q,q<L.length->gL 16777216 (aI (rL L) q):=λq hq=>by rw[Me hq]; exact pz _ (by omega)
 refine Dj (N:=21) Tryz.func62 rfl rfl rfl hM hv0 λa hI=>?_
 refine eu hI 1 [Uc 0 2 _] (.k .z) ⟨mv,trivial⟩ (.kk .z) λa w hI=>?_
 refine BH hI 3 1 [] [] [Uc 0 5 _] .z (.kk .z) ⟨mv,trivial⟩ .z (.QH .z) (Yg (I3 (L:=L)) ⟨by omega,by omega⟩ (λ_=>gO _)) λa w hI=>?_
 obtain⟨b6,c6,WZ,hI⟩:=hI
 refine BH hI 2 1 [] [] [Uc 0 7 _] (.k .z) (.fS .z) ⟨mv,trivial⟩ (.k .z) (.ry .z) ⟨_,Yc (n0:=0) (Pe (L:=L) (b:=b6) (n:=L.length) (N:=c6*2) (c:=c6)) (c1:=λ_ _ h=>h) (c2:=λ_ _ h=>h) (hφ:=⟨h.near,hm,by omega⟩) (hp:=bz _) (hq:=iB λ_=>gO _),rfl⟩ λa w hI=>?_
 dsimp only[List.set]at hI
 refine BH hI 3 1 [] [] [Uc 0 9 _] (.k .z) (.aK .z) ⟨mv,trivial⟩ (.k .z) (.Og (.k .z)) (TQ (n0:=0) (FH (L:=sL L) (b:=b6) (m:=c6*2) (n:=L.length) (cap:=c6)) ⟨h2,hm,by omega,h.ne⟩ (iB λ_=>gO _) (c1:=λ_ _ h=>h)) λa w hI=>?_
 dsimp only[List.set]at hI
 refine dQ hI 1 [] [] [Uc 0 3 _] (.k .z) (.fS .z) ⟨mv,trivial⟩ (.k .z) (.ry .z) λa w hI=>?_
 refine BH hI 4 2 [] [] [Uc 0 11 _,Uc 1 12 _] (.k .z) (.fS .z) ⟨mv,mv,trivial⟩ (.k .z) (.aK (.k .z)) (Yf (n0:=0) (AL (S:=sL L) Gw) ⟨h2,hm,pz,hlo⟩ (λ_=>gO _) (hc:=WZ)) λa w hI=>?_
 obtain⟨b13,c13,YJ,hI⟩:=hI
 refine BH hI 2 1 [] [] [Uc 0 14 _] (.k (.k .z)) (.aK (.kk .z)) ⟨mv,trivial⟩ (.k (.k .z)) (.aK (.we .z)) ⟨_,Ww (n0:=1) (FJ (L:=sL L) (b:=b6) (n:=L.length) (N:=c6*2) (c:=c6)) (c1:=λ_ _ h=>h) (hφ:=⟨hm,by omega,pz⟩) (hp:=bz _) (hq:=iB λ_=>gO _),rfl⟩ λa w hI=>?_
 dsimp only[List.set]at hI
 refine BH hI 6 4 [] [] [Uc 0 16 _,Uc 1 17 _,Uc 2 18 _,Uc 3 19 _] (.k (.k .z)) (.aK (.kk .z)) ⟨mv,mv,mv,Yd (AL (S:=rL L) JY) 6 ⟨h2,hm,pY,Xk⟩ (λ_=>gO _) (hcap:=WZ),trivial⟩ (.k (.k .z)) (.ek (.Og (.dk .z))) (MI (n0:=0) (λi=>gK (aI (mS (sL L) (rL L) L.length) i)) IJ (by omega) (hnf:=λ_=>gO _) (hng:=λ_=>gO _) (hfit:=λ_=>lI _)) λa w hI=>?_
 obtain⟨s',hI⟩:=hI
 dsimp only[List.set]at hI
 have hI:=JV hI 0 2 rfl (by kernel_rfl)
 dsimp only[List.eraseIdx]at hI
 refine bL ?_
 exact dx hI rfl pC
end Wx

namespace Wx
set_option maxRecDepth 100000
set_option maxHeartbeats 1000000
open Go Go.RowKit Go.Proofs
set_option linter.unusedVariables false
attribute [local irreducible] OpOk
def lY (K L:List Pt) (i:Nat):List Pt:=if i=0 then K else L
def oN (K L:List Pt):Nat->List Pt
 |0=>[]
 |1=>K
 |_=>K++L
variable {K L:List Pt} {k:Nat}
theorem zS (h:k<2):(oN K L (k+1)).length=(oN K L k).length+(lY K L k).length:=by
 match k,h with
 |0,_=>show K.length=0+K.length; omega
 |1,_=>show(K++L).length=K.length+L.length; rw[List.length_append]
theorem DF (h:k<=2):(oN K L k).length<=K.length+L.length:=by
 match k,h with
 |0,_=>exact Nat.zero_le _
 |1,_=>exact Nat.le_add_right _ _
 |2,_=>show(K++L).length<=_; rw[List.length_append]; exact Nat.le_refl _
theorem N8 (h:k<2):∀i w v,(if i<(oN K L k).length then gK (aI (K++L) i)else gK (aI (lY K L k) (i-(oN K L k).length))) w v->i<(oN K L k).length+(lY K L k).length->gK (aI (K++L) i) w v:=λi w v hp hi=>by
 by_cases h1:i<(oN K L k).length
 ·rw[if_pos h1]at hp; exact hp
 ·rw[if_neg h1]at hp
  have e:aI (K++L) i=aI (lY K L k) (i-(oN K L k).length):=by
   unfold aI
   match k,h with
   |0,_=>
    have hi:i<0+K.length:=hi
    show(K++L).getD i (0,0)=K.getD (i-0) (0,0)
    rw[List.getD_eq_getElem?_getD,List.getD_eq_getElem?_getD,List.getElem?_append_left (by omega),Nat.sub_zero]
   |1,_=>
    have h1:¬i<K.length:=h1
    show(K++L).getD i (0,0)=L.getD (i-K.length) (0,0)
    rw[List.getD_eq_getElem?_getD,List.getD_eq_getElem?_getD,List.getElem?_append_right (by omega)]
  rw[e]
  exact hp
theorem I1 (h:0<K.length/\K.length<=400/\0<L.length/\L.length<=400):K1 Tryz.prog 63 (dK 1 false 2 λi=>lU (lY K L i)) (dK 2 true (K++L).length λi=>gK (aI (K++L) i)):=by
 intro M w0 v0 hM hv0
 have hT:∀k,0<(lY K L k).length/\(lY K L k).length<=400:=λk=>by unfold lY; split<;>omega
 refine Dj (N:=36) Tryz.func63 rfl rfl rfl hM hv0 λa hI=>?_
 refine eu hI 1 [Uc 0 2 _] (.k .z) ⟨mv,trivial⟩ (.kk .z) λa w hI=>?_
 refine eu hI 1 [Uc 0 3 _] (.kk .z) ⟨mv,trivial⟩ (.fS .z) λa w hI=>?_
 refine aU ?_
 refine eu hI 3 [Uc 0 9 _,Uc 1 10 _,Uc 2 11 _] (.fS .z) ⟨mv,ln,mv,trivial⟩ (.aK (.kk .z)) λa w hI=>?_
 refine bN ?_
 refine GV [] [Uz 0 _,Uz 2 _,Uz 9 _,Uz 10 _] (λ(i:Nat)=>[]) (λ(i:Nat)=>[Uz 11 (pI (i:Int)),Uz 3 (pI ((oN K L i).length:Int))]) (λ(i:Nat)=>i<=2) (λ(i:Nat)=>2-i) (0) (Nat.zero_le 2) hI trivial ⟨gi,gi,gi,gi,gc,gc,trivial⟩ ?_
 intro i a w hi hI
 refine eu hI 1 [Uc 0 12 _] (.aK (.kk .z)) ⟨bn,trivial⟩ (.aK (.fS .z)) λa w hI=>?_
 refine aU ?_
 refine sC hI (λt1=>?_) (λt1=>?_)
 ·
  refine bD ?_
  refine aj ?_
  refine aU ?_
  refine bN ?_
  refine eu hI 3 [Uc 0 13 _,Uc 1 14 _,Uc 2 5 _] (.aK (.fS .z)) ⟨ix,ld,mv,trivial⟩ (.aK (.gX (.dk .z))) λa w hI=>?_
  have ue:=zS (K:=K) (L:=L) (show i<2 by omega)
  have hcm:=DF (K:=K) (L:=L) (show i<=2 by omega)
  have hT1:=hT i
  refine eu hI 5 [Uc 0 15 _,Uc 1 16 _,Uc 2 17 _,Uc 3 18 _,Uc 4 3 _] (.aK (.k (.t 4 (.k .z)))) ⟨mv,mv,ln,bn,mv,trivial⟩ (.aK (.lM (.gV .z))) λa w hI=>?_
  refine eu hI 2 [Uc 0 19 _,Uc 1 20 _] (.aK (.kk .z)) ⟨mv,bn,trivial⟩ (.aK (.ry .z)) λa w hI=>?_
  refine sC hI (λt2=>?_) (λt2=>?_)
  ·exfalso; omega
  refine bD ?_
  refine cz ?_
  refine aj ?_
  refine Kq hI 2 [Uc 0 22 _,Uc 1 11 _] (.aK (.t 1 (.kk .z))) ⟨bn,mv,trivial⟩ (.aK (.QG (.k .z))) λa w hI=>?_
  refine aj ?_
  exact GR (i+1) (by omega) hI trivial ⟨gc,gc,gc,gc,gc,gc,trivial⟩ (by omega)
 ·
  refine gz ?_
  refine bw ?_
  refine bw ?_
  refine cM ?_
  refine aj ?_
  obtain rfl:i=2:=by omega
  have hc0:0<(oN K L 2).length:=by show 0<(K++L).length; rw[List.length_append]; omega
  have rf:(oN K L 2).length<=1000000:=by show(K++L).length<=_; rw[List.length_append]; omega
  refine BH hI 3 1 [] [] [Uc 0 23 _] .z (.aK (.fS .z)) ⟨mv,trivial⟩ .z (.gX (.gV .z)) (TN (λw=>Pc (n:=(oN K L 2).length) ⟨hc0,rf⟩ (λi=>gK (aI (K++L) i)) w) (λ_=>gO _)) λa w hI=>?_
  obtain⟨X7,Yb,YL,hI⟩:=hI
  refine aU ?_
  refine dQ hI 3 [] [] [Uc 0 25 _,Uc 1 26 _,Uc 2 27 _] (.k .z) (.aK .z) ⟨mv,ln,mv,trivial⟩ (.k .z) (.VJ (.fS .z)) λa w hI=>?_
  refine bN ?_
  refine GV [] [Uz 2 _,Uz 25 _,Uz 26 _] (λ(k:Nat×Option Addr×Nat)=>[(mQ 24 2 (oN K L k.1).length true 68 (λi=>gK (aI (K++L) i)) (.slice k.2.1 (oN K L k.1).length k.2.2))]) (λ(k:Nat×Option Addr×Nat)=>[Uz 27 (pI (k.1:Int)),Uz 6 (cI (.slice k.2.1 (oN K L k.1).length k.2.2))]) (λ(k:Nat×Option Addr×Nat)=>k.1<=2) (λ(k:Nat×Option Addr×Nat)=>2-k.1) ((0,some ⟨X7,0,none⟩,Yb)) (Nat.zero_le 2) hI ⟨Qf,trivial⟩ ⟨gi,gi,gi,gc,gc,trivial⟩ ?_
  intro k a w hk hI
  refine dQ hI 1 [] [] [Uc 0 28 _] (.k .z) (.aK (.k .z)) ⟨bn,trivial⟩ (.k .z) (.aK (.kk .z)) λa w hI=>?_
  refine aU ?_
  refine sC hI (λt3=>?_) (λt3=>?_)
  ·
   refine bD ?_
   refine aj ?_
   refine aU ?_
   refine bN ?_
   refine dQ hI 3 [] [] [Uc 0 29 _,Uc 1 30 _,Uc 2 8 _] (.k .z) (.aK (.kk .z)) ⟨ix,ld,mv,trivial⟩ (.k .z) (.aK (.lM (.k .z))) λa w hI=>?_
   have hk2:k.1<2:=by omega
   have ue:=zS (K:=K) (L:=L) hk2
   have hcm:=DF (K:=K) (L:=L) (show k.1<=2 by omega)
   obtain⟨Rc,hT3⟩:=hT k.1
   refine Tg hI 4 2 [] [] [Uc 0 31 _,Uc 1 32 _] (.k .z) (.aK (.kk .z)) ⟨mv,mv,trivial⟩ (.k .z) (.aK (.yw .z)) (MI (n0:=0) (λi=>gK (aI (K++L) i)) (N8 hk2) Rc (hnf:=λ_=>gO _) (hng:=λ_=>gO _) (hfit:=λ_=>lI _)) λa w hI=>?_
   obtain⟨s',hI⟩:=hI
   dsimp only[List.set]at hI
   obtain⟨X',cap',rfl,hcap⟩:=Ay hI 0 rfl
   rw[<-ue]at hI
   refine cz ?_
   refine aj ?_
   refine GY hI 2 [] [] [Uc 0 34 _,Uc 1 27 _] (.k .z) (.aK (.t 1 (.kk .z))) ⟨bn,mv,trivial⟩ (.k .z) (.aK (.ek (.k .z))) λa w hI=>?_
   refine aj ?_
   exact GR ((k.1+1,X',cap')) (by(show k.1+1<=2); omega) hI ⟨Qf,trivial⟩ ⟨gc,gc,gc,gc,gc,trivial⟩ (by(show 2-(k.1+1)<2-k.1); omega)
  ·
   refine gz ?_
   refine bw ?_
   refine bw ?_
   refine cM ?_
   refine aj ?_
   obtain⟨k,X,cap⟩:=k
   obtain rfl:k=2:=by(have hk':k<=2:=hk); omega
   dsimp only at hI
   have hI:=JV hI 0 6 rfl (by kernel_rfl)
   dsimp only[List.eraseIdx]at hI
   refine eu hI 2 [Uc 0 35 _,Uc 1 2 _] (.k (.t 1 (.aK (.k .z)))) ⟨mv,mv,trivial⟩ (.d8 (.k .z)) λa w hI=>?_
   refine bL ?_
   exact dx hI rfl pC
noncomputable def uk (L:List Pt):List Pt:=mS (sL L) (rL L) L.length
theorem LB (h:xX L):K1 Tryz.prog 62 (lU L) (lU (uk L)):=by
 have k:=Pd h
 rw[<-Fx]at k
 exact k
structure Dr (K L:List Pt) (k l:Int):Prop where
 one:mK K k=0
 two:mK L l=0
 Vq:xX (K++L)
 Yj:(uk (K++L)).length<=10
theorem Ly {k l:Int} (h:Dr K L k l):K2 Tryz.prog 22 (rC K k) (rC L l) (fo (rC (uk (K++L)) (mU k l)) (pI 0)):=by
 intro M w0 v0 v1 hM hv0 gb
 have hK:=oa (gW h.one)
 have hL:=oa (gW h.two)
 have hf:=h.Yj
 have hE:∀i,mK (lY K L i) (if i=0 then k else l)=0:=λi=>by by_cases e:i=0<;>simp only[lY,e,if_true,if_false]; exact h.one; exact h.two
 have hT:∀i,(lY K L i).length<=1000:=λi=>by unfold lY; split<;>omega
 refine Dk (N:=43) Tryz.func22 rfl rfl rfl hM hv0 gb λa hI=>?_
 refine dQ hI 4 [⟨4,4,some 2,none,.ptr,71,2,true,pv _,[]⟩] [] [Uc 0 2 _,Uc 1 3 _,Uc 3 5 _] .z (.kk .z) ⟨EZ 2 true (hf:=iw _ _),EZ 2 true (hf:=iw _ _),rA [.n,.i],mv,trivial⟩ (.k .z) (.yw (.k .z)) λa w hI=>?_
 refine aU ?_
 refine dQ hI 5 [] [] [Uc 0 10 _,Uc 1 11 _,Uc 2 12 _,Uc 3 13 _,Uc 4 14 _] (.k .z) (.fS .z) ⟨ld,ld,SQ (zv:=.agg #[.slice none 0 0,.int .i64 0]) 71 [.slice none 0 0,.int .i64 0] (λi=>rC (lY K L i) (if i=0 then k else l)) (iw K k) (iw L l),ln,mv,trivial⟩ (.k .z) (.lN (.Ol .z)) λa w hI=>?_
 refine bN ?_
 refine GV [Vz 4 4 71 2 true _] [Uz 2 _,Uz 3 _,Uz 12 _,Uz 13 _] (λ(i:Nat)=>[]) (λ(i:Nat)=>[Uz 14 (pI (i:Int))]) (λ(i:Nat)=>i<=2) (λ(i:Nat)=>2-i) (0) (Nat.zero_le 2) hI ⟨vi,trivial⟩ ⟨gi,gi,gi,gi,gc,trivial⟩ ?_
 intro i a w hi hI
 refine dQ hI 1 [] [] [Uc 0 15 _] (.k .z) (.aK (.k .z)) ⟨bn,trivial⟩ (.k .z) (.aK (.kk .z)) λa w hI=>?_
 refine aU ?_
 refine sC hI (λt1=>?_) (λt1=>?_)
 ·
  refine bD ?_
  refine aj ?_
  refine aU ?_
  refine bN ?_
  refine dQ hI 4 [⟨7,7,some 2,none,.ptr,71,2,true,pv _,[(3,pv _)]⟩] [] [Uc 0 16 _,Uc 1 17 _] (.k .z) (.aK (.kk .z)) ⟨ix,ld,rA [.n,.i],nw,trivial⟩ (.k (.s .o .z)) (.aK (.lM .z)) λa w hI=>?_
  refine dQ hI 3 [] [] [Uc 0 18 _,Uc 1 19 _,Uc 2 8 _] (.k (.k .z)) (.aK (.k .z)) ⟨ld,vY kB (hφ:=hT i),mv,trivial⟩ (.k (.d .z)) (.aK (.CA .z)) λa w hI=>?_
  refine dQ hI 2 [] [] [Uc 0 20 _,Uc 1 21 _] (.k .z) (.aK (.kk .z)) ⟨mv,bn,trivial⟩ (.k .z) (.aK (.ry .z)) λa w hI=>?_
  refine sC hI (λt2=>?_) (λt2=>?_)
  ·exfalso; exact t2 (hE i)
  refine bD ?_
  refine cz ?_
  refine aj ?_
  refine GY hI 2 [] [] [Uc 0 24 _,Uc 1 14 _] (.k .z) (.aK (.t 1 (.kk .z))) ⟨bn,mv,trivial⟩ (.k .z) (.aK (.ek (.k .z))) λa w hI=>?_
  refine aj ?_
  exact GR (i+1) (by omega) hI ⟨vc,trivial⟩ ⟨gc,gc,gc,gc,gc,trivial⟩ (by omega)
 ·
  refine gz ?_
  refine bw ?_
  refine bw ?_
  refine cM ?_
  refine aj ?_
  refine dQ hI 8 [] [] [Uc 0 25 _,Uc 1 26 _,Uc 2 27 _,Uc 3 28 _,Uc 4 29 _,Uc 5 30 _,Uc 6 31 _,Uc 7 9 _] (.k .z) (.aK (.kk .z)) ⟨fP 0 1 false,ld,fP 0 1 false,ld,SQ (zv:=.slice none 0 0) 69 [.slice none 0 0] (λi=>lU (lY K L i)) mN mN,vY (I1 (K:=K) (L:=L)) (hφ:=⟨by omega,by omega,by omega,by omega⟩),vY LB (hφ:=h.Vq),mv,trivial⟩ (.k .z) (.gX (.d8 (.dk .z))) λa w hI=>?_
  refine aU ?_
  refine dQ hI 3 [] [] [Uc 0 32 _,Uc 1 33 _,Uc 2 34 _] (.k .z) (.fS .z) ⟨mv,ln,bn,trivial⟩ (.k .z) (.lN (.dk .z)) λa w hI=>?_
  refine sC hI (λt3=>?_) (λt3=>?_)
  ·exfalso; omega
  refine bD ?_
  refine aj ?_
  refine dQ hI 9 [] [] [Uc 0 36 _,Uc 1 37 _,Uc 2 38 _,Uc 3 39 _,Uc 4 40 _,Uc 5 41 _,Uc 6 42 _,Uc 8 5 _] (.u none [(7,pv _)] .z) (.aK .z) ⟨mv,fP 1 1 false,ld,fP 1 1 false,ld,ZE,bd [.o .n,.o .i] [(0,_),(1,_)],nw,mv,trivial⟩ (.s .o .z) (.d8 (.gV .z)) λa w hI=>?_
  refine bL ?_
  exact qY hI rfl BQ pC
end Wx
