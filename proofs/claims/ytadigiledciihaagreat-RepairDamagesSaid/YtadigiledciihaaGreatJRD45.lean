import Derived.Test.YtadigiledciihaaGreatJRD39
import Derived.Test.YtadigiledciihaaGreatJRD44
namespace Wx
set_option maxRecDepth 100000
set_option maxHeartbeats 1000000
open Go Go.RowKit Go.Proofs
set_option linter.unusedVariables false
attribute [local irreducible] OpOk
def iN (O:List Pt) (p:Pt):Nat->Nat
 |0=>0
 |1=>1
 |n+2=>if bP (aq O n) (aq O (n+1)) p<=0 then iN O p (n+1)else n+2
theorem qU (O:List Pt) (p:Pt):∀n,iN O p n<=n
 |0=>Nat.le_refl _
 |1=>Nat.le_refl _
 |n+2=>by
  show(if bP (aq O n) (aq O (n+1)) p<=0 then iN O p (n+1)else n+2)<=_
  have:=qU O p (n+1)
  split<;>omega
variable {O:List Pt} {p:Pt} {n:Nat}
theorem Cp (h1:1<n) (h:bP (aq O (n-2)) (aq O (n-1)) p<=0):iN O p n=iN O p (n-1):=by
 obtain⟨m,rfl⟩:∃m,n=m+2:=⟨n-2,by omega⟩
 show(if bP (aq O m) (aq O (m+1)) p<=0 then iN O p (m+1)else m+2)=_
 rw[if_pos (show bP (aq O m) (aq O (m+1)) p<=0 from h)]
 rfl
theorem Co (h:¬(1<n/\bP (aq O (n-2)) (aq O (n-1)) p<=0)):iN O p n=n:=by
 match n,h with
 |0,_=>rfl
 |1,_=>rfl
 |m+2,h=>
  show(if bP (aq O m) (aq O (m+1)) p<=0 then iN O p (m+1)else m+2)=_
  exact if_neg λh2=>h ⟨by omega,h2⟩
def av (L:List Pt):Nat->List Pt
 |0=>[]
 |k+1=>(av L k).take (iN (av L k) (aq L k) (av L k).length)++[aq L k]
theorem qo (L:List Pt) (k:Nat):(av L (k+1)).length=iN (av L k) (aq L k) (av L k).length+1:=by
 show((av L k).take _++[aq L k]).length=_
 have:=qU (av L k) (aq L k) (av L k).length
 rw[List.length_append,List.length_take,Nat.min_eq_left this]
 rfl
theorem iH (L:List Pt):∀k,(av L k).length<=k
 |0=>Nat.le_refl _
 |k+1=>by
  rw[qo]
  have h1:=iH L k
  have h2:=qU (av L k) (aq L k) (av L k).length
  omega
theorem qp {L:List Pt} {x:Pt}:∀{k:Nat},x∈av L k->∃q,q<k/\x=aq L q
 |0,h=>by cases h
 |k+1,h=>by
  have h:x∈(av L k).take _++[aq L k]:=h
  rcases List.mem_append.1 h with h|h
  ·obtain⟨q,hq,e⟩:=qp (List.mem_of_mem_take h)
   exact⟨q,by omega,e⟩
  ·exact⟨k,by omega,List.mem_singleton.1 h⟩
theorem Fa {q:Nat} (h:q<O.length):aq O q∈O:=by
 unfold aq
 rw[List.getD_eq_getElem?_getD,List.getElem?_eq_getElem h]
 exact List.getElem_mem h
variable {L:List Pt}
theorem wv {B:Int} {k:Nat} (h:∀q,q<L.length->cU B (aq L q)) (hk:k<=L.length):∀q,q<(av L k).length->cU B (aq (av L k) q):=λq hq=>by
 obtain⟨j,hj,e⟩:=qp (Fa hq)
 rw[e]
 exact h j (by omega)
theorem Hj (hn:n<=O.length):∀i w v,(if i<n then dS (aq O i)else dS p) w v->i<n+1->dS (aq (O.take n++[p]) i) w v:=λi w v h hi=>by
 have hl:(O.take n).length=n:=by rw[List.length_take,Nat.min_eq_left hn]
 by_cases h1:i<n
 ·rw[if_pos h1]at h
  have e:aq (O.take n++[p]) i=aq O i:=by
   unfold aq
   rw[List.getD_eq_getElem?_getD,List.getD_eq_getElem?_getD,List.getElem?_append_left (by omega),List.getElem?_take,if_pos h1]
  rw[e]
  exact h
 ·rw[if_neg h1]at h
  obtain rfl:i=n:=by omega
  have e:aq (O.take i++[p]) i=p:=by
   unfold aq
   rw[List.getD_eq_getElem?_getD,List.getElem?_append_right (by omega),hl,Nat.sub_self]
   rfl
  rw[e]
  exact h
theorem wB (h:decide ((n:Int)>1)=true):1<n:=by have:=of_decide_eq_true h; omega
theorem NL {P:Program} {fn:Func} {w:World} {f:FuncId} {C:Code} {v0:Value} {M:Nat->Nat->Prop} {R:World->Ending->World->Prop} {p0:Pred} {N:Nat} (hf:P.funcs[f]?=some fn) (hb:fn.body=some C) (hN:fn.ntmps=N) (hlen:decide ([v0].length<=N)=true) (hM:dD M w) (h0:aN M (λw=>p0 w v0) w) (h:∀a,Inv ⟨N,w,M,λ_=>False⟩ [] [] [Uz 0 p0] none_ a w->C.ww none [] P (bodyPost P fn (R w)) a w):Calls P f #[v0] w (R w):=
 uo (vs:=[v0]) hf hb hN hlen hM (show dU M w [v0] [Uz 0 p0]from⟨⟨rfl,_,rfl,h0⟩,trivial⟩) λa hI=>(wpIn_wide (n:=0)).1 (wpIn_mono (h a hI 0) λe a' w' ⟨a0,e0,h0⟩=>by subst e0; exact h0)
theorem GN (h:2<=L.length/\L.length<=1000/\(∀q,q<L.length->cU 16777216 (aq L q))/\2<=(av L L.length).length):∀(M:Nat->Nat->Prop) (w:World) (v0:Value),dD M w->aN M (λw=>(gB L) w v0) w->Calls Tryz.prog 74 #[v0] w (ud 2 ((av L L.length).length-1) true 26 (λi=>dS (aq (av L L.length) i)) w):=by
 intro M w0 v0 hM hv0
 have hL:=h.2.1
 have hn:=h.2.2.1
 have h2:=h.2.2.2
 refine NL (N:=48) Tryz.func74 rfl rfl rfl hM hv0 λa hI=>?_
 refine bu hI 1 [Uc 0 2 _] (.k .z) ⟨mv,trivial⟩ (.kk .z) λa w hI=>?_
 refine bu hI 1 [Uc 0 3 _] (.kk .z) ⟨mv,trivial⟩ (.dQ .z) λa w hI=>?_
 have hI:=Nq (id:=48) (sz:=2) (ag:=true) (E:=26) (λi=>dS (aq (av L 0) i)) hI (by kernel_rfl)
 dsimp only[List.append,HAppend.hAppend,Append.append]at hI
 refine ay ?_
 refine bZ hI 3 [] [] [Uc 0 7 _,Uc 1 8 _,Uc 2 9 _] (.k .z) (.dQ .z) ⟨mv,ln,mv,trivial⟩ (.k .z) (.JU (.kk .z)) λa w hI=>?_
 refine aI ?_
 refine yz [] [Uz 2 _,Uz 7 _,Uz 8 _] (λ(k:Nat×Option Addr×Nat)=>[(kA 48 2 (av L k.1).length true 26 (λi=>dS (aq (av L k.1) i)) (.slice k.2.1 (av L k.1).length k.2.2))]) (λ(k:Nat×Option Addr×Nat)=>[Uz 9 (pI (k.1:Int)),Uz 3 (bK (.slice k.2.1 (av L k.1).length k.2.2))]) (λ(k:Nat×Option Addr×Nat)=>k.1<=L.length) (λ(k:Nat×Option Addr×Nat)=>L.length-k.1) ((0,none,0)) (Nat.zero_le _) hI ⟨Lx,trivial⟩ ⟨gi,gi,gi,gc,gc,trivial⟩ ?_
 intro k a w hk hI
 refine bZ hI 1 [] [] [Uc 0 10 _] (.k .z) (.aB (.k .z)) ⟨bn,trivial⟩ (.k .z) (.aB (.kk .z)) λa w hI=>?_
 refine ay ?_
 refine lN hI (λt1=>?_) (λt1=>?_)
 ·
  refine aD ?_
  refine ah ?_
  refine ay ?_
  refine aI ?_
  have hO:=wv hn hk
  have hle:=iH L k.1
  refine bZ hI 4 [⟨5,5,some 2,none,.ptr,26,2,true,pv _,[(3,pv _)]⟩] [] [Uc 0 11 _,Uc 1 12 _] (.k .z) (.aB (.kk .z)) ⟨ix,ld,xy [.i,.i],pz,trivial⟩ (.k (.s .o .z)) (.aB (.iv .z)) λa w hI=>?_
  refine ay ?_
  refine bZ hI 3 [] [] [Uc 0 13 _,Uc 1 14 _,Uc 2 6 _] (.k (.k .z)) (.aB (.k .z)) ⟨mv,Nj,mv,trivial⟩ (.k (.k .z)) (.aB (.uN .z)) λa w hI=>?_
  refine aI ?_
  refine yz [Vz 5 5 26 2 true _] [Uz 2 _,Uz 7 _,Uz 8 _,Uz 9 _] (λ(n:Nat)=>[(kA 48 2 n true 26 (λi=>dS (aq (av L k.1) i)) (.slice k.2.1 n k.2.2))]) (λ(n:Nat)=>[Uz 6 (pI (n:Int)),Uz 3 (bK (.slice k.2.1 n k.2.2))]) (λ(n:Nat)=>n<=(av L k.1).length/\iN (av L k.1) (aq L k.1) (av L k.1).length=iN (av L k.1) (aq L k.1) n) (λ(n:Nat)=>n) ((av L k.1).length) ⟨Nat.le_refl _,rfl⟩ hI ⟨vi,Lx,trivial⟩ ⟨gi,gi,gi,gi,gc,gc,trivial⟩ ?_
  intro n a w hi hI
  refine ay ?_
  refine F9 hI [0,1,3,7,7,23,63,127,7,7,519,1799,3847,7,16383,32767,65535] [] [] [Uc 0 15 _,Uc 1 16 _,Uc 2 17 _,Uc 3 18 _,Uc 4 19 _,Uc 5 20 _,Uc 6 21 _,Uc 7 22 _,Uc 8 23 _,Uc 9 24 _,Uc 10 25 _,Uc 11 26 _,Uc 12 27 _,Uc 13 28 _,Uc 14 29 _,Uc 15 30 _,Uc 16 31 _] (.k (.k .z)) (.aB (.kk .z)) ⟨mv,bn,mv,gd λh=>mG h,gd λh=>mG h,gd λh=>su h,gd λh=>ID h 48 (n-2) (hk:=by have:=wB h; omega) (hq:=by have:=wB h; omega),gd λh=>IE h 48 (hq:=by have:=wB h; omega) (hn:=eH _),gd λh=>mG h,gd λh=>mG h,gd λh=>su h,gd λh=>ID h 48 (n-1) (hk:=by have:=wB h; omega) (hq:=by have:=wB h; omega),gd λh=>IE h 48 (hq:=by have:=wB h; omega) (hn:=eH _),gd λh=>mR h,gd λh=>J4 h zm (hφ:=⟨hO _ (by have:=wB h; omega),hO _ (by have:=wB h; omega),hn _ (by omega)⟩),gd λh=>su h,pk,trivial⟩ (.k (.k .z)) (.aB (.eO (.d8 (.dH (.uu .z))))) λa w hI=>?_
  refine Ab hI (λt2=>?_) (λt2=>?_)
  ·
   refine aD ?_
   refine ah ?_
   refine ay ?_
   refine aI ?_
   obtain⟨hp1,hp2⟩:1<n/\bP (aq (av L k.1) (n-2)) (aq (av L k.1) (n-1)) (aq L k.1)<=0:=by
    simp only[Bool.and_eq_true,decide_eq_true_eq]at t2
    exact⟨by omega,t2.2⟩
   refine Oh hI 5 3 [] [] [Uc 0 34 _,Uc 1 35 _,Uc 2 36 _] (.k (.k .z)) (.aB (.dQ .z)) ⟨mv,mv,bn,trivial⟩ (.k (.k .z)) (.aB (.ig (.dk .z))) (Iq (n0:=1) (n-1) (hnf:=λ_=>eH _)) λa w hI=>?_
   dsimp only[List.set]at hI
   refine bw ?_
   refine ah ?_
   refine Dg hI 3 [] [] [Uc 0 32 _,Uc 1 33 _,Uc 2 6 _] (.k (.k .z)) (.aB (.dQ .z)) ⟨mv,Nj,mv,trivial⟩ (.k (.k .z)) (.aB (.iv (.dk .z))) λa w hI=>?_
   refine ah ?_
   exact yy (n-1) ⟨by omega,by rw[hi.2]; exact Cp hp1 hp2⟩ hI ⟨vc,Lx,trivial⟩ ⟨gc,gc,gc,gc,gc,gc,trivial⟩ (by omega)
  ·
   refine cL ?_
   refine aG ?_
   refine aG ?_
   refine bq ?_
   refine ah ?_
   have hkn:iN (av L k.1) (aq L k.1) n=n:=Co λhh=>by
    simp only[Bool.and_eq_false_iff,decide_eq_false_iff_not]at t2
    omega
   have hnl:n<=(av L k.1).length:=hi.1
   have hlen:n+1=(av L (k.1+1)).length:=by rw[qo,hi.2,hkn]
   have zh:(av L k.1).take n++[aq L k.1]=av L (k.1+1):=by rw[<-hkn,<-hi.2]; rfl
   refine Oh hI 5 3 [] [] [Uc 0 38 _,Uc 1 39 _,Uc 2 40 _] (.k (.k .z)) (.aB (.dQ .z)) ⟨mv,ld,SZ 26,trivial⟩ (.d (.k .z)) (.aB (.ig (.dk .z))) (OO (n0:=0) (λi=>dS (aq (av L (k.1+1)) i)) (zh▸Hj (O:=av L k.1) hnl) (hnf:=λ_=>eH _) (hnp:=eH _) (hfit:=jk _)) λa w hI=>?_
   obtain⟨s',hI⟩:=hI
   dsimp only[List.set]at hI
   obtain⟨X',cap',rfl,hcap⟩:=wS hI 0 rfl
   refine bw ?_
   refine ah ?_
   refine Dg hI 2 [] [] [Uc 0 42 _,Uc 1 9 _] (.k .z) (.aB (.t 1 (.kk .z))) ⟨bn,mv,trivial⟩ (.k .z) (.aB (.dH (.k .z))) λa w hI=>?_
   refine ah ?_
   rw[hlen]at hI
   exact yy ((k.1+1,X',cap')) (by(show k.1+1<=L.length); omega) hI ⟨Lx,trivial⟩ ⟨gc,gc,gc,gc,gc,trivial⟩ (by(show L.length-(k.1+1)<L.length-k.1); omega)
 ·
  refine cL ?_
  refine aG ?_
  refine aG ?_
  refine bq ?_
  refine ah ?_
  obtain⟨k,X,cap⟩:=k
  obtain rfl:k=L.length:=by(have hk':k<=L.length:=hk); omega
  dsimp only at hI
  have hle:=iH L L.length
  refine yl hI 6 4 [] [] [Uc 0 43 _,Uc 1 44 _,Uc 2 45 _,Uc 3 46 _] (.k .z) (.aB (.kk .z)) ⟨mv,mv,Nj,bn,trivial⟩ (.k .z) (.dH (.JS (.dk .z))) (Iq (n0:=0) ((av L L.length).length-1) (hnf:=λ_=>eH _)) λa w hI=>?_
  dsimp only[List.set]at hI
  refine aM ?_
  exact OX (n0:=0) hI rfl rfl (by omega)
end Wx

namespace Wx
set_option maxRecDepth 100000
set_option maxHeartbeats 1000000
open Go Go.RowKit Go.Proofs
set_option linter.unusedVariables false
attribute [local irreducible] OpOk
variable {L:List Pt}
theorem Et (h:0<L.length/\L.length<=1000000):∀(M:Nat->Nat->Prop) (w:World) (v0:Value),dD M w->aN M (λw=>(ck 2 true L.length λi=>dS (aq L i)) w v0) w->Calls Tryz.prog 70 #[v0] w (Gc 2 L.length true (λi=>dS (aq L i)) w):=by
 intro M w0 v0 hM hv0
 refine NL (N:=8) Tryz.func70 rfl rfl rfl hM hv0 λa hI=>?_
 refine bu hI 1 [Uc 0 2 _] (.k .z) ⟨mv,trivial⟩ (.kk .z) λa w hI=>?_
 refine ay ?_
 refine bu hI 2 [Uc 0 3 _,Uc 1 4 _] (.kk .z) ⟨mv,CM (E:=26) hs h.1 (by kernel_rfl) (pt rfl),trivial⟩ (.mY .z) λa w hI=>?_
 refine UL hI (rfl) ?_
 refine aD ?_
 refine ah ?_
 refine bZ hI 4 [⟨7,7,some 2,some 3,.grow (L.length) 2,26,3,true,pv fk,[]⟩,⟨2,2,some 3,none,.grow (L.length) 2,26,3,true,pv fk,[]⟩] [] [Uc 0 5 _,Uc 1 6 _,Uc 2 7 _,Uc 3 2 _] .z (.k (.t 3 (.k .z))) ⟨SY (sz:=2) 26,mv,SS (F:=dS) (e:=λk=>aq L k) L (0,0) jk (hn:=h.1) (hmax:=by omega),SU,trivial⟩ (.d (.k .z)) (.dH (.uu .z)) λa w hI=>?_
 refine aM ?_
 exact OY hI rfl (n0:=0) rfl h.1 (k:=0) rfl
variable {m n:Nat}
theorem Cr {b cap:Nat} (h:2<=n/\n<=1000/\n*2<=m/\∀k,1<=k->k<n->aq L k≠aq L (k-1)):∀(M:Nat->Nat->Prop) (w:World) (v0:Value),dD M w->(∀o,¬M b o)->One b m (E5 n L) w->aN (jM M b) (λw=>bK (.slice (some ⟨b,0,none⟩) n cap) w v0) w->Calls Tryz.prog 73 #[v0] w (ue M b m (bK (.slice (some ⟨b,0,none⟩) n cap)) (E5 n L) w):=by
 obtain⟨h1,h2,h3,hne⟩:=h
 intro M w0 v0 hM Ps h0 hv0
 refine QY (N:=61) Tryz.func73 rfl rfl hM Ps (fg λ_=>eH _) h0 hv0 λa hI=>?_
 refine bZ hI 1 [] [] [Uc 0 2 _] (.k .z) (.k .z) ⟨mv,trivial⟩ (.k .z) (.kk .z) λa w hI=>?_
 refine ay ?_
 refine bZ hI 3 [] [] [Uc 0 6 _,Uc 1 7 _,Uc 2 8 _] (.k .z) (.kk .z) ⟨mv,Nj,bn,trivial⟩ (.k .z) (.eO (.k .z)) λa w hI=>?_
 refine lN hI (λt1=>?_) (λt1=>?_)
 ·exfalso; omega
 refine aD ?_
 refine ah ?_
 refine ay ?_
 refine bZ hI 1 [] [] [Uc 0 3 _] (.k .z) (.dQ .z) ⟨mv,trivial⟩ (.k .z) (.mY .z) λa w hI=>?_
 refine aI ?_
 refine yz [dY 61 b m _] [Uz 0 _] (λ(k:Nat)=>[]) (λ(k:Nat)=>[Uz 3 (pI (k:Int))]) (λ(k:Nat)=>1<=k/\k<=n) (λ(k:Nat)=>n-k) (1) (by omega) hI ⟨vO,trivial⟩ ⟨gi,gc,trivial⟩ ?_
 intro k a w hk hI
 refine ay ?_
 refine bZ hI 4 [] [] [Uc 0 10 _,Uc 1 11 _,Uc 2 12 _,Uc 3 13 _] (.k .z) (.kk .z) ⟨mv,mv,Nj,bn,trivial⟩ (.k .z) (.eO (.dk .z)) λa w hI=>?_
 refine lN hI (λt2=>?_) (λt2=>?_)
 ·
  refine aD ?_
  refine ah ?_
  refine ay ?_
  refine aI ?_
  refine F9 hI [0,0,3,7,0,0,32,112,240,511] [] [] [Uc 0 16 _,Uc 1 17 _,Uc 2 18 _,Uc 3 19 _,Uc 4 20 _,Uc 5 21 _,Uc 6 22 _,Uc 7 23 _,Uc 8 24 _,Uc 9 25 _] (.k .z) (.dQ .z) ⟨mv,mv,iX 2 k,R9 61 k,mv,mv,bn,iX 2 (k-1),R9 61 (k-1),S6,trivial⟩ (.k .z) (.eO (.d8 (.k .z))) λa w hI=>?_
  refine lN hI (λt3=>?_) (λt3=>?_)
  ·exfalso; exact hne k (by omega) (by omega) t3
  refine aD ?_
  refine bw ?_
  refine ah ?_
  refine Dg hI 3 [] [] [Uc 0 14 _,Uc 1 15 _,Uc 2 3 _] (.k .z) (.k (.t 2 (.k .z))) ⟨mv,bn,mv,trivial⟩ (.k .z) (.iv (.dk .z)) λa w hI=>?_
  refine ah ?_
  exact yy (k+1) (by omega) hI ⟨vO,trivial⟩ ⟨gc,gc,trivial⟩ (by omega)
 ·
  refine cL ?_
  refine aG ?_
  refine aG ?_
  refine bq ?_
  refine ah ?_
  refine bZ hI 2 [] [] [Uc 0 60 _,Uc 1 2 _] (.k .z) (.dQ .z) ⟨mv,mv,trivial⟩ (.k .z) (.dH (.k .z)) λa w hI=>?_
  refine aM ?_
  exact Mb (n0:=0) hI rfl rfl
theorem C6:(nF n L).length=n:=by
 unfold nF rM
 rw[List.length_map]
 show(List.mergeSort _ _).length=n
 rw[List.length_mergeSort,Array.length_toList,ct]
variable {i:Nat}
theorem zM {d:Array BR} (h:i<d.size):cU 16777216 (aq (rM d) i):=by
 rw[<-tS h]
 exact(d[i]!).h
theorem mC:∀q,q<n->cU 16777216 (aq (nF n L) q):=λq hq=>by
 unfold nF
 refine zM ?_
 rw[List.size_toArray,List.length_mergeSort,Array.length_toList,ct]
 exact hq
abbrev Ho (n:Nat) (S:List Pt):List Pt:=(List.range n).map λi=>aq S (n-1-i)
variable {S:List Pt}
theorem Fk:(Ho n S).length=n:=by rw[List.length_map,List.length_range]
theorem Hp (h:i<n):aq (Ho n S) i=aq S (n-1-i):=by
 unfold aq
 rw[List.getD_eq_getElem?_getD,List.getElem?_map,List.getElem?_range h]
 rfl
theorem xj (hl:S.length=n) (h:2<=n/\n<=1000/\(∀q,q<n->cU 16777216 (aq S q))/\2<=(av S n).length):∀(M:Nat->Nat->Prop) (w:World) (v0:Value),dD M w->aN M (λw=>ck 2 true n (λi=>dS (aq S i)) w v0) w->Calls Tryz.prog 74 #[v0] w (ud 2 ((av S n).length-1) true 26 (λi=>dS (aq (av S n) i)) w):=by
 subst hl
 exact GN h
def kD (S R:List Pt) (n:Nat):List Pt:=(av S n).take ((av S n).length-1)++(av R n).take ((av R n).length-1)
variable {R:List Pt}
theorem Cj:(kD S R n).length=(av S n).length-1+((av R n).length-1):=by
 unfold kD
 rw[List.length_append,List.length_take,List.length_take,Nat.min_eq_left (Nat.sub_le _ _),Nat.min_eq_left (Nat.sub_le _ _)]
theorem Bt {O:List Pt} (h:i<m):aq (O.take m) i=aq O i:=by
 unfold aq
 rw[List.getD_eq_getElem?_getD,List.getD_eq_getElem?_getD,List.getElem?_take,if_pos h]
theorem Eh:∀i w v,(if i<(av S n).length-1 then dS (aq (av S n) i)else dS (aq (av R n) (i-((av S n).length-1)))) w v->i<(av S n).length-1+((av R n).length-1)->dS (aq (kD S R n) i) w v:=λi w v h hi=>by
 have hl:((av S n).take ((av S n).length-1)).length=(av S n).length-1:=by rw[List.length_take,Nat.min_eq_left (Nat.sub_le _ _)]
 by_cases h1:i<(av S n).length-1
 ·rw[if_pos h1]at h
  have e:aq (kD S R n) i=aq (av S n) i:=by
   rw[<-Bt (O:=av S n) h1]
   unfold aq kD
   rw[List.getD_eq_getElem?_getD,List.getD_eq_getElem?_getD,List.getElem?_append_left (by omega)]
  rw[e]
  exact h
 ·rw[if_neg h1]at h
  have e:aq (kD S R n) i=aq (av R n) (i-((av S n).length-1)):=by
   rw[<-Bt (O:=av R n) (m:=(av R n).length-1) (by omega)]
   unfold aq kD
   rw[List.getD_eq_getElem?_getD,List.getD_eq_getElem?_getD,List.getElem?_append_right (by omega),hl]
  rw[e]
  exact h
abbrev Bq (L:List Pt):Prop:=∀q,q<L.length->cU 16777216 (aq L q)
noncomputable abbrev sL (L:List Pt):List Pt:=nF L.length L
noncomputable abbrev rL (L:List Pt):List Pt:=Ho L.length (sL L)
structure ua (L:List Pt):Prop where
 two:2<=L.length
 max:L.length<=1000
 near:Bq L
 ne:∀k,1<=k->k<L.length->aq (sL L) k≠aq (sL L) (k-1)
 lo:2<=(av (sL L) L.length).length
 up:2<=(av (rL L) L.length).length
theorem KD (h:ua L):K1 Tryz.prog 35 (gB L) (ck 2 true ((av (sL L) L.length).length-1+((av (rL L) L.length).length-1)) λi=>dS (aq (kD (sL L) (rL L) L.length) i)):=by
 intro M w0 v0 hM hv0
 have h2:=h.two
 have hm:=h.max
 have hlo:=h.lo
 have R3:=h.up
 have uF:=iH (sL L) L.length
 have hl2:=iH (rL L) L.length
 have F0:∀q,q<L.length->cU 16777216 (aq (rL L) q):=λq hq=>by rw[Hp hq]; exact mC _ (by omega)
 refine vK (N:=21) Tryz.func35 rfl rfl rfl hM hv0 λa hI=>?_
 refine bu hI 1 [Uc 0 2 _] (.k .z) ⟨mv,trivial⟩ (.kk .z) λa w hI=>?_
 refine yl hI 3 1 [] [] [Uc 0 5 _] .z (.kk .z) ⟨mv,trivial⟩ .z (.Lk .z) (S5 (Et (L:=L)) ⟨by omega,by omega⟩ (λ_=>eH _)) λa w hI=>?_
 obtain⟨b6,c6,RN,hI⟩:=hI
 refine yl hI 2 1 [] [] [Uc 0 7 _] (.k .z) (.dQ .z) ⟨mv,trivial⟩ (.k .z) (.mY .z) ⟨_,S1 (n0:=0) (KE (L:=L) (b:=b6) (n:=L.length) (N:=c6*2) (c:=c6)) (c1:=λ_ _ h=>h) (c2:=λ_ _ h=>h) (hφ:=⟨h.near,hm,by omega⟩) (hp:=bY _) (hq:=fg λ_=>eH _),rfl⟩ λa w hI=>?_
 dsimp only[List.set]at hI
 refine yl hI 3 1 [] [] [Uc 0 9 _] (.k .z) (.aB .z) ⟨mv,trivial⟩ (.k .z) (.JS (.k .z)) (OP (n0:=0) (Cr (L:=sL L) (b:=b6) (m:=c6*2) (n:=L.length) (cap:=c6)) ⟨h2,hm,by omega,h.ne⟩ (fg λ_=>eH _) (c1:=λ_ _ h=>h)) λa w hI=>?_
 dsimp only[List.set]at hI
 refine bZ hI 1 [] [] [Uc 0 3 _] (.k .z) (.dQ .z) ⟨mv,trivial⟩ (.k .z) (.mY .z) λa w hI=>?_
 refine yl hI 4 2 [] [] [Uc 0 11 _,Uc 1 12 _] (.k .z) (.dQ .z) ⟨mv,mv,trivial⟩ (.k .z) (.aB (.k .z)) (S4 (n0:=0) (xj (S:=sL L) C6) ⟨h2,hm,mC,hlo⟩ (λ_=>eH _) (hc:=RN)) λa w hI=>?_
 obtain⟨b13,c13,Tv,hI⟩:=hI
 refine yl hI 2 1 [] [] [Uc 0 14 _] (.k (.k .z)) (.aB (.kk .z)) ⟨mv,trivial⟩ (.k (.k .z)) (.aB (.uu .z)) ⟨_,Rp (n0:=1) (Ct (L:=sL L) (b:=b6) (n:=L.length) (N:=c6*2) (c:=c6)) (c1:=λ_ _ h=>h) (hφ:=⟨hm,by omega,mC⟩) (hp:=bY _) (hq:=fg λ_=>eH _),rfl⟩ λa w hI=>?_
 dsimp only[List.set]at hI
 refine yl hI 6 4 [] [] [Uc 0 16 _,Uc 1 17 _,Uc 2 18 _,Uc 3 19 _] (.k (.k .z)) (.aB (.kk .z)) ⟨mv,mv,mv,S2 (xj (S:=rL L) Fk) 6 ⟨h2,hm,F0,R3⟩ (λ_=>eH _) (hcap:=RN),trivial⟩ (.k (.k .z)) (.dH (.JS (.dk .z))) (Ir (n0:=0) (λi=>dS (aq (kD (sL L) (rL L) L.length) i)) Eh (by omega) (hnf:=λ_=>eH _) (hng:=λ_=>eH _) (hfit:=λ_=>jk _)) λa w hI=>?_
 obtain⟨s',hI⟩:=hI
 dsimp only[List.set]at hI
 have hI:=Fi hI 0 2 rfl (by kernel_rfl)
 dsimp only[List.eraseIdx]at hI
 refine aM ?_
 exact cN hI rfl iE
end Wx
