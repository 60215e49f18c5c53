import Derived.Test.YtadigiledciihaaGreatJRB39
import Derived.Test.YtadigiledciihaaGreatJRB43
namespace Wx
set_option maxRecDepth 100000
set_option maxHeartbeats 1000000
open Go Go.RowKit Go.Proofs
set_option linter.unusedVariables false
attribute [local irreducible] OpOk
def jv (O:List Pt) (p:Pt):Nat->Nat
 |0=>0
 |1=>1
 |n+2=>if gp (aA O n) (aA O (n+1)) p<=0 then jv O p (n+1)else n+2
theorem sH (O:List Pt) (p:Pt):∀n,jv O p n<=n
 |0=>Nat.le_refl _
 |1=>Nat.le_refl _
 |n+2=>by
  show(if gp (aA O n) (aA O (n+1)) p<=0 then jv O p (n+1)else n+2)<=_
  have:=sH O p (n+1)
  split<;>omega
variable {O:List Pt} {p:Pt} {n:Nat}
theorem Dx (h1:1<n) (h:gp (aA O (n-2)) (aA O (n-1)) p<=0):jv O p n=jv O p (n-1):=by
 obtain⟨m,rfl⟩:∃m,n=m+2:=⟨n-2,by omega⟩
 show(if gp (aA O m) (aA O (m+1)) p<=0 then jv O p (m+1)else m+2)=_
 rw[if_pos (show gp (aA O m) (aA O (m+1)) p<=0 from h)]
 rfl
theorem Dw (h:¬(1<n/\gp (aA O (n-2)) (aA O (n-1)) p<=0)):jv O p n=n:=by
 match n,h with
 |0,_=>rfl
 |1,_=>rfl
 |m+2,h=>
  show(if gp (aA O m) (aA O (m+1)) p<=0 then jv O p (m+1)else m+2)=_
  exact if_neg λh2=>h ⟨by omega,h2⟩
def av (L:List Pt):Nat->List Pt
 |0=>[]
 |k+1=>(av L k).take (jv (av L k) (aA L k) (av L k).length)++[aA L k]
theorem rM (L:List Pt) (k:Nat):(av L (k+1)).length=jv (av L k) (aA L k) (av L k).length+1:=by
 show((av L k).take _++[aA L k]).length=_
 have:=sH (av L k) (aA L k) (av L k).length
 rw[List.length_append,List.length_take,Nat.min_eq_left this]
 rfl
theorem jq (L:List Pt):∀k,(av L k).length<=k
 |0=>Nat.le_refl _
 |k+1=>by
  rw[rM]
  have h1:=jq L k
  have h2:=sH (av L k) (aA L k) (av L k).length
  omega
theorem rN {L:List Pt} {x:Pt}:∀{k:Nat},x∈av L k->∃q,q<k/\x=aA L q
 |0,h=>by cases h
 |k+1,h=>by
  have h:x∈(av L k).take _++[aA L k]:=h
  rcases List.mem_append.1 h with h|h
  ·obtain⟨q,hq,e⟩:=rN (List.mem_of_mem_take h)
   exact⟨q,by omega,e⟩
  ·exact⟨k,by omega,List.mem_singleton.1 h⟩
theorem GG {q:Nat} (h:q<O.length):aA O q∈O:=by
 unfold aA
 rw[List.getD_eq_getElem?_getD,List.getElem?_eq_getElem h]
 exact List.getElem_mem h
variable {L:List Pt}
theorem xY {B:Int} {k:Nat} (h:∀q,q<L.length->fu B (aA L q)) (hk:k<=L.length):∀q,q<(av L k).length->fu B (aA (av L k) q):=λq hq=>by
 obtain⟨j,hj,e⟩:=rN (GG hq)
 rw[e]
 exact h j (by omega)
theorem Jy (hn:n<=O.length):∀i w v,(if i<n then fq (aA O i)else fq p) w v->i<n+1->fq (aA (O.take n++[p]) i) w v:=λi w v h hi=>by
 have hl:(O.take n).length=n:=by rw[List.length_take,Nat.min_eq_left hn]
 by_cases h1:i<n
 ·rw[if_pos h1]at h
  have e:aA (O.take n++[p]) i=aA O i:=by
   unfold aA
   rw[List.getD_eq_getElem?_getD,List.getD_eq_getElem?_getD,List.getElem?_append_left (by omega),List.getElem?_take,if_pos h1]
  rw[e]
  exact h
 ·rw[if_neg h1]at h
  obtain rfl:i=n:=by omega
  have e:aA (O.take i++[p]) i=p:=by
   unfold aA
   rw[List.getD_eq_getElem?_getD,List.getElem?_append_right (by omega),hl,Nat.sub_self]
   rfl
  rw[e]
  exact h
theorem yb (h:decide ((n:Int)>1)=true):1<n:=by have:=of_decide_eq_true h; omega
theorem PL {P:Program} {fn:Func} {w:World} {f:FuncId} {C:Code} {v0:Value} {M:Nat->Nat->Prop} {R:World->Ending->World->Prop} {p0:Pred} {N:Nat} (hf:P.funcs[f]?=some fn) (hb:fn.body=some C) (hN:fn.ntmps=N) (hlen:decide ([v0].length<=N)=true) (hM:dR M w) (h0:aQ M (λw=>p0 w v0) w) (h:∀a,Inv ⟨N,w,M,λ_=>False⟩ [] [] [Uz 0 p0] none_ a w->C.ww none [] P (bodyPost P fn (R w)) a w):Calls P f #[v0] w (R w):=
 wk (vs:=[v0]) hf hb hN hlen hM (show eF M w [v0] [Uz 0 p0]from⟨⟨rfl,_,rfl,h0⟩,trivial⟩) λa hI=>(wpIn_wide (n:=0)).1 (wpIn_mono (h a hI 0) λe a' w' ⟨a0,e0,h0⟩=>by subst e0; exact h0)
theorem I3 (h:2<=L.length/\L.length<=1000/\(∀q,q<L.length->fu 16777216 (aA L q))/\2<=(av L L.length).length):∀(M:Nat->Nat->Prop) (w:World) (v0:Value),dR M w->aQ M (λw=>(kz L) w v0) w->Calls Tryz.prog 74 #[v0] w (vU 2 ((av L L.length).length-1) true 26 (λi=>fq (aA (av L L.length) i)) w):=by
 intro M w0 v0 hM hv0
 have hL:=h.2.1
 have hn:=h.2.2.1
 have h2:=h.2.2.2
 refine PL (N:=48) Tryz.func74 rfl rfl rfl hM hv0 λa hI=>?_
 refine cK hI 1 [Uc 0 2 _] (.k .z) ⟨mv,trivial⟩ (.kk .z) λa w hI=>?_
 refine cK hI 1 [Uc 0 3 _] (.kk .z) ⟨mv,trivial⟩ (.eH .z) λa w hI=>?_
 have hI:=Pn (id:=48) (sz:=2) (ag:=true) (E:=26) (λi=>fq (aA (av L 0) i)) hI (by kernel_rfl)
 dsimp only[List.append,HAppend.hAppend,Append.append]at hI
 refine ax ?_
 refine bN hI 3 [] [] [Uc 0 7 _,Uc 1 8 _,Uc 2 9 _] (.k .z) (.eH .z) ⟨mv,ln,mv,trivial⟩ (.k .z) (.Df (.kk .z)) λa w hI=>?_
 refine aN ?_
 refine BF [] [Uz 2 _,Uz 7 _,Uz 8 _] (λ(k:Nat×Option Addr×Nat)=>[(lC 48 2 (av L k.1).length true 26 (λi=>fq (aA (av L k.1) i)) (.slice k.2.1 (av L k.1).length k.2.2))]) (λ(k:Nat×Option Addr×Nat)=>[Uz 9 (pI (k.1:Int)),Uz 3 (bR (.slice k.2.1 (av L k.1).length k.2.2))]) (λ(k:Nat×Option Addr×Nat)=>k.1<=L.length) (λ(k:Nat×Option Addr×Nat)=>L.length-k.1) ((0,none,0)) (Nat.zero_le _) hI ⟨Ny,trivial⟩ ⟨gi,gi,gi,gc,gc,trivial⟩ ?_
 intro k a w hk hI
 refine bN hI 1 [] [] [Uc 0 10 _] (.k .z) (.aB (.k .z)) ⟨bn,trivial⟩ (.k .z) (.aB (.kk .z)) λa w hI=>?_
 refine ax ?_
 refine mJ hI (λt1=>?_) (λt1=>?_)
 ·
  refine aF ?_
  refine ai ?_
  refine ax ?_
  refine aN ?_
  have hO:=xY hn hk
  have hle:=jq L k.1
  refine bN hI 4 [⟨5,5,some 2,none,.ptr,26,2,true,pv _,[(3,pv _)]⟩] [] [Uc 0 11 _,Uc 1 12 _] (.k .z) (.aB (.kk .z)) ⟨ix,ld,qw [.i,.i],lS,trivial⟩ (.k (.s .o .z)) (.aB (.ju .z)) λa w hI=>?_
  refine ax ?_
  refine bN hI 3 [] [] [Uc 0 13 _,Uc 1 14 _,Uc 2 6 _] (.k (.k .z)) (.aB (.k .z)) ⟨mv,Pe,mv,trivial⟩ (.k (.k .z)) (.aB (.Dv .z)) λa w hI=>?_
  refine aN ?_
  refine BF [Vz 5 5 26 2 true _] [Uz 2 _,Uz 7 _,Uz 8 _,Uz 9 _] (λ(n:Nat)=>[(lC 48 2 n true 26 (λi=>fq (aA (av L k.1) i)) (.slice k.2.1 n k.2.2))]) (λ(n:Nat)=>[Uz 6 (pI (n:Int)),Uz 3 (bR (.slice k.2.1 n k.2.2))]) (λ(n:Nat)=>n<=(av L k.1).length/\jv (av L k.1) (aA L k.1) (av L k.1).length=jv (av L k.1) (aA L k.1) n) (λ(n:Nat)=>n) ((av L k.1).length) ⟨Nat.le_refl _,rfl⟩ hI ⟨vi,Ny,trivial⟩ ⟨gi,gi,gi,gi,gc,gc,trivial⟩ ?_
  intro n a w hi hI
  refine ax ?_
  refine Ib hI [0,1,3,7,7,23,63,127,7,7,519,1799,3847,7,16383,32767,65535] [] [] [Uc 0 15 _,Uc 1 16 _,Uc 2 17 _,Uc 3 18 _,Uc 4 19 _,Uc 5 20 _,Uc 6 21 _,Uc 7 22 _,Uc 8 23 _,Uc 9 24 _,Uc 10 25 _,Uc 11 26 _,Uc 12 27 _,Uc 13 28 _,Uc 14 29 _,Uc 15 30 _,Uc 16 31 _] (.k (.k .z)) (.aB (.kk .z)) ⟨mv,bn,mv,gd λh=>xF h,gd λh=>xF h,gd λh=>yB h,gd λh=>Kb h 48 (n-2) (hk:=by have:=yb h; omega) (hq:=by have:=yb h; omega),gd λh=>Kc h 48 (hq:=by have:=yb h; omega) (hn:=fF _),gd λh=>xF h,gd λh=>xF h,gd λh=>yB h,gd λh=>Kb h 48 (n-1) (hk:=by have:=yb h; omega) (hq:=by have:=yb h; omega),gd λh=>Kc h 48 (hq:=by have:=yb h; omega) (hn:=fF _),gd λh=>zS h,gd λh=>N7 h AK (hφ:=⟨hO _ (by have:=yb h; omega),hO _ (by have:=yb h; omega),hn _ (by omega)⟩),gd λh=>yB h,pk,trivial⟩ (.k (.k .z)) (.aB (.fM (.d8 (.cU (.tZ .z))))) λa w hI=>?_
  refine CS hI (λt2=>?_) (λt2=>?_)
  ·
   refine aF ?_
   refine ai ?_
   refine ax ?_
   refine aN ?_
   obtain⟨hp1,hp2⟩:1<n/\gp (aA (av L k.1) (n-2)) (aA (av L k.1) (n-1)) (aA L k.1)<=0:=by
    simp only[Bool.and_eq_true,decide_eq_true_eq]at t2
    exact⟨by omega,t2.2⟩
   refine Ql hI 5 3 [] [] [Uc 0 34 _,Uc 1 35 _,Uc 2 36 _] (.k (.k .z)) (.aB (.eH .z)) ⟨mv,mv,bn,trivial⟩ (.k (.k .z)) (.aB (.kM (.dk .z))) (J3 (n0:=1) (n-1) (hnf:=λ_=>fF _)) λa w hI=>?_
   dsimp only[List.set]at hI
   refine bK ?_
   refine ai ?_
   refine BH hI 3 [] [] [Uc 0 32 _,Uc 1 33 _,Uc 2 6 _] (.k (.k .z)) (.aB (.eH .z)) ⟨mv,Pe,mv,trivial⟩ (.k (.k .z)) (.aB (.ju (.dk .z))) λa w hI=>?_
   refine ai ?_
   exact AO (n-1) ⟨by omega,by rw[hi.2]; exact Dx hp1 hp2⟩ hI ⟨vc,Ny,trivial⟩ ⟨gc,gc,gc,gc,gc,gc,trivial⟩ (by omega)
  ·
   refine dJ ?_
   refine aM ?_
   refine aM ?_
   refine bI ?_
   refine ai ?_
   have hkn:jv (av L k.1) (aA L k.1) n=n:=Dw λhh=>by
    simp only[Bool.and_eq_false_iff,decide_eq_false_iff_not]at t2
    omega
   have hnl:n<=(av L k.1).length:=hi.1
   have hlen:n+1=(av L (k.1+1)).length:=by rw[rM,hi.2,hkn]
   have AE:(av L k.1).take n++[aA L k.1]=av L (k.1+1):=by rw[<-hkn,<-hi.2]; rfl
   refine Ql hI 5 3 [] [] [Uc 0 38 _,Uc 1 39 _,Uc 2 40 _] (.k (.k .z)) (.aB (.eH .z)) ⟨mv,ld,U0 26,trivial⟩ (.d (.k .z)) (.aB (.kM (.dk .z))) (QV (n0:=0) (λi=>fq (aA (av L (k.1+1)) i)) (AE▸Jy (O:=av L k.1) hnl) (hnf:=λ_=>fF _) (hnp:=fF _) (hfit:=ki _)) λa w hI=>?_
   obtain⟨s',hI⟩:=hI
   dsimp only[List.set]at hI
   obtain⟨X',cap',rfl,hcap⟩:=yC hI 0 rfl
   refine bK ?_
   refine ai ?_
   refine BH hI 2 [] [] [Uc 0 42 _,Uc 1 9 _] (.k .z) (.aB (.t 1 (.kk .z))) ⟨bn,mv,trivial⟩ (.k .z) (.aB (.cU (.k .z))) λa w hI=>?_
   refine ai ?_
   rw[hlen]at hI
   exact AO ((k.1+1,X',cap')) (by(show k.1+1<=L.length); omega) hI ⟨Ny,trivial⟩ ⟨gc,gc,gc,gc,gc,trivial⟩ (by(show L.length-(k.1+1)<L.length-k.1); omega)
 ·
  refine dJ ?_
  refine aM ?_
  refine aM ?_
  refine bI ?_
  refine ai ?_
  obtain⟨k,X,cap⟩:=k
  obtain rfl:k=L.length:=by(have hk':k<=L.length:=hk); omega
  dsimp only at hI
  have hle:=jq L L.length
  refine zM hI 6 4 [] [] [Uc 0 43 _,Uc 1 44 _,Uc 2 45 _,Uc 3 46 _] (.k .z) (.aB (.kk .z)) ⟨mv,mv,Pe,bn,trivial⟩ (.k .z) (.cU (.LF (.dk .z))) (J3 (n0:=0) ((av L L.length).length-1) (hnf:=λ_=>fF _)) λa w hI=>?_
  dsimp only[List.set]at hI
  refine aP ?_
  exact Q3 (n0:=0) hI rfl rfl (by omega)
end Wx

namespace Wx
set_option maxRecDepth 100000
set_option maxHeartbeats 1000000
open Go Go.RowKit Go.Proofs
set_option linter.unusedVariables false
attribute [local irreducible] OpOk
variable {L:List Pt}
theorem FW (h:0<L.length/\L.length<=1000000):∀(M:Nat->Nat->Prop) (w:World) (v0:Value),dR M w->aQ M (λw=>(bk 2 true L.length λi=>fq (aA L i)) w v0) w->Calls Tryz.prog 70 #[v0] w (Ig 2 L.length true (λi=>fq (aA L i)) w):=by
 intro M w0 v0 hM hv0
 refine PL (N:=8) Tryz.func70 rfl rfl rfl hM hv0 λa hI=>?_
 refine cK hI 1 [Uc 0 2 _] (.k .z) ⟨mv,trivial⟩ (.kk .z) λa w hI=>?_
 refine ax ?_
 refine cK hI 2 [Uc 0 3 _,Uc 1 4 _] (.kk .z) ⟨mv,D1 (E:=26) hs h.1 (by kernel_rfl) (pt rfl),trivial⟩ (.qL .z) λa w hI=>?_
 refine W5 hI (rfl) ?_
 refine aF ?_
 refine ai ?_
 refine bN hI 4 [⟨7,7,some 2,some 3,.grow (L.length) 2,26,3,true,pv dZ,[]⟩,⟨2,2,some 3,none,.grow (L.length) 2,26,3,true,pv dZ,[]⟩] [] [Uc 0 5 _,Uc 1 6 _,Uc 2 7 _,Uc 3 2 _] .z (.k (.t 3 (.k .z))) ⟨UZ (sz:=2) 26,mv,UW (F:=fq) (e:=λk=>aA L k) L (0,0) ki (hn:=h.1) (hmax:=by omega),QN,trivial⟩ (.d (.k .z)) (.cU (.tZ .z)) λa w hI=>?_
 refine aP ?_
 exact Q4 hI rfl (n0:=0) rfl h.1 (k:=0) rfl
variable {m n:Nat}
theorem Dz {b cap:Nat} (h:2<=n/\n<=1000/\n*2<=m/\∀k,1<=k->k<n->aA L k≠aA L (k-1)):∀(M:Nat->Nat->Prop) (w:World) (v0:Value),dR M w->(∀o,¬M b o)->One b m (Gx n L) w->aQ (kK M b) (λw=>bR (.slice (some ⟨b,0,none⟩) n cap) w v0) w->Calls Tryz.prog 73 #[v0] w (vV M b m (bR (.slice (some ⟨b,0,none⟩) n cap)) (Gx n L) w):=by
 obtain⟨h1,h2,h3,hne⟩:=h
 intro M w0 v0 hM RA h0 hv0
 refine S3 (N:=61) Tryz.func73 rfl rfl hM RA (gl λ_=>fF _) h0 hv0 λa hI=>?_
 refine bN hI 1 [] [] [Uc 0 2 _] (.k .z) (.k .z) ⟨mv,trivial⟩ (.k .z) (.kk .z) λa w hI=>?_
 refine ax ?_
 refine bN hI 3 [] [] [Uc 0 6 _,Uc 1 7 _,Uc 2 8 _] (.k .z) (.kk .z) ⟨mv,Pe,bn,trivial⟩ (.k .z) (.fM (.k .z)) λa w hI=>?_
 refine mJ hI (λt1=>?_) (λt1=>?_)
 ·exfalso; omega
 refine aF ?_
 refine ai ?_
 refine ax ?_
 refine bN hI 1 [] [] [Uc 0 3 _] (.k .z) (.eH .z) ⟨mv,trivial⟩ (.k .z) (.qL .z) λa w hI=>?_
 refine aN ?_
 refine BF [eL 61 b m _] [Uz 0 _] (λ(k:Nat)=>[]) (λ(k:Nat)=>[Uz 3 (pI (k:Int))]) (λ(k:Nat)=>1<=k/\k<=n) (λ(k:Nat)=>n-k) (1) (by omega) hI ⟨vO,trivial⟩ ⟨gi,gc,trivial⟩ ?_
 intro k a w hk hI
 refine ax ?_
 refine bN hI 4 [] [] [Uc 0 10 _,Uc 1 11 _,Uc 2 12 _,Uc 3 13 _] (.k .z) (.kk .z) ⟨mv,mv,Pe,bn,trivial⟩ (.k .z) (.fM (.dk .z)) λa w hI=>?_
 refine mJ hI (λt2=>?_) (λt2=>?_)
 ·
  refine aF ?_
  refine ai ?_
  refine ax ?_
  refine aN ?_
  refine Ib hI [0,0,3,7,0,0,32,112,240,511] [] [] [Uc 0 16 _,Uc 1 17 _,Uc 2 18 _,Uc 3 19 _,Uc 4 20 _,Uc 5 21 _,Uc 6 22 _,Uc 7 23 _,Uc 8 24 _,Uc 9 25 _] (.k .z) (.eH .z) ⟨mv,mv,iX 2 k,Uk 61 k,mv,mv,bn,iX 2 (k-1),Uk 61 (k-1),U9,trivial⟩ (.k .z) (.fM (.d8 (.k .z))) λa w hI=>?_
  refine mJ hI (λt3=>?_) (λt3=>?_)
  ·exfalso; exact hne k (by omega) (by omega) t3
  refine aF ?_
  refine bK ?_
  refine ai ?_
  refine BH hI 3 [] [] [Uc 0 14 _,Uc 1 15 _,Uc 2 3 _] (.k .z) (.k (.t 2 (.k .z))) ⟨mv,bn,mv,trivial⟩ (.k .z) (.ju (.dk .z)) λa w hI=>?_
  refine ai ?_
  exact AO (k+1) (by omega) hI ⟨vO,trivial⟩ ⟨gc,gc,trivial⟩ (by omega)
 ·
  refine dJ ?_
  refine aM ?_
  refine aM ?_
  refine bI ?_
  refine ai ?_
  refine bN hI 2 [] [] [Uc 0 60 _,Uc 1 2 _] (.k .z) (.eH .z) ⟨mv,mv,trivial⟩ (.k .z) (.cU (.k .z)) λa w hI=>?_
  refine aP ?_
  exact N5 (n0:=0) hI rfl rfl
theorem Ei:(oH n L).length=n:=by
 unfold oH tr
 rw[List.length_map]
 show(List.mergeSort _ _).length=n
 rw[List.length_mergeSort,Array.length_toList,cJ]
variable {i:Nat}
theorem Bj {d:Array C3} (h:i<d.size):fu 16777216 (aA (tr d) i):=by
 rw[<-vE h]
 exact(d[i]!).h
theorem nE:∀q,q<n->fu 16777216 (aA (oH n L) q):=λq hq=>by
 unfold oH
 refine Bj ?_
 rw[List.size_toArray,List.length_mergeSort,Array.length_toList,cJ]
 exact hq
abbrev JA (n:Nat) (S:List Pt):List Pt:=(List.range n).map λi=>aA S (n-1-i)
variable {S:List Pt}
theorem GN:(JA n S).length=n:=by rw[List.length_map,List.length_range]
theorem JB (h:i<n):aA (JA n S) i=aA S (n-1-i):=by
 unfold aA
 rw[List.getD_eq_getElem?_getD,List.getElem?_map,List.getElem?_range h]
 rfl
theorem yP (hl:S.length=n) (h:2<=n/\n<=1000/\(∀q,q<n->fu 16777216 (aA S q))/\2<=(av S n).length):∀(M:Nat->Nat->Prop) (w:World) (v0:Value),dR M w->aQ M (λw=>bk 2 true n (λi=>fq (aA S i)) w v0) w->Calls Tryz.prog 74 #[v0] w (vU 2 ((av S n).length-1) true 26 (λi=>fq (aA (av S n) i)) w):=by
 subst hl
 exact I3 h
def lF (S R:List Pt) (n:Nat):List Pt:=(av S n).take ((av S n).length-1)++(av R n).take ((av R n).length-1)
variable {R:List Pt}
theorem Dr:(lF S R n).length=(av S n).length-1+((av R n).length-1):=by
 unfold lF
 rw[List.length_append,List.length_take,List.length_take,Nat.min_eq_left (Nat.sub_le _ _),Nat.min_eq_left (Nat.sub_le _ _)]
theorem CE {O:List Pt} (h:i<m):aA (O.take m) i=aA O i:=by
 unfold aA
 rw[List.getD_eq_getElem?_getD,List.getD_eq_getElem?_getD,List.getElem?_take,if_pos h]
theorem FH:∀i w v,(if i<(av S n).length-1 then fq (aA (av S n) i)else fq (aA (av R n) (i-((av S n).length-1)))) w v->i<(av S n).length-1+((av R n).length-1)->fq (aA (lF S R n) i) w v:=λi w v h hi=>by
 have hl:((av S n).take ((av S n).length-1)).length=(av S n).length-1:=by rw[List.length_take,Nat.min_eq_left (Nat.sub_le _ _)]
 by_cases h1:i<(av S n).length-1
 ·rw[if_pos h1]at h
  have e:aA (lF S R n) i=aA (av S n) i:=by
   rw[<-CE (O:=av S n) h1]
   unfold aA lF
   rw[List.getD_eq_getElem?_getD,List.getD_eq_getElem?_getD,List.getElem?_append_left (by omega)]
  rw[e]
  exact h
 ·rw[if_neg h1]at h
  have e:aA (lF S R n) i=aA (av R n) (i-((av S n).length-1)):=by
   rw[<-CE (O:=av R n) (m:=(av R n).length-1) (by omega)]
   unfold aA lF
   rw[List.getD_eq_getElem?_getD,List.getD_eq_getElem?_getD,List.getElem?_append_right (by omega),hl]
  rw[e]
  exact h
abbrev CD (L:List Pt):Prop:=∀q,q<L.length->fu 16777216 (aA L q)
noncomputable abbrev sL (L:List Pt):List Pt:=oH L.length L
noncomputable abbrev rL (L:List Pt):List Pt:=JA L.length (sL L)
structure vS (L:List Pt):Prop where
 two:2<=L.length
 max:L.length<=1000
 near:CD L
 ne:∀k,1<=k->k<L.length->aA (sL L) k≠aA (sL L) (k-1)
 lo:2<=(av (sL L) L.length).length
 up:2<=(av (rL L) L.length).length
theorem Mu (h:vS L):K1 Tryz.prog 35 (kz L) (bk 2 true ((av (sL L) L.length).length-1+((av (rL L) L.length).length-1)) λi=>fq (aA (lF (sL L) (rL L) L.length) i)):=by
 intro M w0 v0 hM hv0
 have h2:=h.two
 have hm:=h.max
 have hlo:=h.lo
 have Ud:=h.up
 have mw:=jq (sL L) L.length
 have hl2:=jq (rL L) L.length
 have yI:∀q,q<L.length->fu 16777216 (aA (rL L) q):=λq hq=>by rw[JB hq]; exact nE _ (by omega)
 refine xA (N:=21) Tryz.func35 rfl rfl rfl hM hv0 λa hI=>?_
 refine cK hI 1 [Uc 0 2 _] (.k .z) ⟨mv,trivial⟩ (.kk .z) λa w hI=>?_
 refine zM hI 3 1 [] [] [Uc 0 5 _] .z (.kk .z) ⟨mv,trivial⟩ .z (.Nk .z) (U8 (FW (L:=L)) ⟨by omega,by omega⟩ (λ_=>fF _)) λa w hI=>?_
 obtain⟨b6,c6,TU,hI⟩:=hI
 refine zM hI 2 1 [] [] [Uc 0 7 _] (.k .z) (.eH .z) ⟨mv,trivial⟩ (.k .z) (.qL .z) ⟨_,U2 (n0:=0) (Mv (L:=L) (b:=b6) (n:=L.length) (N:=c6*2) (c:=c6)) (c1:=λ_ _ h=>h) (c2:=λ_ _ h=>h) (hφ:=⟨h.near,hm,by omega⟩) (hp:=cB _) (hq:=gl λ_=>fF _),rfl⟩ λa w hI=>?_
 dsimp only[List.set]at hI
 refine zM hI 3 1 [] [] [Uc 0 9 _] (.k .z) (.aB .z) ⟨mv,trivial⟩ (.k .z) (.LF (.k .z)) (QW (n0:=0) (Dz (L:=sL L) (b:=b6) (m:=c6*2) (n:=L.length) (cap:=c6)) ⟨h2,hm,by omega,h.ne⟩ (gl λ_=>fF _) (c1:=λ_ _ h=>h)) λa w hI=>?_
 dsimp only[List.set]at hI
 refine bN hI 1 [] [] [Uc 0 3 _] (.k .z) (.eH .z) ⟨mv,trivial⟩ (.k .z) (.qL .z) λa w hI=>?_
 refine zM hI 4 2 [] [] [Uc 0 11 _,Uc 1 12 _] (.k .z) (.eH .z) ⟨mv,mv,trivial⟩ (.k .z) (.aB (.k .z)) (U7 (n0:=0) (yP (S:=sL L) Ei) ⟨h2,hm,nE,hlo⟩ (λ_=>fF _) (hc:=TU)) λa w hI=>?_
 obtain⟨b13,c13,VD,hI⟩:=hI
 refine zM hI 2 1 [] [] [Uc 0 14 _] (.k (.k .z)) (.aB (.kk .z)) ⟨mv,trivial⟩ (.k (.k .z)) (.aB (.tZ .z)) ⟨_,Tx (n0:=1) (DA (L:=sL L) (b:=b6) (n:=L.length) (N:=c6*2) (c:=c6)) (c1:=λ_ _ h=>h) (hφ:=⟨hm,by omega,nE⟩) (hp:=cB _) (hq:=gl λ_=>fF _),rfl⟩ λa w hI=>?_
 dsimp only[List.set]at hI
 refine zM hI 6 4 [] [] [Uc 0 16 _,Uc 1 17 _,Uc 2 18 _,Uc 3 19 _] (.k (.k .z)) (.aB (.kk .z)) ⟨mv,mv,mv,U5 (yP (S:=rL L) GN) 6 ⟨h2,hm,yI,Ud⟩ (λ_=>fF _) (hcap:=TU),trivial⟩ (.k (.k .z)) (.cU (.LF (.dk .z))) (J4 (n0:=0) (λi=>fq (aA (lF (sL L) (rL L) L.length) i)) FH (by omega) (hnf:=λ_=>fF _) (hng:=λ_=>fF _) (hfit:=λ_=>ki _)) λa w hI=>?_
 obtain⟨s',hI⟩:=hI
 dsimp only[List.set]at hI
 have hI:=GK hI 0 2 rfl (by kernel_rfl)
 dsimp only[List.eraseIdx]at hI
 refine aP ?_
 exact fo hI rfl jP
end Wx
