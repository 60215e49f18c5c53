import Derived.Test.YtocboimkilkklaaGreatJRC36
import Derived.Test.YtocboimkilkklaaGreatJRC41
namespace Wx
set_option maxRecDepth 100000
set_option maxHeartbeats 1000000
open Go Go.RowKit Go.Proofs
set_option linter.unusedVariables false
attribute [local irreducible] OpOk
def kI (O:List Pt) (p:Pt):Nat->Nat
 |0=>0
 |1=>1
 |n+2=>if ir (aF O n) (aF O (n+1)) p<=0 then kI O p (n+1)else n+2
theorem tX (O:List Pt) (p:Pt):∀n,kI O p n<=n
 |0=>Nat.le_refl _
 |1=>Nat.le_refl _
 |n+2=>by
  show(if ir (aF O n) (aF O (n+1)) p<=0 then kI O p (n+1)else n+2)<=_
  have:=tX O p (n+1)
  split<;>omega
variable {O:List Pt} {p:Pt} {n:Nat}
theorem Fl (h1:1<n) (h:ir (aF O (n-2)) (aF O (n-1)) p<=0):kI O p n=kI O p (n-1):=by
 obtain⟨m,rfl⟩:∃m,n=m+2:=⟨n-2,by omega⟩
 show(if ir (aF O m) (aF O (m+1)) p<=0 then kI O p (m+1)else m+2)=_
 rw[if_pos (show ir (aF O m) (aF O (m+1)) p<=0 from h)]
 rfl
theorem Fk (h:¬(1<n/\ir (aF O (n-2)) (aF O (n-1)) p<=0)):kI O p n=n:=by
 match n,h with
 |0,_=>rfl
 |1,_=>rfl
 |m+2,h=>
  show(if ir (aF O m) (aF O (m+1)) p<=0 then kI O p (m+1)else m+2)=_
  exact if_neg λh2=>h ⟨by omega,h2⟩
def aB (L:List Pt):Nat->List Pt
 |0=>[]
 |k+1=>(aB L k).take (kI (aB L k) (aF L k) (aB L k).length)++[aF L k]
theorem tj (L:List Pt) (k:Nat):(aB L (k+1)).length=kI (aB L k) (aF L k) (aB L k).length+1:=by
 show((aB L k).take _++[aF L k]).length=_
 have:=tX (aB L k) (aF L k) (aB L k).length
 rw[List.length_append,List.length_take,Nat.min_eq_left this]
 rfl
theorem kC (L:List Pt):∀k,(aB L k).length<=k
 |0=>Nat.le_refl _
 |k+1=>by
  rw[tj]
  have h1:=kC L k
  have h2:=tX (aB L k) (aF L k) (aB L k).length
  omega
theorem tn {L:List Pt} {x:Pt}:∀{k:Nat},x∈aB L k->∃q,q<k/\x=aF L q
 |0,h=>by cases h
 |k+1,h=>by
  have h:x∈(aB L k).take _++[aF L k]:=h
  rcases List.mem_append.1 h with h|h
  ·obtain⟨q,hq,e⟩:=tn (List.mem_of_mem_take h)
   exact⟨q,by omega,e⟩
  ·exact⟨k,by omega,List.mem_singleton.1 h⟩
theorem Jm {q:Nat} (h:q<O.length):aF O q∈O:=by
 unfold aF
 rw[List.getD_eq_getElem?_getD,List.getElem?_eq_getElem h]
 exact List.getElem_mem h
variable {L:List Pt}
theorem zH {B:Int} {k:Nat} (h:∀q,q<L.length->gp B (aF L q)) (hk:k<=L.length):∀q,q<(aB L k).length->gp B (aF (aB L k) q):=λq hq=>by
 obtain⟨j,hj,e⟩:=tn (Jm hq)
 rw[e]
 exact h j (by omega)
theorem LI (hn:n<=O.length):∀i w v,(if i<n then gn (aF O i)else gn p) w v->i<n+1->gn (aF (O.take n++[p]) i) w v:=λi w v h hi=>by
 have hl:(O.take n).length=n:=by rw[List.length_take,Nat.min_eq_left hn]
 by_cases h1:i<n
 ·rw[if_pos h1]at h
  have e:aF (O.take n++[p]) i=aF O i:=by
   unfold aF
   rw[List.getD_eq_getElem?_getD,List.getD_eq_getElem?_getD,List.getElem?_append_left (by omega),List.getElem?_take,if_pos h1]
  rw[e]
  exact h
 ·rw[if_neg h1]at h
  obtain rfl:i=n:=by omega
  have e:aF (O.take i++[p]) i=p:=by
   unfold aF
   rw[List.getD_eq_getElem?_getD,List.getElem?_append_right (by omega),hl,Nat.sub_self]
   rfl
  rw[e]
  exact h
theorem zL (h:decide ((n:Int)>1)=true):1<n:=by have:=of_decide_eq_true h; omega
theorem R7 {P:Program} {fn:Func} {w:World} {f:FuncId} {C:Code} {v0:Value} {M:Nat->Nat->Prop} {R:World->Ending->World->Prop} {p0:Pred} {N:Nat} (hf:P.funcs[f]?=some fn) (hb:fn.body=some C) (hN:fn.ntmps=N) (hlen:decide ([v0].length<=N)=true) (hM:dz M w) (h0:aP M (λw=>p0 w v0) w) (h:∀a,Inv ⟨N,w,M,λ_=>False⟩ [] [] [Uz 0 p0] none_ a w->C.ww none [] P (bodyPost P fn (R w)) a w):Calls P f #[v0] w (R w):=
 xT (vs:=[v0]) hf hb hN hlen hM (show cQ M w [v0] [Uz 0 p0]from⟨⟨rfl,_,rfl,h0⟩,trivial⟩) λa hI=>(wpIn_wide (n:=0)).1 (wpIn_mono (h a hI 0) λe a' w' ⟨a0,e0,h0⟩=>by subst e0; exact h0)
theorem Lb (h:2<=L.length/\L.length<=1000/\(∀q,q<L.length->gp 16777216 (aF L q))/\2<=(aB L L.length).length):∀(M:Nat->Nat->Prop) (w:World) (v0:Value),dz M w->aP M (λw=>(lO L) w v0) w->Calls Tryz.prog 99 #[v0] w (xJ 2 ((aB L L.length).length-1) true 68 (λi=>gn (aF (aB L L.length) i)) w):=by
 intro M w0 v0 hM hv0
 have hL:=h.2.1
 have hn:=h.2.2.1
 have h2:=h.2.2.2
 refine R7 (N:=48) Tryz.func99 rfl rfl rfl hM hv0 λa hI=>?_
 refine dR hI 1 [Uc 0 2 _] (.k .z) ⟨mv,trivial⟩ (.kk .z) λa w hI=>?_
 refine dR hI 1 [Uc 0 3 _] (.kk .z) ⟨mv,trivial⟩ (.dF .z) λa w hI=>?_
 have hI:=RJ (id:=48) (sz:=2) (ag:=true) (E:=68) (λi=>gn (aF (aB L 0) i)) hI (by kernel_rfl)
 dsimp only[List.append,HAppend.hAppend,Append.append]at hI
 refine aC ?_
 refine bZ hI 3 [] [] [Uc 0 7 _,Uc 1 8 _,Uc 2 9 _] (.k .z) (.dF .z) ⟨mv,ln,mv,trivial⟩ (.k .z) (.EZ (.kk .z)) λa w hI=>?_
 refine aT ?_
 refine C5 [] [Uz 2 _,Uz 7 _,Uz 8 _] (λ(k:Nat×Option Addr×Nat)=>[(mL 48 2 (aB L k.1).length true 68 (λi=>gn (aF (aB L k.1) i)) (.slice k.2.1 (aB L k.1).length k.2.2))]) (λ(k:Nat×Option Addr×Nat)=>[Uz 9 (pI (k.1:Int)),Uz 3 (bY (.slice k.2.1 (aB L k.1).length k.2.2))]) (λ(k:Nat×Option Addr×Nat)=>k.1<=L.length) (λ(k:Nat×Option Addr×Nat)=>L.length-k.1) ((0,none,0)) (Nat.zero_le _) hI ⟨PG,trivial⟩ ⟨gi,gi,gi,gc,gc,trivial⟩ ?_
 intro k a w hk hI
 refine bZ hI 1 [] [] [Uc 0 10 _] (.k .z) (.aA (.k .z)) ⟨bn,trivial⟩ (.k .z) (.aA (.kk .z)) λa w hI=>?_
 refine aC ?_
 refine nX hI (λt1=>?_) (λt1=>?_)
 ·
  refine aM ?_
  refine af ?_
  refine aC ?_
  refine aT ?_
  have hO:=zH hn hk
  have hle:=kC L k.1
  refine bZ hI 4 [⟨5,5,some 2,none,.ptr,68,2,true,pv _,[(3,pv _)]⟩] [] [Uc 0 11 _,Uc 1 12 _] (.k .z) (.aA (.kk .z)) ⟨ix,ld,me [.i,.i],gD,trivial⟩ (.k (.s .o .z)) (.aA (.jy .z)) λa w hI=>?_
  refine aC ?_
  refine bZ hI 3 [] [] [Uc 0 13 _,Uc 1 14 _,Uc 2 6 _] (.k (.k .z)) (.aA (.k .z)) ⟨mv,RA,mv,trivial⟩ (.k (.k .z)) (.aA (.Cj .z)) λa w hI=>?_
  refine aT ?_
  refine C5 [Vz 5 5 68 2 true _] [Uz 2 _,Uz 7 _,Uz 8 _,Uz 9 _] (λ(n:Nat)=>[(mL 48 2 n true 68 (λi=>gn (aF (aB L k.1) i)) (.slice k.2.1 n k.2.2))]) (λ(n:Nat)=>[Uz 6 (pI (n:Int)),Uz 3 (bY (.slice k.2.1 n k.2.2))]) (λ(n:Nat)=>n<=(aB L k.1).length/\kI (aB L k.1) (aF L k.1) (aB L k.1).length=kI (aB L k.1) (aF L k.1) n) (λ(n:Nat)=>n) ((aB L k.1).length) ⟨Nat.le_refl _,rfl⟩ hI ⟨vi,PG,trivial⟩ ⟨gi,gi,gi,gi,gc,gc,trivial⟩ ?_
  intro n a w hi hI
  refine aC ?_
  refine EB hI [0,1,3,7,7,23,63,127,7,7,519,1799,3847,7,16383,32767,65535] [] [] [Uc 0 15 _,Uc 1 16 _,Uc 2 17 _,Uc 3 18 _,Uc 4 19 _,Uc 5 20 _,Uc 6 21 _,Uc 7 22 _,Uc 8 23 _,Uc 9 24 _,Uc 10 25 _,Uc 11 26 _,Uc 12 27 _,Uc 13 28 _,Uc 14 29 _,Uc 15 30 _,Uc 16 31 _] (.k (.k .z)) (.aA (.kk .z)) ⟨mv,bn,mv,gd λh=>yn h,gd λh=>yn h,gd λh=>Ad h,gd λh=>Mw h 48 (n-2) (hk:=by have:=zL h; omega) (hq:=by have:=zL h; omega),gd λh=>Mx h 48 (hq:=by have:=zL h; omega) (hn:=gA _),gd λh=>yn h,gd λh=>yn h,gd λh=>Ad h,gd λh=>Mw h 48 (n-1) (hk:=by have:=zL h; omega) (hq:=by have:=zL h; omega),gd λh=>Mx h 48 (hq:=by have:=zL h; omega) (hn:=gA _),gd λh=>rj h,gd λh=>Qr h Cl (hφ:=⟨hO _ (by have:=zL h; omega),hO _ (by have:=zL h; omega),hn _ (by omega)⟩),gd λh=>Ad h,pk,trivial⟩ (.k (.k .z)) (.aA (.eT (.d8 (.dO (.ya .z))))) λa w hI=>?_
  refine Ez hI (λt2=>?_) (λt2=>?_)
  ·
   refine aM ?_
   refine af ?_
   refine aC ?_
   refine aT ?_
   obtain⟨hp1,hp2⟩:1<n/\ir (aF (aB L k.1) (n-2)) (aF (aB L k.1) (n-1)) (aF L k.1)<=0:=by
    simp only[Bool.and_eq_true,decide_eq_true_eq]at t2
    exact⟨by omega,t2.2⟩
   refine SZ hI 5 3 [] [] [Uc 0 34 _,Uc 1 35 _,Uc 2 36 _] (.k (.k .z)) (.aA (.dF .z)) ⟨mv,mv,bn,trivial⟩ (.k (.k .z)) (.aA (.iB (.dk .z))) (Mm (n0:=1) (n-1) (hnf:=λ_=>gA _)) λa w hI=>?_
   dsimp only[List.set]at hI
   refine bz ?_
   refine af ?_
   refine ve hI 3 [] [] [Uc 0 32 _,Uc 1 33 _,Uc 2 6 _] (.k (.k .z)) (.aA (.dF .z)) ⟨mv,RA,mv,trivial⟩ (.k (.k .z)) (.aA (.jy (.dk .z))) λa w hI=>?_
   refine af ?_
   exact AE (n-1) ⟨by omega,by rw[hi.2]; exact Fl hp1 hp2⟩ hI ⟨vc,PG,trivial⟩ ⟨gc,gc,gc,gc,gc,gc,trivial⟩ (by omega)
  ·
   refine eJ ?_
   refine aL ?_
   refine aL ?_
   refine bM ?_
   refine af ?_
   have hkn:kI (aB L k.1) (aF L k.1) n=n:=Fk λhh=>by
    simp only[Bool.and_eq_false_iff,decide_eq_false_iff_not]at t2
    omega
   have hnl:n<=(aB L k.1).length:=hi.1
   have hlen:n+1=(aB L (k.1+1)).length:=by rw[tj,hi.2,hkn]
   have Ce:(aB L k.1).take n++[aF L k.1]=aB L (k.1+1):=by rw[<-hkn,<-hi.2]; rfl
   refine SZ hI 5 3 [] [] [Uc 0 38 _,Uc 1 39 _,Uc 2 40 _] (.k (.k .z)) (.aA (.dF .z)) ⟨mv,ld,XQ 68,trivial⟩ (.d (.k .z)) (.aA (.iB (.dk .z))) (TC (n0:=0) (λi=>gn (aF (aB L (k.1+1)) i)) (Ce▸LI (O:=aB L k.1) hnl) (hnf:=λ_=>gA _) (hnp:=gA _) (hfit:=lC _)) λa w hI=>?_
   obtain⟨s',hI⟩:=hI
   dsimp only[List.set]at hI
   obtain⟨X',cap',rfl,hcap⟩:=Ae hI 0 rfl
   refine bz ?_
   refine af ?_
   refine ve hI 2 [] [] [Uc 0 42 _,Uc 1 9 _] (.k .z) (.aA (.t 1 (.kk .z))) ⟨bn,mv,trivial⟩ (.k .z) (.aA (.dO (.k .z))) λa w hI=>?_
   refine af ?_
   rw[hlen]at hI
   exact AE ((k.1+1,X',cap')) (by(show k.1+1<=L.length); omega) hI ⟨PG,trivial⟩ ⟨gc,gc,gc,gc,gc,trivial⟩ (by(show L.length-(k.1+1)<L.length-k.1); omega)
 ·
  refine eJ ?_
  refine aL ?_
  refine aL ?_
  refine bM ?_
  refine af ?_
  obtain⟨k,X,cap⟩:=k
  obtain rfl:k=L.length:=by(have hk':k<=L.length:=hk); omega
  dsimp only at hI
  have hle:=kC L L.length
  refine Bo hI 6 4 [] [] [Uc 0 43 _,Uc 1 44 _,Uc 2 45 _,Uc 3 46 _] (.k .z) (.aA (.kk .z)) ⟨mv,mv,RA,bn,trivial⟩ (.k .z) (.dO (.NW (.dk .z))) (Mm (n0:=0) ((aB L L.length).length-1) (hnf:=λ_=>gA _)) λa w hI=>?_
  dsimp only[List.set]at hI
  refine aV ?_
  exact TH (n0:=0) hI rfl rfl (by omega)
end Wx

namespace Wx
set_option maxRecDepth 100000
set_option maxHeartbeats 1000000
open Go Go.RowKit Go.Proofs
set_option linter.unusedVariables false
attribute [local irreducible] OpOk
variable {L:List Pt}
theorem Iw (h:0<L.length/\L.length<=1000000):∀(M:Nat->Nat->Prop) (w:World) (v0:Value),dz M w->aP M (λw=>(bR 2 true L.length λi=>gn (aF L i)) w v0) w->Calls Tryz.prog 95 #[v0] w (Ka 2 L.length true (λi=>gn (aF L i)) w):=by
 intro M w0 v0 hM hv0
 refine R7 (N:=8) Tryz.func95 rfl rfl rfl hM hv0 λa hI=>?_
 refine dR hI 1 [Uc 0 2 _] (.k .z) ⟨mv,trivial⟩ (.kk .z) λa w hI=>?_
 refine aC ?_
 refine dR hI 2 [Uc 0 3 _,Uc 1 4 _] (.kk .z) ⟨mv,FT (E:=68) hs h.1 (by kernel_rfl) (pt rfl),trivial⟩ (.mP .z) λa w hI=>?_
 refine ZE hI (rfl) ?_
 refine aM ?_
 refine af ?_
 refine bZ hI 4 [⟨7,7,some 2,some 3,.grow (L.length) 2,68,3,true,pv dG,[]⟩,⟨2,2,some 3,none,.grow (L.length) 2,68,3,true,pv dG,[]⟩] [] [Uc 0 5 _,Uc 1 6 _,Uc 2 7 _,Uc 3 2 _] .z (.k (.t 3 (.k .z))) ⟨XP (sz:=2) 68,mv,XM (F:=gn) (e:=λk=>aF L k) L (0,0) lC (hn:=h.1) (hmax:=by omega),Ts,trivial⟩ (.d (.k .z)) (.dO (.ya .z)) λa w hI=>?_
 refine aV ?_
 exact TI hI rfl (n0:=0) rfl h.1 (k:=0) rfl
variable {m n:Nat}
theorem Fo {b cap:Nat} (h:2<=n/\n<=1000/\n*2<=m/\∀k,1<=k->k<n->aF L k≠aF L (k-1)):∀(M:Nat->Nat->Prop) (w:World) (v0:Value),dz M w->(∀o,¬M b o)->One b m (Jg n L) w->aP (lY M b) (λw=>bY (.slice (some ⟨b,0,none⟩) n cap) w v0) w->Calls Tryz.prog 98 #[v0] w (xK M b m (bY (.slice (some ⟨b,0,none⟩) n cap)) (Jg n L) w):=by
 obtain⟨h1,h2,h3,hne⟩:=h
 intro M w0 v0 hM Uf h0 hv0
 refine VL (N:=61) Tryz.func98 rfl rfl hM Uf (ig λ_=>gA _) h0 hv0 λa hI=>?_
 refine bZ hI 1 [] [] [Uc 0 2 _] (.k .z) (.k .z) ⟨mv,trivial⟩ (.k .z) (.kk .z) λa w hI=>?_
 refine aC ?_
 refine bZ hI 3 [] [] [Uc 0 6 _,Uc 1 7 _,Uc 2 8 _] (.k .z) (.kk .z) ⟨mv,RA,bn,trivial⟩ (.k .z) (.eT (.k .z)) λa w hI=>?_
 refine nX hI (λt1=>?_) (λt1=>?_)
 ·exfalso; omega
 refine aM ?_
 refine af ?_
 refine aC ?_
 refine bZ hI 1 [] [] [Uc 0 3 _] (.k .z) (.dF .z) ⟨mv,trivial⟩ (.k .z) (.mP .z) λa w hI=>?_
 refine aT ?_
 refine C5 [fJ 61 b m _] [Uz 0 _] (λ(k:Nat)=>[]) (λ(k:Nat)=>[Uz 3 (pI (k:Int))]) (λ(k:Nat)=>1<=k/\k<=n) (λ(k:Nat)=>n-k) (1) (by omega) hI ⟨vO,trivial⟩ ⟨gi,gc,trivial⟩ ?_
 intro k a w hk hI
 refine aC ?_
 refine bZ hI 4 [] [] [Uc 0 10 _,Uc 1 11 _,Uc 2 12 _,Uc 3 13 _] (.k .z) (.kk .z) ⟨mv,mv,RA,bn,trivial⟩ (.k .z) (.eT (.dk .z)) λa w hI=>?_
 refine nX hI (λt2=>?_) (λt2=>?_)
 ·
  refine aM ?_
  refine af ?_
  refine aC ?_
  refine aT ?_
  refine EB hI [0,0,3,7,0,0,32,112,240,511] [] [] [Uc 0 16 _,Uc 1 17 _,Uc 2 18 _,Uc 3 19 _,Uc 4 20 _,Uc 5 21 _,Uc 6 22 _,Uc 7 23 _,Uc 8 24 _,Uc 9 25 _] (.k .z) (.dF .z) ⟨mv,mv,iX 2 k,Xc 61 k,mv,mv,bn,iX 2 (k-1),Xc 61 (k-1),XY,trivial⟩ (.k .z) (.eT (.d8 (.k .z))) λa w hI=>?_
  refine nX hI (λt3=>?_) (λt3=>?_)
  ·exfalso; exact hne k (by omega) (by omega) t3
  refine aM ?_
  refine bz ?_
  refine af ?_
  refine ve hI 3 [] [] [Uc 0 14 _,Uc 1 15 _,Uc 2 3 _] (.k .z) (.k (.t 2 (.k .z))) ⟨mv,bn,mv,trivial⟩ (.k .z) (.jy (.dk .z)) λa w hI=>?_
  refine af ?_
  exact AE (k+1) (by omega) hI ⟨vO,trivial⟩ ⟨gc,gc,trivial⟩ (by omega)
 ·
  refine eJ ?_
  refine aL ?_
  refine aL ?_
  refine bM ?_
  refine af ?_
  refine bZ hI 2 [] [] [Uc 0 60 _,Uc 1 2 _] (.k .z) (.dF .z) ⟨mv,mv,trivial⟩ (.k .z) (.dO (.k .z)) λa w hI=>?_
  refine aV ?_
  exact Qp (n0:=0) hI rfl rfl
theorem Gg:(qn n L).length=n:=by
 unfold qn uE
 rw[List.length_map]
 show(List.mergeSort _ _).length=n
 rw[List.length_mergeSort,Array.length_toList,dn]
variable {i:Nat}
theorem CK {d:Array EI} (h:i<d.size):gp 16777216 (aF (uE d) i):=by
 rw[<-xq h]
 exact(d[i]!).h
theorem oN:∀q,q<n->gp 16777216 (aF (qn n L) q):=λq hq=>by
 unfold qn
 refine CK ?_
 rw[List.size_toArray,List.length_mergeSort,Array.length_toList,dn]
 exact hq
abbrev LL (n:Nat) (S:List Pt):List Pt:=(List.range n).map λi=>aF S (n-1-i)
variable {S:List Pt}
theorem Jt:(LL n S).length=n:=by rw[List.length_map,List.length_range]
theorem LM (h:i<n):aF (LL n S) i=aF S (n-1-i):=by
 unfold aF
 rw[List.getD_eq_getElem?_getD,List.getElem?_map,List.getElem?_range h]
 rfl
theorem Aw (hl:S.length=n) (h:2<=n/\n<=1000/\(∀q,q<n->gp 16777216 (aF S q))/\2<=(aB S n).length):∀(M:Nat->Nat->Prop) (w:World) (v0:Value),dz M w->aP M (λw=>bR 2 true n (λi=>gn (aF S i)) w v0) w->Calls Tryz.prog 99 #[v0] w (xJ 2 ((aB S n).length-1) true 68 (λi=>gn (aF (aB S n) i)) w):=by
 subst hl
 exact Lb h
def mO (S R:List Pt) (n:Nat):List Pt:=(aB S n).take ((aB S n).length-1)++(aB R n).take ((aB R n).length-1)
variable {R:List Pt}
theorem Ff:(mO S R n).length=(aB S n).length-1+((aB R n).length-1):=by
 unfold mO
 rw[List.length_append,List.length_take,List.length_take,Nat.min_eq_left (Nat.sub_le _ _),Nat.min_eq_left (Nat.sub_le _ _)]
theorem Ej {O:List Pt} (h:i<m):aF (O.take m) i=aF O i:=by
 unfold aF
 rw[List.getD_eq_getElem?_getD,List.getD_eq_getElem?_getD,List.getElem?_take,if_pos h]
theorem Ig:∀i w v,(if i<(aB S n).length-1 then gn (aF (aB S n) i)else gn (aF (aB R n) (i-((aB S n).length-1)))) w v->i<(aB S n).length-1+((aB R n).length-1)->gn (aF (mO S R n) i) w v:=λi w v h hi=>by
 have hl:((aB S n).take ((aB S n).length-1)).length=(aB S n).length-1:=by rw[List.length_take,Nat.min_eq_left (Nat.sub_le _ _)]
 by_cases h1:i<(aB S n).length-1
 ·rw[if_pos h1]at h
  have e:aF (mO S R n) i=aF (aB S n) i:=by
   rw[<-Ej (O:=aB S n) h1]
   unfold aF mO
   rw[List.getD_eq_getElem?_getD,List.getD_eq_getElem?_getD,List.getElem?_append_left (by omega)]
  rw[e]
  exact h
 ·rw[if_neg h1]at h
  have e:aF (mO S R n) i=aF (aB R n) (i-((aB S n).length-1)):=by
   rw[<-Ej (O:=aB R n) (m:=(aB R n).length-1) (by omega)]
   unfold aF mO
   rw[List.getD_eq_getElem?_getD,List.getD_eq_getElem?_getD,List.getElem?_append_right (by omega),hl]
  rw[e]
  exact h
abbrev Ei (L:List Pt):Prop:=∀q,q<L.length->gp 16777216 (aF L q)
noncomputable abbrev sL (L:List Pt):List Pt:=qn L.length L
noncomputable abbrev rL (L:List Pt):List Pt:=LL L.length (sL L)
structure xH (L:List Pt):Prop where
 two:2<=L.length
 max:L.length<=1000
 near:Ei L
 ne:∀k,1<=k->k<L.length->aF (sL L) k≠aF (sL L) (k-1)
 lo:2<=(aB (sL L) L.length).length
 up:2<=(aB (rL L) L.length).length
theorem OJ (h:xH L):K1 Tryz.prog 62 (lO L) (bR 2 true ((aB (sL L) L.length).length-1+((aB (rL L) L.length).length-1)) λi=>gn (aF (mO (sL L) (rL L) L.length) i)):=by
 intro M w0 v0 hM hv0
 have h2:=h.two
 have hm:=h.max
 have hlo:=h.lo
 have W4:=h.up
 have qy:=kC (sL L) L.length
 have hl2:=kC (rL L) L.length
 have Am:∀q,q<L.length->gp 16777216 (aF (rL L) q):=λq hq=>by rw[LM hq]; exact oN _ (by omega)
 refine Bu (N:=21) Tryz.func62 rfl rfl rfl hM hv0 λa hI=>?_
 refine dR hI 1 [Uc 0 2 _] (.k .z) ⟨mv,trivial⟩ (.kk .z) λa w hI=>?_
 refine Bo hI 3 1 [] [] [Uc 0 5 _] .z (.kk .z) ⟨mv,trivial⟩ .z (.Qd .z) (XX (Iw (L:=L)) ⟨by omega,by omega⟩ (λ_=>gA _)) λa w hI=>?_
 obtain⟨b6,c6,WI,hI⟩:=hI
 refine Bo hI 2 1 [] [] [Uc 0 7 _] (.k .z) (.dF .z) ⟨mv,trivial⟩ (.k .z) (.mP .z) ⟨_,XS (n0:=0) (OK (L:=L) (b:=b6) (n:=L.length) (N:=c6*2) (c:=c6)) (c1:=λ_ _ h=>h) (c2:=λ_ _ h=>h) (hφ:=⟨h.near,hm,by omega⟩) (hp:=bu _) (hq:=ig λ_=>gA _),rfl⟩ λa w hI=>?_
 dsimp only[List.set]at hI
 refine Bo hI 3 1 [] [] [Uc 0 9 _] (.k .z) (.aA .z) ⟨mv,trivial⟩ (.k .z) (.NW (.k .z)) (TD (n0:=0) (Fo (L:=sL L) (b:=b6) (m:=c6*2) (n:=L.length) (cap:=c6)) ⟨h2,hm,by omega,h.ne⟩ (ig λ_=>gA _) (c1:=λ_ _ h=>h)) λa w hI=>?_
 dsimp only[List.set]at hI
 refine bZ hI 1 [] [] [Uc 0 3 _] (.k .z) (.dF .z) ⟨mv,trivial⟩ (.k .z) (.mP .z) λa w hI=>?_
 refine Bo hI 4 2 [] [] [Uc 0 11 _,Uc 1 12 _] (.k .z) (.dF .z) ⟨mv,mv,trivial⟩ (.k .z) (.aA (.k .z)) (XW (n0:=0) (Aw (S:=sL L) Gg) ⟨h2,hm,oN,hlo⟩ (λ_=>gA _) (hc:=WI)) λa w hI=>?_
 obtain⟨b13,c13,Yq,hI⟩:=hI
 refine Bo hI 2 1 [] [] [Uc 0 14 _] (.k (.k .z)) (.aA (.kk .z)) ⟨mv,trivial⟩ (.k (.k .z)) (.aA (.ya .z)) ⟨_,Wk (n0:=1) (Fq (L:=sL L) (b:=b6) (n:=L.length) (N:=c6*2) (c:=c6)) (c1:=λ_ _ h=>h) (hφ:=⟨hm,by omega,oN⟩) (hp:=bu _) (hq:=ig λ_=>gA _),rfl⟩ λa w hI=>?_
 dsimp only[List.set]at hI
 refine Bo hI 6 4 [] [] [Uc 0 16 _,Uc 1 17 _,Uc 2 18 _,Uc 3 19 _] (.k (.k .z)) (.aA (.kk .z)) ⟨mv,mv,mv,XU (Aw (S:=rL L) Jt) 6 ⟨h2,hm,Am,W4⟩ (λ_=>gA _) (hcap:=WI),trivial⟩ (.k (.k .z)) (.dO (.NW (.dk .z))) (Mn (n0:=0) (λi=>gn (aF (mO (sL L) (rL L) L.length) i)) Ig (by omega) (hnf:=λ_=>gA _) (hng:=λ_=>gA _) (hfit:=λ_=>lC _)) λa w hI=>?_
 obtain⟨s',hI⟩:=hI
 dsimp only[List.set]at hI
 have hI:=Jq hI 0 2 rfl (by kernel_rfl)
 dsimp only[List.eraseIdx]at hI
 refine aV ?_
 exact dD hI rfl mb
end Wx
