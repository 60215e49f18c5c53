import Derived.Test.YtikkgpljpglnbaaGreatJRM37
namespace Wx
set_option maxRecDepth 100000
set_option maxHeartbeats 1000000
open Go Go.RowKit Go.Proofs
set_option linter.unusedVariables false
attribute [local irreducible] OpOk
def cP (O:List Pt) (p:Pt):Nat->Nat
 |0=>0
 |1=>1
 |n+2=>if ai (ae O n) (ae O (n+1)) p<=0 then cP O p (n+1)else n+2
theorem oc (O:List Pt) (p:Pt):∀n,cP O p n<=n
 |0=>Nat.le_refl _
 |1=>Nat.le_refl _
 |n+2=>by
  show(if ai (ae O n) (ae O (n+1)) p<=0 then cP O p (n+1)else n+2)<=_
  have:=oc O p (n+1)
  split<;>omega
variable {O:List Pt} {p:Pt} {n:Nat}
theorem DF (h1:1<n) (h:ai (ae O (n-2)) (ae O (n-1)) p<=0):cP O p n=cP O p (n-1):=by
 obtain⟨m,rfl⟩:∃m,n=m+2:=⟨n-2,by omega⟩
 show(if ai (ae O m) (ae O (m+1)) p<=0 then cP O p (m+1)else m+2)=_
 rw[if_pos (show ai (ae O m) (ae O (m+1)) p<=0 from h)]
 rfl
theorem DD (h:¬(1<n/\ai (ae O (n-2)) (ae O (n-1)) p<=0)):cP O p n=n:=by
 match n,h with
 |0,_=>rfl
 |1,_=>rfl
 |m+2,h=>
  show(if ai (ae O m) (ae O (m+1)) p<=0 then cP O p (m+1)else m+2)=_
  exact if_neg λh2=>h ⟨by omega,h2⟩
def aj (L:List Pt):Nat->List Pt
 |0=>[]
 |k+1=>(aj L k).take (cP (aj L k) (ae L k) (aj L k).length)++[ae L k]
theorem rT (L:List Pt) (k:Nat):(aj L (k+1)).length=cP (aj L k) (ae L k) (aj L k).length+1:=by
 show((aj L k).take _++[ae L k]).length=_
 have:=oc (aj L k) (ae L k) (aj L k).length
 rw[List.length_append,List.length_take,Nat.min_eq_left this]
 rfl
theorem dP (L:List Pt):∀k,(aj L k).length<=k
 |0=>Nat.le_refl _
 |k+1=>by
  rw[rT]
  have h1:=dP L k
  have h2:=oc (aj L k) (ae L k) (aj L k).length
  omega
theorem jF {L:List Pt} {x:Pt}:∀{k:Nat},x∈aj L k->∃q,q<k/\x=ae L q
 |0,h=>by cases h
 |k+1,h=>by
  have h:x∈(aj L k).take _++[ae L k]:=h
  rcases List.mem_append.1 h with h|h
  ·obtain⟨q,hq,e⟩:=jF (List.mem_of_mem_take h)
   exact⟨q,by omega,e⟩
  ·exact⟨k,by omega,List.mem_singleton.1 h⟩
theorem tB {q:Nat} (h:q<O.length):ae O q∈O:=by
 unfold ae
 rw[List.getD_eq_getElem?_getD,List.getElem?_eq_getElem h]
 exact List.getElem_mem h
variable {L:List Pt}
theorem xS {B:Int} {k:Nat} (h:∀q,q<L.length->bG B (ae L q)) (hk:k<=L.length):∀q,q<(aj L k).length->bG B (ae (aj L k) q):=λq hq=>by
 obtain⟨j,hj,e⟩:=jF (tB hq)
 rw[e]
 exact h j (by omega)
theorem JG (hn:n<=O.length):∀i w v,(if i<n then cT (ae O i)else cT p) w v->i<n+1->cT (ae (O.take n++[p]) i) w v:=λi w v h hi=>by
 have hl:(O.take n).length=n:=by rw[List.length_take,Nat.min_eq_left hn]
 by_cases h1:i<n
 ·rw[if_pos h1]at h
  have e:ae (O.take n++[p]) i=ae O i:=by
   unfold ae
   rw[List.getD_eq_getElem?_getD,List.getD_eq_getElem?_getD,List.getElem?_append_left (by omega),List.getElem?_take,if_pos h1]
  rw[e]
  exact h
 ·rw[if_neg h1]at h
  obtain rfl:i=n:=by omega
  have e:ae (O.take i++[p]) i=p:=by
   unfold ae
   rw[List.getD_eq_getElem?_getD,List.getElem?_append_right (by omega),hl,Nat.sub_self]
   rfl
  rw[e]
  exact h
theorem xY (h:decide ((n:Int)>1)=true):1<n:=by have:=of_decide_eq_true h; omega
theorem Qg {P:Program} {fn:Func} {w:World} {f:FuncId} {C:Code} {v0:Value} {M:Nat->Nat->Prop} {R:World->Ending->World->Prop} {p0:Pred} {N:Nat} (hf:P.funcs[f]?=some fn) (hb:fn.body=some C) (hN:fn.ntmps=N) (hlen:decide ([v0].length<=N)=true) (hM:cR M w) (h0:aM M (λw=>p0 w v0) w) (h:∀a,Inv ⟨N,w,M,λ_=>False⟩ [] [] [Uz 0 p0] none_ a w->C.ww none [] P (bodyPost P fn (R w)) a w):Calls P f #[v0] w (R w):=
 we (vs:=[v0]) hf hb hN hlen hM (show dH M w [v0] [Uz 0 p0]from⟨⟨rfl,_,rfl,h0⟩,trivial⟩) λa hI=>(wpIn_wide (n:=0)).1 (wpIn_mono (h a hI 0) λe a' w' ⟨a0,e0,h0⟩=>by subst e0; exact h0)
theorem Jf (h:2<=L.length/\L.length<=1000/\(∀q,q<L.length->bG 16777216 (ae L q))/\2<=(aj L L.length).length):∀(M:Nat->Nat->Prop) (w:World) (v0:Value),cR M w->aM M (λw=>(fF L) w v0) w->Calls Tryz.prog 37 #[v0] w (vS 2 ((aj L L.length).length-1) true 38 (λi=>cT (ae (aj L L.length) i)) w):=by
 intro M w0 v0 hM hv0
 have hL:=h.2.1
 have hn:=h.2.2.1
 have h2:=h.2.2.2
 refine Qg (N:=48) Tryz.func37 rfl rfl rfl hM hv0 λa hI=>?_
 refine bH hI 1 [Uc 0 2 _] (.k .z) ⟨mv,trivial⟩ (.kk .z) λa w hI=>?_
 refine bH hI 1 [Uc 0 3 _] (.kk .z) ⟨mv,trivial⟩ (.cQ .z) λa w hI=>?_
 have hI:=PT (id:=48) (sz:=2) (ag:=true) (E:=38) (λi=>cT (ae (aj L 0) i)) hI (by kernel_rfl)
 dsimp only[List.append,HAppend.hAppend,Append.append]at hI
 refine av ?_
 refine aW hI 3 [] [] [Uc 0 7 _,Uc 1 8 _,Uc 2 9 _] (.k .z) (.cQ .z) ⟨mv,ln,mv,trivial⟩ (.k .z) (.qJ (.kk .z)) λa w hI=>?_
 refine aD ?_
 refine vL [] [Uz 2 _,Uz 7 _,Uz 8 _] (λ(k:Nat×Option Addr×Nat)=>[(kX 48 2 (aj L k.1).length true 38 (λi=>cT (ae (aj L k.1) i)) (.slice k.2.1 (aj L k.1).length k.2.2))]) (λ(k:Nat×Option Addr×Nat)=>[Uz 9 (pI (k.1:Int)),Uz 3 (bp (.slice k.2.1 (aj L k.1).length k.2.2))]) (λ(k:Nat×Option Addr×Nat)=>k.1<=L.length) (λ(k:Nat×Option Addr×Nat)=>L.length-k.1) ((0,none,0)) (Nat.zero_le _) hI ⟨NN,trivial⟩ ⟨gi,gi,gi,gc,gc,trivial⟩ ?_
 intro k a w hk hI
 refine aW hI 1 [] [] [Uc 0 10 _] (.k .z) (.aq (.k .z)) ⟨bn,trivial⟩ (.k .z) (.aq (.kk .z)) λa w hI=>?_
 refine av ?_
 refine iK hI (λt1=>?_) (λt1=>?_)
 ·
  refine aB ?_
  refine ah ?_
  refine av ?_
  refine aD ?_
  have hO:=xS hn hk
  have hle:=dP L k.1
  refine aW hI 4 [⟨5,5,some 2,none,.ptr,38,2,true,pv _,[(3,pv _)]⟩] [] [Uc 0 11 _,Uc 1 12 _] (.k .z) (.aq (.kk .z)) ⟨ix,ld,pY [.i,.i],kI,trivial⟩ (.k (.s .o .z)) (.aq (.fN .z)) λa w hI=>?_
  refine av ?_
  refine aW hI 3 [] [] [Uc 0 13 _,Uc 1 14 _,Uc 2 6 _] (.k (.k .z)) (.aq (.k .z)) ⟨mv,KO,mv,trivial⟩ (.k (.k .z)) (.aq (.wI .z)) λa w hI=>?_
  refine aD ?_
  refine vL [Vz 5 5 38 2 true _] [Uz 2 _,Uz 7 _,Uz 8 _,Uz 9 _] (λ(n:Nat)=>[(kX 48 2 n true 38 (λi=>cT (ae (aj L k.1) i)) (.slice k.2.1 n k.2.2))]) (λ(n:Nat)=>[Uz 6 (pI (n:Int)),Uz 3 (bp (.slice k.2.1 n k.2.2))]) (λ(n:Nat)=>n<=(aj L k.1).length/\cP (aj L k.1) (ae L k.1) (aj L k.1).length=cP (aj L k.1) (ae L k.1) n) (λ(n:Nat)=>n) ((aj L k.1).length) ⟨Nat.le_refl _,rfl⟩ hI ⟨vi,NN,trivial⟩ ⟨gi,gi,gi,gi,gc,gc,trivial⟩ ?_
  intro n a w hi hI
  refine av ?_
  refine BP hI [0,1,3,7,7,23,63,127,7,7,519,1799,3847,7,16383,32767,65535] [] [] [Uc 0 15 _,Uc 1 16 _,Uc 2 17 _,Uc 3 18 _,Uc 4 19 _,Uc 5 20 _,Uc 6 21 _,Uc 7 22 _,Uc 8 23 _,Uc 9 24 _,Uc 10 25 _,Uc 11 26 _,Uc 12 27 _,Uc 13 28 _,Uc 14 29 _,Uc 15 30 _,Uc 16 31 _] (.k (.k .z)) (.aq (.kk .z)) ⟨mv,bn,mv,gd λh=>gZ h,gd λh=>gZ h,gd λh=>mA h,gd λh=>Ko h 48 (n-2) (hk:=by have:=xY h; omega) (hq:=by have:=xY h; omega),gd λh=>Kq h 48 (hq:=by have:=xY h; omega) (hn:=cF _),gd λh=>gZ h,gd λh=>gZ h,gd λh=>mA h,gd λh=>Ko h 48 (n-1) (hk:=by have:=xY h; omega) (hq:=by have:=xY h; omega),gd λh=>Kq h 48 (hq:=by have:=xY h; omega) (hn:=cF _),gd λh=>dQ h,gd λh=>OE h jS (hφ:=⟨hO _ (by have:=xY h; omega),hO _ (by have:=xY h; omega),hn _ (by omega)⟩),gd λh=>mA h,pk,trivial⟩ (.k (.k .z)) (.aq (.dx (.d8 (.bL (.lW .z))))) λa w hI=>?_
  refine uz hI (λt2=>?_) (λt2=>?_)
  ·
   refine aB ?_
   refine ah ?_
   refine av ?_
   refine aD ?_
   obtain⟨hp1,hp2⟩:1<n/\ai (ae (aj L k.1) (n-2)) (ae (aj L k.1) (n-1)) (ae L k.1)<=0:=by
    simp only[Bool.and_eq_true,decide_eq_true_eq]at t2
    exact⟨by omega,t2.2⟩
   refine QL hI 5 3 [] [] [Uc 0 34 _,Uc 1 35 _,Uc 2 36 _] (.k (.k .z)) (.aq (.cQ .z)) ⟨mv,mv,bn,trivial⟩ (.k (.k .z)) (.aq (.ew (.dk .z))) (Kg (n0:=1) (n-1) (hnf:=λ_=>cF _)) λa w hI=>?_
   dsimp only[List.set]at hI
   refine aQ ?_
   refine ah ?_
   refine tX hI 3 [] [] [Uc 0 32 _,Uc 1 33 _,Uc 2 6 _] (.k (.k .z)) (.aq (.cQ .z)) ⟨mv,KO,mv,trivial⟩ (.k (.k .z)) (.aq (.fN (.dk .z))) λa w hI=>?_
   refine ah ?_
   exact uq (n-1) ⟨by omega,by rw[hi.2]; exact DF hp1 hp2⟩ hI ⟨vc,NN,trivial⟩ ⟨gc,gc,gc,gc,gc,gc,trivial⟩ (by omega)
  ·
   refine cj ?_
   refine aH ?_
   refine aH ?_
   refine aY ?_
   refine ah ?_
   have hkn:cP (aj L k.1) (ae L k.1) n=n:=DD λhh=>by
    simp only[Bool.and_eq_false_iff,decide_eq_false_iff_not]at t2
    omega
   have hnl:n<=(aj L k.1).length:=hi.1
   have hlen:n+1=(aj L (k.1+1)).length:=by rw[rT,hi.2,hkn]
   have AO:(aj L k.1).take n++[ae L k.1]=aj L (k.1+1):=by rw[<-hkn,<-hi.2]; rfl
   refine QL hI 5 3 [] [] [Uc 0 38 _,Uc 1 39 _,Uc 2 40 _] (.k (.k .z)) (.aq (.cQ .z)) ⟨mv,ld,Vv 38,trivial⟩ (.d (.k .z)) (.aq (.ew (.dk .z))) (Rl (n0:=0) (λi=>cT (ae (aj L (k.1+1)) i)) (AO▸JG (O:=aj L k.1) hnl) (hnf:=λ_=>cF _) (hnp:=cF _) (hfit:=cm _)) λa w hI=>?_
   obtain⟨s',hI⟩:=hI
   dsimp only[List.set]at hI
   obtain⟨X',cap',rfl,hcap⟩:=yx hI 0 rfl
   refine aQ ?_
   refine ah ?_
   refine tX hI 2 [] [] [Uc 0 42 _,Uc 1 9 _] (.k .z) (.aq (.t 1 (.kk .z))) ⟨bn,mv,trivial⟩ (.k .z) (.aq (.bL (.k .z))) λa w hI=>?_
   refine ah ?_
   rw[hlen]at hI
   exact uq ((k.1+1,X',cap')) (by(show k.1+1<=L.length); omega) hI ⟨NN,trivial⟩ ⟨gc,gc,gc,gc,gc,trivial⟩ (by(show L.length-(k.1+1)<L.length-k.1); omega)
 ·
  refine cj ?_
  refine aH ?_
  refine aH ?_
  refine aY ?_
  refine ah ?_
  obtain⟨k,X,cap⟩:=k
  obtain rfl:k=L.length:=by(have hk':k<=L.length:=hk); omega
  dsimp only at hI
  have hle:=dP L L.length
  refine nC hI 6 4 [] [] [Uc 0 43 _,Uc 1 44 _,Uc 2 45 _,Uc 3 46 _] (.k .z) (.aq (.kk .z)) ⟨mv,mv,KO,bn,trivial⟩ (.k .z) (.bL (.Fa (.dk .z))) (Kg (n0:=0) ((aj L L.length).length-1) (hnf:=λ_=>cF _)) λa w hI=>?_
  dsimp only[List.set]at hI
  refine aJ ?_
  exact Rv (n0:=0) hI rfl rfl (by omega)
end Wx

namespace Wx
set_option maxRecDepth 100000
set_option maxHeartbeats 1000000
open Go Go.RowKit Go.Proofs
set_option linter.unusedVariables false
attribute [local irreducible] OpOk
variable {L:List Pt}
theorem yO (h:0<L.length/\L.length<=1000000):∀(M:Nat->Nat->Prop) (w:World) (v0:Value),cR M w->aM M (λw=>(bK 2 true L.length λi=>cT (ae L i)) w v0) w->Calls Tryz.prog 33 #[v0] w (Ig 2 L.length true (λi=>cT (ae L i)) w):=by
 intro M w0 v0 hM hv0
 refine Qg (N:=8) Tryz.func33 rfl rfl rfl hM hv0 λa hI=>?_
 refine bH hI 1 [Uc 0 2 _] (.k .z) ⟨mv,trivial⟩ (.kk .z) λa w hI=>?_
 refine av ?_
 refine bH hI 2 [Uc 0 3 _,Uc 1 4 _] (.kk .z) ⟨mv,D3 (E:=38) hs h.1 (by kernel_rfl) (pt rfl),trivial⟩ (.mX .z) λa w hI=>?_
 refine Xj hI (rfl) ?_
 refine aB ?_
 refine ah ?_
 refine aW hI 4 [⟨7,7,some 2,some 3,.grow (L.length) 2,38,3,true,pv iC,[]⟩,⟨2,2,some 3,none,.grow (L.length) 2,38,3,true,pv iC,[]⟩] [] [Uc 0 5 _,Uc 1 6 _,Uc 2 7 _,Uc 3 2 _] .z (.k (.t 3 (.k .z))) ⟨TY (sz:=2) 38,mv,TW (F:=cT) (e:=λk=>ae L k) L (0,0) cm (hn:=h.1) (hmax:=by omega),Vq,trivial⟩ (.d (.k .z)) (.bL (.lW .z)) λa w hI=>?_
 refine aJ ?_
 exact Rw hI rfl (n0:=0) rfl h.1 (k:=0) rfl
variable {m n:Nat}
theorem DI {b cap:Nat} (h:2<=n/\n<=1000/\n*2<=m/\∀k,1<=k->k<n->ae L k≠ae L (k-1)):∀(M:Nat->Nat->Prop) (w:World) (v0:Value),cR M w->(∀o,¬M b o)->One b m (oF n L) w->aM (jA M b) (λw=>bp (.slice (some ⟨b,0,none⟩) n cap) w v0) w->Calls Tryz.prog 36 #[v0] w (rM M b m (bp (.slice (some ⟨b,0,none⟩) n cap)) (oF n L) w):=by
 obtain⟨h1,h2,h3,hne⟩:=h
 intro M w0 v0 hM OZ h0 hv0
 refine Qb (N:=61) Tryz.func36 rfl rfl hM OZ (bU λ_=>cF _) h0 hv0 λa hI=>?_
 refine aW hI 1 [] [] [Uc 0 2 _] (.k .z) (.k .z) ⟨mv,trivial⟩ (.k .z) (.kk .z) λa w hI=>?_
 refine av ?_
 refine aW hI 3 [] [] [Uc 0 6 _,Uc 1 7 _,Uc 2 8 _] (.k .z) (.kk .z) ⟨mv,KO,bn,trivial⟩ (.k .z) (.dx (.k .z)) λa w hI=>?_
 refine iK hI (λt1=>?_) (λt1=>?_)
 ·exfalso; omega
 refine aB ?_
 refine ah ?_
 refine av ?_
 refine aW hI 1 [] [] [Uc 0 3 _] (.k .z) (.cQ .z) ⟨mv,trivial⟩ (.k .z) (.mX .z) λa w hI=>?_
 refine aD ?_
 refine vL [dy 61 b m _] [Uz 0 _] (λ(k:Nat)=>[]) (λ(k:Nat)=>[Uz 3 (pI (k:Int))]) (λ(k:Nat)=>1<=k/\k<=n) (λ(k:Nat)=>n-k) (1) (by omega) hI ⟨vO,trivial⟩ ⟨gi,gc,trivial⟩ ?_
 intro k a w hk hI
 refine av ?_
 refine aW hI 4 [] [] [Uc 0 10 _,Uc 1 11 _,Uc 2 12 _,Uc 3 13 _] (.k .z) (.kk .z) ⟨mv,mv,KO,bn,trivial⟩ (.k .z) (.dx (.dk .z)) λa w hI=>?_
 refine iK hI (λt2=>?_) (λt2=>?_)
 ·
  refine aB ?_
  refine ah ?_
  refine av ?_
  refine aD ?_
  refine BP hI [0,0,3,7,0,0,32,112,240,511] [] [] [Uc 0 16 _,Uc 1 17 _,Uc 2 18 _,Uc 3 19 _,Uc 4 20 _,Uc 5 21 _,Uc 6 22 _,Uc 7 23 _,Uc 8 24 _,Uc 9 25 _] (.k .z) (.cQ .z) ⟨mv,mv,iX 2 k,My 61 k,mv,mv,bn,iX 2 (k-1),My 61 (k-1),T7,trivial⟩ (.k .z) (.dx (.d8 (.k .z))) λa w hI=>?_
  refine iK hI (λt3=>?_) (λt3=>?_)
  ·exfalso; exact hne k (by omega) (by omega) t3
  refine aB ?_
  refine aQ ?_
  refine ah ?_
  refine tX hI 3 [] [] [Uc 0 14 _,Uc 1 15 _,Uc 2 3 _] (.k .z) (.k (.t 2 (.k .z))) ⟨mv,bn,mv,trivial⟩ (.k .z) (.fN (.dk .z)) λa w hI=>?_
  refine ah ?_
  exact uq (k+1) (by omega) hI ⟨vO,trivial⟩ ⟨gc,gc,trivial⟩ (by omega)
 ·
  refine cj ?_
  refine aH ?_
  refine aH ?_
  refine aY ?_
  refine ah ?_
  refine aW hI 2 [] [] [Uc 0 60 _,Uc 1 2 _] (.k .z) (.cQ .z) ⟨mv,mv,trivial⟩ (.k .z) (.bL (.k .z)) λa w hI=>?_
  refine aJ ?_
  exact OD (n0:=0) hI rfl rfl
theorem qg:(dN n L).length=n:=by
 unfold dN oH
 rw[List.length_map]
 show(List.mergeSort _ _).length=n
 rw[List.length_mergeSort,Array.length_toList,cB]
variable {i:Nat}
theorem Bu {d:Array Dc} (h:i<d.size):bG 16777216 (ae (oH d) i):=by
 rw[<-vE h]
 exact(d[i]!).h
theorem kj:∀q,q<n->bG 16777216 (ae (dN n L) q):=λq hq=>by
 unfold dN
 refine Bu ?_
 rw[List.size_toArray,List.length_mergeSort,Array.length_toList,cB]
 exact hq
abbrev dV (n:Nat) (S:List Pt):List Pt:=(List.range n).map λi=>ae S (n-1-i)
variable {S:List Pt}
theorem oL:(dV n S).length=n:=by rw[List.length_map,List.length_range]
theorem jZ (h:i<n):ae (dV n S) i=ae S (n-1-i):=by
 unfold ae
 rw[List.getD_eq_getElem?_getD,List.getElem?_map,List.getElem?_range h]
 rfl
theorem oh (hl:S.length=n) (h:2<=n/\n<=1000/\(∀q,q<n->bG 16777216 (ae S q))/\2<=(aj S n).length):∀(M:Nat->Nat->Prop) (w:World) (v0:Value),cR M w->aM M (λw=>bK 2 true n (λi=>cT (ae S i)) w v0) w->Calls Tryz.prog 37 #[v0] w (vS 2 ((aj S n).length-1) true 38 (λi=>cT (ae (aj S n) i)) w):=by
 subst hl
 exact Jf h
def dL (S R:List Pt) (n:Nat):List Pt:=(aj S n).take ((aj S n).length-1)++(aj R n).take ((aj R n).length-1)
variable {R:List Pt}
theorem pO:(dL S R n).length=(aj S n).length-1+((aj R n).length-1):=by
 unfold dL
 rw[List.length_append,List.length_take,List.length_take,Nat.min_eq_left (Nat.sub_le _ _),Nat.min_eq_left (Nat.sub_le _ _)]
theorem rD {O:List Pt} (h:i<m):ae (O.take m) i=ae O i:=by
 unfold ae
 rw[List.getD_eq_getElem?_getD,List.getD_eq_getElem?_getD,List.getElem?_take,if_pos h]
theorem yF:∀i w v,(if i<(aj S n).length-1 then cT (ae (aj S n) i)else cT (ae (aj R n) (i-((aj S n).length-1)))) w v->i<(aj S n).length-1+((aj R n).length-1)->cT (ae (dL S R n) i) w v:=λi w v h hi=>by
 have hl:((aj S n).take ((aj S n).length-1)).length=(aj S n).length-1:=by rw[List.length_take,Nat.min_eq_left (Nat.sub_le _ _)]
 by_cases h1:i<(aj S n).length-1
 ·rw[if_pos h1]at h
  have e:ae (dL S R n) i=ae (aj S n) i:=by
   rw[<-rD (O:=aj S n) h1]
   unfold ae dL
   rw[List.getD_eq_getElem?_getD,List.getD_eq_getElem?_getD,List.getElem?_append_left (by omega)]
  rw[e]
  exact h
 ·rw[if_neg h1]at h
  have e:ae (dL S R n) i=ae (aj R n) (i-((aj S n).length-1)):=by
   rw[<-rD (O:=aj R n) (m:=(aj R n).length-1) (by omega)]
   unfold ae dL
   rw[List.getD_eq_getElem?_getD,List.getD_eq_getElem?_getD,List.getElem?_append_right (by omega),hl]
  rw[e]
  exact h
abbrev tq (L:List Pt):Prop:=∀q,q<L.length->bG 16777216 (ae L q)
noncomputable abbrev sL (L:List Pt):List Pt:=dN L.length L
noncomputable abbrev rL (L:List Pt):List Pt:=dV L.length (sL L)
structure vQ (L:List Pt):Prop where
 two:2<=L.length
 max:L.length<=1000
 near:tq L
 ne:∀k,1<=k->k<L.length->ae (sL L) k≠ae (sL L) (k-1)
 lo:2<=(aj (sL L) L.length).length
 up:2<=(aj (rL L) L.length).length
theorem MA (h:vQ L):K1 Tryz.prog 18 (fF L) (bK 2 true ((aj (sL L) L.length).length-1+((aj (rL L) L.length).length-1)) λi=>cT (ae (dL (sL L) (rL L) L.length) i)):=by
 intro M w0 v0 hM hv0
 have h2:=h.two
 have hm:=h.max
 have hlo:=h.lo
 have QF:=h.up
 have Cn:=dP (sL L) L.length
 have hl2:=dP (rL L) L.length
 have EA:∀q,q<L.length->bG 16777216 (ae (rL L) q):=λq hq=>by rw[jZ hq]; exact kj _ (by omega)
 refine uA (N:=21) Tryz.func18 rfl rfl rfl hM hv0 λa hI=>?_
 refine bH hI 1 [Uc 0 2 _] (.k .z) ⟨mv,trivial⟩ (.kk .z) λa w hI=>?_
 refine nC hI 3 1 [] [] [Uc 0 5 _] .z (.kk .z) ⟨mv,trivial⟩ .z (.Dn .z) (T4 (yO (L:=L)) ⟨by omega,by omega⟩ (λ_=>cF _)) λa w hI=>?_
 obtain⟨b6,c6,O3,hI⟩:=hI
 refine nC hI 2 1 [] [] [Uc 0 7 _] (.k .z) (.cQ .z) ⟨mv,trivial⟩ (.k .z) (.mX .z) ⟨_,TZ (n0:=0) (FY (L:=L) (b:=b6) (n:=L.length) (N:=c6*2) (c:=c6)) (c1:=λ_ _ h=>h) (c2:=λ_ _ h=>h) (hφ:=⟨h.near,hm,by omega⟩) (hp:=bO _) (hq:=bU λ_=>cF _),rfl⟩ λa w hI=>?_
 dsimp only[List.set]at hI
 refine nC hI 3 1 [] [] [Uc 0 9 _] (.k .z) (.aq .z) ⟨mv,trivial⟩ (.k .z) (.Fa (.k .z)) (Oh (n0:=0) (DI (L:=sL L) (b:=b6) (m:=c6*2) (n:=L.length) (cap:=c6)) ⟨h2,hm,by omega,h.ne⟩ (bU λ_=>cF _) (c1:=λ_ _ h=>h)) λa w hI=>?_
 dsimp only[List.set]at hI
 refine aW hI 1 [] [] [Uc 0 3 _] (.k .z) (.cQ .z) ⟨mv,trivial⟩ (.k .z) (.mX .z) λa w hI=>?_
 refine nC hI 4 2 [] [] [Uc 0 11 _,Uc 1 12 _] (.k .z) (.cQ .z) ⟨mv,mv,trivial⟩ (.k .z) (.aq (.k .z)) (T3 (n0:=0) (oh (S:=sL L) qg) ⟨h2,hm,kj,hlo⟩ (λ_=>cF _) (hc:=O3)) λa w hI=>?_
 obtain⟨Vs,c13,R1,hI⟩:=hI
 refine nC hI 2 1 [] [] [Uc 0 14 _] (.k (.k .z)) (.aq (.kk .z)) ⟨mv,trivial⟩ (.k (.k .z)) (.aq (.lW .z)) ⟨_,Ri (n0:=1) (uY (L:=sL L) (b:=b6) (n:=L.length) (N:=c6*2) (c:=c6)) (c1:=λ_ _ h=>h) (hφ:=⟨hm,by omega,kj⟩) (hp:=bO _) (hq:=bU λ_=>cF _),rfl⟩ λa w hI=>?_
 dsimp only[List.set]at hI
 refine nC hI 6 4 [] [] [Uc 0 16 _,Uc 1 17 _,Uc 2 18 _,Uc 3 19 _] (.k (.k .z)) (.aq (.kk .z)) ⟨mv,mv,mv,T2 (oh (S:=rL L) oL) 6 ⟨h2,hm,EA,QF⟩ (λ_=>cF _) (hcap:=O3),trivial⟩ (.k (.k .z)) (.bL (.Fa (.dk .z))) (E5 (n0:=0) (λi=>cT (ae (dL (sL L) (rL L) L.length) i)) yF (by omega) (hnf:=λ_=>cF _) (hng:=λ_=>cF _) (hfit:=λ_=>cm _)) λa w hI=>?_
 obtain⟨s',hI⟩:=hI
 dsimp only[List.set]at hI
 have hI:=Bz hI 0 2 rfl (by kernel_rfl)
 dsimp only[List.eraseIdx]at hI
 refine aJ ?_
 exact dB hI rfl fK
end Wx
