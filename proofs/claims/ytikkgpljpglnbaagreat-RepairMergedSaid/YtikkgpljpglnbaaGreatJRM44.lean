import Derived.Test.YtikkgpljpglnbaaGreatCRMRepHu
namespace Wx
open Go Go.RowKit Go.Proofs
theorem zK (n:Nat) (L:List Pt):(dN n L).Pairwise GH:=by
 unfold dN oH
 show(List.map _ (List.mergeSort _ _)).Pairwise GH
 rw[List.pairwise_map]
 refine(List.pairwise_mergeSort (le:=λx y=>!(ltOf jG) y x) ?_ ?_ _).imp λ{x y} h=>?_
 ·intro a b c h1 h2
  simp only[Bool.not_eq_true']at h1 h2 ⊢
  exact Nh.ntrans c b a h2 h1
 ·intro a b
  cases h:ltOf jG b a with
  |false=>simp
  |true=>
   have:ltOf jG a b=false:=by
    rw[lt_iff]at h
    rw[jU]
    omega
   simp[this]
 ·have h:ltOf jG y x=false:=by simpa using h
  rw[jU]at h
  show x.p.1<y.p.1\/(x.p.1=y.p.1/\x.p.2<=y.p.2)
  omega
variable {n:Nat} {L:List Pt}
theorem tL (hn:∀q,q<n->bG 16777216 (ae L q)):(dN n L).Perm ((List.range n).map λi=>ae L i):=by
 have e1:(nA n L).toList.map (·.p)=(List.range n).map λi=>ae L i:=by
  unfold nA
  show List.map _ (List.map _ _)=_
  rw[List.map_map]
  exact List.map_congr_left λi hi=>zQ (hn i (List.mem_range.1 hi))
 unfold dN oH
 refine((List.mergeSort_perm _ _).map _).trans ?_
 rw[e1]
theorem lE {i:Nat} (h:i<L.length):ae L i=L[i]:=by
 unfold ae
 rw[List.getD_eq_getElem?_getD,List.getElem?_eq_getElem h]
 rfl
theorem JQ (i:Nat) (h:i+1<n):sP (ae (dN n L) i) (ae (dN n L) (i+1)):=by
 have hl:=qg (n:=n) (L:=L)
 have k:=List.pairwise_iff_getElem.1 (zK n L) i (i+1) (by omega) (by omega) (by omega)
 rw[<-lE,<-lE]at k
 generalize ae (dN n L) i=a at *
 generalize ae (dN n L) (i+1)=b at *
 obtain⟨a1,a2⟩:=a
 obtain⟨b1,b2⟩:=b
 have k:a1<b1\/(a1=b1/\a2<=b2):=k
 have:(a1<b1\/(a1=b1/\a2<b2))\/(a1=b1/\a2=b2):=by omega
 rcases this with h|⟨rfl,rfl⟩
 ·exact .inl h
 ·exact .inr rfl
theorem oQ (hn:∀q,q<n->bG 16777216 (ae L q)) {p:Pt}:(∃i,i<n/\ae (dN n L) i=p)↔∃j,j<n/\ae L j=p:=by
 have hm:p∈dN n L↔p∈(List.range n).map λi=>ae L i:=(tL hn).mem_iff
 have hl:=qg (n:=n) (L:=L)
 have h1:p∈dN n L↔∃i,i<n/\ae (dN n L) i=p:=by
  rw[List.mem_iff_getElem]
  constructor
  ·rintro⟨i,hi,e⟩
   exact⟨i,by omega,by rw[lE hi]; exact e⟩
  ·rintro⟨i,hi,e⟩
   exact⟨i,by omega,by rw[<-lE]; exact e⟩
 have h2:p∈((List.range n).map λi=>ae L i)↔∃j,j<n/\ae L j=p:=by
  rw[List.mem_map]
  exact⟨λ⟨j,hj,e⟩=>⟨j,List.mem_range.1 hj,e⟩,λ⟨j,hj,e⟩=>⟨j,List.mem_range.2 hj,e⟩⟩
 rw[<-h1,hm,h2]
noncomputable def cL (L:List Pt):List Pt:=eu (sL L) L.length
noncomputable def hL (L:List Pt):List Pt:=dL (cL L) (dV (cL L).length (cL L)) (cL L).length
theorem EU (h1:1<=L.length):QM (sL L) L.length (cL L):=Fb (n:=L.length) (λi hi=>JQ i hi) L.length h1 (Nat.le_refl _)
structure Ic (L:List Pt):Prop where
 two:2<=L.length
 max:L.length<=1000
 near:tq L
 c2:2<=(cL L).length
theorem Dh {C:List Pt} (hC:Kb C) (h2:2<=C.length):2<=(aj C C.length).length/\2<=(aj (dV C.length C) C.length).length:=by
 obtain⟨a1,a2,a3,a4⟩:=KP hC (by omega)
 obtain⟨b1,b2,b3,b4⟩:=Lj hC (by omega)
 have e0:en (ae C 0) (ae C (C.length-1)):=hC 0 _ (by omega) (by omega)
 constructor
 ·rcases Nat.lt_or_ge (aj C C.length).length 2 with g|g
  ·rw[show(aj C C.length).length-1=0 by omega,a2]at a3
   exact(dA (a3▸e0)).elim
  ·exact g
 ·rcases Nat.lt_or_ge (aj (dV C.length C) C.length).length 2 with g|g
  ·rw[show(aj (dV C.length C) C.length).length-1=0 by omega,b2]at b3
   exact(dA (b3▸e0)).elim
  ·exact g
structure uD (L H:List Pt):Prop where
 pos:1<=L.length
 max:L.length<=1000
 near:tq L
 two:2<=H.length
 hmax:H.length<=2000
 least:∀j,j<L.length->sP (ae H 0) (ae L j)
 rest:∀i,0<i->i<H.length->ae H i≠ae H 0
 mU:∀i,i+1<H.length->uB L L.length (ae H i) (ae H (i+1))
 back:uB L L.length (ae H (H.length-1)) (ae H 0)
 mem:∀i,i<H.length->∃j,j<L.length/\ae L j=ae H i
theorem Kt (h:Ic L):uD L (hL L):=by
 have h2:=h.two
 have hc:=EU (L:=L) (by omega)
 have hh:=I3 hc.NK h.c2
 have hle:=hc.le
 have OK:∀j,j<L.length->∃i,i<(cL L).length/\ae L j=ae (cL L) i:=λj hj=>by
  obtain⟨a,ha,ea⟩:=(oQ (n:=L.length) (p:=ae L j) h.near).2 ⟨j,hj,rfl⟩
  obtain⟨i,hi,ei⟩:=hc.all a ha
  exact⟨i,hi,by rw[ei]; exact ea.symm⟩
 have VK:∀i,i<(cL L).length->∃j,j<L.length/\ae L j=ae (cL L) i:=λi hi=>by
  obtain⟨a,ha,ea⟩:=hc.mem i hi
  exact(oQ (n:=L.length) (p:=ae (cL L) i) h.near).1 ⟨a,ha,ea.symm⟩
 have hmx:=h.max
 refine⟨by omega,hmx,h.near,hh.two,by have:=hh.max; unfold hL; omega,λj hj=>?_,λi h0 hi e=>?_,λi hi=>yh (hh.mU i hi) OK,yh hh.back OK,λi hi=>?_⟩
 ·obtain⟨i,hi,e⟩:=OK j hj
  show sP (ae (dL _ _ _) 0) _
  rw[hh.first,e]
  rcases Nat.eq_zero_or_pos i with g|g
  ·rw[g]; exact .inr rfl
  ·exact .inl (hc.NK 0 i g hi)
 ·have:=hh.rest i h0 hi
  have e:ae (dL (cL L) (dV (cL L).length (cL L)) (cL L).length) i=ae (dL (cL L) (dV (cL L).length (cL L)) (cL L).length) 0:=e
  rw[e,hh.first]at this
  exact dA this
 ·obtain⟨a,ha,ea⟩:=hh.mem i hi
  obtain⟨j,hj,ej⟩:=VK a ha
  exact⟨j,hj,by rw[ej]; exact ea.symm⟩
end Wx

namespace Wx
open Go Go.RowKit Go.Proofs
set_option linter.unusedVariables false
section
variable {P:Program} {ops:Array Oper} {ms:List Nat} {c:cM} {V:List Vr} {A:List Al} {G:List aV} {i d:Nat} {x y z:Operand} {ty:TypeId} {pos:String} {aL:Array Edge}{T:TypeId} {b off n cap:Nat}
theorem P8 (sz k:Nat) (h:Has ms G i x (bp (.slice (some ⟨b,off,none⟩) n cap)):=by exact hs) (hy:Has ms G i y (pI (k:Int)):=by exact hs) (hp:Post G i (bp (.slice (some ⟨b,off+k*sz,none⟩) (n-k) (cap-k))):=by exact pt rfl) (hk:k<n:=by omega) (hcap:n<=cap:=by omega) (ht:JP P T sz=true:=by kernel_rfl):OpOk P ops ms c V A G i ⟨some d,.slice T x (some y) none none,ty,pos,aL,none⟩:=by
 obtain⟨E,hE⟩:=qf ht
 exact cq rfl rfl rfl (.inl rfl) hp λL β a w hI hd=>by
  have ex:a.eval x=.slice (some ⟨b,off,none⟩) n cap:=(h.spec hI hd).out
  have ey:a.eval y=.int .i64 k:=(hy.spec hI hd).out
  refine⟨_,w,?_,Below.refl _ _,λ_ _=>rfl⟩
  show(do pure (Next.value (<-Instr.sliceAt T (a.eval x) (some (a.eval y)) none none))).run P w=_
  rw[ex,ey]
  have hr:(Instr.sliceAt T (.slice (some ⟨b,off,none⟩) n cap) (some (.int .i64 k)) none none).run P w=.ok (.slice (some ⟨b,off+k*sz,none⟩) (n-k) (cap-k)) w:=by
   have e1:(Instr.sliceBound (.int .i64 k) n .sliceB).run P w=.ok k w:=by
    have:=run_sliceBound (P:=P) w .i64 (k:Int) n .sliceB (by omega) (by omega)
    simpa using this
   have hne:¬cap=k:=by omega
   simp only[Instr.sliceAt,Sem.run_bind,run_underlying hE.under,Result.andThen_ok,Instr.slice,Instr.sliceBounds,Sem.run_pure]
   simp only[Option.isSome_none,Bool.false_eq_true,if_false,e1,Result.andThen_ok,hE.size w,hne,Option.map_some,Addr.add_mid]
  rw[Sem.run_bind,hr]
  rfl
theorem Tq {X:Option Addr} (sz k:Nat) (h:Has ms G i x (bp (.slice X n cap)):=by exact hs) (hy:Has ms G i y (pI (k:Int)):=by exact hs) (hp:Post G i (bp (.slice X k cap)):=by exact pt rfl) (hk:k<=n:=by omega) (hcap:n<=cap:=by omega) (ht:JP P T sz=true:=by kernel_rfl):OpOk P ops ms c V A G i ⟨some d,.slice T x none (some y) none,ty,pos,aL,none⟩:=by
 obtain⟨E,hE⟩:=qf ht
 exact cq rfl rfl rfl (.inl rfl) hp λL β a w hI hd=>by
  have ex:a.eval x=.slice X n cap:=(h.spec hI hd).out
  have ey:a.eval y=.int .i64 k:=(hy.spec hI hd).out
  refine⟨_,w,?_,Below.refl _ _,λ_ _=>rfl⟩
  show(do pure (Next.value (<-Instr.sliceAt T (a.eval x) none (some (a.eval y)) none))).run P w=_
  rw[ex,ey]
  have hr:(Instr.sliceAt T (.slice X n cap) none (some (.int .i64 k)) none).run P w=.ok (.slice X k cap) w:=by
   have e1:(Instr.sliceBound (.int .i64 k) cap .sliceAcap).run P w=.ok k w:=by
    have:=run_sliceBound (P:=P) w .i64 (k:Int) cap .sliceAcap (by omega) (by omega)
    simpa using this
   have e3:X.map (λq=>q.add 0)=X:=by
    cases X with
    |none=>rfl
    |some q=>rfl
   simp only[Instr.sliceAt,Sem.run_bind,run_underlying hE.under,Result.andThen_ok,Instr.slice,Instr.sliceBounds,Sem.run_pure]
   simp only[e1,Result.andThen_ok,hE.size w,Nat.zero_mul,Nat.sub_zero,e3,ite_self,if_true]
  rw[Sem.run_bind,hr]
  rfl
variable {q:Nat} {L:List Pt} {p:Pt}
theorem Nb {w:World} {cs ds:List Value} {L':List Pt} (hq:q<n) (hl:n*2<=cs.length) (hd:ds.length=2) (h:oF n L w (au true cs)) (hp:cT p w (au true ds)) (hL:∀j,j<n->ae L' j=if j=q then p else ae L j):oF n L' w (au true (cs.take (q*2)++ds++cs.drop (q*2+2))):=by
 obtain⟨cs',e,hc⟩:=h
 have e:cs=cs':=by
  have e:Value.agg cs.toArray=.agg cs'.toArray:=e
  simpa using e
 subst e
 have PC:(cs.take (q*2)).length=q*2:=by rw[List.length_take]; omega
 refine⟨_,rfl,λj hj=>?_⟩
 show cT (ae L' j) w _
 rw[hL j hj]
 by_cases g:j=q
 ·subst g
  rw[if_pos rfl,List.append_assoc,List.drop_append,List.drop_eq_nil_of_le (by omega),List.nil_append,PC,Nat.sub_self,List.drop_zero,List.take_append_of_le_length (by omega),List.take_of_length_le (by omega)]
  exact hp
 ·rw[if_neg g]
  have hb:=hc j hj
  rcases Nat.lt_or_ge j q with g2|g2
  ·have e1:((cs.take (q*2)++ds++cs.drop (q*2+2)).drop (j*2)).take 2=(cs.drop (j*2)).take 2:=by
    rw[List.append_assoc,List.drop_append_of_le_length (by omega),List.take_append_of_le_length (by rw[List.length_drop]; omega),List.drop_take,List.take_take,Nat.min_eq_left (by omega)]
   rw[e1]
   exact hb
  ·have e1:((cs.take (q*2)++ds++cs.drop (q*2+2)).drop (j*2)).take 2=(cs.drop (j*2)).take 2:=by
    have hl2:(cs.take (q*2)++ds).length=q*2+2:=by rw[List.length_append,PC,hd]
    rw[List.drop_append,List.drop_eq_nil_of_le (by omega),List.nil_append,hl2,List.drop_drop,show q*2+2+(j*2-(q*2+2))=j*2 by omega]
   rw[e1]
   exact hb
theorem Ts {v:Vr} {m:Nat} {r:List (Nat×Rel)} (N:Nat) (L':List Pt) (hL:∀j,j<n->ae L' j=if j=q then p else ae L j) (hv:lO N V=some v:=by exact rfl) (ho:bA ms i v=true:=by exact rfl) (bS:v.kd=.obj:=by exact rfl) (hst:(v.st.all λq=>(q.1==i||(ms.getD i 0).testBit q.1)||(ms.getD q.1 0).testBit i)=true:=by kernel_rfl)
  (hc:cont (λj=>(ms.getD i 0).testBit j) v.c0 v.st=tr b m (oF n L):=by exact rfl) (h:Has ms G i y (bp (.pointer (some ⟨b,off,none⟩))):=by exact hs) (hz:Has ms G i z (cT p):=by exact hs) (hm:NL i v.st=some (tr b m (oF n L'),r):=by exact rfl) (hq:q<n:=by omega) (hoff:off=q*2:=by omega) (hlen:n*2<=m:=by omega) (ht:He P T true 2=true:=by kernel_rfl)
  (hr:(r.all λr=>(ms.getD r.1 0).testBit i)=true:=by kernel_rfl) (nU:(V.all λy=>y.id==v.id||y.st.all λq=>q.1 != i)=true:=by kernel_rfl):OpOk P ops ms c V A G i ⟨none,.store T y z,ty,pos,aL,none⟩:=by
 obtain⟨⟨k',hk⟩,_⟩:=dX hv
 obtain⟨mm,h5,h6⟩:=xg hm
 subst hoff
 exact D4 k' hk ho bS hst mm h5 (by rw[h6]; exact hr) nU hc h (m:=2) (by omega) (bE ht) hz (cm p) (λw cs ds hl hl2 Px hp=>Nb hq (by omega) hl2 Px hp hL) (bU λ_=>cF _)
end
theorem uu {φ:Value->Prop} {zs:Array Value} (h:∀u∈zs.toList,φ u) (n:Nat):∀u∈(Builtin.zeroCells zs n).toList,φ u:=by
 intro u hu
 simp only[Builtin.zeroCells,Array.toList_map,List.mem_map,Array.mem_toList_iff,Array.mem_range]at hu
 obtain⟨k,hk,rfl⟩:=hu
 have hpos:0<zs.size:=by
  rcases Nat.eq_zero_or_pos zs.size with hz|hz
  ·rw[hz]at hk; simp at hk
  ·exact hz
 have hlt:k%zs.size<zs.size:=Nat.mod_lt _ hpos
 rw[getElem!_pos zs _ hlt]
 exact h _ (by simp)
theorem Iq {P:Program} {c:cM} {V:List Vr} {G:List aV} {ops:Array Oper} {T E:TypeId} {id n0 b m n k cap:Nat} {L L':List Pt} {x:Operand} {ty:TypeId} {pos:String} {aL:Array Edge} (hT:P.underlying T=some (.slice E)) (hz:∀w,(zeroValue E).run P w=.ok (.agg #[.int .i64 0,.int .i64 0]) w) (hL:∀j,j<k->ae L' j=ae L j) (hk:k<n) (hnm:n*2<=m) (hv:V[n0]?=some (dy id b m (oF n L)):=by exact rfl) (h:Has [0] G 0 x (bp (.slice (some ⟨b,0+k*2,none⟩) (n-k) cap)):=by exact hs)
  (hV:bj V=true:=by kernel_rfl) (hG:bV G=true:=by kernel_rfl) (hu:dO V id n0=true:=by kernel_rfl):∀a w,Inv c V [] G none_ a w->cO P ops ⟨none,.call ⟨.builtin .clear,#[x],#[T]⟩,ty,pos,aL,none⟩ a w (Inv c (V.set n0 (dy id b m (oF k L'))) [] G none_):=by
 rintro a w ⟨β,hI⟩
 have hx:=List.mem_of_getElem? hv
 have hO:=(aK rfl).1 (hI.var _ hx rfl)
 obtain⟨hβ,cs,T0,h1,h2,h3,h4⟩:(∀k,β id k↔k=b)/\One b m (oF n L) w:=hO.2.out
 have ex:a.eval x=.slice (some ⟨b,0+k*2,none⟩) (n-k) cap:=(h.spec hI mS).out
 let zs:List Value:=(Builtin.zeroCells #[.int .i64 0,.int .i64 0] (n-k)).toList
 have xw:zs.length=(n-k)*2:=by show(Builtin.zeroCells _ _).toList.length=_; rw[Array.length_toList,size_zeroCells]; rfl
 have UG:∀u∈zs,gv u/\u.oneCell'=true:=uu (φ:=λu=>gv u/\u.oneCell'=true) (zs:=#[.int .i64 0,.int .i64 0]) (λu hu=>by
  have:u=.int .i64 0:=by simpa using hu
  rw[this]
  exact⟨me 0,rfl⟩) (n-k)
 have hst:(storeCells ⟨b,k*2,none⟩ zs 0).run P w=.ok () (w.setRow b (cs.take (k*2)++zs++cs.drop (k*2+zs.length)).toArray):=by
  have:=run_storeCells_at P b (k*2) T0 zs 0 cs.toArray w h1 (by simp; omega) λu hu=>(UG u hu).2
  simpa using this
 have hr:(Builtin.clear_ #[T] ty #[a.eval x]).run P w=.ok (.tuple #[]) (w.setRow b (cs.take (k*2)++zs++cs.drop (k*2+zs.length)).toArray):=by
  rw[ex]
  obtain⟨j,hj⟩:∃j,n-k=j+1:=⟨n-k-1,by omega⟩
  rw[Nat.zero_add,hj]
  have AR:(Builtin.zeroCells (Value.agg #[.int .i64 0,.int .i64 0]).cells (j+1)).toList=zs:=by show(Builtin.zeroCells #[.int .i64 0,.int .i64 0] (j+1)).toList=(Builtin.zeroCells _ (n-k)).toList; rw[hj]
  simp[Builtin.clear_,run_underlying hT,hz,AR,hst]
 have I0:∀u∈cs.take (k*2)++zs++cs.drop (k*2+zs.length),gv u:=λu gh=>by
  rcases List.mem_append.1 gh with gh|gh
  ·rcases List.mem_append.1 gh with gh|gh
   ·exact h3 u (List.mem_of_mem_take gh)
   ·exact(UG u gh).1
  ·exact h3 u (List.mem_of_mem_drop gh)
 have hgx:β id b:=(hβ b).2 rfl
 have og:∀o,own c V none_ β b o:=λo=>.inr ⟨_,hx,rfl,hgx,Nat.zero_le _⟩
 have hlen:(cs.take (k*2)++zs++cs.drop (k*2+zs.length)).length=m:=by rw[List.length_append,List.length_append,List.length_take,List.length_drop]; omega
 have hone:One b m (oF k L') (w.setRow b (cs.take (k*2)++zs++cs.drop (k*2+zs.length)).toArray):=by
  refine⟨_,T0,setRow_heap w _ _ _ _ _ h1,hlen,I0,_,rfl,λj hj=>?_⟩
  obtain⟨cs',e,hc⟩:=h4
  have e:cs=cs':=by
   have e:Value.agg cs.toArray=.agg cs'.toArray:=e
   simpa using e
  subst e
  show cT (ae L' j) _ _
  rw[hL j hj]
  have e1:((cs.take (k*2)++zs++cs.drop (k*2+zs.length)).drop (j*2)).take 2=(cs.drop (j*2)).take 2:=by
   have PC:(cs.take (k*2)).length=k*2:=by rw[List.length_take]; omega
   rw[List.append_assoc,List.drop_append_of_le_length (by omega),List.take_append_of_le_length (by rw[List.length_drop]; omega),List.drop_take,List.take_take,Nat.min_eq_left (by omega)]
  rw[e1]
  exact cF _ (own c V none_ β) w _ (aZ hI) (hc j (by omega)) _ ⟨Nat.le_of_eq size_setRow.symm,λk hk hno=>aC λe'=>hno 0 (by rw[e']; exact og 0),λk o u hno gh=>by
   have xu:k≠b:=λe'=>hno (by rw[e']; exact og o)
   rw[World.cell?_of_block (w:=w) (a:=⟨k,o,none⟩) (aC xu)]; exact gh⟩
 have kE:cR (own c V none_ β) (w.setRow b (cs.take (k*2)++zs++cs.drop (k*2+zs.length)).toArray):=λk' o hk'=>by
  obtain⟨k1,k2⟩:=aZ hI k' o hk'
  refine⟨by rw[size_setRow]; exact k1,λu gh=>?_⟩
  by_cases xu:k'=b
  ·rw[xu]at gh; exact hone.KU o u gh
  ·rw[World.cell?_of_block (w:=w) (a:=⟨k',o,none⟩) (aC xu)]at gh
   exact k2 u gh
 refine .of rfl ?_
 unfold Does
 have hx2:(execOp a.eval ⟨none,.call ⟨.builtin .clear,#[x],#[T]⟩,ty,pos,aL,none⟩).run P w=.ok (.value (.tuple #[])) (w.setRow b (cs.take (k*2)++zs++cs.drop (k*2+zs.length)).toArray):=by
  show(do let d <-resolve a.eval ⟨.builtin .clear,#[x],#[T]⟩ ty; invoke d.target d.args).run P w=_
  simp only[resolve,invoke,pure_bind,builtin]
  rw[show(#[x]:Array Operand).map a.eval=#[a.eval x] by simp,Sem.run_bind,hr]
  rfl
 rw[hx2]
 have hle:cz (β id) w (w.setRow b (cs.take (k*2)++zs++cs.drop (k*2+zs.length)).toArray):=⟨rfl,rfl,rfl,Nat.le_of_eq size_setRow.symm,λk' hk' hn=>aC λe=>hn (e▸hgx)⟩
 have hm:=hI.move (B':=β id) (R':=tr b m (oF k L')) hV hG hv (eC hu) hle (λk hk=>.inl hk) (λk' hk'=>by
  rw[(hβ k').1 hk']
  exact⟨hone.lt,λo v hv=>hone.KU o v hv⟩) ((hone.box hgx (bU λ_=>cF _) kE).imp λw h=>⟨hβ,h⟩)
 exact⟨_,hm⟩
end Wx
