import Derived.Test.YtikkgpljpglnbaaGreatCRMRepHu
namespace Wx
open Go Go.RowKit Go.Proofs
theorem Eu (n:Nat) (L:List Pt):(dr n L).Pairwise D9:=by
 unfold dr mJ
 show(List.map _ (List.mergeSort _ _)).Pairwise D9
 rw[List.pairwise_map]
 refine(List.pairwise_mergeSort (le:=λx y=>!(ltOf iQ) y x) ?_ ?_ _).imp λ{x y} h=>?_
 ·intro a b c h1 h2
  simp only[Bool.not_eq_true']at h1 h2 ⊢
  exact Kw.ntrans c b a h2 h1
 ·intro a b
  cases h:ltOf iQ b a with
  |false=>simp
  |true=>
   have:ltOf iQ a b=false:=by
    rw[lt_iff]at h
    rw[ja]
    omega
   simp[this]
 ·have h:ltOf iQ y x=false:=by simpa using h
  rw[ja]at h
  show x.p.1<y.p.1\/(x.p.1=y.p.1/\x.p.2<=y.p.2)
  omega
variable {n:Nat} {L:List Pt}
theorem zc (hn:∀q,q<n->cG 16777216 (ae L q)):(dr n L).Perm ((List.range n).map λi=>ae L i):=by
 have e1:(lK n L).toList.map (·.p)=(List.range n).map λi=>ae L i:=by
  unfold lK
  show List.map _ (List.map _ _)=_
  rw[List.map_map]
  exact List.map_congr_left λi hi=>xq (hn i (List.mem_range.1 hi))
 unfold dr mJ
 refine((List.mergeSort_perm _ _).map _).trans ?_
 rw[e1]
theorem mH {i:Nat} (h:i<L.length):ae L i=L[i]:=by
 unfold ae
 rw[List.getD_eq_getElem?_getD,List.getElem?_eq_getElem h]
 rfl
theorem GI (i:Nat) (h:i+1<n):oL (ae (dr n L) i) (ae (dr n L) (i+1)):=by
 have hl:=nP (n:=n) (L:=L)
 have k:=List.pairwise_iff_getElem.1 (Eu n L) i (i+1) (by omega) (by omega) (by omega)
 rw[<-mH,<-mH]at k
 generalize ae (dr n L) i=a at *
 generalize ae (dr n L) (i+1)=b at *
 obtain⟨a1,a2⟩:=a
 obtain⟨b1,b2⟩:=b
 have k:a1<b1\/(a1=b1/\a2<=b2):=k
 have:(a1<b1\/(a1=b1/\a2<b2))\/(a1=b1/\a2=b2):=by omega
 rcases this with h|⟨rfl,rfl⟩
 ·exact .inl h
 ·exact .inr rfl
theorem mU (hn:∀q,q<n->cG 16777216 (ae L q)) {p:Pt}:(∃i,i<n/\ae (dr n L) i=p)↔∃j,j<n/\ae L j=p:=by
 have hm:p∈dr n L↔p∈(List.range n).map λi=>ae L i:=(zc hn).mem_iff
 have hl:=nP (n:=n) (L:=L)
 have h1:p∈dr n L↔∃i,i<n/\ae (dr n L) i=p:=by
  rw[List.mem_iff_getElem]
  constructor
  ·rintro⟨i,hi,e⟩
   exact⟨i,by omega,by rw[mH hi]; exact e⟩
  ·rintro⟨i,hi,e⟩
   exact⟨i,by omega,by rw[<-mH]; exact e⟩
 have h2:p∈((List.range n).map λi=>ae L i)↔∃j,j<n/\ae L j=p:=by
  rw[List.mem_map]
  exact⟨λ⟨j,hj,e⟩=>⟨j,List.mem_range.1 hj,e⟩,λ⟨j,hj,e⟩=>⟨j,List.mem_range.2 hj,e⟩⟩
 rw[<-h1,hm,h2]
noncomputable def cL (L:List Pt):List Pt:=dH (sL L) L.length
noncomputable def hL (L:List Pt):List Pt:=di (cL L) (dz (cL L).length (cL L)) (cL L).length
theorem CG (h1:1<=L.length):NU (sL L) L.length (cL L):=CT (n:=L.length) (λi hi=>GI i hi) L.length h1 (Nat.le_refl _)
structure Fc (L:List Pt):Prop where
 two:2<=L.length
 max:L.length<=1000
 near:rB L
 c2:2<=(cL L).length
theorem Bf {C:List Pt} (hC:G7 C) (h2:2<=C.length):2<=(ah C C.length).length/\2<=(ah (dz C.length C) C.length).length:=by
 obtain⟨a1,a2,a3,a4⟩:=Il hC (by omega)
 obtain⟨b1,b2,b3,b4⟩:=IV hC (by omega)
 have e0:eL (ae C 0) (ae C (C.length-1)):=hC 0 _ (by omega) (by omega)
 constructor
 ·rcases Nat.lt_or_ge (ah C C.length).length 2 with g|g
  ·rw[show(ah C C.length).length-1=0 by omega,a2]at a3
   exact(dK (a3▸e0)).elim
  ·exact g
 ·rcases Nat.lt_or_ge (ah (dz C.length C) C.length).length 2 with g|g
  ·rw[show(ah (dz C.length C) C.length).length-1=0 by omega,b2]at b3
   exact(dK (b3▸e0)).elim
  ·exact g
structure zD (L H:List Pt):Prop where
 pos:1<=L.length
 max:L.length<=1000
 near:rB L
 two:2<=H.length
 hmax:H.length<=2000
 least:∀j,j<L.length->oL (ae H 0) (ae L j)
 rest:∀i,0<i->i<H.length->ae H i≠ae H 0
 qq:∀i,i+1<H.length->nT L L.length (ae H i) (ae H (i+1))
 back:nT L L.length (ae H (H.length-1)) (ae H 0)
 mem:∀i,i<H.length->∃j,j<L.length/\ae L j=ae H i
theorem LK (h:Fc L):zD L (hL L):=by
 have h2:=h.two
 have hc:=CG (L:=L) (by omega)
 have hh:=FR hc.K5 h.c2
 have hle:=hc.le
 have LJ:∀j,j<L.length->∃i,i<(cL L).length/\ae L j=ae (cL L) i:=λj hj=>by
  obtain⟨a,ha,ea⟩:=(mU (n:=L.length) (p:=ae L j) h.near).2 ⟨j,hj,rfl⟩
  obtain⟨i,hi,ei⟩:=hc.all a ha
  exact⟨i,hi,by rw[ei]; exact ea.symm⟩
 have SA:∀i,i<(cL L).length->∃j,j<L.length/\ae L j=ae (cL L) i:=λi hi=>by
  obtain⟨a,ha,ea⟩:=hc.mem i hi
  exact(mU (n:=L.length) (p:=ae (cL L) i) h.near).1 ⟨a,ha,ea.symm⟩
 have hmx:=h.max
 refine⟨by omega,hmx,h.near,hh.two,by have:=hh.max; unfold hL; omega,λj hj=>?_,λi h0 hi e=>?_,λi hi=>vQ (hh.qq i hi) LJ,vQ hh.back LJ,λi hi=>?_⟩
 ·obtain⟨i,hi,e⟩:=LJ j hj
  show oL (ae (di _ _ _) 0) _
  rw[hh.first,e]
  rcases Nat.eq_zero_or_pos i with g|g
  ·rw[g]; exact .inr rfl
  ·exact .inl (hc.K5 0 i g hi)
 ·have:=hh.rest i h0 hi
  have e:ae (di (cL L) (dz (cL L).length (cL L)) (cL L).length) i=ae (di (cL L) (dz (cL L).length (cL L)) (cL L).length) 0:=e
  rw[e,hh.first]at this
  exact dK this
 ·obtain⟨a,ha,ea⟩:=hh.mem i hi
  obtain⟨j,hj,ej⟩:=SA a ha
  exact⟨j,hj,by rw[ej]; exact ea.symm⟩
end Wx

namespace Wx
open Go Go.RowKit Go.Proofs
set_option linter.unusedVariables false
section
variable {P:Program} {ops:Array Oper} {ms:List Nat} {c:cF} {V:List Vr} {A:List Al} {G:List aQ} {i d:Nat} {x y z:Operand} {ty:TypeId} {pos:String} {aI:Array Edge}{T:TypeId} {b off n cap:Nat}
theorem Na (sz k:Nat) (h:Has ms G i x (bg (.slice (some ⟨b,off,none⟩) n cap)):=by exact hs) (hy:Has ms G i y (pI (k:Int)):=by exact hs) (hp:Post G i (bg (.slice (some ⟨b,off+k*sz,none⟩) (n-k) (cap-k))):=by exact pt rfl) (hk:k<n:=by omega) (hcap:n<=cap:=by omega) (ht:GH P T sz=true:=by kernel_rfl):OpOk P ops ms c V A G i ⟨some d,.slice T x (some y) none none,ty,pos,aI,none⟩:=by
 obtain⟨E,hE⟩:=nO ht
 exact bX rfl rfl rfl (.inl rfl) hp λL β a w hI hd=>by
  have ex:a.eval x=.slice (some ⟨b,off,none⟩) n cap:=(h.spec hI hd).out
  have ey:a.eval y=.int .i64 k:=(hy.spec hI hd).out
  refine⟨_,w,?_,Below.refl _ _,λ_ _=>rfl⟩
  show(do pure (Next.value (<-Instr.sliceAt T (a.eval x) (some (a.eval y)) none none))).run P w=_
  rw[ex,ey]
  have hr:(Instr.sliceAt T (.slice (some ⟨b,off,none⟩) n cap) (some (.int .i64 k)) none none).run P w=.ok (.slice (some ⟨b,off+k*sz,none⟩) (n-k) (cap-k)) w:=by
   have e1:(Instr.sliceBound (.int .i64 k) n .sliceB).run P w=.ok k w:=by
    have:=run_sliceBound (P:=P) w .i64 (k:Int) n .sliceB (by omega) (by omega)
    simpa using this
   have hne:¬cap=k:=by omega
   simp only[Instr.sliceAt,Sem.run_bind,run_underlying hE.under,Result.andThen_ok,Instr.slice,Instr.sliceBounds,Sem.run_pure]
   simp only[Option.isSome_none,Bool.false_eq_true,if_false,e1,Result.andThen_ok,hE.size w,hne,Option.map_some,Addr.add_mid]
  rw[Sem.run_bind,hr]
  rfl
theorem Qo {X:Option Addr} (sz k:Nat) (h:Has ms G i x (bg (.slice X n cap)):=by exact hs) (hy:Has ms G i y (pI (k:Int)):=by exact hs) (hp:Post G i (bg (.slice X k cap)):=by exact pt rfl) (hk:k<=n:=by omega) (hcap:n<=cap:=by omega) (ht:GH P T sz=true:=by kernel_rfl):OpOk P ops ms c V A G i ⟨some d,.slice T x none (some y) none,ty,pos,aI,none⟩:=by
 obtain⟨E,hE⟩:=nO ht
 exact bX rfl rfl rfl (.inl rfl) hp λL β a w hI hd=>by
  have ex:a.eval x=.slice X n cap:=(h.spec hI hd).out
  have ey:a.eval y=.int .i64 k:=(hy.spec hI hd).out
  refine⟨_,w,?_,Below.refl _ _,λ_ _=>rfl⟩
  show(do pure (Next.value (<-Instr.sliceAt T (a.eval x) none (some (a.eval y)) none))).run P w=_
  rw[ex,ey]
  have hr:(Instr.sliceAt T (.slice X n cap) none (some (.int .i64 k)) none).run P w=.ok (.slice X k cap) w:=by
   have e1:(Instr.sliceBound (.int .i64 k) cap .sliceAcap).run P w=.ok k w:=by
    have:=run_sliceBound (P:=P) w .i64 (k:Int) cap .sliceAcap (by omega) (by omega)
    simpa using this
   have e3:X.map (λq=>q.add 0)=X:=by
    cases X with
    |none=>rfl
    |some q=>rfl
   simp only[Instr.sliceAt,Sem.run_bind,run_underlying hE.under,Result.andThen_ok,Instr.slice,Instr.sliceBounds,Sem.run_pure]
   simp only[e1,Result.andThen_ok,hE.size w,Nat.zero_mul,Nat.sub_zero,e3,ite_self,if_true]
  rw[Sem.run_bind,hr]
  rfl
variable {q:Nat} {L:List Pt} {p:Pt}
theorem Ks {w:World} {cs ds:List Value} {L':List Pt} (hq:q<n) (hl:n*2<=cs.length) (hd:ds.length=2) (h:mG n L w (aq true cs)) (hp:cq p w (aq true ds)) (hL:∀j,j<n->ae L' j=if j=q then p else ae L j):mG n L' w (aq true (cs.take (q*2)++ds++cs.drop (q*2+2))):=by
 obtain⟨cs',e,hc⟩:=h
 have e:cs=cs':=by
  have e:Value.agg cs.toArray=.agg cs'.toArray:=e
  simpa using e
 subst e
 have MB:(cs.take (q*2)).length=q*2:=by rw[List.length_take]; omega
 refine⟨_,rfl,λj hj=>?_⟩
 show cq (ae L' j) w _
 rw[hL j hj]
 by_cases g:j=q
 ·subst g
  rw[if_pos rfl,List.append_assoc,List.drop_append,List.drop_eq_nil_of_le (by omega),List.nil_append,MB,Nat.sub_self,List.drop_zero,List.take_append_of_le_length (by omega),List.take_of_length_le (by omega)]
  exact hp
 ·rw[if_neg g]
  have hb:=hc j hj
  rcases Nat.lt_or_ge j q with g2|g2
  ·have e1:((cs.take (q*2)++ds++cs.drop (q*2+2)).drop (j*2)).take 2=(cs.drop (j*2)).take 2:=by
    rw[List.append_assoc,List.drop_append_of_le_length (by omega),List.take_append_of_le_length (by rw[List.length_drop]; omega),List.drop_take,List.take_take,Nat.min_eq_left (by omega)]
   rw[e1]
   exact hb
  ·have e1:((cs.take (q*2)++ds++cs.drop (q*2+2)).drop (j*2)).take 2=(cs.drop (j*2)).take 2:=by
    have hl2:(cs.take (q*2)++ds).length=q*2+2:=by rw[List.length_append,MB,hd]
    rw[List.drop_append,List.drop_eq_nil_of_le (by omega),List.nil_append,hl2,List.drop_drop,show q*2+2+(j*2-(q*2+2))=j*2 by omega]
   rw[e1]
   exact hb
theorem Qp {v:Vr} {m:Nat} {r:List (Nat×Rel)} (N:Nat) (L':List Pt) (hL:∀j,j<n->ae L' j=if j=q then p else ae L j) (hv:jv N V=some v:=by exact rfl) (ho:aX ms i v=true:=by exact rfl) (bD:v.kd=.obj:=by exact rfl) (hst:(v.st.all λq=>(q.1==i||(ms.getD i 0).testBit q.1)||(ms.getD q.1 0).testBit i)=true:=by kernel_rfl)
  (hc:cont (λj=>(ms.getD i 0).testBit j) v.c0 v.st=kN b m (mG n L):=by exact rfl) (h:Has ms G i y (bg (.pointer (some ⟨b,off,none⟩))):=by exact hs) (hz:Has ms G i z (cq p):=by exact hs) (hm:Kv i v.st=some (kN b m (mG n L'),r):=by exact rfl) (hq:q<n:=by omega) (hoff:off=q*2:=by omega) (hlen:n*2<=m:=by omega) (ht:zn P T true 2=true:=by kernel_rfl)
  (hr:(r.all λr=>(ms.getD r.1 0).testBit i)=true:=by kernel_rfl) (kL:(V.all λy=>y.id==v.id||y.st.all λq=>q.1 != i)=true:=by kernel_rfl):OpOk P ops ms c V A G i ⟨none,.store T y z,ty,pos,aI,none⟩:=by
 obtain⟨⟨k',hk⟩,_⟩:=cC hv
 obtain⟨mm,h5,h6⟩:=pH hm
 subst hoff
 exact tA k' hk ho bD hst mm h5 (by rw[h6]; exact hr) kL hc h (m:=2) (by omega) (bF ht) hz (bC p) (λw cs ds hl hl2 Mw hp=>Ks hq (by omega) hl2 Mw hp hL) (bQ λ_=>bK _)
end
theorem sy {φ:Value->Prop} {zs:Array Value} (h:∀u∈zs.toList,φ u) (n:Nat):∀u∈(Builtin.zeroCells zs n).toList,φ u:=by
 intro u hu
 simp only[Builtin.zeroCells,Array.toList_map,List.mem_map,Array.mem_toList_iff,Array.mem_range]at hu
 obtain⟨k,hk,rfl⟩:=hu
 have hpos:0<zs.size:=by
  rcases Nat.eq_zero_or_pos zs.size with hz|hz
  ·rw[hz]at hk; simp at hk
  ·exact hz
 have hlt:k%zs.size<zs.size:=Nat.mod_lt _ hpos
 rw[getElem!_pos zs _ hlt]
 exact h _ (by simp)
theorem Fv {P:Program} {c:cF} {V:List Vr} {G:List aQ} {ops:Array Oper} {T E:TypeId} {id n0 b m n k cap:Nat} {L L':List Pt} {x:Operand} {ty:TypeId} {pos:String} {aI:Array Edge} (hT:P.underlying T=some (.slice E)) (hz:∀w,(zeroValue E).run P w=.ok (.agg #[.int .i64 0,.int .i64 0]) w) (hL:∀j,j<k->ae L' j=ae L j) (hk:k<n) (hnm:n*2<=m) (hv:V[n0]?=some (cg id b m (mG n L)):=by exact rfl) (h:Has [0] G 0 x (bg (.slice (some ⟨b,0+k*2,none⟩) (n-k) cap)):=by exact hs)
  (hV:bE V=true:=by kernel_rfl) (hG:cw G=true:=by kernel_rfl) (hu:eu V id n0=true:=by kernel_rfl):∀a w,Inv c V [] G none_ a w->bR P ops ⟨none,.call ⟨.builtin .clear,#[x],#[T]⟩,ty,pos,aI,none⟩ a w (Inv c (V.set n0 (cg id b m (mG k L'))) [] G none_):=by
 rintro a w ⟨β,hI⟩
 have hx:=List.mem_of_getElem? hv
 have hO:=(aG rfl).1 (hI.var _ hx rfl)
 obtain⟨hβ,cs,T0,h1,h2,h3,h4⟩:(∀k,β id k↔k=b)/\One b m (mG n L) w:=hO.2.out
 have ex:a.eval x=.slice (some ⟨b,0+k*2,none⟩) (n-k) cap:=(h.spec hI iS).out
 let zs:List Value:=(Builtin.zeroCells #[.int .i64 0,.int .i64 0] (n-k)).toList
 have uQ:zs.length=(n-k)*2:=by show(Builtin.zeroCells _ _).toList.length=_; rw[Array.length_toList,size_zeroCells]; rfl
 have RK:∀u∈zs,fq u/\u.oneCell'=true:=sy (φ:=λu=>fq u/\u.oneCell'=true) (zs:=#[.int .i64 0,.int .i64 0]) (λu hu=>by
  have:u=.int .i64 0:=by simpa using hu
  rw[this]
  exact⟨eZ 0,rfl⟩) (n-k)
 have hst:(storeCells ⟨b,k*2,none⟩ zs 0).run P w=.ok () (w.setRow b (cs.take (k*2)++zs++cs.drop (k*2+zs.length)).toArray):=by
  have:=run_storeCells_at P b (k*2) T0 zs 0 cs.toArray w h1 (by simp; omega) λu hu=>(RK u hu).2
  simpa using this
 have hr:(Builtin.clear_ #[T] ty #[a.eval x]).run P w=.ok (.tuple #[]) (w.setRow b (cs.take (k*2)++zs++cs.drop (k*2+zs.length)).toArray):=by
  rw[ex]
  obtain⟨j,hj⟩:∃j,n-k=j+1:=⟨n-k-1,by omega⟩
  rw[Nat.zero_add,hj]
  have yz:(Builtin.zeroCells (Value.agg #[.int .i64 0,.int .i64 0]).cells (j+1)).toList=zs:=by show(Builtin.zeroCells #[.int .i64 0,.int .i64 0] (j+1)).toList=(Builtin.zeroCells _ (n-k)).toList; rw[hj]
  simp[Builtin.clear_,run_underlying hT,hz,yz,hst]
 have FP:∀u∈cs.take (k*2)++zs++cs.drop (k*2+zs.length),fq u:=λu eF=>by
  rcases List.mem_append.1 eF with eF|eF
  ·rcases List.mem_append.1 eF with eF|eF
   ·exact h3 u (List.mem_of_mem_take eF)
   ·exact(RK u eF).1
  ·exact h3 u (List.mem_of_mem_drop eF)
 have hgx:β id b:=(hβ b).2 rfl
 have og:∀o,own c V none_ β b o:=λo=>.inr ⟨_,hx,rfl,hgx,Nat.zero_le _⟩
 have hlen:(cs.take (k*2)++zs++cs.drop (k*2+zs.length)).length=m:=by rw[List.length_append,List.length_append,List.length_take,List.length_drop]; omega
 have hone:One b m (mG k L') (w.setRow b (cs.take (k*2)++zs++cs.drop (k*2+zs.length)).toArray):=by
  refine⟨_,T0,setRow_heap w _ _ _ _ _ h1,hlen,FP,_,rfl,λj hj=>?_⟩
  obtain⟨cs',e,hc⟩:=h4
  have e:cs=cs':=by
   have e:Value.agg cs.toArray=.agg cs'.toArray:=e
   simpa using e
  subst e
  show cq (ae L' j) _ _
  rw[hL j hj]
  have e1:((cs.take (k*2)++zs++cs.drop (k*2+zs.length)).drop (j*2)).take 2=(cs.drop (j*2)).take 2:=by
   have MB:(cs.take (k*2)).length=k*2:=by rw[List.length_take]; omega
   rw[List.append_assoc,List.drop_append_of_le_length (by omega),List.take_append_of_le_length (by rw[List.length_drop]; omega),List.drop_take,List.take_take,Nat.min_eq_left (by omega)]
  rw[e1]
  exact bK _ (own c V none_ β) w _ (aS hI) (hc j (by omega)) _ ⟨Nat.le_of_eq size_setRow.symm,λk hk hno=>ay λe'=>hno 0 (by rw[e']; exact og 0),λk o u hno eF=>by
   have uO:k≠b:=λe'=>hno (by rw[e']; exact og o)
   rw[World.cell?_of_block (w:=w) (a:=⟨k,o,none⟩) (ay uO)]; exact eF⟩
 have jL:cQ (own c V none_ β) (w.setRow b (cs.take (k*2)++zs++cs.drop (k*2+zs.length)).toArray):=λk' o hk'=>by
  obtain⟨k1,k2⟩:=aS hI k' o hk'
  refine⟨by rw[size_setRow]; exact k1,λu eF=>?_⟩
  by_cases uO:k'=b
  ·rw[uO]at eF; exact hone.Iv o u eF
  ·rw[World.cell?_of_block (w:=w) (a:=⟨k',o,none⟩) (ay uO)]at eF
   exact k2 u eF
 refine .of rfl ?_
 unfold Does
 have hx2:(execOp a.eval ⟨none,.call ⟨.builtin .clear,#[x],#[T]⟩,ty,pos,aI,none⟩).run P w=.ok (.value (.tuple #[])) (w.setRow b (cs.take (k*2)++zs++cs.drop (k*2+zs.length)).toArray):=by
  show(do let d <-resolve a.eval ⟨.builtin .clear,#[x],#[T]⟩ ty; invoke d.target d.args).run P w=_
  simp only[resolve,invoke,pure_bind,builtin]
  rw[show(#[x]:Array Operand).map a.eval=#[a.eval x] by simp,Sem.run_bind,hr]
  rfl
 rw[hx2]
 have hle:cA (β id) w (w.setRow b (cs.take (k*2)++zs++cs.drop (k*2+zs.length)).toArray):=⟨rfl,rfl,rfl,Nat.le_of_eq size_setRow.symm,λk' hk' hn=>ay λe=>hn (e▸hgx)⟩
 have hm:=hI.move (B':=β id) (R':=kN b m (mG k L')) hV hG hv (ew hu) hle (λk hk=>.inl hk) (λk' hk'=>by
  rw[(hβ k').1 hk']
  exact⟨hone.lt,λo v hv=>hone.Iv o v hv⟩) ((hone.box hgx (bQ λ_=>bK _) jL).imp λw h=>⟨hβ,h⟩)
 exact⟨_,hm⟩
end Wx

namespace Wx
set_option maxRecDepth 100000
open Go Go.RowKit Go.Proofs
set_option linter.unusedVariables false
attribute [local irreducible] OpOk
def oM (n:Nat) (S:List Pt) (q:Nat):List Pt:=(List.range n).map λi=>if i<(dH S q).length then ae (dH S q) i else ae S i
variable {n q i:Nat} {S:List Pt}
theorem lE (h:i<n):ae (oM n S q) i=if i<(dH S q).length then ae (dH S q) i else ae S i:=by
 unfold oM
 rw[show ae (List.map _ (List.range n)) i=_ from rfl]
 unfold ae
 rw[List.getD_eq_getElem?_getD,List.getElem?_map,List.getElem?_range h]
 rfl
theorem DF (h1:(dH S q).length<=i) (h:i<n):ae (oM n S q) i=ae S i:=by
 rw[lE h,if_neg (by omega)]
theorem D4 {L L':List Pt} (h:∀i,i<n->ae L i=ae L' i):∀w v,mG n L w v->mG n L' w v:=λw v ⟨cs,e,hc⟩=>⟨cs,e,λi hi=>by show cq (ae L' i) w _; rw[<-h i hi]; exact hc i hi⟩
variable {k:Nat}
theorem CR (hk:1<=k) (hne:∀j,1<=j->j<k->ae S j≠ae S (j-1)) (he:ae S k=ae S (k-1)):(dH S (k+1)).length=k/\∀i,i<k->ae (dH S (k+1)) i=ae S i:=by
 obtain⟨j,rfl⟩:∃j,k=j+1:=⟨k-1,by omega⟩
 rw[xS (show ae S (j+1)=ae S j from he)]
 exact ql hne
theorem BI (h:(dH S (k+1)).length=k/\∀i,i<k->ae (dH S (k+1)) i=ae S i):∀i,i<n->ae S i=ae (oM n S (k+1)) i:=λi hi=>by
 rw[lE hi,h.1]
 by_cases g:i<k
 ·rw[if_pos g,h.2 i g]
 ·rw[if_neg g]
theorem Hh (hq:1<=q) (h:ae S q≠ae S (q-1)):dH S (q+1)=dH S q++[ae S q]:=by
 obtain⟨j,rfl⟩:∃j,q=j+1:=⟨q-1,by omega⟩
 exact xT h
theorem Hg (hq:1<=q) (h:ae S q=ae S (q-1)):dH S (q+1)=dH S q:=by
 obtain⟨j,rfl⟩:∃j,q=j+1:=⟨q-1,by omega⟩
 exact xS h
theorem Gi (hq:1<=q) (h:ae S q≠ae S (q-1)):∀i,i<n->ae (oM n S (q+1)) i=if i=(dH S q).length then ae S q else ae (oM n S q) i:=λi hi=>by
 rw[lE hi,lE hi,Hh hq h,dG]
 by_cases g:i=(dH S q).length
 ·rw[if_pos g,if_pos (by omega),g,kA]
 ·rw[if_neg g]
  by_cases g2:i<(dH S q).length
  ·rw[if_pos (by omega),if_pos g2,lj g2]
  ·rw[if_neg (by omega),if_neg g2]
theorem DG (hq:1<=q) (h:ae S q=ae S (q-1)):∀i,i<n->ae (oM n S q) i=ae (oM n S (q+1)) i:=λi hi=>by
 rw[lE hi,lE hi,Hg hq h]
theorem JZ (h1:i<(dH S q).length) (h:i<n):ae (dH S q) i=ae (oM n S q) i:=by
 rw[lE h,if_pos h1]
variable {b:Nat}
theorem C3 {P:Program} {V:List Vr} {G:List aQ} {a:Act} {w:World} {fn:Func} {N n0 s:Nat} {w0:World} {M:Nat->Nat->Prop} {q q':Pred} {v v':Value} (hI:Inv ⟨N,w0,M,(·=b)⟩ V [] G none_ a w) (hr:fn.results=#[.tmp s]) (hk:V[n0]?=some (cg N b n q)) (hv:v=v') (hq:∀w u,q w u->q' w u) (h1:eK s G=some (bg v):=by exact rfl):bodyPost P fn (pU M b n (bg v') q' w0) .ret a w:=by
 subst hv
 obtain⟨β,hI⟩:=hI
 obtain⟨hβ,cs,T,m1,m2,m3,m4⟩:(∀k,β N k↔k=b)/\One b n q w:=((aG rfl).1 (hI.var _ (List.mem_of_getElem? hk) rfl)).2.out
 obtain⟨k1,nk⟩:=dh h1
 have es:sl a s=v:=(hI.gD _ (List.mem_of_getElem? nk) rfl rfl).out
 refine gG hI (v:=sl a s) ?_ ⟨_,rfl,λ_ _=>es,hI.below,cs,T,m1,m2,m3,hq _ _ m4⟩
 rw[cR,hr]
 simp[lJ,sl]
theorem Gv (h:(dH S n).length=n/\∀i,i<n->ae (dH S n) i=ae S i):∀w v,mG n S w v->mG (dH S n).length (dH S n) w v:=by
 rw[h.1]
 exact D4 λi hi=>(h.2 i hi).symm
theorem Ke (h:q=n):∀w v,mG (dH S q).length (dH S q) w v->mG (dH S n).length (dH S n) w v:=by
 subst h
 exactλ_ _ h=>h
set_option maxHeartbeats 2000000 in
theorem yC {m cap:Nat} (h:2<=n/\n<=1000/\n*2<=m/\n<=cap):∀(M:Nat->Nat->Prop) (w:World) (v0:Value),cQ M w->(∀o,¬M b o)->One b m (mG n S) w->aL (iK M b) (λw=>bg (.slice (some ⟨b,0,none⟩) n cap) w v0) w->Calls Tryz.prog 36 #[v0] w (pU M b m (bg (.slice (some ⟨b,0,none⟩) (dH S n).length cap)) (mG (dH S n).length (dH S n)) w):=by
 obtain⟨h1,h2,h3,h4⟩:=h
 intro M w0 v0 hM LV h0 hv0
 refine Nb (N:=61) Tryz.func36 rfl rfl hM LV (bQ λ_=>bK _) h0 hv0 λa hI=>?_
 refine bk hI 1 [] [] [Uc 0 2 _] (.k .z) (.k .z) ⟨mv,trivial⟩ (.k .z) (.kk .z) λa w hI=>?_
 refine au ?_
 refine bk hI 3 [] [] [Uc 0 6 _,Uc 1 7 _,Uc 2 8 _] (.k .z) (.kk .z) ⟨mv,Ik,bn,trivial⟩ (.k .z) (.dm (.k .z)) λa w hI=>?_
 refine gA hI (λt1=>?_) (λt1=>?_)
 ·exfalso; omega
 refine ax ?_
 refine af ?_
 refine au ?_
 refine bk hI 1 [] [] [Uc 0 3 _] (.k .z) (.cE .z) ⟨mv,trivial⟩ (.k .z) (.gX .z) λa w hI=>?_
 refine aF ?_
 refine sF [cg 61 b m _] [Uz 0 _] (λ(k:Nat)=>[]) (λ(k:Nat)=>[Uz 3 (pI (k:Int))]) (λ(k:Nat)=>1<=k/\k<=n/\∀j,1<=j->j<k->ae S j≠ae S (j-1)) (λ(k:Nat)=>n-k) (1) ⟨Nat.le_refl _,by omega,λj h1 h2=>absurd h2 (Nat.not_lt.2 h1)⟩ hI ⟨vO,trivial⟩ ⟨gi,gc,trivial⟩ ?_
 intro k a w hk hI
 refine au ?_
 refine bk hI 4 [] [] [Uc 0 10 _,Uc 1 11 _,Uc 2 12 _,Uc 3 13 _] (.k .z) (.kk .z) ⟨mv,mv,Ik,bn,trivial⟩ (.k .z) (.dm (.dk .z)) λa w hI=>?_
 refine gA hI (λt2=>?_) (λt2=>?_)
 ·
  refine ax ?_
  refine af ?_
  refine au ?_
  refine aF ?_
  refine AZ hI [0,0,3,7,0,0,32,112,240,511] [] [] [Uc 0 16 _,Uc 1 17 _,Uc 2 18 _,Uc 3 19 _,Uc 4 20 _,Uc 5 21 _,Uc 6 22 _,Uc 7 23 _,Uc 8 24 _,Uc 9 25 _] (.k .z) (.cE .z) ⟨mv,mv,iX 2 k,JS 61 k,mv,mv,bn,iX 2 (k-1),JS 61 (k-1),Nq,trivial⟩ (.k .z) (.dm (.d8 (.k .z))) λa w hI=>?_
  refine gA hI (λt3=>?_) (λt3=>?_)
  ·
   have Pj:=CR (S:=S) hk.1 hk.2.2 t3
   have sZ:(k:Int)=(((dH S (k+1)).length:Nat):Int):=by rw[Pj.1]
   refine bk hI 4 [] [] [Uc 0 26 _,Uc 1 27 _,Uc 2 28 _,Uc 3 4 _] (.k .z) (.cE .z) ⟨mv,mv,Na 2 k,mv,trivial⟩ (.k .z) (.dm (.lO .z)) λa w hI=>?_
   refine au ?_
   refine bk hI 1 [] [] [Uc 0 5 _] (.k .z) (.cE .z) ⟨mv,trivial⟩ (.k .z) (.aj .z) λa w hI=>?_
   refine aF ?_
   refine sF [] [Uz 0 _,Uz 4 _] (λ(j:Nat)=>[cg 61 b m (mG n (oM n S (k+(j))))]) (λ(j:Nat)=>[Uz 5 (pI (j:Int)),Uz 3 (pI (((dH S (k+(j))).length:Nat):Int))]) (λ(j:Nat)=>1<=j/\k+j<=n/\(dH S (k+(j))).length+1<=k+j) (λ(j:Nat)=>n-j) (1) ⟨Nat.le_refl _,by omega,by rw[Pj.1]; exact Nat.le_refl _⟩ hI ⟨vO (D4 (BI Pj)),trivial⟩ ⟨gi,gi,gc,gC (bL sZ),trivial⟩ ?_
   intro j a w hj hI
   have hW:=hj.2.2
   refine au ?_
   refine bk hI 4 [] [] [Uc 0 29 _,Uc 1 30 _,Uc 2 31 _,Uc 3 32 _] (.k .z) (.aj .z) ⟨mv,mv,Ik,bn,trivial⟩ (.k .z) (.aj (.dL .z)) λa w hI=>?_
   refine gA hI (λt4=>?_) (λt4=>?_)
   ·
    have FM:=DF (n:=n) (S:=S) (q:=k+j) (i:=k+j) (by omega) (by omega)
    have KU:=DF (n:=n) (S:=S) (q:=k+j) (i:=k+j-1) (by omega) (by omega)
    refine ax ?_
    refine af ?_
    refine au ?_
    refine aF ?_
    refine AZ hI [0,0,3,7,0,0,32,112,240,511] [] [] [Uc 0 35 _,Uc 1 36 _,Uc 2 37 _,Uc 3 38 _,Uc 4 39 _,Uc 5 40 _,Uc 6 41 _,Uc 7 42 _,Uc 8 43 _,Uc 9 44 _] (.k .z) (.aj (.k .z)) ⟨mv,mv,iX 2 j,JS 61 (k+j) (hp:=by rw[FM]; exact pt rfl),mv,mv,bn,iX 2 (j-1),JS 61 (k+j-1) (hp:=by rw[KU]; exact pt rfl),RO,trivial⟩ (.k .z) (.aj (.d8 (.lO .z))) λa w hI=>?_
    refine gA hI (λt5=>?_) (λt5=>?_)
    ·
     have Mu:ae S (k+j)≠ae S (k+j-1):=t5
     have k3:(dH S (k+(j+1))).length=(dH S (k+j)).length+1:=by
      show(dH S (k+j+1)).length=_
      rw[Hh (by omega) Mu,dG]
     have k4:((dH S (k+j)).length:Int)+1=(((dH S (k+(j+1))).length:Nat):Int):=by rw[k3]; rfl
     refine bk hI 8 [] [] [Uc 0 45 _,Uc 1 46 _,Uc 2 47 _,Uc 3 48 _,Uc 4 49 _,Uc 5 50 _,Uc 6 51 _] (.u none [(7,_)] .z) (.aj (.k .z)) ⟨mv,mv,mv,mv,iX 2 j,JS 61 (k+j) (hp:=by rw[FM]; exact pt rfl),iX 2 ((dH S (k+j)).length),Qp 61 (q:=(dH S (k+j)).length) (oM n S (k+j+1)) (Gi (by omega) Mu),trivial⟩ (.s .o .z) (.aj (.d8 .z)) λa w hI=>?_
     refine nw hI 3 [] [] [Uc 0 52 _,Uc 1 53 _,Uc 2 3 _] (.k .z) (.cE (.t 2 .z)) ⟨mv,bn,mv,trivial⟩ (.k .z) (.dx (.lO .z)) λa w hI=>?_
     refine aO ?_
     refine af ?_
     refine nw hI 3 [] [] [Uc 0 33 _,Uc 1 34 _,Uc 2 5 _] (.k .z) (.kk (.t 2 (.k .z))) ⟨mv,bn,mv,trivial⟩ (.k .z) (.gX (.lO .z)) λa w hI=>?_
     refine af ?_
     exact nF (j+1) ⟨by omega,by omega,by rw[k3]; omega⟩ hI ⟨vO,trivial⟩ ⟨gc,gc,gc,gC (bL k4),trivial⟩ (by omega)
    ·
     have heq:ae S (k+j)=ae S (k+j-1):=Decidable.not_not.1 t5
     have k3:(dH S (k+(j+1))).length=(dH S (k+j)).length:=by
      show(dH S (k+j+1)).length=_
      rw[Hg (by omega) heq]
     have k4:(((dH S (k+j)).length:Nat):Int)=(((dH S (k+(j+1))).length:Nat):Int):=by rw[k3]
     refine ax ?_
     refine aO ?_
     refine af ?_
     refine nw hI 3 [] [] [Uc 0 33 _,Uc 1 34 _,Uc 2 5 _] (.k .z) (.kk (.t 2 (.kk .z))) ⟨mv,bn,mv,trivial⟩ (.k .z) (.gX (.dL .z)) λa w hI=>?_
     refine af ?_
     exact nF (j+1) ⟨by omega,by omega,by rw[k3]; omega⟩ hI ⟨vO (D4 (DG (n:=n) (q:=k+j) (by omega) heq)),trivial⟩ ⟨gc,gc,gc,gC (bL k4),trivial⟩ (by omega)
   ·
    have Rw:k+j=n:=by omega
    refine bO ?_
    refine aB ?_
    refine aB ?_
    refine aR ?_
    refine af ?_
    refine ko hI 4 3 [] [] [Uc 0 54 _,Uc 1 55 _,Uc 2 56 _] (.k .z) (.aj (.k .z)) ⟨mv,mv,Na 2 ((dH S (k+j)).length),trivial⟩ (.k .z) (.oK (.dL .z)) (⟨_,Fv (n0:=0) (b:=b) (m:=m) (n:=n) (L:=oM n S (k+j)) (k:=(dH S (k+j)).length) (L':=dH S (k+j)) (hT:=Tryz.underlying22) (hz:=λ_=>by kernel_rfl) (λi hi=>JZ hi (by omega)) (by omega) (by omega),rfl⟩) λa w hI=>?_
    dsimp only[List.set]at hI
    refine bk hI 4 [] [] [Uc 0 57 _,Uc 1 58 _,Uc 2 59 _,Uc 3 2 _] (.k .z) (.cE .z) ⟨mv,mv,Qo 2 ((dH S (k+j)).length),mv,trivial⟩ (.k .z) (.dm (.lO .z)) λa w hI=>?_
    refine aH ?_
    refine aP ?_
    refine aC ?_
    refine aC ?_
    refine aP ?_
    refine aC ?_
    exact C3 (n0:=0) hI rfl rfl (show Value.slice (some ⟨b,0,none⟩) (dH S (k+j)).length cap=.slice (some ⟨b,0,none⟩) (dH S n).length cap by rw[Rw]) (Ke Rw)
  ·
   have hnk:ae S k≠ae S (k-1):=t3
   refine ax ?_
   refine aO ?_
   refine af ?_
   refine nw hI 3 [] [] [Uc 0 14 _,Uc 1 15 _,Uc 2 3 _] (.k .z) (.k (.t 2 (.k .z))) ⟨mv,bn,mv,trivial⟩ (.k .z) (.fF (.dk .z)) λa w hI=>?_
   refine af ?_
   exact nF (k+1) ⟨by omega,by omega,λj a b=>if e:j=k then by rw[e]; exact hnk else hk.2.2 j a (by omega)⟩ hI ⟨vO,trivial⟩ ⟨gc,gc,trivial⟩ (by omega)
 ·
  have hkn:k=n:=by omega
  have hsm:=ql (S:=S) (k:=n) (by rw[<-hkn]; exact hk.2.2)
  refine bO ?_
  refine aB ?_
  refine aB ?_
  refine aR ?_
  refine af ?_
  refine bk hI 2 [] [] [Uc 0 60 _,Uc 1 2 _] (.k .z) (.cE .z) ⟨mv,mv,trivial⟩ (.k .z) (.cH (.k .z)) λa w hI=>?_
  refine aH ?_
  exact C3 (n0:=0) hI rfl rfl (show Value.slice (some ⟨b,0,none⟩) n cap=.slice (some ⟨b,0,none⟩) (dH S n).length cap by rw[hsm.1]) (Gv hsm)
end Wx
