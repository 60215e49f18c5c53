import Derived.Test.YtikkgpljpglnbaaGreatCRMSemRow
namespace Wx
open Go Go.RowKit Go.Proofs Go.ChangeShapes Go.WideShapes Go.ChangeAt Go.Deep
def vU (w w':World):Prop:=∀a v,w.cell? a=some v->w'.cell? a=some v
theorem Ek {M:Nat->Nat->Prop} {w w':World} (hM:∀k o,¬M k o) (h:Ext M w w'):vU w w':=λa v hv=>by
 obtain⟨b,o,s⟩:=a
 cases s with
 |none=>exact h.cell b o v (hM b o) hv
 |some s=>
  exfalso
  unfold World.cell? at hv
  split at hv
  ·simp at hv
  ·cases hv
def xA {H:Type} (enc:TypeId×Value->H) (P:Program) (w:World) (e:TypeId) (agg:Bool) {α:Type} (C:α->Prop) (f:α->Pred):Prop:=
 ∀fuel cs (x:DataW H×List MemPlace),DataW.trod enc P w 0 (λ_=>true) true fuel e cs=some x->∃a:α,C a/\∀w',vU w w'->f a w' (au agg cs)
section
variable {H:Type} {enc:TypeId×Value->H} {P:Program} {w:World}{e:TypeId}
theorem oD {k:IntKind} (he:P.underlying e=some (.int k)):xA enc P w e false (λn=>(Lit.int k n).wf=true) λn=>bp (.int k n):=λfuel cs x h=>by
 obtain⟨n,h1,_,h3⟩:=DataW.trod_int he h
 subst h1
 exact⟨n,h3,λw' _=>rfl⟩
theorem D6 {t:TypeId} {agg:Bool} {α:Type} {C:α->Prop} {f:α->Pred} (d:α) {sz:Nat} (ht:P.underlying t=some (.slice e)) (hc:P.cellsOf e=sz) (hn:0<sz) (h:xA enc P w e agg C f):
  xA enc P w t false (λL:List α=>(∀a∈L,C a)/\L.length<=maxLen) λL=>bK sz agg L.length λi=>f (L.getD i d):=λfuel cs x hx=>by
 subst hc
 rcases open_slice ht hx with⟨h0,_⟩|⟨a,len,cap,m,n,D,Pl,h1,_,h3,h4,h5,_,h7⟩
 ·subst h0
  exact⟨[],⟨by simp,Nat.zero_le _⟩,λw' _=>⟨none,0,rfl,Nat.le_refl _,Nat.zero_le _,λh=>absurd h (Nat.lt_irrefl _)⟩⟩
 ·subst h1
  have each:∀i,i<len->∃y:α×List Value,C y.1/\w.cells? 0 (a.add (i*P.cellsOf e)) (P.cellsOf e)=some y.2/\∀w',vU w w'->f y.1 w' (au agg y.2):=λi hi=>by
   obtain⟨cs',k1,k2⟩:=h7 i (by rw[h5]; simp; omega)
   obtain⟨y,k3,k4⟩:=h _ _ _ k2
   exact⟨(y,cs'),k3,k1,k4⟩
  have:Inhabited (α×List Value):=⟨(d,[])⟩
  obtain⟨y,hy⟩:=choose_lt each
  refine⟨(List.range len).map λi=>(y i).1,⟨λb hb=>?_,by simp; omega⟩,λw' hw=>?_⟩
  ·obtain⟨i,hi,rfl⟩:=List.mem_map.1 hb
   exact(hy i (List.mem_range.1 hi)).1
  ·have hl:((List.range len).map λi=>(y i).1).length=len:=by simp
   show bK _ _ _ _ _ _
   rw[hl]
   refine⟨some a,cap,rfl,h3,h4,λh0=>?_⟩
   have hspot:a.spot=none:=by
    obtain⟨_,k2,_⟩:=hy 0 h0
    obtain⟨_,k3,k4⟩:=World.cells?_some k2
    have k5:=k4 0 hn
    cases hs:a.spot with
    |none=>rfl
    |some s=>
     exfalso
     rw[List.getElem?_eq_getElem (by omega)]at k5
     unfold World.cell? Addr.add at k5
     split at k5
     ·simp[hs]at k5
     ·cases k5
   obtain⟨b,o,s⟩:=a
   simp only at hspot
   subst hspot
   refine⟨b,o,rfl,λi hi=>?_⟩
   obtain⟨_,k2,k3⟩:=hy i hi
   obtain⟨_,k4,k5⟩:=World.cells?_some k2
   have Q9:∀n:Nat,(⟨b,o,none⟩:Addr).add n=⟨b,o+n,none⟩:=λn=>by
    unfold Addr.add
    split
    ·rename_i h
     rw[h]
     rfl
    ·rfl
   refine⟨(y i).2,k4,λj u hj=>hw _ _ ?_,?_⟩
   ·have IW:j<P.cellsOf e:=by
     rw[<-k4]
     exact(List.getElem?_eq_some_iff.1 hj).1
    have:=k5 j IW
    rw[hj,Q9]at this
    have e2:(⟨b,o+i*P.cellsOf e,none⟩:Addr).add j=⟨b,o+i*P.cellsOf e+j,none⟩:=by
     unfold Addr.add
     split
     ·rename_i h
      rw[h]
      rfl
     ·rfl
    rw[e2]at this
    exact this
   ·have e1:((List.range len).map λi=>(y i).1).getD i d=(y i).1:=by
     rw[List.getD_eq_getElem?_getD,List.getElem?_map,List.getElem?_range hi]
     rfl
    show f (((List.range len).map λi=>(y i).1).getD i d) w' _
    rw[e1]
    exact k3 w' hw
end
end Wx

namespace Wx
open Go Go.RowKit Go.Proofs Go.ChangeShapes Go.WideShapes Go.ChangeAt Go.Deep
section
variable {H:Type} {enc:TypeId×Value->H} {P:Program} {w:World}
def xB {H:Type} (enc:TypeId×Value->H) (P:Program) (w:World) (N o:Nat) (ts:List (TypeId×Nat)) {α:Type} (C:α->Prop) (F:α->List Fd):Prop:=
 ∀(fuel:Nat) (cs:List Value),cs.length=N->(∀p,p∈ts->∃x:DataW H×List MemPlace,DataW.trod enc P w 0 (λ_=>true) true fuel p.1 ((cs.drop p.2).take (P.cellsOf p.1))=some x)->∃a:α,C a/\∀w',vU w w'->aI (F a) w' (cs.drop o)
variable {N:Nat}
theorem qa:xB enc P w N N [] (λ_:Unit=>True) λ_=>[]:=λ_ _ hl _=>⟨(),trivial,λ_ _=>List.drop_eq_nil_of_le (Nat.le_of_eq hl)⟩
variable {e:TypeId} {n:Nat} {α:Type} {C:α->Prop} {f:α->Pred} {ts:List (TypeId×Nat)}
theorem fS {o:Nat} {agg:Bool} {β:Type} {D:β->Prop} {F:β->List Fd} (h:xA enc P w e agg C f) (hn:P.cellsOf e=n) (hle:o+n<=N) (r:xB enc P w N (o+n) ts D F):
  xB enc P w N o ((e,o)::ts) (λp:α×β=>C p.1/\D p.2) λp=>⟨agg,n,f p.1⟩::F p.2:=λfuel cs hl hp=>by
 obtain⟨x,hx⟩:=hp (e,o) (List.mem_cons_self ..)
 have hx:DataW.trod enc P w 0 (λ_=>true) true fuel e ((cs.drop o).take (P.cellsOf e))=some x:=hx
 rw[hn]at hx
 obtain⟨a,ha,hf⟩:=h _ _ _ hx
 obtain⟨b,hb,hg⟩:=r fuel cs hl λp hp'=>hp p (List.mem_cons_of_mem _ hp')
 refine⟨(a,b),⟨ha,hb⟩,λw' hw=>⟨?_,hf w' hw,?_⟩⟩
 ·show n<=(cs.drop o).length
  rw[List.length_drop]
  omega
 ·show aI (F b) w' ((cs.drop o).drop n)
  rw[List.drop_drop]
  exact hg w' hw
variable {F:α->List Fd} {t:TypeId}
theorem th {fs:Array Field} (ht:P.underlying t=some (.struct fs)) (hN:P.cellsOf t=N) (hts:fs.toList.map (λf=>(f.type,f.offset))=ts) (h:xB enc P w N 0 ts C F):xA enc P w t true C λa=>pS (F a):=λfuel cs x hx=>by
 obtain⟨xs,n,_,_,hl,hlen,hg⟩:=DataW.trod_struct ht hx
 obtain⟨a,ha,hf⟩:=h n cs (hl.trans hN) λp hp=>by
  rw[<-hts]at hp
  obtain⟨f,hf,rfl⟩:=List.mem_map.1 hp
  obtain⟨i,hi⟩:=List.mem_iff_getElem?.1 hf
  have hi':fs[i]?=some f:=by rw[<-Array.getElem?_toList]; exact hi
  have hlt:i<xs.length:=by
   rw[hlen]
   rcases Nat.lt_or_ge i fs.size with h'|h'
   ·exact h'
   ·rw[Array.getElem?_eq_none h']at hi'; cases hi'
  exact⟨xs[i],(hg i f hi').trans (List.getElem?_eq_getElem hlt)⟩
 exact⟨a,ha,λw' hw=>⟨cs,rfl,hf w' hw⟩⟩
theorem D5 {k:Nat} (ht:P.underlying t=some (.array k e)) (hN:P.cellsOf t=N) (hn:P.cellsOf e=n) (hts:(List.range k).map (λi=>(e,i*n))=ts) (h:xB enc P w N 0 ts C F):xA enc P w t true C λa=>pS (F a):=λfuel cs x hx=>by
 obtain⟨xs,m,_,_,hl,hlen,hg⟩:=DataW.trod_array ht hx
 obtain⟨a,ha,hf⟩:=h m cs (hl.trans hN) λp hp=>by
  rw[<-hts]at hp
  obtain⟨i,hi,rfl⟩:=List.mem_map.1 hp
  have hi:=List.mem_range.1 hi
  have:=hg i hi
  rw[hn]at this
  rw[hn]
  exact⟨xs[i]'(by omega),this.trans (List.getElem?_eq_getElem (by omega))⟩
 exact⟨a,ha,λw' hw=>⟨cs,rfl,hf w' hw⟩⟩
variable {r:Reach} {b0:Nat} {v:Value}
theorem Bg (ht:(∃fs,P.underlying t=some (.struct fs))\/∃k e,P.underlying t=some (.array k e)) (hv:Value.okWide P w r b0 t v):∃cs,v=.agg cs:=by
 rcases ht with⟨fs,ht⟩|⟨k,e,ht⟩ <;>
 ·simp only[Value.okWide,ht]at hv
  obtain⟨cs,rfl,_⟩:=hv
  exact⟨cs,rfl⟩
theorem xA.Lx {d:DataW H} {p:List MemPlace} (h:xA enc P w t true C f) (ht:(∃fs,P.underlying t=some (.struct fs))\/∃k e,P.underlying t=some (.array k e)) (hv:Value.okWide P w r b0 t v) (hd:DataW.Trod enc P w 0 (λ_=>true) true t v d p):
  ∃a:α,C a/\∀w',Ext (λ_ _=>False) w w'->f a w' v:=by
 obtain⟨fuel,hx⟩:=hd
 obtain⟨cs,rfl⟩:=Bg ht hv
 obtain⟨a,h1,h2⟩:=h _ _ _ hx
 refine⟨a,h1,λw' he=>?_⟩
 have:=h2 w' (Ek (λ_ _ h=>h) he)
 simpa [au,Value.cells] using this
end
end Wx

namespace Wx
open Go Go.RowKit Go.Proofs
theorem wf_u8 {n:Int} (h:(Lit.int .u8 n).wf=true):0<=n/\n<=255:=by
 simp[Lit.wf,IntKind.min,IntKind.max,IntKind.bits,IntKind.signed]at h
 omega
end Wx

namespace Wx
open Go Go.RowKit
def rO (P:Program) (ops:Array Oper) (K:Nat->Act->World->Prop):Nat->List Oper->Prop
 |_,[]=>True
 |m,o::os=>(∀a w,K m a w->cO P ops o a w (K (m+1)))/\rO P ops K (m+1) os
section
variable {P:Program} {Q:Exit->Act->World->Prop} {c:cM} {V:List Vr} {A:List Al} {G:List aV} {a:Act} {w:World}
theorem Hj {N k:Nat} {l:List Oper} (h:tU N (l.take k) V A G=true) {i:Nat} {o:Oper} (hi:l[i]?=some o) (hk:i<k):kD N l.toArray V A G i o:=by
 have h1:=tV h (i:=i) (o:=o) (by rw[List.getElem?_take,if_pos hk]; exact hi)
 have hm:=ig h
 refine⟨h1.sz,h1.sg,h1.aa,h1.g1,h1.g2,λe j he ht=>?_,h1.gu,h1.a1,h1.a2,h1.v1,h1.v2,h1.vk,h1.vb,h1.vs,h1.vu,h1.vo⟩
 have h2:=h1.g3 e j he ht
 rw[<-h2]
 simp only[sS,Bool.and_eq_true,List.all_eq_true]at hm
 have h3:=(hm.2 e he).1
 rw[ht]at h3
 simp only[mG,decide_eq_true_eq,List.length_take]at h3
 congr 1
 simp only[List.getElem?_toArray]
 rw[List.getElem?_take,if_pos (by omega)]
end
end Wx

namespace Wx
open Go Go.RowKit
inductive mL (ne:List aV):List aV->List aV->Prop
 |z:mL ne [] ne
 |k {s:Nat} {p:Pred} {G G1:List aV}:mL ne G G1->mL ne (⟨none,none,s,p⟩::G) (⟨none,none,s,p⟩::G1)
 |t {s:Nat} {p:Pred} {G G1:List aV} (i:Nat):mL ne G G1->mL ne (⟨none,none,s,p⟩::G) (⟨none,some i,s,p⟩::G1)
inductive aF:List aV->List aV->Prop
 |z:aF [] []
 |k {t:Option Nat} {s:Nat} {p:Pred} {G1 G2:List aV}:aF G1 G2->aF (⟨t,none,s,p⟩::G1) (⟨none,none,s,p⟩::G2)
 |d {e:aV} {G1 G2:List aV}:aF G1 G2->aF (e::G1) G2
inductive Aa (nv:List Vr):List Vr->List Vr->Prop
 |z:Aa nv [] nv
 |k {id s:Nat} {kd:Kd} {T:TypeId} {n:Nat} {ag:Bool} {c0:Rel} {V V1:List Vr}:Aa nv V V1->Aa nv (⟨id,s,none,none,kd,T,n,ag,c0,[]⟩::V) (⟨id,s,none,none,kd,T,n,ag,c0,[]⟩::V1)
 |u {id s:Nat} {kd:Kd} {T:TypeId} {n:Nat} {ag:Bool} {c0:Rel} {V V1:List Vr} (dead:Option Nat) (st:List (Nat×Rel)):Aa nv V V1->Aa nv (⟨id,s,none,none,kd,T,n,ag,c0,[]⟩::V) (⟨id,s,none,dead,kd,T,n,ag,c0,st⟩::V1)
inductive uC:List (Nat×Rel)->Rel->Prop
 |o {i:Nat} {c:Rel}:uC [(i,c)] c
 |c {x:Nat×Rel} {l:List (Nat×Rel)} {c:Rel}:uC l c->uC (x::l) c
inductive gp:List Vr->List Vr->Prop
 |z:gp [] []
 |k {id s:Nat} {b:Option Nat} {kd:Kd} {T:TypeId} {n:Nat} {ag:Bool} {c0:Rel} {V1 V2:List Vr}:gp V1 V2->gp (⟨id,s,b,none,kd,T,n,ag,c0,[]⟩::V1) (⟨s,s,none,none,kd,T,n,ag,c0,[]⟩::V2)
 |s {id s:Nat} {b:Option Nat} {kd:Kd} {T:TypeId} {n:Nat} {ag:Bool} {c0 c1:Rel} {st:List (Nat×Rel)} {V1 V2:List Vr}:uC st c1->gp V1 V2->gp (⟨id,s,b,none,kd,T,n,ag,c0,st⟩::V1) (⟨s,s,none,none,kd,T,n,ag,c1,[]⟩::V2)
 |d {x:Vr} {V1 V2:List Vr}:gp V1 V2->gp (x::V1) V2
variable {t0:Option Nat} {s0:Nat} {p0:Pred} {t1:Option Nat} {s1:Nat} {p1:Pred} {X Y:List aV}
theorem aF.kk (h:aF X Y):aF (⟨t0,none,s0,p0⟩::⟨t1,none,s1,p1⟩::X) (⟨none,none,s0,p0⟩::⟨none,none,s1,p1⟩::Y):=.k (.k h)
variable {e1:aV}
theorem aF.kd (h:aF X Y):aF (⟨t0,none,s0,p0⟩::e1::X) (⟨none,none,s0,p0⟩::Y):=.k (.d h)
variable {e0:aV}
theorem aF.dk (h:aF X Y):aF (e0::⟨t1,none,s1,p1⟩::X) (⟨none,none,s1,p1⟩::Y):=.d (.k h)
theorem aF.dd (h:aF X Y):aF (e0::e1::X) (Y):=.d (.d h)
variable {t2:Option Nat} {s2:Nat} {p2:Pred}
theorem aF.cQ (h:aF X Y):aF (⟨t0,none,s0,p0⟩::⟨t1,none,s1,p1⟩::⟨t2,none,s2,p2⟩::X) (⟨none,none,s0,p0⟩::⟨none,none,s1,p1⟩::⟨none,none,s2,p2⟩::Y):=.k (.k (.k h))
variable {e2:aV}
theorem aF.UJ (h:aF X Y):aF (⟨t0,none,s0,p0⟩::⟨t1,none,s1,p1⟩::e2::X) (⟨none,none,s0,p0⟩::⟨none,none,s1,p1⟩::Y):=.k (.k (.d h))
theorem aF.UI (h:aF X Y):aF (⟨t0,none,s0,p0⟩::e1::⟨t2,none,s2,p2⟩::X) (⟨none,none,s0,p0⟩::⟨none,none,s2,p2⟩::Y):=.k (.d (.k h))
theorem aF.Dn (h:aF X Y):aF (e0::⟨t1,none,s1,p1⟩::⟨t2,none,s2,p2⟩::X) (⟨none,none,s1,p1⟩::⟨none,none,s2,p2⟩::Y):=.d (.k (.k h))
theorem aF.lW (h:aF X Y):aF (e0::e1::⟨t2,none,s2,p2⟩::X) (⟨none,none,s2,p2⟩::Y):=.d (.d (.k h))
theorem aF.Iz (h:aF X Y):aF (e0::e1::e2::X) (Y):=.d (.d (.d h))
variable {t3:Option Nat} {s3:Nat} {p3:Pred}
theorem aF.aq (h:aF X Y):aF (⟨t0,none,s0,p0⟩::⟨t1,none,s1,p1⟩::⟨t2,none,s2,p2⟩::⟨t3,none,s3,p3⟩::X) (⟨none,none,s0,p0⟩::⟨none,none,s1,p1⟩::⟨none,none,s2,p2⟩::⟨none,none,s3,p3⟩::Y):=.k (.k (.k (.k h)))
variable {e3:aV}
theorem aF.dg (h:aF X Y):aF (⟨t0,none,s0,p0⟩::⟨t1,none,s1,p1⟩::⟨t2,none,s2,p2⟩::e3::X) (⟨none,none,s0,p0⟩::⟨none,none,s1,p1⟩::⟨none,none,s2,p2⟩::Y):=.k (.k (.k (.d h)))
theorem aF.mX (h:aF X Y):aF (⟨t0,none,s0,p0⟩::⟨t1,none,s1,p1⟩::e2::⟨t3,none,s3,p3⟩::X) (⟨none,none,s0,p0⟩::⟨none,none,s1,p1⟩::⟨none,none,s3,p3⟩::Y):=.k (.k (.d (.k h)))
theorem aF.dx (h:aF X Y):aF (⟨t0,none,s0,p0⟩::⟨t1,none,s1,p1⟩::e2::e3::X) (⟨none,none,s0,p0⟩::⟨none,none,s1,p1⟩::Y):=.k (.k (.d (.d h)))
theorem aF.S3 (h:aF X Y):aF (⟨t0,none,s0,p0⟩::e1::⟨t2,none,s2,p2⟩::⟨t3,none,s3,p3⟩::X) (⟨none,none,s0,p0⟩::⟨none,none,s2,p2⟩::⟨none,none,s3,p3⟩::Y):=.k (.d (.k (.k h)))
theorem aF.S2 (h:aF X Y):aF (⟨t0,none,s0,p0⟩::e1::⟨t2,none,s2,p2⟩::e3::X) (⟨none,none,s0,p0⟩::⟨none,none,s2,p2⟩::Y):=.k (.d (.k (.d h)))
theorem aF.wI (h:aF X Y):aF (⟨t0,none,s0,p0⟩::e1::e2::⟨t3,none,s3,p3⟩::X) (⟨none,none,s0,p0⟩::⟨none,none,s3,p3⟩::Y):=.k (.d (.d (.k h)))
theorem aF.fN (h:aF X Y):aF (⟨t0,none,s0,p0⟩::e1::e2::e3::X) (⟨none,none,s0,p0⟩::Y):=.k (.d (.d (.d h)))
theorem aF.qJ (h:aF X Y):aF (e0::⟨t1,none,s1,p1⟩::⟨t2,none,s2,p2⟩::⟨t3,none,s3,p3⟩::X) (⟨none,none,s1,p1⟩::⟨none,none,s2,p2⟩::⟨none,none,s3,p3⟩::Y):=.d (.k (.k (.k h)))
theorem aF.Ro (h:aF X Y):aF (e0::⟨t1,none,s1,p1⟩::⟨t2,none,s2,p2⟩::e3::X) (⟨none,none,s1,p1⟩::⟨none,none,s2,p2⟩::Y):=.d (.k (.k (.d h)))
theorem aF.Oq (h:aF X Y):aF (e0::⟨t1,none,s1,p1⟩::e2::e3::X) (⟨none,none,s1,p1⟩::Y):=.d (.k (.d (.d h)))
theorem aF.jI (h:aF X Y):aF (e0::e1::⟨t2,none,s2,p2⟩::⟨t3,none,s3,p3⟩::X) (⟨none,none,s2,p2⟩::⟨none,none,s3,p3⟩::Y):=.d (.d (.k (.k h)))
theorem aF.Fa (h:aF X Y):aF (e0::e1::⟨t2,none,s2,p2⟩::e3::X) (⟨none,none,s2,p2⟩::Y):=.d (.d (.k (.d h)))
theorem aF.ew (h:aF X Y):aF (e0::e1::e2::⟨t3,none,s3,p3⟩::X) (⟨none,none,s3,p3⟩::Y):=.d (.d (.d (.k h)))
theorem aF.bL (h:aF X Y):aF (e0::e1::e2::e3::X) (Y):=.d (.d (.d (.d h)))
variable {s4:Nat} {p4:Pred} {s5:Nat} {p5:Pred} {s6:Nat} {p6:Pred} {s7:Nat} {p7:Pred}
theorem aF.k8 {t4 t5 t6 t7:Option Nat} (h:aF X Y):aF (⟨t0,none,s0,p0⟩::⟨t1,none,s1,p1⟩::⟨t2,none,s2,p2⟩::⟨t3,none,s3,p3⟩::⟨t4,none,s4,p4⟩::⟨t5,none,s5,p5⟩::⟨t6,none,s6,p6⟩::⟨t7,none,s7,p7⟩::X) (⟨none,none,s0,p0⟩::⟨none,none,s1,p1⟩::⟨none,none,s2,p2⟩::⟨none,none,s3,p3⟩::⟨none,none,s4,p4⟩::⟨none,none,s5,p5⟩::⟨none,none,s6,p6⟩::⟨none,none,s7,p7⟩::Y):=.k (.k (.k (.k (.k (.k (.k (.k h)))))))
theorem aF.d8 {e4 e5 e6 e7:aV} (h:aF X Y):aF (e0::e1::e2::e3::e4::e5::e6::e7::X) (Y):=.d (.d (.d (.d (.d (.d (.d (.d h)))))))
variable {ne:List aV}
theorem mL.kk (h:mL ne X Y):mL ne (⟨none,none,s0,p0⟩::⟨none,none,s1,p1⟩::X) (⟨none,none,s0,p0⟩::⟨none,none,s1,p1⟩::Y):=.k (.k h)
theorem mL.cQ (h:mL ne X Y):mL ne (⟨none,none,s0,p0⟩::⟨none,none,s1,p1⟩::⟨none,none,s2,p2⟩::X) (⟨none,none,s0,p0⟩::⟨none,none,s1,p1⟩::⟨none,none,s2,p2⟩::Y):=.k (.k (.k h))
theorem mL.aq (h:mL ne X Y):mL ne (⟨none,none,s0,p0⟩::⟨none,none,s1,p1⟩::⟨none,none,s2,p2⟩::⟨none,none,s3,p3⟩::X) (⟨none,none,s0,p0⟩::⟨none,none,s1,p1⟩::⟨none,none,s2,p2⟩::⟨none,none,s3,p3⟩::Y):=.k (.k (.k (.k h)))
theorem mL.k8 (h:mL ne X Y):mL ne (⟨none,none,s0,p0⟩::⟨none,none,s1,p1⟩::⟨none,none,s2,p2⟩::⟨none,none,s3,p3⟩::⟨none,none,s4,p4⟩::⟨none,none,s5,p5⟩::⟨none,none,s6,p6⟩::⟨none,none,s7,p7⟩::X) (⟨none,none,s0,p0⟩::⟨none,none,s1,p1⟩::⟨none,none,s2,p2⟩::⟨none,none,s3,p3⟩::⟨none,none,s4,p4⟩::⟨none,none,s5,p5⟩::⟨none,none,s6,p6⟩::⟨none,none,s7,p7⟩::Y):=.k (.k (.k (.k (.k (.k (.k (.k h)))))))
theorem qD {α:Type} {l r:List α} (h:∀x∈r,x∈l):∃ks,iU ks l=r:=by
 induction r with
 |nil=>exact⟨[],rfl⟩
 |cons x r ih=>
  obtain⟨ks,hk⟩:=ih λy hy=>h y (List.mem_cons_of_mem _ hy)
  obtain⟨i,hi⟩:=List.mem_iff_getElem?.1 (h x (List.mem_cons_self ..))
  exact⟨i::ks,by unfold iU at *; rw[List.filterMap_cons,hi,hk]⟩
variable {G1:List aV}
theorem mL.strip {G:List aV} (h:mL ne G G1) (hn:(ne.all λe=>e.tag.isSome)=true):ko G1=G:=by
 induction h with
 |z=>
  unfold ko
  rw[List.filter_eq_nil_iff.2 λe he=>by
   have:=List.all_eq_true.1 hn e he
   cases ht:e.tag with
   |none=>rw[ht]at this; cases this
   |some i=>simp]
  rfl
 |k _ ih=>
  unfold ko at *
  rw[List.filter_cons_of_pos rfl,List.map_cons,ih]
 |t i _ ih=>
  unfold ko at *
  rw[List.filter_cons_of_pos rfl,List.map_cons,ih]
theorem aF.sub {G2:List aV} (h:aF G1 G2):∀e∈G2,e∈(G1.filter λe=>e.till.isNone).map mo:=by
 induction h with
 |z=>simp
 |k _ ih=>
  intro e he
  rw[List.filter_cons_of_pos rfl,List.map_cons]
  rcases List.mem_cons.1 he with rfl|he
  ·exact List.mem_cons_self ..
  ·exact List.mem_cons_of_mem _ (ih e he)
 |d _ ih=>
  intro e he
  rw[List.filter_cons]
  split
  ·exact List.mem_cons_of_mem _ (ih e he)
  ·exact ih e he
variable {nv V1:List Vr}
theorem Aa.strip {V:List Vr} (h:Aa nv V V1) (hn:(nv.all λx=>x.born.isSome)=true):kq V1=V:=by
 induction h with
 |z=>
  unfold kq
  rw[List.filter_eq_nil_iff.2 λe he=>by
   have:=List.all_eq_true.1 hn e he
   cases ht:e.born with
   |none=>rw[ht]at this; cases this
   |some i=>simp]
  rfl
 |k _ ih=>
  unfold kq at *
  rw[List.filter_cons_of_pos rfl,List.map_cons,ih]
  rfl
 |u _ _ _ ih=>
  unfold kq at *
  rw[List.filter_cons_of_pos rfl,List.map_cons,ih]
  rfl
theorem uC.cont {st:List (Nat×Rel)} {c:Rel} (h:uC st c):∀c0,cont (λ_=>true) c0 st=c:=by
 induction h with
 |o=>intro c0; rfl
 |c _ ih=>intro c0; exact ih _
theorem gp.sub {V2:List Vr} (h:gp V1 V2):∀x∈V2,x∈sO V1:=by
 unfold sO
 induction h with
 |z=>simp
 |k _ ih=>
  intro e he
  rw[List.filter_cons_of_pos rfl,List.map_cons]
  rcases List.mem_cons.1 he with rfl|he
  ·exact List.mem_cons_self ..
  ·exact List.mem_cons_of_mem _ (ih e he)
 |s hl _ ih=>
  intro e he
  rw[List.filter_cons_of_pos rfl,List.map_cons]
  rcases List.mem_cons.1 he with rfl|he
  ·refine List.mem_cons.2 (.inl ?_)
   unfold iV
   rw[hl.cont]
  ·exact List.mem_cons_of_mem _ (ih e he)
 |d _ ih=>
  intro e he
  rw[List.filter_cons]
  split
  ·exact List.mem_cons_of_mem _ (ih e he)
  ·exact ih e he
def ni (nv:List Vr) (A1:List Al) (ne:List aV):Bool:=(nv.all λx=>x.born.isSome)&&((A1.all λp=>p.tag.isSome)&&ne.all λe=>e.tag.isSome)
theorem MH {A1:List Al} (h:ni nv A1 ne=true):nB A1=[]:=by
 unfold ni at h
 simp only[Bool.and_eq_true,List.all_eq_true]at h
 unfold nB
 refine List.filter_eq_nil_iff.2 λp hp=>?_
 have:=h.2.1 p hp
 cases ht:p.tag with
 |none=>rw[ht]at this; cases this
 |some i=>simp
def zw (P:Program) (N:Nat) (l:List Oper) (ms:List Nat) (V1:List Vr) (A1:List Al) (G1:List aV):Bool:=P.follows .mixedOrders&&(gX l.toArray&&(ve l==ms&&tU N l V1 A1 G1))
def zz (N:Nat) (l:List Oper) (ms:List Nat) (V1:List Vr) (A1:List Al) (G1:List aV):Bool:=aU l.length==ms&&tU N l V1 A1 G1
def Bw (N:Nat) (l:List Oper) (ms:List Nat) (k:Nat) (V1:List Vr) (A1:List Al) (G1:List aV):Bool:=aU l.length==ms&&(decide (k<=l.length)&&tU N (l.take k) V1 A1 G1)
def fL (P:Program) (ops:Array Oper):(Act->World->Prop)->List Oper->(Act->World->Prop)->Prop
 |K,[],K'=>K=K'
 |K,o::os,K'=>∃K1,(∀a w,K a w->cO P ops o a w K1)/\fL P ops K1 os K'
section
variable {P:Program} {Q:Exit->Act->World->Prop} {c:cM} {V:List Vr} {G:List aV} {a:Act} {w:World}
theorem oT {ops:Array Oper} {K K2:Nat->Act->World->Prop}:∀{os:List Oper} {m m2:Nat},rO P ops K m os->(∀j,K2 (m2+j)=K (m+j))->rO P ops K2 m2 os
 |[],_,_,_,_=>trivial
 |o::os,m,m2,h,e=>by
  refine⟨λa w hk=>?_,oT h.2 λj=>by rw[Nat.add_assoc,Nat.add_assoc]; exact e (1+j)⟩
  have e0:=e 0
  have e1:=e 1
  rw[Nat.add_zero,Nat.add_zero]at e0
  rw[e0]at hk
  rw[e1]
  exact h.1 a w hk
theorem fL.steps {ops:Array Oper}:∀{os:List Oper} {K K':Act->World->Prop},fL P ops K os K'->∃F:Nat->Act->World->Prop,F 0=K/\F os.length=K'/\rO P ops F 0 os
 |[],K,K',h=>⟨λ_=>K,rfl,h,trivial⟩
 |o::os,K,K',⟨K1,h1,h2⟩=>by
  obtain⟨F,e0,e1,hs⟩:=fL.steps h2
  refine⟨λm=>match m with|0=>K|m+1=>F m,rfl,e1,λa w hk=>?_,oT hs λj=>?_⟩
  ·show cO P ops o a w (F 0)
   rw[e0]
   exact h1 a w hk
  ·rw[show 0+1+j=j+1 by omega,Nat.zero_add]
variable {V1:List Vr} {A1:List Al} {G1:List aV}
theorem ow {V2:List Vr} {G2:List aV} {N:Nat} {l:List Oper} (hwf:tU N l V1 A1 G1=true) (kV:gp V1 V2) (kG:aF G1 G2) {a:Act} {w:World} (hI:Inv c V1 A1 G1 (λ_=>true) a w):Inv c V2 [] G2 none_ a w:=by
 obtain⟨kv,e1⟩:=qD kV.sub
 obtain⟨kg,e2⟩:=qD kG.sub
 exact hI.next kv kg (qh hwf) (xk hwf) e1 e2
theorem lY {nv:List Vr} {ne:List aV} (h:Inv c V [] G none_ a w) (hV:Aa nv V V1) (hG:mL ne G G1) (hn:ni nv A1 ne=true):Inv c V1 A1 G1 none_ a w:=by
 have hn':=hn
 unfold ni at hn'
 simp only[Bool.and_eq_true]at hn'
 exact h.enter (hV.strip hn'.1) (MH hn) (hG.strip hn'.2.2)
end
end Wx
