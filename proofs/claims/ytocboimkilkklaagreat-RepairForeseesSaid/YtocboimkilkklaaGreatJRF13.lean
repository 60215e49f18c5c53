import Derived.Test.YtocboimkilkklaaGreatJRF12
namespace Wx
open Go Go.RowKit Go.Proofs Go.ChangeShapes Go.WideShapes Go.ChangeAt Go.Deep
def BV (w w':World):Prop:=∀a v,w.cell? a=some v->w'.cell? a=some v
theorem Gx {M:Nat->Nat->Prop} {w w':World} (hM:∀k o,¬M k o) (h:Ext M w w'):BV w w':=λa v hv=>by
 obtain⟨b,o,s⟩:=a
 cases s with
 |none=>exact h.cell b o v (hM b o) hv
 |some s=>
  exfalso
  unfold World.cell? at hv
  split at hv
  ·simp at hv
  ·cases hv
def EX {H:Type} (enc:TypeId×Value->H) (P:Program) (w:World) (e:TypeId) (agg:Bool) {α:Type} (C:α->Prop) (f:α->Pred):Prop:=
 ∀fuel cs (x:DataW H×List MemPlace),DataW.trod enc P w 0 (λ_=>true) true fuel e cs=some x->∃a:α,C a/\∀w',BV w w'->f a w' (aA agg cs)
section
variable {H:Type} {enc:TypeId×Value->H} {P:Program} {w:World}
theorem Er {e:TypeId} {k:IntKind} (he:P.underlying e=some (.int k)):EX enc P w e false (λn=>(Lit.int k n).wf=true) λn=>cI (.int k n):=λfuel cs x h=>by
 obtain⟨n,h1,_,h3⟩:=DataW.trod_int he h
 subst h1
 exact⟨n,h3,λw' _=>rfl⟩
end
end Wx

namespace Wx
open Go Go.RowKit Go.Proofs Go.ChangeShapes Go.WideShapes Go.ChangeAt Go.Deep
section
variable {H:Type} {enc:TypeId×Value->H} {P:Program} {w:World}
def zF {H:Type} (enc:TypeId×Value->H) (P:Program) (w:World) (N o:Nat) (ts:List (TypeId×Nat)) {α:Type} (C:α->Prop) (F:α->List Fd):Prop:=
 ∀(fuel:Nat) (cs:List Value),cs.length=N->(∀p,p∈ts->∃x:DataW H×List MemPlace,DataW.trod enc P w 0 (λ_=>true) true fuel p.1 ((cs.drop p.2).take (P.cellsOf p.1))=some x)->∃a:α,C a/\∀w',BV w w'->aJ (F a) w' (cs.drop o)
variable {N:Nat}
theorem xK:zF enc P w N N [] (λ_:Unit=>True) λ_=>[]:=λ_ _ hl _=>⟨(),trivial,λ_ _=>List.drop_eq_nil_of_le (Nat.le_of_eq hl)⟩
variable {e:TypeId} {n:Nat} {α:Type} {C:α->Prop} {f:α->Pred} {ts:List (TypeId×Nat)}
theorem lT {o:Nat} {agg:Bool} {β:Type} {D:β->Prop} {F:β->List Fd} (h:EX enc P w e agg C f) (hn:P.cellsOf e=n) (hle:o+n<=N) (r:zF enc P w N (o+n) ts D F):
  zF enc P w N o ((e,o)::ts) (λp:α×β=>C p.1/\D p.2) λp=>⟨agg,n,f p.1⟩::F p.2:=λfuel cs hl hp=>by
 obtain⟨x,hx⟩:=hp (e,o) (List.mem_cons_self ..)
 have hx:DataW.trod enc P w 0 (λ_=>true) true fuel e ((cs.drop o).take (P.cellsOf e))=some x:=hx
 rw[hn]at hx
 obtain⟨a,ha,hf⟩:=h _ _ _ hx
 obtain⟨b,hb,hg⟩:=r fuel cs hl λp hp'=>hp p (List.mem_cons_of_mem _ hp')
 refine⟨(a,b),⟨ha,hb⟩,λw' hw=>⟨?_,hf w' hw,?_⟩⟩
 ·show n<=(cs.drop o).length
  rw[List.length_drop]
  omega
 ·show aJ (F b) w' ((cs.drop o).drop n)
  rw[List.drop_drop]
  exact hg w' hw
variable {F:α->List Fd} {t:TypeId}
theorem CU {fs:Array Field} (ht:P.underlying t=some (.struct fs)) (hN:P.cellsOf t=N) (hts:fs.toList.map (λf=>(f.type,f.offset))=ts) (h:zF enc P w N 0 ts C F):EX enc P w t true C λa=>pS (F a):=λfuel cs x hx=>by
 obtain⟨xs,n,_,_,hl,hlen,hg⟩:=DataW.trod_struct ht hx
 obtain⟨a,ha,hf⟩:=h n cs (hl.trans hN) λp hp=>by
  rw[<-hts]at hp
  obtain⟨f,hf,rfl⟩:=List.mem_map.1 hp
  obtain⟨i,hi⟩:=List.mem_iff_getElem?.1 hf
  have hi':fs[i]?=some f:=by rw[<-Array.getElem?_toList]; exact hi
  have hlt:i<xs.length:=by
   rw[hlen]
   rcases Nat.lt_or_ge i fs.size with h'|h'
   ·exact h'
   ·rw[Array.getElem?_eq_none h']at hi'; cases hi'
  exact⟨xs[i],(hg i f hi').trans (List.getElem?_eq_getElem hlt)⟩
 exact⟨a,ha,λw' hw=>⟨cs,rfl,hf w' hw⟩⟩
theorem Gg {k:Nat} (ht:P.underlying t=some (.array k e)) (hN:P.cellsOf t=N) (hn:P.cellsOf e=n) (hts:(List.range k).map (λi=>(e,i*n))=ts) (h:zF enc P w N 0 ts C F):EX enc P w t true C λa=>pS (F a):=λfuel cs x hx=>by
 obtain⟨xs,m,_,_,hl,hlen,hg⟩:=DataW.trod_array ht hx
 obtain⟨a,ha,hf⟩:=h m cs (hl.trans hN) λp hp=>by
  rw[<-hts]at hp
  obtain⟨i,hi,rfl⟩:=List.mem_map.1 hp
  have hi:=List.mem_range.1 hi
  have:=hg i hi
  rw[hn]at this
  rw[hn]
  exact⟨xs[i]'(by omega),this.trans (List.getElem?_eq_getElem (by omega))⟩
 exact⟨a,ha,λw' hw=>⟨cs,rfl,hf w' hw⟩⟩
variable {r:Reach} {b0:Nat} {v:Value}
theorem CP (ht:(∃fs,P.underlying t=some (.struct fs))\/∃k e,P.underlying t=some (.array k e)) (hv:Value.okWide P w r b0 t v):∃cs,v=.agg cs:=by
 rcases ht with⟨fs,ht⟩|⟨k,e,ht⟩ <;>
 ·simp only[Value.okWide,ht]at hv
  obtain⟨cs,rfl,_⟩:=hv
  exact⟨cs,rfl⟩
theorem EX.NW {d:DataW H} {p:List MemPlace} (h:EX enc P w t true C f) (ht:(∃fs,P.underlying t=some (.struct fs))\/∃k e,P.underlying t=some (.array k e)) (hv:Value.okWide P w r b0 t v) (hd:DataW.Trod enc P w 0 (λ_=>true) true t v d p):
  ∃a:α,C a/\∀w',Ext (λ_ _=>False) w w'->f a w' v:=by
 obtain⟨fuel,hx⟩:=hd
 obtain⟨cs,rfl⟩:=CP ht hv
 obtain⟨a,h1,h2⟩:=h _ _ _ hx
 refine⟨a,h1,λw' he=>?_⟩
 have:=h2 w' (Gx (λ_ _ h=>h) he)
 simpa [aA,Value.cells] using this
end
end Wx

namespace Wx
open Go Go.RowKit Go.Proofs
end Wx

namespace Wx
open Go Go.RowKit
def tw (P:Program) (ops:Array Oper) (K:Nat->Act->World->Prop):Nat->List Oper->Prop
 |_,[]=>True
 |m,o::os=>(∀a w,K m a w->eC P ops o a w (K (m+1)))/\tw P ops K (m+1) os
section
variable {P:Program} {Q:Exit->Act->World->Prop} {c:eL} {V:List Vr} {A:List Al} {G:List bI} {a:Act} {w:World}
theorem Km {N k:Nat} {l:List Oper} (h:vP N (l.take k) V A G=true) {i:Nat} {o:Oper} (hi:l[i]?=some o) (hk:i<k):mC N l.toArray V A G i o:=by
 have h1:=vQ h (i:=i) (o:=o) (by rw[List.getElem?_take,if_pos hk]; exact hi)
 have hm:=ji h
 refine⟨h1.sz,h1.sg,h1.aa,h1.g1,h1.g2,λe j he ht=>?_,h1.gu,h1.a1,h1.a2,h1.v1,h1.v2,h1.vk,h1.vb,h1.vs,h1.vu,h1.vo⟩
 have h2:=h1.g3 e j he ht
 rw[<-h2]
 simp only[uw,Bool.and_eq_true,List.all_eq_true]at hm
 have h3:=(hm.2 e he).1
 rw[ht]at h3
 simp only[oI,decide_eq_true_eq,List.length_take]at h3
 congr 1
 simp only[List.getElem?_toArray]
 rw[List.getElem?_take,if_pos (by omega)]
end
end Wx

namespace Wx
open Go Go.RowKit
inductive me (ne:List bI):List bI->List bI->Prop
 |z:me ne [] ne
 |k {s:Nat} {p:Pred} {G G1:List bI}:me ne G G1->me ne (⟨none,none,s,p⟩::G) (⟨none,none,s,p⟩::G1)
 |t {s:Nat} {p:Pred} {G G1:List bI} (i:Nat):me ne G G1->me ne (⟨none,none,s,p⟩::G) (⟨none,some i,s,p⟩::G1)
inductive aH:List bI->List bI->Prop
 |z:aH [] []
 |k {t:Option Nat} {s:Nat} {p:Pred} {G1 G2:List bI}:aH G1 G2->aH (⟨t,none,s,p⟩::G1) (⟨none,none,s,p⟩::G2)
 |d {e:bI} {G1 G2:List bI}:aH G1 G2->aH (e::G1) G2
inductive vT (nv:List Vr):List Vr->List Vr->Prop
 |z:vT nv [] nv
 |k {id s:Nat} {kd:Kd} {T:TypeId} {n:Nat} {ag:Bool} {c0:Rel} {V V1:List Vr}:vT nv V V1->vT nv (⟨id,s,none,none,kd,T,n,ag,c0,[]⟩::V) (⟨id,s,none,none,kd,T,n,ag,c0,[]⟩::V1)
 |u {id s:Nat} {kd:Kd} {T:TypeId} {n:Nat} {ag:Bool} {c0:Rel} {V V1:List Vr} (dead:Option Nat) (st:List (Nat×Rel)):vT nv V V1->vT nv (⟨id,s,none,none,kd,T,n,ag,c0,[]⟩::V) (⟨id,s,none,dead,kd,T,n,ag,c0,st⟩::V1)
inductive wI:List (Nat×Rel)->Rel->Prop
 |o {i:Nat} {c:Rel}:wI [(i,c)] c
 |c {x:Nat×Rel} {l:List (Nat×Rel)} {c:Rel}:wI l c->wI (x::l) c
inductive fH:List Vr->List Vr->Prop
 |z:fH [] []
 |k {id s:Nat} {b:Option Nat} {kd:Kd} {T:TypeId} {n:Nat} {ag:Bool} {c0:Rel} {V1 V2:List Vr}:fH V1 V2->fH (⟨id,s,b,none,kd,T,n,ag,c0,[]⟩::V1) (⟨s,s,none,none,kd,T,n,ag,c0,[]⟩::V2)
 |s {id s:Nat} {b:Option Nat} {kd:Kd} {T:TypeId} {n:Nat} {ag:Bool} {c0 c1:Rel} {st:List (Nat×Rel)} {V1 V2:List Vr}:wI st c1->fH V1 V2->fH (⟨id,s,b,none,kd,T,n,ag,c0,st⟩::V1) (⟨s,s,none,none,kd,T,n,ag,c1,[]⟩::V2)
 |d {x:Vr} {V1 V2:List Vr}:fH V1 V2->fH (x::V1) V2
variable {t0:Option Nat} {s0:Nat} {p0:Pred} {t1:Option Nat} {s1:Nat} {p1:Pred} {X Y:List bI}
theorem aH.kk (h:aH X Y):aH (⟨t0,none,s0,p0⟩::⟨t1,none,s1,p1⟩::X) (⟨none,none,s0,p0⟩::⟨none,none,s1,p1⟩::Y):=.k (.k h)
variable {e1:bI}
theorem aH.kd (h:aH X Y):aH (⟨t0,none,s0,p0⟩::e1::X) (⟨none,none,s0,p0⟩::Y):=.k (.d h)
variable {e0:bI}
theorem aH.dk (h:aH X Y):aH (e0::⟨t1,none,s1,p1⟩::X) (⟨none,none,s1,p1⟩::Y):=.d (.k h)
theorem aH.dd (h:aH X Y):aH (e0::e1::X) (Y):=.d (.d h)
variable {t2:Option Nat} {s2:Nat} {p2:Pred}
theorem aH.fS (h:aH X Y):aH (⟨t0,none,s0,p0⟩::⟨t1,none,s1,p1⟩::⟨t2,none,s2,p2⟩::X) (⟨none,none,s0,p0⟩::⟨none,none,s1,p1⟩::⟨none,none,s2,p2⟩::Y):=.k (.k (.k h))
variable {e2:bI}
theorem aH.ZB (h:aH X Y):aH (⟨t0,none,s0,p0⟩::⟨t1,none,s1,p1⟩::e2::X) (⟨none,none,s0,p0⟩::⟨none,none,s1,p1⟩::Y):=.k (.k (.d h))
theorem aH.QH (h:aH X Y):aH (e0::⟨t1,none,s1,p1⟩::⟨t2,none,s2,p2⟩::X) (⟨none,none,s1,p1⟩::⟨none,none,s2,p2⟩::Y):=.d (.k (.k h))
theorem aH.we (h:aH X Y):aH (e0::e1::⟨t2,none,s2,p2⟩::X) (⟨none,none,s2,p2⟩::Y):=.d (.d (.k h))
theorem aH.Ky (h:aH X Y):aH (e0::e1::e2::X) (Y):=.d (.d (.d h))
variable {t3:Option Nat} {s3:Nat} {p3:Pred}
theorem aH.aK (h:aH X Y):aH (⟨t0,none,s0,p0⟩::⟨t1,none,s1,p1⟩::⟨t2,none,s2,p2⟩::⟨t3,none,s3,p3⟩::X) (⟨none,none,s0,p0⟩::⟨none,none,s1,p1⟩::⟨none,none,s2,p2⟩::⟨none,none,s3,p3⟩::Y):=.k (.k (.k (.k h)))
variable {e3:bI}
theorem aH.lN (h:aH X Y):aH (⟨t0,none,s0,p0⟩::⟨t1,none,s1,p1⟩::⟨t2,none,s2,p2⟩::e3::X) (⟨none,none,s0,p0⟩::⟨none,none,s1,p1⟩::⟨none,none,s2,p2⟩::Y):=.k (.k (.k (.d h)))
theorem aH.ry (h:aH X Y):aH (⟨t0,none,s0,p0⟩::⟨t1,none,s1,p1⟩::e2::⟨t3,none,s3,p3⟩::X) (⟨none,none,s0,p0⟩::⟨none,none,s1,p1⟩::⟨none,none,s3,p3⟩::Y):=.k (.k (.d (.k h)))
theorem aH.gX (h:aH X Y):aH (⟨t0,none,s0,p0⟩::⟨t1,none,s1,p1⟩::e2::e3::X) (⟨none,none,s0,p0⟩::⟨none,none,s1,p1⟩::Y):=.k (.k (.d (.d h)))
theorem aH.VJ (h:aH X Y):aH (⟨t0,none,s0,p0⟩::e1::⟨t2,none,s2,p2⟩::e3::X) (⟨none,none,s0,p0⟩::⟨none,none,s2,p2⟩::Y):=.k (.d (.k (.d h)))
theorem aH.CA (h:aH X Y):aH (⟨t0,none,s0,p0⟩::e1::e2::⟨t3,none,s3,p3⟩::X) (⟨none,none,s0,p0⟩::⟨none,none,s3,p3⟩::Y):=.k (.d (.d (.k h)))
theorem aH.lM (h:aH X Y):aH (⟨t0,none,s0,p0⟩::e1::e2::e3::X) (⟨none,none,s0,p0⟩::Y):=.k (.d (.d (.d h)))
theorem aH.Ol (h:aH X Y):aH (e0::⟨t1,none,s1,p1⟩::⟨t2,none,s2,p2⟩::⟨t3,none,s3,p3⟩::X) (⟨none,none,s1,p1⟩::⟨none,none,s2,p2⟩::⟨none,none,s3,p3⟩::Y):=.d (.k (.k (.k h)))
theorem aH.TR (h:aH X Y):aH (e0::⟨t1,none,s1,p1⟩::⟨t2,none,s2,p2⟩::e3::X) (⟨none,none,s1,p1⟩::⟨none,none,s2,p2⟩::Y):=.d (.k (.k (.d h)))
theorem aH.QG (h:aH X Y):aH (e0::⟨t1,none,s1,p1⟩::e2::e3::X) (⟨none,none,s1,p1⟩::Y):=.d (.k (.d (.d h)))
theorem aH.yw (h:aH X Y):aH (e0::e1::⟨t2,none,s2,p2⟩::⟨t3,none,s3,p3⟩::X) (⟨none,none,s2,p2⟩::⟨none,none,s3,p3⟩::Y):=.d (.d (.k (.k h)))
theorem aH.Og (h:aH X Y):aH (e0::e1::⟨t2,none,s2,p2⟩::e3::X) (⟨none,none,s2,p2⟩::Y):=.d (.d (.k (.d h)))
theorem aH.gV (h:aH X Y):aH (e0::e1::e2::⟨t3,none,s3,p3⟩::X) (⟨none,none,s3,p3⟩::Y):=.d (.d (.d (.k h)))
theorem aH.ek (h:aH X Y):aH (e0::e1::e2::e3::X) (Y):=.d (.d (.d (.d h)))
variable {s4:Nat} {p4:Pred} {s5:Nat} {p5:Pred} {s6:Nat} {p6:Pred} {s7:Nat} {p7:Pred}
theorem aH.k8 {t4 t5 t6 t7:Option Nat} (h:aH X Y):aH (⟨t0,none,s0,p0⟩::⟨t1,none,s1,p1⟩::⟨t2,none,s2,p2⟩::⟨t3,none,s3,p3⟩::⟨t4,none,s4,p4⟩::⟨t5,none,s5,p5⟩::⟨t6,none,s6,p6⟩::⟨t7,none,s7,p7⟩::X) (⟨none,none,s0,p0⟩::⟨none,none,s1,p1⟩::⟨none,none,s2,p2⟩::⟨none,none,s3,p3⟩::⟨none,none,s4,p4⟩::⟨none,none,s5,p5⟩::⟨none,none,s6,p6⟩::⟨none,none,s7,p7⟩::Y):=.k (.k (.k (.k (.k (.k (.k (.k h)))))))
theorem aH.d8 {e4 e5 e6 e7:bI} (h:aH X Y):aH (e0::e1::e2::e3::e4::e5::e6::e7::X) (Y):=.d (.d (.d (.d (.d (.d (.d (.d h)))))))
variable {ne:List bI}
theorem me.kk (h:me ne X Y):me ne (⟨none,none,s0,p0⟩::⟨none,none,s1,p1⟩::X) (⟨none,none,s0,p0⟩::⟨none,none,s1,p1⟩::Y):=.k (.k h)
theorem me.fS (h:me ne X Y):me ne (⟨none,none,s0,p0⟩::⟨none,none,s1,p1⟩::⟨none,none,s2,p2⟩::X) (⟨none,none,s0,p0⟩::⟨none,none,s1,p1⟩::⟨none,none,s2,p2⟩::Y):=.k (.k (.k h))
theorem me.aK (h:me ne X Y):me ne (⟨none,none,s0,p0⟩::⟨none,none,s1,p1⟩::⟨none,none,s2,p2⟩::⟨none,none,s3,p3⟩::X) (⟨none,none,s0,p0⟩::⟨none,none,s1,p1⟩::⟨none,none,s2,p2⟩::⟨none,none,s3,p3⟩::Y):=.k (.k (.k (.k h)))
theorem me.k8 (h:me ne X Y):me ne (⟨none,none,s0,p0⟩::⟨none,none,s1,p1⟩::⟨none,none,s2,p2⟩::⟨none,none,s3,p3⟩::⟨none,none,s4,p4⟩::⟨none,none,s5,p5⟩::⟨none,none,s6,p6⟩::⟨none,none,s7,p7⟩::X) (⟨none,none,s0,p0⟩::⟨none,none,s1,p1⟩::⟨none,none,s2,p2⟩::⟨none,none,s3,p3⟩::⟨none,none,s4,p4⟩::⟨none,none,s5,p5⟩::⟨none,none,s6,p6⟩::⟨none,none,s7,p7⟩::Y):=.k (.k (.k (.k (.k (.k (.k (.k h)))))))
theorem si {α:Type} {l r:List α} (h:∀x∈r,x∈l):∃ks,jW ks l=r:=by
 induction r with
 |nil=>exact⟨[],rfl⟩
 |cons x r ih=>
  obtain⟨ks,hk⟩:=ih λy hy=>h y (List.mem_cons_of_mem _ hy)
  obtain⟨i,hi⟩:=List.mem_iff_getElem?.1 (h x (List.mem_cons_self ..))
  exact⟨i::ks,by unfold jW at *; rw[List.filterMap_cons,hi,hk]⟩
variable {G1:List bI}
theorem me.strip {G:List bI} (h:me ne G G1) (hn:(ne.all λe=>e.tag.isSome)=true):lW G1=G:=by
 induction h with
 |z=>
  unfold lW
  rw[List.filter_eq_nil_iff.2 λe he=>by
   have:=List.all_eq_true.1 hn e he
   cases ht:e.tag with
   |none=>rw[ht]at this; cases this
   |some i=>simp]
  rfl
 |k _ ih=>
  unfold lW at *
  rw[List.filter_cons_of_pos rfl,List.map_cons,ih]
 |t i _ ih=>
  unfold lW at *
  rw[List.filter_cons_of_pos rfl,List.map_cons,ih]
theorem aH.sub {G2:List bI} (h:aH G1 G2):∀e∈G2,e∈(G1.filter λe=>e.till.isNone).map od:=by
 induction h with
 |z=>simp
 |k _ ih=>
  intro e he
  rw[List.filter_cons_of_pos rfl,List.map_cons]
  rcases List.mem_cons.1 he with rfl|he
  ·exact List.mem_cons_self ..
  ·exact List.mem_cons_of_mem _ (ih e he)
 |d _ ih=>
  intro e he
  rw[List.filter_cons]
  split
  ·exact List.mem_cons_of_mem _ (ih e he)
  ·exact ih e he
variable {nv V1:List Vr}
theorem vT.strip {V:List Vr} (h:vT nv V V1) (hn:(nv.all λx=>x.born.isSome)=true):lX V1=V:=by
 induction h with
 |z=>
  unfold lX
  rw[List.filter_eq_nil_iff.2 λe he=>by
   have:=List.all_eq_true.1 hn e he
   cases ht:e.born with
   |none=>rw[ht]at this; cases this
   |some i=>simp]
  rfl
 |k _ ih=>
  unfold lX at *
  rw[List.filter_cons_of_pos rfl,List.map_cons,ih]
  rfl
 |u _ _ _ ih=>
  unfold lX at *
  rw[List.filter_cons_of_pos rfl,List.map_cons,ih]
  rfl
theorem wI.cont {st:List (Nat×Rel)} {c:Rel} (h:wI st c):∀c0,cont (λ_=>true) c0 st=c:=by
 induction h with
 |o=>intro c0; rfl
 |c _ ih=>intro c0; exact ih _
theorem fH.sub {V2:List Vr} (h:fH V1 V2):∀x∈V2,x∈uu V1:=by
 unfold uu
 induction h with
 |z=>simp
 |k _ ih=>
  intro e he
  rw[List.filter_cons_of_pos rfl,List.map_cons]
  rcases List.mem_cons.1 he with rfl|he
  ·exact List.mem_cons_self ..
  ·exact List.mem_cons_of_mem _ (ih e he)
 |s hl _ ih=>
  intro e he
  rw[List.filter_cons_of_pos rfl,List.map_cons]
  rcases List.mem_cons.1 he with rfl|he
  ·refine List.mem_cons.2 (.inl ?_)
   unfold kj
   rw[hl.cont]
  ·exact List.mem_cons_of_mem _ (ih e he)
 |d _ ih=>
  intro e he
  rw[List.filter_cons]
  split
  ·exact List.mem_cons_of_mem _ (ih e he)
  ·exact ih e he
def jF (nv:List Vr) (A1:List Al) (ne:List bI):Bool:=(nv.all λx=>x.born.isSome)&&((A1.all λp=>p.tag.isSome)&&ne.all λe=>e.tag.isSome)
theorem Ph {A1:List Al} (h:jF nv A1 ne=true):pA A1=[]:=by
 unfold jF at h
 simp only[Bool.and_eq_true,List.all_eq_true]at h
 unfold pA
 refine List.filter_eq_nil_iff.2 λp hp=>?_
 have:=h.2.1 p hp
 cases ht:p.tag with
 |none=>rw[ht]at this; cases this
 |some i=>simp
def qB (P:Program) (N:Nat) (l:List Oper) (ms:List Nat) (V1:List Vr) (A1:List Al) (G1:List bI):Bool:=P.follows .mixedOrders&&(ja l.toArray&&(xw l==ms&&vP N l V1 A1 G1))
def oH (N:Nat) (l:List Oper) (ms:List Nat) (V1:List Vr) (A1:List Al) (G1:List bI):Bool:=bC l.length==ms&&vP N l V1 A1 G1
def C4 (N:Nat) (l:List Oper) (ms:List Nat) (k:Nat) (V1:List Vr) (A1:List Al) (G1:List bI):Bool:=bC l.length==ms&&(decide (k<=l.length)&&vP N (l.take k) V1 A1 G1)
def gU (P:Program) (ops:Array Oper):(Act->World->Prop)->List Oper->(Act->World->Prop)->Prop
 |K,[],K'=>K=K'
 |K,o::os,K'=>∃K1,(∀a w,K a w->eC P ops o a w K1)/\gU P ops K1 os K'
section
variable {P:Program} {Q:Exit->Act->World->Prop} {c:eL} {V:List Vr} {G:List bI} {a:Act} {w:World}
theorem qH {ops:Array Oper} {K K2:Nat->Act->World->Prop}:∀{os:List Oper} {m m2:Nat},tw P ops K m os->(∀j,K2 (m2+j)=K (m+j))->tw P ops K2 m2 os
 |[],_,_,_,_=>trivial
 |o::os,m,m2,h,e=>by
  refine⟨λa w hk=>?_,qH h.2 λj=>by rw[Nat.add_assoc,Nat.add_assoc]; exact e (1+j)⟩
  have e0:=e 0
  have e1:=e 1
  rw[Nat.add_zero,Nat.add_zero]at e0
  rw[e0]at hk
  rw[e1]
  exact h.1 a w hk
theorem gU.steps {ops:Array Oper}:∀{os:List Oper} {K K':Act->World->Prop},gU P ops K os K'->∃F:Nat->Act->World->Prop,F 0=K/\F os.length=K'/\tw P ops F 0 os
 |[],K,K',h=>⟨λ_=>K,rfl,h,trivial⟩
 |o::os,K,K',⟨K1,h1,h2⟩=>by
  obtain⟨F,e0,e1,hs⟩:=gU.steps h2
  refine⟨λm=>match m with|0=>K|m+1=>F m,rfl,e1,λa w hk=>?_,qH hs λj=>?_⟩
  ·show eC P ops o a w (F 0)
   rw[e0]
   exact h1 a w hk
  ·rw[show 0+1+j=j+1 by omega,Nat.zero_add]
variable {V1 V2:List Vr} {A1:List Al} {G1 G2:List bI} {l:List Oper}
theorem kZ {N:Nat} (hwf:vP N l V1 A1 G1=true) (kV:fH V1 V2) (kG:aH G1 G2) {a:Act} {w:World} (hI:Inv c V1 A1 G1 (λ_=>true) a w):Inv c V2 [] G2 none_ a w:=by
 obtain⟨kv,e1⟩:=si kV.sub
 obtain⟨kg,e2⟩:=si kG.sub
 exact hI.next kv kg (rI hwf) (zu hwf) e1 e2
theorem jf {nv:List Vr} {ne:List bI} (h:Inv c V [] G none_ a w) (hV:vT nv V V1) (hG:me ne G G1) (hn:jF nv A1 ne=true):Inv c V1 A1 G1 none_ a w:=by
 have hn':=hn
 unfold jF at hn'
 simp only[Bool.and_eq_true]at hn'
 exact h.enter (hV.strip hn'.1) (Ph hn) (hG.strip hn'.2.2)
variable {id:Nat}
theorem Sz (h:Inv c V [] G none_ a w) (nv:List Vr) (A1:List Al) (ne:List bI) (hV:vT nv V V1) (hG:me ne G G1) (hn:jF nv A1 ne=true)
  (ms:List Nat) (hb:qB P c.N l ms V1 A1 G1=true) (hs:oC P l.toArray ms c V1 A1 G1 0 l) (kV:fH V1 V2) (kG:aH G1 G2) (hk:∀a w,Inv c V2 [] G2 none_ a w->Q .normal a w):(Code.region id l.toArray true).wp P Q a w:=by
 unfold qB at hb
 simp only[Bool.and_eq_true,beq_iff_eq]at hb
 obtain⟨hm,hok,wm,hwf⟩:=hb
 exact qC ms hm hok wm hwf (jf h hV hG hn) hs λa w hI=>hk a w (kZ hwf kV kG hI)
theorem ND (h:Inv c V [] G none_ a w) (nv:List Vr) (A1:List Al) (ne:List bI) (hV:vT nv V V1) (hG:me ne G G1) (hn:jF nv A1 ne=true)
  (ms:List Nat) (hb:oH c.N l ms V1 A1 G1=true) (hs:oC P l.toArray ms c V1 A1 G1 0 l) (kV:fH V1 V2) (kG:aH G1 G2) (hk:∀a w,Inv c V2 [] G2 none_ a w->Q .normal a w):(Code.region id l.toArray false).wp P Q a w:=by
 unfold oH at hb
 simp only[Bool.and_eq_true,beq_iff_eq]at hb
 obtain⟨wm,hwf⟩:=hb
 exact sj hwf (jf h hV hG hn) (by rw[wm]; exact hs) λa w hI=>hk a w (kZ hwf kV kG hI)
variable {y:Code}
theorem SA (h:Inv c V [] G none_ a w) (nv:List Vr) (A1:List Al) (ne:List bI) (hV:vT nv V V1) (hG:me ne G G1) (hn:jF nv A1 ne=true)
  (ms:List Nat) (hb:qB P c.N l ms V1 A1 G1=true) (hs:oC P l.toArray ms c V1 A1 G1 0 l) (kV:fH V1 V2) (kG:aH G1 G2) (hk:∀a w,Inv c V2 [] G2 none_ a w->y.wp P Q a w):(Code.seq (Code.region id l.toArray true) y).wp P Q a w:=
 wp_seq (Sz h nv A1 ne hV hG hn ms hb hs kV kG hk)
theorem SB (h:Inv c V [] G none_ a w) (nv:List Vr) (A1:List Al) (ne:List bI) (hV:vT nv V V1) (hG:me ne G G1) (hn:jF nv A1 ne=true)
  (ms:List Nat) (hb:oH c.N l ms V1 A1 G1=true) (hs:oC P l.toArray ms c V1 A1 G1 0 l) (kV:fH V1 V2) (kG:aH G1 G2) (hk:∀a w,Inv c V2 [] G2 none_ a w->y.wp P Q a w):(Code.seq (Code.region id l.toArray false) y).wp P Q a w:=
 wp_seq (ND h nv A1 ne hV hG hn ms hb hs kV kG hk)
end
end Wx

namespace Wx
open Go Go.RowKit Go.Proofs
theorem C7 (a b:Bool) (m n:Nat):sg (a != b) (m*n)=sg a m*sg b n:=by
 cases a<;>cases b<;>simp[sg,Int.mul_neg,Int.neg_mul]
theorem yX (x y:Rat):x*y=cL (decide (x.num<0) != decide (y.num<0)) (x.num.natAbs*y.num.natAbs) (x.den*y.den):=by
 unfold cL
 rw[Rat.mul_def',C7,Bz,Bz]
theorem Lt (y:Rat) (hy:y.num≠0):y⁻¹=cL (decide (y.num<0)) y.den y.num.natAbs:=by
 rw[Rat.inv_def]
 generalize y.num=z at *
 generalize y.den=d
 unfold cL
 match z,hy with
 |Int.ofNat k,hy=>
  have:¬((Int.ofNat k)<0):=by have:=Int.natCast_nonneg k; exact Int.not_lt.2 this
  rw[decide_eq_false this]
  exact Rat.divInt_ofNat _ _
 |Int.negSucc k,hy=>
  have:(Int.negSucc k)<0:=Int.negSucc_lt_zero k
  rw[decide_eq_true this]
  show Rat.normalize (-(d:Int)) (k+1) (by omega)=mkRat (-(d:Int)) (k+1)
  rw[Rat.mkRat_def,dif_neg (by omega)]
theorem yB (x y:Rat) (hy:y.num≠0):x/y=cL (decide (x.num<0) != decide (y.num<0)) (x.num.natAbs*y.den) (x.den*y.num.natAbs):=by
 rw[Rat.div_def,Lt y hy]
 conv=>lhs; rw[<-Rat.mkRat_self x]
 unfold cL
 rw[Rat.mkRat_mul_mkRat,C7,Bz]
theorem J5 (z:Int) (d:Nat):z*d=sg (decide (z<0)) (z.natAbs*d):=by
 have h:=C7 (decide (z<0)) false z.natAbs d
 rw[show(decide (z<0) != false)=decide (z<0) by cases decide (z<0)<;>rfl,Bz]at h
 rw[h]; rfl
theorem yf (x y:Rat):x+y=mkRat (sg (decide (x.num<0)) (x.num.natAbs*y.den)+sg (decide (y.num<0)) (y.num.natAbs*x.den)) (x.den*y.den):=by
 rw[Rat.add_def',J5,J5]
theorem PL (a:Bool) (m n:Nat):sg a m+sg a n=sg a (m+n):=by cases a<;>simp[sg]; omega
theorem Mj (a:Bool) {m n:Nat} (h:n<=m):sg a m+sg (!a) n=sg a (m-n):=by cases a<;>simp[sg]<;>omega
theorem Mk (a:Bool) {m n:Nat} (h:m<=n):sg a m+sg (!a) n=sg (!a) (n-m):=by cases a<;>simp[sg]<;>omega
theorem wL {a b:Bool} (h:¬a=b):b=!a:=by cases a<;>cases b<;>simp_all
theorem add_same (x y:Rat) (h:decide (x.num<0)=decide (y.num<0)):x+y=cL (decide (x.num<0)) (x.num.natAbs*y.den+y.num.natAbs*x.den) (x.den*y.den):=by
 rw[yf,<-h,PL]; rfl
theorem B7 (x y:Rat) (h:¬decide (x.num<0)=decide (y.num<0)) (hge:y.num.natAbs*x.den<=x.num.natAbs*y.den):x+y=cL (decide (x.num<0)) (x.num.natAbs*y.den-y.num.natAbs*x.den) (x.den*y.den):=by
 rw[yf,wL h,Mj _ hge]; rfl
theorem B8 (x y:Rat) (h:¬decide (x.num<0)=decide (y.num<0)) (hge:x.num.natAbs*y.den<=y.num.natAbs*x.den):x+y=cL (decide (y.num<0)) (y.num.natAbs*x.den-x.num.natAbs*y.den) (x.den*y.den):=by
 rw[yf,wL h,Mk _ hge]; rfl
variable {j k:Nat} {x y:Rat}
theorem bg.mul (h:bg j x) (g:bg k y):bg (j+k) (x*y):=by
 rw[yX]
 exact jY (Nat.mul_pos x.den_pos y.den_pos) (h.1.mul g.1) (h.2.mul g.2)
theorem bg.div (h:bg j x) (g:bg k y) (hy:y.num≠0):bg (j+k) (x/y):=by
 rw[yB _ _ hy]
 exact jY (Nat.mul_pos x.den_pos (by omega)) (h.1.mul g.2) (h.2.mul g.1)
theorem bg.neg (h:bg j x):bg j (-x):=⟨by rw[Rat.neg_num,Int.natAbs_neg]; exact h.1,h.2⟩
end Wx

namespace Wx
def bA (n:Nat):Nat:=if n=0 then 0 else Nat.log2 n+1
theorem jv:bA 0=0:=rfl
variable {n:Nat}
theorem jh (h:0<n):0<bA n:=by unfold bA; rw[if_neg (by omega)]; omega
theorem mY (n:Nat):n<2^bA n:=by
 unfold bA
 split
 ·next h=>subst h; decide
 ·exact Nat.lt_log2_self
theorem kY (h:0<n):2^(bA n-1)<=n:=by
 unfold bA
 rw[if_neg (by omega)]
 exact Nat.log2_self_le (by omega)
variable {k:Nat}
theorem qm (h1:2^k<=n) (h2:n<2^(k+1)):bA n=k+1:=by
 have h0:0<n:=Nat.lt_of_lt_of_le (Nat.two_pow_pos k) h1
 have a1:=mY n
 have a2:=kY h0
 have a3:=jh h0
 have b1:k<bA n:=by
  rcases Nat.lt_or_ge k (bA n)with h|h
  ·exact h
  ·have:=Nat.pow_le_pow_right (show 0<2 by omega) h; omega
 have b2:bA n-1<k+1:=by
  rcases Nat.lt_or_ge (bA n-1) (k+1)with h|h
  ·exact h
  ·have:=Nat.pow_le_pow_right (show 0<2 by omega) h; omega
 omega
theorem CJ (h:0<n):bA n=bA (n/2)+1:=by
 by_cases h1:n=1
 ·subst h1; decide
 ·have h2:0<n/2:=by omega
  have a:=mY (n/2)
  have b:=kY h2
  have c:=jh h2
  have e:=qm (n:=n) (k:=bA (n/2)) (by
   have:2^bA (n/2)=2*2^(bA (n/2)-1):=by
    rw[<-Nat.pow_succ']; congr 1; omega
   omega) (by rw[Nat.pow_succ]; omega)
  exact e
variable {m:Nat}
theorem wv {t low:Nat} (ht:0<t) (hl:low<2^k) (hm:m=low+2^k*t):bA m=k+bA t:=by
 have a:=mY t
 have b:=kY ht
 have c:=jh ht
 have e:=qm (n:=m) (k:=k+(bA t-1)) (by
  rw[Nat.pow_add,hm]
  have:=Nat.mul_le_mul_left (2^k) b
  omega) (by
  rw[show k+(bA t-1)+1=k+bA t by omega,Nat.pow_add,hm]
  have:=Nat.mul_le_mul_left (2^k) (Nat.succ_le_of_lt a)
  rw[Nat.mul_succ]at this
  omega)
 omega
theorem mX {j:Nat} (h:Bd j n):bA n<=j:=by
 rcases Nat.eq_zero_or_pos n with rfl|h0
 ·rw[jv]; omega
 ·have a:=kY h0
  have b:=jh h0
  rcases Nat.lt_or_ge j (bA n)with h'|h'
  ·have:=Nat.pow_le_pow_right (show 0<2 by omega) (show j<=bA n-1 by omega)
   unfold Bd at h
   omega
  ·exact h'
theorem AY (h:bA m<bA n):m<n:=by
 have a:=mY m
 have b:0<n:=by
  rcases Nat.eq_zero_or_pos n with rfl|h0
  ·rw[jv]at h; omega
  ·exact h0
 have c:=kY b
 have:=Nat.pow_le_pow_right (show 0<2 by omega) (show bA m<=bA n-1 by omega)
 omega
variable {a b:Nat}
theorem AZ (hb:0<b):a<b*2^(bA a-bA b+1):=by
 have h1:=mY a
 have h2:=kY hb
 have h3:=jh hb
 have h4:2^bA a<=2^((bA b-1)+(bA a-bA b+1)):=Nat.pow_le_pow_right (by omega) (by omega)
 rw[Nat.pow_add]at h4
 have h5:=Nat.mul_le_mul_right (2^(bA a-bA b+1)) h2
 omega
variable {A i:Nat}
theorem FK {Q:Nat} (hA:A=Q*b+a) (ha:a<b*2^(i+1)) (hQ:2^(i+1) ∣ Q):
  (b*2^i<=a->A=(Q+2^i)*b+(a-b*2^i)/\a-b*2^i<b*2^i/\2^i ∣ Q+2^i)/\(a<b*2^i->2^i ∣ Q):=by
 have hd:2^i ∣ Q:=Nat.dvd_trans (Nat.pow_dvd_pow 2 (by omega)) hQ
 refine⟨λh=>⟨?_,?_,Nat.dvd_add hd (Nat.dvd_refl _)⟩,λ_=>hd⟩
 ·rw[Nat.add_mul,Nat.mul_comm (2^i) b]; omega
 ·rw[Nat.pow_succ,<-Nat.mul_assoc]at ha; omega
theorem AB (b i:Nat):b*2^(i+1)/2=b*2^i:=by
 rw[Nat.pow_succ,<-Nat.mul_assoc,Nat.mul_div_cancel _ (by omega)]
variable {x:Nat}
theorem Hi (hx:x<4294967296) (hk:k<32) (hd:2^(k+1) ∣ x):x+2^k<4294967296:=by
 obtain⟨y,rfl⟩:=hd
 have e:4294967296=2^(k+1)*2^(31-k):=by rw[<-Nat.pow_add,show k+1+(31-k)=32 by omega]
 have h1:y<2^(31-k):=by
  rw[e]at hx
  exact Nat.lt_of_mul_lt_mul_left hx
 have h2:=Nat.mul_le_mul_left (2^(k+1)) (Nat.succ_le_of_lt h1)
 rw[Nat.mul_succ,<-e]at h2
 have h3:2^k<2^(k+1):=Nat.pow_lt_pow_right (by omega) (by omega)
 omega
variable {l:List Nat} {v:Nat}
theorem Ko (hw:Wf 4294967296 l) (hd:2^(i+1) ∣ val 4294967296 l) (h:l[i/32]?=some v):2^(i%32+1) ∣ v:=by
 obtain⟨hi,hv⟩:=List.getElem?_eq_some_iff.1 h
 have e:=cB 4294967296 l (i/32) (by omega)
 rw[lB 4294967296 l (i/32) hi,hv]at e
 have hp:(4294967296:Nat)^(i/32)=2^(32*(i/32)):=by rw[Nat.pow_mul]
 have hi':i+1=32*(i/32)+(i%32+1):=by omega
 have Fq:=gC (hw.take (i/32))
 rw[List.length_take,Nat.min_eq_left (by omega),hp]at Fq
 rw[hp]at e
 have h1:2^(32*(i/32)) ∣ val 4294967296 l:=Nat.dvd_trans (Nat.pow_dvd_pow 2 (by omega)) hd
 have h0:val 4294967296 (l.take (i/32))=0:=by
  rw[e]at h1
  have:=(Nat.dvd_add_left (Nat.dvd_mul_right _ _)).1 h1
  exact Nat.eq_zero_of_dvd_of_lt this Fq
 rw[e,h0,Nat.zero_add,hi',Nat.pow_add]at hd
 have h2:=Nat.dvd_of_mul_dvd_mul_left (Nat.two_pow_pos _) hd
 refine(Nat.dvd_add_left (Nat.dvd_trans ?_ (Nat.dvd_mul_right _ _))).1 h2
 have:(4294967296:Nat)=2^32:=by decide
 rw[this]
 exact Nat.pow_dvd_pow 2 (by omega)
theorem Mi (h:l[i/32]?=some v):val 4294967296 (l.set (i/32) (v+2^(i%32)))=val 4294967296 l+2^i:=by
 have h1:=oh (b:=4294967296) h (v+2^(i%32))
 have hp:(4294967296:Nat)^(i/32)=2^(32*(i/32)):=by rw[Nat.pow_mul]
 have e:2^i=2^(32*(i/32))*2^(i%32):=by rw[<-Nat.pow_add]; congr 1; omega
 rw[Nat.mul_add,hp,<-e]at h1
 omega
theorem Fm {d D:Nat} (hd:D%2=d):(x+4294967296*D)/2=(x/2+2147483648*d)+4294967296*(D/2):=by omega
variable {r:Nat}
theorem Ia (hk:0<k):(A*10^k+r)%10=r%10/\(A*10^k+r)/10=A*10^(k-1)+r/10:=by
 obtain⟨j,rfl⟩:∃j,k=j+1:=⟨k-1,by omega⟩
 rw[Nat.pow_succ,<-Nat.mul_assoc,Nat.add_sub_cancel]
 omega
theorem xQ (hk:0<k) (h:r<10^k):r/10<10^(k-1):=by
 obtain⟨j,rfl⟩:∃j,k=j+1:=⟨k-1,by omega⟩
 rw[Nat.pow_succ]at h
 rw[Nat.add_sub_cancel]
 omega
end Wx

namespace Wx
open Go Go.RowKit Go.Proofs
def af:Nat:=4294967296
theorem sK:af=2^32:=by unfold af; decide
theorem ak:2<=af:=by unfold af; omega
variable {n:Nat}
theorem qh {k:Nat} (h:Bd k n):(ae af n).length<=k/32+1:=by rw[sK]; exact h.ae (by omega)
theorem lK:(Tryz.prog.info? 128).map (λi=>(i.zero,i.size,decide (i.bytes<=8)))=some (some (.int .u32 0),1,true):=by kernel_rfl
theorem A6 (w:World) (A:Option Addr) (c:Nat) (l:List Nat) (h:Rd w .u32 A c l):
  Calls Tryz.prog 85 #[.slice A l.length c] w (Dp w A c l):=by
 obtain⟨hl,hm,hcell⟩:=h
 unfold maxLen at hm
 go_enter Tryz.func85,Tryz.ntmps85
 go_wp2
 go_loop [3] (λv=>∃n:Nat,n<=l.length/\v=.int .i64 n/\(∀b,val b (l.take n)=val b l)) (λv=>(RowKit.intOf v).toNat)
 case atStart=>exact⟨l.length,Nat.le_refl _,rfl,λb=>by rw[List.take_length]⟩
 case round=>
  obtain⟨n,hn,rfl,hv⟩:=hrel
  have HV:=Lib.hid hv
  clear hv
  rcases Nat.eq_zero_or_pos n with rfl|hpos
  ·go_wp2
   go_ret
   exact⟨0,hn,rfl,rfl,pE.nil,HV.out⟩
  ·obtain⟨b,o,rfl,hc⟩:=hcell (by rintro rfl; simp at hn; omega)
   have rf:=hc (n-1) (by omega)
   clear hc hcell
   obtain⟨x,hx⟩:∃x,x=l.getD (n-1) 0:=⟨_,rfl⟩
   rw[<-hx]at rf
   have HX:=Lib.hid hx
   clear hx
   obtain⟨k,rfl⟩:∃k,n=k+1:=⟨n-1,by omega⟩
   rw[Nat.add_sub_cancel]at rf HX
   rcases Nat.eq_zero_or_pos x with rfl|h0
   ·go_wp2
    go_round
    case rel=>exact⟨k,by omega,by go_num,λb=>by rw[xS (by omega) HX.out.symm]; exact HV.out b⟩
    case measure=>simp[RowKit.intOf]
   ·have WG:((x:Int)==0)=false:=beq_eq_false_iff_ne.2 (by omega)
    go_wp2
    go_ret
    exact⟨k+1,hn,rfl,rfl,Kf (l:=l) (n:=k) (by omega) (by have:=HX.out; omega),HV.out⟩
theorem qn (w:World) (A:Option Addr) (c:Nat) (l:List Nat) (n:Nat) (h:Rd w .u32 A c l) (hw:Wf af l) (L:Nat) (hL:l.length=L) (hn:val af l=n):
  Calls Tryz.prog 85 #[.slice A L c] w (Du .u32 af w n):=by
 subst hL
 refine(A6 w A c l h).mono λe w' ⟨k,hk,he,hw',ht,hv⟩=>⟨hw',_,he,?_⟩
 rw[<-hn,<-hv af]
 exact bq.of ak (h.take k) (by rw[List.length_take]; omega) (hw.take k) ht
def nF (w:World) (n:Nat) (e:Ending) (w':World):Prop:=∃g L c,w.heap.size<=g/\e=.returned (.slice (some ⟨g,0,none⟩) L c)/\bq .u32 af w' (.slice (some ⟨g,0,none⟩) L c) n/\Below w.heap.size w w'
theorem nF.num {w:World} {e:Ending} {w':World} (h:nF w n e w'):eW .u32 af w n e w':=by
 obtain⟨g,L,c,_,he,hn,hb⟩:=h
 exact⟨_,he,hn,hb⟩
theorem rB (w:World) (A:Option Addr) (c:Nat) (l:List Nat) (n:Nat) (h:Rd w .u32 A c l) (hw:Wf af l) (L:Nat) (hL:l.length=L) (hn:val af l=n):
  Calls Tryz.prog 85 #[.slice A L c] w (λe w'=>w=w'/\∃k,e=.returned (.slice A k c)/\bq .u32 af w (.slice A k c) n):=by
 subst hL
 refine(A6 w A c l h).mono λe w' ⟨k,hk,he,hw',ht,hv⟩=>⟨hw',_,he,?_⟩
 rw[<-hn,<-hv af]
 exact bq.of ak (h.take k) (by rw[List.length_take]; omega) (hw.take k) ht
theorem dA (w:World) (n:Nat) (hn:n<b64):Calls Tryz.prog 69 #[.int .u64 (n:Int)] w (eW .u32 af w n):=by
 have e1:(n:Int)%4294967296=((n%af:Nat):Int):=by unfold af; omega
 have e2:IntKind.u64.wrap ((n:Int)/4294967296)%4294967296=((n/af:Nat):Int):=by
  unfold b64 at hn
  rw[wrap_u64 (by omega) (by omega)]; unfold af; omega
 have hw:Wf af [n%af,n/af]:=Wf.cons (Nat.mod_lt _ (by unfold af; omega)) (Wf.cons (by unfold af; unfold b64 at hn; omega) (Wf.nil _))
 have hv:val af [n%af,n/af]=n:=by simp[val]; exact Nat.mod_add_div _ _
 have E1:=Lib.hid e1
 have E2:=Lib.hid e2
 have HV:=Lib.hid hv
 clear e1 e2 hv hn
 go_enter Tryz.func69,Tryz.ntmps69
 go_wp2_with fail
 rw[E1.out,E2.out]
 have hR:Row (w.alloc (.cells #[.int .u32 ((n%af:Nat):Int),.int .u32 ((n/af:Nat):Int)] 128)) .u32 128 w.heap.size [n%af,n/af]:=Row.new w .u32 128 [n%af,n/af]
 refine(qn _ _ _ [n%af,n/af] n (hR.fF (Nat.le_refl _) (by simp[maxLen])) hw _ rfl HV.out).mono ?_
 rintro e w' ⟨rfl,v,rfl,hv⟩
 go_wp2
 go_ret
 exact⟨v,rfl,hv,(Below.refl _ _).alloc (Nat.le_refl _) _⟩
end Wx

namespace Wx
open Go Go.RowKit Go.Proofs
set_option maxHeartbeats 400000 in
theorem JG (w:World) (v1 v2:Value) (m n:Nat) (h1:bq .u32 af w v1 m) (h2:bq .u32 af w v2 n):
  Calls Tryz.prog 78 #[v1,v2] w (zG w (.int .i64 (bK m n))):=by
 obtain⟨A,c,rfl,ha⟩:=h1
 obtain⟨B,d,rfl,hb⟩:=h2
 have hla:=ha.len
 have hlb:=hb.len
 by_cases hlt:(ae af m).length<(ae af n).length
 ·have hmn:=cZ ak hlt
  have e:bK m n = -1:=by unfold bK; rw[if_pos hmn]
  rw[e]
  go_enter Tryz.func78,Tryz.ntmps78
  go_wp2
  all_goals (go_ret; exact⟨rfl,0,rfl⟩)
 ·by_cases hgt:(ae af n).length<(ae af m).length
  ·have hmn:=cZ ak hgt
   have e:bK m n=1:=by unfold bK; rw[if_neg (by omega),if_pos hmn]
   rw[e]
   go_enter Tryz.func78,Tryz.ntmps78
   go_wp2
   all_goals (go_ret; exact⟨rfl,0,rfl⟩)
  ·have KD:(ae af m).length=(ae af n).length:=by omega
   have wa:=bW ak m
   have wb:=bW ak n
   have va:=bF ak m
   have vb:=bF ak n
   generalize ae af m=a at *
   generalize ae af n=b at *
   rw[<-KD]at hlb ⊢
   have HL:=Lib.hid KD
   have VA:=Lib.hid va
   have VB:=Lib.hid vb
   clear KD va vb hlt hgt hlb
   go_enter Tryz.func78,Tryz.ntmps78
   go_wp2
   go_loopw [5] (λs5 wr=>∃i:Nat,i<=a.length/\s5=.int .i64 ((i:Int)-1)/\a.drop i=b.drop i/\∃q,wr=w.drewN q)
    (λs5 _=>(RowKit.intOf s5+1).toNat)
   case atStart=>exact⟨a.length,Nat.le_refl _,rfl,by rw[List.drop_of_length_le (Nat.le_refl _),List.drop_of_length_le (by have:=HL.out; omega)],0,rfl⟩
   case round=>
    obtain⟨i,hi,rfl,hd,q,rfl⟩:=hrel
    have HD:=Lib.hid hd
    clear hd
    rcases Nat.eq_zero_or_pos i with rfl|hpos
    ·rw[show(((0:Nat):Int)-1) = -1 by omega]
     have:a=b:=by simpa using HD.out
     have e:m=n:=by rw[<-VA.out,<-VB.out,this]
     have e0:bK m n=0:=by unfold bK; rw[if_neg (by omega),if_neg (by omega)]
     have E0:=Lib.hid e0
     clear e e0 this
     go_wp2
     go_ret
     exact⟨iu E0.out.symm,_,rfl⟩
    ·obtain⟨j,rfl⟩:∃j,i=j+1:=⟨i-1,by omega⟩
     obtain⟨b1,o1,x,rfl,xo,HX⟩:=ha.get (i:=j) (by omega)
     obtain⟨b2,o2,y,rfl,Iw,HY⟩:=hb.get (i:=j) (by have:=HL.out; omega)
     rw[show(((j+1:Nat):Int)-1)=(j:Int) by omega]
     have W7:(0:Int)<=(j:Int):=by omega
     have de:(j:Int)<(a.length:Int):=by omega
     rcases Nat.lt_trichotomy x y with hxy|hxy|hxy
     ·have O6:(x:Int)<(y:Int):=by omega
      have hmn:m<n:=by
       rw[<-VA.out,<-VB.out]
       exact lZ wa HX.out HY.out HD.out hxy
      have E0:Hid (bK m n = -1):=by show bK m n = -1; unfold bK; rw[if_pos hmn]
      clear hmn
      go_wp2
      go_quiet (fail)
      go_wp2
      go_ret
      exact⟨iu E0.out.symm,_,World.drewN_drewN _ _ _⟩
     ·subst hxy
      go_wp2
      go_quiet (fail)
      go_wp2
      go_quiet (fail)
      go_wp2
      go_roundw
      case rel=>exact⟨j,by omega,by go_num,Ao HX.out HY.out HD.out,_,rfl⟩
      case measure=>simp[RowKit.intOf]
     ·have O6:(y:Int)<(x:Int):=by omega
      have hmn:n<m:=by
       rw[<-VA.out,<-VB.out]
       exact lZ wb HY.out HX.out HD.out.symm hxy
      have E0:Hid (bK m n=1):=by show bK m n=1; unfold bK; rw[if_neg (by omega),if_pos hmn]
      clear hmn
      go_wp2
      go_quiet (fail)
      go_wp2
      go_quiet (fail)
      go_wp2
      go_ret
      exact⟨iu E0.out.symm,_,(World.drewN_drewN _ _ _).trans (World.drewN_drewN _ _ _)⟩
theorem fU (w:World) (v1 v2:Value) (m n:Nat) (h1:bq .u32 af w v1 m) (h2:bq .u32 af w v2 n):
  Calls Tryz.prog 78 #[v1,v2] w (dY w (.int .i64 (bK m n))):=(JG w v1 v2 m n h1 h2).mono λ_ _ h=>h.is
end Wx
