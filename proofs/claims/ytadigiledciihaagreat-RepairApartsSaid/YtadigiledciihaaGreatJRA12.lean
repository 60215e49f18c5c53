import Derived.Test.YtadigiledciihaaGreatJRA11
namespace Wx
open Go Go.RowKit Go.Proofs Go.ChangeShapes Go.WideShapes Go.ChangeAt Go.Deep
def wh (w w':World):Prop:=∀a v,w.cell? a=some v->w'.cell? a=some v
theorem E4 {M:Nat->Nat->Prop} {w w':World} (hM:∀k o,¬M k o) (h:Ext M w w'):wh w w':=λa v hv=>by
 obtain⟨b,o,s⟩:=a
 cases s with
 |none=>exact h.cell b o v (hM b o) hv
 |some s=>
  exfalso
  unfold World.cell? at hv
  split at hv
  ·simp at hv
  ·cases hv
def Ci {H:Type} (enc:TypeId×Value->H) (P:Program) (w:World) (e:TypeId) (agg:Bool) {α:Type} (C:α->Prop) (f:α->Pred):Prop:=
 ∀fuel cs (x:DataW H×List MemPlace),DataW.trod enc P w 0 (λ_=>true) true fuel e cs=some x->∃a:α,C a/\∀w',wh w w'->f a w' (av agg cs)
section
variable {H:Type} {enc:TypeId×Value->H} {P:Program} {w:World}{e:TypeId}
theorem xm {k:IntKind} (he:P.underlying e=some (.int k)):Ci enc P w e false (λn=>(Lit.int k n).wf=true) λn=>bW (.int k n):=λfuel cs x h=>by
 obtain⟨n,h1,_,h3⟩:=DataW.trod_int he h
 subst h1
 exact⟨n,h3,λw' _=>rfl⟩
theorem ED {t:TypeId} {agg:Bool} {α:Type} {C:α->Prop} {f:α->Pred} (d:α) {sz:Nat} (ht:P.underlying t=some (.slice e)) (hc:P.cellsOf e=sz) (hn:0<sz) (h:Ci enc P w e agg C f):
  Ci enc P w t false (λL:List α=>(∀a∈L,C a)/\L.length<=maxLen) λL=>cK sz agg L.length λi=>f (L.getD i d):=λfuel cs x hx=>by
 subst hc
 rcases open_slice ht hx with⟨h0,_⟩|⟨a,len,cap,m,n,D,Pl,h1,_,h3,h4,h5,_,h7⟩
 ·subst h0
  exact⟨[],⟨by simp,Nat.zero_le _⟩,λw' _=>⟨none,0,rfl,Nat.le_refl _,Nat.zero_le _,λh=>absurd h (Nat.lt_irrefl _)⟩⟩
 ·subst h1
  have each:∀i,i<len->∃y:α×List Value,C y.1/\w.cells? 0 (a.add (i*P.cellsOf e)) (P.cellsOf e)=some y.2/\∀w',wh w w'->f y.1 w' (av agg y.2):=λi hi=>by
   obtain⟨cs',k1,k2⟩:=h7 i (by rw[h5]; simp; omega)
   obtain⟨y,k3,k4⟩:=h _ _ _ k2
   exact⟨(y,cs'),k3,k1,k4⟩
  have:Inhabited (α×List Value):=⟨(d,[])⟩
  obtain⟨y,hy⟩:=choose_lt each
  refine⟨(List.range len).map λi=>(y i).1,⟨λb hb=>?_,by simp; omega⟩,λw' hw=>?_⟩
  ·obtain⟨i,hi,rfl⟩:=List.mem_map.1 hb
   exact(hy i (List.mem_range.1 hi)).1
  ·have hl:((List.range len).map λi=>(y i).1).length=len:=by simp
   show cK _ _ _ _ _ _
   rw[hl]
   refine⟨some a,cap,rfl,h3,h4,λh0=>?_⟩
   have hspot:a.spot=none:=by
    obtain⟨_,k2,_⟩:=hy 0 h0
    obtain⟨_,k3,k4⟩:=World.cells?_some k2
    have k5:=k4 0 hn
    cases hs:a.spot with
    |none=>rfl
    |some s=>
     exfalso
     rw[List.getElem?_eq_getElem (by omega)]at k5
     unfold World.cell? Addr.add at k5
     split at k5
     ·simp[hs]at k5
     ·cases k5
   obtain⟨b,o,s⟩:=a
   simp only at hspot
   subst hspot
   refine⟨b,o,rfl,λi hi=>?_⟩
   obtain⟨_,k2,k3⟩:=hy i hi
   obtain⟨_,k4,k5⟩:=World.cells?_some k2
   have Rn:∀n:Nat,(⟨b,o,none⟩:Addr).add n=⟨b,o+n,none⟩:=λn=>by
    unfold Addr.add
    split
    ·rename_i h
     rw[h]
     rfl
    ·rfl
   refine⟨(y i).2,k4,λj u hj=>hw _ _ ?_,?_⟩
   ·have MF:j<P.cellsOf e:=by
     rw[<-k4]
     exact(List.getElem?_eq_some_iff.1 hj).1
    have:=k5 j MF
    rw[hj,Rn]at this
    have e2:(⟨b,o+i*P.cellsOf e,none⟩:Addr).add j=⟨b,o+i*P.cellsOf e+j,none⟩:=by
     unfold Addr.add
     split
     ·rename_i h
      rw[h]
      rfl
     ·rfl
    rw[e2]at this
    exact this
   ·have e1:((List.range len).map λi=>(y i).1).getD i d=(y i).1:=by
     rw[List.getD_eq_getElem?_getD,List.getElem?_map,List.getElem?_range hi]
     rfl
    show f (((List.range len).map λi=>(y i).1).getD i d) w' _
    rw[e1]
    exact k3 w' hw
end
end Wx

namespace Wx
open Go Go.RowKit Go.Proofs Go.ChangeShapes Go.WideShapes Go.ChangeAt Go.Deep
section
variable {H:Type} {enc:TypeId×Value->H} {P:Program} {w:World}
def Cj {H:Type} (enc:TypeId×Value->H) (P:Program) (w:World) (N o:Nat) (ts:List (TypeId×Nat)) {α:Type} (C:α->Prop) (F:α->List Fd):Prop:=
 ∀(fuel:Nat) (cs:List Value),cs.length=N->(∀p,p∈ts->∃x:DataW H×List MemPlace,DataW.trod enc P w 0 (λ_=>true) true fuel p.1 ((cs.drop p.2).take (P.cellsOf p.1))=some x)->∃a:α,C a/\∀w',wh w w'->aL (F a) w' (cs.drop o)
variable {N:Nat}
theorem vK:Cj enc P w N N [] (λ_:Unit=>True) λ_=>[]:=λ_ _ hl _=>⟨(),trivial,λ_ _=>List.drop_eq_nil_of_le (Nat.le_of_eq hl)⟩
variable {α:Type} {C:α->Prop} {f:α->Pred} {ts:List (TypeId×Nat)}
theorem kS {e:TypeId} {o n:Nat} {agg:Bool} {β:Type} {D:β->Prop} {F:β->List Fd} (h:Ci enc P w e agg C f) (hn:P.cellsOf e=n) (hle:o+n<=N) (r:Cj enc P w N (o+n) ts D F):
  Cj enc P w N o ((e,o)::ts) (λp:α×β=>C p.1/\D p.2) λp=>⟨agg,n,f p.1⟩::F p.2:=λfuel cs hl hp=>by
 obtain⟨x,hx⟩:=hp (e,o) (List.mem_cons_self ..)
 have hx:DataW.trod enc P w 0 (λ_=>true) true fuel e ((cs.drop o).take (P.cellsOf e))=some x:=hx
 rw[hn]at hx
 obtain⟨a,ha,hf⟩:=h _ _ _ hx
 obtain⟨b,hb,hg⟩:=r fuel cs hl λp hp'=>hp p (List.mem_cons_of_mem _ hp')
 refine⟨(a,b),⟨ha,hb⟩,λw' hw=>⟨?_,hf w' hw,?_⟩⟩
 ·show n<=(cs.drop o).length
  rw[List.length_drop]
  omega
 ·show aL (F b) w' ((cs.drop o).drop n)
  rw[List.drop_drop]
  exact hg w' hw
variable {t:TypeId}
theorem tv {fs:Array Field} {F:α->List Fd} (ht:P.underlying t=some (.struct fs)) (hN:P.cellsOf t=N) (hts:fs.toList.map (λf=>(f.type,f.offset))=ts) (h:Cj enc P w N 0 ts C F):Ci enc P w t true C λa=>pS (F a):=λfuel cs x hx=>by
 obtain⟨xs,n,_,_,hl,hlen,hg⟩:=DataW.trod_struct ht hx
 obtain⟨a,ha,hf⟩:=h n cs (hl.trans hN) λp hp=>by
  rw[<-hts]at hp
  obtain⟨f,hf,rfl⟩:=List.mem_map.1 hp
  obtain⟨i,hi⟩:=List.mem_iff_getElem?.1 hf
  have hi':fs[i]?=some f:=by rw[<-Array.getElem?_toList]; exact hi
  have hlt:i<xs.length:=by
   rw[hlen]
   rcases Nat.lt_or_ge i fs.size with h'|h'
   ·exact h'
   ·rw[Array.getElem?_eq_none h']at hi'; cases hi'
  exact⟨xs[i],(hg i f hi').trans (List.getElem?_eq_getElem hlt)⟩
 exact⟨a,ha,λw' hw=>⟨cs,rfl,hf w' hw⟩⟩
variable {r:Reach} {b0:Nat} {v:Value}
theorem BC (ht:(∃fs,P.underlying t=some (.struct fs))\/∃k e,P.underlying t=some (.array k e)) (hv:Value.okWide P w r b0 t v):∃cs,v=.agg cs:=by
 rcases ht with⟨fs,ht⟩|⟨k,e,ht⟩ <;>
 ·simp only[Value.okWide,ht]at hv
  obtain⟨cs,rfl,_⟩:=hv
  exact⟨cs,rfl⟩
theorem Ci.Oi {d:DataW H} {p:List MemPlace} (h:Ci enc P w t true C f) (ht:(∃fs,P.underlying t=some (.struct fs))\/∃k e,P.underlying t=some (.array k e)) (hv:Value.okWide P w r b0 t v) (hd:DataW.Trod enc P w 0 (λ_=>true) true t v d p):
  ∃a:α,C a/\∀w',Ext (λ_ _=>False) w w'->f a w' v:=by
 obtain⟨fuel,hx⟩:=hd
 obtain⟨cs,rfl⟩:=BC ht hv
 obtain⟨a,h1,h2⟩:=h _ _ _ hx
 refine⟨a,h1,λw' he=>?_⟩
 have:=h2 w' (E4 (λ_ _ h=>h) he)
 simpa [av,Value.cells] using this
end
end Wx

namespace Wx
open Go Go.RowKit Go.Proofs
end Wx

namespace Wx
open Go Go.RowKit
def rO (P:Program) (ops:Array Oper) (K:Nat->Act->World->Prop):Nat->List Oper->Prop
 |_,[]=>True
 |m,o::os=>(∀a w,K m a w->dI P ops o a w (K (m+1)))/\rO P ops K (m+1) os
section
variable {P:Program} {Q:Exit->Act->World->Prop} {c:dM} {V:List Vr} {A:List Al} {G:List bg} {a:Act} {w:World}
theorem ID {N k:Nat} {l:List Oper} (h:tZ N (l.take k) V A G=true) {i:Nat} {o:Oper} (hi:l[i]?=some o) (hk:i<k):lJ N l.toArray V A G i o:=by
 have h1:=ua h (i:=i) (o:=o) (by rw[List.getElem?_take,if_pos hk]; exact hi)
 have hm:=iF h
 refine⟨h1.sz,h1.sg,h1.aa,h1.g1,h1.g2,λe j he ht=>?_,h1.gu,h1.a1,h1.a2,h1.v1,h1.v2,h1.vk,h1.vb,h1.vs,h1.vu,h1.vo⟩
 have h2:=h1.g3 e j he ht
 rw[<-h2]
 simp only[sU,Bool.and_eq_true,List.all_eq_true]at hm
 have h3:=(hm.2 e he).1
 rw[ht]at h3
 simp only[nw,decide_eq_true_eq,List.length_take]at h3
 congr 1
 simp only[List.getElem?_toArray]
 rw[List.getElem?_take,if_pos (by omega)]
end
end Wx

namespace Wx
open Go Go.RowKit
inductive nD (ne:List bg):List bg->List bg->Prop
 |z:nD ne [] ne
 |k {s:Nat} {p:Pred} {G G1:List bg}:nD ne G G1->nD ne (⟨none,none,s,p⟩::G) (⟨none,none,s,p⟩::G1)
 |t {s:Nat} {p:Pred} {G G1:List bg} (i:Nat):nD ne G G1->nD ne (⟨none,none,s,p⟩::G) (⟨none,some i,s,p⟩::G1)
inductive aJ:List bg->List bg->Prop
 |z:aJ [] []
 |k {t:Option Nat} {s:Nat} {p:Pred} {G1 G2:List bg}:aJ G1 G2->aJ (⟨t,none,s,p⟩::G1) (⟨none,none,s,p⟩::G2)
 |d {e:bg} {G1 G2:List bg}:aJ G1 G2->aJ (e::G1) G2
inductive AA (nv:List Vr):List Vr->List Vr->Prop
 |z:AA nv [] nv
 |k {id s:Nat} {kd:Kd} {T:TypeId} {n:Nat} {ag:Bool} {c0:Rel} {V V1:List Vr}:AA nv V V1->AA nv (⟨id,s,none,none,kd,T,n,ag,c0,[]⟩::V) (⟨id,s,none,none,kd,T,n,ag,c0,[]⟩::V1)
 |u {id s:Nat} {kd:Kd} {T:TypeId} {n:Nat} {ag:Bool} {c0:Rel} {V V1:List Vr} (dead:Option Nat) (st:List (Nat×Rel)):AA nv V V1->AA nv (⟨id,s,none,none,kd,T,n,ag,c0,[]⟩::V) (⟨id,s,none,dead,kd,T,n,ag,c0,st⟩::V1)
inductive uJ:List (Nat×Rel)->Rel->Prop
 |o {i:Nat} {c:Rel}:uJ [(i,c)] c
 |c {x:Nat×Rel} {l:List (Nat×Rel)} {c:Rel}:uJ l c->uJ (x::l) c
inductive gI:List Vr->List Vr->Prop
 |z:gI [] []
 |k {id s:Nat} {b:Option Nat} {kd:Kd} {T:TypeId} {n:Nat} {ag:Bool} {c0:Rel} {V1 V2:List Vr}:gI V1 V2->gI (⟨id,s,b,none,kd,T,n,ag,c0,[]⟩::V1) (⟨s,s,none,none,kd,T,n,ag,c0,[]⟩::V2)
 |s {id s:Nat} {b:Option Nat} {kd:Kd} {T:TypeId} {n:Nat} {ag:Bool} {c0 c1:Rel} {st:List (Nat×Rel)} {V1 V2:List Vr}:uJ st c1->gI V1 V2->gI (⟨id,s,b,none,kd,T,n,ag,c0,st⟩::V1) (⟨s,s,none,none,kd,T,n,ag,c1,[]⟩::V2)
 |d {x:Vr} {V1 V2:List Vr}:gI V1 V2->gI (x::V1) V2
variable {t0:Option Nat} {s0:Nat} {p0:Pred} {t1:Option Nat} {s1:Nat} {p1:Pred} {X Y:List bg}
theorem aJ.kk (h:aJ X Y):aJ (⟨t0,none,s0,p0⟩::⟨t1,none,s1,p1⟩::X) (⟨none,none,s0,p0⟩::⟨none,none,s1,p1⟩::Y):=.k (.k h)
variable {e1:bg}
theorem aJ.kd (h:aJ X Y):aJ (⟨t0,none,s0,p0⟩::e1::X) (⟨none,none,s0,p0⟩::Y):=.k (.d h)
variable {e0:bg}
theorem aJ.dk (h:aJ X Y):aJ (e0::⟨t1,none,s1,p1⟩::X) (⟨none,none,s1,p1⟩::Y):=.d (.k h)
theorem aJ.dd (h:aJ X Y):aJ (e0::e1::X) (Y):=.d (.d h)
variable {t2:Option Nat} {s2:Nat} {p2:Pred}
theorem aJ.cQ (h:aJ X Y):aJ (⟨t0,none,s0,p0⟩::⟨t1,none,s1,p1⟩::⟨t2,none,s2,p2⟩::X) (⟨none,none,s0,p0⟩::⟨none,none,s1,p1⟩::⟨none,none,s2,p2⟩::Y):=.k (.k (.k h))
variable {e2:bg}
theorem aJ.UI (h:aJ X Y):aJ (⟨t0,none,s0,p0⟩::⟨t1,none,s1,p1⟩::e2::X) (⟨none,none,s0,p0⟩::⟨none,none,s1,p1⟩::Y):=.k (.k (.d h))
theorem aJ.UH (h:aJ X Y):aJ (⟨t0,none,s0,p0⟩::e1::⟨t2,none,s2,p2⟩::X) (⟨none,none,s0,p0⟩::⟨none,none,s2,p2⟩::Y):=.k (.d (.k h))
theorem aJ.NM (h:aJ X Y):aJ (e0::⟨t1,none,s1,p1⟩::⟨t2,none,s2,p2⟩::X) (⟨none,none,s1,p1⟩::⟨none,none,s2,p2⟩::Y):=.d (.k (.k h))
theorem aJ.nk (h:aJ X Y):aJ (e0::e1::⟨t2,none,s2,p2⟩::X) (⟨none,none,s2,p2⟩::Y):=.d (.d (.k h))
theorem aJ.Jf (h:aJ X Y):aJ (e0::e1::e2::X) (Y):=.d (.d (.d h))
variable {t3:Option Nat} {s3:Nat} {p3:Pred}
theorem aJ.au (h:aJ X Y):aJ (⟨t0,none,s0,p0⟩::⟨t1,none,s1,p1⟩::⟨t2,none,s2,p2⟩::⟨t3,none,s3,p3⟩::X) (⟨none,none,s0,p0⟩::⟨none,none,s1,p1⟩::⟨none,none,s2,p2⟩::⟨none,none,s3,p3⟩::Y):=.k (.k (.k (.k h)))
variable {e3:bg}
theorem aJ.eG (h:aJ X Y):aJ (⟨t0,none,s0,p0⟩::⟨t1,none,s1,p1⟩::⟨t2,none,s2,p2⟩::e3::X) (⟨none,none,s0,p0⟩::⟨none,none,s1,p1⟩::⟨none,none,s2,p2⟩::Y):=.k (.k (.k (.d h)))
theorem aJ.nM (h:aJ X Y):aJ (⟨t0,none,s0,p0⟩::⟨t1,none,s1,p1⟩::e2::⟨t3,none,s3,p3⟩::X) (⟨none,none,s0,p0⟩::⟨none,none,s1,p1⟩::⟨none,none,s3,p3⟩::Y):=.k (.k (.d (.k h)))
theorem aJ.eu (h:aJ X Y):aJ (⟨t0,none,s0,p0⟩::⟨t1,none,s1,p1⟩::e2::e3::X) (⟨none,none,s0,p0⟩::⟨none,none,s1,p1⟩::Y):=.k (.k (.d (.d h)))
theorem aJ.Ti (h:aJ X Y):aJ (⟨t0,none,s0,p0⟩::e1::⟨t2,none,s2,p2⟩::e3::X) (⟨none,none,s0,p0⟩::⟨none,none,s2,p2⟩::Y):=.k (.d (.k (.d h)))
theorem aJ.uy (h:aJ X Y):aJ (⟨t0,none,s0,p0⟩::e1::e2::⟨t3,none,s3,p3⟩::X) (⟨none,none,s0,p0⟩::⟨none,none,s3,p3⟩::Y):=.k (.d (.d (.k h)))
theorem aJ.fZ (h:aJ X Y):aJ (⟨t0,none,s0,p0⟩::e1::e2::e3::X) (⟨none,none,s0,p0⟩::Y):=.k (.d (.d (.d h)))
theorem aJ.Jg (h:aJ X Y):aJ (e0::⟨t1,none,s1,p1⟩::⟨t2,none,s2,p2⟩::⟨t3,none,s3,p3⟩::X) (⟨none,none,s1,p1⟩::⟨none,none,s2,p2⟩::⟨none,none,s3,p3⟩::Y):=.d (.k (.k (.k h)))
theorem aJ.Rx (h:aJ X Y):aJ (e0::⟨t1,none,s1,p1⟩::⟨t2,none,s2,p2⟩::e3::X) (⟨none,none,s1,p1⟩::⟨none,none,s2,p2⟩::Y):=.d (.k (.k (.d h)))
theorem aJ.Rw (h:aJ X Y):aJ (e0::⟨t1,none,s1,p1⟩::e2::⟨t3,none,s3,p3⟩::X) (⟨none,none,s1,p1⟩::⟨none,none,s3,p3⟩::Y):=.d (.k (.d (.k h)))
theorem aJ.OA (h:aJ X Y):aJ (e0::⟨t1,none,s1,p1⟩::e2::e3::X) (⟨none,none,s1,p1⟩::Y):=.d (.k (.d (.d h)))
theorem aJ.pX (h:aJ X Y):aJ (e0::e1::⟨t2,none,s2,p2⟩::⟨t3,none,s3,p3⟩::X) (⟨none,none,s2,p2⟩::⟨none,none,s3,p3⟩::Y):=.d (.d (.k (.k h)))
theorem aJ.Mg (h:aJ X Y):aJ (e0::e1::⟨t2,none,s2,p2⟩::e3::X) (⟨none,none,s2,p2⟩::Y):=.d (.d (.k (.d h)))
theorem aJ.eY (h:aJ X Y):aJ (e0::e1::e2::⟨t3,none,s3,p3⟩::X) (⟨none,none,s3,p3⟩::Y):=.d (.d (.d (.k h)))
theorem aJ.bX (h:aJ X Y):aJ (e0::e1::e2::e3::X) (Y):=.d (.d (.d (.d h)))
variable {s4:Nat} {p4:Pred} {s5:Nat} {p5:Pred} {s6:Nat} {p6:Pred} {s7:Nat} {p7:Pred}
theorem aJ.k8 {t4 t5 t6 t7:Option Nat} (h:aJ X Y):aJ (⟨t0,none,s0,p0⟩::⟨t1,none,s1,p1⟩::⟨t2,none,s2,p2⟩::⟨t3,none,s3,p3⟩::⟨t4,none,s4,p4⟩::⟨t5,none,s5,p5⟩::⟨t6,none,s6,p6⟩::⟨t7,none,s7,p7⟩::X) (⟨none,none,s0,p0⟩::⟨none,none,s1,p1⟩::⟨none,none,s2,p2⟩::⟨none,none,s3,p3⟩::⟨none,none,s4,p4⟩::⟨none,none,s5,p5⟩::⟨none,none,s6,p6⟩::⟨none,none,s7,p7⟩::Y):=.k (.k (.k (.k (.k (.k (.k (.k h)))))))
theorem aJ.d8 {e4 e5 e6 e7:bg} (h:aJ X Y):aJ (e0::e1::e2::e3::e4::e5::e6::e7::X) (Y):=.d (.d (.d (.d (.d (.d (.d (.d h)))))))
variable {ne:List bg}
theorem nD.kk (h:nD ne X Y):nD ne (⟨none,none,s0,p0⟩::⟨none,none,s1,p1⟩::X) (⟨none,none,s0,p0⟩::⟨none,none,s1,p1⟩::Y):=.k (.k h)
theorem nD.cQ (h:nD ne X Y):nD ne (⟨none,none,s0,p0⟩::⟨none,none,s1,p1⟩::⟨none,none,s2,p2⟩::X) (⟨none,none,s0,p0⟩::⟨none,none,s1,p1⟩::⟨none,none,s2,p2⟩::Y):=.k (.k (.k h))
theorem nD.au (h:nD ne X Y):nD ne (⟨none,none,s0,p0⟩::⟨none,none,s1,p1⟩::⟨none,none,s2,p2⟩::⟨none,none,s3,p3⟩::X) (⟨none,none,s0,p0⟩::⟨none,none,s1,p1⟩::⟨none,none,s2,p2⟩::⟨none,none,s3,p3⟩::Y):=.k (.k (.k (.k h)))
theorem nD.k8 (h:nD ne X Y):nD ne (⟨none,none,s0,p0⟩::⟨none,none,s1,p1⟩::⟨none,none,s2,p2⟩::⟨none,none,s3,p3⟩::⟨none,none,s4,p4⟩::⟨none,none,s5,p5⟩::⟨none,none,s6,p6⟩::⟨none,none,s7,p7⟩::X) (⟨none,none,s0,p0⟩::⟨none,none,s1,p1⟩::⟨none,none,s2,p2⟩::⟨none,none,s3,p3⟩::⟨none,none,s4,p4⟩::⟨none,none,s5,p5⟩::⟨none,none,s6,p6⟩::⟨none,none,s7,p7⟩::Y):=.k (.k (.k (.k (.k (.k (.k (.k h)))))))
theorem qH {α:Type} {l r:List α} (h:∀x∈r,x∈l):∃ks,jq ks l=r:=by
 induction r with
 |nil=>exact⟨[],rfl⟩
 |cons x r ih=>
  obtain⟨ks,hk⟩:=ih λy hy=>h y (List.mem_cons_of_mem _ hy)
  obtain⟨i,hi⟩:=List.mem_iff_getElem?.1 (h x (List.mem_cons_self ..))
  exact⟨i::ks,by unfold jq at *; rw[List.filterMap_cons,hi,hk]⟩
variable {G1:List bg}
theorem nD.strip {G:List bg} (h:nD ne G G1) (hn:(ne.all λe=>e.tag.isSome)=true):kW G1=G:=by
 induction h with
 |z=>
  unfold kW
  rw[List.filter_eq_nil_iff.2 λe he=>by
   have:=List.all_eq_true.1 hn e he
   cases ht:e.tag with
   |none=>rw[ht]at this; cases this
   |some i=>simp]
  rfl
 |k _ ih=>
  unfold kW at *
  rw[List.filter_cons_of_pos rfl,List.map_cons,ih]
 |t i _ ih=>
  unfold kW at *
  rw[List.filter_cons_of_pos rfl,List.map_cons,ih]
theorem aJ.sub {G2:List bg} (h:aJ G1 G2):∀e∈G2,e∈(G1.filter λe=>e.till.isNone).map mX:=by
 induction h with
 |z=>simp
 |k _ ih=>
  intro e he
  rw[List.filter_cons_of_pos rfl,List.map_cons]
  rcases List.mem_cons.1 he with rfl|he
  ·exact List.mem_cons_self ..
  ·exact List.mem_cons_of_mem _ (ih e he)
 |d _ ih=>
  intro e he
  rw[List.filter_cons]
  split
  ·exact List.mem_cons_of_mem _ (ih e he)
  ·exact ih e he
variable {nv V1:List Vr}
theorem AA.strip {V:List Vr} (h:AA nv V V1) (hn:(nv.all λx=>x.born.isSome)=true):kX V1=V:=by
 induction h with
 |z=>
  unfold kX
  rw[List.filter_eq_nil_iff.2 λe he=>by
   have:=List.all_eq_true.1 hn e he
   cases ht:e.born with
   |none=>rw[ht]at this; cases this
   |some i=>simp]
  rfl
 |k _ ih=>
  unfold kX at *
  rw[List.filter_cons_of_pos rfl,List.map_cons,ih]
  rfl
 |u _ _ _ ih=>
  unfold kX at *
  rw[List.filter_cons_of_pos rfl,List.map_cons,ih]
  rfl
theorem uJ.cont {st:List (Nat×Rel)} {c:Rel} (h:uJ st c):∀c0,cont (λ_=>true) c0 st=c:=by
 induction h with
 |o=>intro c0; rfl
 |c _ ih=>intro c0; exact ih _
theorem gI.sub {V2:List Vr} (h:gI V1 V2):∀x∈V2,x∈sR V1:=by
 unfold sR
 induction h with
 |z=>simp
 |k _ ih=>
  intro e he
  rw[List.filter_cons_of_pos rfl,List.map_cons]
  rcases List.mem_cons.1 he with rfl|he
  ·exact List.mem_cons_self ..
  ·exact List.mem_cons_of_mem _ (ih e he)
 |s hl _ ih=>
  intro e he
  rw[List.filter_cons_of_pos rfl,List.map_cons]
  rcases List.mem_cons.1 he with rfl|he
  ·refine List.mem_cons.2 (.inl ?_)
   unfold jt
   rw[hl.cont]
  ·exact List.mem_cons_of_mem _ (ih e he)
 |d _ ih=>
  intro e he
  rw[List.filter_cons]
  split
  ·exact List.mem_cons_of_mem _ (ih e he)
  ·exact ih e he
def nP (nv:List Vr) (A1:List Al) (ne:List bg):Bool:=(nv.all λx=>x.born.isSome)&&((A1.all λp=>p.tag.isSome)&&ne.all λe=>e.tag.isSome)
theorem M7 {A1:List Al} (h:nP nv A1 ne=true):nY A1=[]:=by
 unfold nP at h
 simp only[Bool.and_eq_true,List.all_eq_true]at h
 unfold nY
 refine List.filter_eq_nil_iff.2 λp hp=>?_
 have:=h.2.1 p hp
 cases ht:p.tag with
 |none=>rw[ht]at this; cases this
 |some i=>simp
def zS (P:Program) (N:Nat) (l:List Oper) (ms:List Nat) (V1:List Vr) (A1:List Al) (G1:List bg):Bool:=P.follows .mixedOrders&&(iA l.toArray&&(vw l==ms&&tZ N l V1 A1 G1))
def zT (N:Nat) (l:List Oper) (ms:List Nat) (V1:List Vr) (A1:List Al) (G1:List bg):Bool:=aV l.length==ms&&tZ N l V1 A1 G1
def BP (N:Nat) (l:List Oper) (ms:List Nat) (k:Nat) (V1:List Vr) (A1:List Al) (G1:List bg):Bool:=aV l.length==ms&&(decide (k<=l.length)&&tZ N (l.take k) V1 A1 G1)
def gj (P:Program) (ops:Array Oper):(Act->World->Prop)->List Oper->(Act->World->Prop)->Prop
 |K,[],K'=>K=K'
 |K,o::os,K'=>∃K1,(∀a w,K a w->dI P ops o a w K1)/\gj P ops K1 os K'
section
variable {P:Program} {Q:Exit->Act->World->Prop} {c:dM} {V:List Vr} {G:List bg} {a:Act} {w:World}
theorem pC {ops:Array Oper} {K K2:Nat->Act->World->Prop}:∀{os:List Oper} {m m2:Nat},rO P ops K m os->(∀j,K2 (m2+j)=K (m+j))->rO P ops K2 m2 os
 |[],_,_,_,_=>trivial
 |o::os,m,m2,h,e=>by
  refine⟨λa w hk=>?_,pC h.2 λj=>by rw[Nat.add_assoc,Nat.add_assoc]; exact e (1+j)⟩
  have e0:=e 0
  have e1:=e 1
  rw[Nat.add_zero,Nat.add_zero]at e0
  rw[e0]at hk
  rw[e1]
  exact h.1 a w hk
theorem gj.steps {ops:Array Oper}:∀{os:List Oper} {K K':Act->World->Prop},gj P ops K os K'->∃F:Nat->Act->World->Prop,F 0=K/\F os.length=K'/\rO P ops F 0 os
 |[],K,K',h=>⟨λ_=>K,rfl,h,trivial⟩
 |o::os,K,K',⟨K1,h1,h2⟩=>by
  obtain⟨F,e0,e1,hs⟩:=gj.steps h2
  refine⟨λm=>match m with|0=>K|m+1=>F m,rfl,e1,λa w hk=>?_,pC hs λj=>?_⟩
  ·show dI P ops o a w (F 0)
   rw[e0]
   exact h1 a w hk
  ·rw[show 0+1+j=j+1 by omega,Nat.zero_add]
variable {V1:List Vr} {A1:List Al} {G1:List bg}
theorem oQ {V2:List Vr} {G2:List bg} {N:Nat} {l:List Oper} (hwf:tZ N l V1 A1 G1=true) (kV:gI V1 V2) (kG:aJ G1 G2) {a:Act} {w:World} (hI:Inv c V1 A1 G1 (λ_=>true) a w):Inv c V2 [] G2 none_ a w:=by
 obtain⟨kv,e1⟩:=qH kV.sub
 obtain⟨kg,e2⟩:=qH kG.sub
 exact hI.next kv kg (qq hwf) (xM hwf) e1 e2
theorem mP {nv:List Vr} {ne:List bg} (h:Inv c V [] G none_ a w) (hV:AA nv V V1) (hG:nD ne G G1) (hn:nP nv A1 ne=true):Inv c V1 A1 G1 none_ a w:=by
 have hn':=hn
 unfold nP at hn'
 simp only[Bool.and_eq_true]at hn'
 exact h.enter (hV.strip hn'.1) (M7 hn) (hG.strip hn'.2.2)
end
end Wx

namespace Wx
open Go Go.RowKit Go.Proofs
theorem BR (a b:Bool) (m n:Nat):sg (a != b) (m*n)=sg a m*sg b n:=by
 cases a<;>cases b<;>simp[sg,Int.mul_neg,Int.neg_mul]
theorem xd (x y:Rat):x*y=cU (decide (x.num<0) != decide (y.num<0)) (x.num.natAbs*y.num.natAbs) (x.den*y.den):=by
 unfold cU
 rw[Rat.mul_def',BR,Ad,Ad]
theorem JJ (y:Rat) (hy:y.num≠0):y⁻¹=cU (decide (y.num<0)) y.den y.num.natAbs:=by
 rw[Rat.inv_def]
 generalize y.num=z at *
 generalize y.den=d
 unfold cU
 match z,hy with
 |Int.ofNat k,hy=>
  have:¬((Int.ofNat k)<0):=by have:=Int.natCast_nonneg k; exact Int.not_lt.2 this
  rw[decide_eq_false this]
  exact Rat.divInt_ofNat _ _
 |Int.negSucc k,hy=>
  have:(Int.negSucc k)<0:=Int.negSucc_lt_zero k
  rw[decide_eq_true this]
  show Rat.normalize (-(d:Int)) (k+1) (by omega)=mkRat (-(d:Int)) (k+1)
  rw[Rat.mkRat_def,dif_neg (by omega)]
theorem wG (x y:Rat) (hy:y.num≠0):x/y=cU (decide (x.num<0) != decide (y.num<0)) (x.num.natAbs*y.den) (x.den*y.num.natAbs):=by
 rw[Rat.div_def,JJ y hy]
 conv=>lhs; rw[<-Rat.mkRat_self x]
 unfold cU
 rw[Rat.mkRat_mul_mkRat,BR,Ad]
theorem Ij (z:Int) (d:Nat):z*d=sg (decide (z<0)) (z.natAbs*d):=by
 have h:=BR (decide (z<0)) false z.natAbs d
 rw[show(decide (z<0) != false)=decide (z<0) by cases decide (z<0)<;>rfl,Ad]at h
 rw[h]; rfl
theorem wk (x y:Rat):x+y=mkRat (sg (decide (x.num<0)) (x.num.natAbs*y.den)+sg (decide (y.num<0)) (y.num.natAbs*x.den)) (x.den*y.den):=by
 rw[Rat.add_def',Ij,Ij]
theorem NA (a:Bool) (m n:Nat):sg a m+sg a n=sg a (m+n):=by cases a<;>simp[sg]; omega
theorem Kg (a:Bool) {m n:Nat} (h:n<=m):sg a m+sg (!a) n=sg a (m-n):=by cases a<;>simp[sg]<;>omega
theorem Kh (a:Bool) {m n:Nat} (h:m<=n):sg a m+sg (!a) n=sg (!a) (n-m):=by cases a<;>simp[sg]<;>omega
theorem uM {a b:Bool} (h:¬a=b):b=!a:=by cases a<;>cases b<;>simp_all
theorem add_same (x y:Rat) (h:decide (x.num<0)=decide (y.num<0)):x+y=cU (decide (x.num<0)) (x.num.natAbs*y.den+y.num.natAbs*x.den) (x.den*y.den):=by
 rw[wk,<-h,NA]; rfl
theorem AG (x y:Rat) (h:¬decide (x.num<0)=decide (y.num<0)) (hge:y.num.natAbs*x.den<=x.num.natAbs*y.den):x+y=cU (decide (x.num<0)) (x.num.natAbs*y.den-y.num.natAbs*x.den) (x.den*y.den):=by
 rw[wk,uM h,Kg _ hge]; rfl
theorem AH (x y:Rat) (h:¬decide (x.num<0)=decide (y.num<0)) (hge:x.num.natAbs*y.den<=y.num.natAbs*x.den):x+y=cU (decide (y.num<0)) (y.num.natAbs*x.den-x.num.natAbs*y.den) (x.den*y.den):=by
 rw[wk,uM h,Kh _ hge]; rfl
variable {j k:Nat} {x y:Rat}
theorem dx.mul (h:dx j x) (g:dx k y):dx (j+k) (x*y):=by
 rw[xd]
 exact pn (Nat.mul_pos x.den_pos y.den_pos) (h.1.mul g.1) (h.2.mul g.2)
theorem dx.div (h:dx j x) (g:dx k y) (hy:y.num≠0):dx (j+k) (x/y):=by
 rw[wG _ _ hy]
 exact pn (Nat.mul_pos x.den_pos (by omega)) (h.1.mul g.2) (h.2.mul g.1)
theorem dx.neg (h:dx j x):dx j (-x):=⟨by rw[Rat.neg_num,Int.natAbs_neg]; exact h.1,h.2⟩
end Wx

namespace Wx
def aT (n:Nat):Nat:=if n=0 then 0 else Nat.log2 n+1
theorem iQ:aT 0=0:=rfl
variable {n:Nat}
theorem iC (h:0<n):0<aT n:=by unfold aT; rw[if_neg (by omega)]; omega
theorem mA (n:Nat):n<2^aT n:=by
 unfold aT
 split
 ·next h=>subst h; decide
 ·exact Nat.lt_log2_self
theorem jW (h:0<n):2^(aT n-1)<=n:=by
 unfold aT
 rw[if_neg (by omega)]
 exact Nat.log2_self_le (by omega)
variable {k:Nat}
theorem oN (h1:2^k<=n) (h2:n<2^(k+1)):aT n=k+1:=by
 have h0:0<n:=Nat.lt_of_lt_of_le (Nat.two_pow_pos k) h1
 have a1:=mA n
 have a2:=jW h0
 have a3:=iC h0
 have b1:k<aT n:=by
  rcases Nat.lt_or_ge k (aT n)with h|h
  ·exact h
  ·have:=Nat.pow_le_pow_right (show 0<2 by omega) h; omega
 have b2:aT n-1<k+1:=by
  rcases Nat.lt_or_ge (aT n-1) (k+1)with h|h
  ·exact h
  ·have:=Nat.pow_le_pow_right (show 0<2 by omega) h; omega
 omega
theorem Bv (h:0<n):aT n=aT (n/2)+1:=by
 by_cases h1:n=1
 ·subst h1; decide
 ·have h2:0<n/2:=by omega
  have a:=mA (n/2)
  have b:=jW h2
  have c:=iC h2
  have e:=oN (n:=n) (k:=aT (n/2)) (by
   have:2^aT (n/2)=2*2^(aT (n/2)-1):=by
    rw[<-Nat.pow_succ']; congr 1; omega
   omega) (by rw[Nat.pow_succ]; omega)
  exact e
variable {m:Nat}
theorem uA {t low:Nat} (ht:0<t) (hl:low<2^k) (hm:m=low+2^k*t):aT m=k+aT t:=by
 have a:=mA t
 have b:=jW ht
 have c:=iC ht
 have e:=oN (n:=m) (k:=k+(aT t-1)) (by
  rw[Nat.pow_add,hm]
  have:=Nat.mul_le_mul_left (2^k) b
  omega) (by
  rw[show k+(aT t-1)+1=k+aT t by omega,Nat.pow_add,hm]
  have:=Nat.mul_le_mul_left (2^k) (Nat.succ_le_of_lt a)
  rw[Nat.mul_succ]at this
  omega)
 omega
theorem mz {j:Nat} (h:Bd j n):aT n<=j:=by
 rcases Nat.eq_zero_or_pos n with rfl|h0
 ·rw[iQ]; omega
 ·have a:=jW h0
  have b:=iC h0
  rcases Nat.lt_or_ge j (aT n)with h'|h'
  ·have:=Nat.pow_le_pow_right (show 0<2 by omega) (show j<=aT n-1 by omega)
   unfold Bd at h
   omega
  ·exact h'
theorem zy (h:aT m<aT n):m<n:=by
 have a:=mA m
 have b:0<n:=by
  rcases Nat.eq_zero_or_pos n with rfl|h0
  ·rw[iQ]at h; omega
  ·exact h0
 have c:=jW b
 have:=Nat.pow_le_pow_right (show 0<2 by omega) (show aT m<=aT n-1 by omega)
 omega
variable {a b:Nat}
theorem zz (hb:0<b):a<b*2^(aT a-aT b+1):=by
 have h1:=mA a
 have h2:=jW hb
 have h3:=iC hb
 have h4:2^aT a<=2^((aT b-1)+(aT a-aT b+1)):=Nat.pow_le_pow_right (by omega) (by omega)
 rw[Nat.pow_add]at h4
 have h5:=Nat.mul_le_mul_right (2^(aT a-aT b+1)) h2
 omega
variable {i:Nat}
theorem Ei {A Q:Nat} (hA:A=Q*b+a) (ha:a<b*2^(i+1)) (hQ:2^(i+1) ∣ Q):
  (b*2^i<=a->A=(Q+2^i)*b+(a-b*2^i)/\a-b*2^i<b*2^i/\2^i ∣ Q+2^i)/\(a<b*2^i->2^i ∣ Q):=by
 have hd:2^i ∣ Q:=Nat.dvd_trans (Nat.pow_dvd_pow 2 (by omega)) hQ
 refine⟨λh=>⟨?_,?_,Nat.dvd_add hd (Nat.dvd_refl _)⟩,λ_=>hd⟩
 ·rw[Nat.add_mul,Nat.mul_comm (2^i) b]; omega
 ·rw[Nat.pow_succ,<-Nat.mul_assoc]at ha; omega
theorem yV (b i:Nat):b*2^(i+1)/2=b*2^i:=by
 rw[Nat.pow_succ,<-Nat.mul_assoc,Nat.mul_div_cancel _ (by omega)]
variable {x:Nat}
theorem FH (hx:x<4294967296) (hk:k<32) (hd:2^(k+1) ∣ x):x+2^k<4294967296:=by
 obtain⟨y,rfl⟩:=hd
 have e:4294967296=2^(k+1)*2^(31-k):=by rw[<-Nat.pow_add,show k+1+(31-k)=32 by omega]
 have h1:y<2^(31-k):=by
  rw[e]at hx
  exact Nat.lt_of_mul_lt_mul_left hx
 have h2:=Nat.mul_le_mul_left (2^(k+1)) (Nat.succ_le_of_lt h1)
 rw[Nat.mul_succ,<-e]at h2
 have h3:2^k<2^(k+1):=Nat.pow_lt_pow_right (by omega) (by omega)
 omega
variable {l:List Nat} {v:Nat}
theorem IF (hw:Wf 4294967296 l) (hd:2^(i+1) ∣ val 4294967296 l) (h:l[i/32]?=some v):2^(i%32+1) ∣ v:=by
 obtain⟨hi,hv⟩:=List.getElem?_eq_some_iff.1 h
 have e:=bJ 4294967296 l (i/32) (by omega)
 rw[kA 4294967296 l (i/32) hi,hv]at e
 have hp:(4294967296:Nat)^(i/32)=2^(32*(i/32)):=by rw[Nat.pow_mul]
 have hi':i+1=32*(i/32)+(i%32+1):=by omega
 have D2:=fu (hw.take (i/32))
 rw[List.length_take,Nat.min_eq_left (by omega),hp]at D2
 rw[hp]at e
 have h1:2^(32*(i/32)) ∣ val 4294967296 l:=Nat.dvd_trans (Nat.pow_dvd_pow 2 (by omega)) hd
 have h0:val 4294967296 (l.take (i/32))=0:=by
  rw[e]at h1
  have:=(Nat.dvd_add_left (Nat.dvd_mul_right _ _)).1 h1
  exact Nat.eq_zero_of_dvd_of_lt this D2
 rw[e,h0,Nat.zero_add,hi',Nat.pow_add]at hd
 have h2:=Nat.dvd_of_mul_dvd_mul_left (Nat.two_pow_pos _) hd
 refine(Nat.dvd_add_left (Nat.dvd_trans ?_ (Nat.dvd_mul_right _ _))).1 h2
 have:(4294967296:Nat)=2^32:=by decide
 rw[this]
 exact Nat.pow_dvd_pow 2 (by omega)
theorem Kf (h:l[i/32]?=some v):val 4294967296 (l.set (i/32) (v+2^(i%32)))=val 4294967296 l+2^i:=by
 have h1:=mY (b:=4294967296) h (v+2^(i%32))
 have hp:(4294967296:Nat)^(i/32)=2^(32*(i/32)):=by rw[Nat.pow_mul]
 have e:2^i=2^(32*(i/32))*2^(i%32):=by rw[<-Nat.pow_add]; congr 1; omega
 rw[Nat.mul_add,hp,<-e]at h1
 omega
theorem DZ {d D:Nat} (hd:D%2=d):(x+4294967296*D)/2=(x/2+2147483648*d)+4294967296*(D/2):=by omega
end Wx

namespace Wx
open Go Go.RowKit Go.Proofs
def ah:Nat:=4294967296
theorem rf:ah=2^32:=by unfold ah; decide
theorem ak:2<=ah:=by unfold ah; omega
variable {n:Nat}
theorem oI {k:Nat} (h:Bd k n):(ae ah n).length<=k/32+1:=by rw[rf]; exact h.ae (by omega)
theorem kM:(Tryz.prog.info? 146).map (λi=>(i.zero,i.size,decide (i.bytes<=8)))=some (some (.int .u32 0),1,true):=by kernel_rfl
theorem zA (w:World) (A:Option Addr) (c:Nat) (l:List Nat) (h:Rd w .u32 A c l):
  Calls Tryz.prog 106 #[.slice A l.length c] w (Ce w A c l):=by
 obtain⟨hl,hm,hcell⟩:=h
 unfold maxLen at hm
 go_enter Tryz.func106,Tryz.ntmps106
 go_wp2
 go_loop [3] (λv=>∃n:Nat,n<=l.length/\v=.int .i64 n/\(∀b,val b (l.take n)=val b l)) (λv=>(intOf v).toNat)
 case atStart=>exact⟨l.length,Nat.le_refl _,rfl,λb=>by rw[List.take_length]⟩
 case round=>
  obtain⟨n,hn,rfl,hv⟩:=hrel
  have HV:=Lib.hid hv
  clear hv
  rcases Nat.eq_zero_or_pos n with rfl|hpos
  ·go_wp2
   go_ret
   exact⟨0,hn,rfl,rfl,oa.nil,HV.out⟩
  ·obtain⟨b,o,rfl,hc⟩:=hcell (by rintro rfl; simp at hn; omega)
   have qO:=hc (n-1) (by omega)
   clear hc hcell
   obtain⟨x,hx⟩:∃x,x=l.getD (n-1) 0:=⟨_,rfl⟩
   rw[<-hx]at qO
   have HX:=Lib.hid hx
   clear hx
   obtain⟨k,rfl⟩:∃k,n=k+1:=⟨n-1,by omega⟩
   rw[Nat.add_sub_cancel]at qO HX
   rcases Nat.eq_zero_or_pos x with rfl|h0
   ·go_wp2
    go_round
    case rel=>exact⟨k,by omega,by go_num,λb=>by rw[vT (by omega) HX.out.symm]; exact HV.out b⟩
    case measure=>simp[intOf]
   ·have T6:((x:Int)==0)=false:=beq_eq_false_iff_ne.2 (by omega)
    go_wp2
    go_ret
    exact⟨k+1,hn,rfl,rfl,Iy (l:=l) (n:=k) (by omega) (by have:=HX.out; omega),HV.out⟩
theorem oO (w:World) (A:Option Addr) (c:Nat) (l:List Nat) (n:Nat) (h:Rd w .u32 A c l) (hw:Wf ah l) (L:Nat) (hL:l.length=L) (hn:val ah l=n):
  Calls Tryz.prog 106 #[.slice A L c] w (Cm .u32 ah w n):=by
 subst hL
 refine(zA w A c l h).mono λe w' ⟨k,hk,he,hw',ht,hv⟩=>⟨hw',_,he,?_⟩
 rw[<-hn,<-hv ah]
 exact bj.of ak (h.take k) (by rw[List.length_take]; omega) (hw.take k) ht
def mK (w:World) (n:Nat) (e:Ending) (w':World):Prop:=∃g L c,w.heap.size<=g/\e=.returned (.slice (some ⟨g,0,none⟩) L c)/\bj .u32 ah w' (.slice (some ⟨g,0,none⟩) L c) n/\Below w.heap.size w w'
theorem mK.num {w:World} {e:Ending} {w':World} (h:mK w n e w'):er .u32 ah w n e w':=by
 obtain⟨g,L,c,_,he,hn,hb⟩:=h
 exact⟨_,he,hn,hb⟩
theorem qi (w:World) (A:Option Addr) (c:Nat) (l:List Nat) (n:Nat) (h:Rd w .u32 A c l) (hw:Wf ah l) (L:Nat) (hL:l.length=L) (hn:val ah l=n):
  Calls Tryz.prog 106 #[.slice A L c] w (λe w'=>w=w'/\∃k,e=.returned (.slice A k c)/\bj .u32 ah w (.slice A k c) n):=by
 subst hL
 refine(zA w A c l h).mono λe w' ⟨k,hk,he,hw',ht,hv⟩=>⟨hw',_,he,?_⟩
 rw[<-hn,<-hv ah]
 exact bj.of ak (h.take k) (by rw[List.length_take]; omega) (hw.take k) ht
theorem jj (w:World) (n:Nat) (hn:n<b64):Calls Tryz.prog 69 #[.int .u64 (n:Int)] w (er .u32 ah w n):=by
 have e1:(n:Int)%4294967296=((n%ah:Nat):Int):=by unfold ah; omega
 have e2:IntKind.u64.wrap ((n:Int)/4294967296)%4294967296=((n/ah:Nat):Int):=by
  unfold b64 at hn
  rw[wrap_u64 (by omega) (by omega)]; unfold ah; omega
 have hw:Wf ah [n%ah,n/ah]:=Wf.cons (Nat.mod_lt _ (by unfold ah; omega)) (Wf.cons (by unfold ah; unfold b64 at hn; omega) (Wf.nil _))
 have hv:val ah [n%ah,n/ah]=n:=by simp[val]; exact Nat.mod_add_div _ _
 have E1:=Lib.hid e1
 have E2:=Lib.hid e2
 have HV:=Lib.hid hv
 clear e1 e2 hv hn
 go_enter Tryz.func69,Tryz.ntmps69
 go_wp2_with fail
 rw[E1.out,E2.out]
 have hR:Row (w.alloc (.cells #[.int .u32 ((n%ah:Nat):Int),.int .u32 ((n/ah:Nat):Int)] 146)) .u32 146 w.heap.size [n%ah,n/ah]:=Row.new w .u32 146 [n%ah,n/ah]
 refine(oO _ _ _ [n%ah,n/ah] n (hR.ew (Nat.le_refl _) (by simp[maxLen])) hw _ rfl HV.out).mono ?_
 rintro e w' ⟨rfl,v,rfl,hv⟩
 go_wp2
 go_ret
 exact⟨v,rfl,hv,(Below.refl _ _).alloc (Nat.le_refl _) _⟩
end Wx

namespace Wx
open Go Go.RowKit Go.Proofs
set_option maxHeartbeats 400000 in
theorem Hj (w:World) (v1 v2:Value) (m n:Nat) (h1:bj .u32 ah w v1 m) (h2:bj .u32 ah w v2 n):
  Calls Tryz.prog 90 #[v1,v2] w (xZ w (.int .i64 (bq m n))):=by
 obtain⟨A,c,rfl,ha⟩:=h1
 obtain⟨B,d,rfl,hb⟩:=h2
 have hla:=ha.len
 have hlb:=hb.len
 by_cases hlt:(ae ah m).length<(ae ah n).length
 ·have hmn:=cj ak hlt
  have e:bq m n = -1:=by unfold bq; rw[if_pos hmn]
  rw[e]
  go_enter Tryz.func90,Tryz.ntmps90
  go_wp2
  all_goals (go_ret; exact⟨rfl,0,rfl⟩)
 ·by_cases hgt:(ae ah n).length<(ae ah m).length
  ·have hmn:=cj ak hgt
   have e:bq m n=1:=by unfold bq; rw[if_neg (by omega),if_pos hmn]
   rw[e]
   go_enter Tryz.func90,Tryz.ntmps90
   go_wp2
   all_goals (go_ret; exact⟨rfl,0,rfl⟩)
  ·have IQ:(ae ah m).length=(ae ah n).length:=by omega
   have wa:=bw ak m
   have wb:=bw ak n
   have va:=aY ak m
   have vb:=aY ak n
   generalize ae ah m=a at *
   generalize ae ah n=b at *
   rw[<-IQ]at hlb ⊢
   have HL:=Lib.hid IQ
   have VA:=Lib.hid va
   have VB:=Lib.hid vb
   clear IQ va vb hlt hgt hlb
   go_enter Tryz.func90,Tryz.ntmps90
   go_wp2
   go_loopw [5] (λs5 wr=>∃i:Nat,i<=a.length/\s5=.int .i64 ((i:Int)-1)/\a.drop i=b.drop i/\∃q,wr=w.drewN q)
    (λs5 _=>(intOf s5+1).toNat)
   case atStart=>exact⟨a.length,Nat.le_refl _,rfl,by rw[List.drop_of_length_le (Nat.le_refl _),List.drop_of_length_le (by have:=HL.out; omega)],0,rfl⟩
   case round=>
    obtain⟨i,hi,rfl,hd,q,rfl⟩:=hrel
    have HD:=Lib.hid hd
    clear hd
    rcases Nat.eq_zero_or_pos i with rfl|hpos
    ·rw[show(((0:Nat):Int)-1) = -1 by omega]
     have:a=b:=by simpa using HD.out
     have e:m=n:=by rw[<-VA.out,<-VB.out,this]
     have e0:bq m n=0:=by unfold bq; rw[if_neg (by omega),if_neg (by omega)]
     have E0:=Lib.hid e0
     clear e e0 this
     go_wp2
     go_ret
     exact⟨gG E0.out.symm,_,rfl⟩
    ·obtain⟨j,rfl⟩:∃j,i=j+1:=⟨i-1,by omega⟩
     obtain⟨b1,o1,x,rfl,vf,HX⟩:=ha.get (i:=j) (by omega)
     obtain⟨b2,o2,y,rfl,Gg,HY⟩:=hb.get (i:=j) (by have:=HL.out; omega)
     rw[show(((j+1:Nat):Int)-1)=(j:Int) by omega]
     have Uq:(0:Int)<=(j:Int):=by omega
     have dz:(j:Int)<(a.length:Int):=by omega
     rcases Nat.lt_trichotomy x y with hxy|hxy|hxy
     ·have MX:(x:Int)<(y:Int):=by omega
      have hmn:m<n:=by
       rw[<-VA.out,<-VB.out]
       exact kY wa HX.out HY.out HD.out hxy
      have E0:Hid (bq m n = -1):=by show bq m n = -1; unfold bq; rw[if_pos hmn]
      clear hmn
      go_wp2
      go_quiet (fail)
      go_wp2
      go_ret
      exact⟨gG E0.out.symm,_,World.drewN_drewN _ _ _⟩
     ·subst hxy
      go_wp2
      go_quiet (fail)
      go_wp2
      go_quiet (fail)
      go_wp2
      go_roundw
      case rel=>exact⟨j,by omega,by go_num,yJ HX.out HY.out HD.out,_,rfl⟩
      case measure=>simp[intOf]
     ·have MX:(y:Int)<(x:Int):=by omega
      have hmn:n<m:=by
       rw[<-VA.out,<-VB.out]
       exact kY wb HY.out HX.out HD.out.symm hxy
      have E0:Hid (bq m n=1):=by show bq m n=1; unfold bq; rw[if_neg (by omega),if_pos hmn]
      clear hmn
      go_wp2
      go_quiet (fail)
      go_wp2
      go_quiet (fail)
      go_wp2
      go_ret
      exact⟨gG E0.out.symm,_,(World.drewN_drewN _ _ _).trans (World.drewN_drewN _ _ _)⟩
theorem kj (w:World) (v1 v2:Value) (m n:Nat) (h1:bj .u32 ah w v1 m) (h2:bj .u32 ah w v2 n):
  Calls Tryz.prog 90 #[v1,v2] w (eK w (.int .i64 (bq m n))):=(Hj w v1 v2 m n h1 h2).mono λ_ _ h=>h.is
end Wx
