import Derived.Test.YtfnmkhlleanppaaGreatDoorCWNSemRow
namespace Wx
open Go Go.RowKit Go.Proofs Go.ChangeShapes Go.WideShapes Go.ChangeAt Go.Deep
section
variable {H:Type} {enc:TypeId×Value->H} {P:Program} {w:World}
end
end Wx

namespace Wx
open Go Go.RowKit Go.Proofs Go.ChangeShapes Go.WideShapes Go.ChangeAt Go.Deep
section
variable {H:Type} {enc:TypeId×Value->H} {P:Program} {w:World}
end
end Wx

namespace Wx
open Go Go.RowKit Go.Proofs
end Wx

namespace Wx
open Go Go.RowKit
def eP (P:Program) (ops:Array Oper) (K:Nat->Act->World->Prop):Nat->List Oper->Prop
 |_,[]=>True
 |m,o::os=>(∀a w,K m a w->aQ P ops o a w (K (m+1)))/\eP P ops K (m+1) os
theorem eP.get {P:Program} {ops:Array Oper} {K:Nat->Act->World->Prop}:∀{os:List Oper} {m:Nat},eP P ops K m os->∀{j:Nat} {o:Oper},os[j]?=some o->∀a w,K (m+j) a w->aQ P ops o a w (K (m+j+1)):=by
 intro os
 induction os with
 |nil=>intro m _ j o h; simp at h
 |cons o' os ih=>
  intro m hs j o h
  cases j with
  |zero=>simp at h; subst h; exact hs.1
  |succ j=>
   have:=ih hs.2 (j:=j) (o:=o) (by simpa using h)
   rw[show m+(j+1)=m+1+j by omega]
   exact this
def mL (ms:List Nat) (k n:Nat):Bool:=(List.range n).all λi=>decide (i<k)||(List.range i).all λj=>(ms.getD i 0).testBit j
theorem cT {ms:List Nat} {k n i j:Nat} (h:mL ms k n=true) (hi:i<n) (hk:k<=i) (hj:j<i):(ms.getD i 0).testBit j=true:=by
 unfold mL at h
 rw[List.all_eq_true]at h
 have:=h i (by simpa using hi)
 rw[Bool.or_eq_true,decide_eq_true_eq,List.all_eq_true]at this
 rcases this with h1|h1
 ·omega
 ·exact h1 j (by simpa using hj)
section
variable {P:Program} {Q:Exit->Act->World->Prop} {c:bD} {V:List Vr} {A:List Al} {G:List aD} {a:Act} {w:World}
theorem jE {N k:Nat} {l:List Oper} (h:kE N (l.take k) V A G=true) {i:Nat} {o:Oper} (hi:l[i]?=some o) (hk:i<k):fG N l.toArray V A G i o:=by
 have h1:=lP h (i:=i) (o:=o) (by rw[List.getElem?_take,if_pos hk]; exact hi)
 have hm:=cY h
 refine⟨h1.sz,h1.sg,h1.aa,h1.g1,h1.g2,λe j he ht=>?_,h1.gu,h1.a1,h1.a2,h1.v1,h1.v2,h1.vk,h1.vb,h1.vs,h1.vu,h1.vo⟩
 have h2:=h1.g3 e j he ht
 rw[<-h2]
 simp only[jk,Bool.and_eq_true,List.all_eq_true]at hm
 have h3:=(hm.2 e he).1
 rw[ht]at h3
 simp only[fR,decide_eq_true_eq,List.length_take]at h3
 congr 1
 simp only[List.getElem?_toArray]
 rw[List.getElem?_take,if_pos (by omega)]
end
end Wx

namespace Wx
open Go Go.RowKit
inductive fF (ne:List aD):List aD->List aD->Prop
 |z:fF ne [] ne
 |k {s:Nat} {p:Pred} {G G1:List aD}:fF ne G G1->fF ne (⟨none,none,s,p⟩::G) (⟨none,none,s,p⟩::G1)
 |t {s:Nat} {p:Pred} {G G1:List aD} (i:Nat):fF ne G G1->fF ne (⟨none,none,s,p⟩::G) (⟨none,some i,s,p⟩::G1)
inductive ah:List aD->List aD->Prop
 |z:ah [] []
 |k {t:Option Nat} {s:Nat} {p:Pred} {G1 G2:List aD}:ah G1 G2->ah (⟨t,none,s,p⟩::G1) (⟨none,none,s,p⟩::G2)
 |d {e:aD} {G1 G2:List aD}:ah G1 G2->ah (e::G1) G2
inductive kJ (nv:List Vr):List Vr->List Vr->Prop
 |z:kJ nv [] nv
 |k {id s:Nat} {kd:Kd} {T:TypeId} {n:Nat} {ag:Bool} {c0:Rel} {V V1:List Vr}:kJ nv V V1->kJ nv (⟨id,s,none,none,kd,T,n,ag,c0,[]⟩::V) (⟨id,s,none,none,kd,T,n,ag,c0,[]⟩::V1)
 |u {id s:Nat} {kd:Kd} {T:TypeId} {n:Nat} {ag:Bool} {c0:Rel} {V V1:List Vr} (dead:Option Nat) (st:List (Nat×Rel)):kJ nv V V1->kJ nv (⟨id,s,none,none,kd,T,n,ag,c0,[]⟩::V) (⟨id,s,none,dead,kd,T,n,ag,c0,st⟩::V1)
inductive jQ:List (Nat×Rel)->Rel->Prop
 |o {i:Nat} {c:Rel}:jQ [(i,c)] c
 |c {x:Nat×Rel} {l:List (Nat×Rel)} {c:Rel}:jQ l c->jQ (x::l) c
inductive cx:List Vr->List Vr->Prop
 |z:cx [] []
 |k {id s:Nat} {b:Option Nat} {kd:Kd} {T:TypeId} {n:Nat} {ag:Bool} {c0:Rel} {V1 V2:List Vr}:cx V1 V2->cx (⟨id,s,b,none,kd,T,n,ag,c0,[]⟩::V1) (⟨s,s,none,none,kd,T,n,ag,c0,[]⟩::V2)
 |s {id s:Nat} {b:Option Nat} {kd:Kd} {T:TypeId} {n:Nat} {ag:Bool} {c0 c1:Rel} {st:List (Nat×Rel)} {V1 V2:List Vr}:jQ st c1->cx V1 V2->cx (⟨id,s,b,none,kd,T,n,ag,c0,st⟩::V1) (⟨s,s,none,none,kd,T,n,ag,c1,[]⟩::V2)
 |d {x:Vr} {V1 V2:List Vr}:cx V1 V2->cx (x::V1) V2
variable {t0:Option Nat} {s0:Nat} {p0:Pred} {t1:Option Nat} {s1:Nat} {p1:Pred} {X Y:List aD}
theorem ah.kk (h:ah X Y):ah (⟨t0,none,s0,p0⟩::⟨t1,none,s1,p1⟩::X) (⟨none,none,s0,p0⟩::⟨none,none,s1,p1⟩::Y):=.k (.k h)
variable {e0:aD}
theorem ah.dk (h:ah X Y):ah (e0::⟨t1,none,s1,p1⟩::X) (⟨none,none,s1,p1⟩::Y):=.d (.k h)
variable {e1:aD}
theorem ah.dd (h:ah X Y):ah (e0::e1::X) (Y):=.d (.d h)
variable {t2:Option Nat} {s2:Nat} {p2:Pred}
theorem ah.aU (h:ah X Y):ah (⟨t0,none,s0,p0⟩::⟨t1,none,s1,p1⟩::⟨t2,none,s2,p2⟩::X) (⟨none,none,s0,p0⟩::⟨none,none,s1,p1⟩::⟨none,none,s2,p2⟩::Y):=.k (.k (.k h))
variable {e2:aD}
theorem ah.D9 (h:ah X Y):ah (⟨t0,none,s0,p0⟩::⟨t1,none,s1,p1⟩::e2::X) (⟨none,none,s0,p0⟩::⟨none,none,s1,p1⟩::Y):=.k (.k (.d h))
theorem ah.lg (h:ah X Y):ah (⟨t0,none,s0,p0⟩::e1::⟨t2,none,s2,p2⟩::X) (⟨none,none,s0,p0⟩::⟨none,none,s2,p2⟩::Y):=.k (.d (.k h))
theorem ah.ru (h:ah X Y):ah (e0::⟨t1,none,s1,p1⟩::⟨t2,none,s2,p2⟩::X) (⟨none,none,s1,p1⟩::⟨none,none,s2,p2⟩::Y):=.d (.k (.k h))
theorem ah.gj (h:ah X Y):ah (e0::e1::⟨t2,none,s2,p2⟩::X) (⟨none,none,s2,p2⟩::Y):=.d (.d (.k h))
theorem ah.CI (h:ah X Y):ah (e0::e1::e2::X) (Y):=.d (.d (.d h))
variable {t3:Option Nat} {s3:Nat} {p3:Pred}
theorem ah.af (h:ah X Y):ah (⟨t0,none,s0,p0⟩::⟨t1,none,s1,p1⟩::⟨t2,none,s2,p2⟩::⟨t3,none,s3,p3⟩::X) (⟨none,none,s0,p0⟩::⟨none,none,s1,p1⟩::⟨none,none,s2,p2⟩::⟨none,none,s3,p3⟩::Y):=.k (.k (.k (.k h)))
variable {e3:aD}
theorem ah.bT (h:ah X Y):ah (⟨t0,none,s0,p0⟩::⟨t1,none,s1,p1⟩::⟨t2,none,s2,p2⟩::e3::X) (⟨none,none,s0,p0⟩::⟨none,none,s1,p1⟩::⟨none,none,s2,p2⟩::Y):=.k (.k (.k (.d h)))
theorem ah.bz (h:ah X Y):ah (⟨t0,none,s0,p0⟩::⟨t1,none,s1,p1⟩::e2::⟨t3,none,s3,p3⟩::X) (⟨none,none,s0,p0⟩::⟨none,none,s1,p1⟩::⟨none,none,s3,p3⟩::Y):=.k (.k (.d (.k h)))
theorem ah.bJ (h:ah X Y):ah (⟨t0,none,s0,p0⟩::⟨t1,none,s1,p1⟩::e2::e3::X) (⟨none,none,s0,p0⟩::⟨none,none,s1,p1⟩::Y):=.k (.k (.d (.d h)))
theorem ah.qi (h:ah X Y):ah (⟨t0,none,s0,p0⟩::e1::⟨t2,none,s2,p2⟩::⟨t3,none,s3,p3⟩::X) (⟨none,none,s0,p0⟩::⟨none,none,s2,p2⟩::⟨none,none,s3,p3⟩::Y):=.k (.d (.k (.k h)))
theorem ah.uF (h:ah X Y):ah (⟨t0,none,s0,p0⟩::e1::⟨t2,none,s2,p2⟩::e3::X) (⟨none,none,s0,p0⟩::⟨none,none,s2,p2⟩::Y):=.k (.d (.k (.d h)))
theorem ah.fK (h:ah X Y):ah (⟨t0,none,s0,p0⟩::e1::e2::⟨t3,none,s3,p3⟩::X) (⟨none,none,s0,p0⟩::⟨none,none,s3,p3⟩::Y):=.k (.d (.d (.k h)))
theorem ah.jO (h:ah X Y):ah (⟨t0,none,s0,p0⟩::e1::e2::e3::X) (⟨none,none,s0,p0⟩::Y):=.k (.d (.d (.d h)))
theorem ah.xb (h:ah X Y):ah (e0::⟨t1,none,s1,p1⟩::⟨t2,none,s2,p2⟩::⟨t3,none,s3,p3⟩::X) (⟨none,none,s1,p1⟩::⟨none,none,s2,p2⟩::⟨none,none,s3,p3⟩::Y):=.d (.k (.k (.k h)))
theorem ah.nP (h:ah X Y):ah (e0::⟨t1,none,s1,p1⟩::⟨t2,none,s2,p2⟩::e3::X) (⟨none,none,s1,p1⟩::⟨none,none,s2,p2⟩::Y):=.d (.k (.k (.d h)))
theorem ah.wZ (h:ah X Y):ah (e0::⟨t1,none,s1,p1⟩::e2::⟨t3,none,s3,p3⟩::X) (⟨none,none,s1,p1⟩::⟨none,none,s3,p3⟩::Y):=.d (.k (.d (.k h)))
theorem ah.nO (h:ah X Y):ah (e0::⟨t1,none,s1,p1⟩::e2::e3::X) (⟨none,none,s1,p1⟩::Y):=.d (.k (.d (.d h)))
theorem ah.wX (h:ah X Y):ah (e0::e1::⟨t2,none,s2,p2⟩::⟨t3,none,s3,p3⟩::X) (⟨none,none,s2,p2⟩::⟨none,none,s3,p3⟩::Y):=.d (.d (.k (.k h)))
theorem ah.nN (h:ah X Y):ah (e0::e1::⟨t2,none,s2,p2⟩::e3::X) (⟨none,none,s2,p2⟩::Y):=.d (.d (.k (.d h)))
theorem ah.ct (h:ah X Y):ah (e0::e1::e2::⟨t3,none,s3,p3⟩::X) (⟨none,none,s3,p3⟩::Y):=.d (.d (.d (.k h)))
theorem ah.bY (h:ah X Y):ah (e0::e1::e2::e3::X) (Y):=.d (.d (.d (.d h)))
variable {s4:Nat} {p4:Pred} {s5:Nat} {p5:Pred} {s6:Nat} {p6:Pred} {s7:Nat} {p7:Pred}
theorem ah.k8 {t4 t5 t6 t7:Option Nat} (h:ah X Y):ah (⟨t0,none,s0,p0⟩::⟨t1,none,s1,p1⟩::⟨t2,none,s2,p2⟩::⟨t3,none,s3,p3⟩::⟨t4,none,s4,p4⟩::⟨t5,none,s5,p5⟩::⟨t6,none,s6,p6⟩::⟨t7,none,s7,p7⟩::X) (⟨none,none,s0,p0⟩::⟨none,none,s1,p1⟩::⟨none,none,s2,p2⟩::⟨none,none,s3,p3⟩::⟨none,none,s4,p4⟩::⟨none,none,s5,p5⟩::⟨none,none,s6,p6⟩::⟨none,none,s7,p7⟩::Y):=.k (.k (.k (.k (.k (.k (.k (.k h)))))))
theorem ah.d8 {e4 e5 e6 e7:aD} (h:ah X Y):ah (e0::e1::e2::e3::e4::e5::e6::e7::X) (Y):=.d (.d (.d (.d (.d (.d (.d (.d h)))))))
variable {ne:List aD}
theorem fF.kk (h:fF ne X Y):fF ne (⟨none,none,s0,p0⟩::⟨none,none,s1,p1⟩::X) (⟨none,none,s0,p0⟩::⟨none,none,s1,p1⟩::Y):=.k (.k h)
theorem fF.aU (h:fF ne X Y):fF ne (⟨none,none,s0,p0⟩::⟨none,none,s1,p1⟩::⟨none,none,s2,p2⟩::X) (⟨none,none,s0,p0⟩::⟨none,none,s1,p1⟩::⟨none,none,s2,p2⟩::Y):=.k (.k (.k h))
theorem fF.af (h:fF ne X Y):fF ne (⟨none,none,s0,p0⟩::⟨none,none,s1,p1⟩::⟨none,none,s2,p2⟩::⟨none,none,s3,p3⟩::X) (⟨none,none,s0,p0⟩::⟨none,none,s1,p1⟩::⟨none,none,s2,p2⟩::⟨none,none,s3,p3⟩::Y):=.k (.k (.k (.k h)))
theorem fF.k8 (h:fF ne X Y):fF ne (⟨none,none,s0,p0⟩::⟨none,none,s1,p1⟩::⟨none,none,s2,p2⟩::⟨none,none,s3,p3⟩::⟨none,none,s4,p4⟩::⟨none,none,s5,p5⟩::⟨none,none,s6,p6⟩::⟨none,none,s7,p7⟩::X) (⟨none,none,s0,p0⟩::⟨none,none,s1,p1⟩::⟨none,none,s2,p2⟩::⟨none,none,s3,p3⟩::⟨none,none,s4,p4⟩::⟨none,none,s5,p5⟩::⟨none,none,s6,p6⟩::⟨none,none,s7,p7⟩::Y):=.k (.k (.k (.k (.k (.k (.k (.k h)))))))
theorem iF {α:Type} {l r:List α} (h:∀x∈r,x∈l):∃ks,kr ks l=r:=by
 induction r with
 |nil=>exact⟨[],rfl⟩
 |cons x r ih=>
  obtain⟨ks,hk⟩:=ih λy hy=>h y (List.mem_cons_of_mem _ hy)
  obtain⟨i,hi⟩:=List.mem_iff_getElem?.1 (h x (List.mem_cons_self ..))
  exact⟨i::ks,by unfold kr at *; rw[List.filterMap_cons,hi,hk]⟩
variable {G1:List aD}
theorem fF.strip {G:List aD} (h:fF ne G G1) (hn:(ne.all λe=>e.tag.isSome)=true):jC G1=G:=by
 induction h with
 |z=>
  unfold jC
  rw[List.filter_eq_nil_iff.2 λe he=>by
   have:=List.all_eq_true.1 hn e he
   cases ht:e.tag with
   |none=>rw[ht]at this; cases this
   |some i=>simp]
  rfl
 |k _ ih=>
  unfold jC at *
  rw[List.filter_cons_of_pos rfl,List.map_cons,ih]
 |t i _ ih=>
  unfold jC at *
  rw[List.filter_cons_of_pos rfl,List.map_cons,ih]
theorem ah.sub {G2:List aD} (h:ah G1 G2):∀e∈G2,e∈(G1.filter λe=>e.till.isNone).map pA:=by
 induction h with
 |z=>simp
 |k _ ih=>
  intro e he
  rw[List.filter_cons_of_pos rfl,List.map_cons]
  rcases List.mem_cons.1 he with rfl|he
  ·exact List.mem_cons_self ..
  ·exact List.mem_cons_of_mem _ (ih e he)
 |d _ ih=>
  intro e he
  rw[List.filter_cons]
  split
  ·exact List.mem_cons_of_mem _ (ih e he)
  ·exact ih e he
variable {nv V1:List Vr}
theorem kJ.strip {V:List Vr} (h:kJ nv V V1) (hn:(nv.all λx=>x.born.isSome)=true):jD V1=V:=by
 induction h with
 |z=>
  unfold jD
  rw[List.filter_eq_nil_iff.2 λe he=>by
   have:=List.all_eq_true.1 hn e he
   cases ht:e.born with
   |none=>rw[ht]at this; cases this
   |some i=>simp]
  rfl
 |k _ ih=>
  unfold jD at *
  rw[List.filter_cons_of_pos rfl,List.map_cons,ih]
  rfl
 |u _ _ _ ih=>
  unfold jD at *
  rw[List.filter_cons_of_pos rfl,List.map_cons,ih]
  rfl
theorem jQ.cont {st:List (Nat×Rel)} {c:Rel} (h:jQ st c):∀c0,cont (λ_=>true) c0 st=c:=by
 induction h with
 |o=>intro c0; rfl
 |c _ ih=>intro c0; exact ih _
theorem cx.sub {V2:List Vr} (h:cx V1 V2):∀x∈V2,x∈rY V1:=by
 unfold rY
 induction h with
 |z=>simp
 |k _ ih=>
  intro e he
  rw[List.filter_cons_of_pos rfl,List.map_cons]
  rcases List.mem_cons.1 he with rfl|he
  ·exact List.mem_cons_self ..
  ·exact List.mem_cons_of_mem _ (ih e he)
 |s hl _ ih=>
  intro e he
  rw[List.filter_cons_of_pos rfl,List.map_cons]
  rcases List.mem_cons.1 he with rfl|he
  ·refine List.mem_cons.2 (.inl ?_)
   unfold dR
   rw[hl.cont]
  ·exact List.mem_cons_of_mem _ (ih e he)
 |d _ ih=>
  intro e he
  rw[List.filter_cons]
  split
  ·exact List.mem_cons_of_mem _ (ih e he)
  ·exact ih e he
def fe (nv:List Vr) (A1:List Al) (ne:List aD):Bool:=(nv.all λx=>x.born.isSome)&&((A1.all λp=>p.tag.isSome)&&ne.all λe=>e.tag.isSome)
theorem xZ {A1:List Al} (h:fe nv A1 ne=true):oH A1=[]:=by
 unfold fe at h
 simp only[Bool.and_eq_true,List.all_eq_true]at h
 unfold oH
 refine List.filter_eq_nil_iff.2 λp hp=>?_
 have:=h.2.1 p hp
 cases ht:p.tag with
 |none=>rw[ht]at this; cases this
 |some i=>simp
def tr (P:Program) (N:Nat) (l:List Oper) (ms:List Nat) (V1:List Vr) (A1:List Al) (G1:List aD):Bool:=P.follows .mixedOrders&&(eI l.toArray&&(kf l==ms&&kE N l V1 A1 G1))
def nj (N:Nat) (l:List Oper) (ms:List Nat) (V1:List Vr) (A1:List Al) (G1:List aD):Bool:=bg l.length==ms&&kE N l V1 A1 G1
def jw (P:Program) (N:Nat) (l:List Oper) (ms:List Nat) (k:Nat) (V1:List Vr) (A1:List Al) (G1:List aD):Bool:=decide (0<k)&&(P.follows .mixedOrders&&(eI l.toArray&&(kf l==ms&&(mL ms k l.length&&(decide (k<=l.length)&&kE N (l.take k) V1 A1 G1)))))
def jx (N:Nat) (l:List Oper) (ms:List Nat) (k:Nat) (V1:List Vr) (A1:List Al) (G1:List aD):Bool:=bg l.length==ms&&(decide (k<=l.length)&&kE N (l.take k) V1 A1 G1)
def eO (P:Program) (ops:Array Oper):(Act->World->Prop)->List Oper->(Act->World->Prop)->Prop
 |K,[],K'=>K=K'
 |K,o::os,K'=>∃K1,(∀a w,K a w->aQ P ops o a w K1)/\eO P ops K1 os K'
section
variable {P:Program} {Q:Exit->Act->World->Prop} {c:bD} {V:List Vr} {G:List aD} {a:Act} {w:World}
theorem gV {ops:Array Oper} {K K2:Nat->Act->World->Prop}:∀{os:List Oper} {m m2:Nat},eP P ops K m os->(∀j,K2 (m2+j)=K (m+j))->eP P ops K2 m2 os
 |[],_,_,_,_=>trivial
 |o::os,m,m2,h,e=>by
  refine⟨λa w hk=>?_,gV h.2 λj=>by rw[Nat.add_assoc,Nat.add_assoc]; exact e (1+j)⟩
  have e0:=e 0
  have e1:=e 1
  rw[Nat.add_zero,Nat.add_zero]at e0
  rw[e0]at hk
  rw[e1]
  exact h.1 a w hk
theorem eO.steps {ops:Array Oper}:∀{os:List Oper} {K K':Act->World->Prop},eO P ops K os K'->∃F:Nat->Act->World->Prop,F 0=K/\F os.length=K'/\eP P ops F 0 os
 |[],K,K',h=>⟨λ_=>K,rfl,h,trivial⟩
 |o::os,K,K',⟨K1,h1,h2⟩=>by
  obtain⟨F,e0,e1,hs⟩:=eO.steps h2
  refine⟨λm=>match m with|0=>K|m+1=>F m,rfl,e1,λa w hk=>?_,gV hs λj=>?_⟩
  ·show aQ P ops o a w (F 0)
   rw[e0]
   exact h1 a w hk
  ·rw[show 0+1+j=j+1 by omega,Nat.zero_add]
variable {V1:List Vr} {A1:List Al} {G1:List aD}
theorem dG {V2:List Vr} {G2:List aD} {N:Nat} {l:List Oper} (hwf:kE N l V1 A1 G1=true) (kV:cx V1 V2) (kG:ah G1 G2) {a:Act} {w:World} (hI:Inv c V1 A1 G1 (λ_=>true) a w):Inv c V2 [] G2 none_ a w:=by
 obtain⟨kv,e1⟩:=iF kV.sub
 obtain⟨kg,e2⟩:=iF kG.sub
 exact hI.next kv kg (qL hwf) (vp hwf) e1 e2
theorem cS {nv:List Vr} {ne:List aD} (h:Inv c V [] G none_ a w) (hV:kJ nv V V1) (hG:fF ne G G1) (hn:fe nv A1 ne=true):Inv c V1 A1 G1 none_ a w:=by
 have hn':=hn
 unfold fe at hn'
 simp only[Bool.and_eq_true]at hn'
 exact h.enter (hV.strip hn'.1) (xZ hn) (hG.strip hn'.2.2)
end
end Wx
