import Derived.Test.YtfnmkhlleanppaaGreatDoorCWCSemRow
import Derived.Deep.AppendSrc
import Derived.Deep.Upon
namespace Wx
open Go Go.RowKit Go.Proofs Go.ChangeShapes Go.WideShapes Go.ChangeAt Go.Deep
section
variable {H:Type} {enc:TypeId×Value->H} {P:Program} {w:World}
end
end Wx

namespace Wx
open Go Go.RowKit Go.Proofs Go.ChangeShapes Go.WideShapes Go.ChangeAt Go.Deep
section
variable {H:Type} {enc:TypeId×Value->H} {P:Program} {w:World}
end
end Wx

namespace Wx
open Go Go.RowKit Go.Proofs
end Wx

namespace Wx
open Go Go.RowKit
def ik (P:Program) (ops:Array Oper) (K:Nat->Act->World->Prop):Nat->List Oper->Prop
 |_,[]=>True
 |m,o::os=>(∀a w,K m a w->aW P ops o a w (K (m+1)))/\ik P ops K (m+1) os
theorem ik.get {P:Program} {ops:Array Oper} {K:Nat->Act->World->Prop}:∀{os:List Oper} {m:Nat},ik P ops K m os->∀{j:Nat} {o:Oper},os[j]?=some o->∀a w,K (m+j) a w->aW P ops o a w (K (m+j+1)):=by
 intro os
 induction os with
 |nil=>intro m _ j o h; simp at h
 |cons o' os ih=>
  intro m hs j o h
  cases j with
  |zero=>simp at h; subst h; exact hs.1
  |succ j=>
   have:=ih hs.2 (j:=j) (o:=o) (by simpa using h)
   rw[show m+(j+1)=m+1+j by omega]
   exact this
def rJ (ms:List Nat) (k n:Nat):Bool:=(List.range n).all λi=>decide (i<k)||(List.range i).all λj=>(ms.getD i 0).testBit j
theorem eF {ms:List Nat} {k n i j:Nat} (h:rJ ms k n=true) (hi:i<n) (hk:k<=i) (hj:j<i):(ms.getD i 0).testBit j=true:=by
 unfold rJ at h
 rw[List.all_eq_true]at h
 have:=h i (by simpa using hi)
 rw[Bool.or_eq_true,decide_eq_true_eq,List.all_eq_true]at this
 rcases this with h1|h1
 ·omega
 ·exact h1 j (by simpa using hj)
section
variable {P:Program} {Q:Exit->Act->World->Prop} {c:bQ} {V:List Vr} {A:List Al} {G:List aN} {a:Act} {w:World}
theorem nx {N k:Nat} {l:List Oper} (h:nY N (l.take k) V A G=true) {i:Nat} {o:Oper} (hi:l[i]?=some o) (hk:i<k):gO N l.toArray V A G i o:=by
 have h1:=qy h (i:=i) (o:=o) (by rw[List.getElem?_take,if_pos hk]; exact hi)
 have hm:=eJ h
 refine⟨h1.sz,h1.sg,h1.aa,h1.g1,h1.g2,λe j he ht=>?_,h1.gu,h1.a1,h1.a2,h1.v1,h1.v2,h1.vk,h1.vb,h1.vs,h1.vu,h1.vo⟩
 have h2:=h1.g3 e j he ht
 rw[<-h2]
 simp only[mP,Bool.and_eq_true,List.all_eq_true]at hm
 have h3:=(hm.2 e he).1
 rw[ht]at h3
 simp only[jf,decide_eq_true_eq,List.length_take]at h3
 congr 1
 simp only[List.getElem?_toArray]
 rw[List.getElem?_take,if_pos (by omega)]
end
end Wx

namespace Wx
open Go Go.RowKit
inductive ic (ne:List aN):List aN->List aN->Prop
 |z:ic ne [] ne
 |k {s:Nat} {p:Pred} {G G1:List aN}:ic ne G G1->ic ne (⟨none,none,s,p⟩::G) (⟨none,none,s,p⟩::G1)
 |t {s:Nat} {p:Pred} {G G1:List aN} (i:Nat):ic ne G G1->ic ne (⟨none,none,s,p⟩::G) (⟨none,some i,s,p⟩::G1)
inductive aA:List aN->List aN->Prop
 |z:aA [] []
 |k {t:Option Nat} {s:Nat} {p:Pred} {G1 G2:List aN}:aA G1 G2->aA (⟨t,none,s,p⟩::G1) (⟨none,none,s,p⟩::G2)
 |d {e:aN} {G1 G2:List aN}:aA G1 G2->aA (e::G1) G2
inductive oa (nv:List Vr):List Vr->List Vr->Prop
 |z:oa nv [] nv
 |k {id s:Nat} {kd:Kd} {T:TypeId} {n:Nat} {ag:Bool} {c0:Rel} {V V1:List Vr}:oa nv V V1->oa nv (⟨id,s,none,none,kd,T,n,ag,c0,[]⟩::V) (⟨id,s,none,none,kd,T,n,ag,c0,[]⟩::V1)
 |u {id s:Nat} {kd:Kd} {T:TypeId} {n:Nat} {ag:Bool} {c0:Rel} {V V1:List Vr} (dead:Option Nat) (st:List (Nat×Rel)):oa nv V V1->oa nv (⟨id,s,none,none,kd,T,n,ag,c0,[]⟩::V) (⟨id,s,none,dead,kd,T,n,ag,c0,st⟩::V1)
inductive nZ:List (Nat×Rel)->Rel->Prop
 |o {i:Nat} {c:Rel}:nZ [(i,c)] c
 |c {x:Nat×Rel} {l:List (Nat×Rel)} {c:Rel}:nZ l c->nZ (x::l) c
inductive dA:List Vr->List Vr->Prop
 |z:dA [] []
 |k {id s:Nat} {b:Option Nat} {kd:Kd} {T:TypeId} {n:Nat} {ag:Bool} {c0:Rel} {V1 V2:List Vr}:dA V1 V2->dA (⟨id,s,b,none,kd,T,n,ag,c0,[]⟩::V1) (⟨s,s,none,none,kd,T,n,ag,c0,[]⟩::V2)
 |s {id s:Nat} {b:Option Nat} {kd:Kd} {T:TypeId} {n:Nat} {ag:Bool} {c0 c1:Rel} {st:List (Nat×Rel)} {V1 V2:List Vr}:nZ st c1->dA V1 V2->dA (⟨id,s,b,none,kd,T,n,ag,c0,st⟩::V1) (⟨s,s,none,none,kd,T,n,ag,c1,[]⟩::V2)
 |d {x:Vr} {V1 V2:List Vr}:dA V1 V2->dA (x::V1) V2
variable {t0:Option Nat} {s0:Nat} {p0:Pred} {t1:Option Nat} {s1:Nat} {p1:Pred} {X Y:List aN}
theorem aA.kk (h:aA X Y):aA (⟨t0,none,s0,p0⟩::⟨t1,none,s1,p1⟩::X) (⟨none,none,s0,p0⟩::⟨none,none,s1,p1⟩::Y):=.k (.k h)
variable {e1:aN}
theorem aA.kd (h:aA X Y):aA (⟨t0,none,s0,p0⟩::e1::X) (⟨none,none,s0,p0⟩::Y):=.k (.d h)
variable {e0:aN}
theorem aA.dk (h:aA X Y):aA (e0::⟨t1,none,s1,p1⟩::X) (⟨none,none,s1,p1⟩::Y):=.d (.k h)
theorem aA.dd (h:aA X Y):aA (e0::e1::X) (Y):=.d (.d h)
variable {t2:Option Nat} {s2:Nat} {p2:Pred}
theorem aA.aU (h:aA X Y):aA (⟨t0,none,s0,p0⟩::⟨t1,none,s1,p1⟩::⟨t2,none,s2,p2⟩::X) (⟨none,none,s0,p0⟩::⟨none,none,s1,p1⟩::⟨none,none,s2,p2⟩::Y):=.k (.k (.k h))
theorem aA.nP (h:aA X Y):aA (⟨t0,none,s0,p0⟩::e1::⟨t2,none,s2,p2⟩::X) (⟨none,none,s0,p0⟩::⟨none,none,s2,p2⟩::Y):=.k (.d (.k h))
theorem aA.xA (h:aA X Y):aA (e0::⟨t1,none,s1,p1⟩::⟨t2,none,s2,p2⟩::X) (⟨none,none,s1,p1⟩::⟨none,none,s2,p2⟩::Y):=.d (.k (.k h))
variable {e2:aN}
theorem aA.LW (h:aA X Y):aA (e0::⟨t1,none,s1,p1⟩::e2::X) (⟨none,none,s1,p1⟩::Y):=.d (.k (.d h))
theorem aA.eC (h:aA X Y):aA (e0::e1::⟨t2,none,s2,p2⟩::X) (⟨none,none,s2,p2⟩::Y):=.d (.d (.k h))
theorem aA.Gr (h:aA X Y):aA (e0::e1::e2::X) (Y):=.d (.d (.d h))
variable {t3:Option Nat} {s3:Nat} {p3:Pred}
theorem aA.af (h:aA X Y):aA (⟨t0,none,s0,p0⟩::⟨t1,none,s1,p1⟩::⟨t2,none,s2,p2⟩::⟨t3,none,s3,p3⟩::X) (⟨none,none,s0,p0⟩::⟨none,none,s1,p1⟩::⟨none,none,s2,p2⟩::⟨none,none,s3,p3⟩::Y):=.k (.k (.k (.k h)))
variable {e3:aN}
theorem aA.bj (h:aA X Y):aA (⟨t0,none,s0,p0⟩::⟨t1,none,s1,p1⟩::⟨t2,none,s2,p2⟩::e3::X) (⟨none,none,s0,p0⟩::⟨none,none,s1,p1⟩::⟨none,none,s2,p2⟩::Y):=.k (.k (.k (.d h)))
theorem aA.bS (h:aA X Y):aA (⟨t0,none,s0,p0⟩::⟨t1,none,s1,p1⟩::e2::⟨t3,none,s3,p3⟩::X) (⟨none,none,s0,p0⟩::⟨none,none,s1,p1⟩::⟨none,none,s3,p3⟩::Y):=.k (.k (.d (.k h)))
theorem aA.bK (h:aA X Y):aA (⟨t0,none,s0,p0⟩::⟨t1,none,s1,p1⟩::e2::e3::X) (⟨none,none,s0,p0⟩::⟨none,none,s1,p1⟩::Y):=.k (.k (.d (.d h)))
theorem aA.mI (h:aA X Y):aA (⟨t0,none,s0,p0⟩::e1::⟨t2,none,s2,p2⟩::⟨t3,none,s3,p3⟩::X) (⟨none,none,s0,p0⟩::⟨none,none,s2,p2⟩::⟨none,none,s3,p3⟩::Y):=.k (.d (.k (.k h)))
theorem aA.pP (h:aA X Y):aA (⟨t0,none,s0,p0⟩::e1::⟨t2,none,s2,p2⟩::e3::X) (⟨none,none,s0,p0⟩::⟨none,none,s2,p2⟩::Y):=.k (.d (.k (.d h)))
theorem aA.gS (h:aA X Y):aA (⟨t0,none,s0,p0⟩::e1::e2::⟨t3,none,s3,p3⟩::X) (⟨none,none,s0,p0⟩::⟨none,none,s3,p3⟩::Y):=.k (.d (.d (.k h)))
theorem aA.gE (h:aA X Y):aA (⟨t0,none,s0,p0⟩::e1::e2::e3::X) (⟨none,none,s0,p0⟩::Y):=.k (.d (.d (.d h)))
theorem aA.qV (h:aA X Y):aA (e0::⟨t1,none,s1,p1⟩::⟨t2,none,s2,p2⟩::⟨t3,none,s3,p3⟩::X) (⟨none,none,s1,p1⟩::⟨none,none,s2,p2⟩::⟨none,none,s3,p3⟩::Y):=.d (.k (.k (.k h)))
theorem aA.po (h:aA X Y):aA (e0::⟨t1,none,s1,p1⟩::⟨t2,none,s2,p2⟩::e3::X) (⟨none,none,s1,p1⟩::⟨none,none,s2,p2⟩::Y):=.d (.k (.k (.d h)))
theorem aA.vD (h:aA X Y):aA (e0::⟨t1,none,s1,p1⟩::e2::⟨t3,none,s3,p3⟩::X) (⟨none,none,s1,p1⟩::⟨none,none,s3,p3⟩::Y):=.d (.k (.d (.k h)))
theorem aA.lG (h:aA X Y):aA (e0::⟨t1,none,s1,p1⟩::e2::e3::X) (⟨none,none,s1,p1⟩::Y):=.d (.k (.d (.d h)))
theorem aA.AO (h:aA X Y):aA (e0::e1::⟨t2,none,s2,p2⟩::⟨t3,none,s3,p3⟩::X) (⟨none,none,s2,p2⟩::⟨none,none,s3,p3⟩::Y):=.d (.d (.k (.k h)))
theorem aA.qR (h:aA X Y):aA (e0::e1::⟨t2,none,s2,p2⟩::e3::X) (⟨none,none,s2,p2⟩::Y):=.d (.d (.k (.d h)))
theorem aA.cf (h:aA X Y):aA (e0::e1::e2::⟨t3,none,s3,p3⟩::X) (⟨none,none,s3,p3⟩::Y):=.d (.d (.d (.k h)))
theorem aA.bp (h:aA X Y):aA (e0::e1::e2::e3::X) (Y):=.d (.d (.d (.d h)))
variable {s4:Nat} {p4:Pred} {s5:Nat} {p5:Pred} {s6:Nat} {p6:Pred} {s7:Nat} {p7:Pred}
theorem aA.k8 {t4 t5 t6 t7:Option Nat} (h:aA X Y):aA (⟨t0,none,s0,p0⟩::⟨t1,none,s1,p1⟩::⟨t2,none,s2,p2⟩::⟨t3,none,s3,p3⟩::⟨t4,none,s4,p4⟩::⟨t5,none,s5,p5⟩::⟨t6,none,s6,p6⟩::⟨t7,none,s7,p7⟩::X) (⟨none,none,s0,p0⟩::⟨none,none,s1,p1⟩::⟨none,none,s2,p2⟩::⟨none,none,s3,p3⟩::⟨none,none,s4,p4⟩::⟨none,none,s5,p5⟩::⟨none,none,s6,p6⟩::⟨none,none,s7,p7⟩::Y):=.k (.k (.k (.k (.k (.k (.k (.k h)))))))
theorem aA.d8 {e4 e5 e6 e7:aN} (h:aA X Y):aA (e0::e1::e2::e3::e4::e5::e6::e7::X) (Y):=.d (.d (.d (.d (.d (.d (.d (.d h)))))))
variable {ne:List aN}
theorem ic.kk (h:ic ne X Y):ic ne (⟨none,none,s0,p0⟩::⟨none,none,s1,p1⟩::X) (⟨none,none,s0,p0⟩::⟨none,none,s1,p1⟩::Y):=.k (.k h)
theorem ic.aU (h:ic ne X Y):ic ne (⟨none,none,s0,p0⟩::⟨none,none,s1,p1⟩::⟨none,none,s2,p2⟩::X) (⟨none,none,s0,p0⟩::⟨none,none,s1,p1⟩::⟨none,none,s2,p2⟩::Y):=.k (.k (.k h))
theorem ic.af (h:ic ne X Y):ic ne (⟨none,none,s0,p0⟩::⟨none,none,s1,p1⟩::⟨none,none,s2,p2⟩::⟨none,none,s3,p3⟩::X) (⟨none,none,s0,p0⟩::⟨none,none,s1,p1⟩::⟨none,none,s2,p2⟩::⟨none,none,s3,p3⟩::Y):=.k (.k (.k (.k h)))
theorem ic.k8 (h:ic ne X Y):ic ne (⟨none,none,s0,p0⟩::⟨none,none,s1,p1⟩::⟨none,none,s2,p2⟩::⟨none,none,s3,p3⟩::⟨none,none,s4,p4⟩::⟨none,none,s5,p5⟩::⟨none,none,s6,p6⟩::⟨none,none,s7,p7⟩::X) (⟨none,none,s0,p0⟩::⟨none,none,s1,p1⟩::⟨none,none,s2,p2⟩::⟨none,none,s3,p3⟩::⟨none,none,s4,p4⟩::⟨none,none,s5,p5⟩::⟨none,none,s6,p6⟩::⟨none,none,s7,p7⟩::Y):=.k (.k (.k (.k (.k (.k (.k (.k h)))))))
theorem lC {α:Type} {l r:List α} (h:∀x∈r,x∈l):∃ks,oD ks l=r:=by
 induction r with
 |nil=>exact⟨[],rfl⟩
 |cons x r ih=>
  obtain⟨ks,hk⟩:=ih λy hy=>h y (List.mem_cons_of_mem _ hy)
  obtain⟨i,hi⟩:=List.mem_iff_getElem?.1 (h x (List.mem_cons_self ..))
  exact⟨i::ks,by unfold oD at *; rw[List.filterMap_cons,hi,hk]⟩
variable {G1:List aN}
theorem ic.strip {G:List aN} (h:ic ne G G1) (hn:(ne.all λe=>e.tag.isSome)=true):nu G1=G:=by
 induction h with
 |z=>
  unfold nu
  rw[List.filter_eq_nil_iff.2 λe he=>by
   have:=List.all_eq_true.1 hn e he
   cases ht:e.tag with
   |none=>rw[ht]at this; cases this
   |some i=>simp]
  rfl
 |k _ ih=>
  unfold nu at *
  rw[List.filter_cons_of_pos rfl,List.map_cons,ih]
 |t i _ ih=>
  unfold nu at *
  rw[List.filter_cons_of_pos rfl,List.map_cons,ih]
theorem aA.sub {G2:List aN} (h:aA G1 G2):∀e∈G2,e∈(G1.filter λe=>e.till.isNone).map uU:=by
 induction h with
 |z=>simp
 |k _ ih=>
  intro e he
  rw[List.filter_cons_of_pos rfl,List.map_cons]
  rcases List.mem_cons.1 he with rfl|he
  ·exact List.mem_cons_self ..
  ·exact List.mem_cons_of_mem _ (ih e he)
 |d _ ih=>
  intro e he
  rw[List.filter_cons]
  split
  ·exact List.mem_cons_of_mem _ (ih e he)
  ·exact ih e he
variable {nv V1:List Vr}
theorem oa.strip {V:List Vr} (h:oa nv V V1) (hn:(nv.all λx=>x.born.isSome)=true):nw V1=V:=by
 induction h with
 |z=>
  unfold nw
  rw[List.filter_eq_nil_iff.2 λe he=>by
   have:=List.all_eq_true.1 hn e he
   cases ht:e.born with
   |none=>rw[ht]at this; cases this
   |some i=>simp]
  rfl
 |k _ ih=>
  unfold nw at *
  rw[List.filter_cons_of_pos rfl,List.map_cons,ih]
  rfl
 |u _ _ _ ih=>
  unfold nw at *
  rw[List.filter_cons_of_pos rfl,List.map_cons,ih]
  rfl
theorem nZ.cont {st:List (Nat×Rel)} {c:Rel} (h:nZ st c):∀c0,cont (λ_=>true) c0 st=c:=by
 induction h with
 |o=>intro c0; rfl
 |c _ ih=>intro c0; exact ih _
theorem dA.sub {V2:List Vr} (h:dA V1 V2):∀x∈V2,x∈yu V1:=by
 unfold yu
 induction h with
 |z=>simp
 |k _ ih=>
  intro e he
  rw[List.filter_cons_of_pos rfl,List.map_cons]
  rcases List.mem_cons.1 he with rfl|he
  ·exact List.mem_cons_self ..
  ·exact List.mem_cons_of_mem _ (ih e he)
 |s hl _ ih=>
  intro e he
  rw[List.filter_cons_of_pos rfl,List.map_cons]
  rcases List.mem_cons.1 he with rfl|he
  ·refine List.mem_cons.2 (.inl ?_)
   unfold gb
   rw[hl.cont]
  ·exact List.mem_cons_of_mem _ (ih e he)
 |d _ ih=>
  intro e he
  rw[List.filter_cons]
  split
  ·exact List.mem_cons_of_mem _ (ih e he)
  ·exact ih e he
def gH (nv:List Vr) (A1:List Al) (ne:List aN):Bool:=(nv.all λx=>x.born.isSome)&&((A1.all λp=>p.tag.isSome)&&ne.all λe=>e.tag.isSome)
theorem EW {A1:List Al} (h:gH nv A1 ne=true):tX A1=[]:=by
 unfold gH at h
 simp only[Bool.and_eq_true,List.all_eq_true]at h
 unfold tX
 refine List.filter_eq_nil_iff.2 λp hp=>?_
 have:=h.2.1 p hp
 cases ht:p.tag with
 |none=>rw[ht]at this; cases this
 |some i=>simp
def sn (P:Program) (N:Nat) (l:List Oper) (ms:List Nat) (V1:List Vr) (A1:List Al) (G1:List aN):Bool:=P.follows .mixedOrders&&(gV l.toArray&&(ox l==ms&&nY N l V1 A1 G1))
def sr (N:Nat) (l:List Oper) (ms:List Nat) (V1:List Vr) (A1:List Al) (G1:List aN):Bool:=bM l.length==ms&&nY N l V1 A1 G1
def ng (P:Program) (N:Nat) (l:List Oper) (ms:List Nat) (k:Nat) (V1:List Vr) (A1:List Al) (G1:List aN):Bool:=decide (0<k)&&(P.follows .mixedOrders&&(gV l.toArray&&(ox l==ms&&(rJ ms k l.length&&(decide (k<=l.length)&&nY N (l.take k) V1 A1 G1)))))
def nh (N:Nat) (l:List Oper) (ms:List Nat) (k:Nat) (V1:List Vr) (A1:List Al) (G1:List aN):Bool:=bM l.length==ms&&(decide (k<=l.length)&&nY N (l.take k) V1 A1 G1)
def gL (P:Program) (ops:Array Oper):(Act->World->Prop)->List Oper->(Act->World->Prop)->Prop
 |K,[],K'=>K=K'
 |K,o::os,K'=>∃K1,(∀a w,K a w->aW P ops o a w K1)/\gL P ops K1 os K'
section
variable {P:Program} {Q:Exit->Act->World->Prop} {c:bQ} {V:List Vr} {G:List aN} {a:Act} {w:World}
theorem kz {ops:Array Oper} {K K2:Nat->Act->World->Prop}:∀{os:List Oper} {m m2:Nat},ik P ops K m os->(∀j,K2 (m2+j)=K (m+j))->ik P ops K2 m2 os
 |[],_,_,_,_=>trivial
 |o::os,m,m2,h,e=>by
  refine⟨λa w hk=>?_,kz h.2 λj=>by rw[Nat.add_assoc,Nat.add_assoc]; exact e (1+j)⟩
  have e0:=e 0
  have e1:=e 1
  rw[Nat.add_zero,Nat.add_zero]at e0
  rw[e0]at hk
  rw[e1]
  exact h.1 a w hk
theorem gL.steps {ops:Array Oper}:∀{os:List Oper} {K K':Act->World->Prop},gL P ops K os K'->∃F:Nat->Act->World->Prop,F 0=K/\F os.length=K'/\ik P ops F 0 os
 |[],K,K',h=>⟨λ_=>K,rfl,h,trivial⟩
 |o::os,K,K',⟨K1,h1,h2⟩=>by
  obtain⟨F,e0,e1,hs⟩:=gL.steps h2
  refine⟨λm=>match m with|0=>K|m+1=>F m,rfl,e1,λa w hk=>?_,kz hs λj=>?_⟩
  ·show aW P ops o a w (F 0)
   rw[e0]
   exact h1 a w hk
  ·rw[show 0+1+j=j+1 by omega,Nat.zero_add]
variable {V1:List Vr} {A1:List Al} {G1:List aN}
theorem eY {V2:List Vr} {G2:List aN} {N:Nat} {l:List Oper} (hwf:nY N l V1 A1 G1=true) (kV:dA V1 V2) (kG:aA G1 G2) {a:Act} {w:World} (hI:Inv c V1 A1 G1 (λ_=>true) a w):Inv c V2 [] G2 none_ a w:=by
 obtain⟨kv,e1⟩:=lC kV.sub
 obtain⟨kg,e2⟩:=lC kG.sub
 exact hI.next kv kg (wR hwf) (Cp hwf) e1 e2
theorem dS {nv:List Vr} {ne:List aN} (h:Inv c V [] G none_ a w) (hV:oa nv V V1) (hG:ic ne G G1) (hn:gH nv A1 ne=true):Inv c V1 A1 G1 none_ a w:=by
 have hn':=hn
 unfold gH at hn'
 simp only[Bool.and_eq_true]at hn'
 exact h.enter (hV.strip hn'.1) (EW hn) (hG.strip hn'.2.2)
end
end Wx

namespace Wx
open Go Go.RowKit
section
variable {P:Program} {ops:Array Oper} {ms:List Nat} {c:bQ} {V:List Vr} {A:List Al} {G:List aN} {i:Nat} {L:Nat->Bool} {β:Nat->Nat->Prop} {a:Act} {w:World} {o:Oper}{d:Nat} {x y z:Operand} {ty:TypeId} {pos:String} {aft:Array Edge}
theorem aQ.ni (h:aQ c V A G L β a w) (hd:iY ms i L) (hwf:gO c.N ops V A G i o) {y:Vr} (hy:y∈V) (Hv:y.born=some i) (hst:dO o.op=false) (A8:fJ o.op=false) (hal:(A.all λp=>p.var != y.id||p.tag.any λj=>(ms.getD j 0).testBit i)=true)
  {v':Value} {w':World} {B':Nat->Prop} (e0:w'.os=w.os/\w'.tape=w.tape/\w'.output=w.output/\w.heap.size<=w'.heap.size)
  (e1:∀k,k<c.w0.heap.size->¬c.dc k->w'.heap[k]?=w.heap[k]?)
  (e2:∀z,z∈V->live L z=true->z.dead≠some i->∀k,β z.id k->w'.heap[k]?=w.heap[k]?/\¬B' k)
  (e3:Ext (own c V L β) w w') (e4:∀z,z∈V->live L z=true->z.dead≠some i->Ext (minus (own c V L β) (β z.id)) w w')
  (e5:∀k j,k<w.heap.size->B' k->y.lo<=j->own c V L β k j)
  (Me:∀β',β' y.id=B'->(∀k j,k<w.heap.size->own c V (upd L i) β' k j->own c V L β k j)->(∀k j,own c V (upd L i) β' k j->(B' k/\y.lo<=j)\/c.M0 k j\/∃z,z∈V/\live L z=true/\z.dead≠some i/\β z.id k)->iq (own c V (upd L i) β') c (upd L i) β' (a.put o.dst v') w' y)
  (hG:∀β',β' y.id=B'->(∀k j,k<w.heap.size->own c V (upd L i) β' k j->own c V L β k j)->(∀k j,own c V (upd L i) β' k j->(B' k/\y.lo<=j)\/c.M0 k j\/∃z,z∈V/\live L z=true/\z.dead≠some i/\β z.id k)->∀e,e∈G->e.tag=some i->aJ (own c V (upd L i) β') (λw=>e.p w v') w'):
  Inv c V A G (upd L i) (a.put o.dst v') w':=by
 have gD:=hwf.v2 y hy Hv
 have nV:∀z,z∈V->z.id≠y.id->z.born≠some i:=λz hz hne hb=>hne (by rw[hwf.vo z y hz hy hb Hv])
 -- who Lp on
 have lv:∀z,z∈V->z.id≠y.id->live (upd L i) z=true->live L z=true/\z.dead≠some i:=by
  intro z hz hne hl
  unfold live at hl ⊢
  rw[bY (nV z hz hne),Bool.and_eq_true]at hl
  obtain⟨h1,h2⟩:=gT hl.2
  exact⟨by rw[hl.1,h1]; rfl,h2⟩
 have nS:∀z,z∈V->z.id≠y.id->z.dead≠some i->o.dst≠some z.slot:=λz hz hne lq hd'=>(hwf.v1 z hz hd').elim (nV z hz hne) lq
 have uX:∀z,z∈V->∀q,q∈z.st->q.1≠i:=λz hz q hq Ho=>by have:=hwf.vs z hz q hq Ho; rw[hst]at this; cases this
 let β':Nat->Nat->Prop:=λs=>if s=y.id then B' else β s
 have hβ:∀z,z∈V->z.id≠y.id->β' z.id=β z.id:=λz _ hne=>if_neg hne
 have F1:β' y.id=B':=if_pos rfl
 have fl:∀k j,k<w.heap.size->own c V (upd L i) β' k j->own c V L β k j:=by
  rintro k j hk (h1|⟨z,hz,h1,h2,h3⟩)
  ·exact .inl h1
  ·by_cases rD:z.id=y.id
   ·have:=hwf.vu z y hz hy rD
    subst this
    rw[F1]at h2
    exact e5 k j hk h2 h3
   ·rw[hβ z hz rD]at h2
    exact .inr ⟨z,hz,(lv z hz rD h1).1,h2,h3⟩
 have HY:∀k j,own c V (upd L i) β' k j->(B' k/\y.lo<=j)\/c.M0 k j\/∃z,z∈V/\live L z=true/\z.dead≠some i/\β z.id k:=by
  rintro k j (h1|⟨z,hz,h1,h2,h3⟩)
  ·exact .inr (.inl h1)
  ·by_cases rD:z.id=y.id
   ·have:=hwf.vu z y hz hy rD
    subst this
    rw[F1]at h2
    exact .inl ⟨h2,h3⟩
   ·rw[hβ z hz rD]at h2
    obtain⟨k1,k2⟩:=lv z hz rD h1
    exact .inr (.inr ⟨z,hz,k1,k2,h2⟩)
 have lift:∀F:World->Prop,aJ (own c V L β) F w->aJ (own c V (upd L i) β') F w':=λF hF w'' he=>by
  refine hF w'' ⟨Nat.le_trans e0.2.2.2 he.size,λk hk hno=>?_,λk j v hno hv=>?_⟩
  ·rw[he.block k (Nat.lt_of_lt_of_le hk e0.2.2.2) λj h'=>hno j (fl k j hk h')]
   exact e3.block k hk hno
  ·have hk:=World.block_lt_of_cell? w _ hv
   exact he.cell k j v (λh'=>hno (fl k j hk h')) (e3.cell k j v hno hv)
 have yL:∀z,z∈V->live L z=true->z.dead≠some i->∀F:World->Prop,aJ (minus (own c V L β) (β z.id)) F w->aJ (minus (own c V (upd L i) β') (β z.id)) F w':=λz hz hl lq F hF w'' he=>by
  have e:=e4 z hz hl lq
  refine hF w'' ⟨Nat.le_trans e0.2.2.2 he.size,λk hk hno=>?_,λk j v hno hv=>?_⟩
  ·rw[he.block k (Nat.lt_of_lt_of_le hk e0.2.2.2) λj h'=>hno j ⟨fl k j hk h'.1,h'.2⟩]
   exact e.block k hk hno
  ·have hk:=World.block_lt_of_cell? w _ hv
   exact he.cell k j v (λh'=>hno ⟨fl k j hk h'.1,h'.2⟩) (e.cell k j v hno hv)
 refine⟨β',by rw[fc]; exact h.size,by rw[put_defers]; exact h.defers,⟨e0.1.trans h.below.os,e0.2.1.trans h.below.tape,e0.2.2.1.trans h.below.output,Nat.le_trans h.below.size e0.2.2.2,λk hk hn=>(e1 k hk hn).trans (h.below.block k hk hn)⟩,h.iK e1,?_,?_,?_,?_⟩
 ·intro z hz hl
  by_cases rD:z.id=y.id
  ·have:=hwf.vu z y hz hy rD
   subst this
   exact Me β' F1 fl HY
  ·obtain⟨hl,lq⟩:=lv z hz rD hl
   exact(h.var z hz hl).keep (bG (nS z hz rD lq)) (hβ z hz rD) (λg hg=>(e2 z hz hl lq g hg).1) e0.2.2.2 lift (yL z hz hl lq) (gy (uX z hz))
 ·intro z z' g hz At h1 h2 hne
  by_cases rD:z.id=y.id
  ·have vR:z'.id≠y.id:=λe=>hne (rD.trans e.symm)
   obtain⟨h2,FV⟩:=lv z' At vR h2
   rw[rD,F1,hβ z' At vR]
   exactλk1 k2=>(e2 z' At h2 FV g k2).2 k1
  ·obtain⟨h1,JB⟩:=lv z hz rD h1
   rw[hβ z hz rD]
   by_cases vR:z'.id=y.id
   ·rw[vR,F1]
    exactλk1 k2=>(e2 z hz h1 JB g k1).2 k2
   ·rw[hβ z' At vR]
    exact h.apart z z' g hz At h1 (lv z' At vR h2).1 hne
 ·intro p hp hl hcd
  have wY:p.tag≠some i:=λe=>by have:=hwf.aa p hp e; rw[A8]at this; cases this
  rw[bY wY]at hl
  obtain⟨g,hg,yg⟩:=h.al p hp hl hcd
  rw[bG λe=>wY (hwf.a1 p hp e),yg]
  have hne:p.var≠y.id:=by
   intro e
   rw[List.all_eq_true]at hal
   have h1:=hal p hp
   rw[e]at h1
   simp only[bne_self_eq_false,Bool.false_or]at h1
   cases ht:p.tag with
   |none=>rw[ht]at h1; simp at h1
   |some j=>
    rw[ht]at h1 hl
    have:=hd.behind j (by simpa using h1)
    simp only[on,this]at hl
    cases hl
  exact⟨g,by simpa [β',hne] using hg,rfl⟩
 ·intro e he hl hf
  obtain⟨hf,A4⟩:=gT hf
  by_cases ht:e.tag=some i
  ·have hd':=hwf.g2 e he ht
   rw[hd',dr (by rw[h.size]; exact hwf.sz _ hd')]
   exact hG β' F1 fl HY e he ht
  ·rw[bY ht]at hl
   rw[bG λhd'=>(hwf.g1 e he hd').elim ht A4]
   exact lift _ (h.ew e he hl hf)
end
end Wx
