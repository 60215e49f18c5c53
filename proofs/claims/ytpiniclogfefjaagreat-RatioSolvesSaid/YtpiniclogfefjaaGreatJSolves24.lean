import Derived.Test.YtpiniclogfefjaaGreatJSolves23
namespace Wx
open Go Go.RowKit

inductive MkE (ne:List Ent):List Ent→List Ent→Prop
 |z:MkE ne [] ne
 |k {s:Nat} {p:Qg} {G G1:List Ent}:MkE ne G G1→MkE ne (⟨none,none,s,p⟩::G) (⟨none,none,s,p⟩::G1)
 |t {s:Nat} {p:Qg} {G G1:List Ent} (i:Nat):MkE ne G G1→MkE ne (⟨none,none,s,p⟩::G) (⟨none,some i,s,p⟩::G1)
inductive KeepE:List Ent→List Ent→Prop
 |z:KeepE [] []
 |k {t:Option Nat} {s:Nat} {p:Qg} {G1 G2:List Ent}:KeepE G1 G2→KeepE (⟨t,none,s,p⟩::G1) (⟨none,none,s,p⟩::G2)
 |d {e:Ent} {G1 G2:List Ent}:KeepE G1 G2→KeepE (e::G1) G2
inductive MkV (nv:List Vr):List Vr→List Vr→Prop
 |z:MkV nv [] nv
 |k {id s:Nat} {kd:Kd} {T:TypeId} {n:Nat} {ag:Bool} {c0:Zz} {V V1:List Vr}:MkV nv V V1→MkV nv (⟨id,s,none,none,kd,T,n,ag,c0,[]⟩::V) (⟨id,s,none,none,kd,T,n,ag,c0,[]⟩::V1)
 |u {id s:Nat} {kd:Kd} {T:TypeId} {n:Nat} {ag:Bool} {c0:Zz} {V V1:List Vr} (dead:Option Nat) (st:List (Nat×Zz)):MkV nv V V1→MkV nv (⟨id,s,none,none,kd,T,n,ag,c0,[]⟩::V) (⟨id,s,none,dead,kd,T,n,ag,c0,st⟩::V1)
inductive LastS:List (Nat×Zz)→Zz→Prop
 |o {i:Nat} {c:Zz}:LastS [(i,c)] c
 |c {x:Nat×Zz} {l:List (Nat×Zz)} {c:Zz}:LastS l c→LastS (x::l) c
inductive KeepV:List Vr→List Vr→Prop
 |z:KeepV [] []
 |k {id s:Nat} {b:Option Nat} {kd:Kd} {T:TypeId} {n:Nat} {ag:Bool} {c0:Zz} {V1 V2:List Vr}:KeepV V1 V2→KeepV (⟨id,s,b,none,kd,T,n,ag,c0,[]⟩::V1) (⟨s,s,none,none,kd,T,n,ag,c0,[]⟩::V2)
 |s {id s:Nat} {b:Option Nat} {kd:Kd} {T:TypeId} {n:Nat} {ag:Bool} {c0 c1:Zz} {st:List (Nat×Zz)} {V1 V2:List Vr}:LastS st c1→KeepV V1 V2→KeepV (⟨id,s,b,none,kd,T,n,ag,c0,st⟩::V1) (⟨s,s,none,none,kd,T,n,ag,c1,[]⟩::V2)
 |d {x:Vr} {V1 V2:List Vr}:KeepV V1 V2→KeepV (x::V1) V2
theorem KeepE.kk {t0:Option Nat} {s0:Nat} {p0:Qg} {t1:Option Nat} {s1:Nat} {p1:Qg} {X Y:List Ent} (h:KeepE X Y):KeepE (⟨t0,none,s0,p0⟩::⟨t1,none,s1,p1⟩::X) (⟨none,none,s0,p0⟩::⟨none,none,s1,p1⟩::Y):=.k (.k h)
theorem KeepE.kd {t0:Option Nat} {s0:Nat} {p0:Qg} {e1:Ent} {X Y:List Ent} (h:KeepE X Y):KeepE (⟨t0,none,s0,p0⟩::e1::X) (⟨none,none,s0,p0⟩::Y):=.k (.d h)
theorem KeepE.dk {e0:Ent} {t1:Option Nat} {s1:Nat} {p1:Qg} {X Y:List Ent} (h:KeepE X Y):KeepE (e0::⟨t1,none,s1,p1⟩::X) (⟨none,none,s1,p1⟩::Y):=.d (.k h)
theorem KeepE.dd {e0:Ent} {e1:Ent} {X Y:List Ent} (h:KeepE X Y):KeepE (e0::e1::X) (Y):=.d (.d h)
theorem KeepE.kkk {t0:Option Nat} {s0:Nat} {p0:Qg} {t1:Option Nat} {s1:Nat} {p1:Qg} {t2:Option Nat} {s2:Nat} {p2:Qg} {X Y:List Ent} (h:KeepE X Y):KeepE (⟨t0,none,s0,p0⟩::⟨t1,none,s1,p1⟩::⟨t2,none,s2,p2⟩::X) (⟨none,none,s0,p0⟩::⟨none,none,s1,p1⟩::⟨none,none,s2,p2⟩::Y):=.k (.k (.k h))
theorem KeepE.kkd {t0:Option Nat} {s0:Nat} {p0:Qg} {t1:Option Nat} {s1:Nat} {p1:Qg} {e2:Ent} {X Y:List Ent} (h:KeepE X Y):KeepE (⟨t0,none,s0,p0⟩::⟨t1,none,s1,p1⟩::e2::X) (⟨none,none,s0,p0⟩::⟨none,none,s1,p1⟩::Y):=.k (.k (.d h))
theorem KeepE.kdk {t0:Option Nat} {s0:Nat} {p0:Qg} {e1:Ent} {t2:Option Nat} {s2:Nat} {p2:Qg} {X Y:List Ent} (h:KeepE X Y):KeepE (⟨t0,none,s0,p0⟩::e1::⟨t2,none,s2,p2⟩::X) (⟨none,none,s0,p0⟩::⟨none,none,s2,p2⟩::Y):=.k (.d (.k h))
theorem KeepE.kdd {t0:Option Nat} {s0:Nat} {p0:Qg} {e1:Ent} {e2:Ent} {X Y:List Ent} (h:KeepE X Y):KeepE (⟨t0,none,s0,p0⟩::e1::e2::X) (⟨none,none,s0,p0⟩::Y):=.k (.d (.d h))
theorem KeepE.dkk {e0:Ent} {t1:Option Nat} {s1:Nat} {p1:Qg} {t2:Option Nat} {s2:Nat} {p2:Qg} {X Y:List Ent} (h:KeepE X Y):KeepE (e0::⟨t1,none,s1,p1⟩::⟨t2,none,s2,p2⟩::X) (⟨none,none,s1,p1⟩::⟨none,none,s2,p2⟩::Y):=.d (.k (.k h))
theorem KeepE.ddk {e0:Ent} {e1:Ent} {t2:Option Nat} {s2:Nat} {p2:Qg} {X Y:List Ent} (h:KeepE X Y):KeepE (e0::e1::⟨t2,none,s2,p2⟩::X) (⟨none,none,s2,p2⟩::Y):=.d (.d (.k h))
theorem KeepE.ddd {e0:Ent} {e1:Ent} {e2:Ent} {X Y:List Ent} (h:KeepE X Y):KeepE (e0::e1::e2::X) (Y):=.d (.d (.d h))
theorem KeepE.kkkk {t0:Option Nat} {s0:Nat} {p0:Qg} {t1:Option Nat} {s1:Nat} {p1:Qg} {t2:Option Nat} {s2:Nat} {p2:Qg} {t3:Option Nat} {s3:Nat} {p3:Qg} {X Y:List Ent} (h:KeepE X Y):KeepE (⟨t0,none,s0,p0⟩::⟨t1,none,s1,p1⟩::⟨t2,none,s2,p2⟩::⟨t3,none,s3,p3⟩::X) (⟨none,none,s0,p0⟩::⟨none,none,s1,p1⟩::⟨none,none,s2,p2⟩::⟨none,none,s3,p3⟩::Y):=.k (.k (.k (.k h)))
theorem KeepE.kkkd {t0:Option Nat} {s0:Nat} {p0:Qg} {t1:Option Nat} {s1:Nat} {p1:Qg} {t2:Option Nat} {s2:Nat} {p2:Qg} {e3:Ent} {X Y:List Ent} (h:KeepE X Y):KeepE (⟨t0,none,s0,p0⟩::⟨t1,none,s1,p1⟩::⟨t2,none,s2,p2⟩::e3::X) (⟨none,none,s0,p0⟩::⟨none,none,s1,p1⟩::⟨none,none,s2,p2⟩::Y):=.k (.k (.k (.d h)))
theorem KeepE.kkdk {t0:Option Nat} {s0:Nat} {p0:Qg} {t1:Option Nat} {s1:Nat} {p1:Qg} {e2:Ent} {t3:Option Nat} {s3:Nat} {p3:Qg} {X Y:List Ent} (h:KeepE X Y):KeepE (⟨t0,none,s0,p0⟩::⟨t1,none,s1,p1⟩::e2::⟨t3,none,s3,p3⟩::X) (⟨none,none,s0,p0⟩::⟨none,none,s1,p1⟩::⟨none,none,s3,p3⟩::Y):=.k (.k (.d (.k h)))
theorem KeepE.kkdd {t0:Option Nat} {s0:Nat} {p0:Qg} {t1:Option Nat} {s1:Nat} {p1:Qg} {e2:Ent} {e3:Ent} {X Y:List Ent} (h:KeepE X Y):KeepE (⟨t0,none,s0,p0⟩::⟨t1,none,s1,p1⟩::e2::e3::X) (⟨none,none,s0,p0⟩::⟨none,none,s1,p1⟩::Y):=.k (.k (.d (.d h)))
theorem KeepE.kdkk {t0:Option Nat} {s0:Nat} {p0:Qg} {e1:Ent} {t2:Option Nat} {s2:Nat} {p2:Qg} {t3:Option Nat} {s3:Nat} {p3:Qg} {X Y:List Ent} (h:KeepE X Y):KeepE (⟨t0,none,s0,p0⟩::e1::⟨t2,none,s2,p2⟩::⟨t3,none,s3,p3⟩::X) (⟨none,none,s0,p0⟩::⟨none,none,s2,p2⟩::⟨none,none,s3,p3⟩::Y):=.k (.d (.k (.k h)))
theorem KeepE.kdkd {t0:Option Nat} {s0:Nat} {p0:Qg} {e1:Ent} {t2:Option Nat} {s2:Nat} {p2:Qg} {e3:Ent} {X Y:List Ent} (h:KeepE X Y):KeepE (⟨t0,none,s0,p0⟩::e1::⟨t2,none,s2,p2⟩::e3::X) (⟨none,none,s0,p0⟩::⟨none,none,s2,p2⟩::Y):=.k (.d (.k (.d h)))
theorem KeepE.kddk {t0:Option Nat} {s0:Nat} {p0:Qg} {e1:Ent} {e2:Ent} {t3:Option Nat} {s3:Nat} {p3:Qg} {X Y:List Ent} (h:KeepE X Y):KeepE (⟨t0,none,s0,p0⟩::e1::e2::⟨t3,none,s3,p3⟩::X) (⟨none,none,s0,p0⟩::⟨none,none,s3,p3⟩::Y):=.k (.d (.d (.k h)))
theorem KeepE.kddd {t0:Option Nat} {s0:Nat} {p0:Qg} {e1:Ent} {e2:Ent} {e3:Ent} {X Y:List Ent} (h:KeepE X Y):KeepE (⟨t0,none,s0,p0⟩::e1::e2::e3::X) (⟨none,none,s0,p0⟩::Y):=.k (.d (.d (.d h)))
theorem KeepE.dkkk {e0:Ent} {t1:Option Nat} {s1:Nat} {p1:Qg} {t2:Option Nat} {s2:Nat} {p2:Qg} {t3:Option Nat} {s3:Nat} {p3:Qg} {X Y:List Ent} (h:KeepE X Y):KeepE (e0::⟨t1,none,s1,p1⟩::⟨t2,none,s2,p2⟩::⟨t3,none,s3,p3⟩::X) (⟨none,none,s1,p1⟩::⟨none,none,s2,p2⟩::⟨none,none,s3,p3⟩::Y):=.d (.k (.k (.k h)))
theorem KeepE.dkkd {e0:Ent} {t1:Option Nat} {s1:Nat} {p1:Qg} {t2:Option Nat} {s2:Nat} {p2:Qg} {e3:Ent} {X Y:List Ent} (h:KeepE X Y):KeepE (e0::⟨t1,none,s1,p1⟩::⟨t2,none,s2,p2⟩::e3::X) (⟨none,none,s1,p1⟩::⟨none,none,s2,p2⟩::Y):=.d (.k (.k (.d h)))
theorem KeepE.dkdk {e0:Ent} {t1:Option Nat} {s1:Nat} {p1:Qg} {e2:Ent} {t3:Option Nat} {s3:Nat} {p3:Qg} {X Y:List Ent} (h:KeepE X Y):KeepE (e0::⟨t1,none,s1,p1⟩::e2::⟨t3,none,s3,p3⟩::X) (⟨none,none,s1,p1⟩::⟨none,none,s3,p3⟩::Y):=.d (.k (.d (.k h)))
theorem KeepE.dkdd {e0:Ent} {t1:Option Nat} {s1:Nat} {p1:Qg} {e2:Ent} {e3:Ent} {X Y:List Ent} (h:KeepE X Y):KeepE (e0::⟨t1,none,s1,p1⟩::e2::e3::X) (⟨none,none,s1,p1⟩::Y):=.d (.k (.d (.d h)))
theorem KeepE.ddkk {e0:Ent} {e1:Ent} {t2:Option Nat} {s2:Nat} {p2:Qg} {t3:Option Nat} {s3:Nat} {p3:Qg} {X Y:List Ent} (h:KeepE X Y):KeepE (e0::e1::⟨t2,none,s2,p2⟩::⟨t3,none,s3,p3⟩::X) (⟨none,none,s2,p2⟩::⟨none,none,s3,p3⟩::Y):=.d (.d (.k (.k h)))
theorem KeepE.ddkd {e0:Ent} {e1:Ent} {t2:Option Nat} {s2:Nat} {p2:Qg} {e3:Ent} {X Y:List Ent} (h:KeepE X Y):KeepE (e0::e1::⟨t2,none,s2,p2⟩::e3::X) (⟨none,none,s2,p2⟩::Y):=.d (.d (.k (.d h)))
theorem KeepE.dddk {e0:Ent} {e1:Ent} {e2:Ent} {t3:Option Nat} {s3:Nat} {p3:Qg} {X Y:List Ent} (h:KeepE X Y):KeepE (e0::e1::e2::⟨t3,none,s3,p3⟩::X) (⟨none,none,s3,p3⟩::Y):=.d (.d (.d (.k h)))
theorem KeepE.dddd {e0:Ent} {e1:Ent} {e2:Ent} {e3:Ent} {X Y:List Ent} (h:KeepE X Y):KeepE (e0::e1::e2::e3::X) (Y):=.d (.d (.d (.d h)))
theorem KeepE.k8 {t0:Option Nat} {s0:Nat} {p0:Qg} {t1:Option Nat} {s1:Nat} {p1:Qg} {t2:Option Nat} {s2:Nat} {p2:Qg} {t3:Option Nat} {s3:Nat} {p3:Qg} {t4:Option Nat} {s4:Nat} {p4:Qg} {t5:Option Nat} {s5:Nat} {p5:Qg} {t6:Option Nat} {s6:Nat} {p6:Qg} {t7:Option Nat} {s7:Nat} {p7:Qg} {X Y:List Ent} (h:KeepE X Y):KeepE (⟨t0,none,s0,p0⟩::⟨t1,none,s1,p1⟩::⟨t2,none,s2,p2⟩::⟨t3,none,s3,p3⟩::⟨t4,none,s4,p4⟩::⟨t5,none,s5,p5⟩::⟨t6,none,s6,p6⟩::⟨t7,none,s7,p7⟩::X) (⟨none,none,s0,p0⟩::⟨none,none,s1,p1⟩::⟨none,none,s2,p2⟩::⟨none,none,s3,p3⟩::⟨none,none,s4,p4⟩::⟨none,none,s5,p5⟩::⟨none,none,s6,p6⟩::⟨none,none,s7,p7⟩::Y):=.k (.k (.k (.k (.k (.k (.k (.k h)))))))
theorem KeepE.d8 {e0:Ent} {e1:Ent} {e2:Ent} {e3:Ent} {e4:Ent} {e5:Ent} {e6:Ent} {e7:Ent} {X Y:List Ent} (h:KeepE X Y):KeepE (e0::e1::e2::e3::e4::e5::e6::e7::X) (Y):=.d (.d (.d (.d (.d (.d (.d (.d h)))))))
theorem MkE.kk {ne:List Ent} {s0:Nat} {p0:Qg} {s1:Nat} {p1:Qg} {X Y:List Ent} (h:MkE ne X Y):MkE ne (⟨none,none,s0,p0⟩::⟨none,none,s1,p1⟩::X) (⟨none,none,s0,p0⟩::⟨none,none,s1,p1⟩::Y):=.k (.k h)
theorem MkE.kkk {ne:List Ent} {s0:Nat} {p0:Qg} {s1:Nat} {p1:Qg} {s2:Nat} {p2:Qg} {X Y:List Ent} (h:MkE ne X Y):MkE ne (⟨none,none,s0,p0⟩::⟨none,none,s1,p1⟩::⟨none,none,s2,p2⟩::X) (⟨none,none,s0,p0⟩::⟨none,none,s1,p1⟩::⟨none,none,s2,p2⟩::Y):=.k (.k (.k h))
theorem MkE.kkkk {ne:List Ent} {s0:Nat} {p0:Qg} {s1:Nat} {p1:Qg} {s2:Nat} {p2:Qg} {s3:Nat} {p3:Qg} {X Y:List Ent} (h:MkE ne X Y):MkE ne (⟨none,none,s0,p0⟩::⟨none,none,s1,p1⟩::⟨none,none,s2,p2⟩::⟨none,none,s3,p3⟩::X) (⟨none,none,s0,p0⟩::⟨none,none,s1,p1⟩::⟨none,none,s2,p2⟩::⟨none,none,s3,p3⟩::Y):=.k (.k (.k (.k h)))
theorem MkE.k8 {ne:List Ent} {s0:Nat} {p0:Qg} {s1:Nat} {p1:Qg} {s2:Nat} {p2:Qg} {s3:Nat} {p3:Qg} {s4:Nat} {p4:Qg} {s5:Nat} {p5:Qg} {s6:Nat} {p6:Qg} {s7:Nat} {p7:Qg} {X Y:List Ent} (h:MkE ne X Y):MkE ne (⟨none,none,s0,p0⟩::⟨none,none,s1,p1⟩::⟨none,none,s2,p2⟩::⟨none,none,s3,p3⟩::⟨none,none,s4,p4⟩::⟨none,none,s5,p5⟩::⟨none,none,s6,p6⟩::⟨none,none,s7,p7⟩::X) (⟨none,none,s0,p0⟩::⟨none,none,s1,p1⟩::⟨none,none,s2,p2⟩::⟨none,none,s3,p3⟩::⟨none,none,s4,p4⟩::⟨none,none,s5,p5⟩::⟨none,none,s6,p6⟩::⟨none,none,s7,p7⟩::Y):=.k (.k (.k (.k (.k (.k (.k (.k h)))))))
theorem Qdf {α:Type} {l r:List α} (h:∀x∈r,x∈l):∃ks,Ug ks l=r:=by
 induction r with
 |nil=>exact⟨[],rfl⟩
 |cons x r ih=>
  obtain⟨ks,hk⟩:=ih fun y hy=>h y (List.mem_cons_of_mem _ hy)
  obtain⟨i,hi⟩:=List.mem_iff_getElem?.1 (h x (List.mem_cons_self ..))
  exact⟨i::ks,by unfold Ug at *; rw[List.filterMap_cons,hi,hk]⟩
theorem MkE.strip {ne G G1:List Ent} (h:MkE ne G G1) (hn:(ne.all fun e=>e.tag.isSome)=true):Qbc G1=G:=by
 induction h with
 |z=>
  unfold Qbc
  rw[List.filter_eq_nil_iff.2 fun e he=>by
   have:=List.all_eq_true.1 hn e he
   cases ht:e.tag with
   |none=>rw[ht]at this; cases this
   |some i=>simp]
  rfl
 |k _ ih=>
  unfold Qbc at *
  rw[List.filter_cons_of_pos rfl,List.map_cons,ih]
 |t i _ ih=>
  unfold Qbc at *
  rw[List.filter_cons_of_pos rfl,List.map_cons,ih]
theorem KeepE.sub {G1 G2:List Ent} (h:KeepE G1 G2):∀e∈G2,e∈(G1.filter fun e=>e.till.isNone).map Qc5:=by
 induction h with
 |z=>simp
 |k _ ih=>
  intro e he
  rw[List.filter_cons_of_pos rfl,List.map_cons]
  rcases List.mem_cons.1 he with rfl|he
  ·exact List.mem_cons_self ..
  ·exact List.mem_cons_of_mem _ (ih e he)
 |d _ ih=>
  intro e he
  rw[List.filter_cons]
  split
  ·exact List.mem_cons_of_mem _ (ih e he)
  ·exact ih e he
theorem MkV.strip {nv V V1:List Vr} (h:MkV nv V V1) (hn:(nv.all fun x=>x.born.isSome)=true):Qbd V1=V:=by
 induction h with
 |z=>
  unfold Qbd
  rw[List.filter_eq_nil_iff.2 fun e he=>by
   have:=List.all_eq_true.1 hn e he
   cases ht:e.born with
   |none=>rw[ht]at this; cases this
   |some i=>simp]
  rfl
 |k _ ih=>
  unfold Qbd at *
  rw[List.filter_cons_of_pos rfl,List.map_cons,ih]
  rfl
 |u _ _ _ ih=>
  unfold Qbd at *
  rw[List.filter_cons_of_pos rfl,List.map_cons,ih]
  rfl
theorem LastS.cont {st:List (Nat×Zz)} {c:Zz} (h:LastS st c):∀c0,cont (fun _=>true) c0 st=c:=by
 induction h with
 |o=>intro c0; rfl
 |c _ ih=>intro c0; exact ih _
theorem KeepV.sub {V1 V2:List Vr} (h:KeepV V1 V2):∀x∈V2,x∈keptV V1:=by
 unfold keptV
 induction h with
 |z=>simp
 |k _ ih=>
  intro e he
  rw[List.filter_cons_of_pos rfl,List.map_cons]
  rcases List.mem_cons.1 he with rfl|he
  ·exact List.mem_cons_self ..
  ·exact List.mem_cons_of_mem _ (ih e he)
 |s hl _ ih=>
  intro e he
  rw[List.filter_cons_of_pos rfl,List.map_cons]
  rcases List.mem_cons.1 he with rfl|he
  ·refine List.mem_cons.2 (.inl ?_)
   unfold Qb6
   rw[hl.cont]
  ·exact List.mem_cons_of_mem _ (ih e he)
 |d _ ih=>
  intro e he
  rw[List.filter_cons]
  split
  ·exact List.mem_cons_of_mem _ (ih e he)
  ·exact ih e he
def Ul (nv:List Vr) (A1:List Al) (ne:List Ent):Bool:=(nv.all fun x=>x.born.isSome)&&((A1.all fun p=>p.tag.isSome)&&ne.all fun e=>e.tag.isSome)
theorem newB_A {nv:List Vr} {A1:List Al} {ne:List Ent} (h:Ul nv A1 ne=true):Qdn A1=[]:=by
 unfold Ul at h
 simp only[Bool.and_eq_true,List.all_eq_true]at h
 unfold Qdn
 refine List.filter_eq_nil_iff.2 fun p hp=>?_
 have:=h.2.1 p hp
 cases ht:p.tag with
 |none=>rw[ht]at this; cases this
 |some i=>simp
def regDB (P:Program) (N:Nat) (l:List Oper) (ms:List Nat) (V1:List Vr) (A1:List Al) (G1:List Ent):Bool:=P.follows .mixedOrders&&(Qb2 l.toArray&&(masks l==ms&&wfB N l V1 A1 G1))
def regTB (N:Nat) (l:List Oper) (ms:List Nat) (V1:List Vr) (A1:List Al) (G1:List Ent):Bool:=Y7 l.length==ms&&wfB N l V1 A1 G1
def regSDB (P:Program) (N:Nat) (l:List Oper) (ms:List Nat) (k:Nat) (V1:List Vr) (A1:List Al) (G1:List Ent):Bool:=decide (0<k)&&(P.follows .mixedOrders&&(Qb2 l.toArray&&(masks l==ms&&(lastB ms k l.length&&(decide (k≤l.length)&&wfB N (l.take k) V1 A1 G1)))))
def regSTB (N:Nat) (l:List Oper) (ms:List Nat) (k:Nat) (V1:List Vr) (A1:List Al) (G1:List Ent):Bool:=Y7 l.length==ms&&(decide (k≤l.length)&&wfB N (l.take k) V1 A1 G1)
def ChainK (P:Program) (ops:Array Oper):(Act→World→Prop)→List Oper→(Act→World→Prop)→Prop
 |K,[],K'=>K=K'
 |K,o::os,K'=>∃K1,(∀a w,K a w→DoesG P ops o a w K1)∧ChainK P ops K1 os K'
section
variable {P:Program} {Q:Exit→Act→World→Prop} {c:Cfg} {V:List Vr} {G:List Ent} {a:Act} {w:World}
theorem Qhy {ops:Array Oper} {K K2:Nat→Act→World→Prop}:∀{os:List Oper} {m m2:Nat},StepsK P ops K m os→(∀j,K2 (m2+j)=K (m+j))→StepsK P ops K2 m2 os
 |[],_,_,_,_=>trivial
 |o::os,m,m2,h,e=>by
  refine⟨fun a w hk=>?_,Qhy h.2 fun j=>by rw[Nat.add_assoc,Nat.add_assoc]; exact e (1+j)⟩
  have e0:=e 0
  have e1:=e 1
  rw[Nat.add_zero,Nat.add_zero]at e0
  rw[e0]at hk
  rw[e1]
  exact h.1 a w hk
theorem ChainK.steps {ops:Array Oper}:∀{os:List Oper} {K K':Act→World→Prop},ChainK P ops K os K'→∃F:Nat→Act→World→Prop,F 0=K∧F os.length=K'∧StepsK P ops F 0 os
 |[],K,K',h=>⟨fun _=>K,rfl,h,trivial⟩
 |o::os,K,K',⟨K1,h1,h2⟩=>by
  obtain⟨F,e0,e1,hs⟩:=ChainK.steps h2
  refine⟨fun m=>match m with|0=>K|m+1=>F m,rfl,e1,fun a w hk=>?_,Qhy hs fun j=>?_⟩
  ·show DoesG P ops o a w (F 0)
   rw[e0]
   exact h1 a w hk
  ·rw[show 0+1+j=j+1 by omega,Nat.zero_add]
theorem chain_ex {ops:Array Oper} {o:Oper} {Λ:Type} {C:Λ→Prop} {J J':Λ→Act→World→Prop} (h:∀l,C l→∀a w,J l a w→DoesG P ops o a w (J' l)) (hm:∀{a w} {K K':Act→World→Prop},DoesG P ops o a w K→(∀a w,K a w→K' a w)→DoesG P ops o a w K'):∀a w,(∃l,C l∧J l a w)→DoesG P ops o a w (fun a w=>∃l,C l∧J' l a w):=
 fun a w ⟨l,hC,hJ⟩=>hm (h l hC a w hJ) fun _ _ h=>⟨l,hC,h⟩
theorem Qgn {V1 V2:List Vr} {A1:List Al} {G1 G2:List Ent} {N:Nat} {l:List Oper} (hwf:wfB N l V1 A1 G1=true) (kV:KeepV V1 V2) (kG:KeepE G1 G2) {a:Act} {w:World} (hI:Inv c V1 A1 G1 (fun _=>true) a w):Inv c V2 [] G2 Qf a w:=by
 obtain⟨kv,e1⟩:=Qdf kV.sub
 obtain⟨kg,e2⟩:=Qdf kG.sub
 exact hI.next kv kg (Qfr hwf) (wfB_ids hwf) e1 e2
theorem Qfk {V1:List Vr} {A1:List Al} {G1:List Ent} {nv:List Vr} {ne:List Ent} (h:Inv c V [] G Qf a w) (hV:MkV nv V V1) (hG:MkE ne G G1) (hn:Ul nv A1 ne=true):Inv c V1 A1 G1 Qf a w:=by
 have hn':=hn
 unfold Ul at hn'
 simp only[Bool.and_eq_true]at hn'
 exact h.enter (hV.strip hn'.1) (newB_A hn) (hG.strip hn'.2.2)
theorem sem_D {id:Nat} {l:List Oper} {V1 V2:List Vr} {G1 G2:List Ent} (h:Inv c V [] G Qf a w) (nv:List Vr) (A1:List Al) (ne:List Ent) (hV:MkV nv V V1) (hG:MkE ne G G1) (hn:Ul nv A1 ne=true)
  (ms:List Nat) (hb:regDB P c.N l ms V1 A1 G1=true) (hs:Oks P l.toArray ms c V1 A1 G1 0 l) (kV:KeepV V1 V2) (kG:KeepE G1 G2) (hk:∀a w,Inv c V2 [] G2 Qf a w→Q .normal a w):(Code.region id l.toArray true).wp P Q a w:=by
 unfold regDB at hb
 simp only[Bool.and_eq_true,beq_iff_eq]at hb
 obtain⟨hm,hok,hms,hwf⟩:=hb
 exact Qhq ms hm hok hms hwf (Qfk h hV hG hn) hs fun a w hI=>hk a w (Qgn hwf kV kG hI)
theorem sem_T {id:Nat} {l:List Oper} {V1 V2:List Vr} {G1 G2:List Ent} (h:Inv c V [] G Qf a w) (nv:List Vr) (A1:List Al) (ne:List Ent) (hV:MkV nv V V1) (hG:MkE ne G G1) (hn:Ul nv A1 ne=true)
  (ms:List Nat) (hb:regTB c.N l ms V1 A1 G1=true) (hs:Oks P l.toArray ms c V1 A1 G1 0 l) (kV:KeepV V1 V2) (kG:KeepE G1 G2) (hk:∀a w,Inv c V2 [] G2 Qf a w→Q .normal a w):(Code.region id l.toArray false).wp P Q a w:=by
 unfold regTB at hb
 simp only[Bool.and_eq_true,beq_iff_eq]at hb
 obtain⟨hms,hwf⟩:=hb
 exact Qil hwf (Qfk h hV hG hn) (by rw[hms]; exact hs) fun a w hI=>hk a w (Qgn hwf kV kG hI)
theorem seq_D {id:Nat} {l:List Oper} {V1 V2:List Vr} {G1 G2:List Ent} {y:Code} (h:Inv c V [] G Qf a w) (nv:List Vr) (A1:List Al) (ne:List Ent) (hV:MkV nv V V1) (hG:MkE ne G G1) (hn:Ul nv A1 ne=true)
  (ms:List Nat) (hb:regDB P c.N l ms V1 A1 G1=true) (hs:Oks P l.toArray ms c V1 A1 G1 0 l) (kV:KeepV V1 V2) (kG:KeepE G1 G2) (hk:∀a w,Inv c V2 [] G2 Qf a w→y.wp P Q a w):(Code.seq (Code.region id l.toArray true) y).wp P Q a w:=
 wp_seq (sem_D h nv A1 ne hV hG hn ms hb hs kV kG hk)
theorem seq_T {id:Nat} {l:List Oper} {V1 V2:List Vr} {G1 G2:List Ent} {y:Code} (h:Inv c V [] G Qf a w) (nv:List Vr) (A1:List Al) (ne:List Ent) (hV:MkV nv V V1) (hG:MkE ne G G1) (hn:Ul nv A1 ne=true)
  (ms:List Nat) (hb:regTB c.N l ms V1 A1 G1=true) (hs:Oks P l.toArray ms c V1 A1 G1 0 l) (kV:KeepV V1 V2) (kG:KeepE G1 G2) (hk:∀a w,Inv c V2 [] G2 Qf a w→y.wp P Q a w):(Code.seq (Code.region id l.toArray false) y).wp P Q a w:=
 wp_seq (sem_T h nv A1 ne hV hG hn ms hb hs kV kG hk)
theorem sem_SD {id:Nat} {l:List Oper} {V1 V2:List Vr} {G1 G2:List Ent} {K K':Act→World→Prop} (h:Inv c V [] G Qf a w) (nv:List Vr) (A1:List Al) (ne:List Ent) (hV:MkV nv V V1) (hG:MkE ne G G1) (hn:Ul nv A1 ne=true)
  (ms:List Nat) (k:Nat) (hb:regSDB P c.N l ms k V1 A1 G1=true) (hs:Oks P l.toArray ms c V1 A1 G1 0 (l.take k)) (kV:KeepV V1 V2) (kG:KeepE G1 G2) (hK:∀a w,Inv c V2 [] G2 Qf a w→K a w) (hst:ChainK P l.toArray K (l.drop k) K') (hq:∀a w,K' a w→Q .normal a w):(Code.region id l.toArray true).wp P Q a w:=by
 unfold regSDB at hb
 simp only[Bool.and_eq_true,beq_iff_eq]at hb
 obtain⟨hk0,hm,hok,hms,hlast,hkn,hwf⟩:=hb
 obtain⟨F,e0,e1,hF⟩:=hst.steps
 refine region_split ms k (of_decide_eq_true hk0) hm hok hms hlast hkn hwf (Qfk h hV hG hn) hs F (fun a w hI=>by rw[e0]; exact hK a w (Qgn hwf kV kG hI)) hF fun a w hI=>hq a w ?_
 rw[← e1,List.length_drop]
 exact hI
theorem sem_ST {id:Nat} {l:List Oper} {V1 V2:List Vr} {G1 G2:List Ent} {K K':Act→World→Prop} (h:Inv c V [] G Qf a w) (nv:List Vr) (A1:List Al) (ne:List Ent) (hV:MkV nv V V1) (hG:MkE ne G G1) (hn:Ul nv A1 ne=true)
  (ms:List Nat) (k:Nat) (hb:regSTB c.N l ms k V1 A1 G1=true) (hs:Oks P l.toArray ms c V1 A1 G1 0 (l.take k)) (kV:KeepV V1 V2) (kG:KeepE G1 G2) (hK:∀a w,Inv c V2 [] G2 Qf a w→K a w) (hst:ChainK P l.toArray K (l.drop k) K') (hq:∀a w,K' a w→Q .normal a w):(Code.region id l.toArray false).wp P Q a w:=by
 unfold regSTB at hb
 simp only[Bool.and_eq_true,beq_iff_eq]at hb
 obtain⟨hms,hkn,hwf⟩:=hb
 obtain⟨F,e0,e1,hF⟩:=hst.steps
 refine region_splitT k hkn hwf (Qfk h hV hG hn) (by rw[hms]; exact hs) F (fun a w hI=>by rw[e0]; exact hK a w (Qgn hwf kV kG hI)) hF fun a w hI=>hq a w ?_
 rw[← e1,List.length_drop]
 exact hI
theorem Vz {id:Nat} {l:List Oper} {y:Code} {V1 V2:List Vr} {G1 G2:List Ent} {K K':Act→World→Prop} (h:Inv c V [] G Qf a w) (nv:List Vr) (A1:List Al) (ne:List Ent) (hV:MkV nv V V1) (hG:MkE ne G G1) (hn:Ul nv A1 ne=true)
  (ms:List Nat) (k:Nat) (hb:regSTB c.N l ms k V1 A1 G1=true) (hs:Oks P l.toArray ms c V1 A1 G1 0 (l.take k)) (kV:KeepV V1 V2) (kG:KeepE G1 G2) (hK:∀a w,Inv c V2 [] G2 Qf a w→K a w) (hst:ChainK P l.toArray K (l.drop k) K') (hq:∀a w,K' a w→y.wp P Q a w):(Code.seq (Code.region id l.toArray false) y).wp P Q a w:=
 wp_seq (sem_ST h nv A1 ne hV hG hn ms k hb hs kV kG hK hst hq)
end
end Wx

namespace Wx
open Go Go.RowKit

def takeF:List Fd→Nat→Option (List Fd)
 |[],n=>match Nat.beq n 0 with
  |true=>some []
  |false=>none
 |⟨ag,m,p⟩::fs,n=>match Nat.beq n 0 with
  |true=>some []
  |false=>match Nat.ble m n with
   |true=>match takeF fs (Nat.sub n m)with
    |some l=>some (⟨ag,m,p⟩::l)
    |none=>none
   |false=>none
def subF:List Fd→Nat→Nat→Option (List Fd)
 |[],_,n=>takeF [] n
 |⟨ag,m,p⟩::fs,off,n=>match Nat.beq off 0 with
  |true=>takeF (⟨ag,m,p⟩::fs) n
  |false=>match Nat.ble m off with
   |true=>subF fs (Nat.sub off m) n
   |false=>none
def oneP:Bool→Option (List Fd)→Option Qg
 |true,some [⟨true,_,p⟩]=>some p
 |true,some l=>some (pS l)
 |false,some [⟨false,_,p⟩]=>some p
 |_,_=>none
theorem takeF_ok:∀{fs:List Fd} {n:Nat} {l:List Fd} {w:World} {cs:List Value},takeF fs n=some l→Zc fs w cs→Zc l w (cs.take n)∧n≤cs.length:=by
 intro fs
 induction fs with
 |nil=>
  intro n l w cs h hc
  unfold takeF at h
  split at h
  ·rename_i hb; have hb:=Nat.eq_of_beq_eq_true hb; subst hb; cases h; exact⟨rfl,Nat.zero_le _⟩
  ·cases h
 |cons f fs ih=>
  intro n l w cs h hc
  obtain⟨ag,m,p⟩:=f
  unfold takeF at h
  split at h
  ·rename_i hb; have hb:=Nat.eq_of_beq_eq_true hb; subst hb; cases h; exact⟨rfl,Nat.zero_le _⟩
  ·split at h
   ·rename_i hm
    have hm:=Nat.le_of_ble_eq_true hm
    split at h
    ·rename_i l' hl
     cases h
     obtain⟨h1,h2,h3⟩:=hc
     obtain⟨k1,k2⟩:=ih hl h3
     simp only[List.length_drop]at k2 h1
     have k2:n-m≤cs.length-m:=k2
     refine⟨⟨?_,?_,?_⟩,by omega⟩
     ·show m≤(cs.take n).length; rw[List.length_take]; omega
     ·show p w (Xd ag ((cs.take n).take m)); rw[List.take_take,Nat.min_eq_left hm]; exact h2
     ·show Zc l' w ((cs.take n).drop m); rw[List.drop_take]; exact k1
    ·cases h
   ·cases h
theorem subF_ok:∀{fs:List Fd} {off n:Nat} {l:List Fd} {w:World} {cs:List Value},subF fs off n=some l→Zc fs w cs→Zc l w ((cs.drop off).take n)∧n+off≤cs.length+(if n=0 then off else 0):=by
 intro fs
 induction fs with
 |nil=>
  intro off n l w cs h hc
  have hn:n=0:=by
   unfold subF takeF at h
   split at h
   ·rename_i hb; exact Nat.eq_of_beq_eq_true hb
   ·cases h
  subst hn
  have:cs=[]:=hc
  subst this
  have h:takeF [] 0=some l:=h
  cases h
  simp[Zc]
 |cons f fs ih=>
  intro off n l w cs h hc
  obtain⟨ag,m,p⟩:=f
  unfold subF at h
  split at h
  ·rename_i hb; have hb:=Nat.eq_of_beq_eq_true hb; subst hb
   obtain⟨k1,k2⟩:=takeF_ok h hc
   exact⟨by rw[List.drop_zero]; exact k1,by omega⟩
  ·split at h
   ·rename_i hm
    have hm:=Nat.le_of_ble_eq_true hm
    obtain⟨h1,h2,h3⟩:=hc
    obtain⟨k1,k2⟩:=ih h h3
    rw[List.drop_drop]at k1
    have e:m+Nat.sub off m=off:=by show m+(off-m)=off; omega
    rw[show(({ agg:=ag,n:=m,p:=p }:Fd).n+Nat.sub off m)=off from e]at k1
    refine⟨k1,?_⟩
    rw[List.length_drop]at k2
    have h1:m≤cs.length:=h1
    have k2:n+(off-m)≤cs.length-m+(if n=0 then off-m else 0):=k2
    split at k2<;>rename_i hn
    ·rw[if_pos hn]; omega
    ·rw[if_neg hn]; omega
   ·cases h
theorem oneP_ok {ag:Bool} {l:List Fd} {q:Qg} {w:World} {ds:List Value} (h:oneP ag (some l)=some q) (hc:Zc l w ds):q w (Xd ag ds):=by
 unfold oneP at h
 split at h
 ·rename_i _ e
  cases h
  cases e
  obtain⟨h1,h2,h3⟩:=hc
  have h3:ds.drop _=[]:=h3
  have:ds.take _=ds:=List.take_of_length_le (List.drop_eq_nil_iff.1 h3)
  rw[this]at h2
  exact h2
 ·rename_i _ e
  cases h
  cases e
  exact⟨ds,rfl,hc⟩
 ·rename_i _ e
  cases h
  cases e
  obtain⟨h1,h2,h3⟩:=hc
  have h3:ds.drop _=[]:=h3
  have:ds.take _=ds:=List.take_of_length_le (List.drop_eq_nil_iff.1 h3)
  rw[this]at h2
  exact h2
 ·cases h
theorem loadP_ok {fs:List Fd} {off n N:Nat} {ag:Bool} {q:Qg} (h:oneP ag (subF fs off n)=some q):∀w cs,cs.length=N→pS fs w (Xd true cs)→q w (Xd ag ((cs.drop off).take n)):=by
 rintro w cs _ ⟨ds,e,hd⟩
 have:=Qdo (show Xd true cs=Xd true ds from e)
 subst this
 cases hs:subF fs off n with
 |none=>rw[hs]at h; cases ag<;>cases h
 |some l=>rw[hs]at h; exact oneP_ok h (subF_ok hs hd).1
def pQ (F:Rat→Qg) (j:Nat) (x:Rat):Qg:=fun w v=>BdR j x∧F x w v
abbrev pR (j:Nat) (x:Rat):Qg:=pQ Qv j x
theorem pQ_le {F:Rat→Qg} {j k:Nat} {x:Rat} (h:j≤k):∀w v,pQ F j x w v→pQ F k x w v:=fun _ _ q=>⟨q.1.mono h,q.2⟩
inductive Zl
 |r|f|i|b|n|s
def Zl.fd:Zl→Fd
 |.r=>⟨true,3,pR 1 0⟩
 |.f=>⟨true,3,Q4⟩
 |.i=>⟨false,1,pI 0⟩
 |.b=>⟨false,1,pB false⟩
 |.n=>⟨false,1,Qi (.slice none 0 0)⟩
 |.s=>⟨false,1,Qi (.string ⟨#[]⟩)⟩
def Zl.cs:Zl→List Value
 |.r|.f=>[.bool false,.slice none 0 0,.slice none 0 0]
 |.i=>[.int .i64 0]
 |.b=>[.bool false]
 |.n=>[.slice none 0 0]
 |.s=>[.string ⟨#[]⟩]
def fdQ (F:Rat→Qg) (j:Nat) (x:Rat):Fd:=⟨true,3,pQ F j x⟩
def pV (F:Rat→Qg) (j:Nat) (l:List Rat):Qg:=pS (l.map (fdQ F j))
section
variable {F:Rat→Qg} {j k:Nat} {l:List Rat}
inductive VLe (F:Rat→Qg) (j:Nat):List Fd→List Rat→Prop
 |z:VLe F j [] []
 |c {i:Nat} {x:Rat} {fs:List Fd} {l:List Rat} (h:i≤j):VLe F j fs l→VLe F j (⟨true,3,pQ F i x⟩::fs) (x::l)
theorem VLe.ok {fs:List Fd} (h:VLe F j fs l):∀{w:World} {cs:List Value},Zc fs w cs→Zc (l.map (fdQ F j)) w cs:=by
 induction h with
 |z=>exact fun h=>h
 |c hi _ ih=>exact fun⟨h1,h2,h3⟩=>⟨h1,pQ_le hi _ _ h2,ih h3⟩
theorem VLe.pV {fs:List Fd} (h:VLe F j fs l):∀w v,pS fs w v→Wx.pV F j l w v:=fun _ _ ⟨cs,e,hc⟩=>⟨cs,e,h.ok hc⟩
end
end Wx

namespace Wx
open Go Go.RowKit

def lookE (ms:List Nat) (i s:Nat):List Ent→Option Qg
 |[]=>none
 |⟨t,f,s',p⟩::r=>match Nat.beq s' s&&(onAt ms i t&&Qab ms i f)with
  |true=>some p
  |false=>lookE ms i s r
def U0 (i:Nat):List Ent→Option Qg
 |[]=>none
 |⟨none,_,_,_⟩::r=>U0 i r
 |⟨some j,_,_,p⟩::r=>match Nat.beq j i with
  |true=>some p
  |false=>U0 i r
def entE (s:Nat):List Ent→Option Qg
 |[]=>none
 |⟨none,none,s',p⟩::r=>match Nat.beq s' s with
  |true=>some p
  |false=>entE s r
 |_::r=>entE s r
def alE (ms:List Nat) (i s:Nat):List Al→Option Al
 |[]=>none
 |⟨t,s',v,o,c⟩::r=>match Nat.beq s' s&&onAt ms i t with
  |true=>some ⟨t,s',v,o,c⟩
  |false=>alE ms i s r
def alT (i:Nat):List Al→Option Al
 |[]=>none
 |⟨none,_,_,_,_⟩::r=>alT i r
 |⟨some j,s',v,o,c⟩::r=>match Nat.beq j i with
  |true=>some ⟨some j,s',v,o,c⟩
  |false=>alT i r
def vrI (id:Nat):List Vr→Option Vr
 |[]=>none
 |⟨d,s',b,e,kd,T,n,ag,c0,st⟩::r=>match Nat.beq d id with
  |true=>some ⟨d,s',b,e,kd,T,n,ag,c0,st⟩
  |false=>vrI id r
theorem V5 {α:Type} {x:α} {r:List α} {y:α} (h:∃k:Nat,r[k]?=some y):∃k:Nat,(x::r)[k]?=some y:=h.elim fun k hk=>⟨k+1,hk⟩
theorem lookE_get {ms:List Nat} {i s:Nat} {p:Qg}:∀{G:List Ent},lookE ms i s G=some p→∃t f,(∃k:Nat,G[k]?=some ⟨t,f,s,p⟩)∧(onAt ms i t&&Qab ms i f)=true:=by
 intro G
 induction G with
 |nil=>intro h; cases h
 |cons e r ih=>
  intro h
  obtain⟨t,f,s',p'⟩:=e
  unfold lookE at h
  split at h
  ·rename_i hb
   rw[Bool.and_eq_true]at hb
   have h1:=Nat.eq_of_beq_eq_true hb.1
   subst h1
   cases h
   exact⟨t,f,⟨0,rfl⟩,hb.2⟩
  ·obtain⟨t,f,hk,h2⟩:=ih h
   exact⟨t,f,V5 hk,h2⟩
theorem Ya {ms:List Nat} {G:List Ent} {i s:Nat} {p:Qg} (h:lookE ms i s G=some p):Has ms G i (.tmp s) p:=by
 obtain⟨t,f,⟨k,hk⟩,h2⟩:=lookE_get h
 exact .tmp k hk h2
theorem post {i:Nat} {p:Qg}:∀{G:List Ent},U0 i G=some p→∃s f,∃k:Nat,G[k]?=some ⟨some i,f,s,p⟩:=by
 intro G
 induction G with
 |nil=>intro h; cases h
 |cons e r ih=>
  intro h
  obtain⟨t,f,s',p'⟩:=e
  cases t with
  |none=>obtain⟨s,f,hk⟩:=ih h; exact⟨s,f,V5 hk⟩
  |some j=>
   simp only[U0]at h
   split at h
   ·rename_i hb
    have hb:=Nat.eq_of_beq_eq_true hb
    subst hb
    cases h
    exact⟨s',f,0,rfl⟩
   ·obtain⟨s,f,hk⟩:=ih h; exact⟨s,f,V5 hk⟩
theorem pt {G:List Ent} {i:Nat} {p:Qg} (h:U0 i G=some p):Post G i p:=by
 obtain⟨s,f,k,hk⟩:=post h
 exact .here k hk
theorem ptS {G:List Ent} {i:Nat} {p:Qg} {φ:Prop} (hφ:φ) (h:U0 i G=some (Z2 φ p)):Post G i p:=by
 obtain⟨s,f,k,hk⟩:=post h
 exact .sel hφ k hk
theorem ptN {G:List Ent} {i:Nat} {p:Qg} {φ:Prop} (hφ:¬φ) (h:U0 i G=some (Z2 φ p)):Post G i (Qi undef):=by
 obtain⟨s,f,k,hk⟩:=post h
 exact .sel_no hφ k hk
theorem entE_get {s:Nat} {p:Qg}:∀{G:List Ent},entE s G=some p→∃k:Nat,G[k]?=some ⟨none,none,s,p⟩:=by
 intro G
 induction G with
 |nil=>intro h; cases h
 |cons e r ih=>
  intro h
  obtain⟨t,f,s',p'⟩:=e
  cases t with
  |some _=>exact V5 (ih h)
  |none=>
   cases f with
   |some _=>exact V5 (ih h)
   |none=>
    simp only[entE]at h
    split at h
    ·rename_i hb
     have hb:=Nat.eq_of_beq_eq_true hb
     subst hb
     cases h
     exact⟨0,rfl⟩
    ·exact V5 (ih h)
theorem alE_get {ms:List Nat} {i s:Nat} {al:Al}:∀{A:List Al},alE ms i s A=some al→(∃k:Nat,A[k]?=some al)∧al.slot=s∧onAt ms i al.tag=true:=by
 intro A
 induction A with
 |nil=>intro h; cases h
 |cons e r ih=>
  intro h
  obtain⟨t,s',v,o,c⟩:=e
  unfold alE at h
  split at h
  ·rename_i hb
   rw[Bool.and_eq_true]at hb
   cases h
   exact⟨⟨0,rfl⟩,Nat.eq_of_beq_eq_true hb.1,hb.2⟩
  ·obtain⟨h1,h2⟩:=ih h
   exact⟨V5 h1,h2⟩
theorem alT_get {i:Nat} {al:Al}:∀{A:List Al},alT i A=some al→(∃k:Nat,A[k]?=some al)∧al.tag=some i:=by
 intro A
 induction A with
 |nil=>intro h; cases h
 |cons e r ih=>
  intro h
  obtain⟨t,s',v,o,c⟩:=e
  cases t with
  |none=>obtain⟨h1,h2⟩:=ih h; exact⟨V5 h1,h2⟩
  |some j=>
   simp only[alT]at h
   split at h
   ·rename_i hb
    have hb:=Nat.eq_of_beq_eq_true hb
    subst hb
    cases h
    exact⟨⟨0,rfl⟩,rfl⟩
   ·obtain⟨h1,h2⟩:=ih h; exact⟨V5 h1,h2⟩
theorem vrI_get {id:Nat} {x:Vr}:∀{V:List Vr},vrI id V=some x→(∃k:Nat,V[k]?=some x)∧id=x.id:=by
 intro V
 induction V with
 |nil=>intro h; cases h
 |cons e r ih=>
  intro h
  obtain⟨d,s',b,e,kd,T,n,ag,c0,st⟩:=e
  unfold vrI at h
  split at h
  ·rename_i hb
   cases h
   exact⟨⟨0,rfl⟩,(Nat.eq_of_beq_eq_true hb).symm⟩
  ·obtain⟨h1,h2⟩:=ih h
   exact⟨V5 h1,h2⟩
section
variable {P:Program} {ops:Array Oper} {ms:List Nat} {c:Cfg} {V:List Vr} {A:List Al} {G:List Ent} {i:Nat}
variable {d:Nat} {x y z:Operand} {ty:TypeId} {pos:String} {aft:Array Edge}
theorem o_lss {t u:TypeId} {m n:Int} {k:IntKind} (h1:Has ms G i x (Qi (.int k m))) (h2:Has ms G i y (Qi (.int k n))) (hp:Post G i (pB (decide (m<n)))):Q0 P ops ms c V A G i ⟨some d,.binOp .lss t x y u,ty,pos,aft,none⟩:=Q6 h1 h2 (fun _=>by cases k<;>rfl) hp
theorem o_leq {t u:TypeId} {m n:Int} {k:IntKind} (h1:Has ms G i x (Qi (.int k m))) (h2:Has ms G i y (Qi (.int k n))) (hp:Post G i (pB (decide (m≤n)))):Q0 P ops ms c V A G i ⟨some d,.binOp .leq t x y u,ty,pos,aft,none⟩:=Q6 h1 h2 (fun _=>by cases k<;>rfl) hp
theorem o_gtr {t u:TypeId} {m n:Int} {k:IntKind} (h1:Has ms G i x (Qi (.int k m))) (h2:Has ms G i y (Qi (.int k n))) (hp:Post G i (pB (decide (m>n)))):Q0 P ops ms c V A G i ⟨some d,.binOp .gtr t x y u,ty,pos,aft,none⟩:=Q6 h1 h2 (fun _=>by cases k<;>rfl) hp
theorem o_geq {t u:TypeId} {m n:Int} {k:IntKind} (h1:Has ms G i x (Qi (.int k m))) (h2:Has ms G i y (Qi (.int k n))) (hp:Post G i (pB (decide (m≥n)))):Q0 P ops ms c V A G i ⟨some d,.binOp .geq t x y u,ty,pos,aft,none⟩:=Q6 h1 h2 (fun _=>by cases k<;>rfl) hp
theorem o_add {t u:TypeId} {m n:Int} (h1:Has ms G i x (pI m)) (h2:Has ms G i y (pI n)) (hp:Post G i (pI (m+n))) (hr:-9223372036854775808≤m+n∧m+n≤9223372036854775807:=by omega):Q0 P ops ms c V A G i ⟨some d,.binOp .add t x y u,ty,pos,aft,none⟩:=
 Q6 h1 h2 (v:=.int .i64 (IntKind.i64.wrap (m+n))) (fun _=>rfl) (by rw[IntWalk.i64_in _ hr]; exact hp)
theorem o_sub {t u:TypeId} {m n:Int} (h1:Has ms G i x (pI m)) (h2:Has ms G i y (pI n)) (hp:Post G i (pI (m-n))) (hr:-9223372036854775808≤m-n∧m-n≤9223372036854775807:=by omega):Q0 P ops ms c V A G i ⟨some d,.binOp .sub t x y u,ty,pos,aft,none⟩:=
 Q6 h1 h2 (v:=.int .i64 (IntKind.i64.wrap (m-n))) (fun _=>rfl) (by rw[IntWalk.i64_in _ hr]; exact hp)
theorem o_mul {t u:TypeId} {m n:Int} (h1:Has ms G i x (pI m)) (h2:Has ms G i y (pI n)) (hp:Post G i (pI (m*n))) (hr:-9223372036854775808≤m*n∧m*n≤9223372036854775807:=by omega):Q0 P ops ms c V A G i ⟨some d,.binOp .mul t x y u,ty,pos,aft,none⟩:=
 Q6 h1 h2 (v:=.int .i64 (IntKind.i64.wrap (m*n))) (fun _=>rfl) (by rw[IntWalk.i64_in _ hr]; exact hp)
theorem o_loadAl {T:TypeId} {s n:Nat} {agg:Bool} {v:Vr} {al:Al} {p q:Qg} (ha:alE ms i s A=some al) (hv:vrI al.var V=some v) (ho:Zi ms i v=true) (hkd:v.kd=.ptr) (hst:(v.st.all fun q=>(ms.getD i 0).testBit q.1||(ms.getD q.1 0).testBit i)=true)
  (hc:cont (fun j=>(ms.getD i 0).testBit j) v.c0 v.st=pv p) (ht:Ty P T agg n) (hq:∀w cs,cs.length=v.n→p w (Xd v.agg cs)→q w (Xd agg ((cs.drop al.off).take n))) (hcd:al.cond) (hp:Post G i q) (hlen:decide (al.off+n≤v.n)=true):Q0 P ops ms c V A G i ⟨some d,.load T (.tmp s),ty,pos,aft,none⟩:=by
 obtain⟨⟨k2,hk2⟩,h1,h2⟩:=alE_get ha
 obtain⟨⟨k,hk⟩,h3⟩:=vrI_get hv
 exact Zs k hk k2 hk2 h1 h3 rfl h2 hcd ho hkd hst ht hlen hc hq hp
theorem o_if {j:Nat} {b cb:Bool} {op:Op} {dst:Option Nat} (hg:U0 j G=some (pB cb)) (h:cb=b→Q0 P ops ms c V A G i ⟨dst,op,ty,pos,aft,none⟩) (hA:¬cb=b→AlNo A i) (hp:¬cb=b→Post G i (Qi undef))
  (hj:(G.all fun e=>e.tag != some j||((ms.getD i 0).testBit j&&Qab ms i e.till))=true) (hb:(V.all fun x=>(x.born != some i&&x.dead != some i)&&x.st.all fun q=>q.1 != i)=true):Q0 P ops ms c V A G i ⟨dst,op,ty,pos,aft,some (j,b)⟩:=by
 obtain⟨s,f,k,hk⟩:=post hg
 have:=List.all_eq_true.1 hj _ (List.mem_of_getElem? hk)
 exact Jg k hk (by simpa using this) h hb hA hp
theorem o_yes {j:Nat} {b cb:Bool} {op:Op} {dst:Option Nat} (hg:U0 j G=some (pB cb)) (hcb:cb=b) (h:Q0 P ops ms c V A G i ⟨dst,op,ty,pos,aft,none⟩)
  (hj:(G.all fun e=>e.tag != some j||((ms.getD i 0).testBit j&&Qab ms i e.till))=true):Q0 P ops ms c V A G i ⟨dst,op,ty,pos,aft,some (j,b)⟩:=by
 obtain⟨s,f,k,hk⟩:=post hg
 have:=List.all_eq_true.1 hj _ (List.mem_of_getElem? hk)
 subst hcb
 exact op_yes k hk (by simpa using this) h
end
end Wx
