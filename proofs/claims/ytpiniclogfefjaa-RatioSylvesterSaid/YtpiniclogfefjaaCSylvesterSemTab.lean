import Derived.Test.YtpiniclogfefjaaJSylvester21
namespace Wx
open Go Go.RowKit

inductive MkE (ne:List Ent):List Ent→List Ent→Prop
 |z:MkE ne [] ne
 |k {s:Nat} {p:Qj} {G G1:List Ent}:MkE ne G G1→MkE ne (⟨none,none,s,p⟩::G) (⟨none,none,s,p⟩::G1)
 |t {s:Nat} {p:Qj} {G G1:List Ent} (i:Nat):MkE ne G G1→MkE ne (⟨none,none,s,p⟩::G) (⟨none,some i,s,p⟩::G1)
inductive KeepE:List Ent→List Ent→Prop
 |z:KeepE [] []
 |k {t:Option Nat} {s:Nat} {p:Qj} {G1 G2:List Ent}:KeepE G1 G2→KeepE (⟨t,none,s,p⟩::G1) (⟨none,none,s,p⟩::G2)
 |d {e:Ent} {G1 G2:List Ent}:KeepE G1 G2→KeepE (e::G1) G2
inductive MkV (nv:List Vr):List Vr→List Vr→Prop
 |z:MkV nv [] nv
 |k {id s:Nat} {kd:Kd} {T:TypeId} {n:Nat} {ag:Bool} {c0:Y9} {V V1:List Vr}:MkV nv V V1→MkV nv (⟨id,s,none,none,kd,T,n,ag,c0,[]⟩::V) (⟨id,s,none,none,kd,T,n,ag,c0,[]⟩::V1)
 |u {id s:Nat} {kd:Kd} {T:TypeId} {n:Nat} {ag:Bool} {c0:Y9} {V V1:List Vr} (dead:Option Nat) (st:List (Nat×Y9)):MkV nv V V1→MkV nv (⟨id,s,none,none,kd,T,n,ag,c0,[]⟩::V) (⟨id,s,none,dead,kd,T,n,ag,c0,st⟩::V1)
inductive LastS:List (Nat×Y9)→Y9→Prop
 |o {i:Nat} {c:Y9}:LastS [(i,c)] c
 |c {x:Nat×Y9} {l:List (Nat×Y9)} {c:Y9}:LastS l c→LastS (x::l) c
inductive KeepV:List Vr→List Vr→Prop
 |z:KeepV [] []
 |k {id s:Nat} {b:Option Nat} {kd:Kd} {T:TypeId} {n:Nat} {ag:Bool} {c0:Y9} {V1 V2:List Vr}:KeepV V1 V2→KeepV (⟨id,s,b,none,kd,T,n,ag,c0,[]⟩::V1) (⟨s,s,none,none,kd,T,n,ag,c0,[]⟩::V2)
 |s {id s:Nat} {b:Option Nat} {kd:Kd} {T:TypeId} {n:Nat} {ag:Bool} {c0 c1:Y9} {st:List (Nat×Y9)} {V1 V2:List Vr}:LastS st c1→KeepV V1 V2→KeepV (⟨id,s,b,none,kd,T,n,ag,c0,st⟩::V1) (⟨s,s,none,none,kd,T,n,ag,c1,[]⟩::V2)
 |d {x:Vr} {V1 V2:List Vr}:KeepV V1 V2→KeepV (x::V1) V2
theorem KeepE.kk {t0:Option Nat} {s0:Nat} {p0:Qj} {t1:Option Nat} {s1:Nat} {p1:Qj} {X Y:List Ent} (h:KeepE X Y):KeepE (⟨t0,none,s0,p0⟩::⟨t1,none,s1,p1⟩::X) (⟨none,none,s0,p0⟩::⟨none,none,s1,p1⟩::Y):=.k (.k h)
theorem KeepE.kd {t0:Option Nat} {s0:Nat} {p0:Qj} {e1:Ent} {X Y:List Ent} (h:KeepE X Y):KeepE (⟨t0,none,s0,p0⟩::e1::X) (⟨none,none,s0,p0⟩::Y):=.k (.d h)
theorem KeepE.dk {e0:Ent} {t1:Option Nat} {s1:Nat} {p1:Qj} {X Y:List Ent} (h:KeepE X Y):KeepE (e0::⟨t1,none,s1,p1⟩::X) (⟨none,none,s1,p1⟩::Y):=.d (.k h)
theorem KeepE.dd {e0:Ent} {e1:Ent} {X Y:List Ent} (h:KeepE X Y):KeepE (e0::e1::X) (Y):=.d (.d h)
theorem KeepE.kkk {t0:Option Nat} {s0:Nat} {p0:Qj} {t1:Option Nat} {s1:Nat} {p1:Qj} {t2:Option Nat} {s2:Nat} {p2:Qj} {X Y:List Ent} (h:KeepE X Y):KeepE (⟨t0,none,s0,p0⟩::⟨t1,none,s1,p1⟩::⟨t2,none,s2,p2⟩::X) (⟨none,none,s0,p0⟩::⟨none,none,s1,p1⟩::⟨none,none,s2,p2⟩::Y):=.k (.k (.k h))
theorem KeepE.kkd {t0:Option Nat} {s0:Nat} {p0:Qj} {t1:Option Nat} {s1:Nat} {p1:Qj} {e2:Ent} {X Y:List Ent} (h:KeepE X Y):KeepE (⟨t0,none,s0,p0⟩::⟨t1,none,s1,p1⟩::e2::X) (⟨none,none,s0,p0⟩::⟨none,none,s1,p1⟩::Y):=.k (.k (.d h))
theorem KeepE.kdk {t0:Option Nat} {s0:Nat} {p0:Qj} {e1:Ent} {t2:Option Nat} {s2:Nat} {p2:Qj} {X Y:List Ent} (h:KeepE X Y):KeepE (⟨t0,none,s0,p0⟩::e1::⟨t2,none,s2,p2⟩::X) (⟨none,none,s0,p0⟩::⟨none,none,s2,p2⟩::Y):=.k (.d (.k h))
theorem KeepE.dkk {e0:Ent} {t1:Option Nat} {s1:Nat} {p1:Qj} {t2:Option Nat} {s2:Nat} {p2:Qj} {X Y:List Ent} (h:KeepE X Y):KeepE (e0::⟨t1,none,s1,p1⟩::⟨t2,none,s2,p2⟩::X) (⟨none,none,s1,p1⟩::⟨none,none,s2,p2⟩::Y):=.d (.k (.k h))
theorem KeepE.ddk {e0:Ent} {e1:Ent} {t2:Option Nat} {s2:Nat} {p2:Qj} {X Y:List Ent} (h:KeepE X Y):KeepE (e0::e1::⟨t2,none,s2,p2⟩::X) (⟨none,none,s2,p2⟩::Y):=.d (.d (.k h))
theorem KeepE.ddd {e0:Ent} {e1:Ent} {e2:Ent} {X Y:List Ent} (h:KeepE X Y):KeepE (e0::e1::e2::X) (Y):=.d (.d (.d h))
theorem KeepE.kkkk {t0:Option Nat} {s0:Nat} {p0:Qj} {t1:Option Nat} {s1:Nat} {p1:Qj} {t2:Option Nat} {s2:Nat} {p2:Qj} {t3:Option Nat} {s3:Nat} {p3:Qj} {X Y:List Ent} (h:KeepE X Y):KeepE (⟨t0,none,s0,p0⟩::⟨t1,none,s1,p1⟩::⟨t2,none,s2,p2⟩::⟨t3,none,s3,p3⟩::X) (⟨none,none,s0,p0⟩::⟨none,none,s1,p1⟩::⟨none,none,s2,p2⟩::⟨none,none,s3,p3⟩::Y):=.k (.k (.k (.k h)))
theorem KeepE.kkkd {t0:Option Nat} {s0:Nat} {p0:Qj} {t1:Option Nat} {s1:Nat} {p1:Qj} {t2:Option Nat} {s2:Nat} {p2:Qj} {e3:Ent} {X Y:List Ent} (h:KeepE X Y):KeepE (⟨t0,none,s0,p0⟩::⟨t1,none,s1,p1⟩::⟨t2,none,s2,p2⟩::e3::X) (⟨none,none,s0,p0⟩::⟨none,none,s1,p1⟩::⟨none,none,s2,p2⟩::Y):=.k (.k (.k (.d h)))
theorem KeepE.kkdk {t0:Option Nat} {s0:Nat} {p0:Qj} {t1:Option Nat} {s1:Nat} {p1:Qj} {e2:Ent} {t3:Option Nat} {s3:Nat} {p3:Qj} {X Y:List Ent} (h:KeepE X Y):KeepE (⟨t0,none,s0,p0⟩::⟨t1,none,s1,p1⟩::e2::⟨t3,none,s3,p3⟩::X) (⟨none,none,s0,p0⟩::⟨none,none,s1,p1⟩::⟨none,none,s3,p3⟩::Y):=.k (.k (.d (.k h)))
theorem KeepE.kkdd {t0:Option Nat} {s0:Nat} {p0:Qj} {t1:Option Nat} {s1:Nat} {p1:Qj} {e2:Ent} {e3:Ent} {X Y:List Ent} (h:KeepE X Y):KeepE (⟨t0,none,s0,p0⟩::⟨t1,none,s1,p1⟩::e2::e3::X) (⟨none,none,s0,p0⟩::⟨none,none,s1,p1⟩::Y):=.k (.k (.d (.d h)))
theorem KeepE.kdkk {t0:Option Nat} {s0:Nat} {p0:Qj} {e1:Ent} {t2:Option Nat} {s2:Nat} {p2:Qj} {t3:Option Nat} {s3:Nat} {p3:Qj} {X Y:List Ent} (h:KeepE X Y):KeepE (⟨t0,none,s0,p0⟩::e1::⟨t2,none,s2,p2⟩::⟨t3,none,s3,p3⟩::X) (⟨none,none,s0,p0⟩::⟨none,none,s2,p2⟩::⟨none,none,s3,p3⟩::Y):=.k (.d (.k (.k h)))
theorem KeepE.kdkd {t0:Option Nat} {s0:Nat} {p0:Qj} {e1:Ent} {t2:Option Nat} {s2:Nat} {p2:Qj} {e3:Ent} {X Y:List Ent} (h:KeepE X Y):KeepE (⟨t0,none,s0,p0⟩::e1::⟨t2,none,s2,p2⟩::e3::X) (⟨none,none,s0,p0⟩::⟨none,none,s2,p2⟩::Y):=.k (.d (.k (.d h)))
theorem KeepE.kddk {t0:Option Nat} {s0:Nat} {p0:Qj} {e1:Ent} {e2:Ent} {t3:Option Nat} {s3:Nat} {p3:Qj} {X Y:List Ent} (h:KeepE X Y):KeepE (⟨t0,none,s0,p0⟩::e1::e2::⟨t3,none,s3,p3⟩::X) (⟨none,none,s0,p0⟩::⟨none,none,s3,p3⟩::Y):=.k (.d (.d (.k h)))
theorem KeepE.kddd {t0:Option Nat} {s0:Nat} {p0:Qj} {e1:Ent} {e2:Ent} {e3:Ent} {X Y:List Ent} (h:KeepE X Y):KeepE (⟨t0,none,s0,p0⟩::e1::e2::e3::X) (⟨none,none,s0,p0⟩::Y):=.k (.d (.d (.d h)))
theorem KeepE.dkkk {e0:Ent} {t1:Option Nat} {s1:Nat} {p1:Qj} {t2:Option Nat} {s2:Nat} {p2:Qj} {t3:Option Nat} {s3:Nat} {p3:Qj} {X Y:List Ent} (h:KeepE X Y):KeepE (e0::⟨t1,none,s1,p1⟩::⟨t2,none,s2,p2⟩::⟨t3,none,s3,p3⟩::X) (⟨none,none,s1,p1⟩::⟨none,none,s2,p2⟩::⟨none,none,s3,p3⟩::Y):=.d (.k (.k (.k h)))
theorem KeepE.dkkd {e0:Ent} {t1:Option Nat} {s1:Nat} {p1:Qj} {t2:Option Nat} {s2:Nat} {p2:Qj} {e3:Ent} {X Y:List Ent} (h:KeepE X Y):KeepE (e0::⟨t1,none,s1,p1⟩::⟨t2,none,s2,p2⟩::e3::X) (⟨none,none,s1,p1⟩::⟨none,none,s2,p2⟩::Y):=.d (.k (.k (.d h)))
theorem KeepE.dkdk {e0:Ent} {t1:Option Nat} {s1:Nat} {p1:Qj} {e2:Ent} {t3:Option Nat} {s3:Nat} {p3:Qj} {X Y:List Ent} (h:KeepE X Y):KeepE (e0::⟨t1,none,s1,p1⟩::e2::⟨t3,none,s3,p3⟩::X) (⟨none,none,s1,p1⟩::⟨none,none,s3,p3⟩::Y):=.d (.k (.d (.k h)))
theorem KeepE.dkdd {e0:Ent} {t1:Option Nat} {s1:Nat} {p1:Qj} {e2:Ent} {e3:Ent} {X Y:List Ent} (h:KeepE X Y):KeepE (e0::⟨t1,none,s1,p1⟩::e2::e3::X) (⟨none,none,s1,p1⟩::Y):=.d (.k (.d (.d h)))
theorem KeepE.ddkk {e0:Ent} {e1:Ent} {t2:Option Nat} {s2:Nat} {p2:Qj} {t3:Option Nat} {s3:Nat} {p3:Qj} {X Y:List Ent} (h:KeepE X Y):KeepE (e0::e1::⟨t2,none,s2,p2⟩::⟨t3,none,s3,p3⟩::X) (⟨none,none,s2,p2⟩::⟨none,none,s3,p3⟩::Y):=.d (.d (.k (.k h)))
theorem KeepE.ddkd {e0:Ent} {e1:Ent} {t2:Option Nat} {s2:Nat} {p2:Qj} {e3:Ent} {X Y:List Ent} (h:KeepE X Y):KeepE (e0::e1::⟨t2,none,s2,p2⟩::e3::X) (⟨none,none,s2,p2⟩::Y):=.d (.d (.k (.d h)))
theorem KeepE.dddk {e0:Ent} {e1:Ent} {e2:Ent} {t3:Option Nat} {s3:Nat} {p3:Qj} {X Y:List Ent} (h:KeepE X Y):KeepE (e0::e1::e2::⟨t3,none,s3,p3⟩::X) (⟨none,none,s3,p3⟩::Y):=.d (.d (.d (.k h)))
theorem KeepE.dddd {e0:Ent} {e1:Ent} {e2:Ent} {e3:Ent} {X Y:List Ent} (h:KeepE X Y):KeepE (e0::e1::e2::e3::X) (Y):=.d (.d (.d (.d h)))
theorem KeepE.k8 {t0:Option Nat} {s0:Nat} {p0:Qj} {t1:Option Nat} {s1:Nat} {p1:Qj} {t2:Option Nat} {s2:Nat} {p2:Qj} {t3:Option Nat} {s3:Nat} {p3:Qj} {t4:Option Nat} {s4:Nat} {p4:Qj} {t5:Option Nat} {s5:Nat} {p5:Qj} {t6:Option Nat} {s6:Nat} {p6:Qj} {t7:Option Nat} {s7:Nat} {p7:Qj} {X Y:List Ent} (h:KeepE X Y):KeepE (⟨t0,none,s0,p0⟩::⟨t1,none,s1,p1⟩::⟨t2,none,s2,p2⟩::⟨t3,none,s3,p3⟩::⟨t4,none,s4,p4⟩::⟨t5,none,s5,p5⟩::⟨t6,none,s6,p6⟩::⟨t7,none,s7,p7⟩::X) (⟨none,none,s0,p0⟩::⟨none,none,s1,p1⟩::⟨none,none,s2,p2⟩::⟨none,none,s3,p3⟩::⟨none,none,s4,p4⟩::⟨none,none,s5,p5⟩::⟨none,none,s6,p6⟩::⟨none,none,s7,p7⟩::Y):=.k (.k (.k (.k (.k (.k (.k (.k h)))))))
theorem KeepE.d8 {e0:Ent} {e1:Ent} {e2:Ent} {e3:Ent} {e4:Ent} {e5:Ent} {e6:Ent} {e7:Ent} {X Y:List Ent} (h:KeepE X Y):KeepE (e0::e1::e2::e3::e4::e5::e6::e7::X) (Y):=.d (.d (.d (.d (.d (.d (.d (.d h)))))))
theorem MkE.kk {ne:List Ent} {s0:Nat} {p0:Qj} {s1:Nat} {p1:Qj} {X Y:List Ent} (h:MkE ne X Y):MkE ne (⟨none,none,s0,p0⟩::⟨none,none,s1,p1⟩::X) (⟨none,none,s0,p0⟩::⟨none,none,s1,p1⟩::Y):=.k (.k h)
theorem MkE.kkk {ne:List Ent} {s0:Nat} {p0:Qj} {s1:Nat} {p1:Qj} {s2:Nat} {p2:Qj} {X Y:List Ent} (h:MkE ne X Y):MkE ne (⟨none,none,s0,p0⟩::⟨none,none,s1,p1⟩::⟨none,none,s2,p2⟩::X) (⟨none,none,s0,p0⟩::⟨none,none,s1,p1⟩::⟨none,none,s2,p2⟩::Y):=.k (.k (.k h))
theorem MkE.kkkk {ne:List Ent} {s0:Nat} {p0:Qj} {s1:Nat} {p1:Qj} {s2:Nat} {p2:Qj} {s3:Nat} {p3:Qj} {X Y:List Ent} (h:MkE ne X Y):MkE ne (⟨none,none,s0,p0⟩::⟨none,none,s1,p1⟩::⟨none,none,s2,p2⟩::⟨none,none,s3,p3⟩::X) (⟨none,none,s0,p0⟩::⟨none,none,s1,p1⟩::⟨none,none,s2,p2⟩::⟨none,none,s3,p3⟩::Y):=.k (.k (.k (.k h)))
theorem MkE.k8 {ne:List Ent} {s0:Nat} {p0:Qj} {s1:Nat} {p1:Qj} {s2:Nat} {p2:Qj} {s3:Nat} {p3:Qj} {s4:Nat} {p4:Qj} {s5:Nat} {p5:Qj} {s6:Nat} {p6:Qj} {s7:Nat} {p7:Qj} {X Y:List Ent} (h:MkE ne X Y):MkE ne (⟨none,none,s0,p0⟩::⟨none,none,s1,p1⟩::⟨none,none,s2,p2⟩::⟨none,none,s3,p3⟩::⟨none,none,s4,p4⟩::⟨none,none,s5,p5⟩::⟨none,none,s6,p6⟩::⟨none,none,s7,p7⟩::X) (⟨none,none,s0,p0⟩::⟨none,none,s1,p1⟩::⟨none,none,s2,p2⟩::⟨none,none,s3,p3⟩::⟨none,none,s4,p4⟩::⟨none,none,s5,p5⟩::⟨none,none,s6,p6⟩::⟨none,none,s7,p7⟩::Y):=.k (.k (.k (.k (.k (.k (.k (.k h)))))))
theorem Qam {α:Type} {l r:List α} (h:∀x∈r,x∈l):∃ks,Kz ks l=r:=by
 induction r with
 |nil=>exact⟨[],rfl⟩
 |cons x r ih=>
  obtain⟨ks,hk⟩:=ih fun y hy=>h y (List.mem_cons_of_mem _ hy)
  obtain⟨i,hi⟩:=List.mem_iff_getElem?.1 (h x (List.mem_cons_self ..))
  exact⟨i::ks,by unfold Kz at *; rw[List.filterMap_cons,hi,hk]⟩
theorem MkE.strip {ne G G1:List Ent} (h:MkE ne G G1) (hn:(ne.all fun e=>e.tag.isSome)=true):Vz G1=G:=by
 induction h with
 |z=>
  unfold Vz
  rw[List.filter_eq_nil_iff.2 fun e he=>by
   have:=List.all_eq_true.1 hn e he
   cases ht:e.tag with
   |none=>rw[ht]at this; cases this
   |some i=>simp]
  rfl
 |k _ ih=>
  unfold Vz at *
  rw[List.filter_cons_of_pos rfl,List.map_cons,ih]
 |t i _ ih=>
  unfold Vz at *
  rw[List.filter_cons_of_pos rfl,List.map_cons,ih]
theorem KeepE.sub {G1 G2:List Ent} (h:KeepE G1 G2):∀e∈G2,e∈(G1.filter fun e=>e.till.isNone).map Qag:=by
 induction h with
 |z=>simp
 |k _ ih=>
  intro e he
  rw[List.filter_cons_of_pos rfl,List.map_cons]
  rcases List.mem_cons.1 he with rfl|he
  ·exact List.mem_cons_self ..
  ·exact List.mem_cons_of_mem _ (ih e he)
 |d _ ih=>
  intro e he
  rw[List.filter_cons]
  split
  ·exact List.mem_cons_of_mem _ (ih e he)
  ·exact ih e he
theorem MkV.strip {nv V V1:List Vr} (h:MkV nv V V1) (hn:(nv.all fun x=>x.born.isSome)=true):V0 V1=V:=by
 induction h with
 |z=>
  unfold V0
  rw[List.filter_eq_nil_iff.2 fun e he=>by
   have:=List.all_eq_true.1 hn e he
   cases ht:e.born with
   |none=>rw[ht]at this; cases this
   |some i=>simp]
  rfl
 |k _ ih=>
  unfold V0 at *
  rw[List.filter_cons_of_pos rfl,List.map_cons,ih]
  rfl
 |u _ _ _ ih=>
  unfold V0 at *
  rw[List.filter_cons_of_pos rfl,List.map_cons,ih]
  rfl
theorem LastS.cont {st:List (Nat×Y9)} {c:Y9} (h:LastS st c):∀c0,cont (fun _=>true) c0 st=c:=by
 induction h with
 |o=>intro c0; rfl
 |c _ ih=>intro c0; exact ih _
theorem KeepV.sub {V1 V2:List Vr} (h:KeepV V1 V2):∀x∈V2,x∈keptV V1:=by
 unfold keptV
 induction h with
 |z=>simp
 |k _ ih=>
  intro e he
  rw[List.filter_cons_of_pos rfl,List.map_cons]
  rcases List.mem_cons.1 he with rfl|he
  ·exact List.mem_cons_self ..
  ·exact List.mem_cons_of_mem _ (ih e he)
 |s hl _ ih=>
  intro e he
  rw[List.filter_cons_of_pos rfl,List.map_cons]
  rcases List.mem_cons.1 he with rfl|he
  ·refine List.mem_cons.2 (.inl ?_)
   unfold Ui
   rw[hl.cont]
  ·exact List.mem_cons_of_mem _ (ih e he)
 |d _ ih=>
  intro e he
  rw[List.filter_cons]
  split
  ·exact List.mem_cons_of_mem _ (ih e he)
  ·exact ih e he
def Ux (nv:List Vr) (A1:List Al) (ne:List Ent):Bool:=(nv.all fun x=>x.born.isSome)&&((A1.all fun p=>p.tag.isSome)&&ne.all fun e=>e.tag.isSome)
theorem newB_A {nv:List Vr} {A1:List Al} {ne:List Ent} (h:Ux nv A1 ne=true):Qax A1=[]:=by
 unfold Ux at h
 simp only[Bool.and_eq_true,List.all_eq_true]at h
 unfold Qax
 refine List.filter_eq_nil_iff.2 fun p hp=>?_
 have:=h.2.1 p hp
 cases ht:p.tag with
 |none=>rw[ht]at this; cases this
 |some i=>simp
def regDB (P:Program) (N:Nat) (l:List Oper) (ms:List Nat) (V1:List Vr) (A1:List Al) (G1:List Ent):Bool:=P.follows .mixedOrders&&(Uf l.toArray&&(masks l==ms&&Wy N l V1 A1 G1))
def regTB (N:Nat) (l:List Oper) (ms:List Nat) (V1:List Vr) (A1:List Al) (G1:List Ent):Bool:=Ym l.length==ms&&Wy N l V1 A1 G1
def regSDB (P:Program) (N:Nat) (l:List Oper) (ms:List Nat) (k:Nat) (V1:List Vr) (A1:List Al) (G1:List Ent):Bool:=decide (0<k)&&(P.follows .mixedOrders&&(Uf l.toArray&&(masks l==ms&&(lastB ms k l.length&&(decide (k≤l.length)&&Wy N (l.take k) V1 A1 G1)))))
def regSTB (N:Nat) (l:List Oper) (ms:List Nat) (k:Nat) (V1:List Vr) (A1:List Al) (G1:List Ent):Bool:=Ym l.length==ms&&(decide (k≤l.length)&&Wy N (l.take k) V1 A1 G1)
def ChainK (P:Program) (ops:Array Oper):(Act→World→Prop)→List Oper→(Act→World→Prop)→Prop
 |K,[],K'=>K=K'
 |K,o::os,K'=>∃K1,(∀a w,K a w→DoesG P ops o a w K1)∧ChainK P ops K1 os K'
section
variable {P:Program} {Q:Exit→Act→World→Prop} {c:Cfg} {V:List Vr} {G:List Ent} {a:Act} {w:World}
theorem Qeh {ops:Array Oper} {K K2:Nat→Act→World→Prop}:∀{os:List Oper} {m m2:Nat},StepsK P ops K m os→(∀j,K2 (m2+j)=K (m+j))→StepsK P ops K2 m2 os
 |[],_,_,_,_=>trivial
 |o::os,m,m2,h,e=>by
  refine⟨fun a w hk=>?_,Qeh h.2 fun j=>by rw[Nat.add_assoc,Nat.add_assoc]; exact e (1+j)⟩
  have e0:=e 0
  have e1:=e 1
  rw[Nat.add_zero,Nat.add_zero]at e0
  rw[e0]at hk
  rw[e1]
  exact h.1 a w hk
theorem ChainK.steps {ops:Array Oper}:∀{os:List Oper} {K K':Act→World→Prop},ChainK P ops K os K'→∃F:Nat→Act→World→Prop,F 0=K∧F os.length=K'∧StepsK P ops F 0 os
 |[],K,K',h=>⟨fun _=>K,rfl,h,trivial⟩
 |o::os,K,K',⟨K1,h1,h2⟩=>by
  obtain⟨F,e0,e1,hs⟩:=ChainK.steps h2
  refine⟨fun m=>match m with|0=>K|m+1=>F m,rfl,e1,fun a w hk=>?_,Qeh hs fun j=>?_⟩
  ·show DoesG P ops o a w (F 0)
   rw[e0]
   exact h1 a w hk
  ·rw[show 0+1+j=j+1 by omega,Nat.zero_add]
theorem chain_ex {ops:Array Oper} {o:Oper} {Λ:Type} {C:Λ→Prop} {J J':Λ→Act→World→Prop} (h:∀l,C l→∀a w,J l a w→DoesG P ops o a w (J' l)) (hm:∀{a w} {K K':Act→World→Prop},DoesG P ops o a w K→(∀a w,K a w→K' a w)→DoesG P ops o a w K'):∀a w,(∃l,C l∧J l a w)→DoesG P ops o a w (fun a w=>∃l,C l∧J' l a w):=
 fun a w ⟨l,hC,hJ⟩=>hm (h l hC a w hJ) fun _ _ h=>⟨l,hC,h⟩
theorem Qdf {V1 V2:List Vr} {A1:List Al} {G1 G2:List Ent} {N:Nat} {l:List Oper} (hwf:Wy N l V1 A1 G1=true) (kV:KeepV V1 V2) (kG:KeepE G1 G2) {a:Act} {w:World} (hI:Inv c V1 A1 G1 (fun _=>true) a w):Inv c V2 [] G2 Qf a w:=by
 obtain⟨kv,e1⟩:=Qam kV.sub
 obtain⟨kg,e2⟩:=Qam kG.sub
 exact hI.next kv kg (Qce hwf) (wfB_ids hwf) e1 e2
theorem Qb3 {V1:List Vr} {A1:List Al} {G1:List Ent} {nv:List Vr} {ne:List Ent} (h:Inv c V [] G Qf a w) (hV:MkV nv V V1) (hG:MkE ne G G1) (hn:Ux nv A1 ne=true):Inv c V1 A1 G1 Qf a w:=by
 have hn':=hn
 unfold Ux at hn'
 simp only[Bool.and_eq_true]at hn'
 exact h.enter (hV.strip hn'.1) (newB_A hn) (hG.strip hn'.2.2)
theorem sem_D {id:Nat} {l:List Oper} {V1 V2:List Vr} {G1 G2:List Ent} (h:Inv c V [] G Qf a w) (nv:List Vr) (A1:List Al) (ne:List Ent) (hV:MkV nv V V1) (hG:MkE ne G G1) (hn:Ux nv A1 ne=true)
  (ms:List Nat) (hb:regDB P c.N l ms V1 A1 G1=true) (hs:Oks P l.toArray ms c V1 A1 G1 0 l) (kV:KeepV V1 V2) (kG:KeepE G1 G2) (hk:∀a w,Inv c V2 [] G2 Qf a w→Q .normal a w):(Code.region id l.toArray true).wp P Q a w:=by
 unfold regDB at hb
 simp only[Bool.and_eq_true,beq_iff_eq]at hb
 obtain⟨hm,hok,hms,hwf⟩:=hb
 exact Qec ms hm hok hms hwf (Qb3 h hV hG hn) hs fun a w hI=>hk a w (Qdf hwf kV kG hI)
theorem Yx {id:Nat} {l:List Oper} {V1 V2:List Vr} {G1 G2:List Ent} (h:Inv c V [] G Qf a w) (nv:List Vr) (A1:List Al) (ne:List Ent) (hV:MkV nv V V1) (hG:MkE ne G G1) (hn:Ux nv A1 ne=true)
  (ms:List Nat) (hb:regTB c.N l ms V1 A1 G1=true) (hs:Oks P l.toArray ms c V1 A1 G1 0 l) (kV:KeepV V1 V2) (kG:KeepE G1 G2) (hk:∀a w,Inv c V2 [] G2 Qf a w→Q .normal a w):(Code.region id l.toArray false).wp P Q a w:=by
 unfold regTB at hb
 simp only[Bool.and_eq_true,beq_iff_eq]at hb
 obtain⟨hms,hwf⟩:=hb
 exact Qez hwf (Qb3 h hV hG hn) (by rw[hms]; exact hs) fun a w hI=>hk a w (Qdf hwf kV kG hI)
theorem seq_D {id:Nat} {l:List Oper} {V1 V2:List Vr} {G1 G2:List Ent} {y:Code} (h:Inv c V [] G Qf a w) (nv:List Vr) (A1:List Al) (ne:List Ent) (hV:MkV nv V V1) (hG:MkE ne G G1) (hn:Ux nv A1 ne=true)
  (ms:List Nat) (hb:regDB P c.N l ms V1 A1 G1=true) (hs:Oks P l.toArray ms c V1 A1 G1 0 l) (kV:KeepV V1 V2) (kG:KeepE G1 G2) (hk:∀a w,Inv c V2 [] G2 Qf a w→y.wp P Q a w):(Code.seq (Code.region id l.toArray true) y).wp P Q a w:=
 wp_seq (sem_D h nv A1 ne hV hG hn ms hb hs kV kG hk)
theorem Qh {id:Nat} {l:List Oper} {V1 V2:List Vr} {G1 G2:List Ent} {y:Code} (h:Inv c V [] G Qf a w) (nv:List Vr) (A1:List Al) (ne:List Ent) (hV:MkV nv V V1) (hG:MkE ne G G1) (hn:Ux nv A1 ne=true)
  (ms:List Nat) (hb:regTB c.N l ms V1 A1 G1=true) (hs:Oks P l.toArray ms c V1 A1 G1 0 l) (kV:KeepV V1 V2) (kG:KeepE G1 G2) (hk:∀a w,Inv c V2 [] G2 Qf a w→y.wp P Q a w):(Code.seq (Code.region id l.toArray false) y).wp P Q a w:=
 wp_seq (Yx h nv A1 ne hV hG hn ms hb hs kV kG hk)
theorem sem_SD {id:Nat} {l:List Oper} {V1 V2:List Vr} {G1 G2:List Ent} {K K':Act→World→Prop} (h:Inv c V [] G Qf a w) (nv:List Vr) (A1:List Al) (ne:List Ent) (hV:MkV nv V V1) (hG:MkE ne G G1) (hn:Ux nv A1 ne=true)
  (ms:List Nat) (k:Nat) (hb:regSDB P c.N l ms k V1 A1 G1=true) (hs:Oks P l.toArray ms c V1 A1 G1 0 (l.take k)) (kV:KeepV V1 V2) (kG:KeepE G1 G2) (hK:∀a w,Inv c V2 [] G2 Qf a w→K a w) (hst:ChainK P l.toArray K (l.drop k) K') (hq:∀a w,K' a w→Q .normal a w):(Code.region id l.toArray true).wp P Q a w:=by
 unfold regSDB at hb
 simp only[Bool.and_eq_true,beq_iff_eq]at hb
 obtain⟨hk0,hm,hok,hms,hlast,hkn,hwf⟩:=hb
 obtain⟨F,e0,e1,hF⟩:=hst.steps
 refine region_split ms k (of_decide_eq_true hk0) hm hok hms hlast hkn hwf (Qb3 h hV hG hn) hs F (fun a w hI=>by rw[e0]; exact hK a w (Qdf hwf kV kG hI)) hF fun a w hI=>hq a w ?_
 rw[← e1,List.length_drop]
 exact hI
theorem Qbw {id:Nat} {l:List Oper} {V1 V2:List Vr} {G1 G2:List Ent} {K K':Act→World→Prop} (h:Inv c V [] G Qf a w) (nv:List Vr) (A1:List Al) (ne:List Ent) (hV:MkV nv V V1) (hG:MkE ne G G1) (hn:Ux nv A1 ne=true)
  (ms:List Nat) (k:Nat) (hb:regSTB c.N l ms k V1 A1 G1=true) (hs:Oks P l.toArray ms c V1 A1 G1 0 (l.take k)) (kV:KeepV V1 V2) (kG:KeepE G1 G2) (hK:∀a w,Inv c V2 [] G2 Qf a w→K a w) (hst:ChainK P l.toArray K (l.drop k) K') (hq:∀a w,K' a w→Q .normal a w):(Code.region id l.toArray false).wp P Q a w:=by
 unfold regSTB at hb
 simp only[Bool.and_eq_true,beq_iff_eq]at hb
 obtain⟨hms,hkn,hwf⟩:=hb
 obtain⟨F,e0,e1,hF⟩:=hst.steps
 refine region_splitT k hkn hwf (Qb3 h hV hG hn) (by rw[hms]; exact hs) F (fun a w hI=>by rw[e0]; exact hK a w (Qdf hwf kV kG hI)) hF fun a w hI=>hq a w ?_
 rw[← e1,List.length_drop]
 exact hI
theorem seq_SD {id:Nat} {l:List Oper} {y:Code} {V1 V2:List Vr} {G1 G2:List Ent} {K K':Act→World→Prop} (h:Inv c V [] G Qf a w) (nv:List Vr) (A1:List Al) (ne:List Ent) (hV:MkV nv V V1) (hG:MkE ne G G1) (hn:Ux nv A1 ne=true)
  (ms:List Nat) (k:Nat) (hb:regSDB P c.N l ms k V1 A1 G1=true) (hs:Oks P l.toArray ms c V1 A1 G1 0 (l.take k)) (kV:KeepV V1 V2) (kG:KeepE G1 G2) (hK:∀a w,Inv c V2 [] G2 Qf a w→K a w) (hst:ChainK P l.toArray K (l.drop k) K') (hq:∀a w,K' a w→y.wp P Q a w):(Code.seq (Code.region id l.toArray true) y).wp P Q a w:=
 wp_seq (sem_SD h nv A1 ne hV hG hn ms k hb hs kV kG hK hst hq)
theorem Vx {id:Nat} {l:List Oper} {y:Code} {V1 V2:List Vr} {G1 G2:List Ent} {K K':Act→World→Prop} (h:Inv c V [] G Qf a w) (nv:List Vr) (A1:List Al) (ne:List Ent) (hV:MkV nv V V1) (hG:MkE ne G G1) (hn:Ux nv A1 ne=true)
  (ms:List Nat) (k:Nat) (hb:regSTB c.N l ms k V1 A1 G1=true) (hs:Oks P l.toArray ms c V1 A1 G1 0 (l.take k)) (kV:KeepV V1 V2) (kG:KeepE G1 G2) (hK:∀a w,Inv c V2 [] G2 Qf a w→K a w) (hst:ChainK P l.toArray K (l.drop k) K') (hq:∀a w,K' a w→y.wp P Q a w):(Code.seq (Code.region id l.toArray false) y).wp P Q a w:=
 wp_seq (Qbw h nv A1 ne hV hG hn ms k hb hs kV kG hK hst hq)
end
end Wx
