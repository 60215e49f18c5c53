import Derived.Test.YtfnmkhlleanppaaGreatDoorJWB8
import Derived.Deep.AppendSrc
import Derived.Deep.Upon
namespace Wx
open Go Go.RowKit
inductive gg (ne:List aI):List aI->List aI->Prop
 |z:gg ne [] ne
 |k {s:Nat} {p:Pred} {G G1:List aI}:gg ne G G1->gg ne (⟨none,none,s,p⟩::G) (⟨none,none,s,p⟩::G1)
 |t {s:Nat} {p:Pred} {G G1:List aI} (i:Nat):gg ne G G1->gg ne (⟨none,none,s,p⟩::G) (⟨none,some i,s,p⟩::G1)
inductive aj:List aI->List aI->Prop
 |z:aj [] []
 |k {t:Option Nat} {s:Nat} {p:Pred} {G1 G2:List aI}:aj G1 G2->aj (⟨t,none,s,p⟩::G1) (⟨none,none,s,p⟩::G2)
 |d {e:aI} {G1 G2:List aI}:aj G1 G2->aj (e::G1) G2
inductive mI (nv:List Vr):List Vr->List Vr->Prop
 |z:mI nv [] nv
 |k {id s:Nat} {kd:Kd} {T:TypeId} {n:Nat} {ag:Bool} {c0:Rel} {V V1:List Vr}:mI nv V V1->mI nv (⟨id,s,none,none,kd,T,n,ag,c0,[]⟩::V) (⟨id,s,none,none,kd,T,n,ag,c0,[]⟩::V1)
 |u {id s:Nat} {kd:Kd} {T:TypeId} {n:Nat} {ag:Bool} {c0:Rel} {V V1:List Vr} (dead:Option Nat) (st:List (Nat×Rel)):mI nv V V1->mI nv (⟨id,s,none,none,kd,T,n,ag,c0,[]⟩::V) (⟨id,s,none,dead,kd,T,n,ag,c0,st⟩::V1)
inductive lN:List (Nat×Rel)->Rel->Prop
 |o {i:Nat} {c:Rel}:lN [(i,c)] c
 |c {x:Nat×Rel} {l:List (Nat×Rel)} {c:Rel}:lN l c->lN (x::l) c
inductive cR:List Vr->List Vr->Prop
 |z:cR [] []
 |k {id s:Nat} {b:Option Nat} {kd:Kd} {T:TypeId} {n:Nat} {ag:Bool} {c0:Rel} {V1 V2:List Vr}:cR V1 V2->cR (⟨id,s,b,none,kd,T,n,ag,c0,[]⟩::V1) (⟨s,s,none,none,kd,T,n,ag,c0,[]⟩::V2)
 |s {id s:Nat} {b:Option Nat} {kd:Kd} {T:TypeId} {n:Nat} {ag:Bool} {c0 c1:Rel} {st:List (Nat×Rel)} {V1 V2:List Vr}:lN st c1->cR V1 V2->cR (⟨id,s,b,none,kd,T,n,ag,c0,st⟩::V1) (⟨s,s,none,none,kd,T,n,ag,c1,[]⟩::V2)
 |d {x:Vr} {V1 V2:List Vr}:cR V1 V2->cR (x::V1) V2
variable {t0:Option Nat} {s0:Nat} {p0:Pred} {t1:Option Nat} {s1:Nat} {p1:Pred} {X Y:List aI}
theorem aj.kk (h:aj X Y):aj (⟨t0,none,s0,p0⟩::⟨t1,none,s1,p1⟩::X) (⟨none,none,s0,p0⟩::⟨none,none,s1,p1⟩::Y):=.k (.k h)
variable {e0:aI}
theorem aj.dk (h:aj X Y):aj (e0::⟨t1,none,s1,p1⟩::X) (⟨none,none,s1,p1⟩::Y):=.d (.k h)
variable {e1:aI}
theorem aj.dd (h:aj X Y):aj (e0::e1::X) (Y):=.d (.d h)
variable {t2:Option Nat} {s2:Nat} {p2:Pred}
theorem aj.aR (h:aj X Y):aj (⟨t0,none,s0,p0⟩::⟨t1,none,s1,p1⟩::⟨t2,none,s2,p2⟩::X) (⟨none,none,s0,p0⟩::⟨none,none,s1,p1⟩::⟨none,none,s2,p2⟩::Y):=.k (.k (.k h))
theorem aj.lf (h:aj X Y):aj (⟨t0,none,s0,p0⟩::e1::⟨t2,none,s2,p2⟩::X) (⟨none,none,s0,p0⟩::⟨none,none,s2,p2⟩::Y):=.k (.d (.k h))
theorem aj.tC (h:aj X Y):aj (e0::⟨t1,none,s1,p1⟩::⟨t2,none,s2,p2⟩::X) (⟨none,none,s1,p1⟩::⟨none,none,s2,p2⟩::Y):=.d (.k (.k h))
theorem aj.fJ (h:aj X Y):aj (e0::e1::⟨t2,none,s2,p2⟩::X) (⟨none,none,s2,p2⟩::Y):=.d (.d (.k h))
variable {e2:aI}
theorem aj.ES (h:aj X Y):aj (e0::e1::e2::X) (Y):=.d (.d (.d h))
variable {t3:Option Nat} {s3:Nat} {p3:Pred}
theorem aj.ae (h:aj X Y):aj (⟨t0,none,s0,p0⟩::⟨t1,none,s1,p1⟩::⟨t2,none,s2,p2⟩::⟨t3,none,s3,p3⟩::X) (⟨none,none,s0,p0⟩::⟨none,none,s1,p1⟩::⟨none,none,s2,p2⟩::⟨none,none,s3,p3⟩::Y):=.k (.k (.k (.k h)))
variable {e3:aI}
theorem aj.bC (h:aj X Y):aj (⟨t0,none,s0,p0⟩::⟨t1,none,s1,p1⟩::⟨t2,none,s2,p2⟩::e3::X) (⟨none,none,s0,p0⟩::⟨none,none,s1,p1⟩::⟨none,none,s2,p2⟩::Y):=.k (.k (.k (.d h)))
theorem aj.bM (h:aj X Y):aj (⟨t0,none,s0,p0⟩::⟨t1,none,s1,p1⟩::e2::⟨t3,none,s3,p3⟩::X) (⟨none,none,s0,p0⟩::⟨none,none,s1,p1⟩::⟨none,none,s3,p3⟩::Y):=.k (.k (.d (.k h)))
theorem aj.cj (h:aj X Y):aj (⟨t0,none,s0,p0⟩::⟨t1,none,s1,p1⟩::e2::e3::X) (⟨none,none,s0,p0⟩::⟨none,none,s1,p1⟩::Y):=.k (.k (.d (.d h)))
theorem aj.oB (h:aj X Y):aj (⟨t0,none,s0,p0⟩::e1::⟨t2,none,s2,p2⟩::⟨t3,none,s3,p3⟩::X) (⟨none,none,s0,p0⟩::⟨none,none,s2,p2⟩::⟨none,none,s3,p3⟩::Y):=.k (.d (.k (.k h)))
theorem aj.sJ (h:aj X Y):aj (⟨t0,none,s0,p0⟩::e1::⟨t2,none,s2,p2⟩::e3::X) (⟨none,none,s0,p0⟩::⟨none,none,s2,p2⟩::Y):=.k (.d (.k (.d h)))
theorem aj.jK (h:aj X Y):aj (⟨t0,none,s0,p0⟩::e1::e2::⟨t3,none,s3,p3⟩::X) (⟨none,none,s0,p0⟩::⟨none,none,s3,p3⟩::Y):=.k (.d (.d (.k h)))
theorem aj.fg (h:aj X Y):aj (⟨t0,none,s0,p0⟩::e1::e2::e3::X) (⟨none,none,s0,p0⟩::Y):=.k (.d (.d (.d h)))
theorem aj.tV (h:aj X Y):aj (e0::⟨t1,none,s1,p1⟩::⟨t2,none,s2,p2⟩::⟨t3,none,s3,p3⟩::X) (⟨none,none,s1,p1⟩::⟨none,none,s2,p2⟩::⟨none,none,s3,p3⟩::Y):=.d (.k (.k (.k h)))
theorem aj.mQ (h:aj X Y):aj (e0::⟨t1,none,s1,p1⟩::⟨t2,none,s2,p2⟩::e3::X) (⟨none,none,s1,p1⟩::⟨none,none,s2,p2⟩::Y):=.d (.k (.k (.d h)))
theorem aj.zI (h:aj X Y):aj (e0::⟨t1,none,s1,p1⟩::e2::⟨t3,none,s3,p3⟩::X) (⟨none,none,s1,p1⟩::⟨none,none,s3,p3⟩::Y):=.d (.k (.d (.k h)))
theorem aj.qb (h:aj X Y):aj (e0::⟨t1,none,s1,p1⟩::e2::e3::X) (⟨none,none,s1,p1⟩::Y):=.d (.k (.d (.d h)))
theorem aj.sn (h:aj X Y):aj (e0::e1::⟨t2,none,s2,p2⟩::⟨t3,none,s3,p3⟩::X) (⟨none,none,s2,p2⟩::⟨none,none,s3,p3⟩::Y):=.d (.d (.k (.k h)))
theorem aj.sk (h:aj X Y):aj (e0::e1::⟨t2,none,s2,p2⟩::e3::X) (⟨none,none,s2,p2⟩::Y):=.d (.d (.k (.d h)))
theorem aj.cx (h:aj X Y):aj (e0::e1::e2::⟨t3,none,s3,p3⟩::X) (⟨none,none,s3,p3⟩::Y):=.d (.d (.d (.k h)))
theorem aj.bR (h:aj X Y):aj (e0::e1::e2::e3::X) (Y):=.d (.d (.d (.d h)))
variable {s4:Nat} {p4:Pred} {s5:Nat} {p5:Pred} {s6:Nat} {p6:Pred} {s7:Nat} {p7:Pred}
theorem aj.k8 {t4 t5 t6 t7:Option Nat} (h:aj X Y):aj (⟨t0,none,s0,p0⟩::⟨t1,none,s1,p1⟩::⟨t2,none,s2,p2⟩::⟨t3,none,s3,p3⟩::⟨t4,none,s4,p4⟩::⟨t5,none,s5,p5⟩::⟨t6,none,s6,p6⟩::⟨t7,none,s7,p7⟩::X) (⟨none,none,s0,p0⟩::⟨none,none,s1,p1⟩::⟨none,none,s2,p2⟩::⟨none,none,s3,p3⟩::⟨none,none,s4,p4⟩::⟨none,none,s5,p5⟩::⟨none,none,s6,p6⟩::⟨none,none,s7,p7⟩::Y):=.k (.k (.k (.k (.k (.k (.k (.k h)))))))
theorem aj.d8 {e4 e5 e6 e7:aI} (h:aj X Y):aj (e0::e1::e2::e3::e4::e5::e6::e7::X) (Y):=.d (.d (.d (.d (.d (.d (.d (.d h)))))))
variable {ne:List aI}
theorem gg.kk (h:gg ne X Y):gg ne (⟨none,none,s0,p0⟩::⟨none,none,s1,p1⟩::X) (⟨none,none,s0,p0⟩::⟨none,none,s1,p1⟩::Y):=.k (.k h)
theorem gg.aR (h:gg ne X Y):gg ne (⟨none,none,s0,p0⟩::⟨none,none,s1,p1⟩::⟨none,none,s2,p2⟩::X) (⟨none,none,s0,p0⟩::⟨none,none,s1,p1⟩::⟨none,none,s2,p2⟩::Y):=.k (.k (.k h))
theorem gg.ae (h:gg ne X Y):gg ne (⟨none,none,s0,p0⟩::⟨none,none,s1,p1⟩::⟨none,none,s2,p2⟩::⟨none,none,s3,p3⟩::X) (⟨none,none,s0,p0⟩::⟨none,none,s1,p1⟩::⟨none,none,s2,p2⟩::⟨none,none,s3,p3⟩::Y):=.k (.k (.k (.k h)))
theorem gg.k8 (h:gg ne X Y):gg ne (⟨none,none,s0,p0⟩::⟨none,none,s1,p1⟩::⟨none,none,s2,p2⟩::⟨none,none,s3,p3⟩::⟨none,none,s4,p4⟩::⟨none,none,s5,p5⟩::⟨none,none,s6,p6⟩::⟨none,none,s7,p7⟩::X) (⟨none,none,s0,p0⟩::⟨none,none,s1,p1⟩::⟨none,none,s2,p2⟩::⟨none,none,s3,p3⟩::⟨none,none,s4,p4⟩::⟨none,none,s5,p5⟩::⟨none,none,s6,p6⟩::⟨none,none,s7,p7⟩::Y):=.k (.k (.k (.k (.k (.k (.k (.k h)))))))
theorem jB {α:Type} {l r:List α} (h:∀x∈r,x∈l):∃ks,mh ks l=r:=by
 induction r with
 |nil=>exact⟨[],rfl⟩
 |cons x r ih=>
  obtain⟨ks,hk⟩:=ih λy hy=>h y (List.mem_cons_of_mem _ hy)
  obtain⟨i,hi⟩:=List.mem_iff_getElem?.1 (h x (List.mem_cons_self ..))
  exact⟨i::ks,by unfold mh at *; rw[List.filterMap_cons,hi,hk]⟩
variable {G1:List aI}
theorem gg.strip {G:List aI} (h:gg ne G G1) (hn:(ne.all λe=>e.tag.isSome)=true):kU G1=G:=by
 induction h with
 |z=>
  unfold kU
  rw[List.filter_eq_nil_iff.2 λe he=>by
   have:=List.all_eq_true.1 hn e he
   cases ht:e.tag with
   |none=>rw[ht]at this; cases this
   |some i=>simp]
  rfl
 |k _ ih=>
  unfold kU at *
  rw[List.filter_cons_of_pos rfl,List.map_cons,ih]
 |t i _ ih=>
  unfold kU at *
  rw[List.filter_cons_of_pos rfl,List.map_cons,ih]
theorem aj.sub {G2:List aI} (h:aj G1 G2):∀e∈G2,e∈(G1.filter λe=>e.till.isNone).map rJ:=by
 induction h with
 |z=>simp
 |k _ ih=>
  intro e he
  rw[List.filter_cons_of_pos rfl,List.map_cons]
  rcases List.mem_cons.1 he with rfl|he
  ·exact List.mem_cons_self ..
  ·exact List.mem_cons_of_mem _ (ih e he)
 |d _ ih=>
  intro e he
  rw[List.filter_cons]
  split
  ·exact List.mem_cons_of_mem _ (ih e he)
  ·exact ih e he
variable {nv V1:List Vr}
theorem mI.strip {V:List Vr} (h:mI nv V V1) (hn:(nv.all λx=>x.born.isSome)=true):kW V1=V:=by
 induction h with
 |z=>
  unfold kW
  rw[List.filter_eq_nil_iff.2 λe he=>by
   have:=List.all_eq_true.1 hn e he
   cases ht:e.born with
   |none=>rw[ht]at this; cases this
   |some i=>simp]
  rfl
 |k _ ih=>
  unfold kW at *
  rw[List.filter_cons_of_pos rfl,List.map_cons,ih]
  rfl
 |u _ _ _ ih=>
  unfold kW at *
  rw[List.filter_cons_of_pos rfl,List.map_cons,ih]
  rfl
theorem lN.cont {st:List (Nat×Rel)} {c:Rel} (h:lN st c):∀c0,cont (λ_=>true) c0 st=c:=by
 induction h with
 |o=>intro c0; rfl
 |c _ ih=>intro c0; exact ih _
theorem cR.sub {V2:List Vr} (h:cR V1 V2):∀x∈V2,x∈uG V1:=by
 unfold uG
 induction h with
 |z=>simp
 |k _ ih=>
  intro e he
  rw[List.filter_cons_of_pos rfl,List.map_cons]
  rcases List.mem_cons.1 he with rfl|he
  ·exact List.mem_cons_self ..
  ·exact List.mem_cons_of_mem _ (ih e he)
 |s hl _ ih=>
  intro e he
  rw[List.filter_cons_of_pos rfl,List.map_cons]
  rcases List.mem_cons.1 he with rfl|he
  ·refine List.mem_cons.2 (.inl ?_)
   unfold eW
   rw[hl.cont]
  ·exact List.mem_cons_of_mem _ (ih e he)
 |d _ ih=>
  intro e he
  rw[List.filter_cons]
  split
  ·exact List.mem_cons_of_mem _ (ih e he)
  ·exact ih e he
def fL (nv:List Vr) (A1:List Al) (ne:List aI):Bool:=(nv.all λx=>x.born.isSome)&&((A1.all λp=>p.tag.isSome)&&ne.all λe=>e.tag.isSome)
theorem AF {A1:List Al} (h:fL nv A1 ne=true):qF A1=[]:=by
 unfold fL at h
 simp only[Bool.and_eq_true,List.all_eq_true]at h
 unfold qF
 refine List.filter_eq_nil_iff.2 λp hp=>?_
 have:=h.2.1 p hp
 cases ht:p.tag with
 |none=>rw[ht]at this; cases this
 |some i=>simp
def pc (P:Program) (N:Nat) (l:List Oper) (ms:List Nat) (V1:List Vr) (A1:List Al) (G1:List aI):Bool:=P.follows .mixedOrders&&(fR l.toArray&&(lX l==ms&&mC N l V1 A1 G1))
def pe (N:Nat) (l:List Oper) (ms:List Nat) (V1:List Vr) (A1:List Al) (G1:List aI):Bool:=bt l.length==ms&&mC N l V1 A1 G1
def kN (P:Program) (N:Nat) (l:List Oper) (ms:List Nat) (k:Nat) (V1:List Vr) (A1:List Al) (G1:List aI):Bool:=decide (0<k)&&(P.follows .mixedOrders&&(fR l.toArray&&(lX l==ms&&(oH ms k l.length&&(decide (k<=l.length)&&mC N (l.take k) V1 A1 G1)))))
def kO (N:Nat) (l:List Oper) (ms:List Nat) (k:Nat) (V1:List Vr) (A1:List Al) (G1:List aI):Bool:=bt l.length==ms&&(decide (k<=l.length)&&mC N (l.take k) V1 A1 G1)
def gb (P:Program) (ops:Array Oper):(Act->World->Prop)->List Oper->(Act->World->Prop)->Prop
 |K,[],K'=>K=K'
 |K,o::os,K'=>∃K1,(∀a w,K a w->aU P ops o a w K1)/\gb P ops K1 os K'
section
variable {P:Program} {Q:Exit->Act->World->Prop} {c:bJ} {V:List Vr} {G:List aI} {a:Act} {w:World}
theorem iS {ops:Array Oper} {K K2:Nat->Act->World->Prop}:∀{os:List Oper} {m m2:Nat},gh P ops K m os->(∀j,K2 (m2+j)=K (m+j))->gh P ops K2 m2 os
 |[],_,_,_,_=>trivial
 |o::os,m,m2,h,e=>by
  refine⟨λa w hk=>?_,iS h.2 λj=>by rw[Nat.add_assoc,Nat.add_assoc]; exact e (1+j)⟩
  have e0:=e 0
  have e1:=e 1
  rw[Nat.add_zero,Nat.add_zero]at e0
  rw[e0]at hk
  rw[e1]
  exact h.1 a w hk
theorem gb.steps {ops:Array Oper}:∀{os:List Oper} {K K':Act->World->Prop},gb P ops K os K'->∃F:Nat->Act->World->Prop,F 0=K/\F os.length=K'/\gh P ops F 0 os
 |[],K,K',h=>⟨λ_=>K,rfl,h,trivial⟩
 |o::os,K,K',⟨K1,h1,h2⟩=>by
  obtain⟨F,e0,e1,hs⟩:=gb.steps h2
  refine⟨λm=>match m with|0=>K|m+1=>F m,rfl,e1,λa w hk=>?_,iS hs λj=>?_⟩
  ·show aU P ops o a w (F 0)
   rw[e0]
   exact h1 a w hk
  ·rw[show 0+1+j=j+1 by omega,Nat.zero_add]
variable {V1:List Vr} {A1:List Al} {G1:List aI}
theorem eM {V2:List Vr} {G2:List aI} {N:Nat} {l:List Oper} (hwf:mC N l V1 A1 G1=true) (kV:cR V1 V2) (kG:aj G1 G2) {a:Act} {w:World} (hI:Inv c V1 A1 G1 (λ_=>true) a w):Inv c V2 [] G2 none_ a w:=by
 obtain⟨kv,e1⟩:=jB kV.sub
 obtain⟨kg,e2⟩:=jB kG.sub
 exact hI.next kv kg (tv hwf) (xZ hwf) e1 e2
theorem dK {nv:List Vr} {ne:List aI} (h:Inv c V [] G none_ a w) (hV:mI nv V V1) (hG:gg ne G G1) (hn:fL nv A1 ne=true):Inv c V1 A1 G1 none_ a w:=by
 have hn':=hn
 unfold fL at hn'
 simp only[Bool.and_eq_true]at hn'
 exact h.enter (hV.strip hn'.1) (AF hn) (hG.strip hn'.2.2)
end
end Wx

namespace Wx
open Go Go.RowKit
section
variable {P:Program} {ops:Array Oper} {ms:List Nat} {c:bJ} {V:List Vr} {A:List Al} {G:List aI} {i:Nat} {L:Nat->Bool} {β:Nat->Nat->Prop} {a:Act} {w:World} {o:Oper}{d:Nat} {x y z:Operand} {ty:TypeId} {pos:String} {au:Array Edge}
theorem aS.kP (h:aS c V A G L β a w) (hd:gO ms i L) (hwf:fH c.N ops V A G i o) {y:Vr} (hy:y∈V) (Cu:y.born=some i) (hst:cT o.op=false) (wQ:eJ o.op=false) (hal:(A.all λp=>p.var != y.id||p.tag.any λj=>(ms.getD j 0).testBit i)=true)
  {v':Value} {w':World} {B':Nat->Prop} (e0:w'.os=w.os/\w'.tape=w.tape/\w'.output=w.output/\w.heap.size<=w'.heap.size)
  (e1:∀k,k<c.w0.heap.size->¬c.dx k->w'.heap[k]?=w.heap[k]?)
  (e2:∀z,z∈V->live L z=true->z.dead≠some i->∀k,β z.id k->w'.heap[k]?=w.heap[k]?/\¬B' k)
  (e3:Ext (own c V L β) w w') (e4:∀z,z∈V->live L z=true->z.dead≠some i->Ext (minus (own c V L β) (β z.id)) w w')
  (e5:∀k j,k<w.heap.size->B' k->y.lo<=j->own c V L β k j)
  (FV:∀β',β' y.id=B'->(∀k j,k<w.heap.size->own c V (upd L i) β' k j->own c V L β k j)->(∀k j,own c V (upd L i) β' k j->(B' k/\y.lo<=j)\/c.M0 k j\/∃z,z∈V/\live L z=true/\z.dead≠some i/\β z.id k)->ja (own c V (upd L i) β') c (upd L i) β' (a.put o.dst v') w' y)
  (hG:∀β',β' y.id=B'->(∀k j,k<w.heap.size->own c V (upd L i) β' k j->own c V L β k j)->(∀k j,own c V (upd L i) β' k j->(B' k/\y.lo<=j)\/c.M0 k j\/∃z,z∈V/\live L z=true/\z.dead≠some i/\β z.id k)->∀e,e∈G->e.tag=some i->aK (own c V (upd L i) β') (λw=>e.p w v') w'):
  Inv c V A G (upd L i) (a.put o.dst v') w':=by
 have fo:=hwf.v2 y hy Cu
 have nV:∀z,z∈V->z.id≠y.id->z.born≠some i:=λz hz hne hb=>hne (by rw[hwf.vo z y hz hy hb Cu])
 -- who Fa on
 have lv:∀z,z∈V->z.id≠y.id->live (upd L i) z=true->live L z=true/\z.dead≠some i:=by
  intro z hz hne hl
  unfold live at hl ⊢
  rw[bE (nV z hz hne),Bool.and_eq_true]at hl
  obtain⟨h1,h2⟩:=fN hl.2
  exact⟨by rw[hl.1,h1]; rfl,h2⟩
 have nS:∀z,z∈V->z.id≠y.id->z.dead≠some i->o.dst≠some z.slot:=λz hz hne jw hd'=>(hwf.v1 z hz hd').elim (nV z hz hne) jw
 have rL:∀z,z∈V->∀q,q∈z.st->q.1≠i:=λz hz q hq Cn=>by have:=hwf.vs z hz q hq Cn; rw[hst]at this; cases this
 let β':Nat->Nat->Prop:=λs=>if s=y.id then B' else β s
 have hβ:∀z,z∈V->z.id≠y.id->β' z.id=β z.id:=λz _ hne=>if_neg hne
 have Bv:β' y.id=B':=if_pos rfl
 have eD:∀k j,k<w.heap.size->own c V (upd L i) β' k j->own c V L β k j:=by
  rintro k j hk (h1|⟨z,hz,h1,h2,h3⟩)
  ·exact .inl h1
  ·by_cases oA:z.id=y.id
   ·have:=hwf.vu z y hz hy oA
    subst this
    rw[Bv]at h2
    exact e5 k j hk h2 h3
   ·rw[hβ z hz oA]at h2
    exact .inr ⟨z,hz,(lv z hz oA h1).1,h2,h3⟩
 have CO:∀k j,own c V (upd L i) β' k j->(B' k/\y.lo<=j)\/c.M0 k j\/∃z,z∈V/\live L z=true/\z.dead≠some i/\β z.id k:=by
  rintro k j (h1|⟨z,hz,h1,h2,h3⟩)
  ·exact .inr (.inl h1)
  ·by_cases oA:z.id=y.id
   ·have:=hwf.vu z y hz hy oA
    subst this
    rw[Bv]at h2
    exact .inl ⟨h2,h3⟩
   ·rw[hβ z hz oA]at h2
    obtain⟨k1,k2⟩:=lv z hz oA h1
    exact .inr (.inr ⟨z,hz,k1,k2,h2⟩)
 have lift:∀F:World->Prop,aK (own c V L β) F w->aK (own c V (upd L i) β') F w':=λF hF w'' he=>by
  refine hF w'' ⟨Nat.le_trans e0.2.2.2 he.size,λk hk hno=>?_,λk j v hno hv=>?_⟩
  ·rw[he.block k (Nat.lt_of_lt_of_le hk e0.2.2.2) λj h'=>hno j (eD k j hk h')]
   exact e3.block k hk hno
  ·have hk:=World.block_lt_of_cell? w _ hv
   exact he.cell k j v (λh'=>hno (eD k j hk h')) (e3.cell k j v hno hv)
 have uR:∀z,z∈V->live L z=true->z.dead≠some i->∀F:World->Prop,aK (minus (own c V L β) (β z.id)) F w->aK (minus (own c V (upd L i) β') (β z.id)) F w':=λz hz hl jw F hF w'' he=>by
  have e:=e4 z hz hl jw
  refine hF w'' ⟨Nat.le_trans e0.2.2.2 he.size,λk hk hno=>?_,λk j v hno hv=>?_⟩
  ·rw[he.block k (Nat.lt_of_lt_of_le hk e0.2.2.2) λj h'=>hno j ⟨eD k j hk h'.1,h'.2⟩]
   exact e.block k hk hno
  ·have hk:=World.block_lt_of_cell? w _ hv
   exact he.cell k j v (λh'=>hno ⟨eD k j hk h'.1,h'.2⟩) (e.cell k j v hno hv)
 refine⟨β',by rw[ei]; exact h.size,by rw[put_defers]; exact h.defers,⟨e0.1.trans h.below.os,e0.2.1.trans h.below.tape,e0.2.2.1.trans h.below.output,Nat.le_trans h.below.size e0.2.2.2,λk hk hn=>(e1 k hk hn).trans (h.below.block k hk hn)⟩,h.gA e1,?_,?_,?_,?_⟩
 ·intro z hz hl
  by_cases oA:z.id=y.id
  ·have:=hwf.vu z y hz hy oA
   subst this
   exact FV β' Bv eD CO
  ·obtain⟨hl,jw⟩:=lv z hz oA hl
   exact(h.var z hz hl).keep (br (nS z hz oA jw)) (hβ z hz oA) (λg hg=>(e2 z hz hl jw g hg).1) e0.2.2.2 lift (uR z hz hl jw) (fk (rL z hz))
 ·intro z z' g hz yJ h1 h2 hne
  by_cases oA:z.id=y.id
  ·have sG:z'.id≠y.id:=λe=>hne (oA.trans e.symm)
   obtain⟨h2,FZ⟩:=lv z' yJ sG h2
   rw[oA,Bv,hβ z' yJ sG]
   exactλk1 k2=>(e2 z' yJ h2 FZ g k2).2 k1
  ·obtain⟨h1,D3⟩:=lv z hz oA h1
   rw[hβ z hz oA]
   by_cases sG:z'.id=y.id
   ·rw[sG,Bv]
    exactλk1 k2=>(e2 z hz h1 D3 g k1).2 k2
   ·rw[hβ z' yJ sG]
    exact h.apart z z' g hz yJ h1 (lv z' yJ sG h2).1 hne
 ·intro p hp hl hcd
  have tH:p.tag≠some i:=λe=>by have:=hwf.aa p hp e; rw[wQ]at this; cases this
  rw[bE tH]at hl
  obtain⟨g,hg,Eh⟩:=h.al p hp hl hcd
  rw[br λe=>tH (hwf.a1 p hp e),Eh]
  have hne:p.var≠y.id:=by
   intro e
   rw[List.all_eq_true]at hal
   have h1:=hal p hp
   rw[e]at h1
   simp only[bne_self_eq_false,Bool.false_or]at h1
   cases ht:p.tag with
   |none=>rw[ht]at h1; simp at h1
   |some j=>
    rw[ht]at h1 hl
    have:=hd.behind j (by simpa using h1)
    simp only[on,this]at hl
    cases hl
  exact⟨g,by simpa [β',hne] using hg,rfl⟩
 ·intro e he hl hf
  obtain⟨hf,wN⟩:=fN hf
  by_cases ht:e.tag=some i
  ·have hd':=hwf.g2 e he ht
   rw[hd',da (by rw[h.size]; exact hwf.sz _ hd')]
   exact hG β' Bv eD CO e he ht
  ·rw[bE ht]at hl
   rw[br λhd'=>(hwf.g1 e he hd').elim ht wN]
   exact lift _ (h.gK e he hl hf)
end
end Wx
