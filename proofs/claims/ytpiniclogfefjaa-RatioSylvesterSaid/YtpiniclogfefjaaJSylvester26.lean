import Derived.Test.YtpiniclogfefjaaCSylvesterSemObj
import Derived.Laws.Slices
namespace Wx
open Go Go.RowKit

theorem Qd6 {M:Nat→Nat→Prop} {B:Nat→Prop} {w:World} (h:Mid M w):Mid (Jo M B) w:=fun k o hk=>h k o hk.1
section
variable {P:Program} {Q:Exit→Act→World→Prop} {c:Cfg} {V:List Vr} {A:List Al} {G:List Ent} {a:Act} {w:World} {o:Oper}
variable {d:Nat} {x y z u:Operand} {ty:TypeId} {pos:String} {aft:Array Edge}
theorem InvB.obj {β:Nat→Nat→Prop} {id s n0:Nat} {H:List Bk} (h:InvB c V [] G Qf β a w) (hk:V[n0]?=some (Xu id s H)):HpOk (β id) w H∧(∀k,β id k→mine c k)∧∀k j,β id k→own c V Qf β k j:=by
 have hx:=List.mem_of_getElem? hk
 have hO:=(Yk rfl).1 (h.var _ hx rfl)
 exact⟨hO.2.out,fun k hk=>(hO.1 k hk).1,fun k j hk=>.inr ⟨_,hx,rfl,hk,Nat.zero_le _⟩⟩
theorem Qab {β:Nat→Nat→Prop} {id s n0:Nat} {H:List Bk} (h:InvB c V [] G Qf β a w) (hk:V[n0]?=some (Xu id s H)) {F:World→Prop} (hF:Box (own c V Qf β) F w):Box (Jg (Jo (own c V Qf β) (β id)) (β id)) F w:=
 hF.sub fun k j _ h'=>h'.elim (fun h'=>h'.1) fun h'=>(h.obj hk).2.2 k j h'
theorem step_callL {id s n0:Nat} {H H':List Bk} {p:Qj} {f:FuncId} {args:Array Operand} {ts:Array TypeId} {ops:Array Oper} (hf:Y1 P f) (h:Inv c V [] G Qf a w) (hk:V[n0]?=some (Xu id s H)) (hp:Zs p)
  (hc:∀β,InvB c V [] G Qf β a w→Calls P f (args.map a.eval) w (RetL (Jo (own c V Qf β) (β id)) (β id) p H' w)) (hd':decide (d<c.N)=true)
  (hV:(V.all fun y=>(y.slot != d&&(y.id != id||y.slot==s))&&(y.born.isNone&&y.dead.isNone))=true) (hu:(V.filter fun y=>y.id==id).length=1) (hG:(G.all fun e=>e.slot != d)=true):
  DoesG P ops ⟨some d,.call ⟨.value (.func f),args,ts⟩,ty,pos,aft,none⟩ a w (Inv c (V.set n0 (Xu id s H')) [] (⟨none,none,d,p⟩::G) Qf):=by
 obtain⟨β,hI⟩:=h
 refine .of rfl (Qas hf ((hc β hI).mono ?_))
 rintro e w' ⟨v,rfl,h1,h2,h3⟩
 exact⟨v,rfl,hI.lentObj hk h2 h3 hp h1.out (of_decide_eq_true hd') hV hu hG⟩
theorem step_callL2 {id s n0:Nat} {H H':List Bk} {p p1 p2:Qj} {f:FuncId} {ts:Array TypeId} {ops:Array Oper} (hf:Y1 P f) (h:Inv c V [] G Qf a w) (hk:V[n0]?=some (Xu id s H)) (hp:Zs p) (h1:Has [0] G 0 x p1) (h2:Has [0] G 0 y p2)
  (hc:∀M B w v1 v2,Mid M w→(∀k,B k→∀o,¬M k o)→HpOk B w H→Box (Jg M B) (fun w=>p1 w v1) w→Box (Jg M B) (fun w=>p2 w v2) w→Calls P f #[v1,v2] w (RetL M B p H' w)) (hd':decide (d<c.N)=true)
  (hV:(V.all fun y=>(y.slot != d&&(y.id != id||y.slot==s))&&(y.born.isNone&&y.dead.isNone))=true) (hu:(V.filter fun y=>y.id==id).length=1) (hG:(G.all fun e=>e.slot != d)=true):
  DoesG P ops ⟨some d,.call ⟨.value (.func f),#[x,y],ts⟩,ty,pos,aft,none⟩ a w (Inv c (V.set n0 (Xu id s H')) [] (⟨none,none,d,p⟩::G) Qf):=
 step_callL hf h hk hp (fun β hI=>by
  rw[show(#[x,y]:Array Operand).map a.eval=#[a.eval x,a.eval y] by simp]
  exact hc _ _ w _ _ (Qd6 (X8 hI)) (fun k hk o ho=>ho.2 hk) (hI.obj hk).1 (Qab hI hk (h1.spec hI det0)) (Qab hI hk (h2.spec hI det0))) hd' hV hu hG
theorem Qe1 {id s n0:Nat} {H H':List Bk} {p p1 p2 p3:Qj} {f:FuncId} {ts:Array TypeId} {ops:Array Oper} (hf:Y1 P f) (h:Inv c V [] G Qf a w) (hk:V[n0]?=some (Xu id s H)) (hp:Zs p) (h1:Has [0] G 0 x p1) (h2:Has [0] G 0 y p2) (h3:Has [0] G 0 z p3)
  (hc:∀M B w v1 v2 v3,Mid M w→(∀k,B k→∀o,¬M k o)→HpOk B w H→Box (Jg M B) (fun w=>p1 w v1) w→Box (Jg M B) (fun w=>p2 w v2) w→Box (Jg M B) (fun w=>p3 w v3) w→Calls P f #[v1,v2,v3] w (RetL M B p H' w)) (hd':decide (d<c.N)=true)
  (hV:(V.all fun y=>(y.slot != d&&(y.id != id||y.slot==s))&&(y.born.isNone&&y.dead.isNone))=true) (hu:(V.filter fun y=>y.id==id).length=1) (hG:(G.all fun e=>e.slot != d)=true):
  DoesG P ops ⟨some d,.call ⟨.value (.func f),#[x,y,z],ts⟩,ty,pos,aft,none⟩ a w (Inv c (V.set n0 (Xu id s H')) [] (⟨none,none,d,p⟩::G) Qf):=
 step_callL hf h hk hp (fun β hI=>by
  rw[show(#[x,y,z]:Array Operand).map a.eval=#[a.eval x,a.eval y,a.eval z] by simp]
  exact hc _ _ w _ _ _ (Qd6 (X8 hI)) (fun k hk o ho=>ho.2 hk) (hI.obj hk).1 (Qab hI hk (h1.spec hI det0)) (Qab hI hk (h2.spec hI det0)) (Qab hI hk (h3.spec hI det0))) hd' hV hu hG
theorem inv_startL {N id s:Nat} {M:Nat→Nat→Prop} {B:Nat→Prop} {H:List Bk} (hM:Mid M w) (hBM:∀k,B k→∀o,¬M k o) (hH:HpOk B w H) (hN:a.tmps.size=N) (hd:a.defers=[]) (hG:EntsOk (Jg M B) a w G):Inv ⟨N,w,M,B⟩ [Xu id s H] [] G Qf a w:=by
 have eo:∀k o,own ⟨N,w,M,B⟩ [Xu id s H] Qf (fun _=>B) k o→Jg M B k o:=by
  rintro k o (h|⟨x,hx,_,h,_⟩)
  ·exact .inl h
  ·exact .inr h
 have hmid:Mid (own ⟨N,w,M,B⟩ [Xu id s H] Qf (fun _=>B)) w:=fun k o hk=>(eo k o hk).elim (fun h=>hM k o h) fun h=>⟨(hH.noU h).1,fun v hv=>(hH.noU h).2 o v hv⟩
 refine⟨fun _=>B,hN,hd,Lent.refl _ _,(fun k o h=>⟨⟨(hM k o h).1,fun hb=>hBM k hb o h⟩,(hM k o h).2⟩),(fun x hx _=>?_),(fun x y g hx hy _ _ hne=>?_),(fun p hp=>by cases hp),fun e he _ _=>(hG.get e he).2.sub fun k o _ h=>eo k o h⟩
 ·rcases List.mem_singleton.1 hx with rfl
  exact(Yk rfl).2 ⟨fun k hk=>⟨.inr hk,(hH.noU hk).1,fun o v hv=>(hH.noU hk).2 o v hv⟩,hH.box hmid⟩
 ·rcases List.mem_singleton.1 hx with rfl
  rcases List.mem_singleton.1 hy with rfl
  exact absurd rfl hne
theorem Qdz {fn:Func} {f:FuncId} {C:Code} {vs:List Value} {N id s:Nat} {M:Nat→Nat→Prop} {B:Nat→Prop} {H H':List Bk} {p:Qj} (hf:P.funcs[f]?=some fn) (hb:fn.body=some C) (hN:fn.ntmps=N) (hlen:decide (vs.length≤N)=true)
  (hM:Mid M w) (hBM:∀k,B k→∀o,¬M k o) (hH:HpOk B w H) (hG:EntsA (Jg M B) w vs G)
  (h:∀a,Inv ⟨N,w,M,B⟩ [Xu id s H] [] G Qf a w→C.wp P (bodyPost P fn (RetL M B p H' w)) a w):Calls P f vs.toArray w (RetL M B p H' w):=
 calls_of_wp hf hb (h _ (inv_startL hM hBM hH (by have:=of_decide_eq_true hlen; simp[hN]; omega) rfl hG.ok))
variable {fn:Func}
theorem finL {N id s n0:Nat} {w0:World} {M:Nat→Nat→Prop} {B:Nat→Prop} {H H0:List Bk} {β:Nat→Nat→Prop} (hI:InvB ⟨N,w0,M,B⟩ V [] G Qf β a w) (hH0:HpOk B w0 H0) (hk:V[n0]?=some (Xu id s H)) (hb:H.map Bk.b=H0.map Bk.b):HpOk B w H∧Lent B w0 w:=by
 refine⟨?_,hI.below⟩
 obtain⟨h1,h2,h3⟩:=(hI.obj hk).1
 refine⟨fun k=>(hH0.1 k).trans ?_,h2,h3⟩
 have e:∀L:List Bk,(∃e,e∈L∧e.b=k)↔k∈L.map Bk.b:=fun L=>by rw[List.mem_map]
 rw[e,e,hb]
theorem finL0 {N id s n0:Nat} {w0:World} {M:Nat→Nat→Prop} {B:Nat→Prop} {H H0:List Bk} (hI:Inv ⟨N,w0,M,B⟩ V [] G Qf a w) (hr:fn.results=#[]) (hH0:HpOk B w0 H0) (hk:V[n0]?=some (Xu id s H)) (hb:H.map Bk.b=H0.map Bk.b):bodyPost P fn (RetL M B (Qe (.tuple #[])) H w0) .ret a w:=by
 obtain⟨β,hI⟩:=hI
 obtain⟨h1,h2⟩:=finL hI hH0 hk hb
 exact Ke hI (results_none hr _ _ _) ⟨_,rfl,fun _ _=>rfl,h2,h1⟩
theorem finL2 {N id s n0:Nat} {w0:World} {M:Nat→Nat→Prop} {B:Nat→Prop} {H H0:List Bk} {r1 r2:ResultVar} {p q:Qj} (hI:Inv ⟨N,w0,M,B⟩ V [] G Qf a w) (hr:fn.results=#[r1,r2]) (hH0:HpOk B w0 H0) (hk:V[n0]?=some (Xu id s H)) (hb:H.map Bk.b=H0.map Bk.b) (h1:ResOk P V G r1 p) (h2:ResOk P V G r2 q):bodyPost P fn (RetL M B (Zd p q) H w0) .ret a w:=by
 obtain⟨β,hI⟩:=hI
 obtain⟨k1,k2⟩:=finL hI hH0 hk hb
 obtain⟨v1,j1,b1⟩:=h1.run hI
 obtain⟨v2,j2,b2⟩:=h2.run hI
 refine Ke hI (v:=.tuple #[v1,v2]) ?_ ⟨_,rfl,fun w' he=>⟨v1,v2,rfl,Vj b1 w' he,Vj b2 w' he⟩,k2,k1⟩
 rw[Jy,hr]
 simp[j1,j2,Sem.run_bind]
theorem finO1 {Λ:Type} {C:Λ→Prop} {hd:Λ→Value} {Hl:Λ→List Bk} {N id s n0:Nat} {w0:World} {M:Nat→Nat→Prop} {r:ResultVar} (l:Λ) (hC:C l) (hI:Inv ⟨N,w0,M,fun _=>False⟩ V [] G Qf a w) (hr:fn.results=#[r]) (hk:V[n0]?=some (Xu id s (Hl l))) (h:ResOk P V G r (Qe (hd l))):bodyPost P fn (RetO C hd Hl w0) .ret a w:=by
 obtain⟨β,hI⟩:=hI
 obtain⟨v,k1,k2⟩:=h.run hI
 have e:v=hd l:=k2.out
 obtain⟨h1,h2,_⟩:=hI.obj hk
 refine Ke hI (v:=v) ?_ ⟨l,β id,hC,by rw[e],hI.below.below (fun _ h=>h),fun k hk'=>(h2 k hk').elim (fun h=>h) (fun h=>h.elim),h1⟩
 rw[Jy,hr]
 simp[k1]
theorem obj_rest {N id s n0:Nat} {w0:World} {M:Nat→Nat→Prop} {H:List Bk} {F:World→Prop} {β:Nat→Nat→Prop} (hI:InvB ⟨N,w0,M,fun _=>False⟩ V [] G Qf β a w) (hk:V[n0]?=some (Xu id s H)) (hF:∀B w,HpOk B w H→F w):Box M F w:=by
 obtain⟨h1,h2,h3⟩:=hI.obj hk
 refine((h1.box (X8 hI)).imp fun w h=>hF _ w h).sub fun k j hk' hm=>⟨.inl hm,fun hb=>?_⟩
 have:=(hI.old k j hm).1.1
 exact(h2 k hb).elim (fun h=>by have h:w0.heap.size≤k:=h; have:k<w0.heap.size:=this; omega) (fun h=>h.elim)
end
end Wx

namespace Wx
open Go Go.RowKit

section
variable {P:Program} {Q:Exit→Act→World→Prop} {c:Cfg} {V:List Vr} {A:List Al} {G:List Ent} {a:Act} {w:World}
end
def Zl (q:Rat):It:=⟨Qk q,Xr q⟩
def Z2 (v:Value):It:=⟨Qe v,Xt v⟩
def itAny:It:=⟨Zb,numlike_any⟩
def Qw (l:List Rat) (p:Nat):List It:=l.map Zl++List.replicate (p-l.length) itAny
theorem X5 {l:List Rat} {p k:Nat} (h:k<l.length):(Qw l p)[k]?=some (Zl (l.getD k 0)):=by
 unfold Qw
 rw[List.getElem?_append_left (by rw[List.length_map]; exact h),List.getElem?_map,List.getD_eq_getElem?_getD,List.getElem?_eq_getElem h]
 rfl
theorem Vc (l:List Rat) (p:Nat):(Qw l p).length=max l.length p:=by
 unfold Qw
 rw[List.length_append,List.length_map,List.length_replicate]
 omega
theorem Vd {l:List Rat} {p k:Nat} (h:k<l.length):k<(Qw l p).length:=by rw[Vc]; omega
theorem Ve {l:List Rat} {p k:Nat} {q:Rat} (h:k<l.length):(Qw l p).set k (Zl q)=Qw (l.set k q) p:=by
 unfold Qw
 rw[List.set_append_left _ _ (by rw[List.length_map]; exact h),List.map_set,List.length_set]
theorem Qee {l:List Rat} {p i:Nat} {it:It} (h:l.length≤i) (hi:(Qw l p)[i]?=some it):it=itAny:=by
 unfold Qw at hi
 rw[List.getElem?_append_right (by rw[List.length_map]; exact h)]at hi
 exact List.eq_of_mem_replicate (List.mem_of_getElem? hi)
def Y0 (H:List Bk) (b:Nat) (X:List It):List Bk:=H.map fun e=>if e.b=b then { e with items:=X }else e
theorem hup_b (H:List Bk) (b:Nat) (X:List It):(Y0 H b X).map Bk.b=H.map Bk.b:=by
 unfold Y0
 rw[List.map_map]
 apply List.map_congr_left
 intro e _
 show(if e.b=b then { e with items:=X }else e).b=e.b
 split<;>rfl
theorem U7 {H:List Bk} {b:Nat} {X:List It} {e:Bk} (he:e∈H) (hb:e.b=b):({ e with items:=X }:Bk)∈Y0 H b X:=List.mem_map.2 ⟨e,he,if_pos hb⟩
theorem K7 {H:List Bk} {b:Nat} {X:List It} {e:Bk} (he:e∈H) (hb:e.b≠b):e∈Y0 H b X:=List.mem_map.2 ⟨e,he,if_neg hb⟩
theorem Kv (H:List Bk) (b:Nat) (X:List It) (idx:Nat) (it:It):Xs (Y0 H b X) b idx it=Y0 H b (X.set idx it):=by
 unfold Xs Y0
 rw[List.map_map]
 apply List.map_congr_left
 intro e _
 show(if e.b=b then { e with items:=X }else e).put b idx it=_
 by_cases h:e.b=b
 ·rw[if_pos h,if_pos h]
  exact if_pos h
 ·rw[if_neg h,if_neg h]
  exact if_neg h
theorem hup_hup (H:List Bk) (b:Nat) (X Y:List It):Y0 (Y0 H b X) b Y=Y0 H b Y:=by
 unfold Y0
 rw[List.map_map]
 apply List.map_congr_left
 intro e _
 show(if(if e.b=b then { e with items:=X }else e).b=b then { (if e.b=b then { e with items:=X }else e)with items:=Y }else(if e.b=b then { e with items:=X }else e))=if e.b=b then { e with items:=Y }else e
 by_cases h:e.b=b
 ·simp[h]
 ·simp[h]
theorem Kw {H:List Bk} {b:Nat} {X:List It} (hu:∀e,e∈H→e.b=b→e.items=X):Y0 H b X=H:=by
 unfold Y0
 have:(fun e:Bk=>if e.b=b then { e with items:=X }else e)=fun e=>if e.b=b then { e with items:=X }else e:=rfl
 conv=>rhs; rw[← List.map_id H]
 apply List.map_congr_left
 intro e he
 show(if e.b=b then { e with items:=X }else e)=e
 split
 ·rename_i h
  rw[← hu e he h]
 ·rfl
end Wx

namespace Wx
open Go Go.RowKit

def Uz (f:FuncId) (sz:Nat) (agg:Bool) (q:Qj):Qj:=fun w v=>∃u,v=.func (.func f) #[] #[u]∧Zc sz agg q w u
section
variable {P:Program} {ops:Array Oper} {ms:List Nat} {c:Cfg} {V:List Vr} {A:List Al} {G:List Ent} {i:Nat} {L:Nat→Bool} {β:Nat→Nat→Prop} {a:Act} {w:World} {o:Oper}
variable {d:Nat} {x y z:Operand} {ty:TypeId} {pos:String} {aft:Array Edge}
theorem op_sliceLo {T E:TypeId} {sz b o' n cap:Nat} {m:Int} (h:Has ms G i x (Qe (.slice (some ⟨b,o',none⟩) n cap))) (hy:Has ms G i y (pI m)) (ht:SlTy P T E sz) (h0:0≤m) (h1:m≤n) (h2:m<cap)
  (hp:Post G i (Qe (.slice (some ⟨b,o'+m.toNat*sz,none⟩) (n-m.toNat) (cap-m.toNat)))):Xf P ops ms c V A G i ⟨some d,.slice T x (some y) none none,ty,pos,aft,none⟩:=
 J5 rfl rfl rfl (.inl rfl) hp fun L β a w hI hd=>by
  have hx:a.eval x=.slice (some ⟨b,o',none⟩) n cap:=(h.spec hI hd).out
  have hi:a.eval y=.int .i64 m:=(hy.spec hI hd).out
  refine⟨_,w,?_,Below.refl _ _,fun _ _=>rfl⟩
  show(do pure (Next.value (← Instr.sliceAt T (a.eval x) (some (a.eval y)) none none))).run P w=_
  rw[hx,hi]
  have hr:(Instr.sliceAt T (.slice (some ⟨b,o',none⟩) n cap) (some (.int .i64 m)) none none).run P w=.ok (.slice (some ⟨b,o'+m.toNat*sz,none⟩) (n-m.toNat) (cap-m.toNat)) w:=by
   have e1:(Instr.sliceBound (.int .i64 m) n .sliceB).run P w=.ok m.toNat w:=run_sliceBound w .i64 m n .sliceB h0 h1
   have hne:¬cap=m.toNat:=by omega
   simp only[Instr.sliceAt,Sem.run_bind,run_underlying ht.under,Result.andThen_ok,Instr.slice,Instr.sliceBounds,Sem.run_pure]
   simp only[Option.isSome_none,Bool.false_eq_true,if_false,e1,Result.andThen_ok,ht.size w,hne,Option.map_some,Addr.add_mid]
  rw[Sem.run_bind,hr]
  rfl
theorem Qea {f:FuncId} {v:Value} (h:Has ms G i x (Qe v)) (hp:Post G i (Qe (.func (.func f) #[] #[v]))):Xf P ops ms c V A G i ⟨some d,.makeFunc (.func f) #[] #[x],ty,pos,aft,none⟩:=
 Qaa rfl rfl rfl rfl h hp fun ρ w h=>⟨.func (.func f) #[] #[v],by
  have h:ρ x=v:=h
  show(do pure (Next.value (← Instr.makeFunc (.func f) ((#[]:Array Operand).map ρ) ((#[x]:Array Operand).map ρ)))).run P w=_
  rw[show(#[x]:Array Operand).map ρ=#[ρ x] by simp,show(#[]:Array Operand).map ρ=#[] by simp,h]
  rfl,fun _ _=>rfl⟩
theorem op_callc1 {f:FuncId} {fx:Operand} {ts:Array TypeId} {sz:Nat} {agg:Bool} {p q p1:Qj} (hf:Y1 P f) (hx:Has ms G i fx (Uz f sz agg q)) (h1:Has ms G i x p1) (hp:Post G i p)
  (hc:∀(M:Nat→Nat→Prop) (w:World) (v1 v2:Value),Mid M w→Box M (fun w=>p1 w v1) w→Box M (fun w=>Zc sz agg q w v2) w→Calls P f #[v1,v2] w (RetB M p w)):Xf P ops ms c V A G i ⟨some d,.call ⟨.value fx,#[x],ts⟩,ty,pos,aft,none⟩:=by
 refine J9 (fun L β a w hI hd hwf=>?_) rfl
 have hb:=hx.spec hI hd
 obtain⟨u,hfv,_⟩:=hb.out
 have hu:Box (own c V L β) (fun w=>Zc sz agg q w u) w:=fun w' he=>by
  obtain⟨u',e,h⟩:=hb w' he
  rw[hfv]at e
  injection e with _ _ e
  have:u=u':=by simpa using e
  rw[this]
  exact h
 have hr:(execOp a.eval ⟨some d,.call ⟨.value fx,#[x],ts⟩,ty,pos,aft,none⟩).run P w=.ok (.enter f #[a.eval x,u]) w:=by
  have:=hf #[a.eval x,u] w
  simp only[execOp,resolve,hfv,Deferred.ofValue,pure_bind,invoke]
  rw[show(#[x]:Array Operand).map a.eval=#[a.eval x] by simp]
  first|exact this|simpa using this
 unfold Does
 rw[hr]
 refine(hc _ w _ _ (X8 hI) (h1.spec hI hd) hu).mono ?_
 rintro e w' ⟨v,rfl,hv,hb⟩
 exact⟨v,rfl,β,hI.value hwf (nb_of hwf rfl) rfl hb (fun d q _ hq hqt _=>by have:=hwf.aa q hq hqt; cases this) fun e he ht=>hv.imp fun w=>hp.spec hwf he ht w v⟩
theorem Inv.openPtr (h:Inv c V A G Qf a w) (k:Nat) {x:Vr} (hk:V[k]?=some x) (hb:live Qf x=true) (hkd:x.kd=.ptr):∃g,Inv c V A (⟨none,none,x.slot,Qe (.pointer (some ⟨g,0,none⟩))⟩::G) Qf a w:=by
 obtain⟨β,h⟩:=h
 obtain⟨g,_,h2,_⟩:=(Y8 (by rw[hkd]; rfl)).1 (h.var x (List.mem_of_getElem? hk) hb)
 refine⟨g,β,h.size,h.defers,h.below,h.old,h.var,h.apart,h.al,fun e he ho hf=>?_⟩
 rcases List.mem_cons.1 he with rfl|he
 ·refine fun w' _=>?_
  show sl a x.slot=_
  rw[h2,hkd]
  rfl
 ·exact h.ent e he ho hf
theorem op_callRO {f:FuncId} {ts:Array TypeId} {v1 v2:Vr} {H:List Bk} {g:Nat} {cf:FuncId} {p p0 p1 q:Qj} (hf:Y1 P f) (k1:Nat) (hk1:V[k1]?=some v1) (ho1:Zm ms i v1=true) (hkd1:v1.kd=.obj) (hst1:(v1.st.all fun q=>(q.1==i||(ms.getD i 0).testBit q.1)||(ms.getD q.1 0).testBit i)=true)
  (hc1:cont (fun j=>(ms.getD i 0).testBit j) v1.c0 v1.st=Zj H) (k2:Nat) (hk2:V[k2]?=some v2) (ho2:Zm ms i v2=true) (hkd2:v2.kd=.ptr) (hst2:(v2.st.all fun q=>(ms.getD i 0).testBit q.1||(ms.getD q.1 0).testBit i)=true) (hc2:cont (fun j=>(ms.getD i 0).testBit j) v2.c0 v2.st=pv q)
  (hg:Has ms G i (.tmp v2.slot) (Qe (.pointer (some ⟨g,0,none⟩)))) (h1:Has ms G i x p0) (h2:Has ms G i y (Qe (.func (.func cf) #[] #[.pointer (some ⟨g,0,none⟩)]))) (hn:Zs p) (hp:Post G i p) (hr:∀B w v,HpOk B w H→p0 w v→p1 w v)
  (hc:∀(M:Nat→Nat→Prop) (w:World) (u1 u2:Value),Mid M w→Box M (fun w=>p1 w u1) w→Box M (fun w=>Uz cf v2.n v2.agg q w u2) w→Calls P f #[u1,u2] w (RetB M p w)):
  Xf P ops ms c V A G i ⟨some d,.call ⟨.value (.func f),#[x,y],ts⟩,ty,pos,aft,none⟩:=
 Vp hf hp fun L β a w hI hd=>(by
  rw[show(#[x,y]:Array Operand).map a.eval=#[a.eval x,a.eval y] by simp]
  have hO:=obj_at hI hd (List.mem_of_getElem? hk1) ho1 hkd1
  have hH:HpOk (β v1.id) w H:=by
   have:=hO.2.out
   rw[Qbh hd hst1,hc1]at this
   exact this
  obtain⟨g',hg',hs',hv⟩:=Qbc hI hd (List.mem_of_getElem? hk2) ho2 hkd2
  have e1:sl a v2.slot=.pointer (some ⟨g,0,none⟩):=(hg.spec hI hd).out
  rw[hs']at e1
  injection e1 with e1
  injection e1 with e1
  injection e1 with e1
  subst e1
  obtain⟨cs,j1,j2,j3,j4⟩:=hv.held
  rw[Qcr hd hst2,hc2]at j4
  have j4:Box (own c V L β) (fun w=>q w (Q6 v2.agg cs)) w:=j4
  have hy:a.eval y=.func (.func cf) #[] #[.pointer (some ⟨g',0,none⟩)]:=(h2.spec hI hd).out
  let M:=Jo (own c V L β) fun k=>β v1.id k∨k=g'
  have hM:Mid M w:=fun k o hk=>X8 hI k o hk.1
  have hsub:∀{w'},Ext M w w'→Ext (own c V L β) w w':=fun he=>he.mono' fun k o hk=>hk.1
  refine(hc M w _ _ hM (fun w' he=>?_) (fun w' he=>?_)).mono fun e w' hret=>?_
  ·refine hr (β v1.id) w' _ (hH.keep (X8 hI) (hsub he) fun e hm=>he.block e.b (Bk.ok_lt (hH.2.2 e hm)) fun o ho=>ho.2 (.inl ((hH.1 _).2 ⟨e,hm,rfl⟩))) (h1.spec hI hd w' (hsub he))
  ·refine⟨.pointer (some ⟨g',0,none⟩),hy,g',0,cs,rfl,j2,fun j u hj=>?_,j4 w' (hsub he)⟩
   rw[Nat.zero_add]
   refine he.cell g' j u (fun ho=>ho.2 (.inr rfl)) ?_
   simp only[World.cell?,j1]
   simpa using hj
  ·obtain⟨v,rfl,hv1,hv2⟩:=hret
   exact⟨v,rfl,hn _ w' v ((X8 hI).below hv2) hv1.out,hv2⟩)
end
def Z1 (p:Nat→Bool) (n:Nat):Int:=match (List.range n).find? p with
 |some i=>(i:Int)
 |none => -1
theorem firstI_yes {p:Nat→Bool} {n k:Nat} (hk:k<n) (h:p k=true) (hn:∀j,j<k→p j=false):Z1 p n=(k:Int):=by
 unfold Z1
 have:(List.range n).find? p=some k:=by
  rw[List.find?_range_eq_some]
  exact⟨h,by simpa using hk,fun j hj=>by simp[hn j hj]⟩
 rw[this]
theorem Qd3 {p:Nat→Bool} {n:Nat} (hn:∀j,j<n→p j=false):Z1 p n = -1:=by
 unfold Z1
 have:(List.range n).find? p=none:=by
  rw[List.find?_eq_none]
  intro j hj
  rw[hn j (by simpa using hj)]
  exact Bool.false_ne_true
 rw[this]
end Wx

namespace Wx
open Go Go.RowKit

theorem pHp_eq {H H':List Bk} {B:Nat→Prop} (h:H=H'):∀w v,Zj H B w v→Zj H' B w v:=fun _ _ k=>h▸k
theorem Qd4 {B:Nat→Prop} {w:World} {H:List Bk} (hH:HpOk B w H) {e x:Bk} (he:e∈H) (hx:x∈H) (hb:e.b=x.b):e.items=x.items:=by rw[Qeb hH.2.1 he hx hb]
theorem J8 (A:Option Addr) (n cap:Nat):Jn 1 false (Qe (.slice A n cap)):=fits_eq (Kp _ _ _) rfl rfl
def Xz (L1:List Rat) (s1:Nat) (L2:List Rat) (s2:Nat) (f:Rat) (k:Nat):List Rat:=L1.mapIdx fun i x=>if s1≤i∧i<s1+k then x-f*L2.getD (s2+(i-s1)) 0 else x
section
variable {L1 L2:List Rat} {s1 s2 k:Nat} {f:Rat}
theorem J1:(Xz L1 s1 L2 s2 f k).length=L1.length:=by unfold Xz; exact List.length_mapIdx
theorem redAt_zero:Xz L1 s1 L2 s2 f 0=L1:=by
 unfold Xz
 apply List.ext_getElem?
 intro i
 rw[List.getElem?_mapIdx]
 cases h:L1[i]? with
 |none=>rfl
 |some x=>
  show some (if s1≤i∧i<s1+0 then _ else x)=some x
  rw[if_neg (by omega)]
theorem redAt_getD {i:Nat} (hi:s1+k≤i):(Xz L1 s1 L2 s2 f k).getD i 0=L1.getD i 0:=by
 unfold Xz
 rw[List.getD_eq_getElem?_getD,List.getD_eq_getElem?_getD,List.getElem?_mapIdx]
 cases h:L1[i]? with
 |none=>rfl
 |some x=>
  show(some (if s1≤i∧i<s1+k then _ else x)).getD 0=(some x).getD 0
  rw[if_neg (by omega)]
theorem redAt_item {p:Nat} (h:s1+k<L1.length):(Qw (Xz L1 s1 L2 s2 f k) p)[s1+k]?=some (Zl (L1.getD (s1+k) 0)):=by
 rw[X5 (by rw[J1]; exact h),redAt_getD (Nat.le_refl _)]
theorem redAt_step (h:s1+k<L1.length):(Xz L1 s1 L2 s2 f k).set (s1+k) (L1.getD (s1+k) 0-f*L2.getD (s2+k) 0)=Xz L1 s1 L2 s2 f (k+1):=by
 unfold Xz
 apply List.ext_getElem?
 intro i
 by_cases hi:i=s1+k
 ·subst hi
  rw[List.getElem?_set_self (by rw[List.length_mapIdx]; exact h),List.getElem?_mapIdx,List.getD_eq_getElem?_getD,List.getElem?_eq_getElem h]
  show some (L1[s1+k]-f*L2.getD (s2+k) 0)=some (if s1≤s1+k∧s1+k<s1+(k+1)then L1[s1+k]-f*L2.getD (s2+(s1+k-s1)) 0 else L1[s1+k])
  rw[if_pos (by omega),show s1+k-s1=k by omega]
 ·rw[List.getElem?_set_ne (Ne.symm hi),List.getElem?_mapIdx,List.getElem?_mapIdx]
  cases h:L1[i]? with
  |none=>rfl
  |some x=>
   show some (if s1≤i∧i<s1+k then _ else x)=some (if s1≤i∧i<s1+(k+1)then _ else x)
   by_cases hb:s1≤i∧i<s1+k
   ·rw[if_pos hb,if_pos (by omega)]
   ·rw[if_neg hb,if_neg (by omega)]
end
theorem bd_getD {l:List Rat} {j:Nat} (h:∀x,x∈l→BdR j x) {k:Nat} (hk:k<l.length):BdR j (l.getD k 0):=by
 rw[List.getD_eq_getElem?_getD,List.getElem?_eq_getElem hk]
 exact h _ (List.getElem_mem hk)
end Wx
